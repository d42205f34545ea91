/- law35: AmsendBytes' loop in memory. -/
import Derived.Test.YtmiipkaobloedaaGreatYCk
import Derived.Test.YtmiipkaobloedaaGreatYCo
import Derived.Test.YtmiipkaobloedaaGreatYFa
namespace Go.Proofs.YtmiipkaobloedaaGreat
open Go.RowKit Go.Shelf
theorem own_keep {w w' : World} {base : Nat} {e : TypeId} {size n : Nat} {v : Value} {xs : List Value} (h : w.ownsRow base e size v n xs) (hk : ∀ k, v.ownBlock = some k → w'.heap[k]? = w.heap[k]?) : w'.ownsRow base e size v n xs := by
  rcases h.2 with ⟨rfl, h0⟩ | ⟨g', cap, cur, rfl, h1, h2, h3⟩
  · exact ⟨h.1, .inl ⟨rfl, h0⟩⟩
  · exact ⟨h.1, .inr ⟨g', cap, cur, rfl, h1, (hk g' rfl).trans h2, h3⟩⟩
theorem own_in {w : World} {base : Nat} {e : TypeId} {size n k : Nat} {v : Value} {xs : List Value} (h : w.ownsRow base e size v n xs) (hk : v.ownBlock = some k) : base ≤ k ∧ k < w.heap.size := by
  rcases h.2 with ⟨rfl, _⟩ | ⟨g', cap, cur, rfl, h1, h2, _⟩
  · simp [Value.ownBlock] at hk
  · have : g' = k := by simpa [Value.ownBlock] using hk
    subst this
    exact ⟨h1, lt_of_heap h2⟩
section
variable {w W W' : World} {N N' : Nat → Prop} {cf : Cf} {g K K' : Nat} {st st' : Sd} {acc : List (List UInt8)} {a next a' next' : Nat} {iv ev : Value}
/-- a row beside the transmitter grows -/
theorem T35.row (h : T35 w N cf g st K W) {row : Option Nat} (hg : W.grownBy W' row) (hr : ∀ r, row = some r → N r ∧ w.heap.size ≤ r) (hn : ∀ k, N' k → N k ∨ (W.heap.size ≤ k ∧ k < W'.heap.size)) : T35 w N' cf g st K W' := by
  obtain ⟨F, h1, h2, h3⟩ := h.am
  refine ⟨⟨F, h1.stay fun k hk => hg.block k (h1.lt k hk) (fun e => h3 k (hr k e.symm).1 hk), h2, fun k hk hf => ?_⟩, h.ok, h.bel.grown hg h.bel.size (fun r e => (hr r e).2), fun k hk => ?_⟩
  · rcases hn k hk with e | e
    · exact h3 k e hf
    · have := h1.lt k hf; omega
  · rcases hn k hk with e | e
    · exact Nat.lt_of_lt_of_le (h.nlt k e) hg.size
    · exact e.2
theorem T35.less (h : T35 w N cf g st K W) (hn : ∀ k, N' k → N k) : T35 w N' cf g st K W := by
  obtain ⟨F, h1, h2, h3⟩ := h.am
  exact ⟨⟨F, h1, h2, fun k hk => h3 k (hn k hk)⟩, h.ok, h.bel, fun k hk => h.nlt k (hn k hk)⟩
theorem to_less (h : TO w N cf g st' K' W W') (hn : ∀ k, N' k → N k) : TO w N' cf g st' K' W W' :=
  ⟨h.1.less hn, fun k hk => h.2.1 k (hn k hk), h.2.2⟩
/-- the blocks of the law's own rows -/
def rowsN (iv ev : Value) : Nat → Prop := fun k => iv.ownBlock = some k ∨ ev.ownBlock = some k
/-- what the law's loop keeps -/
structure BytM (w : World) (cf : Cf) (g K : Nat) (st : Sd) (acc : List (List UInt8)) (a next : Nat) (iv ev : Value) (W : World) : Prop where
  t : T35 w (rowsN iv ev) cf g st (3 * K) W
  b : Byt st acc a next
  i : W.ownsRow w.heap.size 5 1 iv acc.flatten.length (bvs acc.flatten)
  e : W.ownsRow w.heap.size 3 1 ev (endsL acc).length (natV (endsL acc))
  m : acc.length ≤ K
  z : acc.flatten.length ≤ 10000 * K
theorem BytM.more (h : BytM w cf g K st acc a next iv ev W) (hb : Below W.heap.size W W') : BytM w cf g K st acc a next iv ev W' :=
  ⟨h.t.more hb, h.b, own_below h.i hb (Nat.le_refl _), own_below h.e hb (Nat.le_refl _), h.m, h.z⟩
theorem BytM.step (h : BytM w cf g K st acc a next iv ev W) (hO : TO w (rowsN iv ev) cf g st' (3 * K + 3) W W') (hB : Byt st' acc a' next') : BytM w cf g (K + 1) st' acc a' next' iv ev W' :=
  ⟨t35_mono hO.1 (by omega), hB, own_keep h.i fun k hk => hO.2.1 k (.inl hk), own_keep h.e fun k hk => hO.2.1 k (.inr hk), by have := h.m; omega, by have := h.z; omega⟩
theorem BytM.stepS (h : BytM w cf g K st acc a next iv ev W) (hO : TO w (rowsN iv ev) cf g st' (3 * K) W W') (hB : Byt st' acc a' next') : BytM w cf g (K + 1) st' acc a' next' iv ev W' :=
  h.step ⟨t35_mono hO.1 (by omega), hO.2⟩ hB
/-- the SDU's bytes are noted -/
structure BytH (w : World) (cf : Cf) (g K : Nat) (st : Sd) (acc : List (List UInt8)) (x : List UInt8) (iv ev : Value) (W : World) : Prop where
  t : T35 w (rowsN iv ev) cf g st (3 * K) W
  i : W.ownsRow w.heap.size 5 1 iv (acc ++ [x]).flatten.length (bvs (acc ++ [x]).flatten)
  e : W.ownsRow w.heap.size 3 1 ev (endsL acc).length (natV (endsL acc))
theorem BytM.half (h : BytM w cf g K st acc a next iv ev W) (hO : TO w (rowsN iv ev) cf g st' (3 * K) W W') {x : List UInt8} {iv' : Value} {W2 : World}
    (hi : W2.ownsRow w.heap.size 5 1 iv' (acc.flatten.length + x.length) (bvs acc.flatten ++ bvs x)) (hg : W'.grownBy W2 iv.ownBlock) (hc : iv'.ownBlock = iv.ownBlock ∨ iv'.ownBlock = some W'.heap.size) : BytH w cf g K st' acc x iv' ev W2 := by
  have hi' := own_keep h.i fun k hk => hO.2.1 k (.inl hk)
  have he' := own_keep h.e fun k hk => hO.2.1 k (.inr hk)
  refine ⟨hO.1.row hg (fun r e => ⟨.inl e, (own_in hi' e).1⟩) fun k hk => ?_, ?_, own_other he' hi' (by decide) hg⟩
  · rcases hk with e | e
    · rcases hc with e2 | e2
      · exact .inl (.inl (by rw [← e2]; exact e))
      · rw [e2] at e
        injection e with e
        have := (own_in hi (by rw [e2, e])).2
        exact .inr ⟨by omega, this⟩
    · exact .inl (.inr e)
  · have e1 : (acc ++ [x]).flatten = acc.flatten ++ x := by simp
    rw [e1, List.length_append]
    simpa [bvs] using hi
theorem BytH.more {x : List UInt8} (h : BytH w cf g K st acc x iv ev W) (hb : Below W.heap.size W W') : BytH w cf g K st acc x iv ev W' :=
  ⟨h.t.more hb, own_below h.i hb (Nat.le_refl _), own_below h.e hb (Nat.le_refl _)⟩
/-- and where it ends -/
theorem BytH.whole {x : List UInt8} {ev' : Value} (h : BytH w cf g K st acc x iv ev W) (hB : Byt st (acc ++ [x]) a next) (hm : acc.length ≤ K) (hz : acc.flatten.length ≤ 10000 * K) (hx : x.length ≤ 10000)
    (he : W'.ownsRow w.heap.size 3 1 ev' ((endsL acc).length + 1) (natV (endsL acc) ++ [.int .i64 ((acc ++ [x]).flatten.length : Nat)])) (hg : W.grownBy W' ev.ownBlock) (hc : ev'.ownBlock = ev.ownBlock ∨ ev'.ownBlock = some W.heap.size) :
    BytM w cf g (K + 1) st (acc ++ [x]) a next iv ev' W' := by
  have e1 : (acc ++ [x]).flatten = acc.flatten ++ x := by simp
  refine ⟨t35_mono (h.t.row hg (fun r e => ⟨.inr e, (own_in h.e e).1⟩) fun k hk => ?_) (by omega), hB, own_other h.i h.e (by decide) hg, ?_, by simp; omega, by rw [e1, List.length_append]; omega⟩
  · rcases hk with e | e
    · exact .inl (.inl e)
    · rcases hc with e2 | e2
      · exact .inl (.inr (by rw [← e2]; exact e))
      · rw [e2] at e
        injection e with e
        have := (own_in he (by rw [e2, e])).2
        exact .inr ⟨by omega, this⟩
  · rw [endsL_snoc, List.length_append, List.length_singleton]
    have e2 : (acc ++ [x]).flatten.length = sumLen acc + x.length := by rw [e1, List.length_append, flat_len]
    rw [e2] at he
    simpa [natV] using he
theorem submit_zero {c : Cf} {st : Sd} {x : List UInt8} : ((submitR c st x).2 = 0 → (submitR c st x).1 = submitS st x ∧ x.length ≤ 9000) ∧ ((submitR c st x).2 ≠ 0 → (submitR c st x).1 = st) := by
  unfold submitR
  split
  · exact ⟨fun h => by simp at h, fun _ => rfl⟩
  · split
    · exact ⟨fun h => by simp at h, fun _ => rfl⟩
    · split
      · exact ⟨fun h => by simp at h, fun _ => rfl⟩
      · exact ⟨fun _ => ⟨rfl, by omega⟩, fun h => absurd rfl h⟩
theorem byt_status {c : Cf} {acc : List (List UInt8)} (h : Byt st acc a next) (hi : Inv35 st) (now ack : Int) (nks : List Nk) : Byt (statusR c st now ack nks).1 acc a next := by
  unfold statusR
  split
  · exact h
  · unfold statusS
    split
    · exact h
    · split
      · exact h.same rfl rfl rfl rfl
      · exact (h.same (st' := clockS st now) rfl rfl rfl rfl).stat (hi.clock now) c _ _
theorem bytes_part {ps : List (List UInt8)} {j q : Nat} (hj : j < ps.length) (h : PartsAt acc q (decide (j = 0)) (ps.drop j)) :
    ∃ part, ps[j]? = some part ∧ (j ≠ 0 → q ∈ endsL acc) ∧ (acc.flatten.drop q).take part.length = part ∧ q + part.length ≤ acc.flatten.length ∧ PartsAt acc (q + part.length) (decide (j + 1 = 0)) (ps.drop (j + 1)) ∧ sumLen (ps.take (j + 1)) = sumLen (ps.take j) + part.length := by
  rw [List.drop_eq_getElem_cons hj] at h
  obtain ⟨h1, h2, h3, h4⟩ := h
  refine ⟨ps[j], List.getElem?_eq_getElem hj, fun h0 => ?_, h2, by rw [flat_len]; exact h3, by simpa using h4, ?_⟩
  · rcases h1 with e | e
    · simp at e; exact absurd e h0
    · exact mem_endsL.2 e
  · rw [List.take_add_one, List.getElem?_eq_getElem hj, sumL_app]
    simp [sumLen]
theorem byt_tick {c : Cf} {acc : List (List UInt8)} (h : Byt st acc a next) (now : Int) : Byt (tickR c st now).1 acc a next := by
  unfold tickR
  split
  · exact h
  · obtain ⟨t1, t2, t3, t4, _⟩ := tick_same c st now
    exact h.same t1 t2 t3 t4
end
end Go.Proofs.YtmiipkaobloedaaGreat
