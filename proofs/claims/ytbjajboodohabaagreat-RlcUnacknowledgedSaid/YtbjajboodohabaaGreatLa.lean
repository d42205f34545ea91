/- law30: same, num, few, fails. law30: works, the examples of the chapter. Equality of slices and chunks: slices.Equal, slices.EqualFunc, umpdu.Same, the reference's Same. umpdu.Same and the reference's Same. law30.UmpduSame: the walk. -/
import Derived.Test.YtbjajboodohabaaGreatDa
import Derived.Laws.IdiomStrings
import Derived.Laws.BytesArg
import Derived.Lib.SlBytesConst
import Derived.Lib.BufferRead
import Derived.Lib.SmallJoins
namespace Go.Proofs.YtbjajboodohabaaGreat
open Go.RowKit

theorem und5 : Tryz.prog.underlying 5 = some (.int .u8) := by kernel_rfl
theorem und9 : Tryz.prog.underlying 9 = some .string := by kernel_rfl

theorem conv_sl {w : World} {B n c : Nat} {A : Option Addr} {l : List UInt8} (h : Sl w B A n c (bvs l)) : (convert 40 9 (.slice A n c)).run Tryz.prog w = .ok (.string ⟨l.toArray⟩) w := by
  have hl : l.length = n := by simpa using h.len
  subst hl
  rcases A with _ | a
  · have h0 : l.length = 0 := by
      rcases Nat.eq_zero_or_pos l.length with h0 | h0
      · exact h0
      · obtain ⟨_, e, _⟩ := h.at_ h0; cases e
    have : l = [] := List.eq_nil_of_length_eq_zero h0
    subst this
    exact Lib.run_convert_nil_bytes w 40 9 5 c und29 und5 und9
  · refine run_convert_bytes_back w 40 9 5 a c l und29 und5 und9 (fun j hj => ?_)
    obtain ⟨ad, e, _, hc⟩ := h.at_ (by omega)
    injection e with e
    subst e
    refine hc j _ ?_
    unfold bvs
    rw [List.getElem?_map, List.getElem?_eq_getElem hj]
    rfl

/-- a call answers true and keeps what lay -/
def IsTrue (w : World) (e : Ending) (w' : World) : Prop := e = .returned (.bool true) ∧ Below w.heap.size w w'

def Few (ps : List (List UInt8)) : Prop := ps.length ≤ 70 ∧ (∀ p ∈ ps, p.length ≤ 40000) ∧ (sumLen ps ≤ 3000 ∨ ps.length = 1)
/-- what a bool result says -/
def Says (P : Prop) (B : Nat) (w : World) (e : Ending) (w' : World) : Prop := (∃ b : Bool, e = .returned (.bool b) ∧ (b = true → P)) ∧ Below B w w'

end Go.Proofs.YtbjajboodohabaaGreat
namespace Go.Proofs.YtbjajboodohabaaGreat
open Go.RowKit

/-- a block that is known whole reads as a slice -/
theorem sl_lit {w : World} {b : Nat} {cs : Array Value} {t : TypeId} {fr : Nat × Nat} {xs : List Value} (h : w.heap[b]? = some (.cells cs t fr)) (e : cs.toList = xs) (hn : xs.length ≤ 9223372036854775807) : Sl w w.heap.size (some ⟨b, 0, none⟩) xs.length xs.length xs :=
  ⟨rfl, Nat.le_refl _, hn, fun _ => ⟨_, rfl, lt_of_heap h, fun j u hu => by rw [← e] at hu; exact World.news_of_block h j u hu⟩⟩
theorem heap_new (w : World) (o : Obj) : (w.alloc o).heap[w.heap.size]? = some o := heap_alloc_new w o

theorem enc1 : encU 5 true true [[97, 98]] = [0, 5, 97, 98] := by decide +kernel
theorem enc2 : encU 1023 false true [[120], [121, 122]] = [23, 255, 0, 16, 120, 121, 122] := by decide +kernel
theorem dec1 : decU [0] = .inl 5 := by decide +kernel
theorem dec2 : decU [32, 5, 97] = .inl 9 := by decide +kernel
theorem dec3 : decU [4, 5, 0, 0, 97] = .inl 9 := by decide +kernel
theorem dec4 : decU [0, 5] = .inl 5 := by decide +kernel

end Go.Proofs.YtbjajboodohabaaGreat
namespace Go.Proofs.YtbjajboodohabaaGreat
open Go.RowKit


/-- wr is w with draws behind it -/
def Drew (w wr : World) : Prop := ∃ q, w.drewN q = wr
theorem Drew.refl (w : World) : Drew w w := ⟨0, rfl⟩
theorem Drew.more {w wr : World} (h : Drew w wr) (k : Nat) : Drew w (wr.drewN k) := by
  obtain ⟨q, rfl⟩ := h
  exact ⟨q + k, (World.drewN_drewN w q k).symm⟩
theorem Drew.trans {w w1 w2 : World} (h : Drew w w1) (h' : Drew w1 w2) : Drew w w2 := by
  obtain ⟨q, rfl⟩ := h'
  exact h.more q
theorem Sl.drewn {w wr : World} {B n c : Nat} {A : Option Addr} {xs : List Value} (h : Sl w B A n c xs) (hd : Drew w wr) : Sl wr B A n c xs := by
  obtain ⟨q, rfl⟩ := hd
  exact h.drewN q
theorem Sls.drewn {w wr : World} {B n c : Nat} {A : Option Addr} {vs : List Value} {ps : List (List UInt8)} (h : Sls w B A n c vs ps) (hd : Drew w wr) : Sls wr B A n c vs ps := by
  obtain ⟨q, rfl⟩ := hd
  exact ⟨h.sl.drewN q, h.len, fun i p hi => let ⟨Ai, ci, e, hs⟩ := h.each i p hi; ⟨Ai, ci, e, hs.drewN q⟩⟩
theorem Drew.size {w wr : World} (h : Drew w wr) : wr.heap.size = w.heap.size := by
  obtain ⟨q, rfl⟩ := h
  rfl
theorem Drew.below {w wr : World} (h : Drew w wr) (B : Nat) : Below B w wr := by
  obtain ⟨q, rfl⟩ := h
  exact (Below.refl B w).drewN q

/-- a call answers b; it draws, no more -/
def Answers (b : Bool) (w : World) (e : Ending) (w' : World) : Prop := e = .returned (.bool b) ∧ Drew w w'

theorem byte_ne {a b : UInt8} (h : a ≠ b) : ((a.toNat : Int) != (b.toNat : Int)) = true := by
  rw [bne_iff_ne]
  intro e
  exact h (UInt8.toNat_inj.1 (by omega))
theorem byte_eq (a : UInt8) : ((a.toNat : Int) != (a.toNat : Int)) = false := by simp

end Go.Proofs.YtbjajboodohabaaGreat
namespace Go.Proofs.YtbjajboodohabaaGreat
open Go.RowKit

def sameC (s e : Bool) (ps : List (List UInt8)) (s' e' : Bool) (ps' : List (List UInt8)) : Bool := decide (s = s' ∧ e = e' ∧ ps = ps')
/-- a call answers b and keeps what lay -/
def Tells (b : Bool) (w : World) (e : Ending) (w' : World) : Prop := e = .returned (.bool b) ∧ Below w.heap.size w w'

end Go.Proofs.YtbjajboodohabaaGreat
namespace Go.Proofs.YtbjajboodohabaaGreat
open Go.RowKit

theorem sameC_refl (s e : Bool) (ps : List (List UInt8)) : sameC s e ps s e ps = true := by simp [sameC]
theorem sameC_comm (s e : Bool) (ps : List (List UInt8)) (s' e' : Bool) (ps' : List (List UInt8)) : sameC s' e' ps' s e ps = sameC s e ps s' e' ps' := by
  unfold sameC
  rw [decide_eq_decide]
  constructor <;> (rintro ⟨rfl, rfl, rfl⟩; exact ⟨rfl, rfl, rfl⟩)

theorem Blk.three {w : World} {g : Nat} {t : TypeId} {x y z : Value} (b : Blk w g t #[x, y, z]) : w.cell? ⟨g, 0, none⟩ = some x ∧ w.cell? ⟨g, 1, none⟩ = some y ∧ w.cell? ⟨g, 2, none⟩ = some z :=
  ⟨b.cell 0, b.cell 1, b.cell 2⟩
end Go.Proofs.YtbjajboodohabaaGreat
