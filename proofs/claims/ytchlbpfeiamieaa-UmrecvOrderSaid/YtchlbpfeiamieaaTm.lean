/- law32: what sent gives (plain). -/
import Derived.Test.YtchlbpfeiamieaaTy
import Derived.Test.YtchlbpfeiamieaaNa
import Derived.Test.YtchlbpfeiamieaaJ8
import Derived.Test.YtchlbpfeiamieaaTz
namespace Go.Proofs.Ytchlbpfeiamieaa
/-- the bytes of PDU i -/
def encAt (sizes : List UInt8) (sdus : List (List UInt8)) (i : Nat) : List UInt8 := encU i (pdAt sizes sdus i).s (pdAt sizes sdus i).en (pdAt sizes sdus i).ps
def encs (sizes : List UInt8) (sdus : List (List UInt8)) (k : Nat) : List (List UInt8) := (List.range k).map (encAt sizes sdus)
theorem encs_succ (sizes : List UInt8) (sdus : List (List UInt8)) (k : Nat) : encs sizes sdus (k + 1) = encs sizes sdus k ++ [encAt sizes sdus k] := by simp [encs, List.range_succ]
theorem encs_len (sizes : List UInt8) (sdus : List (List UInt8)) (k : Nat) : (encs sizes sdus k).length = k := by simp [encs]
theorem encs_get (sizes : List UInt8) (sdus : List (List UInt8)) {k i : Nat} (h : i < k) : (encs sizes sdus k)[i]? = some (encAt sizes sdus i) := by simp [encs, h]
section
variable {sizes : List UInt8} {sdus : List (List UInt8)}
theorem pdAt_valid (h : ∀ s ∈ sdus, 1 ≤ s.length ∧ s.length ≤ 60) {i : Nat} (hi : (txAt sizes sdus i).1 ≠ []) : ValidP (pdAt sizes sdus i).ps := by
  have ho := txAt_ok sizes h i
  exact chk_valid (sizeAt sizes i) ((txAt sizes sdus i).1.length + 1) (txAt sizes sdus i).1 (txAt sizes sdus i).2 false (fun s hs => (ho.len s hs).1) ho.lt (pdAt_ne sizes h hi)
theorem encAt_dec (h : ∀ s ∈ sdus, 1 ≤ s.length ∧ s.length ≤ 60) {i : Nat} (hi : (txAt sizes sdus i).1 ≠ []) (h9 : i < 1024) : decU (encAt sizes sdus i) = .inr ((pdAt sizes sdus i).sn, (pdAt sizes sdus i).s, (pdAt sizes sdus i).en, (pdAt sizes sdus i).ps) :=
  dec_enc i _ _ _ h9 (pdAt_valid h hi)
theorem encAt_len (h : ∀ s ∈ sdus, 1 ≤ s.length ∧ s.length ≤ 60) {i : Nat} (hi : (txAt sizes sdus i).1 ≠ []) : 1 ≤ (encAt sizes sdus i).length ∧ (encAt sizes sdus i).length ≤ 1000000 := by
  have hv := pdAt_valid h hi
  have hel := encU_length_hdr i (pdAt sizes sdus i).s (pdAt sizes sdus i).en (pdAt sizes sdus i).ps hv.lo hv.hi
  have hhd := hdrN_bd (pdAt sizes sdus i).ps.length (by have := hv.lo; omega) (by have := hv.hi; omega)
  have hps := hv.sum
  have hsp : 1 ≤ sumLen (pdAt sizes sdus i).ps := by
    obtain ⟨p, hp⟩ := List.exists_mem_of_length_pos (show 0 < (pdAt sizes sdus i).ps.length by have := hv.lo; omega)
    have := mem_le_sumLen hp
    have := hv.pos p hp
    omega
  unfold encAt
  omega
/-- all is sent with PDU N - 1 -/
structure SentAll (sizes : List UInt8) (sdus : List (List UInt8)) (N : Nat) : Prop where
  le : N ≤ 166
  nil : (txAt sizes sdus N).1 = []
  ne : ∀ i, i < N → (txAt sizes sdus i).1 ≠ []
theorem validS_iff {sdus : List (List UInt8)} : validS sdus = true ↔ sdus.length ≤ 8 ∧ ∀ s ∈ sdus, 1 ≤ s.length ∧ s.length ≤ 60 := by
  simp [validS, okS, List.all_eq_true]
end
end Go.Proofs.Ytchlbpfeiamieaa
