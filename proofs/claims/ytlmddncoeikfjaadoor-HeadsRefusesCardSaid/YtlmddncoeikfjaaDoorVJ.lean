/- Walks: a matrix times a vector. -/
import Derived.Test.YtlmddncoeikfjaaDoorVI
namespace Go.Proofs.YtlmddncoeikfjaaDoor
open Go.RowKit Go.Proofs.YtlmddncoeikfjaaDoorW.PrintWords
set_option maxRecDepth 100000
set_option maxHeartbeats 400000

theorem okShape_len {x : SM} (h : okShape x = true) (hlen : x.f2.length ≤ 9223372036854775807) : 1 ≤ x.f0 ∧ 1 ≤ x.f1 ∧ (x.f2.length : Int) = x.f0 * x.f1 := by
  simp only [okShape, Bool.not_eq_true', Bool.or_eq_false_iff, decide_eq_false_iff_not] at h
  obtain ⟨⟨⟨h1, h2⟩, h3⟩, h4⟩ := h
  have h5 : (x.f2.length : Int).tdiv x.f1 ≤ x.f2.length := Int.tdiv_le_self _ (by omega)
  have h6 : 0 ≤ (x.f2.length : Int).tdiv x.f1 := Int.tdiv_nonneg (by omega) (by omega)
  rw [show IntKind.i64.wrap ((x.f2.length : Int).tdiv x.f1) = (x.f2.length : Int).tdiv x.f1 from IntWalk.i64_in _ (by omega)] at h4
  have h7 := Int.tmod_add_mul_tdiv (x.f2.length : Int) x.f1
  have h8 : (x.f2.length : Int).tmod x.f1 = 0 := by omega
  have h9 : (x.f2.length : Int).tdiv x.f1 = x.f0 := by omega
  rw [h8, h9, Int.mul_comm] at h7
  omega
/-- Row r of a matrix. -/
def rowOf (x : SM) (r : Nat) : List Int := (x.f2.take ((r + 1) * x.f1.toNat)).drop (r * x.f1.toNat)
def mvAt (x : SM) (v : List Int) (r : Nat) : Int := dotTo (rowOf x r) v (rowOf x r).length
def mvOf (x : SM) (v : List Int) : List Int := (List.range x.f0.toNat).map (mvAt x v)
def mvTo (x : SM) (v : List Int) (i : Nat) : List Int := (List.range i).map (mvAt x v) ++ List.replicate (x.f0.toNat - i) 0
theorem mv_set {x : SM} {v : List Int} {i : Nat} (hi : i < x.f0.toNat) : (mvTo x v i).set i (mvAt x v i) = mvTo x v (i + 1) := by
  have h1 : x.f0.toNat - i = (x.f0.toNat - (i + 1)) + 1 := by omega
  rw [mvTo, mvTo, h1, List.replicate_succ, List.range_succ, List.map_append, List.set_append_right _ _ (by simp)]
  simp
theorem mv_end {x : SM} {v : List Int} : mvTo x v x.f0.toNat = mvOf x v := by simp [mvTo, mvOf]
theorem mv_len {x : SM} {v : List Int} {i : Nat} (hi : i ≤ x.f0.toNat) : (mvTo x v i).length = x.f0.toNat := by simp [mvTo]; omega
end Go.Proofs.YtlmddncoeikfjaaDoor
