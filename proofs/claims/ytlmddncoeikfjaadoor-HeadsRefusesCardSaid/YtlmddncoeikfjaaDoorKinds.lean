-- The seat's data, printed by a program of this claim over the kit's kinds.
import Derived.Test.YtlmddncoeikfjaaDoorWWords
import Derived.Test.YtlmddncoeikfjaaDoorWArr
namespace Go.Proofs.YtlmddncoeikfjaaDoor
open Go.RowKit Go.Proofs.YtlmddncoeikfjaaDoorW.PrintWords

def rd_ints (xs : List (List Int)) (i : Int) : (List Int) := xs.getD i.toNat ([] : List Int)
theorem at_ints {w : World} {A : Option Addr} {n : Nat} {xs : List (List Int)} (h : Kd.C (Kd.slice 3 (Kd.int .i64)) w A n xs) (i : Int) (h0 : 0 ≤ i) (h1 : i < n) : ∃ ad A0 c0, A = some ad ∧ w.cell? (ad.add i.toNat) = some (.slice A0 (rd_ints xs i).length c0) ∧ (rd_ints xs i).length ≤ c0 ∧ (Kd.int .i64).C w A0 (rd_ints xs i).length (rd_ints xs i) := by
  obtain ⟨ad, c, e, _, hK, hc0⟩ := Kd.C_get h ([] : List Int) i h0 h1
  have hc : ∀ j u, c[j]? = some u → w.cell? (ad.add (i.toNat * 1 + j)) = some u := hc0
  obtain ⟨A0, c0, rfl, l0, g0⟩ := hK
  exact ⟨ad, A0, c0, e, by have hq := hc 0 _ rfl; rwa [Nat.mul_one, Nat.add_zero] at hq, l0, g0⟩

def rd_wides (xs : List (List Int)) (i : Int) : (List Int) := xs.getD i.toNat ([] : List Int)
theorem at_wides {w : World} {A : Option Addr} {n : Nat} {xs : List (List Int)} (h : Kd.C (Kd.slice 2 (Kd.int .i64)) w A n xs) (i : Int) (h0 : 0 ≤ i) (h1 : i < n) : ∃ ad A0 c0, A = some ad ∧ w.cell? (ad.add i.toNat) = some (.slice A0 (rd_wides xs i).length c0) ∧ (rd_wides xs i).length ≤ c0 ∧ (Kd.int .i64).C w A0 (rd_wides xs i).length (rd_wides xs i) := by
  obtain ⟨ad, c, e, _, hK, hc0⟩ := Kd.C_get h ([] : List Int) i h0 h1
  have hc : ∀ j u, c[j]? = some u → w.cell? (ad.add (i.toNat * 1 + j)) = some u := hc0
  obtain ⟨A0, c0, rfl, l0, g0⟩ := hK
  exact ⟨ad, A0, c0, e, by have hq := hc 0 _ rfl; rwa [Nat.mul_one, Nat.add_zero] at hq, l0, g0⟩

def rd_nar (xs : List (List Int)) (i : Int) : (List Int) := xs.getD i.toNat ([] : List Int)
theorem at_nar {w : World} {A : Option Addr} {n : Nat} {xs : List (List Int)} (h : Kd.C (Kd.slice 63 (Kd.int .i8)) w A n xs) (i : Int) (h0 : 0 ≤ i) (h1 : i < n) : ∃ ad A0 c0, A = some ad ∧ w.cell? (ad.add i.toNat) = some (.slice A0 (rd_nar xs i).length c0) ∧ (rd_nar xs i).length ≤ c0 ∧ (Kd.int .i8).C w A0 (rd_nar xs i).length (rd_nar xs i) := by
  obtain ⟨ad, c, e, _, hK, hc0⟩ := Kd.C_get h ([] : List Int) i h0 h1
  have hc : ∀ j u, c[j]? = some u → w.cell? (ad.add (i.toNat * 1 + j)) = some u := hc0
  obtain ⟨A0, c0, rfl, l0, g0⟩ := hK
  exact ⟨ad, A0, c0, e, by have hq := hc 0 _ rfl; rwa [Nat.mul_one, Nat.add_zero] at hq, l0, g0⟩

def rd_bools (xs : List (List Bool)) (i : Int) : (List Bool) := xs.getD i.toNat ([] : List Bool)
theorem at_bools {w : World} {A : Option Addr} {n : Nat} {xs : List (List Bool)} (h : Kd.C (Kd.slice 4 Kd.bool) w A n xs) (i : Int) (h0 : 0 ≤ i) (h1 : i < n) : ∃ ad A0 c0, A = some ad ∧ w.cell? (ad.add i.toNat) = some (.slice A0 (rd_bools xs i).length c0) ∧ (rd_bools xs i).length ≤ c0 ∧ Kd.bool.C w A0 (rd_bools xs i).length (rd_bools xs i) := by
  obtain ⟨ad, c, e, _, hK, hc0⟩ := Kd.C_get h ([] : List Bool) i h0 h1
  have hc : ∀ j u, c[j]? = some u → w.cell? (ad.add (i.toNat * 1 + j)) = some u := hc0
  obtain ⟨A0, c0, rfl, l0, g0⟩ := hK
  exact ⟨ad, A0, c0, e, by have hq := hc 0 _ rfl; rwa [Nat.mul_one, Nat.add_zero] at hq, l0, g0⟩

/-! #### struct type 23 -/
structure SC where
  f0 : Int
  f1 : Int
  f2 : Int
  f3 : Int
  f4 : Int
  f5 : Int
  f6 : Int
  f7 : Int
def zC : SC := ⟨(0 : Int), (0 : Int), (0 : Int), (0 : Int), (0 : Int), (0 : Int), (0 : Int), (0 : Int)⟩
def kC : Kd SC := Kd.iso (Kd.pair (Kd.int .i64) (Kd.pair (Kd.int .i64) (Kd.pair (Kd.int .i64) (Kd.pair (Kd.int .i64) (Kd.pair (Kd.int .i64) (Kd.pair (Kd.int .i64) (Kd.pair (Kd.int .i64) (Kd.int .i64)))))))) (fun x : SC => (x.f0, x.f1, x.f2, x.f3, x.f4, x.f5, x.f6, x.f7))
theorem kC_open {w : World} {x : SC} {cs : List Value} (h : kC.K w x cs) : cs = [.int .i64 x.f0, .int .i64 x.f1, .int .i64 x.f2, .int .i64 x.f3, .int .i64 x.f4, .int .i64 x.f5, .int .i64 x.f6, .int .i64 x.f7] := by
  obtain ⟨_, _, rfl, rfl, ⟨_, _, rfl, rfl, ⟨_, _, rfl, rfl, ⟨_, _, rfl, rfl, ⟨_, _, rfl, rfl, ⟨_, _, rfl, rfl, ⟨_, _, rfl, rfl, rfl⟩⟩⟩⟩⟩⟩⟩ := h
  exact rfl
theorem kC_openM {w : World} {base : Nat} {ok : Nat → Prop} {x : SC} {cs : List Value} (h : kC.M w base ok x cs) : cs = [.int .i64 x.f0, .int .i64 x.f1, .int .i64 x.f2, .int .i64 x.f3, .int .i64 x.f4, .int .i64 x.f5, .int .i64 x.f6, .int .i64 x.f7] := by
  obtain ⟨_, _, rfl, rfl, ⟨_, _, rfl, rfl, ⟨_, _, rfl, rfl, ⟨_, _, rfl, rfl, ⟨_, _, rfl, rfl, ⟨_, _, rfl, rfl, ⟨_, _, rfl, rfl, rfl⟩⟩⟩⟩⟩⟩⟩ := h
  exact rfl
theorem kC_mk (w : World) (x : SC)  : kC.K w x [.int .i64 x.f0, .int .i64 x.f1, .int .i64 x.f2, .int .i64 x.f3, .int .i64 x.f4, .int .i64 x.f5, .int .i64 x.f6, .int .i64 x.f7] := ⟨[.int .i64 x.f0], [.int .i64 x.f1, .int .i64 x.f2, .int .i64 x.f3, .int .i64 x.f4, .int .i64 x.f5, .int .i64 x.f6, .int .i64 x.f7], rfl, rfl, ⟨[.int .i64 x.f1], [.int .i64 x.f2, .int .i64 x.f3, .int .i64 x.f4, .int .i64 x.f5, .int .i64 x.f6, .int .i64 x.f7], rfl, rfl, ⟨[.int .i64 x.f2], [.int .i64 x.f3, .int .i64 x.f4, .int .i64 x.f5, .int .i64 x.f6, .int .i64 x.f7], rfl, rfl, ⟨[.int .i64 x.f3], [.int .i64 x.f4, .int .i64 x.f5, .int .i64 x.f6, .int .i64 x.f7], rfl, rfl, ⟨[.int .i64 x.f4], [.int .i64 x.f5, .int .i64 x.f6, .int .i64 x.f7], rfl, rfl, ⟨[.int .i64 x.f5], [.int .i64 x.f6, .int .i64 x.f7], rfl, rfl, ⟨[.int .i64 x.f6], [.int .i64 x.f7], rfl, rfl, rfl⟩⟩⟩⟩⟩⟩⟩
theorem kC_mkM (w : World) (base : Nat) (ok : Nat → Prop) (x : SC)  : kC.M w base ok x [.int .i64 x.f0, .int .i64 x.f1, .int .i64 x.f2, .int .i64 x.f3, .int .i64 x.f4, .int .i64 x.f5, .int .i64 x.f6, .int .i64 x.f7] := ⟨[.int .i64 x.f0], [.int .i64 x.f1, .int .i64 x.f2, .int .i64 x.f3, .int .i64 x.f4, .int .i64 x.f5, .int .i64 x.f6, .int .i64 x.f7], rfl, rfl, ⟨[.int .i64 x.f1], [.int .i64 x.f2, .int .i64 x.f3, .int .i64 x.f4, .int .i64 x.f5, .int .i64 x.f6, .int .i64 x.f7], rfl, rfl, ⟨[.int .i64 x.f2], [.int .i64 x.f3, .int .i64 x.f4, .int .i64 x.f5, .int .i64 x.f6, .int .i64 x.f7], rfl, rfl, ⟨[.int .i64 x.f3], [.int .i64 x.f4, .int .i64 x.f5, .int .i64 x.f6, .int .i64 x.f7], rfl, rfl, ⟨[.int .i64 x.f4], [.int .i64 x.f5, .int .i64 x.f6, .int .i64 x.f7], rfl, rfl, ⟨[.int .i64 x.f5], [.int .i64 x.f6, .int .i64 x.f7], rfl, rfl, ⟨[.int .i64 x.f6], [.int .i64 x.f7], rfl, rfl, rfl⟩⟩⟩⟩⟩⟩⟩
def rd_C (xs : List SC) (i : Int) : SC := xs.getD i.toNat zC
theorem at_C {w : World} {A : Option Addr} {n : Nat} {xs : List SC} (h : Kd.C kC w A n xs) (i : Int) (h0 : 0 ≤ i) (h1 : i < n) : ∃ ad , A = some ad ∧ w.cell? (ad.add (i.toNat * 8)) = some (.int .i64 (rd_C xs i).f0) ∧ w.cell? ⟨(ad.add (i.toNat * 8)).block, (ad.add (i.toNat * 8)).off + 1, none⟩ = some (.int .i64 (rd_C xs i).f1) ∧ w.cell? ⟨(ad.add (i.toNat * 8)).block, (ad.add (i.toNat * 8)).off + 2, none⟩ = some (.int .i64 (rd_C xs i).f2) ∧ w.cell? ⟨(ad.add (i.toNat * 8)).block, (ad.add (i.toNat * 8)).off + 3, none⟩ = some (.int .i64 (rd_C xs i).f3) ∧ w.cell? ⟨(ad.add (i.toNat * 8)).block, (ad.add (i.toNat * 8)).off + 4, none⟩ = some (.int .i64 (rd_C xs i).f4) ∧ w.cell? ⟨(ad.add (i.toNat * 8)).block, (ad.add (i.toNat * 8)).off + 5, none⟩ = some (.int .i64 (rd_C xs i).f5) ∧ w.cell? ⟨(ad.add (i.toNat * 8)).block, (ad.add (i.toNat * 8)).off + 6, none⟩ = some (.int .i64 (rd_C xs i).f6) ∧ w.cell? ⟨(ad.add (i.toNat * 8)).block, (ad.add (i.toNat * 8)).off + 7, none⟩ = some (.int .i64 (rd_C xs i).f7) := by
  obtain ⟨ad, c, e, _, hK, hc0⟩ := Kd.C_get h zC i h0 h1
  have hc : ∀ j u, c[j]? = some u → w.cell? (ad.add (i.toNat * 8 + j)) = some u := hc0
  obtain rfl := kC_open hK
  exact ⟨ad, e, hc 0 _ rfl, by rw [← add_field _ _ 1 (by omega)]; exact hc 1 _ rfl, by rw [← add_field _ _ 2 (by omega)]; exact hc 2 _ rfl, by rw [← add_field _ _ 3 (by omega)]; exact hc 3 _ rfl, by rw [← add_field _ _ 4 (by omega)]; exact hc 4 _ rfl, by rw [← add_field _ _ 5 (by omega)]; exact hc 5 _ rfl, by rw [← add_field _ _ 6 (by omega)]; exact hc 6 _ rfl, by rw [← add_field _ _ 7 (by omega)]; exact hc 7 _ rfl⟩

/-! #### struct type 26 -/
structure SM where
  f0 : Int
  f1 : Int
  f2 : (List Int)
def zM : SM := ⟨(0 : Int), (0 : Int), ([] : List Int)⟩
def kM : Kd SM := Kd.iso (Kd.pair (Kd.int .i64) (Kd.pair (Kd.int .i64) (Kd.slice 63 (Kd.int .i8)))) (fun x : SM => (x.f0, x.f1, x.f2))
theorem kM_open {w : World} {x : SM} {cs : List Value} (h : kM.K w x cs) : ∃ A2 c2, cs = [.int .i64 x.f0, .int .i64 x.f1, .slice A2 x.f2.length c2] ∧ x.f2.length ≤ c2 ∧ (Kd.int .i8).C w A2 x.f2.length x.f2 := by
  obtain ⟨_, _, rfl, rfl, ⟨_, _, rfl, rfl, ⟨A2, c2, rfl, l2, g2⟩⟩⟩ := h
  exact ⟨A2, c2, rfl, l2, g2⟩
theorem kM_openM {w : World} {base : Nat} {ok : Nat → Prop} {x : SM} {cs : List Value} (h : kM.M w base ok x cs) : ∃ v2, cs = [.int .i64 x.f0, .int .i64 x.f1, v2] ∧ (Kd.int .i8).R 63 w base ok v2 x.f2 := by
  obtain ⟨_, _, rfl, rfl, ⟨_, _, rfl, rfl, ⟨v2, rfl, g2⟩⟩⟩ := h
  exact ⟨v2, rfl, g2⟩
theorem kM_mk (w : World) (x : SM) {A2 : Option Addr} {c2 : Nat} (l2 : x.f2.length ≤ c2) (g2 : (Kd.int .i8).C w A2 x.f2.length x.f2) : kM.K w x [.int .i64 x.f0, .int .i64 x.f1, .slice A2 x.f2.length c2] := ⟨[.int .i64 x.f0], [.int .i64 x.f1, .slice A2 x.f2.length c2], rfl, rfl, ⟨[.int .i64 x.f1], [.slice A2 x.f2.length c2], rfl, rfl, ⟨A2, c2, rfl, l2, g2⟩⟩⟩
theorem kM_mkM (w : World) (base : Nat) (ok : Nat → Prop) (x : SM) {v2 : Value} (g2 : (Kd.int .i8).R 63 w base ok v2 x.f2) : kM.M w base ok x [.int .i64 x.f0, .int .i64 x.f1, v2] := ⟨[.int .i64 x.f0], [.int .i64 x.f1, v2], rfl, rfl, ⟨[.int .i64 x.f1], [v2], rfl, rfl, ⟨v2, rfl, g2⟩⟩⟩
def rd_M (xs : List SM) (i : Int) : SM := xs.getD i.toNat zM
theorem at_M {w : World} {A : Option Addr} {n : Nat} {xs : List SM} (h : Kd.C kM w A n xs) (i : Int) (h0 : 0 ≤ i) (h1 : i < n) : ∃ ad A2 c2, A = some ad ∧ w.cell? (ad.add (i.toNat * 3)) = some (.int .i64 (rd_M xs i).f0) ∧ w.cell? ⟨(ad.add (i.toNat * 3)).block, (ad.add (i.toNat * 3)).off + 1, none⟩ = some (.int .i64 (rd_M xs i).f1) ∧ w.cell? ⟨(ad.add (i.toNat * 3)).block, (ad.add (i.toNat * 3)).off + 2, none⟩ = some (.slice A2 (rd_M xs i).f2.length c2) ∧ (rd_M xs i).f2.length ≤ c2 ∧ (Kd.int .i8).C w A2 (rd_M xs i).f2.length (rd_M xs i).f2 := by
  obtain ⟨ad, c, e, _, hK, hc0⟩ := Kd.C_get h zM i h0 h1
  have hc : ∀ j u, c[j]? = some u → w.cell? (ad.add (i.toNat * 3 + j)) = some u := hc0
  obtain ⟨A2, c2, rfl, l2, g2⟩ := kM_open hK
  exact ⟨ad, A2, c2, e, hc 0 _ rfl, by rw [← add_field _ _ 1 (by omega)]; exact hc 1 _ rfl, by rw [← add_field _ _ 2 (by omega)]; exact hc 2 _ rfl, l2, g2⟩

/-! #### struct type 117 -/
structure SU where
  f0 : Int
  f1 : Int
def zU : SU := ⟨(0 : Int), (0 : Int)⟩
def kU : Kd SU := Kd.iso (Kd.pair (Kd.int .i64) (Kd.int .i64)) (fun x : SU => (x.f0, x.f1))
theorem kU_open {w : World} {x : SU} {cs : List Value} (h : kU.K w x cs) : cs = [.int .i64 x.f0, .int .i64 x.f1] := by
  obtain ⟨_, _, rfl, rfl, rfl⟩ := h
  exact rfl
theorem kU_openM {w : World} {base : Nat} {ok : Nat → Prop} {x : SU} {cs : List Value} (h : kU.M w base ok x cs) : cs = [.int .i64 x.f0, .int .i64 x.f1] := by
  obtain ⟨_, _, rfl, rfl, rfl⟩ := h
  exact rfl
theorem kU_mk (w : World) (x : SU)  : kU.K w x [.int .i64 x.f0, .int .i64 x.f1] := ⟨[.int .i64 x.f0], [.int .i64 x.f1], rfl, rfl, rfl⟩
theorem kU_mkM (w : World) (base : Nat) (ok : Nat → Prop) (x : SU)  : kU.M w base ok x [.int .i64 x.f0, .int .i64 x.f1] := ⟨[.int .i64 x.f0], [.int .i64 x.f1], rfl, rfl, rfl⟩
def rd_U (xs : List SU) (i : Int) : SU := xs.getD i.toNat zU
theorem at_U {w : World} {A : Option Addr} {n : Nat} {xs : List SU} (h : Kd.C kU w A n xs) (i : Int) (h0 : 0 ≤ i) (h1 : i < n) : ∃ ad , A = some ad ∧ w.cell? (ad.add (i.toNat * 2)) = some (.int .i64 (rd_U xs i).f0) ∧ w.cell? ⟨(ad.add (i.toNat * 2)).block, (ad.add (i.toNat * 2)).off + 1, none⟩ = some (.int .i64 (rd_U xs i).f1) := by
  obtain ⟨ad, c, e, _, hK, hc0⟩ := Kd.C_get h zU i h0 h1
  have hc : ∀ j u, c[j]? = some u → w.cell? (ad.add (i.toNat * 2 + j)) = some u := hc0
  obtain rfl := kU_open hK
  exact ⟨ad, e, hc 0 _ rfl, by rw [← add_field _ _ 1 (by omega)]; exact hc 1 _ rfl⟩

/-! #### struct type 106 -/
structure SB where
  f0 : Int
  f1 : Int
  f2 : Int
  f3 : Int
  f4 : Int
  f5 : Int
  f6 : Int
def zB : SB := ⟨(0 : Int), (0 : Int), (0 : Int), (0 : Int), (0 : Int), (0 : Int), (0 : Int)⟩
def kB : Kd SB := Kd.iso (Kd.pair (Kd.int .i64) (Kd.pair (Kd.int .i64) (Kd.pair (Kd.int .i64) (Kd.pair (Kd.int .i64) (Kd.pair (Kd.int .i64) (Kd.pair (Kd.int .i64) (Kd.int .i64))))))) (fun x : SB => (x.f0, x.f1, x.f2, x.f3, x.f4, x.f5, x.f6))
theorem kB_open {w : World} {x : SB} {cs : List Value} (h : kB.K w x cs) : cs = [.int .i64 x.f0, .int .i64 x.f1, .int .i64 x.f2, .int .i64 x.f3, .int .i64 x.f4, .int .i64 x.f5, .int .i64 x.f6] := by
  obtain ⟨_, _, rfl, rfl, ⟨_, _, rfl, rfl, ⟨_, _, rfl, rfl, ⟨_, _, rfl, rfl, ⟨_, _, rfl, rfl, ⟨_, _, rfl, rfl, rfl⟩⟩⟩⟩⟩⟩ := h
  exact rfl
theorem kB_openM {w : World} {base : Nat} {ok : Nat → Prop} {x : SB} {cs : List Value} (h : kB.M w base ok x cs) : cs = [.int .i64 x.f0, .int .i64 x.f1, .int .i64 x.f2, .int .i64 x.f3, .int .i64 x.f4, .int .i64 x.f5, .int .i64 x.f6] := by
  obtain ⟨_, _, rfl, rfl, ⟨_, _, rfl, rfl, ⟨_, _, rfl, rfl, ⟨_, _, rfl, rfl, ⟨_, _, rfl, rfl, ⟨_, _, rfl, rfl, rfl⟩⟩⟩⟩⟩⟩ := h
  exact rfl
theorem kB_mk (w : World) (x : SB)  : kB.K w x [.int .i64 x.f0, .int .i64 x.f1, .int .i64 x.f2, .int .i64 x.f3, .int .i64 x.f4, .int .i64 x.f5, .int .i64 x.f6] := ⟨[.int .i64 x.f0], [.int .i64 x.f1, .int .i64 x.f2, .int .i64 x.f3, .int .i64 x.f4, .int .i64 x.f5, .int .i64 x.f6], rfl, rfl, ⟨[.int .i64 x.f1], [.int .i64 x.f2, .int .i64 x.f3, .int .i64 x.f4, .int .i64 x.f5, .int .i64 x.f6], rfl, rfl, ⟨[.int .i64 x.f2], [.int .i64 x.f3, .int .i64 x.f4, .int .i64 x.f5, .int .i64 x.f6], rfl, rfl, ⟨[.int .i64 x.f3], [.int .i64 x.f4, .int .i64 x.f5, .int .i64 x.f6], rfl, rfl, ⟨[.int .i64 x.f4], [.int .i64 x.f5, .int .i64 x.f6], rfl, rfl, ⟨[.int .i64 x.f5], [.int .i64 x.f6], rfl, rfl, rfl⟩⟩⟩⟩⟩⟩
theorem kB_mkM (w : World) (base : Nat) (ok : Nat → Prop) (x : SB)  : kB.M w base ok x [.int .i64 x.f0, .int .i64 x.f1, .int .i64 x.f2, .int .i64 x.f3, .int .i64 x.f4, .int .i64 x.f5, .int .i64 x.f6] := ⟨[.int .i64 x.f0], [.int .i64 x.f1, .int .i64 x.f2, .int .i64 x.f3, .int .i64 x.f4, .int .i64 x.f5, .int .i64 x.f6], rfl, rfl, ⟨[.int .i64 x.f1], [.int .i64 x.f2, .int .i64 x.f3, .int .i64 x.f4, .int .i64 x.f5, .int .i64 x.f6], rfl, rfl, ⟨[.int .i64 x.f2], [.int .i64 x.f3, .int .i64 x.f4, .int .i64 x.f5, .int .i64 x.f6], rfl, rfl, ⟨[.int .i64 x.f3], [.int .i64 x.f4, .int .i64 x.f5, .int .i64 x.f6], rfl, rfl, ⟨[.int .i64 x.f4], [.int .i64 x.f5, .int .i64 x.f6], rfl, rfl, ⟨[.int .i64 x.f5], [.int .i64 x.f6], rfl, rfl, rfl⟩⟩⟩⟩⟩⟩
def rd_B (xs : List SB) (i : Int) : SB := xs.getD i.toNat zB
theorem at_B {w : World} {A : Option Addr} {n : Nat} {xs : List SB} (h : Kd.C kB w A n xs) (i : Int) (h0 : 0 ≤ i) (h1 : i < n) : ∃ ad , A = some ad ∧ w.cell? (ad.add (i.toNat * 7)) = some (.int .i64 (rd_B xs i).f0) ∧ w.cell? ⟨(ad.add (i.toNat * 7)).block, (ad.add (i.toNat * 7)).off + 1, none⟩ = some (.int .i64 (rd_B xs i).f1) ∧ w.cell? ⟨(ad.add (i.toNat * 7)).block, (ad.add (i.toNat * 7)).off + 2, none⟩ = some (.int .i64 (rd_B xs i).f2) ∧ w.cell? ⟨(ad.add (i.toNat * 7)).block, (ad.add (i.toNat * 7)).off + 3, none⟩ = some (.int .i64 (rd_B xs i).f3) ∧ w.cell? ⟨(ad.add (i.toNat * 7)).block, (ad.add (i.toNat * 7)).off + 4, none⟩ = some (.int .i64 (rd_B xs i).f4) ∧ w.cell? ⟨(ad.add (i.toNat * 7)).block, (ad.add (i.toNat * 7)).off + 5, none⟩ = some (.int .i64 (rd_B xs i).f5) ∧ w.cell? ⟨(ad.add (i.toNat * 7)).block, (ad.add (i.toNat * 7)).off + 6, none⟩ = some (.int .i64 (rd_B xs i).f6) := by
  obtain ⟨ad, c, e, _, hK, hc0⟩ := Kd.C_get h zB i h0 h1
  have hc : ∀ j u, c[j]? = some u → w.cell? (ad.add (i.toNat * 7 + j)) = some u := hc0
  obtain rfl := kB_open hK
  exact ⟨ad, e, hc 0 _ rfl, by rw [← add_field _ _ 1 (by omega)]; exact hc 1 _ rfl, by rw [← add_field _ _ 2 (by omega)]; exact hc 2 _ rfl, by rw [← add_field _ _ 3 (by omega)]; exact hc 3 _ rfl, by rw [← add_field _ _ 4 (by omega)]; exact hc 4 _ rfl, by rw [← add_field _ _ 5 (by omega)]; exact hc 5 _ rfl, by rw [← add_field _ _ 6 (by omega)]; exact hc 6 _ rfl⟩

/-! #### struct type 108 -/
structure SL where
  f0 : (List Int)
  f1 : (List Int)
  f2 : SM
  f3 : SM
  f4 : SM
  f5 : SM
  f6 : SM
  f7 : SM
  f8 : SM
  f9 : SB
def zL : SL := ⟨([] : List Int), ([] : List Int), zM, zM, zM, zM, zM, zM, zM, zB⟩
def kL : Kd SL := Kd.iso (Kd.pair (Kd.slice 63 (Kd.int .i8)) (Kd.pair (Kd.slice 63 (Kd.int .i8)) (Kd.pair kM (Kd.pair kM (Kd.pair kM (Kd.pair kM (Kd.pair kM (Kd.pair kM (Kd.pair kM kB))))))))) (fun x : SL => (x.f0, x.f1, x.f2, x.f3, x.f4, x.f5, x.f6, x.f7, x.f8, x.f9))
theorem kL_open {w : World} {x : SL} {cs : List Value} (h : kL.K w x cs) : ∃ A0 c0 A1 c1 A4 c4 A7 c7 A10 c10 A13 c13 A16 c16 A19 c19 A22 c22, cs = [.slice A0 x.f0.length c0, .slice A1 x.f1.length c1, .int .i64 x.f2.f0, .int .i64 x.f2.f1, .slice A4 x.f2.f2.length c4, .int .i64 x.f3.f0, .int .i64 x.f3.f1, .slice A7 x.f3.f2.length c7, .int .i64 x.f4.f0, .int .i64 x.f4.f1, .slice A10 x.f4.f2.length c10, .int .i64 x.f5.f0, .int .i64 x.f5.f1, .slice A13 x.f5.f2.length c13, .int .i64 x.f6.f0, .int .i64 x.f6.f1, .slice A16 x.f6.f2.length c16, .int .i64 x.f7.f0, .int .i64 x.f7.f1, .slice A19 x.f7.f2.length c19, .int .i64 x.f8.f0, .int .i64 x.f8.f1, .slice A22 x.f8.f2.length c22, .int .i64 x.f9.f0, .int .i64 x.f9.f1, .int .i64 x.f9.f2, .int .i64 x.f9.f3, .int .i64 x.f9.f4, .int .i64 x.f9.f5, .int .i64 x.f9.f6] ∧ x.f0.length ≤ c0 ∧ (Kd.int .i8).C w A0 x.f0.length x.f0 ∧ x.f1.length ≤ c1 ∧ (Kd.int .i8).C w A1 x.f1.length x.f1 ∧ x.f2.f2.length ≤ c4 ∧ (Kd.int .i8).C w A4 x.f2.f2.length x.f2.f2 ∧ x.f3.f2.length ≤ c7 ∧ (Kd.int .i8).C w A7 x.f3.f2.length x.f3.f2 ∧ x.f4.f2.length ≤ c10 ∧ (Kd.int .i8).C w A10 x.f4.f2.length x.f4.f2 ∧ x.f5.f2.length ≤ c13 ∧ (Kd.int .i8).C w A13 x.f5.f2.length x.f5.f2 ∧ x.f6.f2.length ≤ c16 ∧ (Kd.int .i8).C w A16 x.f6.f2.length x.f6.f2 ∧ x.f7.f2.length ≤ c19 ∧ (Kd.int .i8).C w A19 x.f7.f2.length x.f7.f2 ∧ x.f8.f2.length ≤ c22 ∧ (Kd.int .i8).C w A22 x.f8.f2.length x.f8.f2 := by
  obtain ⟨_, _, rfl, ⟨A0, c0, rfl, l0, g0⟩, ⟨_, _, rfl, ⟨A1, c1, rfl, l1, g1⟩, ⟨_, _, rfl, s2, ⟨_, _, rfl, s5, ⟨_, _, rfl, s8, ⟨_, _, rfl, s11, ⟨_, _, rfl, s14, ⟨_, _, rfl, s17, ⟨_, _, rfl, s20, s23⟩⟩⟩⟩⟩⟩⟩⟩⟩ := h
  obtain ⟨A4, c4, rfl, l4, g4⟩ := kM_open s2
  obtain ⟨A7, c7, rfl, l7, g7⟩ := kM_open s5
  obtain ⟨A10, c10, rfl, l10, g10⟩ := kM_open s8
  obtain ⟨A13, c13, rfl, l13, g13⟩ := kM_open s11
  obtain ⟨A16, c16, rfl, l16, g16⟩ := kM_open s14
  obtain ⟨A19, c19, rfl, l19, g19⟩ := kM_open s17
  obtain ⟨A22, c22, rfl, l22, g22⟩ := kM_open s20
  obtain rfl := kB_open s23
  exact ⟨A0, c0, A1, c1, A4, c4, A7, c7, A10, c10, A13, c13, A16, c16, A19, c19, A22, c22, rfl, l0, g0, l1, g1, l4, g4, l7, g7, l10, g10, l13, g13, l16, g16, l19, g19, l22, g22⟩
theorem kL_openM {w : World} {base : Nat} {ok : Nat → Prop} {x : SL} {cs : List Value} (h : kL.M w base ok x cs) : ∃ v0 v1 v4 v7 v10 v13 v16 v19 v22, cs = [v0, v1, .int .i64 x.f2.f0, .int .i64 x.f2.f1, v4, .int .i64 x.f3.f0, .int .i64 x.f3.f1, v7, .int .i64 x.f4.f0, .int .i64 x.f4.f1, v10, .int .i64 x.f5.f0, .int .i64 x.f5.f1, v13, .int .i64 x.f6.f0, .int .i64 x.f6.f1, v16, .int .i64 x.f7.f0, .int .i64 x.f7.f1, v19, .int .i64 x.f8.f0, .int .i64 x.f8.f1, v22, .int .i64 x.f9.f0, .int .i64 x.f9.f1, .int .i64 x.f9.f2, .int .i64 x.f9.f3, .int .i64 x.f9.f4, .int .i64 x.f9.f5, .int .i64 x.f9.f6] ∧ (Kd.int .i8).R 63 w base ok v0 x.f0 ∧ (Kd.int .i8).R 63 w base ok v1 x.f1 ∧ (Kd.int .i8).R 63 w base ok v4 x.f2.f2 ∧ (Kd.int .i8).R 63 w base ok v7 x.f3.f2 ∧ (Kd.int .i8).R 63 w base ok v10 x.f4.f2 ∧ (Kd.int .i8).R 63 w base ok v13 x.f5.f2 ∧ (Kd.int .i8).R 63 w base ok v16 x.f6.f2 ∧ (Kd.int .i8).R 63 w base ok v19 x.f7.f2 ∧ (Kd.int .i8).R 63 w base ok v22 x.f8.f2 := by
  obtain ⟨_, _, rfl, ⟨v0, rfl, g0⟩, ⟨_, _, rfl, ⟨v1, rfl, g1⟩, ⟨_, _, rfl, s2, ⟨_, _, rfl, s5, ⟨_, _, rfl, s8, ⟨_, _, rfl, s11, ⟨_, _, rfl, s14, ⟨_, _, rfl, s17, ⟨_, _, rfl, s20, s23⟩⟩⟩⟩⟩⟩⟩⟩⟩ := h
  obtain ⟨v4, rfl, g4⟩ := kM_openM s2
  obtain ⟨v7, rfl, g7⟩ := kM_openM s5
  obtain ⟨v10, rfl, g10⟩ := kM_openM s8
  obtain ⟨v13, rfl, g13⟩ := kM_openM s11
  obtain ⟨v16, rfl, g16⟩ := kM_openM s14
  obtain ⟨v19, rfl, g19⟩ := kM_openM s17
  obtain ⟨v22, rfl, g22⟩ := kM_openM s20
  obtain rfl := kB_openM s23
  exact ⟨v0, v1, v4, v7, v10, v13, v16, v19, v22, rfl, g0, g1, g4, g7, g10, g13, g16, g19, g22⟩
theorem kL_mk (w : World) (x : SL) {A0 : Option Addr} {c0 : Nat} (l0 : x.f0.length ≤ c0) (g0 : (Kd.int .i8).C w A0 x.f0.length x.f0) {A1 : Option Addr} {c1 : Nat} (l1 : x.f1.length ≤ c1) (g1 : (Kd.int .i8).C w A1 x.f1.length x.f1) {A4 : Option Addr} {c4 : Nat} (l4 : x.f2.f2.length ≤ c4) (g4 : (Kd.int .i8).C w A4 x.f2.f2.length x.f2.f2) {A7 : Option Addr} {c7 : Nat} (l7 : x.f3.f2.length ≤ c7) (g7 : (Kd.int .i8).C w A7 x.f3.f2.length x.f3.f2) {A10 : Option Addr} {c10 : Nat} (l10 : x.f4.f2.length ≤ c10) (g10 : (Kd.int .i8).C w A10 x.f4.f2.length x.f4.f2) {A13 : Option Addr} {c13 : Nat} (l13 : x.f5.f2.length ≤ c13) (g13 : (Kd.int .i8).C w A13 x.f5.f2.length x.f5.f2) {A16 : Option Addr} {c16 : Nat} (l16 : x.f6.f2.length ≤ c16) (g16 : (Kd.int .i8).C w A16 x.f6.f2.length x.f6.f2) {A19 : Option Addr} {c19 : Nat} (l19 : x.f7.f2.length ≤ c19) (g19 : (Kd.int .i8).C w A19 x.f7.f2.length x.f7.f2) {A22 : Option Addr} {c22 : Nat} (l22 : x.f8.f2.length ≤ c22) (g22 : (Kd.int .i8).C w A22 x.f8.f2.length x.f8.f2) : kL.K w x [.slice A0 x.f0.length c0, .slice A1 x.f1.length c1, .int .i64 x.f2.f0, .int .i64 x.f2.f1, .slice A4 x.f2.f2.length c4, .int .i64 x.f3.f0, .int .i64 x.f3.f1, .slice A7 x.f3.f2.length c7, .int .i64 x.f4.f0, .int .i64 x.f4.f1, .slice A10 x.f4.f2.length c10, .int .i64 x.f5.f0, .int .i64 x.f5.f1, .slice A13 x.f5.f2.length c13, .int .i64 x.f6.f0, .int .i64 x.f6.f1, .slice A16 x.f6.f2.length c16, .int .i64 x.f7.f0, .int .i64 x.f7.f1, .slice A19 x.f7.f2.length c19, .int .i64 x.f8.f0, .int .i64 x.f8.f1, .slice A22 x.f8.f2.length c22, .int .i64 x.f9.f0, .int .i64 x.f9.f1, .int .i64 x.f9.f2, .int .i64 x.f9.f3, .int .i64 x.f9.f4, .int .i64 x.f9.f5, .int .i64 x.f9.f6] := ⟨[.slice A0 x.f0.length c0], [.slice A1 x.f1.length c1, .int .i64 x.f2.f0, .int .i64 x.f2.f1, .slice A4 x.f2.f2.length c4, .int .i64 x.f3.f0, .int .i64 x.f3.f1, .slice A7 x.f3.f2.length c7, .int .i64 x.f4.f0, .int .i64 x.f4.f1, .slice A10 x.f4.f2.length c10, .int .i64 x.f5.f0, .int .i64 x.f5.f1, .slice A13 x.f5.f2.length c13, .int .i64 x.f6.f0, .int .i64 x.f6.f1, .slice A16 x.f6.f2.length c16, .int .i64 x.f7.f0, .int .i64 x.f7.f1, .slice A19 x.f7.f2.length c19, .int .i64 x.f8.f0, .int .i64 x.f8.f1, .slice A22 x.f8.f2.length c22, .int .i64 x.f9.f0, .int .i64 x.f9.f1, .int .i64 x.f9.f2, .int .i64 x.f9.f3, .int .i64 x.f9.f4, .int .i64 x.f9.f5, .int .i64 x.f9.f6], rfl, ⟨A0, c0, rfl, l0, g0⟩, ⟨[.slice A1 x.f1.length c1], [.int .i64 x.f2.f0, .int .i64 x.f2.f1, .slice A4 x.f2.f2.length c4, .int .i64 x.f3.f0, .int .i64 x.f3.f1, .slice A7 x.f3.f2.length c7, .int .i64 x.f4.f0, .int .i64 x.f4.f1, .slice A10 x.f4.f2.length c10, .int .i64 x.f5.f0, .int .i64 x.f5.f1, .slice A13 x.f5.f2.length c13, .int .i64 x.f6.f0, .int .i64 x.f6.f1, .slice A16 x.f6.f2.length c16, .int .i64 x.f7.f0, .int .i64 x.f7.f1, .slice A19 x.f7.f2.length c19, .int .i64 x.f8.f0, .int .i64 x.f8.f1, .slice A22 x.f8.f2.length c22, .int .i64 x.f9.f0, .int .i64 x.f9.f1, .int .i64 x.f9.f2, .int .i64 x.f9.f3, .int .i64 x.f9.f4, .int .i64 x.f9.f5, .int .i64 x.f9.f6], rfl, ⟨A1, c1, rfl, l1, g1⟩, ⟨[.int .i64 x.f2.f0, .int .i64 x.f2.f1, .slice A4 x.f2.f2.length c4], [.int .i64 x.f3.f0, .int .i64 x.f3.f1, .slice A7 x.f3.f2.length c7, .int .i64 x.f4.f0, .int .i64 x.f4.f1, .slice A10 x.f4.f2.length c10, .int .i64 x.f5.f0, .int .i64 x.f5.f1, .slice A13 x.f5.f2.length c13, .int .i64 x.f6.f0, .int .i64 x.f6.f1, .slice A16 x.f6.f2.length c16, .int .i64 x.f7.f0, .int .i64 x.f7.f1, .slice A19 x.f7.f2.length c19, .int .i64 x.f8.f0, .int .i64 x.f8.f1, .slice A22 x.f8.f2.length c22, .int .i64 x.f9.f0, .int .i64 x.f9.f1, .int .i64 x.f9.f2, .int .i64 x.f9.f3, .int .i64 x.f9.f4, .int .i64 x.f9.f5, .int .i64 x.f9.f6], rfl, (kM_mk w x.f2 l4 g4), ⟨[.int .i64 x.f3.f0, .int .i64 x.f3.f1, .slice A7 x.f3.f2.length c7], [.int .i64 x.f4.f0, .int .i64 x.f4.f1, .slice A10 x.f4.f2.length c10, .int .i64 x.f5.f0, .int .i64 x.f5.f1, .slice A13 x.f5.f2.length c13, .int .i64 x.f6.f0, .int .i64 x.f6.f1, .slice A16 x.f6.f2.length c16, .int .i64 x.f7.f0, .int .i64 x.f7.f1, .slice A19 x.f7.f2.length c19, .int .i64 x.f8.f0, .int .i64 x.f8.f1, .slice A22 x.f8.f2.length c22, .int .i64 x.f9.f0, .int .i64 x.f9.f1, .int .i64 x.f9.f2, .int .i64 x.f9.f3, .int .i64 x.f9.f4, .int .i64 x.f9.f5, .int .i64 x.f9.f6], rfl, (kM_mk w x.f3 l7 g7), ⟨[.int .i64 x.f4.f0, .int .i64 x.f4.f1, .slice A10 x.f4.f2.length c10], [.int .i64 x.f5.f0, .int .i64 x.f5.f1, .slice A13 x.f5.f2.length c13, .int .i64 x.f6.f0, .int .i64 x.f6.f1, .slice A16 x.f6.f2.length c16, .int .i64 x.f7.f0, .int .i64 x.f7.f1, .slice A19 x.f7.f2.length c19, .int .i64 x.f8.f0, .int .i64 x.f8.f1, .slice A22 x.f8.f2.length c22, .int .i64 x.f9.f0, .int .i64 x.f9.f1, .int .i64 x.f9.f2, .int .i64 x.f9.f3, .int .i64 x.f9.f4, .int .i64 x.f9.f5, .int .i64 x.f9.f6], rfl, (kM_mk w x.f4 l10 g10), ⟨[.int .i64 x.f5.f0, .int .i64 x.f5.f1, .slice A13 x.f5.f2.length c13], [.int .i64 x.f6.f0, .int .i64 x.f6.f1, .slice A16 x.f6.f2.length c16, .int .i64 x.f7.f0, .int .i64 x.f7.f1, .slice A19 x.f7.f2.length c19, .int .i64 x.f8.f0, .int .i64 x.f8.f1, .slice A22 x.f8.f2.length c22, .int .i64 x.f9.f0, .int .i64 x.f9.f1, .int .i64 x.f9.f2, .int .i64 x.f9.f3, .int .i64 x.f9.f4, .int .i64 x.f9.f5, .int .i64 x.f9.f6], rfl, (kM_mk w x.f5 l13 g13), ⟨[.int .i64 x.f6.f0, .int .i64 x.f6.f1, .slice A16 x.f6.f2.length c16], [.int .i64 x.f7.f0, .int .i64 x.f7.f1, .slice A19 x.f7.f2.length c19, .int .i64 x.f8.f0, .int .i64 x.f8.f1, .slice A22 x.f8.f2.length c22, .int .i64 x.f9.f0, .int .i64 x.f9.f1, .int .i64 x.f9.f2, .int .i64 x.f9.f3, .int .i64 x.f9.f4, .int .i64 x.f9.f5, .int .i64 x.f9.f6], rfl, (kM_mk w x.f6 l16 g16), ⟨[.int .i64 x.f7.f0, .int .i64 x.f7.f1, .slice A19 x.f7.f2.length c19], [.int .i64 x.f8.f0, .int .i64 x.f8.f1, .slice A22 x.f8.f2.length c22, .int .i64 x.f9.f0, .int .i64 x.f9.f1, .int .i64 x.f9.f2, .int .i64 x.f9.f3, .int .i64 x.f9.f4, .int .i64 x.f9.f5, .int .i64 x.f9.f6], rfl, (kM_mk w x.f7 l19 g19), ⟨[.int .i64 x.f8.f0, .int .i64 x.f8.f1, .slice A22 x.f8.f2.length c22], [.int .i64 x.f9.f0, .int .i64 x.f9.f1, .int .i64 x.f9.f2, .int .i64 x.f9.f3, .int .i64 x.f9.f4, .int .i64 x.f9.f5, .int .i64 x.f9.f6], rfl, (kM_mk w x.f8 l22 g22), (kB_mk w x.f9 )⟩⟩⟩⟩⟩⟩⟩⟩⟩
theorem kL_mkM (w : World) (base : Nat) (ok : Nat → Prop) (x : SL) {v0 : Value} (g0 : (Kd.int .i8).R 63 w base ok v0 x.f0) {v1 : Value} (g1 : (Kd.int .i8).R 63 w base ok v1 x.f1) {v4 : Value} (g4 : (Kd.int .i8).R 63 w base ok v4 x.f2.f2) {v7 : Value} (g7 : (Kd.int .i8).R 63 w base ok v7 x.f3.f2) {v10 : Value} (g10 : (Kd.int .i8).R 63 w base ok v10 x.f4.f2) {v13 : Value} (g13 : (Kd.int .i8).R 63 w base ok v13 x.f5.f2) {v16 : Value} (g16 : (Kd.int .i8).R 63 w base ok v16 x.f6.f2) {v19 : Value} (g19 : (Kd.int .i8).R 63 w base ok v19 x.f7.f2) {v22 : Value} (g22 : (Kd.int .i8).R 63 w base ok v22 x.f8.f2) : kL.M w base ok x [v0, v1, .int .i64 x.f2.f0, .int .i64 x.f2.f1, v4, .int .i64 x.f3.f0, .int .i64 x.f3.f1, v7, .int .i64 x.f4.f0, .int .i64 x.f4.f1, v10, .int .i64 x.f5.f0, .int .i64 x.f5.f1, v13, .int .i64 x.f6.f0, .int .i64 x.f6.f1, v16, .int .i64 x.f7.f0, .int .i64 x.f7.f1, v19, .int .i64 x.f8.f0, .int .i64 x.f8.f1, v22, .int .i64 x.f9.f0, .int .i64 x.f9.f1, .int .i64 x.f9.f2, .int .i64 x.f9.f3, .int .i64 x.f9.f4, .int .i64 x.f9.f5, .int .i64 x.f9.f6] := ⟨[v0], [v1, .int .i64 x.f2.f0, .int .i64 x.f2.f1, v4, .int .i64 x.f3.f0, .int .i64 x.f3.f1, v7, .int .i64 x.f4.f0, .int .i64 x.f4.f1, v10, .int .i64 x.f5.f0, .int .i64 x.f5.f1, v13, .int .i64 x.f6.f0, .int .i64 x.f6.f1, v16, .int .i64 x.f7.f0, .int .i64 x.f7.f1, v19, .int .i64 x.f8.f0, .int .i64 x.f8.f1, v22, .int .i64 x.f9.f0, .int .i64 x.f9.f1, .int .i64 x.f9.f2, .int .i64 x.f9.f3, .int .i64 x.f9.f4, .int .i64 x.f9.f5, .int .i64 x.f9.f6], rfl, ⟨v0, rfl, g0⟩, ⟨[v1], [.int .i64 x.f2.f0, .int .i64 x.f2.f1, v4, .int .i64 x.f3.f0, .int .i64 x.f3.f1, v7, .int .i64 x.f4.f0, .int .i64 x.f4.f1, v10, .int .i64 x.f5.f0, .int .i64 x.f5.f1, v13, .int .i64 x.f6.f0, .int .i64 x.f6.f1, v16, .int .i64 x.f7.f0, .int .i64 x.f7.f1, v19, .int .i64 x.f8.f0, .int .i64 x.f8.f1, v22, .int .i64 x.f9.f0, .int .i64 x.f9.f1, .int .i64 x.f9.f2, .int .i64 x.f9.f3, .int .i64 x.f9.f4, .int .i64 x.f9.f5, .int .i64 x.f9.f6], rfl, ⟨v1, rfl, g1⟩, ⟨[.int .i64 x.f2.f0, .int .i64 x.f2.f1, v4], [.int .i64 x.f3.f0, .int .i64 x.f3.f1, v7, .int .i64 x.f4.f0, .int .i64 x.f4.f1, v10, .int .i64 x.f5.f0, .int .i64 x.f5.f1, v13, .int .i64 x.f6.f0, .int .i64 x.f6.f1, v16, .int .i64 x.f7.f0, .int .i64 x.f7.f1, v19, .int .i64 x.f8.f0, .int .i64 x.f8.f1, v22, .int .i64 x.f9.f0, .int .i64 x.f9.f1, .int .i64 x.f9.f2, .int .i64 x.f9.f3, .int .i64 x.f9.f4, .int .i64 x.f9.f5, .int .i64 x.f9.f6], rfl, (kM_mkM w base ok x.f2 g4), ⟨[.int .i64 x.f3.f0, .int .i64 x.f3.f1, v7], [.int .i64 x.f4.f0, .int .i64 x.f4.f1, v10, .int .i64 x.f5.f0, .int .i64 x.f5.f1, v13, .int .i64 x.f6.f0, .int .i64 x.f6.f1, v16, .int .i64 x.f7.f0, .int .i64 x.f7.f1, v19, .int .i64 x.f8.f0, .int .i64 x.f8.f1, v22, .int .i64 x.f9.f0, .int .i64 x.f9.f1, .int .i64 x.f9.f2, .int .i64 x.f9.f3, .int .i64 x.f9.f4, .int .i64 x.f9.f5, .int .i64 x.f9.f6], rfl, (kM_mkM w base ok x.f3 g7), ⟨[.int .i64 x.f4.f0, .int .i64 x.f4.f1, v10], [.int .i64 x.f5.f0, .int .i64 x.f5.f1, v13, .int .i64 x.f6.f0, .int .i64 x.f6.f1, v16, .int .i64 x.f7.f0, .int .i64 x.f7.f1, v19, .int .i64 x.f8.f0, .int .i64 x.f8.f1, v22, .int .i64 x.f9.f0, .int .i64 x.f9.f1, .int .i64 x.f9.f2, .int .i64 x.f9.f3, .int .i64 x.f9.f4, .int .i64 x.f9.f5, .int .i64 x.f9.f6], rfl, (kM_mkM w base ok x.f4 g10), ⟨[.int .i64 x.f5.f0, .int .i64 x.f5.f1, v13], [.int .i64 x.f6.f0, .int .i64 x.f6.f1, v16, .int .i64 x.f7.f0, .int .i64 x.f7.f1, v19, .int .i64 x.f8.f0, .int .i64 x.f8.f1, v22, .int .i64 x.f9.f0, .int .i64 x.f9.f1, .int .i64 x.f9.f2, .int .i64 x.f9.f3, .int .i64 x.f9.f4, .int .i64 x.f9.f5, .int .i64 x.f9.f6], rfl, (kM_mkM w base ok x.f5 g13), ⟨[.int .i64 x.f6.f0, .int .i64 x.f6.f1, v16], [.int .i64 x.f7.f0, .int .i64 x.f7.f1, v19, .int .i64 x.f8.f0, .int .i64 x.f8.f1, v22, .int .i64 x.f9.f0, .int .i64 x.f9.f1, .int .i64 x.f9.f2, .int .i64 x.f9.f3, .int .i64 x.f9.f4, .int .i64 x.f9.f5, .int .i64 x.f9.f6], rfl, (kM_mkM w base ok x.f6 g16), ⟨[.int .i64 x.f7.f0, .int .i64 x.f7.f1, v19], [.int .i64 x.f8.f0, .int .i64 x.f8.f1, v22, .int .i64 x.f9.f0, .int .i64 x.f9.f1, .int .i64 x.f9.f2, .int .i64 x.f9.f3, .int .i64 x.f9.f4, .int .i64 x.f9.f5, .int .i64 x.f9.f6], rfl, (kM_mkM w base ok x.f7 g19), ⟨[.int .i64 x.f8.f0, .int .i64 x.f8.f1, v22], [.int .i64 x.f9.f0, .int .i64 x.f9.f1, .int .i64 x.f9.f2, .int .i64 x.f9.f3, .int .i64 x.f9.f4, .int .i64 x.f9.f5, .int .i64 x.f9.f6], rfl, (kM_mkM w base ok x.f8 g22), (kB_mkM w base ok x.f9 )⟩⟩⟩⟩⟩⟩⟩⟩⟩
def rd_L (xs : List SL) (i : Int) : SL := xs.getD i.toNat zL
theorem at_L {w : World} {A : Option Addr} {n : Nat} {xs : List SL} (h : Kd.C kL w A n xs) (i : Int) (h0 : 0 ≤ i) (h1 : i < n) : ∃ ad A0 c0 A1 c1 A4 c4 A7 c7 A10 c10 A13 c13 A16 c16 A19 c19 A22 c22, A = some ad ∧ w.cell? (ad.add (i.toNat * 30)) = some (.slice A0 (rd_L xs i).f0.length c0) ∧ w.cell? ⟨(ad.add (i.toNat * 30)).block, (ad.add (i.toNat * 30)).off + 1, none⟩ = some (.slice A1 (rd_L xs i).f1.length c1) ∧ w.cell? ⟨(ad.add (i.toNat * 30)).block, (ad.add (i.toNat * 30)).off + 2, none⟩ = some (.int .i64 (rd_L xs i).f2.f0) ∧ w.cell? ⟨(ad.add (i.toNat * 30)).block, (ad.add (i.toNat * 30)).off + 3, none⟩ = some (.int .i64 (rd_L xs i).f2.f1) ∧ w.cell? ⟨(ad.add (i.toNat * 30)).block, (ad.add (i.toNat * 30)).off + 4, none⟩ = some (.slice A4 (rd_L xs i).f2.f2.length c4) ∧ w.cell? ⟨(ad.add (i.toNat * 30)).block, (ad.add (i.toNat * 30)).off + 5, none⟩ = some (.int .i64 (rd_L xs i).f3.f0) ∧ w.cell? ⟨(ad.add (i.toNat * 30)).block, (ad.add (i.toNat * 30)).off + 6, none⟩ = some (.int .i64 (rd_L xs i).f3.f1) ∧ w.cell? ⟨(ad.add (i.toNat * 30)).block, (ad.add (i.toNat * 30)).off + 7, none⟩ = some (.slice A7 (rd_L xs i).f3.f2.length c7) ∧ w.cell? ⟨(ad.add (i.toNat * 30)).block, (ad.add (i.toNat * 30)).off + 8, none⟩ = some (.int .i64 (rd_L xs i).f4.f0) ∧ w.cell? ⟨(ad.add (i.toNat * 30)).block, (ad.add (i.toNat * 30)).off + 9, none⟩ = some (.int .i64 (rd_L xs i).f4.f1) ∧ w.cell? ⟨(ad.add (i.toNat * 30)).block, (ad.add (i.toNat * 30)).off + 10, none⟩ = some (.slice A10 (rd_L xs i).f4.f2.length c10) ∧ w.cell? ⟨(ad.add (i.toNat * 30)).block, (ad.add (i.toNat * 30)).off + 11, none⟩ = some (.int .i64 (rd_L xs i).f5.f0) ∧ w.cell? ⟨(ad.add (i.toNat * 30)).block, (ad.add (i.toNat * 30)).off + 12, none⟩ = some (.int .i64 (rd_L xs i).f5.f1) ∧ w.cell? ⟨(ad.add (i.toNat * 30)).block, (ad.add (i.toNat * 30)).off + 13, none⟩ = some (.slice A13 (rd_L xs i).f5.f2.length c13) ∧ w.cell? ⟨(ad.add (i.toNat * 30)).block, (ad.add (i.toNat * 30)).off + 14, none⟩ = some (.int .i64 (rd_L xs i).f6.f0) ∧ w.cell? ⟨(ad.add (i.toNat * 30)).block, (ad.add (i.toNat * 30)).off + 15, none⟩ = some (.int .i64 (rd_L xs i).f6.f1) ∧ w.cell? ⟨(ad.add (i.toNat * 30)).block, (ad.add (i.toNat * 30)).off + 16, none⟩ = some (.slice A16 (rd_L xs i).f6.f2.length c16) ∧ w.cell? ⟨(ad.add (i.toNat * 30)).block, (ad.add (i.toNat * 30)).off + 17, none⟩ = some (.int .i64 (rd_L xs i).f7.f0) ∧ w.cell? ⟨(ad.add (i.toNat * 30)).block, (ad.add (i.toNat * 30)).off + 18, none⟩ = some (.int .i64 (rd_L xs i).f7.f1) ∧ w.cell? ⟨(ad.add (i.toNat * 30)).block, (ad.add (i.toNat * 30)).off + 19, none⟩ = some (.slice A19 (rd_L xs i).f7.f2.length c19) ∧ w.cell? ⟨(ad.add (i.toNat * 30)).block, (ad.add (i.toNat * 30)).off + 20, none⟩ = some (.int .i64 (rd_L xs i).f8.f0) ∧ w.cell? ⟨(ad.add (i.toNat * 30)).block, (ad.add (i.toNat * 30)).off + 21, none⟩ = some (.int .i64 (rd_L xs i).f8.f1) ∧ w.cell? ⟨(ad.add (i.toNat * 30)).block, (ad.add (i.toNat * 30)).off + 22, none⟩ = some (.slice A22 (rd_L xs i).f8.f2.length c22) ∧ w.cell? ⟨(ad.add (i.toNat * 30)).block, (ad.add (i.toNat * 30)).off + 23, none⟩ = some (.int .i64 (rd_L xs i).f9.f0) ∧ w.cell? ⟨(ad.add (i.toNat * 30)).block, (ad.add (i.toNat * 30)).off + 24, none⟩ = some (.int .i64 (rd_L xs i).f9.f1) ∧ w.cell? ⟨(ad.add (i.toNat * 30)).block, (ad.add (i.toNat * 30)).off + 25, none⟩ = some (.int .i64 (rd_L xs i).f9.f2) ∧ w.cell? ⟨(ad.add (i.toNat * 30)).block, (ad.add (i.toNat * 30)).off + 26, none⟩ = some (.int .i64 (rd_L xs i).f9.f3) ∧ w.cell? ⟨(ad.add (i.toNat * 30)).block, (ad.add (i.toNat * 30)).off + 27, none⟩ = some (.int .i64 (rd_L xs i).f9.f4) ∧ w.cell? ⟨(ad.add (i.toNat * 30)).block, (ad.add (i.toNat * 30)).off + 28, none⟩ = some (.int .i64 (rd_L xs i).f9.f5) ∧ w.cell? ⟨(ad.add (i.toNat * 30)).block, (ad.add (i.toNat * 30)).off + 29, none⟩ = some (.int .i64 (rd_L xs i).f9.f6) ∧ (rd_L xs i).f0.length ≤ c0 ∧ (Kd.int .i8).C w A0 (rd_L xs i).f0.length (rd_L xs i).f0 ∧ (rd_L xs i).f1.length ≤ c1 ∧ (Kd.int .i8).C w A1 (rd_L xs i).f1.length (rd_L xs i).f1 ∧ (rd_L xs i).f2.f2.length ≤ c4 ∧ (Kd.int .i8).C w A4 (rd_L xs i).f2.f2.length (rd_L xs i).f2.f2 ∧ (rd_L xs i).f3.f2.length ≤ c7 ∧ (Kd.int .i8).C w A7 (rd_L xs i).f3.f2.length (rd_L xs i).f3.f2 ∧ (rd_L xs i).f4.f2.length ≤ c10 ∧ (Kd.int .i8).C w A10 (rd_L xs i).f4.f2.length (rd_L xs i).f4.f2 ∧ (rd_L xs i).f5.f2.length ≤ c13 ∧ (Kd.int .i8).C w A13 (rd_L xs i).f5.f2.length (rd_L xs i).f5.f2 ∧ (rd_L xs i).f6.f2.length ≤ c16 ∧ (Kd.int .i8).C w A16 (rd_L xs i).f6.f2.length (rd_L xs i).f6.f2 ∧ (rd_L xs i).f7.f2.length ≤ c19 ∧ (Kd.int .i8).C w A19 (rd_L xs i).f7.f2.length (rd_L xs i).f7.f2 ∧ (rd_L xs i).f8.f2.length ≤ c22 ∧ (Kd.int .i8).C w A22 (rd_L xs i).f8.f2.length (rd_L xs i).f8.f2 := by
  obtain ⟨ad, c, e, _, hK, hc0⟩ := Kd.C_get h zL i h0 h1
  have hc : ∀ j u, c[j]? = some u → w.cell? (ad.add (i.toNat * 30 + j)) = some u := hc0
  obtain ⟨A0, c0, A1, c1, A4, c4, A7, c7, A10, c10, A13, c13, A16, c16, A19, c19, A22, c22, rfl, l0, g0, l1, g1, l4, g4, l7, g7, l10, g10, l13, g13, l16, g16, l19, g19, l22, g22⟩ := kL_open hK
  exact ⟨ad, A0, c0, A1, c1, A4, c4, A7, c7, A10, c10, A13, c13, A16, c16, A19, c19, A22, c22, e, hc 0 _ rfl, by rw [← add_field _ _ 1 (by omega)]; exact hc 1 _ rfl, by rw [← add_field _ _ 2 (by omega)]; exact hc 2 _ rfl, by rw [← add_field _ _ 3 (by omega)]; exact hc 3 _ rfl, by rw [← add_field _ _ 4 (by omega)]; exact hc 4 _ rfl, by rw [← add_field _ _ 5 (by omega)]; exact hc 5 _ rfl, by rw [← add_field _ _ 6 (by omega)]; exact hc 6 _ rfl, by rw [← add_field _ _ 7 (by omega)]; exact hc 7 _ rfl, by rw [← add_field _ _ 8 (by omega)]; exact hc 8 _ rfl, by rw [← add_field _ _ 9 (by omega)]; exact hc 9 _ rfl, by rw [← add_field _ _ 10 (by omega)]; exact hc 10 _ rfl, by rw [← add_field _ _ 11 (by omega)]; exact hc 11 _ rfl, by rw [← add_field _ _ 12 (by omega)]; exact hc 12 _ rfl, by rw [← add_field _ _ 13 (by omega)]; exact hc 13 _ rfl, by rw [← add_field _ _ 14 (by omega)]; exact hc 14 _ rfl, by rw [← add_field _ _ 15 (by omega)]; exact hc 15 _ rfl, by rw [← add_field _ _ 16 (by omega)]; exact hc 16 _ rfl, by rw [← add_field _ _ 17 (by omega)]; exact hc 17 _ rfl, by rw [← add_field _ _ 18 (by omega)]; exact hc 18 _ rfl, by rw [← add_field _ _ 19 (by omega)]; exact hc 19 _ rfl, by rw [← add_field _ _ 20 (by omega)]; exact hc 20 _ rfl, by rw [← add_field _ _ 21 (by omega)]; exact hc 21 _ rfl, by rw [← add_field _ _ 22 (by omega)]; exact hc 22 _ rfl, by rw [← add_field _ _ 23 (by omega)]; exact hc 23 _ rfl, by rw [← add_field _ _ 24 (by omega)]; exact hc 24 _ rfl, by rw [← add_field _ _ 25 (by omega)]; exact hc 25 _ rfl, by rw [← add_field _ _ 26 (by omega)]; exact hc 26 _ rfl, by rw [← add_field _ _ 27 (by omega)]; exact hc 27 _ rfl, by rw [← add_field _ _ 28 (by omega)]; exact hc 28 _ rfl, by rw [← add_field _ _ 29 (by omega)]; exact hc 29 _ rfl, l0, g0, l1, g1, l4, g4, l7, g7, l10, g10, l13, g13, l16, g16, l19, g19, l22, g22⟩

def rd_us (xs : List (List SU)) (i : Int) : (List SU) := xs.getD i.toNat ([] : List SU)
theorem at_us {w : World} {A : Option Addr} {n : Nat} {xs : List (List SU)} (h : Kd.C (Kd.slice 117 kU) w A n xs) (i : Int) (h0 : 0 ≤ i) (h1 : i < n) : ∃ ad A0 c0, A = some ad ∧ w.cell? (ad.add i.toNat) = some (.slice A0 (rd_us xs i).length c0) ∧ (rd_us xs i).length ≤ c0 ∧ kU.C w A0 (rd_us xs i).length (rd_us xs i) := by
  obtain ⟨ad, c, e, _, hK, hc0⟩ := Kd.C_get h ([] : List SU) i h0 h1
  have hc : ∀ j u, c[j]? = some u → w.cell? (ad.add (i.toNat * 1 + j)) = some u := hc0
  obtain ⟨A0, c0, rfl, l0, g0⟩ := hK
  exact ⟨ad, A0, c0, e, by have hq := hc 0 _ rfl; rwa [Nat.mul_one, Nat.add_zero] at hq, l0, g0⟩

def rd_ls (xs : List (List SL)) (i : Int) : (List SL) := xs.getD i.toNat ([] : List SL)
theorem at_ls {w : World} {A : Option Addr} {n : Nat} {xs : List (List SL)} (h : Kd.C (Kd.slice 108 kL) w A n xs) (i : Int) (h0 : 0 ≤ i) (h1 : i < n) : ∃ ad A0 c0, A = some ad ∧ w.cell? (ad.add i.toNat) = some (.slice A0 (rd_ls xs i).length c0) ∧ (rd_ls xs i).length ≤ c0 ∧ kL.C w A0 (rd_ls xs i).length (rd_ls xs i) := by
  obtain ⟨ad, c, e, _, hK, hc0⟩ := Kd.C_get h ([] : List SL) i h0 h1
  have hc : ∀ j u, c[j]? = some u → w.cell? (ad.add (i.toNat * 1 + j)) = some u := hc0
  obtain ⟨A0, c0, rfl, l0, g0⟩ := hK
  exact ⟨ad, A0, c0, e, by have hq := hc 0 _ rfl; rwa [Nat.mul_one, Nat.add_zero] at hq, l0, g0⟩

def rd_ms (xs : List (List SM)) (i : Int) : (List SM) := xs.getD i.toNat ([] : List SM)
theorem at_ms {w : World} {A : Option Addr} {n : Nat} {xs : List (List SM)} (h : Kd.C (Kd.slice 26 kM) w A n xs) (i : Int) (h0 : 0 ≤ i) (h1 : i < n) : ∃ ad A0 c0, A = some ad ∧ w.cell? (ad.add i.toNat) = some (.slice A0 (rd_ms xs i).length c0) ∧ (rd_ms xs i).length ≤ c0 ∧ kM.C w A0 (rd_ms xs i).length (rd_ms xs i) := by
  obtain ⟨ad, c, e, _, hK, hc0⟩ := Kd.C_get h ([] : List SM) i h0 h1
  have hc : ∀ j u, c[j]? = some u → w.cell? (ad.add (i.toNat * 1 + j)) = some u := hc0
  obtain ⟨A0, c0, rfl, l0, g0⟩ := hK
  exact ⟨ad, A0, c0, e, by have hq := hc 0 _ rfl; rwa [Nat.mul_one, Nat.add_zero] at hq, l0, g0⟩

/-! #### struct type 31 -/
structure SW where
  f0 : SC
  f1 : SM
  f2 : (List SU)
  f3 : (List SL)
  f4 : (List Int)
  f5 : SM
  f6 : (List SM)
def zW : SW := ⟨zC, zM, ([] : List SU), ([] : List SL), ([] : List Int), zM, ([] : List SM)⟩
def kW : Kd SW := Kd.iso (Kd.pair kC (Kd.pair kM (Kd.pair (Kd.slice 117 kU) (Kd.pair (Kd.slice 108 kL) (Kd.pair (Kd.slice 63 (Kd.int .i8)) (Kd.pair kM (Kd.slice 26 kM))))))) (fun x : SW => (x.f0, x.f1, x.f2, x.f3, x.f4, x.f5, x.f6))
theorem kW_open {w : World} {x : SW} {cs : List Value} (h : kW.K w x cs) : ∃ A10 c10 A11 c11 A12 c12 A13 c13 A16 c16 A17 c17, cs = [.int .i64 x.f0.f0, .int .i64 x.f0.f1, .int .i64 x.f0.f2, .int .i64 x.f0.f3, .int .i64 x.f0.f4, .int .i64 x.f0.f5, .int .i64 x.f0.f6, .int .i64 x.f0.f7, .int .i64 x.f1.f0, .int .i64 x.f1.f1, .slice A10 x.f1.f2.length c10, .slice A11 x.f2.length c11, .slice A12 x.f3.length c12, .slice A13 x.f4.length c13, .int .i64 x.f5.f0, .int .i64 x.f5.f1, .slice A16 x.f5.f2.length c16, .slice A17 x.f6.length c17] ∧ x.f1.f2.length ≤ c10 ∧ (Kd.int .i8).C w A10 x.f1.f2.length x.f1.f2 ∧ x.f2.length ≤ c11 ∧ kU.C w A11 x.f2.length x.f2 ∧ x.f3.length ≤ c12 ∧ kL.C w A12 x.f3.length x.f3 ∧ x.f4.length ≤ c13 ∧ (Kd.int .i8).C w A13 x.f4.length x.f4 ∧ x.f5.f2.length ≤ c16 ∧ (Kd.int .i8).C w A16 x.f5.f2.length x.f5.f2 ∧ x.f6.length ≤ c17 ∧ kM.C w A17 x.f6.length x.f6 := by
  obtain ⟨_, _, rfl, s0, ⟨_, _, rfl, s8, ⟨_, _, rfl, ⟨A11, c11, rfl, l11, g11⟩, ⟨_, _, rfl, ⟨A12, c12, rfl, l12, g12⟩, ⟨_, _, rfl, ⟨A13, c13, rfl, l13, g13⟩, ⟨_, _, rfl, s14, ⟨A17, c17, rfl, l17, g17⟩⟩⟩⟩⟩⟩⟩ := h
  obtain rfl := kC_open s0
  obtain ⟨A10, c10, rfl, l10, g10⟩ := kM_open s8
  obtain ⟨A16, c16, rfl, l16, g16⟩ := kM_open s14
  exact ⟨A10, c10, A11, c11, A12, c12, A13, c13, A16, c16, A17, c17, rfl, l10, g10, l11, g11, l12, g12, l13, g13, l16, g16, l17, g17⟩
theorem kW_openM {w : World} {base : Nat} {ok : Nat → Prop} {x : SW} {cs : List Value} (h : kW.M w base ok x cs) : ∃ v10 v11 v12 v13 v16 v17, cs = [.int .i64 x.f0.f0, .int .i64 x.f0.f1, .int .i64 x.f0.f2, .int .i64 x.f0.f3, .int .i64 x.f0.f4, .int .i64 x.f0.f5, .int .i64 x.f0.f6, .int .i64 x.f0.f7, .int .i64 x.f1.f0, .int .i64 x.f1.f1, v10, v11, v12, v13, .int .i64 x.f5.f0, .int .i64 x.f5.f1, v16, v17] ∧ (Kd.int .i8).R 63 w base ok v10 x.f1.f2 ∧ kU.R 117 w base ok v11 x.f2 ∧ kL.R 108 w base ok v12 x.f3 ∧ (Kd.int .i8).R 63 w base ok v13 x.f4 ∧ (Kd.int .i8).R 63 w base ok v16 x.f5.f2 ∧ kM.R 26 w base ok v17 x.f6 := by
  obtain ⟨_, _, rfl, s0, ⟨_, _, rfl, s8, ⟨_, _, rfl, ⟨v11, rfl, g11⟩, ⟨_, _, rfl, ⟨v12, rfl, g12⟩, ⟨_, _, rfl, ⟨v13, rfl, g13⟩, ⟨_, _, rfl, s14, ⟨v17, rfl, g17⟩⟩⟩⟩⟩⟩⟩ := h
  obtain rfl := kC_openM s0
  obtain ⟨v10, rfl, g10⟩ := kM_openM s8
  obtain ⟨v16, rfl, g16⟩ := kM_openM s14
  exact ⟨v10, v11, v12, v13, v16, v17, rfl, g10, g11, g12, g13, g16, g17⟩
theorem kW_mk (w : World) (x : SW) {A10 : Option Addr} {c10 : Nat} (l10 : x.f1.f2.length ≤ c10) (g10 : (Kd.int .i8).C w A10 x.f1.f2.length x.f1.f2) {A11 : Option Addr} {c11 : Nat} (l11 : x.f2.length ≤ c11) (g11 : kU.C w A11 x.f2.length x.f2) {A12 : Option Addr} {c12 : Nat} (l12 : x.f3.length ≤ c12) (g12 : kL.C w A12 x.f3.length x.f3) {A13 : Option Addr} {c13 : Nat} (l13 : x.f4.length ≤ c13) (g13 : (Kd.int .i8).C w A13 x.f4.length x.f4) {A16 : Option Addr} {c16 : Nat} (l16 : x.f5.f2.length ≤ c16) (g16 : (Kd.int .i8).C w A16 x.f5.f2.length x.f5.f2) {A17 : Option Addr} {c17 : Nat} (l17 : x.f6.length ≤ c17) (g17 : kM.C w A17 x.f6.length x.f6) : kW.K w x [.int .i64 x.f0.f0, .int .i64 x.f0.f1, .int .i64 x.f0.f2, .int .i64 x.f0.f3, .int .i64 x.f0.f4, .int .i64 x.f0.f5, .int .i64 x.f0.f6, .int .i64 x.f0.f7, .int .i64 x.f1.f0, .int .i64 x.f1.f1, .slice A10 x.f1.f2.length c10, .slice A11 x.f2.length c11, .slice A12 x.f3.length c12, .slice A13 x.f4.length c13, .int .i64 x.f5.f0, .int .i64 x.f5.f1, .slice A16 x.f5.f2.length c16, .slice A17 x.f6.length c17] := ⟨[.int .i64 x.f0.f0, .int .i64 x.f0.f1, .int .i64 x.f0.f2, .int .i64 x.f0.f3, .int .i64 x.f0.f4, .int .i64 x.f0.f5, .int .i64 x.f0.f6, .int .i64 x.f0.f7], [.int .i64 x.f1.f0, .int .i64 x.f1.f1, .slice A10 x.f1.f2.length c10, .slice A11 x.f2.length c11, .slice A12 x.f3.length c12, .slice A13 x.f4.length c13, .int .i64 x.f5.f0, .int .i64 x.f5.f1, .slice A16 x.f5.f2.length c16, .slice A17 x.f6.length c17], rfl, (kC_mk w x.f0 ), ⟨[.int .i64 x.f1.f0, .int .i64 x.f1.f1, .slice A10 x.f1.f2.length c10], [.slice A11 x.f2.length c11, .slice A12 x.f3.length c12, .slice A13 x.f4.length c13, .int .i64 x.f5.f0, .int .i64 x.f5.f1, .slice A16 x.f5.f2.length c16, .slice A17 x.f6.length c17], rfl, (kM_mk w x.f1 l10 g10), ⟨[.slice A11 x.f2.length c11], [.slice A12 x.f3.length c12, .slice A13 x.f4.length c13, .int .i64 x.f5.f0, .int .i64 x.f5.f1, .slice A16 x.f5.f2.length c16, .slice A17 x.f6.length c17], rfl, ⟨A11, c11, rfl, l11, g11⟩, ⟨[.slice A12 x.f3.length c12], [.slice A13 x.f4.length c13, .int .i64 x.f5.f0, .int .i64 x.f5.f1, .slice A16 x.f5.f2.length c16, .slice A17 x.f6.length c17], rfl, ⟨A12, c12, rfl, l12, g12⟩, ⟨[.slice A13 x.f4.length c13], [.int .i64 x.f5.f0, .int .i64 x.f5.f1, .slice A16 x.f5.f2.length c16, .slice A17 x.f6.length c17], rfl, ⟨A13, c13, rfl, l13, g13⟩, ⟨[.int .i64 x.f5.f0, .int .i64 x.f5.f1, .slice A16 x.f5.f2.length c16], [.slice A17 x.f6.length c17], rfl, (kM_mk w x.f5 l16 g16), ⟨A17, c17, rfl, l17, g17⟩⟩⟩⟩⟩⟩⟩
theorem kW_mkM (w : World) (base : Nat) (ok : Nat → Prop) (x : SW) {v10 : Value} (g10 : (Kd.int .i8).R 63 w base ok v10 x.f1.f2) {v11 : Value} (g11 : kU.R 117 w base ok v11 x.f2) {v12 : Value} (g12 : kL.R 108 w base ok v12 x.f3) {v13 : Value} (g13 : (Kd.int .i8).R 63 w base ok v13 x.f4) {v16 : Value} (g16 : (Kd.int .i8).R 63 w base ok v16 x.f5.f2) {v17 : Value} (g17 : kM.R 26 w base ok v17 x.f6) : kW.M w base ok x [.int .i64 x.f0.f0, .int .i64 x.f0.f1, .int .i64 x.f0.f2, .int .i64 x.f0.f3, .int .i64 x.f0.f4, .int .i64 x.f0.f5, .int .i64 x.f0.f6, .int .i64 x.f0.f7, .int .i64 x.f1.f0, .int .i64 x.f1.f1, v10, v11, v12, v13, .int .i64 x.f5.f0, .int .i64 x.f5.f1, v16, v17] := ⟨[.int .i64 x.f0.f0, .int .i64 x.f0.f1, .int .i64 x.f0.f2, .int .i64 x.f0.f3, .int .i64 x.f0.f4, .int .i64 x.f0.f5, .int .i64 x.f0.f6, .int .i64 x.f0.f7], [.int .i64 x.f1.f0, .int .i64 x.f1.f1, v10, v11, v12, v13, .int .i64 x.f5.f0, .int .i64 x.f5.f1, v16, v17], rfl, (kC_mkM w base ok x.f0 ), ⟨[.int .i64 x.f1.f0, .int .i64 x.f1.f1, v10], [v11, v12, v13, .int .i64 x.f5.f0, .int .i64 x.f5.f1, v16, v17], rfl, (kM_mkM w base ok x.f1 g10), ⟨[v11], [v12, v13, .int .i64 x.f5.f0, .int .i64 x.f5.f1, v16, v17], rfl, ⟨v11, rfl, g11⟩, ⟨[v12], [v13, .int .i64 x.f5.f0, .int .i64 x.f5.f1, v16, v17], rfl, ⟨v12, rfl, g12⟩, ⟨[v13], [.int .i64 x.f5.f0, .int .i64 x.f5.f1, v16, v17], rfl, ⟨v13, rfl, g13⟩, ⟨[.int .i64 x.f5.f0, .int .i64 x.f5.f1, v16], [v17], rfl, (kM_mkM w base ok x.f5 g16), ⟨v17, rfl, g17⟩⟩⟩⟩⟩⟩⟩
def rd_W (xs : List SW) (i : Int) : SW := xs.getD i.toNat zW
theorem at_W {w : World} {A : Option Addr} {n : Nat} {xs : List SW} (h : Kd.C kW w A n xs) (i : Int) (h0 : 0 ≤ i) (h1 : i < n) : ∃ ad A10 c10 A11 c11 A12 c12 A13 c13 A16 c16 A17 c17, A = some ad ∧ w.cell? (ad.add (i.toNat * 18)) = some (.int .i64 (rd_W xs i).f0.f0) ∧ w.cell? ⟨(ad.add (i.toNat * 18)).block, (ad.add (i.toNat * 18)).off + 1, none⟩ = some (.int .i64 (rd_W xs i).f0.f1) ∧ w.cell? ⟨(ad.add (i.toNat * 18)).block, (ad.add (i.toNat * 18)).off + 2, none⟩ = some (.int .i64 (rd_W xs i).f0.f2) ∧ w.cell? ⟨(ad.add (i.toNat * 18)).block, (ad.add (i.toNat * 18)).off + 3, none⟩ = some (.int .i64 (rd_W xs i).f0.f3) ∧ w.cell? ⟨(ad.add (i.toNat * 18)).block, (ad.add (i.toNat * 18)).off + 4, none⟩ = some (.int .i64 (rd_W xs i).f0.f4) ∧ w.cell? ⟨(ad.add (i.toNat * 18)).block, (ad.add (i.toNat * 18)).off + 5, none⟩ = some (.int .i64 (rd_W xs i).f0.f5) ∧ w.cell? ⟨(ad.add (i.toNat * 18)).block, (ad.add (i.toNat * 18)).off + 6, none⟩ = some (.int .i64 (rd_W xs i).f0.f6) ∧ w.cell? ⟨(ad.add (i.toNat * 18)).block, (ad.add (i.toNat * 18)).off + 7, none⟩ = some (.int .i64 (rd_W xs i).f0.f7) ∧ w.cell? ⟨(ad.add (i.toNat * 18)).block, (ad.add (i.toNat * 18)).off + 8, none⟩ = some (.int .i64 (rd_W xs i).f1.f0) ∧ w.cell? ⟨(ad.add (i.toNat * 18)).block, (ad.add (i.toNat * 18)).off + 9, none⟩ = some (.int .i64 (rd_W xs i).f1.f1) ∧ w.cell? ⟨(ad.add (i.toNat * 18)).block, (ad.add (i.toNat * 18)).off + 10, none⟩ = some (.slice A10 (rd_W xs i).f1.f2.length c10) ∧ w.cell? ⟨(ad.add (i.toNat * 18)).block, (ad.add (i.toNat * 18)).off + 11, none⟩ = some (.slice A11 (rd_W xs i).f2.length c11) ∧ w.cell? ⟨(ad.add (i.toNat * 18)).block, (ad.add (i.toNat * 18)).off + 12, none⟩ = some (.slice A12 (rd_W xs i).f3.length c12) ∧ w.cell? ⟨(ad.add (i.toNat * 18)).block, (ad.add (i.toNat * 18)).off + 13, none⟩ = some (.slice A13 (rd_W xs i).f4.length c13) ∧ w.cell? ⟨(ad.add (i.toNat * 18)).block, (ad.add (i.toNat * 18)).off + 14, none⟩ = some (.int .i64 (rd_W xs i).f5.f0) ∧ w.cell? ⟨(ad.add (i.toNat * 18)).block, (ad.add (i.toNat * 18)).off + 15, none⟩ = some (.int .i64 (rd_W xs i).f5.f1) ∧ w.cell? ⟨(ad.add (i.toNat * 18)).block, (ad.add (i.toNat * 18)).off + 16, none⟩ = some (.slice A16 (rd_W xs i).f5.f2.length c16) ∧ w.cell? ⟨(ad.add (i.toNat * 18)).block, (ad.add (i.toNat * 18)).off + 17, none⟩ = some (.slice A17 (rd_W xs i).f6.length c17) ∧ (rd_W xs i).f1.f2.length ≤ c10 ∧ (Kd.int .i8).C w A10 (rd_W xs i).f1.f2.length (rd_W xs i).f1.f2 ∧ (rd_W xs i).f2.length ≤ c11 ∧ kU.C w A11 (rd_W xs i).f2.length (rd_W xs i).f2 ∧ (rd_W xs i).f3.length ≤ c12 ∧ kL.C w A12 (rd_W xs i).f3.length (rd_W xs i).f3 ∧ (rd_W xs i).f4.length ≤ c13 ∧ (Kd.int .i8).C w A13 (rd_W xs i).f4.length (rd_W xs i).f4 ∧ (rd_W xs i).f5.f2.length ≤ c16 ∧ (Kd.int .i8).C w A16 (rd_W xs i).f5.f2.length (rd_W xs i).f5.f2 ∧ (rd_W xs i).f6.length ≤ c17 ∧ kM.C w A17 (rd_W xs i).f6.length (rd_W xs i).f6 := by
  obtain ⟨ad, c, e, _, hK, hc0⟩ := Kd.C_get h zW i h0 h1
  have hc : ∀ j u, c[j]? = some u → w.cell? (ad.add (i.toNat * 18 + j)) = some u := hc0
  obtain ⟨A10, c10, A11, c11, A12, c12, A13, c13, A16, c16, A17, c17, rfl, l10, g10, l11, g11, l12, g12, l13, g13, l16, g16, l17, g17⟩ := kW_open hK
  exact ⟨ad, A10, c10, A11, c11, A12, c12, A13, c13, A16, c16, A17, c17, e, hc 0 _ rfl, by rw [← add_field _ _ 1 (by omega)]; exact hc 1 _ rfl, by rw [← add_field _ _ 2 (by omega)]; exact hc 2 _ rfl, by rw [← add_field _ _ 3 (by omega)]; exact hc 3 _ rfl, by rw [← add_field _ _ 4 (by omega)]; exact hc 4 _ rfl, by rw [← add_field _ _ 5 (by omega)]; exact hc 5 _ rfl, by rw [← add_field _ _ 6 (by omega)]; exact hc 6 _ rfl, by rw [← add_field _ _ 7 (by omega)]; exact hc 7 _ rfl, by rw [← add_field _ _ 8 (by omega)]; exact hc 8 _ rfl, by rw [← add_field _ _ 9 (by omega)]; exact hc 9 _ rfl, by rw [← add_field _ _ 10 (by omega)]; exact hc 10 _ rfl, by rw [← add_field _ _ 11 (by omega)]; exact hc 11 _ rfl, by rw [← add_field _ _ 12 (by omega)]; exact hc 12 _ rfl, by rw [← add_field _ _ 13 (by omega)]; exact hc 13 _ rfl, by rw [← add_field _ _ 14 (by omega)]; exact hc 14 _ rfl, by rw [← add_field _ _ 15 (by omega)]; exact hc 15 _ rfl, by rw [← add_field _ _ 16 (by omega)]; exact hc 16 _ rfl, by rw [← add_field _ _ 17 (by omega)]; exact hc 17 _ rfl, l10, g10, l11, g11, l12, g12, l13, g13, l16, g16, l17, g17⟩

/-! #### struct type 59 -/
structure SR where
  f0 : Int
  f1 : Int
def zR : SR := ⟨(0 : Int), (0 : Int)⟩
def kR : Kd SR := Kd.iso (Kd.pair (Kd.int .i64) (Kd.int .i64)) (fun x : SR => (x.f0, x.f1))
theorem kR_open {w : World} {x : SR} {cs : List Value} (h : kR.K w x cs) : cs = [.int .i64 x.f0, .int .i64 x.f1] := by
  obtain ⟨_, _, rfl, rfl, rfl⟩ := h
  exact rfl
theorem kR_openM {w : World} {base : Nat} {ok : Nat → Prop} {x : SR} {cs : List Value} (h : kR.M w base ok x cs) : cs = [.int .i64 x.f0, .int .i64 x.f1] := by
  obtain ⟨_, _, rfl, rfl, rfl⟩ := h
  exact rfl
theorem kR_mk (w : World) (x : SR)  : kR.K w x [.int .i64 x.f0, .int .i64 x.f1] := ⟨[.int .i64 x.f0], [.int .i64 x.f1], rfl, rfl, rfl⟩
theorem kR_mkM (w : World) (base : Nat) (ok : Nat → Prop) (x : SR)  : kR.M w base ok x [.int .i64 x.f0, .int .i64 x.f1] := ⟨[.int .i64 x.f0], [.int .i64 x.f1], rfl, rfl, rfl⟩
def rd_R (xs : List SR) (i : Int) : SR := xs.getD i.toNat zR
theorem at_R {w : World} {A : Option Addr} {n : Nat} {xs : List SR} (h : Kd.C kR w A n xs) (i : Int) (h0 : 0 ≤ i) (h1 : i < n) : ∃ ad , A = some ad ∧ w.cell? (ad.add (i.toNat * 2)) = some (.int .i64 (rd_R xs i).f0) ∧ w.cell? ⟨(ad.add (i.toNat * 2)).block, (ad.add (i.toNat * 2)).off + 1, none⟩ = some (.int .i64 (rd_R xs i).f1) := by
  obtain ⟨ad, c, e, _, hK, hc0⟩ := Kd.C_get h zR i h0 h1
  have hc : ∀ j u, c[j]? = some u → w.cell? (ad.add (i.toNat * 2 + j)) = some u := hc0
  obtain rfl := kR_open hK
  exact ⟨ad, e, hc 0 _ rfl, by rw [← add_field _ _ 1 (by omega)]; exact hc 1 _ rfl⟩

def rd_rs (xs : List (List SR)) (i : Int) : (List SR) := xs.getD i.toNat ([] : List SR)
theorem at_rs {w : World} {A : Option Addr} {n : Nat} {xs : List (List SR)} (h : Kd.C (Kd.slice 59 kR) w A n xs) (i : Int) (h0 : 0 ≤ i) (h1 : i < n) : ∃ ad A0 c0, A = some ad ∧ w.cell? (ad.add i.toNat) = some (.slice A0 (rd_rs xs i).length c0) ∧ (rd_rs xs i).length ≤ c0 ∧ kR.C w A0 (rd_rs xs i).length (rd_rs xs i) := by
  obtain ⟨ad, c, e, _, hK, hc0⟩ := Kd.C_get h ([] : List SR) i h0 h1
  have hc : ∀ j u, c[j]? = some u → w.cell? (ad.add (i.toNat * 1 + j)) = some u := hc0
  obtain ⟨A0, c0, rfl, l0, g0⟩ := hK
  exact ⟨ad, A0, c0, e, by have hq := hc 0 _ rfl; rwa [Nat.mul_one, Nat.add_zero] at hq, l0, g0⟩

/-! #### struct type 76 -/
structure SN where
  f0 : Int
  f1 : Int
  f2 : Int
def zN : SN := ⟨(0 : Int), (0 : Int), (0 : Int)⟩
def kN : Kd SN := Kd.iso (Kd.pair (Kd.int .i64) (Kd.pair (Kd.int .i64) (Kd.int .i64))) (fun x : SN => (x.f0, x.f1, x.f2))
theorem kN_open {w : World} {x : SN} {cs : List Value} (h : kN.K w x cs) : cs = [.int .i64 x.f0, .int .i64 x.f1, .int .i64 x.f2] := by
  obtain ⟨_, _, rfl, rfl, ⟨_, _, rfl, rfl, rfl⟩⟩ := h
  exact rfl
theorem kN_openM {w : World} {base : Nat} {ok : Nat → Prop} {x : SN} {cs : List Value} (h : kN.M w base ok x cs) : cs = [.int .i64 x.f0, .int .i64 x.f1, .int .i64 x.f2] := by
  obtain ⟨_, _, rfl, rfl, ⟨_, _, rfl, rfl, rfl⟩⟩ := h
  exact rfl
theorem kN_mk (w : World) (x : SN)  : kN.K w x [.int .i64 x.f0, .int .i64 x.f1, .int .i64 x.f2] := ⟨[.int .i64 x.f0], [.int .i64 x.f1, .int .i64 x.f2], rfl, rfl, ⟨[.int .i64 x.f1], [.int .i64 x.f2], rfl, rfl, rfl⟩⟩
theorem kN_mkM (w : World) (base : Nat) (ok : Nat → Prop) (x : SN)  : kN.M w base ok x [.int .i64 x.f0, .int .i64 x.f1, .int .i64 x.f2] := ⟨[.int .i64 x.f0], [.int .i64 x.f1, .int .i64 x.f2], rfl, rfl, ⟨[.int .i64 x.f1], [.int .i64 x.f2], rfl, rfl, rfl⟩⟩
def rd_N (xs : List SN) (i : Int) : SN := xs.getD i.toNat zN
theorem at_N {w : World} {A : Option Addr} {n : Nat} {xs : List SN} (h : Kd.C kN w A n xs) (i : Int) (h0 : 0 ≤ i) (h1 : i < n) : ∃ ad , A = some ad ∧ w.cell? (ad.add (i.toNat * 3)) = some (.int .i64 (rd_N xs i).f0) ∧ w.cell? ⟨(ad.add (i.toNat * 3)).block, (ad.add (i.toNat * 3)).off + 1, none⟩ = some (.int .i64 (rd_N xs i).f1) ∧ w.cell? ⟨(ad.add (i.toNat * 3)).block, (ad.add (i.toNat * 3)).off + 2, none⟩ = some (.int .i64 (rd_N xs i).f2) := by
  obtain ⟨ad, c, e, _, hK, hc0⟩ := Kd.C_get h zN i h0 h1
  have hc : ∀ j u, c[j]? = some u → w.cell? (ad.add (i.toNat * 3 + j)) = some u := hc0
  obtain rfl := kN_open hK
  exact ⟨ad, e, hc 0 _ rfl, by rw [← add_field _ _ 1 (by omega)]; exact hc 1 _ rfl, by rw [← add_field _ _ 2 (by omega)]; exact hc 2 _ rfl⟩

def rd_ns (xs : List (List SN)) (i : Int) : (List SN) := xs.getD i.toNat ([] : List SN)
theorem at_ns {w : World} {A : Option Addr} {n : Nat} {xs : List (List SN)} (h : Kd.C (Kd.slice 76 kN) w A n xs) (i : Int) (h0 : 0 ≤ i) (h1 : i < n) : ∃ ad A0 c0, A = some ad ∧ w.cell? (ad.add i.toNat) = some (.slice A0 (rd_ns xs i).length c0) ∧ (rd_ns xs i).length ≤ c0 ∧ kN.C w A0 (rd_ns xs i).length (rd_ns xs i) := by
  obtain ⟨ad, c, e, _, hK, hc0⟩ := Kd.C_get h ([] : List SN) i h0 h1
  have hc : ∀ j u, c[j]? = some u → w.cell? (ad.add (i.toNat * 1 + j)) = some u := hc0
  obtain ⟨A0, c0, rfl, l0, g0⟩ := hK
  exact ⟨ad, A0, c0, e, by have hq := hc 0 _ rfl; rwa [Nat.mul_one, Nat.add_zero] at hq, l0, g0⟩

/-! #### struct type 49 -/
structure SA where
  f0 : (List Int)
  f1 : (List Int)
def zA : SA := ⟨([] : List Int), ([] : List Int)⟩
def kA : Kd SA := Kd.iso (Kd.pair (Kd.slice 63 (Kd.int .i8)) (Kd.slice 3 (Kd.int .i64))) (fun x : SA => (x.f0, x.f1))
theorem kA_open {w : World} {x : SA} {cs : List Value} (h : kA.K w x cs) : ∃ A0 c0 A1 c1, cs = [.slice A0 x.f0.length c0, .slice A1 x.f1.length c1] ∧ x.f0.length ≤ c0 ∧ (Kd.int .i8).C w A0 x.f0.length x.f0 ∧ x.f1.length ≤ c1 ∧ (Kd.int .i64).C w A1 x.f1.length x.f1 := by
  obtain ⟨_, _, rfl, ⟨A0, c0, rfl, l0, g0⟩, ⟨A1, c1, rfl, l1, g1⟩⟩ := h
  exact ⟨A0, c0, A1, c1, rfl, l0, g0, l1, g1⟩
theorem kA_openM {w : World} {base : Nat} {ok : Nat → Prop} {x : SA} {cs : List Value} (h : kA.M w base ok x cs) : ∃ v0 v1, cs = [v0, v1] ∧ (Kd.int .i8).R 63 w base ok v0 x.f0 ∧ (Kd.int .i64).R 3 w base ok v1 x.f1 := by
  obtain ⟨_, _, rfl, ⟨v0, rfl, g0⟩, ⟨v1, rfl, g1⟩⟩ := h
  exact ⟨v0, v1, rfl, g0, g1⟩
theorem kA_mk (w : World) (x : SA) {A0 : Option Addr} {c0 : Nat} (l0 : x.f0.length ≤ c0) (g0 : (Kd.int .i8).C w A0 x.f0.length x.f0) {A1 : Option Addr} {c1 : Nat} (l1 : x.f1.length ≤ c1) (g1 : (Kd.int .i64).C w A1 x.f1.length x.f1) : kA.K w x [.slice A0 x.f0.length c0, .slice A1 x.f1.length c1] := ⟨[.slice A0 x.f0.length c0], [.slice A1 x.f1.length c1], rfl, ⟨A0, c0, rfl, l0, g0⟩, ⟨A1, c1, rfl, l1, g1⟩⟩
theorem kA_mkM (w : World) (base : Nat) (ok : Nat → Prop) (x : SA) {v0 : Value} (g0 : (Kd.int .i8).R 63 w base ok v0 x.f0) {v1 : Value} (g1 : (Kd.int .i64).R 3 w base ok v1 x.f1) : kA.M w base ok x [v0, v1] := ⟨[v0], [v1], rfl, ⟨v0, rfl, g0⟩, ⟨v1, rfl, g1⟩⟩
def rd_A (xs : List SA) (i : Int) : SA := xs.getD i.toNat zA
theorem at_A {w : World} {A : Option Addr} {n : Nat} {xs : List SA} (h : Kd.C kA w A n xs) (i : Int) (h0 : 0 ≤ i) (h1 : i < n) : ∃ ad A0 c0 A1 c1, A = some ad ∧ w.cell? (ad.add (i.toNat * 2)) = some (.slice A0 (rd_A xs i).f0.length c0) ∧ w.cell? ⟨(ad.add (i.toNat * 2)).block, (ad.add (i.toNat * 2)).off + 1, none⟩ = some (.slice A1 (rd_A xs i).f1.length c1) ∧ (rd_A xs i).f0.length ≤ c0 ∧ (Kd.int .i8).C w A0 (rd_A xs i).f0.length (rd_A xs i).f0 ∧ (rd_A xs i).f1.length ≤ c1 ∧ (Kd.int .i64).C w A1 (rd_A xs i).f1.length (rd_A xs i).f1 := by
  obtain ⟨ad, c, e, _, hK, hc0⟩ := Kd.C_get h zA i h0 h1
  have hc : ∀ j u, c[j]? = some u → w.cell? (ad.add (i.toNat * 2 + j)) = some u := hc0
  obtain ⟨A0, c0, A1, c1, rfl, l0, g0, l1, g1⟩ := kA_open hK
  exact ⟨ad, A0, c0, A1, c1, e, hc 0 _ rfl, by rw [← add_field _ _ 1 (by omega)]; exact hc 1 _ rfl, l0, g0, l1, g1⟩

def rd_as (xs : List (List SA)) (i : Int) : (List SA) := xs.getD i.toNat ([] : List SA)
theorem at_as {w : World} {A : Option Addr} {n : Nat} {xs : List (List SA)} (h : Kd.C (Kd.slice 49 kA) w A n xs) (i : Int) (h0 : 0 ≤ i) (h1 : i < n) : ∃ ad A0 c0, A = some ad ∧ w.cell? (ad.add i.toNat) = some (.slice A0 (rd_as xs i).length c0) ∧ (rd_as xs i).length ≤ c0 ∧ kA.C w A0 (rd_as xs i).length (rd_as xs i) := by
  obtain ⟨ad, c, e, _, hK, hc0⟩ := Kd.C_get h ([] : List SA) i h0 h1
  have hc : ∀ j u, c[j]? = some u → w.cell? (ad.add (i.toNat * 1 + j)) = some u := hc0
  obtain ⟨A0, c0, rfl, l0, g0⟩ := hK
  exact ⟨ad, A0, c0, e, by have hq := hc 0 _ rfl; rwa [Nat.mul_one, Nat.add_zero] at hq, l0, g0⟩

def rd_intss (xs : List (List (List Int))) (i : Int) : (List (List Int)) := xs.getD i.toNat ([] : List (List Int))
theorem at_intss {w : World} {A : Option Addr} {n : Nat} {xs : List (List (List Int))} (h : Kd.C (Kd.slice 47 (Kd.slice 3 (Kd.int .i64))) w A n xs) (i : Int) (h0 : 0 ≤ i) (h1 : i < n) : ∃ ad A0 c0, A = some ad ∧ w.cell? (ad.add i.toNat) = some (.slice A0 (rd_intss xs i).length c0) ∧ (rd_intss xs i).length ≤ c0 ∧ (Kd.slice 3 (Kd.int .i64)).C w A0 (rd_intss xs i).length (rd_intss xs i) := by
  obtain ⟨ad, c, e, _, hK, hc0⟩ := Kd.C_get h ([] : List (List Int)) i h0 h1
  have hc : ∀ j u, c[j]? = some u → w.cell? (ad.add (i.toNat * 1 + j)) = some u := hc0
  obtain ⟨A0, c0, rfl, l0, g0⟩ := hK
  exact ⟨ad, A0, c0, e, by have hq := hc 0 _ rfl; rwa [Nat.mul_one, Nat.add_zero] at hq, l0, g0⟩

def rd_wss (xs : List (List (List Int))) (i : Int) : (List (List Int)) := xs.getD i.toNat ([] : List (List Int))
theorem at_wss {w : World} {A : Option Addr} {n : Nat} {xs : List (List (List Int))} (h : Kd.C (Kd.slice 36 (Kd.slice 2 (Kd.int .i64))) w A n xs) (i : Int) (h0 : 0 ≤ i) (h1 : i < n) : ∃ ad A0 c0, A = some ad ∧ w.cell? (ad.add i.toNat) = some (.slice A0 (rd_wss xs i).length c0) ∧ (rd_wss xs i).length ≤ c0 ∧ (Kd.slice 2 (Kd.int .i64)).C w A0 (rd_wss xs i).length (rd_wss xs i) := by
  obtain ⟨ad, c, e, _, hK, hc0⟩ := Kd.C_get h ([] : List (List Int)) i h0 h1
  have hc : ∀ j u, c[j]? = some u → w.cell? (ad.add (i.toNat * 1 + j)) = some u := hc0
  obtain ⟨A0, c0, rfl, l0, g0⟩ := hK
  exact ⟨ad, A0, c0, e, by have hq := hc 0 _ rfl; rwa [Nat.mul_one, Nat.add_zero] at hq, l0, g0⟩

def rd_nss (xs : List (List (List Int))) (i : Int) : (List (List Int)) := xs.getD i.toNat ([] : List (List Int))
theorem at_nss {w : World} {A : Option Addr} {n : Nat} {xs : List (List (List Int))} (h : Kd.C (Kd.slice 24 (Kd.slice 63 (Kd.int .i8))) w A n xs) (i : Int) (h0 : 0 ≤ i) (h1 : i < n) : ∃ ad A0 c0, A = some ad ∧ w.cell? (ad.add i.toNat) = some (.slice A0 (rd_nss xs i).length c0) ∧ (rd_nss xs i).length ≤ c0 ∧ (Kd.slice 63 (Kd.int .i8)).C w A0 (rd_nss xs i).length (rd_nss xs i) := by
  obtain ⟨ad, c, e, _, hK, hc0⟩ := Kd.C_get h ([] : List (List Int)) i h0 h1
  have hc : ∀ j u, c[j]? = some u → w.cell? (ad.add (i.toNat * 1 + j)) = some u := hc0
  obtain ⟨A0, c0, rfl, l0, g0⟩ := hK
  exact ⟨ad, A0, c0, e, by have hq := hc 0 _ rfl; rwa [Nat.mul_one, Nat.add_zero] at hq, l0, g0⟩

end Go.Proofs.YtlmddncoeikfjaaDoor
