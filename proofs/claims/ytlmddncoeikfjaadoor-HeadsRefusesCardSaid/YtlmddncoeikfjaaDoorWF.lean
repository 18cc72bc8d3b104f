/- The law HeadsRefuses: whatever the weights and the vector, the call returns true, and both read afterwards as before. No condition beyond the card's own. -/
import Derived.Test.YtlmddncoeikfjaaDoorWE
import Derived.Test.YtlmddncoeikfjaaDoorCards
import Derived.Test.YtlmddncoeikfjaaDoorTie
import Derived.Deep.DeepHandedRow
import Derived.Carry
import Derived.Lib.LaidTab
namespace Go.Proofs.YtlmddncoeikfjaaDoor
open Go.RowKit Go.ChangeShapes Go.WideShapes Go.ChangeAt Go.Proofs.YtlmddncoeikfjaaDoorW.PrintWords
set_option maxRecDepth 100000

/-! ### The kinds of the arguments -/
theorem nar_wf {l : List Int} (h : ∀ y ∈ l, (Lit.int .i8 y).wf = true) : nar l := by
  intro y hy
  have := h y hy
  simp only [Lit.wf, Bool.and_eq_true, decide_eq_true_eq] at this
  rw [show IntKind.i8.min = -128 by decide] at this
  exact this.1
theorem opn_i8s : Opn Tryd.prog (Kd.slice 63 (Kd.int .i8)) 24 nar := (opn_slice Tryd.underlying24 (by kernel_rfl) (opn_int Tryd.underlying63)).mono fun _ h => nar_wf h
theorem opn_i64 : Opn Tryd.prog (Kd.int .i64) 3 fun _ => True := (opn_int Tryd.underlying3).mono fun _ _ => trivial
theorem opn_i64' : Opn Tryd.prog (Kd.int .i64) 2 fun _ => True := (opn_int Tryd.underlying2).mono fun _ _ => trivial
instance : Inhabited SM := ⟨zM⟩
instance : Inhabited SL := ⟨zL⟩
instance : Inhabited SU := ⟨zU⟩
theorem opn_M : Opn Tryd.prog kM 26 fun m => nar m.f2 :=
  (opn_struct Tryd.underlying26 (by kernel_rfl) rfl (opnl_iso (opnl_pair opn_i64 (opnl_pair opn_i64 (opnl_one opn_i8s))) _ (fun y => ⟨y.1, y.2.1, y.2.2⟩) (fun _ => rfl))).mono fun m h => h.2.2
theorem opn_U : Opn Tryd.prog kU 117 fun _ => True :=
  (opn_struct Tryd.underlying117 (by kernel_rfl) rfl (opnl_iso (opnl_pair opn_i64' (opnl_one opn_i64')) _ (fun y => ⟨y.1, y.2⟩) (fun _ => rfl))).mono fun m h => trivial
theorem opn_B : Opn Tryd.prog kB 106 fun _ => True :=
  (opn_array Tryd.underlying106 (by kernel_rfl) (opnl_iso (opnl_pair opn_i64 (opnl_pair opn_i64 (opnl_pair opn_i64 (opnl_pair opn_i64 (opnl_pair opn_i64 (opnl_pair opn_i64 (opnl_one opn_i64))))))) _ (fun y => ⟨y.1, y.2.1, y.2.2.1, y.2.2.2.1, y.2.2.2.2.1, y.2.2.2.2.2.1, y.2.2.2.2.2.2⟩) (fun _ => rfl))).mono fun m h => trivial
theorem opn_C : Opn Tryd.prog kC 23 fun _ => True :=
  (opn_struct Tryd.underlying23 (by kernel_rfl) rfl (opnl_iso (opnl_pair opn_i64 (opnl_pair opn_i64 (opnl_pair opn_i64 (opnl_pair opn_i64 (opnl_pair opn_i64 (opnl_pair opn_i64 (opnl_pair opn_i64 (opnl_one opn_i64)))))))) _ (fun y => ⟨y.1, y.2.1, y.2.2.1, y.2.2.2.1, y.2.2.2.2.1, y.2.2.2.2.2.1, y.2.2.2.2.2.2.1, y.2.2.2.2.2.2.2⟩) (fun _ => rfl))).mono fun m h => trivial
theorem opn_L : Opn Tryd.prog kL 108 narL :=
  (opn_struct Tryd.underlying108 (by kernel_rfl) rfl (opnl_iso (opnl_pair opn_i8s (opnl_pair opn_i8s (opnl_pair opn_M (opnl_pair opn_M (opnl_pair opn_M (opnl_pair opn_M (opnl_pair opn_M (opnl_pair opn_M (opnl_pair opn_M (opnl_one opn_B)))))))))) _ (fun y => ⟨y.1, y.2.1, y.2.2.1, y.2.2.2.1, y.2.2.2.2.1, y.2.2.2.2.2.1, y.2.2.2.2.2.2.1, y.2.2.2.2.2.2.2.1, y.2.2.2.2.2.2.2.2.1, y.2.2.2.2.2.2.2.2.2⟩) (fun _ => rfl))).mono fun m h i => by
    obtain ⟨-, -, h2, h3, h4, h5, h6, h7, h8, -⟩ := h
    unfold matOf
    split <;> assumption
theorem opn_W : Opn Tryd.prog kW 31 narW :=
  (opn_struct Tryd.underlying31 (by kernel_rfl) rfl (opnl_iso (opnl_pair opn_C (opnl_pair opn_M (opnl_pair (opn_slice Tryd.underlying27 (by kernel_rfl) opn_U) (opnl_pair (opn_slice Tryd.underlying28 (by kernel_rfl) opn_L) (opnl_pair opn_i8s (opnl_pair opn_M (opnl_one (opn_slice Tryd.underlying29 (by kernel_rfl) opn_M))))))))
    _ (fun y => ⟨y.1, y.2.1, y.2.2.1, y.2.2.2.1, y.2.2.2.2.1, y.2.2.2.2.2.1, y.2.2.2.2.2.2⟩) (fun _ => rfl))).mono fun m h => ⟨h.2.1, h.2.2.2.2.2.1, h.2.2.2.1, h.2.2.2.2.2.2⟩

/-! ### The laid table -/
theorem lit_int {H : Type} {enc : TypeId × Value → H} {w : World} {base : Nat} {spare : Nat → Bool} {held : Bool} {fuel : Nat} {c : List Value} {y : DataW H × List MemPlace} {a : Int} (h : DataW.trod enc Tryd.prog w base spare held fuel 3 c = some y) (hy : y.1 = .lit (.int .i64 a)) : c = [.int .i64 a] := by
  obtain ⟨n, rfl, rfl, _⟩ := DataW.trod_int Tryd.underlying3 h
  simp at hy
  rw [hy]
theorem pair_lit {H : Type} {enc : TypeId × Value → H} {w : World} {base : Nat} {spare : Nat → Bool} {held : Bool} {fuel : Nat} {c : List Value} {a b : Int} {x : DataW H × List MemPlace} (h : DataW.trod enc Tryd.prog w base spare held fuel 137 c = some x) (hx : x.1 = .agg [.lit (.int .i64 a), .lit (.int .i64 b)]) : c = [.int .i64 a, .int .i64 b] := by
  obtain ⟨y0, y1, n, rfl, hl, h0, h1⟩ := trod_struct2 Tryd.underlying137 h
  simp only [DataW.agg.injEq, List.cons.injEq, and_true] at hx
  have e0 := lit_int h0 hx.1
  have e1 := lit_int h1 hx.2
  have hl' : c.length = 2 := hl.trans (by kernel_rfl)
  match c, hl' with
  | [u, v], _ =>
    have e0' : [u] = [Value.int .i64 a] := e0
    have e1' : [v] = [Value.int .i64 b] := e1
    injection e0' with e0'
    injection e1' with e1'
    rw [e0', e1']
theorem sides_laid {W : World} (h : laidMetH Tryd.prog Rows.headsRefusesRow.laid W) : Sides W := by
  have h : laidMet Tryd.prog [("augur/model.sides", Rows.laid_augur_model_sides)] W := h
  obtain ⟨ps, ⟨g', t', cs, fuel, p, q, hg', ht', hvar, hd, _, _⟩, _⟩ := h
  have hg : Tryd.prog.globalNamed "augur/model.sides" = some 0 := by kernel_rfl
  have hty : (Tryd.prog.globals[0]?).map (·.type) = some 138 := by kernel_rfl
  obtain rfl := Option.some.inj (hg.symm.trans hg')
  obtain rfl := Option.some.inj (hty.symm.trans ht')
  obtain ⟨xs, m, _, hxs, hl, hlen, hf⟩ := DataW.trod_array Tryd.underlying138 hd
  have hl' : cs.toList.length = 14 := hl.trans (by kernel_rfl)
  have hsz : Tryd.prog.cellsOf 137 = 2 := by kernel_rfl
  rw [hsz] at hf
  have hd2 : xs.map (·.1) = [.agg [.lit (.int .i64 0), .lit (.int .i64 0)], .agg [.lit (.int .i64 1), .lit (.int .i64 0)], .agg [.lit (.int .i64 1), .lit (.int .i64 0)], .agg [.lit (.int .i64 0), .lit (.int .i64 0)], .agg [.lit (.int .i64 2), .lit (.int .i64 0)], .agg [.lit (.int .i64 2), .lit (.int .i64 0)], .agg [.lit (.int .i64 0), .lit (.int .i64 2)]] := by
    have := congrArg Prod.fst hxs
    simp only [Rows.laid_augur_model_sides, DataW.agg.injEq] at this
    exact this.symm
  have key : cs.toList = sidesL.map (Value.int .i64) := by
    generalize cs.toList = l at *
    match l, hl', hf with
    | [a0, a1, a2, a3, a4, a5, a6, a7, a8, a9, a10, a11, a12, a13], _, hf =>
      match xs, hlen, hd2, hf with
      | [x0, x1, x2, x3, x4, x5, x6], _, hd2, hf =>
        simp only [List.map_cons, List.map_nil, List.cons.injEq, and_true] at hd2
        obtain ⟨d0, d1, d2, d3, d4, d5, d6⟩ := hd2
        have e0 : [a0, a1] = _ := pair_lit (hf 0 (by decide)) d0
        have e1 : [a2, a3] = _ := pair_lit (hf 1 (by decide)) d1
        have e2 : [a4, a5] = _ := pair_lit (hf 2 (by decide)) d2
        have e3 : [a6, a7] = _ := pair_lit (hf 3 (by decide)) d3
        have e4 : [a8, a9] = _ := pair_lit (hf 4 (by decide)) d4
        have e5 : [a10, a11] = _ := pair_lit (hf 5 (by decide)) d5
        have e6 : [a12, a13] = _ := pair_lit (hf 6 (by decide)) d6
        simp only [List.cons.injEq, and_true] at e0 e1 e2 e3 e4 e5 e6
        simp [sidesL, e0, e1, e2, e3, e4, e5, e6]
  intro j v hj
  rw [add_at, Nat.zero_add, World.var?_cell hg hvar j, ← Array.getElem?_toList, key]
  exact hj

/-! ### The row -/
theorem hr_own : ownKnob Tryd.prog.godebug = none := by kernel_rfl
theorem hr_laidOut : laidOutB Tryd.prog = true := by kernel_rfl
theorem hr_contract (H : Type) (enc : TypeId × Value → H) (W : World) (base : Nat) (args : Array Value) (ds gs : List (DataW H)) (before : List MemPlace)
    (hval : ∀ (j : Nat) t v, Tryd.f3.params[j]? = some t → args[j]? = some v → Value.okWide Tryd.prog W .any base t v)
    (hW : DataW.Whole enc Tryd.prog Tryd.f3.params.toList Rows.headsRefusesSpec.vars false W args.toList ds gs before) (hL : laidMetH Tryd.prog Rows.headsRefusesRow.laid W) :
    Calls Tryd.prog 3 args W fun e W' => ∃ v, e = .returned v ∧ Rows.headsRefusesSpec.post enc Tryd.prog Tryd.f3 false true false false W args v W' := by
  have hW' := hW
  obtain ⟨p, q, hA0, hV, rfl, hfz, hnd⟩ := hW
  have hA : DataW.TrodAll enc Tryd.prog W 0 (fun _ => true) true Tryd.f3.params.toList args.toList ds p := hA0
  rw [Tryd.params3] at hA hval
  obtain ⟨v0, vs0, d0, ds0, p0, q0, hargs, rfl, rfl, h0, r0⟩ := trodAll_cons hA
  obtain ⟨v1, vs1, d1, ds1, p1, q1, rfl, rfl, rfl, h1, r1⟩ := trodAll_cons r0
  obtain ⟨rfl, rfl, rfl⟩ := trodAll_nil r1
  obtain rfl : args = #[v0, v1] := by cases args; simp_all
  obtain ⟨rfl, rfl⟩ := trodVars_none hV
  obtain ⟨cs, rfl, _⟩ := okWide_struct Tryd.underlying31 (hval 0 31 v0 rfl rfl)
  obtain ⟨A, n, c, rfl⟩ := okWide_slice Tryd.underlying24 (hval 1 24 v1 rfl rfl)
  have k0 := h0
  have k1 := h1
  have lt0 : ∀ x ∈ p0, x.block < W.heap.size := by obtain ⟨m, hm⟩ := k0; exact DataW.trod_lt m _ _ _ hm
  have lt1 : ∀ x ∈ p1, x.block < W.heap.size := by obtain ⟨m, hm⟩ := k1; exact DataW.trod_lt m _ _ _ hm
  obtain ⟨fu0, t0⟩ := h0
  obtain ⟨fu1, t1⟩ := h1
  obtain ⟨x, hx, hnar⟩ := opn_W H enc W 0 _ _ fu0 _ _ t0
  obtain ⟨v, ⟨A', c', e1, hle, hC⟩, -⟩ := opn_i8s H enc W 0 _ _ fu1 _ _ t1
  have e1' : [Value.slice A n c] = [Value.slice A' v.length c'] := e1
  simp only [List.cons.injEq, Value.slice.injEq, and_true] at e1'
  obtain ⟨rfl, rfl, rfl⟩ := e1'
  have hx' : kW.K W x cs.toList := hx
  have walk := (cal_law09_HeadsRefuses W x cs.toList A c v hx' (sides_laid hL) hnar hC).out
  rw [Array.toArray_toList] at walk
  clear hA0
  refine walk.mono fun e W' ⟨r, he, bel, hr⟩ => ?_
  subst hr
  subst he
  exact ⟨_, rfl, _, _, _, [], _, [], hW', trodAll_mk1 (shut_bool Tryd.underlying4 _), trodAll_cons_mk (Below.trod hr_laidOut (by kernel_rfl) (of_decide_eq_true (by kernel_rfl)) k0 bel lt0) (trodAll_cons_mk (Below.trod hr_laidOut (by kernel_rfl) (of_decide_eq_true (by kernel_rfl)) k1 bel lt1) trodAll_mk0), rfl, bel.frame _, fun h => by cases h⟩
end Go.Proofs.YtlmddncoeikfjaaDoor
