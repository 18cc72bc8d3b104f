/- Walks: does a layer fit its measures? -/
import Derived.Test.YtlmddncoeikfjaaDoorVN
namespace Go.Proofs.YtlmddncoeikfjaaDoor
open Go.RowKit Go.Proofs.YtlmddncoeikfjaaDoorW.PrintWords
set_option maxRecDepth 100000
set_option maxHeartbeats 4000000

theorem seven {i : Nat} (h : i < 7) : i = 0 ∨ i = 1 ∨ i = 2 ∨ i = 3 ∨ i = 4 ∨ i = 5 ∨ i = 6 := by omega
theorem rg_shape {w : World} {ad : Addr} {y : SC} (h : Rg w ad (shpEnd y)) {i : Nat} (hi : i < 7) : Rg w (ad.add (i * 3)) (shpRow y i) := by
  rcases seven hi with rfl | rfl | rfl | rfl | rfl | rfl | rfl <;> exact h.sub _ 3 rfl
def narL (x : SL) : Prop := ∀ i, nar (matOf x i).f2
theorem lay_rg {w : World} {ad : Addr} {x : SL} {cs : List Value} (hx : kL.K w x cs) (h : Rg w ad cs) {i : Nat} (hi : i < 7) : ∃ A c, Rg w (ad.add (2 + 3 * i)) [.int .i64 (matOf x i).f0, .int .i64 (matOf x i).f1, .slice A (matOf x i).f2.length c] ∧ (matOf x i).f2.length ≤ c ∧ (Kd.int .i8).C w A (matOf x i).f2.length (matOf x i).f2 := by
  obtain ⟨A0, c0, A1, c1, A4, c4, A7, c7, A10, c10, A13, c13, A16, c16, A19, c19, A22, c22, rfl, l0, d0, l1, d1, l4, d4, l7, d7, l10, d10, l13, d13, l16, d16, l19, d19, l22, d22⟩ := kL_open hx
  rcases seven hi with rfl | rfl | rfl | rfl | rfl | rfl | rfl
  · exact ⟨A4, c4, h.sub _ 3 rfl, l4, d4⟩
  · exact ⟨A7, c7, h.sub _ 3 rfl, l7, d7⟩
  · exact ⟨A10, c10, h.sub _ 3 rfl, l10, d10⟩
  · exact ⟨A13, c13, h.sub _ 3 rfl, l13, d13⟩
  · exact ⟨A16, c16, h.sub _ 3 rfl, l16, d16⟩
  · exact ⟨A19, c19, h.sub _ 3 rfl, l19, d19⟩
  · exact ⟨A22, c22, h.sub _ 3 rfl, l22, d22⟩
def matOK (x : SL) (y : SC) (i : Nat) : Bool := isMat (matOf x i) (measOf y (sideOf i 0)) (measOf y (sideOf i 1))
theorem layerOK_eq (x : SL) (y : SC) : layerOK x y = ((List.range 7).all (matOK x y) && ((byList x.f9).all shiftOK && (gainsOf x.f0 y.f1 && gainsOf x.f1 y.f1))) := by
  have e : (List.range 7).all (matOK x y) = (isMat x.f2 y.f1 y.f1 && (isMat x.f3 (y.f3 * headOf y) y.f1 && (isMat x.f4 (y.f3 * headOf y) y.f1 && (isMat x.f5 y.f1 y.f1 && (isMat x.f6 y.f5 y.f1 && (isMat x.f7 y.f5 y.f1 && (isMat x.f8 y.f1 y.f5 && true))))))) := rfl
  rw [e, layerOK]
  generalize isMat x.f2 y.f1 y.f1 = a1
  generalize isMat x.f3 (y.f3 * headOf y) y.f1 = a2
  generalize isMat x.f4 (y.f3 * headOf y) y.f1 = a3
  generalize isMat x.f5 y.f1 y.f1 = a4
  generalize isMat x.f6 y.f5 y.f1 = a5
  generalize isMat x.f7 y.f5 y.f1 = a6
  generalize isMat x.f8 y.f1 y.f5 = a7
  generalize (byList x.f9).all shiftOK = a8
  generalize gainsOf x.f0 y.f1 = a9
  generalize gainsOf x.f1 y.f1 = a10
  revert a1 a2 a3 a4 a5 a6 a7 a8 a9 a10
  decide
theorem range_step {p : Nat → Bool} {i : Int} (h0 : 0 ≤ i) (h : (List.range i.toNat).all p = true) (hp : p i.toNat = true) : (List.range (i + 1).toNat).all p = true := by
  rw [show (i + 1).toNat = i.toNat + 1 by omega, List.range_succ, List.all_append, h]
  simp [hp]
theorem range_not {p : Nat → Bool} {i n : Nat} (hi : i < n) (hp : p i = false) : (List.range n).all p = false := by
  rw [List.all_eq_false]
  exact ⟨i, List.mem_range.2 hi, by simp [hp]⟩
theorem by_ix (b : SB) {i : Int} (h0 : 0 ≤ i) (h1 : i < 7) : ([.int .i64 b.f0, .int .i64 b.f1, .int .i64 b.f2, .int .i64 b.f3, .int .i64 b.f4, .int .i64 b.f5, .int .i64 b.f6] : List Value)[i.toNat]? = some (.int .i64 (rd (byList b) i)) := by
  have : i = 0 ∨ i = 1 ∨ i = 2 ∨ i = 3 ∨ i = 4 ∨ i = 5 ∨ i = 6 := by omega
  rcases this with rfl | rfl | rfl | rfl | rfl | rfl | rfl <;> rfl
theorem cal_model_fits (w0 : World) (ad : Addr) (x : SL) (cs : List Value) (y : SC) (cy : List Value) (hL : Rg w0 ad cs) (hx : kL.K w0 x cs) (hy : kC.K w0 y cy) (hG : Sides w0) (hcfg : cfgOK y = true) (hnar : narL x) : Cal Tryd.prog 71 #[.pointer (some ad), .agg cy.toArray] w0 fun v w1 => Below w0.heap.size w0 w1 ∧ v = .bool (layerOK x y) := by
  obtain rfl := kC_open hy
  rw [layerOK_eq]
  refine cal_W (n := 56) Tryd.func71 rfl rfl (by simp) ?_
  have hs := Sep.refl w0
  refine W_seq ?_
  refine W_region ?_
  refine L_op rfl (o_box (cs := [_, _, _, _, _, _, _, _]) rfl rfl hs ?_)  -- t3 := box 23 t1
  intro g3 w1 hs
  refine L_q rfl (y_assign rfl) ?_  -- t4 := assign false
  refine L_nil ?_
  refine W_seq ?_
  refine W_seq ?_
  refine W_region ?_
  refine L_q rfl (y_fls (cs := [_, _, _, _, _, _, _, _]) r_23 sz_23 rfl (rg_of_range (hs.rg 0 rfl 0 8 rfl))) ?_  -- t9 := load 23 t3
  refine L_op rfl (o_callB en_74 rfl hs (cal_model_shapes _ y _ (kC_mk _ _) (hG.below hs.below) hcfg) ?_)  -- t10 := CALL f74(t9) :125
  intro g10 w1 hb hs
  refine L_q rfl (y_len u_125 rfl) ?_  -- t11 := len(t10) :3
  refine L_q rfl (y_move rfl) ?_  -- t12 := move 0
  refine L_nil ?_
  refine W_block ?_
  obtain ⟨L1, hs, hL1⟩ := hs.named
  refine W_loopF (fun f0 m f w1 => ∃ (i : Int), 0 ≤ i ∧ i ≤ 7 ∧ m = (7 - i).toNat ∧ (List.range i.toNat).all (matOK x y) = true ∧ sl f 0 = sl f0 0 ∧ sl f 3 = sl f0 3 ∧ sl f 4 = .bool false ∧ sl f 10 = sl f0 10 ∧ sl f 11 = sl f0 11 ∧ sl f 12 = .int .i64 i ∧ Sep w0 w1 (L1)) ((7 : Int) - 0).toNat ?_ ?_
  · exact ⟨0,  by omega, by omega, rfl, rfl, rfl, rfl, rfl, rfl, rfl, rfl, hs⟩
  clear hs
  rintro m f w1 ⟨i,  hi0, hi1, rfl, hP1, h1_0, h1_3, h1_4, h1_10, h1_11, h1_12, hs⟩
  subst hL1
  refine W_seq ?_
  refine W_region ?_
  refine L_q rfl (y_lss h1_12 h1_11) ?_  -- t13 := binOp lss 3 t12 t11 3
  refine L_nil ?_
  refine W_seq ?_
  refine W_if rfl (fun hq1 => ?_) (fun hq1 => ?_)
  · skip
    have hlt : i < 7 := of_decide_eq_true hq1
    have hlt' : i.toNat < 7 := by omega
    obtain ⟨A, c, hrg, hle, hC⟩ := lay_rg hx hL hlt'
    refine W_skip ?_
    refine W_seq ?_
    refine W_block ?_
    refine W_seq ?_
    refine W_region ?_
    refine L_q rfl (y_ia u_125 sz_129 h1_10 h1_12 (by omega) (by omega)) ?_  -- t14 := indexAddr 125 t10 t12
    refine L_q rfl (y_fls (cs := [_, _, _]) r_129 sz_129 rfl (rg_shape (rg_of_range (hs.rg 0 rfl 0 21 rfl)) hlt')) ?_  -- t15 := load 129 t14
    refine L_op rfl (o_alloc al_129 hs ?_)  -- t6 := alloc 129
    intro g6 w1 hs
    refine L_op rfl (o_store (seg := [_, _, _]) (cs' := [_, _, _]) sz_129 rfl rfl rfl rfl (hs.front 0) (Nat.le_of_ble_eq_true rfl) rfl ?_)  -- store 129 t6 t15
    intro w1 hs
    refine L_nil ?_
    refine W_seq ?_
    refine W_drawS rfl [true, true, true] hs ?_
    intro w1 hs
    refine H_q (i := 0) rfl (by kernel_rfl) rfl (fun _ hw => (y_fa fa_129_0 rfl)) (hs.keep [true, true, true]) ?_  -- t16 := fieldAddr 129 t6 0
    refine H_q (i := 1) rfl (by kernel_rfl) rfl (fun _ hw => (y_fld r_127 rfl (rg_of_range (hw.rg 0 rfl 0 1 rfl)))) (hs.keep [true, true, true]) ?_  -- t17 := load 127 t16
    refine H_q (i := 2) rfl (by kernel_rfl) rfl (fun _ hw => (y_move h1_0)) (hs.keep [true, true, true]) ?_  -- t18 := move t0
    refine H_q (i := 6) rfl (by kernel_rfl) rfl (fun _ hw => (y_fa fa_129_1 rfl)) (hs.keep [true, true, true]) ?_  -- t22 := fieldAddr 129 t6 1
    refine H_q (i := 7) rfl (by kernel_rfl) rfl (fun _ hw => (y_fld r_3 rfl (rg_of_range (hw.rg 0 rfl 1 1 rfl)))) (hs.keep [true, true, true]) ?_  -- t23 := load 3 t22
    refine H_q (i := 8) rfl (by kernel_rfl) rfl (fun _ hw => (y_fa fa_129_2 rfl)) (hs.keep [true, true, true]) ?_  -- t24 := fieldAddr 129 t6 2
    refine H_q (i := 9) rfl (by kernel_rfl) rfl (fun _ hw => (y_fld r_3 rfl (rg_of_range (hw.rg 0 rfl 2 1 rfl)))) (hs.keep [true, true, true]) ?_  -- t25 := load 3 t24
    refine H_loud (i := 3) rfl (by kernel_rfl) (by simp [Region.wanted]) (o_callv (en_shape hlt') rfl rfl hs (cal_shape _ ad hlt') ?_)  -- t19 := CALL t17(t18) :130
    intro v19 w1 hb hs hv19
    refine ⟨hs.keep [true, true, true], ?_⟩
    refine H_q (i := 4) rfl (by kernel_rfl) rfl (fun _ hw => (y_nil hv19)) (hs.keep [true, true, true]) ?_  -- t20 := nilCheck t19
    refine H_q (i := 5) rfl (by kernel_rfl) rfl (fun _ hw => (y_fls (cs := [_, _, _]) r_26 sz_26 rfl (hrg.below hw.below))) (hs.keep [true, true, true]) ?_  -- t21 := load 26 t20
    refine H_loud (i := 10) rfl (by kernel_rfl) (by simp [Region.wanted]) (o_call en_68 rfl hs (cal_model_shaped _ (matOf x i.toNat) _ _ _ (kM_mk _ _ hle (Kd.C_below hC hs.below)) (hnar _)) ?_)  -- t26 := CALL f68(t21, t23, t25) :4
    intro v26 w1 hb hs hv26
    refine ⟨hs.keep [true, true, true], ?_⟩
    refine H_q (i := 11) rfl (by kernel_rfl) rfl (fun _ hw => (y_not hv26)) (hs.keep [true, true, true]) ?_  -- t27 := unOp not 4 t26
    refine H_done (by kernel_rfl) ?_
    refine W_if rfl (fun hq2 => ?_) (fun hq2 => ?_)
    · skip
      refine W_seq ?_
      refine W_region ?_
      refine L_q rfl (y_assign rfl) ?_  -- t4 := assign false
      refine L_nil ?_
      refine W_ret ?_
      -- sep: g6 g10 g3
      refine ret_one rfl (.tmp (v := .bool false) rfl .nil) ⟨_, rfl, hs.below, ?_⟩
      have hno : matOK x y i.toNat = false := by simpa [matOK] using hq2
      rw [range_not hlt' hno]
      rfl
    · skip
      refine W_skip ?_
      refine W_region ?_
      refine L_q rfl (y_addi h1_12 rfl (by omega) (by omega)) ?_  -- t28 := binOp add 3 t12 1 3
      refine L_q rfl (y_move rfl) ?_  -- t12 := move t28
      refine L_nil ?_
      -- sep: g6 g10 g3
      exact ⟨_, by omega, i + 1,  by omega, by omega, rfl, range_step hi0 hP1 (by simpa [matOK] using hq2), h1_0, h1_3, h1_4, h1_10, h1_11, rfl, hs.keep [false, true, true]⟩
  · skip
    have hall : (List.range 7).all (matOK x y) = true := by
      have e7 : i.toNat = 7 := by have := of_decide_eq_false hq1; omega
      rwa [e7] at hP1
    obtain ⟨A0, c0, A1, c1, A4, c4, A7, c7, A10, c10, A13, c13, A16, c16, A19, c19, A22, c22, rfl, l0, d0, l1, d1, -⟩ := kL_open hx
    rw [hall, Bool.true_and]
    refine W_exit ?_
    refine x_hit ?_
    refine W_seq ?_
    refine W_seq ?_
    refine W_region ?_
    refine L_q rfl (y_move h1_0) ?_  -- t29 := move t0
    refine L_q rfl (y_nil rfl) ?_  -- t30 := nilCheck t29
    refine L_q rfl (y_fad fa_108_9 rfl) ?_  -- t31 := fieldAddr 108 t30 9
    refine L_q rfl (y_fls (cs := [_, _, _, _, _, _, _]) r_106 sz_106 rfl ((hL.below hs.below).sub 23 7 rfl)) ?_  -- t32 := load 106 t31
    refine L_q rfl (y_move rfl) ?_  -- t33 := move 0
    refine L_nil ?_
    refine W_block ?_
    obtain ⟨L2, hs, hL2⟩ := hs.named
    refine W_loopF (fun f0 m f w1 => ∃ (i : Int), 0 ≤ i ∧ i ≤ 7 ∧ m = (7 - i).toNat ∧ ((byList x.f9).take i.toNat).all shiftOK = true ∧ sl f 0 = sl f0 0 ∧ sl f 3 = sl f0 3 ∧ sl f 4 = .bool false ∧ sl f 10 = sl f0 10 ∧ sl f 11 = sl f0 11 ∧ sl f 12 = sl f0 12 ∧ sl f 32 = sl f0 32 ∧ sl f 33 = .int .i64 i ∧ Sep w0 w1 (L2)) ((7 : Int) - 0).toNat ?_ ?_
    · exact ⟨0,  by omega, by omega, rfl, rfl, rfl, rfl, h1_4, rfl, rfl, rfl, rfl, rfl, hs⟩
    clear hs
    rintro m f w1 ⟨i,  hi0, hi1, rfl, hP2, h2_0, h2_3, h2_4, h2_10, h2_11, h2_12, h2_32, h2_33, hs⟩
    subst hL2
    refine W_seq ?_
    refine W_region ?_
    refine L_q rfl (y_lss h2_33 rfl) ?_  -- t34 := binOp lss 3 t33 7 3
    refine L_nil ?_
    refine W_seq ?_
    refine W_if rfl (fun hq3 => ?_) (fun hq3 => ?_)
    · skip
      have hlt2 : i < 7 := of_decide_eq_true hq3
      refine W_skip ?_
      refine W_seq ?_
      refine W_block ?_
      refine W_seq ?_
      refine W_region ?_
      refine L_q rfl (y_index u_106 r_3 sz_3 h2_32 h2_33 (by omega) (by omega) (by_ix x.f9 hi0 hlt2)) ?_  -- t35 := index 106 t32 t33
      refine L_q rfl (y_assign rfl) ?_  -- t8 := assign t35
      refine L_nil ?_
      refine W_seq ?_
      refine W_region ?_
      refine L_q rfl (y_move rfl) ?_  -- t36 := move t8
      refine L_op rfl (o_call en_79 rfl hs (cal_model_within _ _ 0 24) ?_)  -- t37 := CALL f79(t36, 0, 24) :4
      intro v37 w1 hb hs hv37
      refine L_q rfl (y_not hv37) ?_  -- t38 := unOp not 4 t37
      refine L_nil ?_
      refine W_if rfl (fun hq4 => ?_) (fun hq4 => ?_)
      · skip
        refine W_seq ?_
        refine W_region ?_
        refine L_q rfl (y_assign rfl) ?_  -- t4 := assign false
        refine L_nil ?_
        refine W_ret ?_
        -- sep: g10 g3
        refine ret_one rfl (.tmp (v := .bool false) rfl .nil) ⟨_, rfl, hs.below, ?_⟩
        have hno : shiftOK (rd (byList x.f9) i) = false := by
          have h := hq4
          simp at h
          simp only [shiftOK, decide_eq_false_iff_not]
          omega
        rw [all_not hi0 (show i < ((byList x.f9).length : Int) from hlt2) hno]
        rfl
      · skip
        refine W_skip ?_
        refine W_region ?_
        refine L_q rfl (y_addi h2_33 rfl (by omega) (by omega)) ?_  -- t39 := binOp add 3 t33 1 3
        refine L_q rfl (y_move rfl) ?_  -- t33 := move t39
        refine L_nil ?_
        -- sep: g10 g3
        exact ⟨_, by omega, i + 1,  by omega, by omega, rfl, all_step hi0 (show i < ((byList x.f9).length : Int) from hlt2) hP2 (by simpa [shiftOK] using hq4), h2_0, h2_3, h2_4, h2_10, h2_11, h2_12, h2_32, rfl, hs⟩
    · skip
      have hall2 : (byList x.f9).all shiftOK = true := all_end hP2 (by have := of_decide_eq_false hq3; simp [byList]; omega)
      rw [hall2, Bool.true_and]
      refine W_exit ?_
      refine x_hit ?_
      refine W_seq ?_
      refine W_drawS rfl [true, true] hs ?_
      intro w1 hs
      refine H_q (i := 0) rfl (by kernel_rfl) rfl (fun _ hw => (y_move (h2_0.trans h1_0))) (hs.keep [true, true]) ?_  -- t40 := move t0
      refine H_q (i := 1) rfl (by kernel_rfl) rfl (fun _ hw => (y_nil rfl)) (hs.keep [true, true]) ?_  -- t41 := nilCheck t40
      refine H_q (i := 2) rfl (by kernel_rfl) rfl (fun _ hw => (y_fad fa_108_0 rfl)) (hs.keep [true, true]) ?_  -- t42 := fieldAddr 108 t41 0
      refine H_q (i := 3) rfl (by kernel_rfl) rfl (fun _ hw => (y_fld r_24 rfl ((hL.below hw.below).sub 0 1 rfl))) (hs.keep [true, true]) ?_  -- t43 := load 24 t42
      refine H_q (i := 4) rfl (by kernel_rfl) rfl (fun _ hw => (y_fa fa_23_1 (h2_3.trans h1_3))) (hs.keep [true, true]) ?_  -- t44 := fieldAddr 23 t3 1
      refine H_q (i := 5) rfl (by kernel_rfl) rfl (fun _ hw => (y_fld r_3 rfl (rg_of_range (hw.rg 1 rfl 1 1 rfl)))) (hs.keep [true, true]) ?_  -- t45 := load 3 t44
      refine H_loud (i := 6) rfl (by kernel_rfl) (by simp [Region.wanted]) (o_call en_69 rfl hs (cal_model_gains _ A0 c0 x.f0 _ (Kd.C_below d0 hs.below)) ?_)  -- t46 := CALL f69(t43, t45) :4
      intro v46 w1 hb hs hv46
      refine ⟨hs.keep [true, true], ?_⟩
      refine H_q (i := 7) rfl (by kernel_rfl) rfl (fun _ hw => (y_move hv46)) (hs.keep [true, true]) ?_  -- t47 := move t46
      refine H_qif (i := 8) rfl (by kernel_rfl) rfl rfl rfl (fun _ hw hc => (y_move (h2_0.trans h1_0))) (hs.keep [true, true]) ?_  -- t48 := move t0 ?(7,true)
      refine H_qif (i := 9) rfl (by kernel_rfl) rfl rfl rfl (fun _ hw hc => (y_nil (gv_yes hc))) (hs.keep [true, true]) ?_  -- t49 := nilCheck t48 ?(7,true)
      refine H_qif (i := 10) rfl (by kernel_rfl) rfl rfl rfl (fun _ hw hc => (y_fad fa_108_1 (gv_yes hc))) (hs.keep [true, true]) ?_  -- t50 := fieldAddr 108 t49 1 ?(7,true)
      refine H_qif (i := 11) rfl (by kernel_rfl) rfl rfl rfl (fun _ hw hc => (y_fld r_24 (gv_yes hc) ((hL.below hw.below).sub 1 1 rfl))) (hs.keep [true, true]) ?_  -- t51 := load 24 t50 ?(7,true)
      refine H_qif (i := 12) rfl (by kernel_rfl) rfl rfl rfl (fun _ hw hc => (y_fa fa_23_1 (h2_3.trans h1_3))) (hs.keep [true, true]) ?_  -- t52 := fieldAddr 23 t3 1 ?(7,true)
      refine H_qif (i := 13) rfl (by kernel_rfl) rfl rfl rfl (fun _ hw hc => (y_fld r_3 (gv_yes hc) (rg_of_range (hw.rg 1 rfl 1 1 rfl)))) (hs.keep [true, true]) ?_  -- t53 := load 3 t52 ?(7,true)
      refine H_callif (i := 14) rfl (by kernel_rfl) (by kernel_rfl) rfl rfl en_69 (fun hc => args2 (gv_yes hc) (gv_yes hc)) hs (fun _ h => h.keep [true, true]) (fun hc => cal_model_gains _ A1 c1 x.f1 _ (Kd.C_below d1 hs.below)) ?_  -- t54 := CALL f69(t51, t53) :4 ?(7,true)
      intro v54 w1 hb hs hv54
      refine H_q (i := 15) rfl (by kernel_rfl) rfl (fun _ hw => (y_pand rfl hv54)) (hs.keep [true, true]) ?_  -- t55 := pick t47 t54 false
      refine H_q (i := 16) rfl (by kernel_rfl) rfl (fun _ hw => (y_assign rfl)) (hs.keep [true, true]) ?_  -- t4 := assign t55
      refine H_done (by kernel_rfl) ?_
      refine W_ret ?_
      -- sep: g10 g3
      refine ret_one rfl (.tmp (v := _) rfl .nil) ⟨_, rfl, hs.below, ?_⟩
      rfl
end Go.Proofs.YtlmddncoeikfjaaDoor
