/- Walks: copies of weights. -/
import Derived.Test.YtlmddncoeikfjaaDoorVL
namespace Go.Proofs.YtlmddncoeikfjaaDoor
open Go.RowKit Go.Proofs.YtlmddncoeikfjaaDoorW.PrintWords
set_option maxRecDepth 100000
set_option maxHeartbeats 4000000

theorem getD_mem' {α : Type} {l : List α} {z : α} {i : Int} (h0 : 0 ≤ i) (h1 : i < l.length) : l.getD i.toNat z ∈ l := by
  have hi : i.toNat < l.length := by omega
  rw [getD_get h0 h1]
  exact List.getElem_mem _
def smW (x : SW) : Prop := x.f1.f2.length ≤ 100000 ∧ x.f2.length ≤ 100000 ∧ (∀ l ∈ x.f3, smL l) ∧ x.f3.length ≤ 100000 ∧ x.f4.length ≤ 100000 ∧ x.f5.f2.length ≤ 100000 ∧ (∀ m ∈ x.f6, m.f2.length ≤ 100000) ∧ x.f6.length ≤ 100000
theorem cal_ref00_CopyWeights (w0 : World) (x : SW) (cs : List Value) (hx : kW.K w0 x cs) (hsm : smW x) : Cal Tryd.prog 33 #[.agg cs.toArray] w0 fun v w1 => Below w0.heap.size w0 w1 ∧ ∃ cs, v = .agg cs.toArray ∧ kW.M w1 w0.heap.size (fun _ => True) x cs := by
  obtain ⟨A10, c10, A11, c11, A12, c12, A13, c13, A16, c16, A17, c17, rfl, l10, d10, l11, d11, l12, d12, l13, d13, l16, d16, l17, d17⟩ := kW_open hx
  obtain ⟨s0, s1, s2, s3, s4, s5, s6, s7⟩ := hsm
  refine cal_W (n := 66) Tryd.func33 rfl rfl (by simp) ?_
  have hs := ((Sep.refl w0).nilR kM 26).nilR kL 108
  refine W_seq ?_
  refine W_region ?_
  refine L_op rfl (o_box (cs := [_, _, _, _, _, _, _, _, _, _, _, _, _, _, _, _, _, _]) rfl rfl hs ?_)  -- t1 := box 31 t0
  intro g1 w1 hs
  refine L_op rfl (o_alloc al_31 hs ?_)  -- t2 := alloc 31
  intro g2 w1 hs
  refine L_nil ?_
  refine W_seq ?_
  refine W_region ?_
  refine L_q rfl (y_fls (cs := [_, _, _, _, _, _, _, _, _, _, _, _, _, _, _, _, _, _]) r_31 sz_31 rfl (rg_of_range (hs.rg 1 rfl 0 18 rfl))) ?_  -- t8 := load 31 t1
  refine L_op rfl (o_alloc al_31 hs ?_)  -- t3 := alloc 31
  intro g3 w1 hs
  refine L_op rfl (o_store (seg := [_, _, _, _, _, _, _, _, _, _, _, _, _, _, _, _, _, _]) (cs' := [_, _, _, _, _, _, _, _, _, _, _, _, _, _, _, _, _, _]) sz_31 rfl rfl rfl rfl (hs.front 0) (Nat.le_of_ble_eq_true rfl) rfl ?_)  -- store 31 t3 t8
  intro w1 hs
  refine L_nil ?_
  refine W_seq ?_
  refine W_region ?_
  refine L_q rfl (y_fa fa_31_1 rfl) ?_  -- t9 := fieldAddr 31 t1 1
  refine L_q rfl (y_fls (cs := [_, _, _]) r_26 sz_26 rfl (rg_of_range (hs.rg 2 rfl 8 3 rfl))) ?_  -- t10 := load 26 t9
  refine L_op rfl (o_callM en_54 rfl hs (cal_ref00_CopyMat _ x.f1 _ (kM_mk _ _ l10 (Kd.C_below d10 hs.below)) s0) ?_)  -- t11 := CALL f54(t10) :26
  intro cs11 w1 hb hs
  obtain ⟨r11_2, rfl, q11_2⟩ := kM_openM hs.outM
  obtain ⟨A11_2, c11_2, rfl⟩ := Kd.R_slice q11_2
  refine L_q rfl (y_fa fa_31_1 rfl) ?_  -- t12 := fieldAddr 31 t3 1
  refine L_op rfl (o_store (seg := [_, _, _]) (cs' := [_, _, _, _, _, _, _, _, _, _, _, _, _, _, _, _, _, _]) sz_26 rfl rfl rfl rfl (hs.front 1) (Nat.le_of_ble_eq_true rfl) rfl ?_)  -- store 26 t12 t11
  intro w1 hs
  refine L_nil ?_
  refine W_seq ?_
  refine W_region ?_
  refine L_q rfl (y_fa fa_31_2 rfl) ?_  -- t13 := fieldAddr 31 t1 2
  refine L_q rfl (y_fld r_27 rfl (rg_of_range (hs.rg 3 rfl 11 1 rfl))) ?_  -- t14 := load 27 t13
  refine L_op rfl (o_callR en_55 rfl hs (cal_ref00_CopyTurns _ A11 c11 x.f2 (Kd.C_below d11 hs.below) s1) ?_)  -- t15 := CALL f55(t14) :27
  intro v15 w1 hb hs
  obtain ⟨A15, c15, rfl⟩ := Kd.R_slice hs.outR
  refine L_q rfl (y_fa fa_31_2 rfl) ?_  -- t16 := fieldAddr 31 t3 2
  refine L_op rfl (o_store (seg := [_]) (cs' := [_, _, _, _, _, _, _, _, _, _, _, _, _, _, _, _, _, _]) sz_27 rfl rfl rfl rfl (hs.front 1) (Nat.le_of_ble_eq_true rfl) rfl ?_)  -- store 27 t16 t15
  intro w1 hs
  refine L_nil ?_
  refine W_seq ?_
  refine W_region ?_
  refine L_q rfl (y_fa fa_31_3 rfl) ?_  -- t17 := fieldAddr 31 t3 3
  refine L_op rfl (o_store (seg := [_]) (cs' := [_, _, _, _, _, _, _, _, _, _, _, _, _, _, _, _, _, _]) sz_28 rfl rfl rfl rfl (hs.front 0) (Nat.le_of_ble_eq_true rfl) rfl ?_)  -- store 28 t17 nil
  intro w1 hs
  refine L_nil ?_
  refine W_seq ?_
  refine W_seq ?_
  refine W_region ?_
  refine L_q rfl (y_assign rfl) ?_  -- t4 := assign 0
  refine L_nil ?_
  refine W_block ?_
  obtain ⟨L1, hs, hL1⟩ := ((hs.front 5).front 1).named2
  obtain ⟨c1_g3, hs, hc1_g3⟩ := hs.cells1
  refine W_loopF (fun f0 m f w1 => ∃ (i : Int) (v : Value), 0 ≤ i ∧ i ≤ x.f3.length ∧ m = (x.f3.length - i).toNat ∧ True ∧ sl f 1 = sl f0 1 ∧ sl f 2 = sl f0 2 ∧ sl f 3 = sl f0 3 ∧ sl f 4 = .int .i64 i ∧ Sep w0 w1 (blk g3 31 (c1_g3.set 12 v) :: row w0.heap.size kL 108 v (x.f3.take i.toNat) :: L1)) ((x.f3.length : Int) - 0).toNat ?_ ?_
  · subst hc1_g3; exact ⟨0, .slice none 0 0, by omega, by omega, rfl, trivial, rfl, rfl, rfl, rfl, hs⟩
  clear hs
  rintro m f w1 ⟨i, v, hi0, hi1, rfl, hP1, h1_1, h1_2, h1_3, h1_4, hs⟩
  subst hc1_g3; subst hL1
  obtain ⟨Av, cv, rfl⟩ := Kd.R_slice (hs.front 1).outR
  refine W_seq ?_
  refine W_seq ?_
  refine W_region ?_
  refine L_q rfl (y_move h1_4) ?_  -- t18 := move t4
  refine L_q rfl (y_fa fa_31_3 h1_1) ?_  -- t19 := fieldAddr 31 t1 3
  refine L_q rfl (y_fld r_28 rfl (rg_of_range (hs.rg 5 rfl 12 1 rfl))) ?_  -- t20 := load 28 t19
  refine L_q rfl (y_len u_28 rfl) ?_  -- t21 := len(t20) :3
  refine L_q rfl (y_lss rfl rfl) ?_  -- t22 := binOp lss 3 t18 t21 3
  refine L_nil ?_
  refine W_if rfl (fun hq1 => ?_) (fun hq1 => ?_)
  · skip
    refine W_skip ?_
    have hlt : i < x.f3.length := of_decide_eq_true hq1
    obtain ⟨ad, cu, rfl, hK, hrg⟩ := Kd.C_at (Kd.C_below d12 hs.below) zL i hi0 hlt
    obtain ⟨B0, e0, B1, e1, B4, e4, B7, e7, B10, e10, B13, e13, B16, e16, B19, e19, B22, e22, rfl, -⟩ := kL_open hK
    have hbl := Below.refl w1.heap.size w1
    refine W_seq ?_
    refine W_block ?_
    refine W_seq ?_
    refine W_region ?_
    refine L_q rfl (y_fa fa_31_3 h1_1) ?_  -- t25 := fieldAddr 31 t1 3
    refine L_q rfl (y_fld r_28 rfl (rg_of_range (hs.rg 5 rfl 12 1 rfl))) ?_  -- t26 := load 28 t25
    refine L_q rfl (y_move h1_4) ?_  -- t27 := move t4
    refine L_q rfl (y_ia u_28 sz_108 rfl rfl (by omega) (by omega)) ?_  -- t28 := indexAddr 28 t26 t27
    refine L_q rfl (y_fls (cs := [_, _, _, _, _, _, _, _, _, _, _, _, _, _, _, _, _, _, _, _, _, _, _, _, _, _, _, _, _, _]) r_108 sz_108 rfl hrg) ?_  -- t29 := load 108 t28
    refine L_op rfl (o_callM en_56 rfl hs (cal_ref00_CopyLayer _ (x.f3.getD i.toNat zL) _ hK (s2 _ (getD_mem' hi0 hlt))) ?_)  -- t30 := CALL f56(t29) :108
    intro cs30 w1 hb hs
    obtain ⟨r30_0, r30_1, r30_4, r30_7, r30_10, r30_13, r30_16, r30_19, r30_22, rfl, q30_0, q30_1, q30_4, q30_7, q30_10, q30_13, q30_16, q30_19, q30_22⟩ := kL_openM hs.outM
    obtain ⟨A30_0, c30_0, rfl⟩ := Kd.R_slice q30_0
    obtain ⟨A30_1, c30_1, rfl⟩ := Kd.R_slice q30_1
    obtain ⟨A30_4, c30_4, rfl⟩ := Kd.R_slice q30_4
    obtain ⟨A30_7, c30_7, rfl⟩ := Kd.R_slice q30_7
    obtain ⟨A30_10, c30_10, rfl⟩ := Kd.R_slice q30_10
    obtain ⟨A30_13, c30_13, rfl⟩ := Kd.R_slice q30_13
    obtain ⟨A30_16, c30_16, rfl⟩ := Kd.R_slice q30_16
    obtain ⟨A30_19, c30_19, rfl⟩ := Kd.R_slice q30_19
    obtain ⟨A30_22, c30_22, rfl⟩ := Kd.R_slice q30_22
    refine L_op rfl (o_alloc al_108 hs ?_)  -- t5 := alloc 108
    intro g5 w1 hs
    refine L_op rfl (o_store (seg := [_, _, _, _, _, _, _, _, _, _, _, _, _, _, _, _, _, _, _, _, _, _, _, _, _, _, _, _, _, _]) (cs' := [_, _, _, _, _, _, _, _, _, _, _, _, _, _, _, _, _, _, _, _, _, _, _, _, _, _, _, _, _, _]) sz_108 rfl rfl rfl rfl (hs.front 0) (Nat.le_of_ble_eq_true rfl) rfl ?_)  -- store 108 t5 t30
    intro w1 hs
    refine L_nil ?_
    refine W_region ?_
    refine L_q rfl (y_fa fa_31_3 h1_3) ?_  -- t31 := fieldAddr 31 t3 3
    refine L_q rfl (y_fld r_28 rfl (rg_of_range (hs.rg 2 rfl 12 1 rfl))) ?_  -- t32 := load 28 t31
    refine L_q rfl (y_fls (cs := [_, _, _, _, _, _, _, _, _, _, _, _, _, _, _, _, _, _, _, _, _, _, _, _, _, _, _, _, _, _]) r_108 sz_108 rfl (rg_of_range (hs.rg 0 rfl 0 30 rfl))) ?_  -- t33 := load 108 t5
    refine L_op rfl (o_bs (cs := [_, _, _, _, _, _, _, _, _, _, _, _, _, _, _, _, _, _, _, _, _, _, _, _, _, _, _, _, _, _]) u_28 i_108 rfl rfl rfl (by decide) (by decide) hs ?_)  -- t34 := buildSlice 28 1 [0=t33]
    intro g34 w1 hs
    refine L_op rfl (o_app u_28 i_108 rfl (by decide) (by decide) rfl rfl (((hs.front 4).front 3).front 2) (by have := List.length_take_le' i.toNat x.f3; omega) ?_)  -- t35 := append(t32, t34) :28
    intro v35 w1 hs
    rw [takeG_snoc hi0 hlt] at hs
    obtain ⟨A35, c35, rfl⟩ := Kd.R_slice hs.outR
    refine L_q rfl (y_fa fa_31_3 h1_3) ?_  -- t36 := fieldAddr 31 t3 3
    refine L_op rfl (o_store (seg := [_]) (cs' := [_, _, _, _, _, _, _, _, _, _, _, _, _, _, _, _, _, _]) sz_28 rfl rfl rfl rfl (hs.front 2) (Nat.le_of_ble_eq_true rfl) rfl ?_)  -- store 28 t36 t35
    intro w1 hs
    refine L_nil ?_
    refine W_region ?_
    refine L_q rfl (y_move h1_4) ?_  -- t23 := move t4
    refine L_q rfl (y_addi rfl rfl (by omega) (by omega)) ?_  -- t24 := binOp add 3 t23 1 3
    refine L_q rfl (y_assign rfl) ?_  -- t4 := assign t24
    refine L_nil ?_
    -- sep: g3 Lay g5 row15 own11 g2 g1 Med
    exact ⟨_, by omega, i + 1, _, by omega, by omega, rfl, trivial, h1_1, h1_2, h1_3, rfl, ((hs.front 1).front 1).keep [true, true, false, true, true, true, true, true]⟩
  · skip
    have e3 : i.toNat = x.f3.length := by have := of_decide_eq_false hq1; omega
    refine W_exit ?_
    refine x_hit ?_
    refine W_seq ?_
    refine W_region ?_
    refine L_q rfl (y_fa fa_31_4 h1_1) ?_  -- t37 := fieldAddr 31 t1 4
    refine L_q rfl (y_fld r_24 rfl (rg_of_range (hs.rg 5 rfl 13 1 rfl))) ?_  -- t38 := load 24 t37
    refine L_op rfl (o_callR en_38 rfl hs (cal_ref00_CopyNarrow _ A13 c13 x.f4 (Kd.C_below d13 hs.below) s4) ?_)  -- t39 := CALL f38(t38) :24
    intro v39 w1 hb hs
    obtain ⟨A39, c39, rfl⟩ := Kd.R_slice hs.outR
    refine L_q rfl (y_fa fa_31_4 h1_3) ?_  -- t40 := fieldAddr 31 t3 4
    refine L_op rfl (o_store (seg := [_]) (cs' := [_, _, _, _, _, _, _, _, _, _, _, _, _, _, _, _, _, _]) sz_24 rfl rfl rfl rfl (hs.front 1) (Nat.le_of_ble_eq_true rfl) rfl ?_)  -- store 24 t40 t39
    intro w1 hs
    refine L_nil ?_
    refine W_seq ?_
    refine W_region ?_
    refine L_q rfl (y_fa fa_31_5 h1_1) ?_  -- t41 := fieldAddr 31 t1 5
    refine L_q rfl (y_fls (cs := [_, _, _]) r_26 sz_26 rfl (rg_of_range (hs.rg 6 rfl 14 3 rfl))) ?_  -- t42 := load 26 t41
    refine L_op rfl (o_callM en_54 rfl hs (cal_ref00_CopyMat _ x.f5 _ (kM_mk _ _ l16 (Kd.C_below d16 hs.below)) s5) ?_)  -- t43 := CALL f54(t42) :26
    intro cs43 w1 hb hs
    obtain ⟨r43_2, rfl, q43_2⟩ := kM_openM hs.outM
    obtain ⟨A43_2, c43_2, rfl⟩ := Kd.R_slice q43_2
    refine L_q rfl (y_fa fa_31_5 h1_3) ?_  -- t44 := fieldAddr 31 t3 5
    refine L_op rfl (o_store (seg := [_, _, _]) (cs' := [_, _, _, _, _, _, _, _, _, _, _, _, _, _, _, _, _, _]) sz_26 rfl rfl rfl rfl (hs.front 1) (Nat.le_of_ble_eq_true rfl) rfl ?_)  -- store 26 t44 t43
    intro w1 hs
    refine L_nil ?_
    refine W_seq ?_
    refine W_region ?_
    refine L_q rfl (y_fa fa_31_6 h1_3) ?_  -- t45 := fieldAddr 31 t3 6
    refine L_op rfl (o_store (seg := [_]) (cs' := [_, _, _, _, _, _, _, _, _, _, _, _, _, _, _, _, _, _]) sz_29 rfl rfl rfl rfl (hs.front 0) (Nat.le_of_ble_eq_true rfl) rfl ?_)  -- store 29 t45 nil
    intro w1 hs
    refine L_nil ?_
    refine W_seq ?_
    refine W_seq ?_
    refine W_region ?_
    refine L_q rfl (y_assign rfl) ?_  -- t6 := assign 0
    refine L_nil ?_
    refine W_block ?_
    obtain ⟨L2, hs, hL2⟩ := ((hs.front 8).front 1).named2
    obtain ⟨c2_g3, hs, hc2_g3⟩ := hs.cells1
    refine W_loopF (fun f0 m f w1 => ∃ (i : Int) (u : Value), 0 ≤ i ∧ i ≤ x.f6.length ∧ m = (x.f6.length - i).toNat ∧ True ∧ sl f 1 = sl f0 1 ∧ sl f 2 = sl f0 2 ∧ sl f 3 = sl f0 3 ∧ sl f 4 = sl f0 4 ∧ sl f 6 = .int .i64 i ∧ Sep w0 w1 (blk g3 31 (c2_g3.set 17 u) :: row w0.heap.size kM 26 u (x.f6.take i.toNat) :: L2)) ((x.f6.length : Int) - 0).toNat ?_ ?_
    · subst hc2_g3; exact ⟨0, .slice none 0 0, by omega, by omega, rfl, trivial, rfl, rfl, rfl, rfl, rfl, hs⟩
    clear hs
    rintro m f w1 ⟨i, u, hi0, hi1, rfl, hP2, h2_1, h2_2, h2_3, h2_4, h2_6, hs⟩
    subst hc2_g3; subst hL2
    obtain ⟨Au, cu, rfl⟩ := Kd.R_slice (hs.front 1).outR
    refine W_seq ?_
    refine W_seq ?_
    refine W_region ?_
    refine L_q rfl (y_move h2_6) ?_  -- t46 := move t6
    refine L_q rfl (y_fa fa_31_6 (h2_1.trans h1_1)) ?_  -- t47 := fieldAddr 31 t1 6
    refine L_q rfl (y_fld r_29 rfl (rg_of_range (hs.rg 8 rfl 17 1 rfl))) ?_  -- t48 := load 29 t47
    refine L_q rfl (y_len u_29 rfl) ?_  -- t49 := len(t48) :3
    refine L_q rfl (y_lss rfl rfl) ?_  -- t50 := binOp lss 3 t46 t49 3
    refine L_nil ?_
    refine W_if rfl (fun hq2 => ?_) (fun hq2 => ?_)
    · skip
      refine W_skip ?_
      have hlt2 : i < x.f6.length := of_decide_eq_true hq2
      obtain ⟨ad, cu, rfl, hK, hrg⟩ := Kd.C_at (Kd.C_below d17 hs.below) zM i hi0 hlt2
      obtain ⟨B2, e2, rfl, -⟩ := kM_open hK
      refine W_seq ?_
      refine W_block ?_
      refine W_seq ?_
      refine W_region ?_
      refine L_q rfl (y_fa fa_31_6 (h2_1.trans h1_1)) ?_  -- t53 := fieldAddr 31 t1 6
      refine L_q rfl (y_fld r_29 rfl (rg_of_range (hs.rg 8 rfl 17 1 rfl))) ?_  -- t54 := load 29 t53
      refine L_q rfl (y_move h2_6) ?_  -- t55 := move t6
      refine L_q rfl (y_ia u_29 sz_26 rfl rfl (by omega) (by omega)) ?_  -- t56 := indexAddr 29 t54 t55
      refine L_q rfl (y_fls (cs := [_, _, _]) r_26 sz_26 rfl hrg) ?_  -- t57 := load 26 t56
      refine L_op rfl (o_callM en_54 rfl hs (cal_ref00_CopyMat _ (x.f6.getD i.toNat zM) _ hK (s6 _ (getD_mem' hi0 hlt2))) ?_)  -- t58 := CALL f54(t57) :26
      intro cs58 w1 hb hs
      obtain ⟨r58_2, rfl, q58_2⟩ := kM_openM hs.outM
      obtain ⟨A58_2, c58_2, rfl⟩ := Kd.R_slice q58_2
      refine L_op rfl (o_alloc al_26 hs ?_)  -- t7 := alloc 26
      intro g7 w1 hs
      refine L_op rfl (o_store (seg := [_, _, _]) (cs' := [_, _, _]) sz_26 rfl rfl rfl rfl (hs.front 0) (Nat.le_of_ble_eq_true rfl) rfl ?_)  -- store 26 t7 t58
      intro w1 hs
      refine L_nil ?_
      refine W_region ?_
      refine L_q rfl (y_fa fa_31_6 (h2_3.trans h1_3)) ?_  -- t59 := fieldAddr 31 t3 6
      refine L_q rfl (y_fld r_29 rfl (rg_of_range (hs.rg 2 rfl 17 1 rfl))) ?_  -- t60 := load 29 t59
      refine L_q rfl (y_fls (cs := [_, _, _]) r_26 sz_26 rfl (rg_of_range (hs.rg 0 rfl 0 3 rfl))) ?_  -- t61 := load 26 t7
      refine L_op rfl (o_bs (cs := [_, _, _]) u_29 i_26 rfl rfl rfl (by decide) (by decide) hs ?_)  -- t62 := buildSlice 29 1 [0=t61]
      intro g62 w1 hs
      refine L_op rfl (o_app u_29 i_26 rfl (by decide) (by decide) rfl rfl (((hs.front 4).front 3).front 2) (by have := List.length_take_le' i.toNat x.f6; omega) ?_)  -- t63 := append(t60, t62) :29
      intro v63 w1 hs
      rw [takeG_snoc hi0 hlt2] at hs
      obtain ⟨A63, c63, rfl⟩ := Kd.R_slice hs.outR
      refine L_q rfl (y_fa fa_31_6 (h2_3.trans h1_3)) ?_  -- t64 := fieldAddr 31 t3 6
      refine L_op rfl (o_store (seg := [_]) (cs' := [_, _, _, _, _, _, _, _, _, _, _, _, _, _, _, _, _, _]) sz_29 rfl rfl rfl rfl (hs.front 2) (Nat.le_of_ble_eq_true rfl) rfl ?_)  -- store 29 t64 t63
      intro w1 hs
      refine L_nil ?_
      refine W_region ?_
      refine L_q rfl (y_move h2_6) ?_  -- t51 := move t6
      refine L_q rfl (y_addi rfl rfl (by omega) (by omega)) ?_  -- t52 := binOp add 3 t51 1 3
      refine L_q rfl (y_assign rfl) ?_  -- t6 := assign t52
      refine L_nil ?_
      -- sep: g3 Med g7 own43 row39 Lay row15 own11 g2 g1
      exact ⟨_, by omega, i + 1, _, by omega, by omega, rfl, trivial, h2_1, h2_2, h2_3, h2_4, rfl, ((hs.front 1).front 1).keep [true, true, false, true, true, true, true, true, true, true]⟩
    · skip
      refine W_exit ?_
      refine x_hit ?_
      refine W_seq ?_
      refine W_region ?_
      refine L_q rfl (y_fls (cs := [_, _, _, _, _, _, _, _, _, _, _, _, _, _, _, _, _, _]) r_31 sz_31 (h2_3.trans h1_3) (rg_of_range (hs.rg 0 rfl 0 18 rfl))) ?_  -- t65 := load 31 t3
      refine L_op rfl (o_store (seg := [_, _, _, _, _, _, _, _, _, _, _, _, _, _, _, _, _, _]) (cs' := [_, _, _, _, _, _, _, _, _, _, _, _, _, _, _, _, _, _]) sz_31 (h2_2.trans h1_2) rfl rfl rfl (hs.front 7) (Nat.le_of_ble_eq_true rfl) rfl ?_)  -- store 31 t2 t65
      intro w1 hs
      refine L_nil ?_
      refine W_ret ?_
      -- sep: g2 g3 Med own43 row39 Lay row15 own11 g1
      refine ret_one rfl (.cell (cs := [_, _, _, _, _, _, _, _, _, _, _, _, _, _, _, _, _, _]) (h2_2.trans h1_2) r_31 sz_31 (hs.rg 0 rfl 0 18 rfl) .nil) ⟨_, rfl, hs.below, ?_⟩
      have e6 : i.toNat = x.f6.length := by have := of_decide_eq_false hq2; omega
      rw [e3, e6, List.take_length, List.take_length] at hs ⊢
      have h := hs.tail.tail.out
      exact ⟨_, rfl, kW_mkM _ _ _ x (kM_row (h.own 5 rfl)) (h.row 4 rfl) (h.row 3 rfl) (h.row 2 rfl) (kM_row (h.own 1 rfl)) (h.row 0 rfl)⟩
end Go.Proofs.YtlmddncoeikfjaaDoor
