/- Walks: copies of matrices and layers. -/
import Derived.Test.YtlmddncoeikfjaaDoorVK
namespace Go.Proofs.YtlmddncoeikfjaaDoor
open Go.RowKit Go.Proofs.YtlmddncoeikfjaaDoorW.PrintWords
set_option maxRecDepth 100000
set_option maxHeartbeats 4000000

theorem kM_row {w : World} {B : Nat} {S : Nat → Prop} {x : SM} {a b v : Value} (h : kM.M w B S x [a, b, v]) : (Kd.int .i8).R 63 w B S v x.f2 := by
  obtain ⟨v2, he, q⟩ := kM_openM h
  simp only [List.cons.injEq, and_true] at he
  obtain ⟨_, _, rfl⟩ := he
  exact q
theorem Sep.rowM {w0 w : World} {l : List Asr} {B : Nat} {x : SM} {a b v : Value} (h : Sep w0 w (own B kM x [a, b, v] :: l)) : Sep w0 w (row B (Kd.int .i8) 63 v x.f2 :: l) := h.conv fun _ h => kM_row h
theorem cal_ref00_CopyMat (w0 : World) (x : SM) (cs : List Value) (hx : kM.K w0 x cs) (hsm : x.f2.length ≤ 100000) : Cal Tryd.prog 54 #[.agg cs.toArray] w0 fun v w1 => Below w0.heap.size w0 w1 ∧ ∃ cs, v = .agg cs.toArray ∧ kM.M w1 w0.heap.size (fun _ => True) x cs := by
  obtain ⟨A, c, rfl, hl, hC⟩ := kM_open hx
  refine cal_W (n := 11) Tryd.func54 rfl rfl (by simp) ?_
  have hs := Sep.refl w0
  refine W_seq ?_
  refine W_region ?_
  refine L_op rfl (o_box (cs := [_, _, _]) rfl rfl hs ?_)  -- t1 := box 26 t0
  intro g1 w1 hs
  refine L_op rfl (o_alloc al_26 hs ?_)  -- t2 := alloc 26
  intro g2 w1 hs
  refine L_nil ?_
  refine W_seq ?_
  refine W_drawS rfl [false, true] hs ?_
  intro w1 hs
  refine H_q (i := 0) rfl (by kernel_rfl) rfl (fun _ hw => (y_fa fa_26_0 rfl)) (hs.keep [false, true]) ?_  -- t3 := fieldAddr 26 t1 0
  refine H_q (i := 1) rfl (by kernel_rfl) rfl (fun _ hw => (y_fld r_3 rfl (rg_of_range (hw.rg 0 rfl 0 1 rfl)))) (hs.keep [false, true]) ?_  -- t4 := load 3 t3
  refine H_q (i := 2) rfl (by kernel_rfl) rfl (fun _ hw => (y_fa fa_26_1 rfl)) (hs.keep [false, true]) ?_  -- t5 := fieldAddr 26 t1 1
  refine H_q (i := 3) rfl (by kernel_rfl) rfl (fun _ hw => (y_fld r_3 rfl (rg_of_range (hw.rg 0 rfl 1 1 rfl)))) (hs.keep [false, true]) ?_  -- t6 := load 3 t5
  refine H_q (i := 4) rfl (by kernel_rfl) rfl (fun _ hw => (y_fa fa_26_2 rfl)) (hs.keep [false, true]) ?_  -- t7 := fieldAddr 26 t1 2
  refine H_q (i := 5) rfl (by kernel_rfl) rfl (fun _ hw => (y_fld r_24 rfl (rg_of_range (hw.rg 0 rfl 2 1 rfl)))) (hs.keep [false, true]) ?_  -- t8 := load 24 t7
  refine H_loud (i := 6) rfl (by kernel_rfl) (by simp [Region.wanted]) (o_callR en_38 rfl hs (cal_ref00_CopyNarrow _ A c x.f2 (Kd.C_below hC hs.below) hsm) ?_)  -- t9 := CALL f38(t8) :24
  intro v9 w1 hb hs
  obtain ⟨A9, c9, rfl⟩ := Kd.R_slice hs.outR
  refine ⟨hs.keep [false, false, true], ?_⟩
  refine H_q (i := 7) rfl (by kernel_rfl) rfl (fun _ hw => (y_build rfl (bd_26_012 ..))) (hs.keep [false, false, true]) ?_  -- t10 := build 26 [0=t4,1=t6,2=t9]
  refine H_loud (i := 8) rfl (by kernel_rfl) (by simp [Region.wanted]) (o_store (seg := [_, _, _]) (cs' := [_, _, _]) sz_26 rfl rfl rfl rfl (hs.front 1) (Nat.le_of_ble_eq_true rfl) rfl ?_)  -- store 26 t2 t10
  intro w1 hs
  refine ⟨hs.keep [false, false, true], ?_⟩
  refine H_done (by kernel_rfl) ?_
  refine W_ret ?_
  -- sep: g2 row9 g1
  refine ret_one rfl (.cell (cs := [_, _, _]) rfl r_26 sz_26 (hs.rg 0 rfl 0 3 rfl) .nil) ⟨_, rfl, hs.below, ?_⟩
  exact ⟨_, rfl, kM_mkM _ _ _ x (hs.front 1).outR⟩

def smL (x : SL) : Prop := x.f0.length ≤ 100000 ∧ x.f1.length ≤ 100000 ∧ x.f2.f2.length ≤ 100000 ∧ x.f3.f2.length ≤ 100000 ∧ x.f4.f2.length ≤ 100000 ∧ x.f5.f2.length ≤ 100000 ∧ x.f6.f2.length ≤ 100000 ∧ x.f7.f2.length ≤ 100000 ∧ x.f8.f2.length ≤ 100000
theorem cal_ref00_CopyLayer (w0 : World) (x : SL) (cs : List Value) (hx : kL.K w0 x cs) (hsm : smL x) : Cal Tryd.prog 56 #[.agg cs.toArray] w0 fun v w1 => Below w0.heap.size w0 w1 ∧ ∃ cs, v = .agg cs.toArray ∧ kL.M w1 w0.heap.size (fun _ => True) x cs := by
  obtain ⟨A0, c0, A1, c1, A4, c4, A7, c7, A10, c10, A13, c13, A16, c16, A19, c19, A22, c22, rfl, l0, d0, l1, d1, l4, d4, l7, d7, l10, d10, l13, d13, l16, d16, l19, d19, l22, d22⟩ := kL_open hx
  obtain ⟨s0, s1, s2, s3, s4, s5, s6, s7, s8⟩ := hsm
  refine cal_W (n := 42) Tryd.func56 rfl rfl (by simp) ?_
  have hs := Sep.refl w0
  refine W_seq ?_
  refine W_region ?_
  refine L_op rfl (o_box (cs := [_, _, _, _, _, _, _, _, _, _, _, _, _, _, _, _, _, _, _, _, _, _, _, _, _, _, _, _, _, _]) rfl rfl hs ?_)  -- t1 := box 108 t0
  intro g1 w1 hs
  refine L_op rfl (o_alloc al_108 hs ?_)  -- t2 := alloc 108
  intro g2 w1 hs
  refine L_nil ?_
  refine W_seq ?_
  refine W_region ?_
  refine L_q rfl (y_fls (cs := [_, _, _, _, _, _, _, _, _, _, _, _, _, _, _, _, _, _, _, _, _, _, _, _, _, _, _, _, _, _]) r_108 sz_108 rfl (rg_of_range (hs.rg 1 rfl 0 30 rfl))) ?_  -- t4 := load 108 t1
  refine L_op rfl (o_alloc al_108 hs ?_)  -- t3 := alloc 108
  intro g3 w1 hs
  refine L_op rfl (o_store (seg := [_, _, _, _, _, _, _, _, _, _, _, _, _, _, _, _, _, _, _, _, _, _, _, _, _, _, _, _, _, _]) (cs' := [_, _, _, _, _, _, _, _, _, _, _, _, _, _, _, _, _, _, _, _, _, _, _, _, _, _, _, _, _, _]) sz_108 rfl rfl rfl rfl (hs.front 0) (Nat.le_of_ble_eq_true rfl) rfl ?_)  -- store 108 t3 t4
  intro w1 hs
  refine L_nil ?_
  refine W_seq ?_
  refine W_region ?_
  refine L_q rfl (y_fa fa_108_0 rfl) ?_  -- t5 := fieldAddr 108 t1 0
  refine L_q rfl (y_fld r_24 rfl (rg_of_range (hs.rg 2 rfl 0 1 rfl))) ?_  -- t6 := load 24 t5
  refine L_op rfl (o_callR en_38 rfl hs (cal_ref00_CopyNarrow _ A0 c0 x.f0 (Kd.C_below d0 hs.below) s0) ?_)  -- t7 := CALL f38(t6) :24
  intro v7 w1 hb hs
  obtain ⟨A7, c7, rfl⟩ := Kd.R_slice hs.outR
  refine L_q rfl (y_fa fa_108_0 rfl) ?_  -- t8 := fieldAddr 108 t3 0
  refine L_op rfl (o_store (seg := [_]) (cs' := [_, _, _, _, _, _, _, _, _, _, _, _, _, _, _, _, _, _, _, _, _, _, _, _, _, _, _, _, _, _]) sz_24 rfl rfl rfl rfl (hs.front 1) (Nat.le_of_ble_eq_true rfl) rfl ?_)  -- store 24 t8 t7
  intro w1 hs
  refine L_nil ?_
  refine W_seq ?_
  refine W_region ?_
  refine L_q rfl (y_fa fa_108_1 rfl) ?_  -- t9 := fieldAddr 108 t1 1
  refine L_q rfl (y_fld r_24 rfl (rg_of_range (hs.rg 3 rfl 1 1 rfl))) ?_  -- t10 := load 24 t9
  refine L_op rfl (o_callR en_38 rfl hs (cal_ref00_CopyNarrow _ A1 c1 x.f1 (Kd.C_below d1 hs.below) s1) ?_)  -- t11 := CALL f38(t10) :24
  intro v11 w1 hb hs
  obtain ⟨A11, c11, rfl⟩ := Kd.R_slice hs.outR
  refine L_q rfl (y_fa fa_108_1 rfl) ?_  -- t12 := fieldAddr 108 t3 1
  refine L_op rfl (o_store (seg := [_]) (cs' := [_, _, _, _, _, _, _, _, _, _, _, _, _, _, _, _, _, _, _, _, _, _, _, _, _, _, _, _, _, _]) sz_24 rfl rfl rfl rfl (hs.front 1) (Nat.le_of_ble_eq_true rfl) rfl ?_)  -- store 24 t12 t11
  intro w1 hs
  refine L_nil ?_
  refine W_seq ?_
  refine W_region ?_
  refine L_q rfl (y_fa fa_108_2 rfl) ?_  -- t13 := fieldAddr 108 t1 2
  refine L_q rfl (y_fls (cs := [_, _, _]) r_26 sz_26 rfl (rg_of_range (hs.rg 4 rfl 2 3 rfl))) ?_  -- t14 := load 26 t13
  refine L_op rfl (o_callM en_54 rfl hs (cal_ref00_CopyMat _ x.f2 _ (kM_mk _ _ l4 (Kd.C_below d4 hs.below)) s2) ?_)  -- t15 := CALL f54(t14) :26
  intro cs15 w1 hb hs
  obtain ⟨r15_2, rfl, q15_2⟩ := kM_openM hs.outM
  obtain ⟨A15_2, c15_2, rfl⟩ := Kd.R_slice q15_2
  refine L_q rfl (y_fa fa_108_2 rfl) ?_  -- t16 := fieldAddr 108 t3 2
  refine L_op rfl (o_store (seg := [_, _, _]) (cs' := [_, _, _, _, _, _, _, _, _, _, _, _, _, _, _, _, _, _, _, _, _, _, _, _, _, _, _, _, _, _]) sz_26 rfl rfl rfl rfl (hs.front 1) (Nat.le_of_ble_eq_true rfl) rfl ?_)  -- store 26 t16 t15
  intro w1 hs
  refine L_nil ?_
  refine W_seq ?_
  refine W_region ?_
  refine L_q rfl (y_fa fa_108_3 rfl) ?_  -- t17 := fieldAddr 108 t1 3
  refine L_q rfl (y_fls (cs := [_, _, _]) r_26 sz_26 rfl (rg_of_range (hs.rg 5 rfl 5 3 rfl))) ?_  -- t18 := load 26 t17
  refine L_op rfl (o_callM en_54 rfl hs (cal_ref00_CopyMat _ x.f3 _ (kM_mk _ _ l7 (Kd.C_below d7 hs.below)) s3) ?_)  -- t19 := CALL f54(t18) :26
  intro cs19 w1 hb hs
  obtain ⟨r19_2, rfl, q19_2⟩ := kM_openM hs.outM
  obtain ⟨A19_2, c19_2, rfl⟩ := Kd.R_slice q19_2
  refine L_q rfl (y_fa fa_108_3 rfl) ?_  -- t20 := fieldAddr 108 t3 3
  refine L_op rfl (o_store (seg := [_, _, _]) (cs' := [_, _, _, _, _, _, _, _, _, _, _, _, _, _, _, _, _, _, _, _, _, _, _, _, _, _, _, _, _, _]) sz_26 rfl rfl rfl rfl (hs.front 1) (Nat.le_of_ble_eq_true rfl) rfl ?_)  -- store 26 t20 t19
  intro w1 hs
  refine L_nil ?_
  refine W_seq ?_
  refine W_region ?_
  refine L_q rfl (y_fa fa_108_4 rfl) ?_  -- t21 := fieldAddr 108 t1 4
  refine L_q rfl (y_fls (cs := [_, _, _]) r_26 sz_26 rfl (rg_of_range (hs.rg 6 rfl 8 3 rfl))) ?_  -- t22 := load 26 t21
  refine L_op rfl (o_callM en_54 rfl hs (cal_ref00_CopyMat _ x.f4 _ (kM_mk _ _ l10 (Kd.C_below d10 hs.below)) s4) ?_)  -- t23 := CALL f54(t22) :26
  intro cs23 w1 hb hs
  obtain ⟨r23_2, rfl, q23_2⟩ := kM_openM hs.outM
  obtain ⟨A23_2, c23_2, rfl⟩ := Kd.R_slice q23_2
  refine L_q rfl (y_fa fa_108_4 rfl) ?_  -- t24 := fieldAddr 108 t3 4
  refine L_op rfl (o_store (seg := [_, _, _]) (cs' := [_, _, _, _, _, _, _, _, _, _, _, _, _, _, _, _, _, _, _, _, _, _, _, _, _, _, _, _, _, _]) sz_26 rfl rfl rfl rfl (hs.front 1) (Nat.le_of_ble_eq_true rfl) rfl ?_)  -- store 26 t24 t23
  intro w1 hs
  refine L_nil ?_
  refine W_seq ?_
  refine W_region ?_
  refine L_q rfl (y_fa fa_108_5 rfl) ?_  -- t25 := fieldAddr 108 t1 5
  refine L_q rfl (y_fls (cs := [_, _, _]) r_26 sz_26 rfl (rg_of_range (hs.rg 7 rfl 11 3 rfl))) ?_  -- t26 := load 26 t25
  refine L_op rfl (o_callM en_54 rfl hs (cal_ref00_CopyMat _ x.f5 _ (kM_mk _ _ l13 (Kd.C_below d13 hs.below)) s5) ?_)  -- t27 := CALL f54(t26) :26
  intro cs27 w1 hb hs
  obtain ⟨r27_2, rfl, q27_2⟩ := kM_openM hs.outM
  obtain ⟨A27_2, c27_2, rfl⟩ := Kd.R_slice q27_2
  refine L_q rfl (y_fa fa_108_5 rfl) ?_  -- t28 := fieldAddr 108 t3 5
  refine L_op rfl (o_store (seg := [_, _, _]) (cs' := [_, _, _, _, _, _, _, _, _, _, _, _, _, _, _, _, _, _, _, _, _, _, _, _, _, _, _, _, _, _]) sz_26 rfl rfl rfl rfl (hs.front 1) (Nat.le_of_ble_eq_true rfl) rfl ?_)  -- store 26 t28 t27
  intro w1 hs
  refine L_nil ?_
  refine W_seq ?_
  refine W_region ?_
  refine L_q rfl (y_fa fa_108_6 rfl) ?_  -- t29 := fieldAddr 108 t1 6
  refine L_q rfl (y_fls (cs := [_, _, _]) r_26 sz_26 rfl (rg_of_range (hs.rg 8 rfl 14 3 rfl))) ?_  -- t30 := load 26 t29
  refine L_op rfl (o_callM en_54 rfl hs (cal_ref00_CopyMat _ x.f6 _ (kM_mk _ _ l16 (Kd.C_below d16 hs.below)) s6) ?_)  -- t31 := CALL f54(t30) :26
  intro cs31 w1 hb hs
  obtain ⟨r31_2, rfl, q31_2⟩ := kM_openM hs.outM
  obtain ⟨A31_2, c31_2, rfl⟩ := Kd.R_slice q31_2
  refine L_q rfl (y_fa fa_108_6 rfl) ?_  -- t32 := fieldAddr 108 t3 6
  refine L_op rfl (o_store (seg := [_, _, _]) (cs' := [_, _, _, _, _, _, _, _, _, _, _, _, _, _, _, _, _, _, _, _, _, _, _, _, _, _, _, _, _, _]) sz_26 rfl rfl rfl rfl (hs.front 1) (Nat.le_of_ble_eq_true rfl) rfl ?_)  -- store 26 t32 t31
  intro w1 hs
  refine L_nil ?_
  refine W_seq ?_
  refine W_region ?_
  refine L_q rfl (y_fa fa_108_7 rfl) ?_  -- t33 := fieldAddr 108 t1 7
  refine L_q rfl (y_fls (cs := [_, _, _]) r_26 sz_26 rfl (rg_of_range (hs.rg 9 rfl 17 3 rfl))) ?_  -- t34 := load 26 t33
  refine L_op rfl (o_callM en_54 rfl hs (cal_ref00_CopyMat _ x.f7 _ (kM_mk _ _ l19 (Kd.C_below d19 hs.below)) s7) ?_)  -- t35 := CALL f54(t34) :26
  intro cs35 w1 hb hs
  obtain ⟨r35_2, rfl, q35_2⟩ := kM_openM hs.outM
  obtain ⟨A35_2, c35_2, rfl⟩ := Kd.R_slice q35_2
  refine L_q rfl (y_fa fa_108_7 rfl) ?_  -- t36 := fieldAddr 108 t3 7
  refine L_op rfl (o_store (seg := [_, _, _]) (cs' := [_, _, _, _, _, _, _, _, _, _, _, _, _, _, _, _, _, _, _, _, _, _, _, _, _, _, _, _, _, _]) sz_26 rfl rfl rfl rfl (hs.front 1) (Nat.le_of_ble_eq_true rfl) rfl ?_)  -- store 26 t36 t35
  intro w1 hs
  refine L_nil ?_
  refine W_seq ?_
  refine W_region ?_
  refine L_q rfl (y_fa fa_108_8 rfl) ?_  -- t37 := fieldAddr 108 t1 8
  refine L_q rfl (y_fls (cs := [_, _, _]) r_26 sz_26 rfl (rg_of_range (hs.rg 10 rfl 20 3 rfl))) ?_  -- t38 := load 26 t37
  refine L_op rfl (o_callM en_54 rfl hs (cal_ref00_CopyMat _ x.f8 _ (kM_mk _ _ l22 (Kd.C_below d22 hs.below)) s8) ?_)  -- t39 := CALL f54(t38) :26
  intro cs39 w1 hb hs
  obtain ⟨r39_2, rfl, q39_2⟩ := kM_openM hs.outM
  obtain ⟨A39_2, c39_2, rfl⟩ := Kd.R_slice q39_2
  refine L_q rfl (y_fa fa_108_8 rfl) ?_  -- t40 := fieldAddr 108 t3 8
  refine L_op rfl (o_store (seg := [_, _, _]) (cs' := [_, _, _, _, _, _, _, _, _, _, _, _, _, _, _, _, _, _, _, _, _, _, _, _, _, _, _, _, _, _]) sz_26 rfl rfl rfl rfl (hs.front 1) (Nat.le_of_ble_eq_true rfl) rfl ?_)  -- store 26 t40 t39
  intro w1 hs
  refine L_nil ?_
  refine W_seq ?_
  refine W_region ?_
  refine L_q rfl (y_fls (cs := [_, _, _, _, _, _, _, _, _, _, _, _, _, _, _, _, _, _, _, _, _, _, _, _, _, _, _, _, _, _]) r_108 sz_108 rfl (rg_of_range (hs.rg 0 rfl 0 30 rfl))) ?_  -- t41 := load 108 t3
  refine L_op rfl (o_store (seg := [_, _, _, _, _, _, _, _, _, _, _, _, _, _, _, _, _, _, _, _, _, _, _, _, _, _, _, _, _, _]) (cs' := [_, _, _, _, _, _, _, _, _, _, _, _, _, _, _, _, _, _, _, _, _, _, _, _, _, _, _, _, _, _]) sz_108 rfl rfl rfl rfl (hs.front 10) (Nat.le_of_ble_eq_true rfl) rfl ?_)  -- store 108 t2 t41
  intro w1 hs
  refine L_nil ?_
  refine W_ret ?_
  -- sep: g2 g3 own39 own35 own31 own27 own23 own19 own15 row11 row7 g1
  refine ret_one rfl (.cell (cs := [_, _, _, _, _, _, _, _, _, _, _, _, _, _, _, _, _, _, _, _, _, _, _, _, _, _, _, _, _, _]) rfl r_108 sz_108 (hs.rg 0 rfl 0 30 rfl) .nil) ⟨_, rfl, hs.below, ?_⟩
  have h := hs.tail.tail.out
  exact ⟨_, rfl, kL_mkM _ _ _ x (h.row 8 rfl) (h.row 7 rfl) (kM_row (h.own 6 rfl)) (kM_row (h.own 5 rfl)) (kM_row (h.own 4 rfl)) (kM_row (h.own 3 rfl)) (kM_row (h.own 2 rfl)) (kM_row (h.own 1 rfl)) (kM_row (h.own 0 rfl))⟩
end Go.Proofs.YtlmddncoeikfjaaDoor
