/- Walks: copies of turns; measures, as the program checks them. -/
import Derived.Test.YtlmddncoeikfjaaDoorVG
namespace Go.Proofs.YtlmddncoeikfjaaDoor
open Go.RowKit Go.Proofs.YtlmddncoeikfjaaDoorW.PrintWords
set_option maxRecDepth 100000
set_option maxHeartbeats 400000

theorem takeG_snoc {α : Type} {l : List α} {z : α} {i : Int} (h0 : 0 ≤ i) (h1 : i < l.length) : l.take i.toNat ++ [l.getD i.toNat z] = l.take (i + 1).toNat := by
  have hi : i.toNat < l.length := by omega
  rw [show (i + 1).toNat = i.toNat + 1 by omega, List.take_succ_eq_append_getElem hi, getD_get h0 h1]
theorem cal_ref00_CopyTurns (w0 : World) (A : Option Addr) (c : Nat) (l : List SU) (hC : kU.C w0 A l.length l) (hsm : l.length ≤ 100000) : Cal Tryd.prog 55 #[.slice A l.length c] w0 fun v w1 => Below w0.heap.size w0 w1 ∧ kU.R 117 w1 w0.heap.size (fun _ => True) v l := by
  refine cal_W (n := 19) Tryd.func55 rfl rfl (by simp) ?_
  have hs := (Sep.refl w0).nilR kU 117
  refine W_seq ?_
  refine W_region ?_
  refine L_q rfl (y_assign rfl) ?_  -- t2 := assign nil
  refine L_nil ?_
  refine W_seq ?_
  refine W_region ?_
  refine L_q rfl (y_assign rfl) ?_  -- t3 := assign nil
  refine L_nil ?_
  refine W_seq ?_
  refine W_seq ?_
  refine W_region ?_
  refine L_q rfl (y_assign rfl) ?_  -- t4 := assign 0
  refine L_nil ?_
  refine W_block ?_
  refine W_loop (fun m f w1 => ∃ i : Int, 0 ≤ i ∧ i ≤ l.length ∧ m = (l.length - i).toNat ∧ ∃ v, sl f 0 = .slice A l.length c ∧ sl f 3 = v ∧ sl f 4 = .int .i64 i ∧ Sep w0 w1 [row w0.heap.size kU 117 v (l.take i.toNat)]) ((l.length : Int) - 0).toNat ?_ ?_
  · exact ⟨0, by omega, by omega, rfl, _, rfl, rfl, rfl, hs⟩
  rintro m f w1 ⟨i, hi0, hi1, rfl, v, h0, h3, h4, hs⟩
  refine W_seq ?_
  refine W_seq ?_
  refine W_region ?_
  refine L_q rfl (y_move h4) ?_  -- t5 := move t4
  refine L_q rfl (y_move h0) ?_  -- t6 := move t0
  refine L_q rfl (y_len u_27 rfl) ?_  -- t7 := len(t6) :3
  refine L_q rfl (y_lss rfl rfl) ?_  -- t8 := binOp lss 3 t5 t7 3
  refine L_nil ?_
  refine W_if rfl (fun hb => ?_) (fun hb => ?_)
  · skip
    have hlt : i < l.length := of_decide_eq_true hb
    obtain ⟨ad, cu, rfl, hK, hrg⟩ := Kd.C_at (Kd.C_below hC hs.below) zU i hi0 hlt
    obtain rfl := kU_open hK
    have htl := List.length_take_le' i.toNat l
    refine W_skip ?_
    refine W_seq ?_
    refine W_block ?_
    refine W_region ?_
    refine L_q rfl (y_move h3) ?_  -- t11 := move t3
    refine L_q rfl (y_move h0) ?_  -- t12 := move t0
    refine L_q rfl (y_move h4) ?_  -- t13 := move t4
    refine L_q rfl (y_ia u_27 sz_117 rfl rfl (by omega) (by omega)) ?_  -- t14 := indexAddr 27 t12 t13
    refine L_q rfl (y_fls (cs := [_, _]) r_117 sz_117 rfl hrg) ?_  -- t15 := load 117 t14
    refine L_op rfl (o_bs (cs := [_, _]) u_27 i_117 rfl rfl rfl (by decide) (by decide) hs ?_)  -- t16 := buildSlice 27 1 [0=t15]
    intro g16 w1 hs
    refine L_op rfl (o_app0 u_27 i_117 rfl (by decide) (by decide) rfl rfl (kU_mkM _ _ _ (l.getD i.toNat zU)) hs (by omega) ?_)  -- t17 := append(t11, t16) :27
    intro v17 w1 hs
    rw [takeG_snoc hi0 hlt] at hs
    refine L_q rfl (y_assign rfl) ?_  -- t3 := assign t17
    refine L_nil ?_
    refine W_region ?_
    refine L_q rfl (y_move h4) ?_  -- t9 := move t4
    refine L_q rfl (y_addi rfl rfl (by omega) (by omega)) ?_  -- t10 := binOp add 3 t9 1 3
    refine L_q rfl (y_assign rfl) ?_  -- t4 := assign t10
    refine L_nil ?_
    exact ⟨_, by omega, i + 1, by omega, by omega, rfl, v17, h0, rfl, rfl, hs⟩
  · skip
    refine W_exit ?_
    refine x_hit ?_
    refine W_seq ?_
    refine W_region ?_
    refine L_q rfl (y_move h3) ?_  -- t18 := move t3
    refine L_q rfl (y_assign rfl) ?_  -- t2 := assign t18
    refine L_nil ?_
    refine W_ret ?_
    -- sep: 
    refine ret_one rfl (.tmp (v := v) rfl .nil) ⟨_, rfl, hs.below, ?_⟩
    have hq := hs.outR
    rwa [List.take_of_length_le (by have := of_decide_eq_false hb; omega)] at hq

def mayOf (x : SC) : Bool := decide (2 ≤ x.f0 ∧ x.f0 ≤ 64 ∧ 2 ≤ x.f1 ∧ x.f1 ≤ 32 ∧ 1 ≤ x.f2 ∧ x.f2 ≤ 4 ∧ 1 ≤ x.f4 ∧ x.f4 ≤ 4 ∧ 1 ≤ x.f5 ∧ x.f5 ≤ 64 ∧ 1 ≤ x.f6 ∧ x.f6 ≤ 64 ∧ 0 ≤ x.f7 ∧ x.f7 ≤ 4)
theorem half_iff {w h : Int} (h0 : 0 ≤ w) (hw : w ≤ 32) (h1 : 1 ≤ h) (h4 : h ≤ 4) : (w.tmod h = 0 ∧ (IntKind.i64.wrap (w.tdiv h)).tmod 2 = 0) ↔ w.tmod (2 * h) = 0 := by
  have e0 : 0 ≤ w.tdiv h := Int.tdiv_nonneg h0 (by omega)
  have e1 : w.tdiv h ≤ w := Int.tdiv_le_self _ h0
  rw [show IntKind.i64.wrap (w.tdiv h) = w.tdiv h from IntWalk.i64_in _ (by omega)]
  rw [Int.tmod_eq_emod_of_nonneg h0, Int.tmod_eq_emod_of_nonneg e0, Int.tmod_eq_emod_of_nonneg h0, Int.tdiv_eq_ediv_of_nonneg h0]
  have hh : h = 1 ∨ h = 2 ∨ h = 3 ∨ h = 4 := by omega
  rcases hh with rfl | rfl | rfl | rfl <;> omega
theorem cal_model_CheckConfig (w0 : World) (x : SC) (cs : List Value) (hx : kC.K w0 x cs) : Cal Tryd.prog 67 #[.agg cs.toArray] w0 fun v w1 => Below w0.heap.size w0 w1 ∧ v = .int .i64 (er (cfgOK x) 40) := by
  obtain rfl := kC_open hx
  refine cal_W (n := 72) Tryd.func67 rfl rfl (by simp) ?_
  have hs := Sep.refl w0
  refine W_seq ?_
  refine W_region ?_
  refine L_op rfl (o_box (cs := [_, _, _, _, _, _, _, _]) rfl rfl hs ?_)  -- t1 := box 23 t0
  intro g1 w1 hs
  refine L_q rfl (y_assign rfl) ?_  -- t2 := assign 0
  refine L_nil ?_
  refine W_seq ?_
  refine W_region ?_
  refine L_q rfl (y_fa fa_23_0 rfl) ?_  -- t4 := fieldAddr 23 t1 0
  refine L_q rfl (y_fld r_3 rfl (rg_of_range (hs.rg 0 rfl 0 1 rfl))) ?_  -- t5 := load 3 t4
  refine L_op rfl (o_call en_79 rfl hs (cal_model_within _ x.f0 2 64) ?_)  -- t6 := CALL f79(t5, 2, 64) :4
  intro v6 w1 hb hs hv6
  refine L_q rfl (y_move hv6) ?_  -- t7 := move t6
  refine L_qif rfl rfl rfl (fun hc => (y_fa fa_23_1 rfl)) ?_  -- t8 := fieldAddr 23 t1 1 ?(3,true)
  refine L_qif rfl rfl rfl (fun hc => (y_fld r_3 (gv_yes hc) (rg_of_range (hs.rg 0 rfl 1 1 rfl)))) ?_  -- t9 := load 3 t8 ?(3,true)
  refine L_callif rfl rfl en_79 (fun hc => args3 (gv_yes hc) rfl rfl) hs (fun hc => cal_model_within _ x.f1 2 32) ?_  -- t10 := CALL f79(t9, 2, 32) :4 ?(3,true)
  intro v10 w1 hb hs hv10
  refine L_q rfl (y_pand rfl hv10) ?_  -- t11 := pick t7 t10 false
  refine L_q rfl (y_move rfl) ?_  -- t12 := move t11
  refine L_qif rfl rfl rfl (fun hc => (y_fa fa_23_2 rfl)) ?_  -- t13 := fieldAddr 23 t1 2 ?(8,true)
  refine L_qif rfl rfl rfl (fun hc => (y_fld r_3 (gv_yes hc) (rg_of_range (hs.rg 0 rfl 2 1 rfl)))) ?_  -- t14 := load 3 t13 ?(8,true)
  refine L_callif rfl rfl en_79 (fun hc => args3 (gv_yes hc) rfl rfl) hs (fun hc => cal_model_within _ x.f2 1 4) ?_  -- t15 := CALL f79(t14, 1, 4) :4 ?(8,true)
  intro v15 w1 hb hs hv15
  refine L_q rfl (y_pand rfl hv15) ?_  -- t16 := pick t12 t15 false
  refine L_q rfl (y_move rfl) ?_  -- t17 := move t16
  refine L_qif rfl rfl rfl (fun hc => (y_fa fa_23_4 rfl)) ?_  -- t18 := fieldAddr 23 t1 4 ?(13,true)
  refine L_qif rfl rfl rfl (fun hc => (y_fld r_3 (gv_yes hc) (rg_of_range (hs.rg 0 rfl 4 1 rfl)))) ?_  -- t19 := load 3 t18 ?(13,true)
  refine L_callif rfl rfl en_79 (fun hc => args3 (gv_yes hc) rfl rfl) hs (fun hc => cal_model_within _ x.f4 1 4) ?_  -- t20 := CALL f79(t19, 1, 4) :4 ?(13,true)
  intro v20 w1 hb hs hv20
  refine L_q rfl (y_pand rfl hv20) ?_  -- t21 := pick t17 t20 false
  refine L_q rfl (y_move rfl) ?_  -- t22 := move t21
  refine L_qif rfl rfl rfl (fun hc => (y_fa fa_23_5 rfl)) ?_  -- t23 := fieldAddr 23 t1 5 ?(18,true)
  refine L_qif rfl rfl rfl (fun hc => (y_fld r_3 (gv_yes hc) (rg_of_range (hs.rg 0 rfl 5 1 rfl)))) ?_  -- t24 := load 3 t23 ?(18,true)
  refine L_callif rfl rfl en_79 (fun hc => args3 (gv_yes hc) rfl rfl) hs (fun hc => cal_model_within _ x.f5 1 64) ?_  -- t25 := CALL f79(t24, 1, 64) :4 ?(18,true)
  intro v25 w1 hb hs hv25
  refine L_q rfl (y_pand rfl hv25) ?_  -- t26 := pick t22 t25 false
  refine L_q rfl (y_move rfl) ?_  -- t27 := move t26
  refine L_qif rfl rfl rfl (fun hc => (y_fa fa_23_6 rfl)) ?_  -- t28 := fieldAddr 23 t1 6 ?(23,true)
  refine L_qif rfl rfl rfl (fun hc => (y_fld r_3 (gv_yes hc) (rg_of_range (hs.rg 0 rfl 6 1 rfl)))) ?_  -- t29 := load 3 t28 ?(23,true)
  refine L_callif rfl rfl en_79 (fun hc => args3 (gv_yes hc) rfl rfl) hs (fun hc => cal_model_within _ x.f6 1 64) ?_  -- t30 := CALL f79(t29, 1, 64) :4 ?(23,true)
  intro v30 w1 hb hs hv30
  refine L_q rfl (y_pand rfl hv30) ?_  -- t31 := pick t27 t30 false
  refine L_q rfl (y_move rfl) ?_  -- t32 := move t31
  refine L_qif rfl rfl rfl (fun hc => (y_fa fa_23_7 rfl)) ?_  -- t33 := fieldAddr 23 t1 7 ?(28,true)
  refine L_qif rfl rfl rfl (fun hc => (y_fld r_3 (gv_yes hc) (rg_of_range (hs.rg 0 rfl 7 1 rfl)))) ?_  -- t34 := load 3 t33 ?(28,true)
  refine L_callif rfl rfl en_79 (fun hc => args3 (gv_yes hc) rfl rfl) hs (fun hc => cal_model_within _ x.f7 0 4) ?_  -- t35 := CALL f79(t34, 0, 4) :4 ?(28,true)
  intro v35 w1 hb hs hv35
  refine L_q rfl (y_pand rfl hv35) ?_  -- t36 := pick t32 t35 false
  refine L_q rfl (y_assign rfl) ?_  -- t3 := assign t36
  refine L_nil ?_
  refine W_seq ?_
  refine W_seq ?_
  refine W_region ?_
  refine L_q rfl (y_move rfl) ?_  -- t37 := move t3
  refine L_q rfl (y_not rfl) ?_  -- t38 := unOp not 4 t37
  refine L_q rfl (y_move rfl) ?_  -- t39 := move t38
  refine L_qif rfl rfl rfl (fun hc => (y_fa fa_23_1 rfl)) ?_  -- t40 := fieldAddr 23 t1 1 ?(2,false)
  refine L_qif rfl rfl rfl (fun hc => (y_fld r_3 (gv_yes hc) (rg_of_range (hs.rg 0 rfl 1 1 rfl)))) ?_  -- t41 := load 3 t40 ?(2,false)
  refine L_qif rfl rfl rfl (fun hc => (y_fa fa_23_2 rfl)) ?_  -- t42 := fieldAddr 23 t1 2 ?(2,false)
  refine L_qif rfl rfl rfl (fun hc => (y_fld r_3 (gv_yes hc) (rg_of_range (hs.rg 0 rfl 2 1 rfl)))) ?_  -- t43 := load 3 t42 ?(2,false)
  refine L_qif rfl rfl rfl (fun hc => (y_rem (gv_yes hc) (gv_yes hc) (by simp at hc; omega))) ?_  -- t44 := binOp rem 3 t41 t43 3 ?(2,false)
  refine L_qif rfl rfl rfl (fun hc => (y_neq (gv_yes hc) rfl)) ?_  -- t45 := binOp neq 3 t44 0 3 ?(2,false)
  refine L_q rfl (y_por rfl rfl) ?_  -- t46 := pick t39 true t45
  refine L_q rfl (y_move rfl) ?_  -- t47 := move t46
  refine L_qif rfl rfl rfl (fun hc => (y_fa fa_23_1 rfl)) ?_  -- t48 := fieldAddr 23 t1 1 ?(10,false)
  refine L_qif rfl rfl rfl (fun hc => (y_fld r_3 (gv_yes hc) (rg_of_range (hs.rg 0 rfl 1 1 rfl)))) ?_  -- t49 := load 3 t48 ?(10,false)
  refine L_qif rfl rfl rfl (fun hc => (y_fa fa_23_2 rfl)) ?_  -- t50 := fieldAddr 23 t1 2 ?(10,false)
  refine L_qif rfl rfl rfl (fun hc => (y_fld r_3 (gv_yes hc) (rg_of_range (hs.rg 0 rfl 2 1 rfl)))) ?_  -- t51 := load 3 t50 ?(10,false)
  refine L_qif rfl rfl rfl (fun hc => (y_quo (gv_yes hc) (gv_yes hc) (by simp at hc; omega))) ?_  -- t52 := binOp quo 3 t49 t51 3 ?(10,false)
  refine L_qif rfl rfl rfl (fun hc => (y_rem (gv_yes hc) rfl (by decide))) ?_  -- t53 := binOp rem 3 t52 2 3 ?(10,false)
  refine L_qif rfl rfl rfl (fun hc => (y_neq (gv_yes hc) rfl)) ?_  -- t54 := binOp neq 3 t53 0 3 ?(10,false)
  refine L_q rfl (y_por rfl rfl) ?_  -- t55 := pick t47 true t54
  refine L_q rfl (y_move rfl) ?_  -- t56 := move t55
  refine L_qif rfl rfl rfl (fun hc => (y_fa fa_23_3 rfl)) ?_  -- t57 := fieldAddr 23 t1 3 ?(19,false)
  refine L_qif rfl rfl rfl (fun hc => (y_fld r_3 (gv_yes hc) (rg_of_range (hs.rg 0 rfl 3 1 rfl)))) ?_  -- t58 := load 3 t57 ?(19,false)
  refine L_qif rfl rfl rfl (fun hc => (y_fa fa_23_2 rfl)) ?_  -- t59 := fieldAddr 23 t1 2 ?(19,false)
  refine L_qif rfl rfl rfl (fun hc => (y_fld r_3 (gv_yes hc) (rg_of_range (hs.rg 0 rfl 2 1 rfl)))) ?_  -- t60 := load 3 t59 ?(19,false)
  refine L_callif rfl rfl en_79 (fun hc => args3 (gv_yes hc) rfl (gv_yes hc)) hs (fun hc => cal_model_within _ x.f3 1 x.f2) ?_  -- t61 := CALL f79(t58, 1, t60) :4 ?(19,false)
  intro v61 w1 hb hs hv61
  refine L_qif rfl rfl rfl (fun hc => (y_not (hv61.trans (gv_yes hc)))) ?_  -- t62 := unOp not 4 t61 ?(19,false)
  refine L_q rfl (y_por rfl rfl) ?_  -- t63 := pick t56 true t62
  refine L_q rfl (y_move rfl) ?_  -- t64 := move t63
  refine L_qif rfl rfl rfl (fun hc => (y_fa fa_23_2 rfl)) ?_  -- t65 := fieldAddr 23 t1 2 ?(27,false)
  refine L_qif rfl rfl rfl (fun hc => (y_fld r_3 (gv_yes hc) (rg_of_range (hs.rg 0 rfl 2 1 rfl)))) ?_  -- t66 := load 3 t65 ?(27,false)
  refine L_qif rfl rfl rfl (fun hc => (y_fa fa_23_3 rfl)) ?_  -- t67 := fieldAddr 23 t1 3 ?(27,false)
  refine L_qif rfl rfl rfl (fun hc => (y_fld r_3 (gv_yes hc) (rg_of_range (hs.rg 0 rfl 3 1 rfl)))) ?_  -- t68 := load 3 t67 ?(27,false)
  refine L_qif rfl rfl rfl (fun hc => (y_rem (gv_yes hc) (gv_yes hc) (by simp at hc; omega))) ?_  -- t69 := binOp rem 3 t66 t68 3 ?(27,false)
  refine L_qif rfl rfl rfl (fun hc => (y_neq (gv_yes hc) rfl)) ?_  -- t70 := binOp neq 3 t69 0 3 ?(27,false)
  refine L_q rfl (y_por rfl rfl) ?_  -- t71 := pick t64 true t70
  refine L_nil ?_
  refine W_if rfl (fun hb => ?_) (fun hb => ?_)
  · skip
    refine W_seq ?_
    refine W_region ?_
    refine L_q rfl (y_assign rfl) ?_  -- t2 := assign 40
    refine L_nil ?_
    refine W_ret ?_
    -- sep: g1
    refine ret_one rfl (.tmp (v := .int .i64 40) rfl .nil) ⟨_, rfl, hs.below, ?_⟩
    refine er_no (decide_eq_false fun hall => ?_)
    have hh := half_iff (w := x.f1) (h := x.f2) (by omega) (by omega) (by omega) (by omega)
    simp only [Bool.or_eq_true, Bool.and_eq_true, Bool.not_eq_true', Bool.and_eq_false_iff, decide_eq_true_eq, decide_eq_false_iff_not] at hb
    omega
  · skip
    refine W_skip ?_
    refine W_seq ?_
    refine W_region ?_
    refine L_q rfl (y_assign rfl) ?_  -- t2 := assign 0
    refine L_nil ?_
    refine W_ret ?_
    -- sep: g1
    refine ret_one rfl (.tmp (v := .int .i64 0) rfl .nil) ⟨_, rfl, hs.below, ?_⟩
    refine er_yes (decide_eq_true ?_)
    simp only [Bool.or_eq_false_iff, Bool.not_eq_false', Bool.and_eq_true, decide_eq_true_eq, decide_eq_false_iff_not] at hb
    have hh := half_iff (w := x.f1) (h := x.f2) (by omega) (by omega) (by omega) (by omega)
    omega
end Go.Proofs.YtlmddncoeikfjaaDoor
