/- Walks: weights, as the document's answer checks them. -/
import Derived.Test.YtlmddncoeikfjaaDoorVC
namespace Go.Proofs.YtlmddncoeikfjaaDoor
open Go.RowKit Go.Proofs.YtlmddncoeikfjaaDoorW.PrintWords
set_option maxRecDepth 100000
set_option maxHeartbeats 400000

def wtsHead (x : SW) : Bool := isMat x.f1 x.f0.f0 x.f0.f1 && isMat x.f5 x.f0.f0 x.f0.f1 && gainsOf x.f4 x.f0.f1 && turnsOf x.f2 (IntKind.i64.wrap ((headOf x.f0).tdiv 2))
def wtsLens (x : SW) : Bool := decide ((x.f3.length : Int) = x.f0.f4) && decide ((x.f6.length : Int) = x.f0.f7)
def wtsOK (x : SW) : Bool := wtsHead x && wtsLens x && x.f3.all (fun l => layerOK l x.f0) && x.f6.all (fun m => isMat m x.f0.f0 x.f0.f1)
/-- What Check answers. -/
def chk (x : SW) : Int := bif cfgOK x.f0 then er (wtsOK x) 41 else 40
theorem chk_no {x : SW} (h : cfgOK x.f0 = true) (hw : wtsOK x = false) : Value.int .i64 41 = .int .i64 (chk x) := by rw [chk, h, hw]; rfl
theorem cal_ref04_Check (w0 : World) (x : SW) (cs : List Value) (hx : kW.K w0 x cs) : Cal Tryd.prog 31 #[.agg cs.toArray] w0 fun v w1 => Below w0.heap.size w0 w1 ∧ v = .int .i64 (chk x) := by
  obtain ⟨A10, c10, A11, c11, A12, c12, A13, c13, A16, c16, A17, c17, rfl, l10, g10, l11, g11, l12, g12, l13, g13, l16, g16, l17, g17⟩ := kW_open hx
  have n12 : x.f3.length ≤ 9223372036854775807 := by have := g12.2.1; simpa using this
  have n17 : x.f6.length ≤ 9223372036854775807 := by have := g17.2.1; simpa using this
  refine cal_W (n := 98) Tryd.func31 rfl rfl (by simp) ?_
  have hs := Sep.refl w0
  refine W_seq ?_
  refine W_region ?_
  refine L_op rfl (o_box (cs := [_, _, _, _, _, _, _, _, _, _, _, _, _, _, _, _, _, _]) rfl rfl hs ?_)  -- t1 := box 31 t0
  intro g1 w1 hs
  refine L_q rfl (y_assign rfl) ?_  -- t2 := assign 0
  refine L_nil ?_
  refine W_seq ?_
  refine W_region ?_
  refine L_q rfl (y_fa fa_31_0 rfl) ?_  -- t9 := fieldAddr 31 t1 0
  refine L_q rfl (y_fls (cs := [_, _, _, _, _, _, _, _]) r_23 sz_23 rfl (rg_of_range (hs.rg 0 rfl 0 8 rfl))) ?_  -- t10 := load 23 t9
  refine L_op rfl (o_alloc al_23 hs ?_)  -- t3 := alloc 23
  intro g3 w1 hs
  refine L_op rfl (o_store (seg := [_, _, _, _, _, _, _, _]) (cs' := [_, _, _, _, _, _, _, _]) sz_23 rfl rfl rfl rfl (hs.front 0) (Nat.le_of_ble_eq_true rfl) rfl ?_)  -- store 23 t3 t10
  intro w1 hs
  refine L_nil ?_
  refine W_seq ?_
  refine W_region ?_
  refine L_q rfl (y_fls (cs := [_, _, _, _, _, _, _, _]) r_23 sz_23 rfl (rg_of_range (hs.rg 0 rfl 0 8 rfl))) ?_  -- t11 := load 23 t3
  refine L_op rfl (o_call en_46 rfl hs (cal_ref04_CheckConfig _ x.f0 _ (kC_mk _ _)) ?_)  -- t12 := CALL f46(t11) :37
  intro v12 w1 hb hs hv12
  refine L_q rfl (y_assign hv12) ?_  -- t4 := assign t12
  refine L_nil ?_
  refine W_seq ?_
  refine W_seq ?_
  refine W_region ?_
  refine L_q rfl (y_move rfl) ?_  -- t13 := move t4
  refine L_q rfl (y_neq rfl rfl) ?_  -- t14 := binOp neq 37 t13 0 37
  refine L_nil ?_
  refine W_if rfl (fun hb => ?_) (fun hb => ?_)
  · skip
    refine W_seq ?_
    refine W_region ?_
    refine L_q rfl (y_move rfl) ?_  -- t15 := move t4
    refine L_q rfl (y_assign rfl) ?_  -- t2 := assign t15
    refine L_nil ?_
    refine W_ret ?_
    -- sep: g3 g1
    refine ret_one rfl (.tmp (v := .int .i64 (er (cfgOK x.f0) 40)) rfl .nil) ⟨_, rfl, hs.below, ?_⟩
    revert hb
    rw [chk]
    cases cfgOK x.f0 <;> simp [er]
  · skip
    have hok : cfgOK x.f0 = true := by
      revert hb
      cases cfgOK x.f0 <;> simp [er]
    have hne : x.f0.f2 ≠ 0 := by have := of_decide_eq_true hok; omega
    refine W_skip ?_
    refine W_seq ?_
    refine W_seq ?_
    refine W_drawS rfl [true, true] hs ?_
    intro w1 hs
    refine H_q (i := 0) rfl (by kernel_rfl) rfl (fun _ hw => (y_fa fa_31_1 rfl)) (hs.keep [true, true]) ?_  -- t16 := fieldAddr 31 t1 1
    refine H_q (i := 1) rfl (by kernel_rfl) rfl (fun _ hw => (y_fls (cs := [_, _, _]) r_26 sz_26 rfl (rg_of_range (hw.rg 1 rfl 8 3 rfl)))) (hs.keep [true, true]) ?_  -- t17 := load 26 t16
    refine H_q (i := 2) rfl (by kernel_rfl) rfl (fun _ hw => (y_fa fa_23_0 rfl)) (hs.keep [true, true]) ?_  -- t18 := fieldAddr 23 t3 0
    refine H_q (i := 3) rfl (by kernel_rfl) rfl (fun _ hw => (y_fld r_3 rfl (rg_of_range (hw.rg 0 rfl 0 1 rfl)))) (hs.keep [true, true]) ?_  -- t19 := load 3 t18
    refine H_q (i := 4) rfl (by kernel_rfl) rfl (fun _ hw => (y_fa fa_23_1 rfl)) (hs.keep [true, true]) ?_  -- t20 := fieldAddr 23 t3 1
    refine H_q (i := 5) rfl (by kernel_rfl) rfl (fun _ hw => (y_fld r_3 rfl (rg_of_range (hw.rg 0 rfl 1 1 rfl)))) (hs.keep [true, true]) ?_  -- t21 := load 3 t20
    refine H_loud (i := 6) rfl (by kernel_rfl) (by simp [Region.wanted]) (o_call en_47 rfl hs (cal_ref04_is _ x.f1 _ x.f0.f0 x.f0.f1 (kM_mk _ _ l10 (Kd.C_below g10 hs.below))) ?_)  -- t22 := CALL f47(t17, t19, t21) :4
    intro v22 w1 hb hs hv22
    refine ⟨hs.keep [true, true], ?_⟩
    refine H_q (i := 7) rfl (by kernel_rfl) rfl (fun _ hw => (y_not hv22)) (hs.keep [true, true]) ?_  -- t23 := unOp not 4 t22
    refine H_q (i := 8) rfl (by kernel_rfl) rfl (fun _ hw => (y_move rfl)) (hs.keep [true, true]) ?_  -- t24 := move t23
    refine H_qif (i := 9) rfl (by kernel_rfl) rfl rfl rfl (fun _ hw hc => (y_fa fa_31_5 rfl)) (hs.keep [true, true]) ?_  -- t25 := fieldAddr 31 t1 5 ?(8,false)
    refine H_qif (i := 10) rfl (by kernel_rfl) rfl rfl rfl (fun _ hw hc => (y_fls (cs := [_, _, _]) r_26 sz_26 (gv_yes hc) (rg_of_range (hw.rg 1 rfl 14 3 rfl)))) (hs.keep [true, true]) ?_  -- t26 := load 26 t25 ?(8,false)
    refine H_qif (i := 11) rfl (by kernel_rfl) rfl rfl rfl (fun _ hw hc => (y_fa fa_23_0 rfl)) (hs.keep [true, true]) ?_  -- t27 := fieldAddr 23 t3 0 ?(8,false)
    refine H_qif (i := 12) rfl (by kernel_rfl) rfl rfl rfl (fun _ hw hc => (y_fld r_3 (gv_yes hc) (rg_of_range (hw.rg 0 rfl 0 1 rfl)))) (hs.keep [true, true]) ?_  -- t28 := load 3 t27 ?(8,false)
    refine H_qif (i := 13) rfl (by kernel_rfl) rfl rfl rfl (fun _ hw hc => (y_fa fa_23_1 rfl)) (hs.keep [true, true]) ?_  -- t29 := fieldAddr 23 t3 1 ?(8,false)
    refine H_qif (i := 14) rfl (by kernel_rfl) rfl rfl rfl (fun _ hw hc => (y_fld r_3 (gv_yes hc) (rg_of_range (hw.rg 0 rfl 1 1 rfl)))) (hs.keep [true, true]) ?_  -- t30 := load 3 t29 ?(8,false)
    refine H_callif (i := 15) rfl (by kernel_rfl) (by kernel_rfl) rfl rfl en_47 (fun hc => args3 (gv_yes hc) (gv_yes hc) (gv_yes hc)) hs (fun _ h => h.keep [true, true]) (fun hc => cal_ref04_is _ x.f5 _ x.f0.f0 x.f0.f1 (kM_mk _ _ l16 (Kd.C_below g16 hs.below))) ?_  -- t31 := CALL f47(t26, t28, t30) :4 ?(8,false)
    intro v31 w1 hb hs hv31
    refine H_qif (i := 16) rfl (by kernel_rfl) rfl rfl rfl (fun _ hw hc => (y_not (hv31.trans (gv_yes hc)))) (hs.keep [true, true]) ?_  -- t32 := unOp not 4 t31 ?(8,false)
    refine H_q (i := 17) rfl (by kernel_rfl) rfl (fun _ hw => (y_por rfl rfl)) (hs.keep [true, true]) ?_  -- t33 := pick t24 true t32
    refine H_q (i := 18) rfl (by kernel_rfl) rfl (fun _ hw => (y_move rfl)) (hs.keep [true, true]) ?_  -- t34 := move t33
    refine H_qif (i := 19) rfl (by kernel_rfl) rfl rfl rfl (fun _ hw hc => (y_fa fa_31_4 rfl)) (hs.keep [true, true]) ?_  -- t35 := fieldAddr 31 t1 4 ?(18,false)
    refine H_qif (i := 20) rfl (by kernel_rfl) rfl rfl rfl (fun _ hw hc => (y_fld r_24 (gv_yes hc) (rg_of_range (hw.rg 1 rfl 13 1 rfl)))) (hs.keep [true, true]) ?_  -- t36 := load 24 t35 ?(18,false)
    refine H_qif (i := 21) rfl (by kernel_rfl) rfl rfl rfl (fun _ hw hc => (y_fa fa_23_1 rfl)) (hs.keep [true, true]) ?_  -- t37 := fieldAddr 23 t3 1 ?(18,false)
    refine H_qif (i := 22) rfl (by kernel_rfl) rfl rfl rfl (fun _ hw hc => (y_fld r_3 (gv_yes hc) (rg_of_range (hw.rg 0 rfl 1 1 rfl)))) (hs.keep [true, true]) ?_  -- t38 := load 3 t37 ?(18,false)
    refine H_callif (i := 23) rfl (by kernel_rfl) (by kernel_rfl) rfl rfl en_48 (fun hc => args2 (gv_yes hc) (gv_yes hc)) hs (fun _ h => h.keep [true, true]) (fun hc => cal_ref04_gains _ A13 c13 x.f4 x.f0.f1 (Kd.C_below g13 hs.below)) ?_  -- t39 := CALL f48(t36, t38) :4 ?(18,false)
    intro v39 w1 hb hs hv39
    refine H_qif (i := 24) rfl (by kernel_rfl) rfl rfl rfl (fun _ hw hc => (y_not (hv39.trans (gv_yes hc)))) (hs.keep [true, true]) ?_  -- t40 := unOp not 4 t39 ?(18,false)
    refine H_q (i := 25) rfl (by kernel_rfl) rfl (fun _ hw => (y_por rfl rfl)) (hs.keep [true, true]) ?_  -- t41 := pick t34 true t40
    refine H_q (i := 26) rfl (by kernel_rfl) rfl (fun _ hw => (y_move rfl)) (hs.keep [true, true]) ?_  -- t42 := move t41
    refine H_qif (i := 27) rfl (by kernel_rfl) rfl rfl rfl (fun _ hw hc => (y_fa fa_31_2 rfl)) (hs.keep [true, true]) ?_  -- t43 := fieldAddr 31 t1 2 ?(26,false)
    refine H_qif (i := 28) rfl (by kernel_rfl) rfl rfl rfl (fun _ hw hc => (y_fld r_27 (gv_yes hc) (rg_of_range (hw.rg 1 rfl 11 1 rfl)))) (hs.keep [true, true]) ?_  -- t44 := load 27 t43 ?(26,false)
    refine H_qif (i := 29) rfl (by kernel_rfl) rfl rfl rfl (fun _ hw hc => (y_fls (cs := [_, _, _, _, _, _, _, _]) r_23 sz_23 rfl (rg_of_range (hw.rg 0 rfl 0 8 rfl)))) (hs.keep [true, true]) ?_  -- t45 := load 23 t3 ?(26,false)
    refine H_callif (i := 30) rfl (by kernel_rfl) (by kernel_rfl) rfl rfl en_50 (fun hc => args1 (gv_yes hc)) hs (fun _ h => h.keep [true, true]) (fun hc => cal_ref04_Head _ x.f0 _ (kC_mk _ _) hne) ?_  -- t46 := CALL f50(t45) :3 ?(26,false)
    intro v46 w1 hb hs hv46
    refine H_qif (i := 31) rfl (by kernel_rfl) rfl rfl rfl (fun _ hw hc => (y_quo (hv46.trans (gv_yes hc)) rfl (by decide))) (hs.keep [true, true]) ?_  -- t47 := binOp quo 3 t46 2 3 ?(26,false)
    refine H_callif (i := 32) rfl (by kernel_rfl) (by kernel_rfl) rfl rfl en_49 (fun hc => args2 (gv_yes hc) (gv_yes hc)) hs (fun _ h => h.keep [true, true]) (fun hc => cal_ref04_turns _ A11 c11 x.f2 (IntKind.i64.wrap ((headOf x.f0).tdiv 2)) (Kd.C_below g11 hs.below)) ?_  -- t48 := CALL f49(t44, t47) :4 ?(26,false)
    intro v48 w1 hb hs hv48
    refine H_qif (i := 33) rfl (by kernel_rfl) rfl rfl rfl (fun _ hw hc => (y_not (hv48.trans (gv_yes hc)))) (hs.keep [true, true]) ?_  -- t49 := unOp not 4 t48 ?(26,false)
    refine H_q (i := 34) rfl (by kernel_rfl) rfl (fun _ hw => (y_por rfl rfl)) (hs.keep [true, true]) ?_  -- t50 := pick t42 true t49
    refine H_done (by kernel_rfl) ?_
    refine W_if rfl (fun hb => ?_) (fun hb => ?_)
    · skip
      refine W_seq ?_
      refine W_region ?_
      refine L_q rfl (y_assign rfl) ?_  -- t2 := assign 41
      refine L_nil ?_
      refine W_ret ?_
      -- sep: g3 g1
      refine ret_one rfl (.tmp (v := .int .i64 41) rfl .nil) ⟨_, rfl, hs.below, ?_⟩
      refine chk_no hok ?_
      revert hb
      simp only [wtsOK, wtsHead]
      cases isMat x.f1 x.f0.f0 x.f0.f1 <;> cases isMat x.f5 x.f0.f0 x.f0.f1 <;> cases gainsOf x.f4 x.f0.f1 <;> cases turnsOf x.f2 (IntKind.i64.wrap ((headOf x.f0).tdiv 2)) <;> simp
    · skip
      have hhd : wtsHead x = true := by
        revert hb
        simp only [wtsHead]
        cases isMat x.f1 x.f0.f0 x.f0.f1 <;> cases isMat x.f5 x.f0.f0 x.f0.f1 <;> cases gainsOf x.f4 x.f0.f1 <;> cases turnsOf x.f2 (IntKind.i64.wrap ((headOf x.f0).tdiv 2)) <;> simp
      refine W_skip ?_
      refine W_seq ?_
      refine W_seq ?_
      refine W_region ?_
      refine L_q rfl (y_fa fa_31_3 rfl) ?_  -- t51 := fieldAddr 31 t1 3
      refine L_q rfl (y_fld r_28 rfl (rg_of_range (hs.rg 1 rfl 12 1 rfl))) ?_  -- t52 := load 28 t51
      refine L_q rfl (y_len u_28 rfl) ?_  -- t53 := len(t52) :3
      refine L_q rfl (y_fa fa_23_4 rfl) ?_  -- t54 := fieldAddr 23 t3 4
      refine L_q rfl (y_fld r_3 rfl (rg_of_range (hs.rg 0 rfl 4 1 rfl))) ?_  -- t55 := load 3 t54
      refine L_q rfl (y_neq rfl rfl) ?_  -- t56 := binOp neq 3 t53 t55 3
      refine L_q rfl (y_move rfl) ?_  -- t57 := move t56
      refine L_qif rfl rfl rfl (fun hc => (y_fa fa_31_6 rfl)) ?_  -- t58 := fieldAddr 31 t1 6 ?(6,false)
      refine L_qif rfl rfl rfl (fun hc => (y_fld r_29 (gv_yes hc) (rg_of_range (hs.rg 1 rfl 17 1 rfl)))) ?_  -- t59 := load 29 t58 ?(6,false)
      refine L_qif rfl rfl rfl (fun hc => (y_len u_29 (gv_yes hc))) ?_  -- t60 := len(t59) :3 ?(6,false)
      refine L_qif rfl rfl rfl (fun hc => (y_fa fa_23_7 rfl)) ?_  -- t61 := fieldAddr 23 t3 7 ?(6,false)
      refine L_qif rfl rfl rfl (fun hc => (y_fld r_3 (gv_yes hc) (rg_of_range (hs.rg 0 rfl 7 1 rfl)))) ?_  -- t62 := load 3 t61 ?(6,false)
      refine L_qif rfl rfl rfl (fun hc => (y_neq (gv_yes hc) (gv_yes hc))) ?_  -- t63 := binOp neq 3 t60 t62 3 ?(6,false)
      refine L_q rfl (y_por rfl rfl) ?_  -- t64 := pick t57 true t63
      refine L_nil ?_
      refine W_if rfl (fun hb => ?_) (fun hb => ?_)
      · skip
        refine W_seq ?_
        refine W_region ?_
        refine L_q rfl (y_assign rfl) ?_  -- t2 := assign 41
        refine L_nil ?_
        refine W_ret ?_
        -- sep: g3 g1
        refine ret_one rfl (.tmp (v := .int .i64 41) rfl .nil) ⟨_, rfl, hs.below, ?_⟩
        refine chk_no hok ?_
        have : wtsLens x = false := by
          simp only [Bool.or_eq_true, decide_eq_true_eq] at hb
          simp only [wtsLens, Bool.and_eq_false_iff, decide_eq_false_iff_not]
          omega
        rw [wtsOK, this, Bool.and_false]
        rfl
      · skip
        have hln : (x.f3.length : Int) = x.f0.f4 ∧ (x.f6.length : Int) = x.f0.f7 := by
          simp only [Bool.or_eq_false_iff, decide_eq_false_iff_not] at hb
          omega
        have hlens : wtsLens x = true := by simp [wtsLens, hln]
        refine W_skip ?_
        refine W_seq ?_
        refine W_seq ?_
        refine W_region ?_
        refine L_q rfl (y_assign rfl) ?_  -- t5 := assign 0
        refine L_nil ?_
        refine W_block ?_
        refine W_loop (fun m f w1 => ∃ i : Int, 0 ≤ i ∧ i ≤ x.f3.length ∧ m = (x.f3.length - i).toNat ∧ (x.f3.take i.toNat).all (fun l => layerOK l x.f0) = true ∧ sl f 1 = .pointer (some ⟨g1, 0, none⟩) ∧ sl f 3 = .pointer (some ⟨g3, 0, none⟩) ∧ sl f 5 = .int .i64 i ∧ Sep w0 w1 [blk g3 23 [.int .i64 x.f0.f0, .int .i64 x.f0.f1, .int .i64 x.f0.f2, .int .i64 x.f0.f3, .int .i64 x.f0.f4, .int .i64 x.f0.f5, .int .i64 x.f0.f6, .int .i64 x.f0.f7], blk g1 31 [.int .i64 x.f0.f0, .int .i64 x.f0.f1, .int .i64 x.f0.f2, .int .i64 x.f0.f3, .int .i64 x.f0.f4, .int .i64 x.f0.f5, .int .i64 x.f0.f6, .int .i64 x.f0.f7, .int .i64 x.f1.f0, .int .i64 x.f1.f1, .slice A10 x.f1.f2.length c10, .slice A11 x.f2.length c11, .slice A12 x.f3.length c12, .slice A13 x.f4.length c13, .int .i64 x.f5.f0, .int .i64 x.f5.f1, .slice A16 x.f5.f2.length c16, .slice A17 x.f6.length c17]]) ((x.f3.length : Int) - 0).toNat ?_ ?_
        · exact ⟨0, by omega, by omega, rfl, rfl, rfl, rfl, rfl, hs⟩
        rintro m f w1 ⟨i, hi0, hi1, rfl, ha, h1, h3, h5, hs⟩
        refine W_seq ?_
        refine W_seq ?_
        refine W_region ?_
        refine L_q rfl (y_move h5) ?_  -- t65 := move t5
        refine L_q rfl (y_fa fa_23_4 h3) ?_  -- t66 := fieldAddr 23 t3 4
        refine L_q rfl (y_fld r_3 rfl (rg_of_range (hs.rg 0 rfl 4 1 rfl))) ?_  -- t67 := load 3 t66
        refine L_q rfl (y_lss rfl rfl) ?_  -- t68 := binOp lss 3 t65 t67 3
        refine L_nil ?_
        refine W_if rfl (fun hb => ?_) (fun hb => ?_)
        · skip
          have hlt : i < x.f3.length := by have := of_decide_eq_true hb; omega
          obtain ⟨ad, cl, rfl, hKl, hrg⟩ := Kd.C_at g12 zL i hi0 hlt
          have hlen30 : cl.length = 30 := kL.K_len hKl
          refine W_skip ?_
          refine W_seq ?_
          refine W_block ?_
          refine W_seq ?_
          refine W_drawS rfl [true, true] hs ?_
          intro w1 hs
          refine H_q (i := 0) rfl (by kernel_rfl) rfl (fun _ hw => (y_fa fa_31_3 h1)) (hs.keep [true, true]) ?_  -- t71 := fieldAddr 31 t1 3
          refine H_q (i := 1) rfl (by kernel_rfl) rfl (fun _ hw => (y_fld r_28 rfl (rg_of_range (hw.rg 1 rfl 12 1 rfl)))) (hs.keep [true, true]) ?_  -- t72 := load 28 t71
          refine H_q (i := 2) rfl (by kernel_rfl) rfl (fun _ hw => (y_move h5)) (hs.keep [true, true]) ?_  -- t73 := move t5
          refine H_q (i := 3) rfl (by kernel_rfl) rfl (fun _ hw => (y_ia u_28 sz_108 rfl rfl (by omega) (by omega))) (hs.keep [true, true]) ?_  -- t74 := indexAddr 28 t72 t73
          refine H_q (i := 4) rfl (by kernel_rfl) rfl (fun _ hw => (y_fls (cs := cl) r_108 (by rw [hlen30]; exact sz_108) rfl (hrg.below hw.below))) (hs.keep [true, true]) ?_  -- t75 := load 108 t74
          refine H_q (i := 5) rfl (by kernel_rfl) rfl (fun _ hw => (y_fls (cs := [_, _, _, _, _, _, _, _]) r_23 sz_23 h3 (rg_of_range (hw.rg 0 rfl 0 8 rfl)))) (hs.keep [true, true]) ?_  -- t76 := load 23 t3
          refine H_loud (i := 6) rfl (by kernel_rfl) (by simp [Region.wanted]) (o_call en_51 rfl hs (cal_ref04_layer _ _ _ x.f0 _ (kL.K_below hs.below hKl) (kC_mk _ _) hok) ?_)  -- t77 := CALL f51(t75, t76) :4
          intro v77 w1 hb hs hv77
          refine ⟨hs.keep [true, true], ?_⟩
          refine H_q (i := 7) rfl (by kernel_rfl) rfl (fun _ hw => (y_assign hv77)) (hs.keep [true, true]) ?_  -- t6 := assign t77
          refine H_done (by kernel_rfl) ?_
          refine W_seq ?_
          refine W_region ?_
          refine L_q rfl (y_move rfl) ?_  -- t78 := move t6
          refine L_q rfl (y_not rfl) ?_  -- t79 := unOp not 4 t78
          refine L_nil ?_
          refine W_if rfl (fun hb => ?_) (fun hb => ?_)
          · skip
            refine W_seq ?_
            refine W_region ?_
            refine L_q rfl (y_assign rfl) ?_  -- t2 := assign 41
            refine L_nil ?_
            refine W_ret ?_
            -- sep: g3 g1
            refine ret_one rfl (.tmp (v := .int .i64 41) rfl .nil) ⟨_, rfl, hs.below, ?_⟩
            refine chk_no hok ?_
            rw [wtsOK, allG_not (p := fun l => layerOK l x.f0) (z := zL) hi0 hlt (by simpa using hb), Bool.and_false]
            rfl
          · skip
            refine W_skip ?_
            refine W_region ?_
            refine L_q rfl (y_move h5) ?_  -- t69 := move t5
            refine L_q rfl (y_addi rfl rfl (by omega) (by omega)) ?_  -- t70 := binOp add 3 t69 1 3
            refine L_q rfl (y_assign rfl) ?_  -- t5 := assign t70
            refine L_nil ?_
            exact ⟨_, by omega, i + 1, by omega, by omega, rfl, allG_step (z := zL) hi0 hlt ha (by simpa using hb), h1, h3, rfl, hs⟩
        · skip
          have hly := allG_end (p := fun l => layerOK l x.f0) ha (by have := of_decide_eq_false hb; omega)
          refine W_exit ?_
          refine x_hit ?_
          refine W_seq ?_
          refine W_seq ?_
          refine W_region ?_
          refine L_q rfl (y_assign rfl) ?_  -- t7 := assign 0
          refine L_nil ?_
          refine W_block ?_
          refine W_loop (fun m f w1 => ∃ i : Int, 0 ≤ i ∧ i ≤ x.f6.length ∧ m = (x.f6.length - i).toNat ∧ (x.f6.take i.toNat).all (fun m => isMat m x.f0.f0 x.f0.f1) = true ∧ sl f 1 = .pointer (some ⟨g1, 0, none⟩) ∧ sl f 3 = .pointer (some ⟨g3, 0, none⟩) ∧ sl f 7 = .int .i64 i ∧ Sep w0 w1 [blk g3 23 [.int .i64 x.f0.f0, .int .i64 x.f0.f1, .int .i64 x.f0.f2, .int .i64 x.f0.f3, .int .i64 x.f0.f4, .int .i64 x.f0.f5, .int .i64 x.f0.f6, .int .i64 x.f0.f7], blk g1 31 [.int .i64 x.f0.f0, .int .i64 x.f0.f1, .int .i64 x.f0.f2, .int .i64 x.f0.f3, .int .i64 x.f0.f4, .int .i64 x.f0.f5, .int .i64 x.f0.f6, .int .i64 x.f0.f7, .int .i64 x.f1.f0, .int .i64 x.f1.f1, .slice A10 x.f1.f2.length c10, .slice A11 x.f2.length c11, .slice A12 x.f3.length c12, .slice A13 x.f4.length c13, .int .i64 x.f5.f0, .int .i64 x.f5.f1, .slice A16 x.f5.f2.length c16, .slice A17 x.f6.length c17]]) ((x.f6.length : Int) - 0).toNat ?_ ?_
          · exact ⟨0, by omega, by omega, rfl, rfl, h1, h3, rfl, hs⟩
          rintro m f w1 ⟨i, hi0, hi1, rfl, ha, h1, h3, h7, hs⟩
          refine W_seq ?_
          refine W_seq ?_
          refine W_region ?_
          refine L_q rfl (y_move h7) ?_  -- t80 := move t7
          refine L_q rfl (y_fa fa_23_7 h3) ?_  -- t81 := fieldAddr 23 t3 7
          refine L_q rfl (y_fld r_3 rfl (rg_of_range (hs.rg 0 rfl 7 1 rfl))) ?_  -- t82 := load 3 t81
          refine L_q rfl (y_lss rfl rfl) ?_  -- t83 := binOp lss 3 t80 t82 3
          refine L_nil ?_
          refine W_if rfl (fun hb => ?_) (fun hb => ?_)
          · skip
            have hlt : i < x.f6.length := by have := of_decide_eq_true hb; omega
            obtain ⟨ad, cl, rfl, hKl, hrg⟩ := Kd.C_at g17 zM i hi0 hlt
            have hlen3 : cl.length = 3 := kM.K_len hKl
            refine W_skip ?_
            refine W_seq ?_
            refine W_block ?_
            refine W_seq ?_
            refine W_drawS rfl [true, true] hs ?_
            intro w1 hs
            refine H_q (i := 0) rfl (by kernel_rfl) rfl (fun _ hw => (y_fa fa_31_6 h1)) (hs.keep [true, true]) ?_  -- t86 := fieldAddr 31 t1 6
            refine H_q (i := 1) rfl (by kernel_rfl) rfl (fun _ hw => (y_fld r_29 rfl (rg_of_range (hw.rg 1 rfl 17 1 rfl)))) (hs.keep [true, true]) ?_  -- t87 := load 29 t86
            refine H_q (i := 2) rfl (by kernel_rfl) rfl (fun _ hw => (y_move h7)) (hs.keep [true, true]) ?_  -- t88 := move t7
            refine H_q (i := 3) rfl (by kernel_rfl) rfl (fun _ hw => (y_ia u_29 sz_26 rfl rfl (by omega) (by omega))) (hs.keep [true, true]) ?_  -- t89 := indexAddr 29 t87 t88
            refine H_q (i := 4) rfl (by kernel_rfl) rfl (fun _ hw => (y_fls (cs := cl) r_26 (by rw [hlen3]; exact sz_26) rfl (hrg.below hw.below))) (hs.keep [true, true]) ?_  -- t90 := load 26 t89
            refine H_q (i := 5) rfl (by kernel_rfl) rfl (fun _ hw => (y_fa fa_23_0 h3)) (hs.keep [true, true]) ?_  -- t91 := fieldAddr 23 t3 0
            refine H_q (i := 6) rfl (by kernel_rfl) rfl (fun _ hw => (y_fld r_3 rfl (rg_of_range (hw.rg 0 rfl 0 1 rfl)))) (hs.keep [true, true]) ?_  -- t92 := load 3 t91
            refine H_q (i := 7) rfl (by kernel_rfl) rfl (fun _ hw => (y_fa fa_23_1 h3)) (hs.keep [true, true]) ?_  -- t93 := fieldAddr 23 t3 1
            refine H_q (i := 8) rfl (by kernel_rfl) rfl (fun _ hw => (y_fld r_3 rfl (rg_of_range (hw.rg 0 rfl 1 1 rfl)))) (hs.keep [true, true]) ?_  -- t94 := load 3 t93
            refine H_loud (i := 9) rfl (by kernel_rfl) (by simp [Region.wanted]) (o_call en_47 rfl hs (cal_ref04_is _ _ _ x.f0.f0 x.f0.f1 (kM.K_below hs.below hKl)) ?_)  -- t95 := CALL f47(t90, t92, t94) :4
            intro v95 w1 hb hs hv95
            refine ⟨hs.keep [true, true], ?_⟩
            refine H_q (i := 10) rfl (by kernel_rfl) rfl (fun _ hw => (y_assign hv95)) (hs.keep [true, true]) ?_  -- t8 := assign t95
            refine H_done (by kernel_rfl) ?_
            refine W_seq ?_
            refine W_region ?_
            refine L_q rfl (y_move rfl) ?_  -- t96 := move t8
            refine L_q rfl (y_not rfl) ?_  -- t97 := unOp not 4 t96
            refine L_nil ?_
            refine W_if rfl (fun hb => ?_) (fun hb => ?_)
            · skip
              refine W_seq ?_
              refine W_region ?_
              refine L_q rfl (y_assign rfl) ?_  -- t2 := assign 41
              refine L_nil ?_
              refine W_ret ?_
              -- sep: g3 g1
              refine ret_one rfl (.tmp (v := .int .i64 41) rfl .nil) ⟨_, rfl, hs.below, ?_⟩
              refine chk_no hok ?_
              rw [wtsOK, allG_not (p := fun m => isMat m x.f0.f0 x.f0.f1) (z := zM) hi0 hlt (by simpa using hb), Bool.and_false]
            · skip
              refine W_skip ?_
              refine W_region ?_
              refine L_q rfl (y_move h7) ?_  -- t84 := move t7
              refine L_q rfl (y_addi rfl rfl (by omega) (by omega)) ?_  -- t85 := binOp add 3 t84 1 3
              refine L_q rfl (y_assign rfl) ?_  -- t7 := assign t85
              refine L_nil ?_
              exact ⟨_, by omega, i + 1, by omega, by omega, rfl, allG_step (z := zM) hi0 hlt ha (by simpa using hb), h1, h3, rfl, hs⟩
          · skip
            refine W_exit ?_
            refine x_hit ?_
            refine W_seq ?_
            refine W_region ?_
            refine L_q rfl (y_assign rfl) ?_  -- t2 := assign 0
            refine L_nil ?_
            refine W_ret ?_
            -- sep: g3 g1
            refine ret_one rfl (.tmp (v := .int .i64 0) rfl .nil) ⟨_, rfl, hs.below, ?_⟩
            have hme := allG_end (p := fun m => isMat m x.f0.f0 x.f0.f1) ha (by have := of_decide_eq_false hb; omega)
            rw [chk, hok, wtsOK, hhd, hlens, hly, hme]
            rfl
end Go.Proofs.YtlmddncoeikfjaaDoor
