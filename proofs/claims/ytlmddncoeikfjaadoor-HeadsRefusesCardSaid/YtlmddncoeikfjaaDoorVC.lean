/- Walks: a layer, and weights, as the document's answer checks them. -/
import Derived.Test.YtlmddncoeikfjaaDoorVB
namespace Go.Proofs.YtlmddncoeikfjaaDoor
open Go.RowKit Go.Proofs.YtlmddncoeikfjaaDoorW.PrintWords
set_option maxRecDepth 100000
set_option maxHeartbeats 400000

/-- The head size. -/
def headOf (c : SC) : Int := IntKind.i64.wrap (c.f1.tdiv c.f2)
theorem headOf_le {c : SC} (h : cfgOK c = true) : 0 ≤ headOf c ∧ headOf c ≤ 32 ∧ headOf c = c.f1.tdiv c.f2 := by
  have h' := of_decide_eq_true h
  have h1 : 0 ≤ c.f1.tdiv c.f2 := Int.tdiv_nonneg (by omega) (by omega)
  have h2 : c.f1.tdiv c.f2 ≤ c.f1 := Int.tdiv_le_self _ (by omega)
  have h3 : headOf c = c.f1.tdiv c.f2 := IntWalk.i64_in _ (by omega)
  omega
theorem kv_le {c : SC} (h : cfgOK c = true) : 0 ≤ c.f3 * headOf c ∧ c.f3 * headOf c ≤ 128 := by
  have h' := of_decide_eq_true h
  have h1 := headOf_le h
  refine ⟨Int.mul_nonneg (by omega) h1.1, ?_⟩
  calc c.f3 * headOf c ≤ 4 * 32 := Int.mul_le_mul (by omega) (by omega) h1.1 (by omega)
    _ = 128 := rfl
def byList (b : SB) : List Int := [b.f0, b.f1, b.f2, b.f3, b.f4, b.f5, b.f6]
def shiftOK (x : Int) : Bool := decide (0 ≤ x ∧ x ≤ 24)
def layerOK (l : SL) (c : SC) : Bool :=
  (gainsOf l.f0 c.f1 && gainsOf l.f1 c.f1 && isMat l.f2 c.f1 c.f1 && isMat l.f5 c.f1 c.f1 && isMat l.f3 (c.f3 * headOf c) c.f1 && isMat l.f4 (c.f3 * headOf c) c.f1) && (isMat l.f6 c.f5 c.f1 && isMat l.f7 c.f5 c.f1 && isMat l.f8 c.f1 c.f5) && (byList l.f9).all shiftOK
theorem cal_ref04_layer (w0 : World) (x : SL) (cs : List Value) (y : SC) (cy : List Value) (hx : kL.K w0 x cs) (hy : kC.K w0 y cy) (hok : cfgOK y = true) : Cal Tryd.prog 51 #[.agg cs.toArray, .agg cy.toArray] w0 fun v w1 => Below w0.heap.size w0 w1 ∧ v = .bool (layerOK x y) := by
  obtain rfl := kC_open hy
  obtain ⟨A0, c0, A1, c1, A4, c4, A7, c7, A10, c10, A13, c13, A16, c16, A19, c19, A22, c22, rfl, l0, g0, l1, g1, l4, g4, l7, g7, l10, g10, l13, g13, l16, g16, l19, g19, l22, g22⟩ := kL_open hx
  have hne : y.f2 ≠ 0 := by have := of_decide_eq_true hok; omega
  have hkv := kv_le hok
  refine cal_W (n := 100) Tryd.func51 rfl rfl (by simp) ?_
  have hs := Sep.refl w0
  refine W_seq ?_
  refine W_region ?_
  refine L_op rfl (o_box (cs := [_, _, _, _, _, _, _, _, _, _, _, _, _, _, _, _, _, _, _, _, _, _, _, _, _, _, _, _, _, _]) rfl rfl hs ?_)  -- t2 := box 108 t0
  intro g2 w1 hs
  refine L_op rfl (o_box (cs := [_, _, _, _, _, _, _, _]) rfl rfl hs ?_)  -- t3 := box 23 t1
  intro g3 w1 hs
  refine L_q rfl (y_assign rfl) ?_  -- t4 := assign false
  refine L_nil ?_
  refine W_seq ?_
  refine W_region ?_
  refine L_q rfl (y_fa fa_23_1 rfl) ?_  -- t8 := fieldAddr 23 t3 1
  refine L_q rfl (y_fld r_3 rfl (rg_of_range (hs.rg 0 rfl 1 1 rfl))) ?_  -- t9 := load 3 t8
  refine L_q rfl (y_assign rfl) ?_  -- t5 := assign t9
  refine L_nil ?_
  refine W_seq ?_
  refine W_drawS rfl [true, true] hs ?_
  intro w1 hs
  refine H_q (i := 0) rfl (by kernel_rfl) rfl (fun _ hw => (y_fa fa_23_3 rfl)) (hs.keep [true, true]) ?_  -- t10 := fieldAddr 23 t3 3
  refine H_q (i := 1) rfl (by kernel_rfl) rfl (fun _ hw => (y_fld r_3 rfl (rg_of_range (hw.rg 0 rfl 3 1 rfl)))) (hs.keep [true, true]) ?_  -- t11 := load 3 t10
  refine H_q (i := 2) rfl (by kernel_rfl) rfl (fun _ hw => (y_fls (cs := [_, _, _, _, _, _, _, _]) r_23 sz_23 rfl (rg_of_range (hw.rg 0 rfl 0 8 rfl)))) (hs.keep [true, true]) ?_  -- t12 := load 23 t3
  refine H_loud (i := 3) rfl (by kernel_rfl) (by simp [Region.wanted]) (o_call en_50 rfl hs (cal_ref04_Head _ y _ (kC.K_below hs.below hy) hne) ?_)  -- t13 := CALL f50(t12) :3
  intro v13 w1 hb hs hv13
  refine ⟨hs.keep [true, true], ?_⟩
  refine H_q (i := 4) rfl (by kernel_rfl) rfl (fun _ hw => (y_muli (c := y.f3 * headOf y) rfl hv13 rfl (by omega) (by omega))) (hs.keep [true, true]) ?_  -- t14 := binOp mul 3 t11 t13 3
  refine H_q (i := 5) rfl (by kernel_rfl) rfl (fun _ hw => (y_assign rfl)) (hs.keep [true, true]) ?_  -- t6 := assign t14
  refine H_done (by kernel_rfl) ?_
  refine W_seq ?_
  refine W_seq ?_
  refine W_region ?_
  refine L_q rfl (y_fa fa_108_0 rfl) ?_  -- t15 := fieldAddr 108 t2 0
  refine L_q rfl (y_fld r_24 rfl (rg_of_range (hs.rg 1 rfl 0 1 rfl))) ?_  -- t16 := load 24 t15
  refine L_q rfl (y_move rfl) ?_  -- t17 := move t5
  refine L_op rfl (o_call en_48 rfl hs (cal_ref04_gains _ A0 c0 x.f0 y.f1 (Kd.C_below g0 hs.below)) ?_)  -- t18 := CALL f48(t16, t17) :4
  intro v18 w1 hb hs hv18
  refine L_q rfl (y_not hv18) ?_  -- t19 := unOp not 4 t18
  refine L_q rfl (y_move rfl) ?_  -- t20 := move t19
  refine L_qif rfl rfl rfl (fun hc => (y_fa fa_108_1 rfl)) ?_  -- t21 := fieldAddr 108 t2 1 ?(5,false)
  refine L_qif rfl rfl rfl (fun hc => (y_fld r_24 (gv_yes hc) (rg_of_range (hs.rg 1 rfl 1 1 rfl)))) ?_  -- t22 := load 24 t21 ?(5,false)
  refine L_qif rfl rfl rfl (fun hc => (y_move rfl)) ?_  -- t23 := move t5 ?(5,false)
  refine L_callif rfl rfl en_48 (fun hc => args2 (gv_yes hc) (gv_yes hc)) hs (fun hc => cal_ref04_gains _ A1 c1 x.f1 y.f1 (Kd.C_below g1 hs.below)) ?_  -- t24 := CALL f48(t22, t23) :4 ?(5,false)
  intro v24 w1 hb hs hv24
  refine L_qif rfl rfl rfl (fun hc => (y_not (hv24.trans (gv_yes hc)))) ?_  -- t25 := unOp not 4 t24 ?(5,false)
  refine L_q rfl (y_por rfl rfl) ?_  -- t26 := pick t20 true t25
  refine L_q rfl (y_move rfl) ?_  -- t27 := move t26
  refine L_qif rfl rfl rfl (fun hc => (y_fa fa_108_2 rfl)) ?_  -- t28 := fieldAddr 108 t2 2 ?(12,false)
  refine L_qif rfl rfl rfl (fun hc => (y_fls (cs := [_, _, _]) r_26 sz_26 (gv_yes hc) (rg_of_range (hs.rg 1 rfl 2 3 rfl)))) ?_  -- t29 := load 26 t28 ?(12,false)
  refine L_qif rfl rfl rfl (fun hc => (y_move rfl)) ?_  -- t30 := move t5 ?(12,false)
  refine L_qif rfl rfl rfl (fun hc => (y_move rfl)) ?_  -- t31 := move t5 ?(12,false)
  refine L_callif rfl rfl en_47 (fun hc => args3 (gv_yes hc) (gv_yes hc) (gv_yes hc)) hs (fun hc => cal_ref04_is _ x.f2 _ y.f1 y.f1 (kM_mk _ _ l4 (Kd.C_below g4 hs.below))) ?_  -- t32 := CALL f47(t29, t30, t31) :4 ?(12,false)
  intro v32 w1 hb hs hv32
  refine L_qif rfl rfl rfl (fun hc => (y_not (hv32.trans (gv_yes hc)))) ?_  -- t33 := unOp not 4 t32 ?(12,false)
  refine L_q rfl (y_por rfl rfl) ?_  -- t34 := pick t27 true t33
  refine L_q rfl (y_move rfl) ?_  -- t35 := move t34
  refine L_qif rfl rfl rfl (fun hc => (y_fa fa_108_5 rfl)) ?_  -- t36 := fieldAddr 108 t2 5 ?(20,false)
  refine L_qif rfl rfl rfl (fun hc => (y_fls (cs := [_, _, _]) r_26 sz_26 (gv_yes hc) (rg_of_range (hs.rg 1 rfl 11 3 rfl)))) ?_  -- t37 := load 26 t36 ?(20,false)
  refine L_qif rfl rfl rfl (fun hc => (y_move rfl)) ?_  -- t38 := move t5 ?(20,false)
  refine L_qif rfl rfl rfl (fun hc => (y_move rfl)) ?_  -- t39 := move t5 ?(20,false)
  refine L_callif rfl rfl en_47 (fun hc => args3 (gv_yes hc) (gv_yes hc) (gv_yes hc)) hs (fun hc => cal_ref04_is _ x.f5 _ y.f1 y.f1 (kM_mk _ _ l13 (Kd.C_below g13 hs.below))) ?_  -- t40 := CALL f47(t37, t38, t39) :4 ?(20,false)
  intro v40 w1 hb hs hv40
  refine L_qif rfl rfl rfl (fun hc => (y_not (hv40.trans (gv_yes hc)))) ?_  -- t41 := unOp not 4 t40 ?(20,false)
  refine L_q rfl (y_por rfl rfl) ?_  -- t42 := pick t35 true t41
  refine L_q rfl (y_move rfl) ?_  -- t43 := move t42
  refine L_qif rfl rfl rfl (fun hc => (y_fa fa_108_3 rfl)) ?_  -- t44 := fieldAddr 108 t2 3 ?(28,false)
  refine L_qif rfl rfl rfl (fun hc => (y_fls (cs := [_, _, _]) r_26 sz_26 (gv_yes hc) (rg_of_range (hs.rg 1 rfl 5 3 rfl)))) ?_  -- t45 := load 26 t44 ?(28,false)
  refine L_qif rfl rfl rfl (fun hc => (y_move rfl)) ?_  -- t46 := move t6 ?(28,false)
  refine L_qif rfl rfl rfl (fun hc => (y_move rfl)) ?_  -- t47 := move t5 ?(28,false)
  refine L_callif rfl rfl en_47 (fun hc => args3 (gv_yes hc) (gv_yes hc) (gv_yes hc)) hs (fun hc => cal_ref04_is _ x.f3 _ (y.f3 * headOf y) y.f1 (kM_mk _ _ l7 (Kd.C_below g7 hs.below))) ?_  -- t48 := CALL f47(t45, t46, t47) :4 ?(28,false)
  intro v48 w1 hb hs hv48
  refine L_qif rfl rfl rfl (fun hc => (y_not (hv48.trans (gv_yes hc)))) ?_  -- t49 := unOp not 4 t48 ?(28,false)
  refine L_q rfl (y_por rfl rfl) ?_  -- t50 := pick t43 true t49
  refine L_q rfl (y_move rfl) ?_  -- t51 := move t50
  refine L_qif rfl rfl rfl (fun hc => (y_fa fa_108_4 rfl)) ?_  -- t52 := fieldAddr 108 t2 4 ?(36,false)
  refine L_qif rfl rfl rfl (fun hc => (y_fls (cs := [_, _, _]) r_26 sz_26 (gv_yes hc) (rg_of_range (hs.rg 1 rfl 8 3 rfl)))) ?_  -- t53 := load 26 t52 ?(36,false)
  refine L_qif rfl rfl rfl (fun hc => (y_move rfl)) ?_  -- t54 := move t6 ?(36,false)
  refine L_qif rfl rfl rfl (fun hc => (y_move rfl)) ?_  -- t55 := move t5 ?(36,false)
  refine L_callif rfl rfl en_47 (fun hc => args3 (gv_yes hc) (gv_yes hc) (gv_yes hc)) hs (fun hc => cal_ref04_is _ x.f4 _ (y.f3 * headOf y) y.f1 (kM_mk _ _ l10 (Kd.C_below g10 hs.below))) ?_  -- t56 := CALL f47(t53, t54, t55) :4 ?(36,false)
  intro v56 w1 hb hs hv56
  refine L_qif rfl rfl rfl (fun hc => (y_not (hv56.trans (gv_yes hc)))) ?_  -- t57 := unOp not 4 t56 ?(36,false)
  refine L_q rfl (y_por rfl rfl) ?_  -- t58 := pick t51 true t57
  refine L_nil ?_
  refine W_if rfl (fun hb => ?_) (fun hb => ?_)
  · skip
    refine W_seq ?_
    refine W_region ?_
    refine L_q rfl (y_assign rfl) ?_  -- t4 := assign false
    refine L_nil ?_
    refine W_ret ?_
    -- sep: g3 g2
    refine ret_one rfl (.tmp (v := .bool false) rfl .nil) ⟨_, rfl, hs.below, ?_⟩
    congr 1
    symm
    revert hb
    simp only [layerOK]
    cases gainsOf x.f0 y.f1 <;> cases gainsOf x.f1 y.f1 <;> cases isMat x.f2 y.f1 y.f1 <;> cases isMat x.f5 y.f1 y.f1 <;> cases isMat x.f3 (y.f3 * headOf y) y.f1 <;> cases isMat x.f4 (y.f3 * headOf y) y.f1 <;> simp
  · skip
    have hfirst : (gainsOf x.f0 y.f1 && gainsOf x.f1 y.f1 && isMat x.f2 y.f1 y.f1 && isMat x.f5 y.f1 y.f1 && isMat x.f3 (y.f3 * headOf y) y.f1 && isMat x.f4 (y.f3 * headOf y) y.f1) = true := by
      revert hb
      cases gainsOf x.f0 y.f1 <;> cases gainsOf x.f1 y.f1 <;> cases isMat x.f2 y.f1 y.f1 <;> cases isMat x.f5 y.f1 y.f1 <;> cases isMat x.f3 (y.f3 * headOf y) y.f1 <;> cases isMat x.f4 (y.f3 * headOf y) y.f1 <;> simp
    refine W_skip ?_
    refine W_seq ?_
    refine W_seq ?_
    refine W_region ?_
    refine L_q rfl (y_fa fa_108_6 rfl) ?_  -- t59 := fieldAddr 108 t2 6
    refine L_q rfl (y_fls (cs := [_, _, _]) r_26 sz_26 rfl (rg_of_range (hs.rg 1 rfl 14 3 rfl))) ?_  -- t60 := load 26 t59
    refine L_q rfl (y_fa fa_23_5 rfl) ?_  -- t61 := fieldAddr 23 t3 5
    refine L_q rfl (y_fld r_3 rfl (rg_of_range (hs.rg 0 rfl 5 1 rfl))) ?_  -- t62 := load 3 t61
    refine L_q rfl (y_move rfl) ?_  -- t63 := move t5
    refine L_op rfl (o_call en_47 rfl hs (cal_ref04_is _ x.f6 _ y.f5 y.f1 (kM_mk _ _ l16 (Kd.C_below g16 hs.below))) ?_)  -- t64 := CALL f47(t60, t62, t63) :4
    intro v64 w1 hb hs hv64
    refine L_q rfl (y_not hv64) ?_  -- t65 := unOp not 4 t64
    refine L_q rfl (y_move rfl) ?_  -- t66 := move t65
    refine L_qif rfl rfl rfl (fun hc => (y_fa fa_108_7 rfl)) ?_  -- t67 := fieldAddr 108 t2 7 ?(7,false)
    refine L_qif rfl rfl rfl (fun hc => (y_fls (cs := [_, _, _]) r_26 sz_26 (gv_yes hc) (rg_of_range (hs.rg 1 rfl 17 3 rfl)))) ?_  -- t68 := load 26 t67 ?(7,false)
    refine L_qif rfl rfl rfl (fun hc => (y_fa fa_23_5 rfl)) ?_  -- t69 := fieldAddr 23 t3 5 ?(7,false)
    refine L_qif rfl rfl rfl (fun hc => (y_fld r_3 (gv_yes hc) (rg_of_range (hs.rg 0 rfl 5 1 rfl)))) ?_  -- t70 := load 3 t69 ?(7,false)
    refine L_qif rfl rfl rfl (fun hc => (y_move rfl)) ?_  -- t71 := move t5 ?(7,false)
    refine L_callif rfl rfl en_47 (fun hc => args3 (gv_yes hc) (gv_yes hc) (gv_yes hc)) hs (fun hc => cal_ref04_is _ x.f7 _ y.f5 y.f1 (kM_mk _ _ l19 (Kd.C_below g19 hs.below))) ?_  -- t72 := CALL f47(t68, t70, t71) :4 ?(7,false)
    intro v72 w1 hb hs hv72
    refine L_qif rfl rfl rfl (fun hc => (y_not (hv72.trans (gv_yes hc)))) ?_  -- t73 := unOp not 4 t72 ?(7,false)
    refine L_q rfl (y_por rfl rfl) ?_  -- t74 := pick t66 true t73
    refine L_q rfl (y_move rfl) ?_  -- t75 := move t74
    refine L_qif rfl rfl rfl (fun hc => (y_fa fa_108_8 rfl)) ?_  -- t76 := fieldAddr 108 t2 8 ?(16,false)
    refine L_qif rfl rfl rfl (fun hc => (y_fls (cs := [_, _, _]) r_26 sz_26 (gv_yes hc) (rg_of_range (hs.rg 1 rfl 20 3 rfl)))) ?_  -- t77 := load 26 t76 ?(16,false)
    refine L_qif rfl rfl rfl (fun hc => (y_move rfl)) ?_  -- t78 := move t5 ?(16,false)
    refine L_qif rfl rfl rfl (fun hc => (y_fa fa_23_5 rfl)) ?_  -- t79 := fieldAddr 23 t3 5 ?(16,false)
    refine L_qif rfl rfl rfl (fun hc => (y_fld r_3 (gv_yes hc) (rg_of_range (hs.rg 0 rfl 5 1 rfl)))) ?_  -- t80 := load 3 t79 ?(16,false)
    refine L_callif rfl rfl en_47 (fun hc => args3 (gv_yes hc) (gv_yes hc) (gv_yes hc)) hs (fun hc => cal_ref04_is _ x.f8 _ y.f1 y.f5 (kM_mk _ _ l22 (Kd.C_below g22 hs.below))) ?_  -- t81 := CALL f47(t77, t78, t80) :4 ?(16,false)
    intro v81 w1 hb hs hv81
    refine L_qif rfl rfl rfl (fun hc => (y_not (hv81.trans (gv_yes hc)))) ?_  -- t82 := unOp not 4 t81 ?(16,false)
    refine L_q rfl (y_por rfl rfl) ?_  -- t83 := pick t75 true t82
    refine L_nil ?_
    refine W_if rfl (fun hb => ?_) (fun hb => ?_)
    · skip
      refine W_seq ?_
      refine W_region ?_
      refine L_q rfl (y_assign rfl) ?_  -- t4 := assign false
      refine L_nil ?_
      refine W_ret ?_
      -- sep: g3 g2
      refine ret_one rfl (.tmp (v := .bool false) rfl .nil) ⟨_, rfl, hs.below, ?_⟩
      congr 1
      symm
      revert hb
      simp only [layerOK, hfirst]
      cases isMat x.f6 y.f5 y.f1 <;> cases isMat x.f7 y.f5 y.f1 <;> cases isMat x.f8 y.f1 y.f5 <;> simp
    · skip
      have hsec : (isMat x.f6 y.f5 y.f1 && isMat x.f7 y.f5 y.f1 && isMat x.f8 y.f1 y.f5) = true := by
        revert hb
        cases isMat x.f6 y.f5 y.f1 <;> cases isMat x.f7 y.f5 y.f1 <;> cases isMat x.f8 y.f1 y.f5 <;> simp
      refine W_skip ?_
      refine W_seq ?_
      refine W_seq ?_
      refine W_region ?_
      refine L_q rfl (y_assign rfl) ?_  -- t7 := assign 0
      refine L_nil ?_
      have hid := hs.hide (Q := fun w => Rg w ⟨g2, 23, none⟩ ((byList x.f9).map (Value.int .i64))) (fun w h => rg_of_range (h.rg 1 rfl 23 7 (out := [_, _, _, _, _, _, _]) rfl))
      obtain ⟨L, hs, hby⟩ := hid
      refine W_block ?_
      refine W_loop (fun m f w1 => ∃ i : Int, 0 ≤ i ∧ i ≤ 7 ∧ m = (7 - i).toNat ∧ ((byList x.f9).take i.toNat).all shiftOK = true ∧ sl f 2 = .pointer (some ⟨g2, 0, none⟩) ∧ sl f 7 = .int .i64 i ∧ Sep w0 w1 L) ((7 : Int) - 0).toNat ?_ ?_
      · exact ⟨0, by omega, by omega, rfl, rfl, rfl, rfl, hs⟩
      rintro m f w1 ⟨i, hi0, hi1, rfl, ha, h2, h7, hs⟩
      refine W_seq ?_
      refine W_seq ?_
      refine W_region ?_
      refine L_q rfl (y_move h7) ?_  -- t84 := move t7
      refine L_q rfl (y_lss rfl rfl) ?_  -- t85 := binOp lss 3 t84 7 3
      refine L_nil ?_
      refine W_if rfl (fun hb => ?_) (fun hb => ?_)
      · skip
        have hlt : i < 7 := of_decide_eq_true hb
        have hrg := rg_ints (k := .i64) (l := byList x.f9) (hby _ hs) hi0 hlt
        refine W_skip ?_
        refine W_seq ?_
        refine W_block ?_
        refine W_seq ?_
        refine W_region ?_
        refine L_q rfl (y_move h7) ?_  -- t88 := move t7
        refine L_q rfl (y_fa fa_108_9 h2) ?_  -- t89 := fieldAddr 108 t2 9
        refine L_q rfl (y_iaa u_106 sz_3 rfl rfl (by omega) (by omega)) ?_  -- t90 := indexAddr 106 t89 t88
        refine L_q rfl (y_fld r_3 rfl hrg) ?_  -- t91 := load 3 t90
        refine L_q rfl (y_lss rfl rfl) ?_  -- t92 := binOp lss 3 t91 0 3
        refine L_q rfl (y_move rfl) ?_  -- t93 := move t92
        refine L_qif rfl rfl rfl (fun hc => (y_move h7)) ?_  -- t94 := move t7 ?(5,false)
        refine L_qif rfl rfl rfl (fun hc => (y_fa fa_108_9 h2)) ?_  -- t95 := fieldAddr 108 t2 9 ?(5,false)
        refine L_qif rfl rfl rfl (fun hc => (y_iaa u_106 sz_3 (gv_yes hc) (gv_yes hc) (by omega) (by omega))) ?_  -- t96 := indexAddr 106 t95 t94 ?(5,false)
        refine L_qif rfl rfl rfl (fun hc => (y_fld r_3 (gv_yes hc) hrg)) ?_  -- t97 := load 3 t96 ?(5,false)
        refine L_qif rfl rfl rfl (fun hc => (y_gtr (gv_yes hc) rfl)) ?_  -- t98 := binOp gtr 3 t97 24 3 ?(5,false)
        refine L_q rfl (y_por rfl rfl) ?_  -- t99 := pick t93 true t98
        refine L_nil ?_
        refine W_if rfl (fun hb => ?_) (fun hb => ?_)
        · skip
          refine W_seq ?_
          refine W_region ?_
          refine L_q rfl (y_assign rfl) ?_  -- t4 := assign false
          refine L_nil ?_
          refine W_ret ?_
          -- sep: g3 g2
          refine ret_one rfl (.tmp (v := .bool false) rfl .nil) ⟨_, rfl, hs.below, ?_⟩
          rw [layerOK, allG_not (p := shiftOK) (z := 0) hi0 (l := byList x.f9) hlt (decide_eq_false (by simp only [Bool.or_eq_true, decide_eq_true_eq] at hb; omega)), Bool.and_false]
        · skip
          refine W_skip ?_
          refine W_region ?_
          refine L_q rfl (y_move h7) ?_  -- t86 := move t7
          refine L_q rfl (y_addi rfl rfl (by omega) (by omega)) ?_  -- t87 := binOp add 3 t86 1 3
          refine L_q rfl (y_assign rfl) ?_  -- t7 := assign t87
          refine L_nil ?_
          exact ⟨_, by omega, i + 1, by omega, by omega, rfl, allG_step hi0 (l := byList x.f9) hlt ha (z := 0) (decide_eq_true (by simp only [Bool.or_eq_false_iff, decide_eq_false_iff_not] at hb; omega)), h2, rfl, hs⟩
      · skip
        refine W_exit ?_
        refine x_hit ?_
        refine W_seq ?_
        refine W_region ?_
        refine L_q rfl (y_assign rfl) ?_  -- t4 := assign true
        refine L_nil ?_
        refine W_ret ?_
        -- sep: g3 g2
        refine ret_one rfl (.tmp (v := .bool true) rfl .nil) ⟨_, rfl, hs.below, ?_⟩
        rw [layerOK, hfirst, hsec, allG_end (p := shiftOK) ha (by have := of_decide_eq_false hb; have : (byList x.f9).length = 7 := rfl; omega)]
        rfl
end Go.Proofs.YtlmddncoeikfjaaDoor
