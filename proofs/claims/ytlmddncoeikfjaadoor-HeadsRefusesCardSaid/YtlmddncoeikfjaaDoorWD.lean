/- Walks: the law HeadsRefuses. -/
import Derived.Test.YtlmddncoeikfjaaDoorWC
namespace Go.Proofs.YtlmddncoeikfjaaDoor
open Go.RowKit Go.Proofs.YtlmddncoeikfjaaDoorW.PrintWords
set_option maxRecDepth 100000
set_option maxHeartbeats 4000000

theorem y_of {n : Nat} {P : Program} {f : Fr n} {w : World} {o : Oper} {v v' : Value} (h : (execOp (ev f) o).run P w = .ok (.value v) w) (e : v = v') : (execOp (ev f) o).run P w = .ok (.value v') w := e ▸ h
/-- Without a model. -/
theorem cal_Guesses_nil (w0 : World) (V : Value) : Cal Tryd.prog 12 #[.pointer none, V] w0 fun r w1 => Below w0.heap.size w0 w1 ∧ r = .tuple #[.slice none 0 0, .int .i64 1] := by
  refine cal_W (n := 44) Tryd.func12 rfl rfl (by simp) ?_
  have hs := Sep.refl w0
  refine W_seq ?_
  refine W_region ?_
  refine L_q rfl (y_assign rfl) ?_  -- t4 := assign nil
  refine L_q rfl (y_assign rfl) ?_  -- t5 := assign 0
  refine L_nil ?_
  refine W_seq ?_
  refine W_block ?_
  refine W_seq ?_
  refine W_region ?_
  refine L_q rfl (y_move rfl) ?_  -- t12 := move t0
  refine L_q rfl (y_bin rfl rfl rfl (eql_33 ..)) ?_  -- t13 := binOp eql 33 t12 nilptr 33
  refine L_q rfl (y_assign rfl) ?_  -- t11 := assign t13
  refine L_nil ?_
  refine W_if rfl (fun hq1 => ?_) (fun hq1 => ?_)
  · skip
    refine W_seq ?_
    refine W_region ?_
    refine L_q rfl (y_assign rfl) ?_  -- t4 := assign nil
    refine L_q rfl (y_assign rfl) ?_  -- t5 := assign 1
    refine L_nil ?_
    refine W_ret ?_
    -- sep: 
    refine ret_many (rs := [.tmp 4, .tmp 5]) rfl (.tmp (v := .slice none 0 0) rfl (.tmp (v := .int .i64 1) rfl .nil)) (by simp) ⟨_, rfl, hs.below, ?_⟩
    rfl
  · skip
    cases hq1
theorem cal_law09_made (w0 : World) (x : SW) (cs : List Value) (hx : kW.K w0 x cs) (hG : Sides w0) (hnar : narW x) : Cal Tryd.prog 10 #[.agg cs.toArray] w0 fun v w1 => Below w0.heap.size w0 w1 ∧ ∃ p, v = .tuple #[p, .bool (decide (chk x = 0)), .bool true] ∧ (chk x = 0 → ∃ g, p = .pointer (some ⟨g, 0, none⟩) ∧ MdlAt w1 g x) := by
  have hx' := hx
  obtain ⟨A10, c10, A11, c11, A12, c12, A13, c13, A16, c16, A17, c17, rfl, -⟩ := kW_open hx'
  refine cal_W (n := 25) Tryd.func10 rfl rfl (by simp) ?_
  have hs := Sep.refl w0
  refine W_seq ?_
  refine W_region ?_
  refine L_op rfl (o_box (cs := [_, _, _, _, _, _, _, _, _, _, _, _, _, _, _, _, _, _]) rfl rfl hs ?_)  -- t1 := box 31 t0
  intro g1 w1 hs
  refine L_q rfl (y_assign rfl) ?_  -- t2 := assign nilptr
  refine L_q rfl (y_assign rfl) ?_  -- t3 := assign false
  refine L_q rfl (y_assign rfl) ?_  -- t4 := assign false
  refine L_nil ?_
  refine W_seq ?_
  refine W_region ?_
  refine L_q rfl (y_fls (cs := [_, _, _, _, _, _, _, _, _, _, _, _, _, _, _, _, _, _]) r_31 sz_31 rfl (rg_of_range (hs.rg 0 rfl 0 18 rfl))) ?_  -- t8 := load 31 t1
  refine L_op rfl (o_call en_31 rfl hs (cal_ref04_Check _ x _ (kW.K_below hs.below hx)) ?_)  -- t9 := CALL f31(t8) :37
  intro v9 w1 hb hs hv9
  refine L_q rfl (y_assign hv9) ?_  -- t5 := assign t9
  refine L_nil ?_
  refine W_seq ?_
  refine W_seq ?_
  refine W_region ?_
  refine L_q rfl (y_move rfl) ?_  -- t10 := move t5
  refine L_q rfl (y_neq rfl rfl) ?_  -- t11 := binOp neq 37 t10 0 37
  refine L_nil ?_
  refine W_if rfl (fun hq1 => ?_) (fun hq1 => ?_)
  · skip
    refine W_seq ?_
    refine W_region ?_
    refine L_q rfl (y_assign rfl) ?_  -- t2 := assign nilptr
    refine L_q rfl (y_assign rfl) ?_  -- t3 := assign false
    refine L_q rfl (y_assign rfl) ?_  -- t4 := assign true
    refine L_nil ?_
    refine W_ret ?_
    -- sep: g1
    refine ret_many (rs := [.tmp 2, .tmp 3, .tmp 4]) rfl (.tmp (v := .pointer none) rfl (.tmp (v := .bool false) rfl (.tmp (v := .bool true) rfl .nil))) (by simp) ⟨_, rfl, hs.below, ?_⟩
    have hne : chk x ≠ 0 := of_decide_eq_true hq1
    exact ⟨_, by rw [decide_eq_false hne], fun h => absurd h hne⟩
  · skip
    have hz : chk x = 0 := by have := of_decide_eq_false hq1; omega
    refine W_skip ?_
    refine W_seq ?_
    refine W_region ?_
    refine L_q rfl (y_fls (cs := [_, _, _, _, _, _, _, _, _, _, _, _, _, _, _, _, _, _]) r_31 sz_31 rfl (rg_of_range (hs.rg 0 rfl 0 18 rfl))) ?_  -- t13 := load 31 t1
    refine L_op rfl (o_callM en_33 rfl hs (cal_ref00_CopyWeights _ x _ (kW.K_below hs.below hx) (sm_of hx hz)) ?_)  -- t14 := CALL f33(t13) :31
    intro cs14 w1 hb hs
    obtain ⟨r14_10, r14_11, r14_12, r14_13, r14_16, r14_17, rfl, q14_10, q14_11, q14_12, q14_13, q14_16, q14_17⟩ := kW_openM hs.outM
    obtain ⟨A14_10, c14_10, rfl⟩ := Kd.R_slice q14_10
    obtain ⟨A14_11, c14_11, rfl⟩ := Kd.R_slice q14_11
    obtain ⟨A14_12, c14_12, rfl⟩ := Kd.R_slice q14_12
    obtain ⟨A14_13, c14_13, rfl⟩ := Kd.R_slice q14_13
    obtain ⟨A14_16, c14_16, rfl⟩ := Kd.R_slice q14_16
    obtain ⟨A14_17, c14_17, rfl⟩ := Kd.R_slice q14_17
    have hs15 := hs
    refine L_op rfl (o_call en_32 rfl hs (cal_model_New _ x _ (kW.K_of_M hs.outM) (hG.below hs.below) hnar) ?_)  -- t15 := CALL f32(t14) :78
    intro v15 w1 hb hs hv15
    obtain ⟨g15, rfl, _, hM⟩ := hv15.2 hz
    refine L_q rfl (y_move rfl) ?_  -- t12 := move t15
    refine L_q rfl (y_ext rfl rfl) ?_  -- t16 := extract t12 0
    refine L_q rfl (y_ext rfl rfl) ?_  -- t17 := extract t12 1
    refine L_q rfl (y_assign rfl) ?_  -- t6 := assign t16
    refine L_q rfl (y_assign rfl) ?_  -- t7 := assign t17
    refine L_nil ?_
    refine W_seq ?_
    refine W_region ?_
    refine L_q rfl (y_move rfl) ?_  -- t18 := move t6
    refine L_q rfl (y_move rfl) ?_  -- t19 := move t6
    refine L_q rfl (y_bin rfl rfl rfl (neq_33 ..)) ?_  -- t20 := binOp neq 33 t19 nilptr 33
    refine L_q rfl (y_move rfl) ?_  -- t21 := move t20
    refine L_qif rfl rfl rfl (fun hc => (y_move rfl)) ?_  -- t22 := move t7 ?(3,true)
    refine L_qif rfl rfl rfl (fun hc => (y_eql (gv_yes hc) rfl)) ?_  -- t23 := binOp eql 37 t22 0 37 ?(3,true)
    refine L_q rfl (y_pand rfl rfl) ?_  -- t24 := pick t21 t23 false
    refine L_q rfl (y_assign rfl) ?_  -- t2 := assign t18
    refine L_q rfl (y_assign rfl) ?_  -- t3 := assign true
    refine L_q rfl (y_assign rfl) ?_  -- t4 := assign t24
    refine L_nil ?_
    refine W_ret ?_
    -- sep: own14 g1
    refine ret_many (rs := [.tmp 2, .tmp 3, .tmp 4]) rfl (.tmp (v := .pointer (some ⟨g15, 0, none⟩)) rfl (.tmp (v := .bool true) rfl (.tmp (v := .bool true) rfl .nil))) (by simp) ⟨_, rfl, hs.below, ?_⟩
    exact ⟨_, by rw [decide_eq_true hz], fun _ => ⟨_, rfl, hM⟩⟩
theorem log_row {w0 w1 : World} {m : SM} {v : List Int} {r : Value} (h : LogAns w0 w1 m v r) (hf : mvFits m v = true) : ∃ A c, r = .tuple #[.slice A (mvOf m v).length c, .int .i64 0] := by
  obtain ⟨u, e, hR⟩ := h.2 hf
  obtain ⟨A, c, e2⟩ := Kd.R_slice hR
  exact ⟨A, c, by rw [e, e2]⟩
theorem gs_row {w0 w1 : World} {x : SW} {v : List Int} {r : Value} (h : GsAns w0 w1 x v r) (hf : (v.length : Int) = x.f0.f1) : ∃ u, r = .tuple #[u, .int .i64 0] := by
  obtain ⟨u, e, hR⟩ := h.2 hf
  exact ⟨u, e⟩
theorem not_dec {p : Prop} [Decidable p] (h : (!decide p) = false) : p := by simpa using h
theorem fits_emb {x : SW} {v : List Int} (hz : chk x = 0) : mvFits x.f5 v = decide ((v.length : Int) = x.f0.f1) ∧ 0 < (mvOf x.f5 v).length := by
  obtain ⟨hc, hw⟩ := chk_zero hz
  simp only [wtsOK, wtsHead, isMat, Bool.and_eq_true, decide_eq_true_eq] at hw
  simp only [cfgOK, decide_eq_true_eq] at hc
  obtain ⟨⟨⟨⟨⟨⟨-, ⟨⟨h1, h2⟩, h3⟩⟩, -⟩, -⟩, -⟩, -⟩, -⟩ := hw
  refine ⟨?_, ?_⟩
  · rw [mvFits, h1, h3]
    rfl
  · simp only [mvOf, List.length_map, List.length_range]
    omega
theorem cal_law09_HeadsRefuses (w0 : World) (x : SW) (cs : List Value) (V : Option Addr) (k : Nat) (v : List Int) (hx : kW.K w0 x cs) (hG : Sides w0) (hnar : narW x) (hV : (Kd.int .i8).C w0 V v.length v) : Cal Tryd.prog 3 #[.agg cs.toArray, .slice V v.length k] w0 fun r w1 => Below w0.heap.size w0 w1 ∧ r = .bool true := by
  have hx' := hx
  obtain ⟨A10, c10, A11, c11, A12, c12, A13, c13, A16, c16, A17, c17, rfl, -⟩ := kW_open hx'
  refine cal_W (n := 101) Tryd.func3 rfl rfl (by simp) ?_
  have hs := Sep.refl w0
  refine W_seq ?_
  refine W_region ?_
  refine L_op rfl (o_box (cs := [_, _, _, _, _, _, _, _, _, _, _, _, _, _, _, _, _, _]) rfl rfl hs ?_)  -- t2 := box 31 t0
  intro g2 w1 hs
  refine L_q rfl (y_assign rfl) ?_  -- t4 := assign false
  refine L_nil ?_
  refine W_seq ?_
  refine W_region ?_
  refine L_op rfl (o_call en_9 rfl hs (cal_law09_fixed _) ?_)  -- t16 := CALL f9() :4
  intro v16 w1 hb hs hv16
  refine L_q rfl (y_assign hv16) ?_  -- t5 := assign t16
  refine L_nil ?_
  refine W_seq ?_
  refine W_region ?_
  refine L_q rfl (y_fls (cs := [_, _, _, _, _, _, _, _, _, _, _, _, _, _, _, _, _, _]) r_31 sz_31 rfl (rg_of_range (hs.rg 0 rfl 0 18 rfl))) ?_  -- t18 := load 31 t2
  have hs19 := hs
  refine L_op rfl (o_call en_10 rfl hs (cal_law09_made _ x _ (kW.K_below hs.below hx) (hG.below hs.below) hnar) ?_)  -- t19 := CALL f10(t18) :34
  intro v19 w1 hb hs hv19
  obtain ⟨p, rfl, hP⟩ := hv19
  refine L_q rfl (y_move rfl) ?_  -- t17 := move t19
  refine L_q rfl (y_ext rfl rfl) ?_  -- t20 := extract t17 0
  refine L_q rfl (y_ext rfl rfl) ?_  -- t21 := extract t17 1
  refine L_q rfl (y_ext rfl rfl) ?_  -- t22 := extract t17 2
  refine L_q rfl (y_assign rfl) ?_  -- t6 := assign t20
  refine L_q rfl (y_assign rfl) ?_  -- t7 := assign t21
  refine L_q rfl (y_assign rfl) ?_  -- t8 := assign t22
  refine L_nil ?_
  refine W_seq ?_
  refine W_region ?_
  refine L_q rfl (y_move rfl) ?_  -- t24 := move t1
  have hs25 := hs
  refine L_op rfl (o_call en_11 rfl hs (cal_Logits_nil _ _) ?_)  -- t25 := CALL f11(nilptr, t24) :38
  intro v25 w1 hb hs hv25
  subst hv25
  replace hP : chk x = 0 → ∃ g, p = .pointer (some ⟨g, 0, none⟩) ∧ MdlAt w1 g x := fun h => by obtain ⟨g, e, hM⟩ := hP h; exact ⟨g, e, hM.below hb⟩
  refine L_q rfl (y_move rfl) ?_  -- t23 := move t25
  refine L_q rfl (y_ext rfl rfl) ?_  -- t26 := extract t23 0
  refine L_q rfl (y_ext rfl rfl) ?_  -- t27 := extract t23 1
  refine L_q rfl (y_assign rfl) ?_  -- t9 := assign t26
  refine L_q rfl (y_assign rfl) ?_  -- t10 := assign t27
  refine L_nil ?_
  refine W_seq ?_
  refine W_region ?_
  refine L_q rfl (y_move rfl) ?_  -- t29 := move t1
  have hs30 := hs
  refine L_op rfl (o_call en_12 rfl hs (cal_Guesses_nil _ _) ?_)  -- t30 := CALL f12(nilptr, t29) :41
  intro v30 w1 hb hs hv30
  subst hv30
  replace hP : chk x = 0 → ∃ g, p = .pointer (some ⟨g, 0, none⟩) ∧ MdlAt w1 g x := fun h => by obtain ⟨g, e, hM⟩ := hP h; exact ⟨g, e, hM.below hb⟩
  refine L_q rfl (y_move rfl) ?_  -- t28 := move t30
  refine L_q rfl (y_ext rfl rfl) ?_  -- t31 := extract t28 0
  refine L_q rfl (y_ext rfl rfl) ?_  -- t32 := extract t28 1
  refine L_q rfl (y_assign rfl) ?_  -- t11 := assign t31
  refine L_q rfl (y_assign rfl) ?_  -- t12 := assign t32
  refine L_nil ?_
  refine W_seq ?_
  refine W_seq ?_
  refine W_region ?_
  refine L_q rfl (y_move rfl) ?_  -- t33 := move t5
  refine L_q rfl (y_not rfl) ?_  -- t34 := unOp not 4 t33
  refine L_q rfl (y_move rfl) ?_  -- t35 := move t34
  refine L_qg (gd_yes rfl rfl rfl) (y_move rfl) ?_  -- t36 := move t8 ?(2,false)
  refine L_qg (gd_yes rfl rfl rfl) (y_not rfl) ?_  -- t37 := unOp not 4 t36 ?(2,false)
  refine L_q rfl (y_por rfl rfl) ?_  -- t38 := pick t35 true t37
  refine L_q rfl (y_move rfl) ?_  -- t39 := move t38
  refine L_qg (gd_yes rfl rfl rfl) (y_move rfl) ?_  -- t40 := move t9 ?(6,false)
  refine L_qg (gd_yes rfl rfl rfl) (y_len u_36 rfl) ?_  -- t41 := len(t40) :3 ?(6,false)
  refine L_qg (gd_yes rfl rfl rfl) (y_move rfl) ?_  -- t42 := move t11 ?(6,false)
  refine L_qg (gd_yes rfl rfl rfl) (y_len u_40 rfl) ?_  -- t43 := len(t42) :3 ?(6,false)
  refine L_qg (gd_yes rfl rfl rfl) (y_addi rfl rfl (by decide) (by decide)) ?_  -- t44 := binOp add 3 t41 t43 3 ?(6,false)
  refine L_qg (gd_yes rfl rfl rfl) (y_gtr rfl rfl) ?_  -- t45 := binOp gtr 3 t44 0 3 ?(6,false)
  refine L_q rfl (y_por rfl rfl) ?_  -- t46 := pick t39 true t45
  refine L_q rfl (y_move rfl) ?_  -- t47 := move t46
  refine L_qg (gd_yes rfl rfl rfl) (y_move rfl) ?_  -- t48 := move t10 ?(14,false)
  refine L_qg (gd_yes rfl rfl rfl) (y_neq rfl rfl) ?_  -- t49 := binOp neq 37 t48 1 37 ?(14,false)
  refine L_q rfl (y_por rfl rfl) ?_  -- t50 := pick t47 true t49
  refine L_q rfl (y_move rfl) ?_  -- t51 := move t50
  refine L_qg (gd_yes rfl rfl rfl) (y_move rfl) ?_  -- t52 := move t12 ?(18,false)
  refine L_qg (gd_yes rfl rfl rfl) (y_move rfl) ?_  -- t53 := move t10 ?(18,false)
  refine L_qg (gd_yes rfl rfl rfl) (y_neq rfl rfl) ?_  -- t54 := binOp neq 37 t52 t53 37 ?(18,false)
  refine L_q rfl (y_por rfl rfl) ?_  -- t55 := pick t51 true t54
  refine L_nil ?_
  refine W_if rfl (fun hq1 => ?_) (fun hq1 => ?_)
  · skip
    refine W_seq ?_
    refine W_region ?_
    refine L_q rfl (y_assign rfl) ?_  -- t4 := assign false
    refine L_nil ?_
    refine W_ret ?_
    -- sep: g2
    refine ret_one rfl (.tmp (v := .bool false) rfl .nil) ⟨_, rfl, hs.below, ?_⟩
    cases hq1
  · skip
    refine W_skip ?_
    refine W_seq ?_
    refine W_seq ?_
    refine W_region ?_
    refine L_q rfl (y_move rfl) ?_  -- t56 := move t7
    refine L_q rfl (y_not rfl) ?_  -- t57 := unOp not 4 t56
    refine L_nil ?_
    refine W_if rfl (fun hq2 => ?_) (fun hq2 => ?_)
    · skip
      refine W_seq ?_
      refine W_region ?_
      refine L_q rfl (y_assign rfl) ?_  -- t4 := assign true
      refine L_nil ?_
      refine W_ret ?_
      -- sep: g2
      refine ret_one rfl (.tmp (v := .bool true) rfl .nil) ⟨_, rfl, hs.below, ?_⟩
      rfl
    · skip
      have hz : chk x = 0 := not_dec hq2
      refine Exists.elim (hP hz) fun g hg => ?_
      have hp := hg.1
      have hM := hg.2
      have hfit := (fits_emb (v := v) hz).1
      have hpos := (fits_emb (v := v) hz).2
      refine W_skip ?_
      refine W_seq ?_
      refine W_region ?_
      refine L_q rfl (y_assign rfl) ?_  -- t13 := assign 0
      refine L_nil ?_
      refine W_seq ?_
      refine W_seq ?_
      refine W_region ?_
      refine L_q rfl (y_move rfl) ?_  -- t58 := move t1
      refine L_q rfl (y_len u_24 rfl) ?_  -- t59 := len(t58) :3
      refine L_q rfl (y_fa fa_31_0 rfl) ?_  -- t60 := fieldAddr 31 t2 0
      refine L_q rfl (y_fa fa_23_1 rfl) ?_  -- t61 := fieldAddr 23 t60 1
      refine L_q rfl (y_fld r_3 rfl (rg_of_range (hs.rg 0 rfl 1 1 rfl))) ?_  -- t62 := load 3 t61
      refine L_q rfl (y_neq rfl rfl) ?_  -- t63 := binOp neq 3 t59 t62 3
      refine L_nil ?_
      refine W_if rfl (fun hq3 => ?_) (fun hq3 => ?_)
      · skip
        refine W_region ?_
        have hne : (v.length : Int) ≠ x.f0.f1 := of_decide_eq_true hq3
        rw [decide_eq_false hne] at hfit
        refine L_q rfl (y_assign rfl) ?_
        refine L_nil ?_
        refine W_seq ?_
        refine W_region ?_
        refine L_q rfl (y_of (y_move rfl) hp) ?_  -- t65 := move t6
        refine L_q rfl (y_move rfl) ?_  -- t66 := move t1
        have hs67 := hs
        refine L_op rfl (o_call en_11 rfl hs (cal_Logits _ g x V k v hM (hG.below hs.below) hz hnar (Kd.C_below hV hs.below)) ?_)  -- t67 := CALL f11(t65, t66) :38
        intro v67 w1 hb hs hv67
        replace hM := hM.below hb
        have e67 := hv67.1 hfit
        refine L_q rfl (y_of (y_move rfl) e67) ?_  -- t64 := move t67
        refine L_q rfl (y_ext rfl rfl) ?_  -- t68 := extract t64 0
        refine L_q rfl (y_ext rfl rfl) ?_  -- t69 := extract t64 1
        refine L_q rfl (y_assign rfl) ?_  -- t14 := assign t68
        refine L_q rfl (y_assign rfl) ?_  -- t10 := assign t69
        refine L_nil ?_
        refine W_seq ?_
        refine W_region ?_
        refine L_q rfl (y_of (y_move rfl) hp) ?_  -- t71 := move t6
        refine L_q rfl (y_move rfl) ?_  -- t72 := move t1
        have hs73 := hs
        refine L_op rfl (o_call en_12 rfl hs (cal_Guesses _ g x V k v hM (hG.below hs.below) hz hnar (Kd.C_below hV hs.below)) ?_)  -- t73 := CALL f12(t71, t72) :41
        intro v73 w1 hb hs hv73
        have e73 := hv73.1 hne
        refine L_q rfl (y_of (y_move rfl) e73) ?_  -- t70 := move t73
        refine L_q rfl (y_ext rfl rfl) ?_  -- t74 := extract t70 0
        refine L_q rfl (y_ext rfl rfl) ?_  -- t75 := extract t70 1
        refine L_q rfl (y_assign rfl) ?_  -- t15 := assign t74
        refine L_q rfl (y_assign rfl) ?_  -- t12 := assign t75
        refine L_nil ?_
        refine W_seq ?_
        refine W_region ?_
        refine L_q rfl (y_move rfl) ?_  -- t76 := move t10
        refine L_q rfl (y_move rfl) ?_  -- t77 := move t13
        refine L_q rfl (y_eql rfl rfl) ?_  -- t78 := binOp eql 37 t76 t77 37
        refine L_q rfl (y_move rfl) ?_  -- t79 := move t78
        refine L_qg (gd_yes rfl rfl rfl) (y_move rfl) ?_  -- t80 := move t12 ?(3,true)
        refine L_qg (gd_yes rfl rfl rfl) (y_move rfl) ?_  -- t81 := move t13 ?(3,true)
        refine L_qg (gd_yes rfl rfl rfl) (y_eql rfl rfl) ?_  -- t82 := binOp eql 37 t80 t81 37 ?(3,true)
        refine L_q rfl (y_pand rfl rfl) ?_  -- t83 := pick t79 t82 false
        refine L_q rfl (y_move rfl) ?_  -- t84 := move t83
        refine L_qg (gd_yes rfl rfl rfl) (y_move rfl) ?_  -- t85 := move t14 ?(8,true)
        refine L_qg (gd_yes rfl rfl rfl) (y_len u_36 rfl) ?_  -- t86 := len(t85) :3 ?(8,true)
        refine L_qg (gd_yes rfl rfl rfl) (y_gtr rfl rfl) ?_  -- t87 := binOp gtr 3 t86 0 3 ?(8,true)
        refine L_qg (gd_yes rfl rfl rfl) (y_move rfl) ?_  -- t88 := move t13 ?(8,true)
        refine L_qg (gd_yes rfl rfl rfl) (y_eql rfl rfl) ?_  -- t89 := binOp eql 37 t88 0 37 ?(8,true)
        refine L_qg (gd_yes rfl rfl rfl) (y_bin rfl rfl rfl (eql_4 ..)) ?_  -- t90 := binOp eql 4 t87 t89 4 ?(8,true)
        refine L_q rfl (y_pand rfl rfl) ?_  -- t91 := pick t84 t90 false
        refine L_q rfl (y_move rfl) ?_  -- t92 := move t91
        refine L_qg (gd_yes rfl rfl rfl) (y_move rfl) ?_  -- t93 := move t13 ?(16,true)
        refine L_qg (gd_yes rfl rfl rfl) (y_eql rfl rfl) ?_  -- t94 := binOp eql 37 t93 0 37 ?(16,true)
        refine L_qg (gd_yes rfl rfl rfl) (y_move rfl) ?_  -- t95 := move t94 ?(16,true)
        refine L_qg (gd_yes rfl rfl rfl) (y_move rfl) ?_  -- t96 := move t15 ?(19,false)
        refine L_qg (gd_yes rfl rfl rfl) (y_len u_40 rfl) ?_  -- t97 := len(t96) :3 ?(19,false)
        refine L_qg (gd_yes rfl rfl rfl) (y_eql rfl rfl) ?_  -- t98 := binOp eql 3 t97 0 3 ?(19,false)
        refine L_qg (gd_yes rfl rfl rfl) (y_por rfl rfl) ?_  -- t99 := pick t95 true t98 ?(16,true)
        refine L_q rfl (y_pand rfl rfl) ?_  -- t100 := pick t92 t99 false
        refine L_q rfl (y_assign rfl) ?_  -- t4 := assign t100
        refine L_nil ?_
        refine W_ret ?_
        -- sep: g2
        refine ret_one rfl (.tmp (v := .bool true) rfl .nil) ⟨_, rfl, hs.below, ?_⟩
        rfl
      · skip
        have heq : (v.length : Int) = x.f0.f1 := by have := of_decide_eq_false hq3; simpa using this
        rw [decide_eq_true heq] at hfit
        refine W_skip ?_
        refine W_seq ?_
        refine W_region ?_
        refine L_q rfl (y_of (y_move rfl) hp) ?_  -- t65 := move t6
        refine L_q rfl (y_move rfl) ?_  -- t66 := move t1
        have hs67 := hs
        refine L_op rfl (o_call en_11 rfl hs (cal_Logits _ g x V k v hM (hG.below hs.below) hz hnar (Kd.C_below hV hs.below)) ?_)  -- t67 := CALL f11(t65, t66) :38
        intro v67 w1 hb hs hv67
        replace hM := hM.below hb
        refine Exists.elim (log_row hv67 hfit) fun A67 h67 => Exists.elim h67 fun c67 e67 => ?_
        refine L_q rfl (y_of (y_move rfl) e67) ?_  -- t64 := move t67
        refine L_q rfl (y_ext rfl rfl) ?_  -- t68 := extract t64 0
        refine L_q rfl (y_ext rfl rfl) ?_  -- t69 := extract t64 1
        refine L_q rfl (y_assign rfl) ?_  -- t14 := assign t68
        refine L_q rfl (y_assign rfl) ?_  -- t10 := assign t69
        refine L_nil ?_
        refine W_seq ?_
        refine W_region ?_
        refine L_q rfl (y_of (y_move rfl) hp) ?_  -- t71 := move t6
        refine L_q rfl (y_move rfl) ?_  -- t72 := move t1
        have hs73 := hs
        refine L_op rfl (o_call en_12 rfl hs (cal_Guesses _ g x V k v hM (hG.below hs.below) hz hnar (Kd.C_below hV hs.below)) ?_)  -- t73 := CALL f12(t71, t72) :41
        intro v73 w1 hb hs hv73
        refine Exists.elim (gs_row hv73 heq) fun u73 e73 => ?_
        refine L_q rfl (y_of (y_move rfl) e73) ?_  -- t70 := move t73
        refine L_q rfl (y_ext rfl rfl) ?_  -- t74 := extract t70 0
        refine L_q rfl (y_ext rfl rfl) ?_  -- t75 := extract t70 1
        refine L_q rfl (y_assign rfl) ?_  -- t15 := assign t74
        refine L_q rfl (y_assign rfl) ?_  -- t12 := assign t75
        refine L_nil ?_
        refine W_seq ?_
        refine W_region ?_
        refine L_q rfl (y_move rfl) ?_  -- t76 := move t10
        refine L_q rfl (y_move rfl) ?_  -- t77 := move t13
        refine L_q rfl (y_eql rfl rfl) ?_  -- t78 := binOp eql 37 t76 t77 37
        refine L_q rfl (y_move rfl) ?_  -- t79 := move t78
        refine L_qg (gd_yes rfl rfl rfl) (y_move rfl) ?_  -- t80 := move t12 ?(3,true)
        refine L_qg (gd_yes rfl rfl rfl) (y_move rfl) ?_  -- t81 := move t13 ?(3,true)
        refine L_qg (gd_yes rfl rfl rfl) (y_eql rfl rfl) ?_  -- t82 := binOp eql 37 t80 t81 37 ?(3,true)
        refine L_q rfl (y_pand rfl rfl) ?_  -- t83 := pick t79 t82 false
        refine L_q rfl (y_move rfl) ?_  -- t84 := move t83
        refine L_qg (gd_yes rfl rfl rfl) (y_move rfl) ?_  -- t85 := move t14 ?(8,true)
        refine L_qg (gd_yes rfl rfl rfl) (y_len u_36 rfl) ?_  -- t86 := len(t85) :3 ?(8,true)
        refine L_qg (gd_yes rfl rfl rfl) (y_of (y_gtr rfl rfl) (congrArg Value.bool (decide_eq_true (show (0 : Int) < (mvOf x.f5 v).length by omega)))) ?_  -- t87 := binOp gtr 3 t86 0 3 ?(8,true)
        refine L_qg (gd_yes rfl rfl rfl) (y_move rfl) ?_  -- t88 := move t13 ?(8,true)
        refine L_qg (gd_yes rfl rfl rfl) (y_eql rfl rfl) ?_  -- t89 := binOp eql 37 t88 0 37 ?(8,true)
        refine L_qg (gd_yes rfl rfl rfl) (y_bin rfl rfl rfl (eql_4 ..)) ?_  -- t90 := binOp eql 4 t87 t89 4 ?(8,true)
        refine L_q rfl (y_pand rfl rfl) ?_  -- t91 := pick t84 t90 false
        refine L_q rfl (y_move rfl) ?_  -- t92 := move t91
        refine L_qg (gd_yes rfl rfl rfl) (y_move rfl) ?_  -- t93 := move t13 ?(16,true)
        refine L_qg (gd_yes rfl rfl rfl) (y_eql rfl rfl) ?_  -- t94 := binOp eql 37 t93 0 37 ?(16,true)
        refine L_qg (gd_yes rfl rfl rfl) (y_move rfl) ?_  -- t95 := move t94 ?(16,true)
        refine L_skip (gd_no rfl rfl rfl) ?_  -- t96 := move t15 ?(19,false)
        refine L_skip (gd_no rfl rfl rfl) ?_  -- t97 := len(t96) :3 ?(19,false)
        refine L_skip (gd_no rfl rfl rfl) ?_  -- t98 := binOp eql 3 t97 0 3 ?(19,false)
        refine L_qg (gd_yes rfl rfl rfl) (y_pick (b := true) rfl rfl) ?_  -- t99 := pick t95 true t98 ?(16,true)
        refine L_q rfl (y_pand rfl rfl) ?_  -- t100 := pick t92 t99 false
        refine L_q rfl (y_assign rfl) ?_  -- t4 := assign t100
        refine L_nil ?_
        refine W_ret ?_
        -- sep: g2
        refine ret_one rfl (.tmp (v := .bool true) rfl .nil) ⟨_, rfl, hs.below, ?_⟩
        rfl
end Go.Proofs.YtlmddncoeikfjaaDoor
