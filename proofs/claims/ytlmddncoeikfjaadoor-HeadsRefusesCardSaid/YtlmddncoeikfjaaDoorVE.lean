/- Walks: matrices and gains, as the program checks them. -/
import Derived.Test.YtlmddncoeikfjaaDoorVD
namespace Go.Proofs.YtlmddncoeikfjaaDoor
open Go.RowKit Go.Proofs.YtlmddncoeikfjaaDoorW.PrintWords
set_option maxRecDepth 100000
set_option maxHeartbeats 400000

/-- Whole numbers of 8 bits. -/
def nar (l : List Int) : Prop := ∀ y ∈ l, -128 ≤ y
theorem nar_rd {l : List Int} (h : nar l) {i : Int} (h0 : 0 ≤ i) (h1 : i < l.length) : -128 ≤ rd l i := by
  rw [rd_get h0 h1]
  exact h _ (List.getElem_mem _)
theorem cal_tensor_Check (w0 : World) (x : SM) (cs : List Value) (hx : kM.K w0 x cs) (hnar : nar x.f2) : Cal Tryd.prog 57 #[.agg cs.toArray] w0 fun v w1 => Below w0.heap.size w0 w1 ∧ v = .int .i64 (er (okMat x) 30) := by
  obtain ⟨A, c, rfl, hl, hC⟩ := kM_open hx
  have hlen : x.f2.length ≤ 9223372036854775807 := by have := hC.2.1; simpa using this
  refine cal_W (n := 43) Tryd.func57 rfl rfl (by simp) ?_
  have hs := Sep.refl w0
  refine W_seq ?_
  refine W_region ?_
  refine L_op rfl (o_box (cs := [_, _, _]) rfl rfl hs ?_)  -- t1 := box 26 t0
  intro g1 w1 hs
  refine L_q rfl (y_assign rfl) ?_  -- t2 := assign 0
  refine L_nil ?_
  refine W_seq ?_
  refine W_seq ?_
  refine W_draw rfl (fun w' => w' = w1.drew) ?_
  replace hs := hs.drew
  refine H_q (i := 0) rfl (by kernel_rfl) rfl (fun _ hw => by subst hw; exact (y_fa fa_26_0 rfl)) rfl ?_  -- t5 := fieldAddr 26 t1 0
  refine H_q (i := 1) rfl (by kernel_rfl) rfl (fun _ hw => by subst hw; exact (y_fld r_3 rfl (rg_of_range (hs.rg 0 rfl 0 1 rfl)))) rfl ?_  -- t6 := load 3 t5
  refine H_q (i := 2) rfl (by kernel_rfl) rfl (fun _ hw => by subst hw; exact (y_lss rfl rfl)) rfl ?_  -- t7 := binOp lss 3 t6 1 3
  refine H_q (i := 3) rfl (by kernel_rfl) rfl (fun _ hw => by subst hw; exact (y_move rfl)) rfl ?_  -- t8 := move t7
  refine H_qif (i := 4) rfl (by kernel_rfl) rfl rfl rfl (fun _ hw hc => by subst hw; exact (y_fa fa_26_1 rfl)) rfl ?_  -- t9 := fieldAddr 26 t1 1 ?(3,false)
  refine H_qif (i := 5) rfl (by kernel_rfl) rfl rfl rfl (fun _ hw hc => by subst hw; exact (y_fld r_3 (gv_yes hc) (rg_of_range (hs.rg 0 rfl 1 1 rfl)))) rfl ?_  -- t10 := load 3 t9 ?(3,false)
  refine H_qif (i := 6) rfl (by kernel_rfl) rfl rfl rfl (fun _ hw hc => by subst hw; exact (y_lss (gv_yes hc) rfl)) rfl ?_  -- t11 := binOp lss 3 t10 1 3 ?(3,false)
  refine H_q (i := 7) rfl (by kernel_rfl) rfl (fun _ hw => by subst hw; exact (y_por rfl rfl)) rfl ?_  -- t12 := pick t8 true t11
  refine H_q (i := 8) rfl (by kernel_rfl) rfl (fun _ hw => by subst hw; exact (y_move rfl)) rfl ?_  -- t13 := move t12
  refine H_qif (i := 9) rfl (by kernel_rfl) rfl rfl rfl (fun _ hw hc => by subst hw; exact (y_fa fa_26_2 rfl)) rfl ?_  -- t14 := fieldAddr 26 t1 2 ?(8,false)
  refine H_qif (i := 10) rfl (by kernel_rfl) rfl rfl rfl (fun _ hw hc => by subst hw; exact (y_fld r_24 (gv_yes hc) (rg_of_range (hs.rg 0 rfl 2 1 rfl)))) rfl ?_  -- t15 := load 24 t14 ?(8,false)
  refine H_qif (i := 11) rfl (by kernel_rfl) rfl rfl rfl (fun _ hw hc => by subst hw; exact (y_len u_24 (gv_yes hc))) rfl ?_  -- t16 := len(t15) :3 ?(8,false)
  refine H_qif (i := 12) rfl (by kernel_rfl) rfl rfl rfl (fun _ hw hc => by subst hw; exact (y_fa fa_26_1 rfl)) rfl ?_  -- t17 := fieldAddr 26 t1 1 ?(8,false)
  refine H_qif (i := 13) rfl (by kernel_rfl) rfl rfl rfl (fun _ hw hc => by subst hw; exact (y_fld r_3 (gv_yes hc) (rg_of_range (hs.rg 0 rfl 1 1 rfl)))) rfl ?_  -- t18 := load 3 t17 ?(8,false)
  refine H_qif (i := 14) rfl (by kernel_rfl) rfl rfl rfl (fun _ hw hc => by subst hw; exact (y_rem (gv_yes hc) (gv_yes hc) (by simp at hc; omega))) rfl ?_  -- t19 := binOp rem 3 t16 t18 3 ?(8,false)
  refine H_qif (i := 15) rfl (by kernel_rfl) rfl rfl rfl (fun _ hw hc => by subst hw; exact (y_neq (gv_yes hc) rfl)) rfl ?_  -- t20 := binOp neq 3 t19 0 3 ?(8,false)
  refine H_q (i := 16) rfl (by kernel_rfl) rfl (fun _ hw => by subst hw; exact (y_por rfl rfl)) rfl ?_  -- t21 := pick t13 true t20
  refine H_q (i := 17) rfl (by kernel_rfl) rfl (fun _ hw => by subst hw; exact (y_move rfl)) rfl ?_  -- t22 := move t21
  refine H_qif (i := 18) rfl (by kernel_rfl) rfl rfl rfl (fun _ hw hc => by subst hw; exact (y_fa fa_26_2 rfl)) rfl ?_  -- t23 := fieldAddr 26 t1 2 ?(17,false)
  refine H_qif (i := 19) rfl (by kernel_rfl) rfl rfl rfl (fun _ hw hc => by subst hw; exact (y_fld r_24 (gv_yes hc) (rg_of_range (hs.rg 0 rfl 2 1 rfl)))) rfl ?_  -- t24 := load 24 t23 ?(17,false)
  refine H_qif (i := 20) rfl (by kernel_rfl) rfl rfl rfl (fun _ hw hc => by subst hw; exact (y_len u_24 (gv_yes hc))) rfl ?_  -- t25 := len(t24) :3 ?(17,false)
  refine H_qif (i := 21) rfl (by kernel_rfl) rfl rfl rfl (fun _ hw hc => by subst hw; exact (y_fa fa_26_1 rfl)) rfl ?_  -- t26 := fieldAddr 26 t1 1 ?(17,false)
  refine H_qif (i := 22) rfl (by kernel_rfl) rfl rfl rfl (fun _ hw hc => by subst hw; exact (y_fld r_3 (gv_yes hc) (rg_of_range (hs.rg 0 rfl 1 1 rfl)))) rfl ?_  -- t27 := load 3 t26 ?(17,false)
  refine H_qif (i := 23) rfl (by kernel_rfl) rfl rfl rfl (fun _ hw hc => by subst hw; exact (y_quo (gv_yes hc) (gv_yes hc) (by simp at hc; omega))) rfl ?_  -- t28 := binOp quo 3 t25 t27 3 ?(17,false)
  refine H_qif (i := 24) rfl (by kernel_rfl) rfl rfl rfl (fun _ hw hc => by subst hw; exact (y_fa fa_26_0 rfl)) rfl ?_  -- t29 := fieldAddr 26 t1 0 ?(17,false)
  refine H_qif (i := 25) rfl (by kernel_rfl) rfl rfl rfl (fun _ hw hc => by subst hw; exact (y_fld r_3 (gv_yes hc) (rg_of_range (hs.rg 0 rfl 0 1 rfl)))) rfl ?_  -- t30 := load 3 t29 ?(17,false)
  refine H_qif (i := 26) rfl (by kernel_rfl) rfl rfl rfl (fun _ hw hc => by subst hw; exact (y_neq (gv_yes hc) (gv_yes hc))) rfl ?_  -- t31 := binOp neq 3 t28 t30 3 ?(17,false)
  refine H_q (i := 27) rfl (by kernel_rfl) rfl (fun _ hw => by subst hw; exact (y_por rfl rfl)) rfl ?_  -- t32 := pick t22 true t31
  refine H_done (by kernel_rfl) ?_
  refine W_if rfl (fun hb => ?_) (fun hb => ?_)
  · skip
    refine W_seq ?_
    refine W_region ?_
    refine L_q rfl (y_assign rfl) ?_  -- t2 := assign 30
    refine L_nil ?_
    refine W_ret ?_
    -- sep: g1
    refine ret_one rfl (.tmp (v := .int .i64 30) rfl .nil) ⟨_, rfl, hs.below, ?_⟩
    have : okShape x = false := by rw [okShape, hb]; rfl
    simp [er, okMat, this]
  · skip
    have hsh : okShape x = true := by rw [okShape, hb]; rfl
    refine W_skip ?_
    refine W_seq ?_
    refine W_seq ?_
    refine W_region ?_
    refine L_q rfl (y_fa fa_26_2 rfl) ?_  -- t33 := fieldAddr 26 t1 2
    refine L_q rfl (y_fld r_24 rfl (rg_of_range (hs.rg 0 rfl 2 1 rfl))) ?_  -- t34 := load 24 t33
    refine L_q rfl (y_len u_24 rfl) ?_  -- t35 := len(t34) :3
    refine L_q rfl (y_move rfl) ?_  -- t36 := move 0
    refine L_nil ?_
    refine W_block ?_
    refine W_loop (fun m f w1 => ∃ i : Int, 0 ≤ i ∧ i ≤ x.f2.length ∧ m = (x.f2.length - i).toNat ∧ (x.f2.take i.toNat).all (fun y => decide (y ≠ -128)) = true ∧ sl f 34 = .slice A x.f2.length c ∧ sl f 35 = .int .i64 x.f2.length ∧ sl f 36 = .int .i64 i ∧ Sep w0 w1 [blk g1 26 [.int .i64 x.f0, .int .i64 x.f1, .slice A x.f2.length c]]) ((x.f2.length : Int) - 0).toNat ?_ ?_
    · exact ⟨0, by omega, by omega, rfl, rfl, rfl, rfl, rfl, hs⟩
    rintro m f w1 ⟨i, hi0, hi1, rfl, ha, h34, h35, h36, hs⟩
    refine W_seq ?_
    refine W_region ?_
    refine L_q rfl (y_lss h36 h35) ?_  -- t37 := binOp lss 3 t36 t35 3
    refine L_nil ?_
    refine W_seq ?_
    refine W_if rfl (fun hb => ?_) (fun hb => ?_)
    · skip
      have hlt : i < x.f2.length := of_decide_eq_true hb
      obtain ⟨ad, rfl, hrg⟩ := Kd.C_int (Kd.C_below hC hs.below) i hi0 hlt
      have hn := nar_rd hnar hi0 hlt
      refine W_skip ?_
      refine W_seq ?_
      refine W_block ?_
      refine W_seq ?_
      refine W_region ?_
      refine L_q rfl (y_ia u_24 sz_63 h34 h36 (by omega) (by omega)) ?_  -- t38 := indexAddr 24 t34 t36
      refine L_q rfl (y_fld r_63 rfl hrg) ?_  -- t39 := load 63 t38
      refine L_q rfl (y_assign rfl) ?_  -- t4 := assign t39
      refine L_nil ?_
      refine W_seq ?_
      refine W_region ?_
      refine L_q rfl (y_move rfl) ?_  -- t40 := move t4
      refine L_q rfl (y_lss rfl rfl) ?_  -- t41 := binOp lss 63 t40 -127:i8 63
      refine L_nil ?_
      refine W_if rfl (fun hb => ?_) (fun hb => ?_)
      · skip
        refine W_seq ?_
        refine W_region ?_
        refine L_q rfl (y_assign rfl) ?_  -- t2 := assign 30
        refine L_nil ?_
        refine W_ret ?_
        -- sep: g1
        refine ret_one rfl (.tmp (v := .int .i64 30) rfl .nil) ⟨_, rfl, hs.below, ?_⟩
        have := all_not (p := fun y => decide (y ≠ -128)) hi0 hlt (by have := of_decide_eq_true hb; simp; omega)
        rw [okMat, this, Bool.and_false]
        rfl
      · skip
        refine W_skip ?_
        refine W_region ?_
        refine L_q rfl (y_addi h36 rfl (by omega) (by omega)) ?_  -- t42 := binOp add 3 t36 1 3
        refine L_q rfl (y_move rfl) ?_  -- t36 := move t42
        refine L_nil ?_
        exact ⟨_, by omega, i + 1, by omega, by omega, rfl, all_step hi0 hlt ha (by have := of_decide_eq_false hb; simp; omega), h34, h35, rfl, hs⟩
    · skip
      refine W_exit ?_
      refine x_hit ?_
      refine W_seq ?_
      refine W_region ?_
      refine L_q rfl (y_assign rfl) ?_  -- t2 := assign 0
      refine L_nil ?_
      refine W_ret ?_
      -- sep: g1
      refine ret_one rfl (.tmp (v := .int .i64 0) rfl .nil) ⟨_, rfl, hs.below, ?_⟩
      have := all_end (p := fun y => decide (y ≠ -128)) ha (by have := of_decide_eq_false hb; omega)
      simp only [er, okMat, this, hsh, Bool.and_self, cond_true]

theorem cal_model_within (w0 : World) (n lo hi : Int) : Cal Tryd.prog 79 #[.int .i64 n, .int .i64 lo, .int .i64 hi] w0 fun v w1 => Below w0.heap.size w0 w1 ∧ v = .bool (decide (lo ≤ n) && decide (n ≤ hi)) := by
  refine cal_W (n := 15) Tryd.func79 rfl rfl (by simp) ?_
  have hs := Sep.refl w0
  refine W_seq ?_
  refine W_region ?_
  refine L_q rfl (y_assign rfl) ?_  -- t6 := assign false
  refine L_nil ?_
  refine W_seq ?_
  refine W_region ?_
  refine L_q rfl (y_move rfl) ?_  -- t7 := move t0
  refine L_q rfl (y_move rfl) ?_  -- t8 := move t1
  refine L_q rfl (y_geq rfl rfl) ?_  -- t9 := binOp geq 3 t7 t8 3
  refine L_q rfl (y_move rfl) ?_  -- t10 := move t9
  refine L_qif rfl rfl rfl (fun hc => (y_move rfl)) ?_  -- t11 := move t0 ?(3,true)
  refine L_qif rfl rfl rfl (fun hc => (y_move rfl)) ?_  -- t12 := move t2 ?(3,true)
  refine L_qif rfl rfl rfl (fun hc => (y_leq (gv_yes hc) (gv_yes hc))) ?_  -- t13 := binOp leq 3 t11 t12 3 ?(3,true)
  refine L_q rfl (y_pand rfl rfl) ?_  -- t14 := pick t10 t13 false
  refine L_q rfl (y_assign rfl) ?_  -- t6 := assign t14
  refine L_nil ?_
  refine W_ret ?_
  -- sep: 
  refine ret_one rfl (.tmp (v := .bool (decide (lo ≤ n) && decide (n ≤ hi))) rfl .nil) ⟨_, rfl, hs.below, ?_⟩
  rfl

theorem cal_model_shaped (w0 : World) (x : SM) (cs : List Value) (r c : Int) (hx : kM.K w0 x cs) (hnar : nar x.f2) : Cal Tryd.prog 68 #[.agg cs.toArray, .int .i64 r, .int .i64 c] w0 fun v w1 => Below w0.heap.size w0 w1 ∧ v = .bool (isMat x r c) := by
  obtain ⟨A, k, rfl, hl, hC⟩ := kM_open hx
  refine cal_W (n := 22) Tryd.func68 rfl rfl (by simp) ?_
  have hs := Sep.refl w0
  refine W_seq ?_
  refine W_region ?_
  refine L_op rfl (o_box (cs := [_, _, _]) rfl rfl hs ?_)  -- t3 := box 26 t0
  intro g3 w1 hs
  refine L_q rfl (y_assign rfl) ?_  -- t6 := assign false
  refine L_nil ?_
  refine W_seq ?_
  refine W_region ?_
  refine L_q rfl (y_fa fa_26_0 rfl) ?_  -- t7 := fieldAddr 26 t3 0
  refine L_q rfl (y_fld r_3 rfl (rg_of_range (hs.rg 0 rfl 0 1 rfl))) ?_  -- t8 := load 3 t7
  refine L_q rfl (y_move rfl) ?_  -- t9 := move t1
  refine L_q rfl (y_eql rfl rfl) ?_  -- t10 := binOp eql 3 t8 t9 3
  refine L_q rfl (y_move rfl) ?_  -- t11 := move t10
  refine L_qif rfl rfl rfl (fun hc => (y_fa fa_26_1 rfl)) ?_  -- t12 := fieldAddr 26 t3 1 ?(4,true)
  refine L_qif rfl rfl rfl (fun hc => (y_fld r_3 (gv_yes hc) (rg_of_range (hs.rg 0 rfl 1 1 rfl)))) ?_  -- t13 := load 3 t12 ?(4,true)
  refine L_qif rfl rfl rfl (fun hc => (y_move rfl)) ?_  -- t14 := move t2 ?(4,true)
  refine L_qif rfl rfl rfl (fun hc => (y_eql (gv_yes hc) (gv_yes hc))) ?_  -- t15 := binOp eql 3 t13 t14 3 ?(4,true)
  refine L_q rfl (y_pand rfl rfl) ?_  -- t16 := pick t11 t15 false
  refine L_q rfl (y_move rfl) ?_  -- t17 := move t16
  refine L_qif rfl rfl rfl (fun hc => (y_fls (cs := [_, _, _]) r_26 sz_26 rfl (rg_of_range (hs.rg 0 rfl 0 3 rfl)))) ?_  -- t18 := load 26 t3 ?(10,true)
  refine L_callif rfl rfl en_57 (fun hc => args1 (gv_yes hc)) hs (fun hc => cal_tensor_Check _ x _ (kM.K_below hs.below hx) hnar) ?_  -- t19 := CALL f57(t18) :37 ?(10,true)
  intro v19 w1 hb hs hv19
  refine L_qif rfl rfl rfl (fun hc => (y_eql (hv19.trans (gv_yes hc)) rfl)) ?_  -- t20 := binOp eql 37 t19 0 37 ?(10,true)
  refine L_q rfl (y_pand rfl rfl) ?_  -- t21 := pick t17 t20 false
  refine L_q rfl (y_assign rfl) ?_  -- t6 := assign t21
  refine L_nil ?_
  refine W_ret ?_
  -- sep: g3
  refine ret_one rfl (.tmp (v := .bool ((decide (x.f0 = r) && decide (x.f1 = c)) && decide (er (okMat x) 30 = 0))) rfl .nil) ⟨_, rfl, hs.below, ?_⟩
  cases h : okMat x <;> simp [isMat, er, h]

theorem cal_model_gains (w0 : World) (A : Option Addr) (c : Nat) (l : List Int) (n : Int) (hC : (Kd.int .i8).C w0 A l.length l) : Cal Tryd.prog 69 #[.slice A l.length c, .int .i64 n] w0 fun v w1 => Below w0.heap.size w0 w1 ∧ v = .bool (gainsOf l n) := by
  have hlen : l.length ≤ 9223372036854775807 := by have := hC.2.1; simpa using this
  refine cal_W (n := 20) Tryd.func69 rfl rfl (by simp) ?_
  have hs := Sep.refl w0
  refine W_seq ?_
  refine W_region ?_
  refine L_q rfl (y_assign rfl) ?_  -- t4 := assign false
  refine L_nil ?_
  refine W_seq ?_
  refine W_seq ?_
  refine W_region ?_
  refine L_q rfl (y_move rfl) ?_  -- t7 := move t0
  refine L_q rfl (y_len u_24 rfl) ?_  -- t8 := len(t7) :3
  refine L_q rfl (y_move rfl) ?_  -- t9 := move 0
  refine L_nil ?_
  refine W_block ?_
  refine W_loop (fun m f w1 => ∃ i : Int, 0 ≤ i ∧ i ≤ l.length ∧ m = (l.length - i).toNat ∧ (l.take i.toNat).all (fun y => decide (y ≠ -128)) = true ∧ sl f 0 = .slice A l.length c ∧ sl f 1 = .int .i64 n ∧ sl f 7 = .slice A l.length c ∧ sl f 8 = .int .i64 l.length ∧ sl f 9 = .int .i64 i ∧ Sep w0 w1 []) ((l.length : Int) - 0).toNat ?_ ?_
  · exact ⟨0, by omega, by omega, rfl, rfl, rfl, rfl, rfl, rfl, rfl, hs⟩
  rintro m f w1 ⟨i, hi0, hi1, rfl, ha, h0, h1, h7, h8, h9, hs⟩
  refine W_seq ?_
  refine W_region ?_
  refine L_q rfl (y_lss h9 h8) ?_  -- t10 := binOp lss 3 t9 t8 3
  refine L_nil ?_
  refine W_seq ?_
  refine W_if rfl (fun hb => ?_) (fun hb => ?_)
  · skip
    have hlt : i < l.length := of_decide_eq_true hb
    obtain ⟨ad, rfl, hrg⟩ := Kd.C_int (Kd.C_below hC hs.below) i hi0 hlt
    refine W_skip ?_
    refine W_seq ?_
    refine W_block ?_
    refine W_seq ?_
    refine W_region ?_
    refine L_q rfl (y_ia u_24 sz_63 h7 h9 (by omega) (by omega)) ?_  -- t11 := indexAddr 24 t7 t9
    refine L_q rfl (y_fld r_63 rfl hrg) ?_  -- t12 := load 63 t11
    refine L_q rfl (y_assign rfl) ?_  -- t6 := assign t12
    refine L_nil ?_
    refine W_seq ?_
    refine W_region ?_
    refine L_q rfl (y_move rfl) ?_  -- t13 := move t6
    refine L_q rfl (y_eql rfl rfl) ?_  -- t14 := binOp eql 63 t13 -128:i8 63
    refine L_nil ?_
    refine W_if rfl (fun hb => ?_) (fun hb => ?_)
    · skip
      refine W_seq ?_
      refine W_region ?_
      refine L_q rfl (y_assign rfl) ?_  -- t4 := assign false
      refine L_nil ?_
      refine W_ret ?_
      -- sep: 
      refine ret_one rfl (.tmp (v := .bool false) rfl .nil) ⟨_, rfl, hs.below, ?_⟩
      rw [gainsOf, all_not (p := fun y => decide (y ≠ -128)) hi0 hlt (by simpa using hb), Bool.and_false]
    · skip
      refine W_skip ?_
      refine W_region ?_
      refine L_q rfl (y_addi h9 rfl (by omega) (by omega)) ?_  -- t15 := binOp add 3 t9 1 3
      refine L_q rfl (y_move rfl) ?_  -- t9 := move t15
      refine L_nil ?_
      exact ⟨_, by omega, i + 1, by omega, by omega, rfl, all_step hi0 hlt ha (by simpa using hb), h0, h1, h7, h8, rfl, hs⟩
  · skip
    refine W_exit ?_
    refine x_hit ?_
    refine W_seq ?_
    refine W_region ?_
    refine L_q rfl (y_move h0) ?_  -- t16 := move t0
    refine L_q rfl (y_len u_24 rfl) ?_  -- t17 := len(t16) :3
    refine L_q rfl (y_move h1) ?_  -- t18 := move t1
    refine L_q rfl (y_eql rfl rfl) ?_  -- t19 := binOp eql 3 t17 t18 3
    refine L_q rfl (y_assign rfl) ?_  -- t4 := assign t19
    refine L_nil ?_
    refine W_ret ?_
    -- sep: 
    refine ret_one rfl (.tmp (v := .bool (decide ((l.length : Int) = n))) rfl .nil) ⟨_, rfl, hs.below, ?_⟩
    rw [gainsOf, all_end (p := fun y => decide (y ≠ -128)) ha (by have := of_decide_eq_false hb; omega), Bool.and_true]
end Go.Proofs.YtlmddncoeikfjaaDoor
