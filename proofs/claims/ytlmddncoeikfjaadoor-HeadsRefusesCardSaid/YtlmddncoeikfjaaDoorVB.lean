/- Walks: measures, turns and layers, as the document's answer checks them. -/
import Derived.Test.YtlmddncoeikfjaaDoorVA
namespace Go.Proofs.YtlmddncoeikfjaaDoor
open Go.RowKit Go.Proofs.YtlmddncoeikfjaaDoorW.PrintWords
set_option maxRecDepth 100000
set_option maxHeartbeats 400000

/-- May a model be so? -/
def cfgOK (x : SC) : Bool := decide (2 ≤ x.f0 ∧ x.f0 ≤ 64 ∧ 2 ≤ x.f1 ∧ x.f1 ≤ 32 ∧ 1 ≤ x.f2 ∧ x.f2 ≤ 4 ∧ x.f1.tmod (2 * x.f2) = 0 ∧ 1 ≤ x.f3 ∧ x.f3 ≤ x.f2 ∧ x.f2.tmod x.f3 = 0 ∧ 1 ≤ x.f4 ∧ x.f4 ≤ 4 ∧ 1 ≤ x.f5 ∧ x.f5 ≤ 64 ∧ 1 ≤ x.f6 ∧ x.f6 ≤ 64 ∧ 0 ≤ x.f7 ∧ x.f7 ≤ 4)
theorem er_no {b : Bool} {e : Int} (h : b = false) : Value.int .i64 e = .int .i64 (er b e) := by subst h; rfl
theorem er_yes {b : Bool} {e : Int} (h : b = true) : Value.int .i64 0 = .int .i64 (er b e) := by subst h; rfl
theorem cal_ref04_CheckConfig (w0 : World) (x : SC) (cs : List Value) (hx : kC.K w0 x cs) : Cal Tryd.prog 46 #[.agg cs.toArray] w0 fun v w1 => Below w0.heap.size w0 w1 ∧ v = .int .i64 (er (cfgOK x) 40) := by
  obtain rfl := kC_open hx
  refine cal_W (n := 92) Tryd.func46 rfl rfl (by simp) ?_
  have hs := Sep.refl w0
  refine W_seq ?_
  refine W_region ?_
  refine L_op rfl (o_box (cs := [_, _, _, _, _, _, _, _]) rfl rfl hs ?_)  -- t1 := box 23 t0
  intro g1 w1 hs
  refine L_q rfl (y_assign rfl) ?_  -- t2 := assign 0
  refine L_nil ?_
  refine W_seq ?_
  refine W_seq ?_
  refine W_region ?_
  refine L_q rfl (y_fa fa_23_0 rfl) ?_  -- t3 := fieldAddr 23 t1 0
  refine L_q rfl (y_fld r_3 rfl (rg_of_range (hs.rg 0 rfl 0 1 rfl))) ?_  -- t4 := load 3 t3
  refine L_q rfl (y_lss rfl rfl) ?_  -- t5 := binOp lss 3 t4 2 3
  refine L_q rfl (y_move rfl) ?_  -- t6 := move t5
  refine L_qif rfl rfl rfl (fun hc => (y_fa fa_23_0 rfl)) ?_  -- t7 := fieldAddr 23 t1 0 ?(3,false)
  refine L_qif rfl rfl rfl (fun hc => (y_fld r_3 (gv_yes hc) (rg_of_range (hs.rg 0 rfl 0 1 rfl)))) ?_  -- t8 := load 3 t7 ?(3,false)
  refine L_qif rfl rfl rfl (fun hc => (y_gtr (gv_yes hc) rfl)) ?_  -- t9 := binOp gtr 3 t8 64 3 ?(3,false)
  refine L_q rfl (y_por rfl rfl) ?_  -- t10 := pick t6 true t9
  refine L_q rfl (y_move rfl) ?_  -- t11 := move t10
  refine L_qif rfl rfl rfl (fun hc => (y_fa fa_23_1 rfl)) ?_  -- t12 := fieldAddr 23 t1 1 ?(8,false)
  refine L_qif rfl rfl rfl (fun hc => (y_fld r_3 (gv_yes hc) (rg_of_range (hs.rg 0 rfl 1 1 rfl)))) ?_  -- t13 := load 3 t12 ?(8,false)
  refine L_qif rfl rfl rfl (fun hc => (y_lss (gv_yes hc) rfl)) ?_  -- t14 := binOp lss 3 t13 2 3 ?(8,false)
  refine L_q rfl (y_por rfl rfl) ?_  -- t15 := pick t11 true t14
  refine L_q rfl (y_move rfl) ?_  -- t16 := move t15
  refine L_qif rfl rfl rfl (fun hc => (y_fa fa_23_1 rfl)) ?_  -- t17 := fieldAddr 23 t1 1 ?(13,false)
  refine L_qif rfl rfl rfl (fun hc => (y_fld r_3 (gv_yes hc) (rg_of_range (hs.rg 0 rfl 1 1 rfl)))) ?_  -- t18 := load 3 t17 ?(13,false)
  refine L_qif rfl rfl rfl (fun hc => (y_gtr (gv_yes hc) rfl)) ?_  -- t19 := binOp gtr 3 t18 32 3 ?(13,false)
  refine L_q rfl (y_por rfl rfl) ?_  -- t20 := pick t16 true t19
  refine L_nil ?_
  refine W_if rfl (fun hb => ?_) (fun hb => ?_)
  · skip
    refine W_seq ?_
    refine W_region ?_
    refine L_q rfl (y_assign rfl) ?_  -- t2 := assign 40
    refine L_nil ?_
    refine W_ret ?_
    -- sep: g1
    refine ret_one rfl (.tmp (v := .int .i64 40) rfl .nil) ⟨_, rfl, hs.below, ?_⟩
    exact er_no (decide_eq_false (by simp at hb; omega))
  · skip
    have h1 : 2 ≤ x.f0 ∧ x.f0 ≤ 64 ∧ 2 ≤ x.f1 ∧ x.f1 ≤ 32 := by simp at hb; omega
    refine W_skip ?_
    refine W_seq ?_
    refine W_seq ?_
    refine W_region ?_
    refine L_q rfl (y_fa fa_23_2 rfl) ?_  -- t21 := fieldAddr 23 t1 2
    refine L_q rfl (y_fld r_3 rfl (rg_of_range (hs.rg 0 rfl 2 1 rfl))) ?_  -- t22 := load 3 t21
    refine L_q rfl (y_lss rfl rfl) ?_  -- t23 := binOp lss 3 t22 1 3
    refine L_q rfl (y_move rfl) ?_  -- t24 := move t23
    refine L_qif rfl rfl rfl (fun hc => (y_fa fa_23_2 rfl)) ?_  -- t25 := fieldAddr 23 t1 2 ?(3,false)
    refine L_qif rfl rfl rfl (fun hc => (y_fld r_3 (gv_yes hc) (rg_of_range (hs.rg 0 rfl 2 1 rfl)))) ?_  -- t26 := load 3 t25 ?(3,false)
    refine L_qif rfl rfl rfl (fun hc => (y_gtr (gv_yes hc) rfl)) ?_  -- t27 := binOp gtr 3 t26 4 3 ?(3,false)
    refine L_q rfl (y_por rfl rfl) ?_  -- t28 := pick t24 true t27
    refine L_q rfl (y_move rfl) ?_  -- t29 := move t28
    refine L_qif rfl rfl rfl (fun hc => (y_fa fa_23_1 rfl)) ?_  -- t30 := fieldAddr 23 t1 1 ?(8,false)
    refine L_qif rfl rfl rfl (fun hc => (y_fld r_3 (gv_yes hc) (rg_of_range (hs.rg 0 rfl 1 1 rfl)))) ?_  -- t31 := load 3 t30 ?(8,false)
    refine L_qif rfl rfl rfl (fun hc => (y_fa fa_23_2 rfl)) ?_  -- t32 := fieldAddr 23 t1 2 ?(8,false)
    refine L_qif rfl rfl rfl (fun hc => (y_fld r_3 (gv_yes hc) (rg_of_range (hs.rg 0 rfl 2 1 rfl)))) ?_  -- t33 := load 3 t32 ?(8,false)
    refine L_qif rfl rfl rfl (fun hc => (y_muli rfl (gv_yes hc) rfl (by simp at hc; omega) (by simp at hc; omega))) ?_  -- t34 := binOp mul 3 2 t33 3 ?(8,false)
    refine L_qif rfl rfl rfl (fun hc => (y_rem (gv_yes hc) (gv_yes hc) (by simp at hc; omega))) ?_  -- t35 := binOp rem 3 t31 t34 3 ?(8,false)
    refine L_qif rfl rfl rfl (fun hc => (y_neq (gv_yes hc) rfl)) ?_  -- t36 := binOp neq 3 t35 0 3 ?(8,false)
    refine L_q rfl (y_por rfl rfl) ?_  -- t37 := pick t29 true t36
    refine L_nil ?_
    refine W_if rfl (fun hb => ?_) (fun hb => ?_)
    · skip
      refine W_seq ?_
      refine W_region ?_
      refine L_q rfl (y_assign rfl) ?_  -- t2 := assign 40
      refine L_nil ?_
      refine W_ret ?_
      -- sep: g1
      refine ret_one rfl (.tmp (v := .int .i64 40) rfl .nil) ⟨_, rfl, hs.below, ?_⟩
      exact er_no (decide_eq_false (by simp at hb; omega))
    · skip
      have h2 : 1 ≤ x.f2 ∧ x.f2 ≤ 4 ∧ x.f1.tmod (2 * x.f2) = 0 := by simp at hb; omega
      refine W_skip ?_
      refine W_seq ?_
      refine W_seq ?_
      refine W_region ?_
      refine L_q rfl (y_fa fa_23_3 rfl) ?_  -- t38 := fieldAddr 23 t1 3
      refine L_q rfl (y_fld r_3 rfl (rg_of_range (hs.rg 0 rfl 3 1 rfl))) ?_  -- t39 := load 3 t38
      refine L_q rfl (y_lss rfl rfl) ?_  -- t40 := binOp lss 3 t39 1 3
      refine L_q rfl (y_move rfl) ?_  -- t41 := move t40
      refine L_qif rfl rfl rfl (fun hc => (y_fa fa_23_3 rfl)) ?_  -- t42 := fieldAddr 23 t1 3 ?(3,false)
      refine L_qif rfl rfl rfl (fun hc => (y_fld r_3 (gv_yes hc) (rg_of_range (hs.rg 0 rfl 3 1 rfl)))) ?_  -- t43 := load 3 t42 ?(3,false)
      refine L_qif rfl rfl rfl (fun hc => (y_fa fa_23_2 rfl)) ?_  -- t44 := fieldAddr 23 t1 2 ?(3,false)
      refine L_qif rfl rfl rfl (fun hc => (y_fld r_3 (gv_yes hc) (rg_of_range (hs.rg 0 rfl 2 1 rfl)))) ?_  -- t45 := load 3 t44 ?(3,false)
      refine L_qif rfl rfl rfl (fun hc => (y_gtr (gv_yes hc) (gv_yes hc))) ?_  -- t46 := binOp gtr 3 t43 t45 3 ?(3,false)
      refine L_q rfl (y_por rfl rfl) ?_  -- t47 := pick t41 true t46
      refine L_q rfl (y_move rfl) ?_  -- t48 := move t47
      refine L_qif rfl rfl rfl (fun hc => (y_fa fa_23_2 rfl)) ?_  -- t49 := fieldAddr 23 t1 2 ?(10,false)
      refine L_qif rfl rfl rfl (fun hc => (y_fld r_3 (gv_yes hc) (rg_of_range (hs.rg 0 rfl 2 1 rfl)))) ?_  -- t50 := load 3 t49 ?(10,false)
      refine L_qif rfl rfl rfl (fun hc => (y_fa fa_23_3 rfl)) ?_  -- t51 := fieldAddr 23 t1 3 ?(10,false)
      refine L_qif rfl rfl rfl (fun hc => (y_fld r_3 (gv_yes hc) (rg_of_range (hs.rg 0 rfl 3 1 rfl)))) ?_  -- t52 := load 3 t51 ?(10,false)
      refine L_qif rfl rfl rfl (fun hc => (y_rem (gv_yes hc) (gv_yes hc) (by simp at hc; omega))) ?_  -- t53 := binOp rem 3 t50 t52 3 ?(10,false)
      refine L_qif rfl rfl rfl (fun hc => (y_neq (gv_yes hc) rfl)) ?_  -- t54 := binOp neq 3 t53 0 3 ?(10,false)
      refine L_q rfl (y_por rfl rfl) ?_  -- t55 := pick t48 true t54
      refine L_nil ?_
      refine W_if rfl (fun hb => ?_) (fun hb => ?_)
      · skip
        refine W_seq ?_
        refine W_region ?_
        refine L_q rfl (y_assign rfl) ?_  -- t2 := assign 40
        refine L_nil ?_
        refine W_ret ?_
        -- sep: g1
        refine ret_one rfl (.tmp (v := .int .i64 40) rfl .nil) ⟨_, rfl, hs.below, ?_⟩
        exact er_no (decide_eq_false (by simp at hb; omega))
      · skip
        have h3 : 1 ≤ x.f3 ∧ x.f3 ≤ x.f2 ∧ x.f2.tmod x.f3 = 0 := by simp at hb; omega
        refine W_skip ?_
        refine W_seq ?_
        refine W_seq ?_
        refine W_region ?_
        refine L_q rfl (y_fa fa_23_4 rfl) ?_  -- t56 := fieldAddr 23 t1 4
        refine L_q rfl (y_fld r_3 rfl (rg_of_range (hs.rg 0 rfl 4 1 rfl))) ?_  -- t57 := load 3 t56
        refine L_q rfl (y_lss rfl rfl) ?_  -- t58 := binOp lss 3 t57 1 3
        refine L_q rfl (y_move rfl) ?_  -- t59 := move t58
        refine L_qif rfl rfl rfl (fun hc => (y_fa fa_23_4 rfl)) ?_  -- t60 := fieldAddr 23 t1 4 ?(3,false)
        refine L_qif rfl rfl rfl (fun hc => (y_fld r_3 (gv_yes hc) (rg_of_range (hs.rg 0 rfl 4 1 rfl)))) ?_  -- t61 := load 3 t60 ?(3,false)
        refine L_qif rfl rfl rfl (fun hc => (y_gtr (gv_yes hc) rfl)) ?_  -- t62 := binOp gtr 3 t61 4 3 ?(3,false)
        refine L_q rfl (y_por rfl rfl) ?_  -- t63 := pick t59 true t62
        refine L_q rfl (y_move rfl) ?_  -- t64 := move t63
        refine L_qif rfl rfl rfl (fun hc => (y_fa fa_23_5 rfl)) ?_  -- t65 := fieldAddr 23 t1 5 ?(8,false)
        refine L_qif rfl rfl rfl (fun hc => (y_fld r_3 (gv_yes hc) (rg_of_range (hs.rg 0 rfl 5 1 rfl)))) ?_  -- t66 := load 3 t65 ?(8,false)
        refine L_qif rfl rfl rfl (fun hc => (y_lss (gv_yes hc) rfl)) ?_  -- t67 := binOp lss 3 t66 1 3 ?(8,false)
        refine L_q rfl (y_por rfl rfl) ?_  -- t68 := pick t64 true t67
        refine L_q rfl (y_move rfl) ?_  -- t69 := move t68
        refine L_qif rfl rfl rfl (fun hc => (y_fa fa_23_5 rfl)) ?_  -- t70 := fieldAddr 23 t1 5 ?(13,false)
        refine L_qif rfl rfl rfl (fun hc => (y_fld r_3 (gv_yes hc) (rg_of_range (hs.rg 0 rfl 5 1 rfl)))) ?_  -- t71 := load 3 t70 ?(13,false)
        refine L_qif rfl rfl rfl (fun hc => (y_gtr (gv_yes hc) rfl)) ?_  -- t72 := binOp gtr 3 t71 64 3 ?(13,false)
        refine L_q rfl (y_por rfl rfl) ?_  -- t73 := pick t69 true t72
        refine L_nil ?_
        refine W_if rfl (fun hb => ?_) (fun hb => ?_)
        · skip
          refine W_seq ?_
          refine W_region ?_
          refine L_q rfl (y_assign rfl) ?_  -- t2 := assign 40
          refine L_nil ?_
          refine W_ret ?_
          -- sep: g1
          refine ret_one rfl (.tmp (v := .int .i64 40) rfl .nil) ⟨_, rfl, hs.below, ?_⟩
          exact er_no (decide_eq_false (by simp at hb; omega))
        · skip
          have h4 : 1 ≤ x.f4 ∧ x.f4 ≤ 4 ∧ 1 ≤ x.f5 ∧ x.f5 ≤ 64 := by simp at hb; omega
          refine W_skip ?_
          refine W_seq ?_
          refine W_seq ?_
          refine W_region ?_
          refine L_q rfl (y_fa fa_23_6 rfl) ?_  -- t74 := fieldAddr 23 t1 6
          refine L_q rfl (y_fld r_3 rfl (rg_of_range (hs.rg 0 rfl 6 1 rfl))) ?_  -- t75 := load 3 t74
          refine L_q rfl (y_lss rfl rfl) ?_  -- t76 := binOp lss 3 t75 1 3
          refine L_q rfl (y_move rfl) ?_  -- t77 := move t76
          refine L_qif rfl rfl rfl (fun hc => (y_fa fa_23_6 rfl)) ?_  -- t78 := fieldAddr 23 t1 6 ?(3,false)
          refine L_qif rfl rfl rfl (fun hc => (y_fld r_3 (gv_yes hc) (rg_of_range (hs.rg 0 rfl 6 1 rfl)))) ?_  -- t79 := load 3 t78 ?(3,false)
          refine L_qif rfl rfl rfl (fun hc => (y_gtr (gv_yes hc) rfl)) ?_  -- t80 := binOp gtr 3 t79 64 3 ?(3,false)
          refine L_q rfl (y_por rfl rfl) ?_  -- t81 := pick t77 true t80
          refine L_q rfl (y_move rfl) ?_  -- t82 := move t81
          refine L_qif rfl rfl rfl (fun hc => (y_fa fa_23_7 rfl)) ?_  -- t83 := fieldAddr 23 t1 7 ?(8,false)
          refine L_qif rfl rfl rfl (fun hc => (y_fld r_3 (gv_yes hc) (rg_of_range (hs.rg 0 rfl 7 1 rfl)))) ?_  -- t84 := load 3 t83 ?(8,false)
          refine L_qif rfl rfl rfl (fun hc => (y_lss (gv_yes hc) rfl)) ?_  -- t85 := binOp lss 3 t84 0 3 ?(8,false)
          refine L_q rfl (y_por rfl rfl) ?_  -- t86 := pick t82 true t85
          refine L_q rfl (y_move rfl) ?_  -- t87 := move t86
          refine L_qif rfl rfl rfl (fun hc => (y_fa fa_23_7 rfl)) ?_  -- t88 := fieldAddr 23 t1 7 ?(13,false)
          refine L_qif rfl rfl rfl (fun hc => (y_fld r_3 (gv_yes hc) (rg_of_range (hs.rg 0 rfl 7 1 rfl)))) ?_  -- t89 := load 3 t88 ?(13,false)
          refine L_qif rfl rfl rfl (fun hc => (y_gtr (gv_yes hc) rfl)) ?_  -- t90 := binOp gtr 3 t89 4 3 ?(13,false)
          refine L_q rfl (y_por rfl rfl) ?_  -- t91 := pick t87 true t90
          refine L_nil ?_
          refine W_if rfl (fun hb => ?_) (fun hb => ?_)
          · skip
            refine W_seq ?_
            refine W_region ?_
            refine L_q rfl (y_assign rfl) ?_  -- t2 := assign 40
            refine L_nil ?_
            refine W_ret ?_
            -- sep: g1
            refine ret_one rfl (.tmp (v := .int .i64 40) rfl .nil) ⟨_, rfl, hs.below, ?_⟩
            exact er_no (decide_eq_false (by simp at hb; omega))
          · skip
            have h5 : 1 ≤ x.f6 ∧ x.f6 ≤ 64 ∧ 0 ≤ x.f7 ∧ x.f7 ≤ 4 := by simp at hb; omega
            refine W_skip ?_
            refine W_seq ?_
            refine W_region ?_
            refine L_q rfl (y_assign rfl) ?_  -- t2 := assign 0
            refine L_nil ?_
            refine W_ret ?_
            -- sep: g1
            refine ret_one rfl (.tmp (v := .int .i64 0) rfl .nil) ⟨_, rfl, hs.below, ?_⟩
            exact er_yes (decide_eq_true (by omega))

theorem getD_get {α : Type} {l : List α} {z : α} {i : Int} (h0 : 0 ≤ i) (h1 : i < l.length) : l.getD i.toNat z = l[i.toNat]'(by omega) := by
  have hi : i.toNat < l.length := by omega
  simp [hi]
theorem allG_step {α : Type} {l : List α} {z : α} {p : α → Bool} {i : Int} (h0 : 0 ≤ i) (h1 : i < l.length) (h : (l.take i.toNat).all p = true) (hp : p (l.getD i.toNat z) = true) : (l.take (i + 1).toNat).all p = true := by
  have hi : i.toNat < l.length := by omega
  rw [show (i + 1).toNat = i.toNat + 1 by omega, List.take_succ_eq_append_getElem hi, List.all_append, h, Bool.true_and]
  rw [getD_get h0 h1] at hp
  simp [hp]
theorem allG_not {α : Type} {l : List α} {z : α} {p : α → Bool} {i : Int} (h0 : 0 ≤ i) (h1 : i < l.length) (hp : p (l.getD i.toNat z) = false) : l.all p = false := by
  rw [getD_get h0 h1] at hp
  rw [List.all_eq_false]
  exact ⟨l[i.toNat]'(by omega), List.getElem_mem _, by rw [hp]; simp⟩
theorem allG_end {α : Type} {l : List α} {p : α → Bool} {i : Int} (h : (l.take i.toNat).all p = true) (h1 : (l.length : Int) ≤ i) : l.all p = true := by
  rwa [List.take_of_length_le (by omega)] at h

def turnOK (x : SU) : Bool := decide (-16384 ≤ x.f0 ∧ x.f0 ≤ 16384 ∧ -16384 ≤ x.f1 ∧ x.f1 ≤ 16384)
def turnsOf (l : List SU) (n : Int) : Bool := decide ((l.length : Int) = n) && l.all turnOK
theorem cal_ref04_turns (w0 : World) (A : Option Addr) (c : Nat) (l : List SU) (n : Int) (hC : kU.C w0 A l.length l) : Cal Tryd.prog 49 #[.slice A l.length c, .int .i64 n] w0 fun v w1 => Below w0.heap.size w0 w1 ∧ v = .bool (turnsOf l n) := by
  have hlen : l.length ≤ 9223372036854775807 := by have := hC.2.1; simpa using this
  refine cal_W (n := 45) Tryd.func49 rfl rfl (by simp) ?_
  have hs := Sep.refl w0
  refine W_seq ?_
  refine W_region ?_
  refine L_q rfl (y_assign rfl) ?_  -- t4 := assign false
  refine L_nil ?_
  refine W_seq ?_
  refine W_seq ?_
  refine W_region ?_
  refine L_q rfl (y_move rfl) ?_  -- t6 := move t0
  refine L_q rfl (y_len u_27 rfl) ?_  -- t7 := len(t6) :3
  refine L_q rfl (y_move rfl) ?_  -- t8 := move t1
  refine L_q rfl (y_neq rfl rfl) ?_  -- t9 := binOp neq 3 t7 t8 3
  refine L_nil ?_
  refine W_if rfl (fun hb => ?_) (fun hb => ?_)
  · skip
    refine W_seq ?_
    refine W_region ?_
    refine L_q rfl (y_assign rfl) ?_  -- t4 := assign false
    refine L_nil ?_
    refine W_ret ?_
    -- sep: 
    refine ret_one rfl (.tmp (v := .bool false) rfl .nil) ⟨_, rfl, hs.below, ?_⟩
    have : decide ((l.length : Int) = n) = false := by have := of_decide_eq_true hb; simpa using this
    rw [turnsOf, this]
    rfl
  · skip
    have hn : (l.length : Int) = n := by have := of_decide_eq_false hb; omega
    subst hn
    refine W_skip ?_
    refine W_seq ?_
    refine W_seq ?_
    refine W_region ?_
    refine L_q rfl (y_assign rfl) ?_  -- t5 := assign 0
    refine L_nil ?_
    refine W_block ?_
    refine W_loop (fun m f w1 => ∃ i : Int, 0 ≤ i ∧ i ≤ l.length ∧ m = (l.length - i).toNat ∧ (l.take i.toNat).all turnOK = true ∧ sl f 0 = .slice A l.length c ∧ sl f 1 = .int .i64 l.length ∧ sl f 5 = .int .i64 i ∧ Sep w0 w1 []) ((l.length : Int) - 0).toNat ?_ ?_
    · exact ⟨0, by omega, by omega, rfl, rfl, rfl, rfl, rfl, hs⟩
    rintro m f w1 ⟨i, hi0, hi1, rfl, ha, h0, h1, h5, hs⟩
    refine W_seq ?_
    refine W_seq ?_
    refine W_region ?_
    refine L_q rfl (y_move h5) ?_  -- t10 := move t5
    refine L_q rfl (y_move h1) ?_  -- t11 := move t1
    refine L_q rfl (y_lss rfl rfl) ?_  -- t12 := binOp lss 3 t10 t11 3
    refine L_nil ?_
    refine W_if rfl (fun hb => ?_) (fun hb => ?_)
    · skip
      have hlt : i < l.length := of_decide_eq_true hb
      obtain ⟨ad, cs, rfl, hK, hrg⟩ := Kd.C_at (Kd.C_below hC hs.below) zU i hi0 hlt
      obtain rfl := kU_open hK
      refine W_skip ?_
      refine W_seq ?_
      refine W_block ?_
      refine W_seq ?_
      refine W_region ?_
      refine L_q rfl (y_move h0) ?_  -- t15 := move t0
      refine L_q rfl (y_move h5) ?_  -- t16 := move t5
      refine L_q rfl (y_ia u_27 sz_117 rfl rfl (by omega) (by omega)) ?_  -- t17 := indexAddr 27 t15 t16
      refine L_q rfl (y_fad fa_117_0 rfl) ?_  -- t18 := fieldAddr 117 t17 0
      refine L_q rfl (y_fld r_2 rfl (hrg.sub 0 1 rfl)) ?_  -- t19 := load 2 t18
      refine L_q rfl (y_lss rfl rfl) ?_  -- t20 := binOp lss 2 t19 -16384 2
      refine L_q rfl (y_move rfl) ?_  -- t21 := move t20
      refine L_qif rfl rfl rfl (fun hc => (y_move h0)) ?_  -- t22 := move t0 ?(6,false)
      refine L_qif rfl rfl rfl (fun hc => (y_move h5)) ?_  -- t23 := move t5 ?(6,false)
      refine L_qif rfl rfl rfl (fun hc => (y_ia u_27 sz_117 (gv_yes hc) (gv_yes hc) (by omega) (by omega))) ?_  -- t24 := indexAddr 27 t22 t23 ?(6,false)
      refine L_qif rfl rfl rfl (fun hc => (y_fad fa_117_0 (gv_yes hc))) ?_  -- t25 := fieldAddr 117 t24 0 ?(6,false)
      refine L_qif rfl rfl rfl (fun hc => (y_fld r_2 (gv_yes hc) (hrg.sub 0 1 rfl))) ?_  -- t26 := load 2 t25 ?(6,false)
      refine L_qif rfl rfl rfl (fun hc => (y_gtr (gv_yes hc) rfl)) ?_  -- t27 := binOp gtr 2 t26 16384 2 ?(6,false)
      refine L_q rfl (y_por rfl rfl) ?_  -- t28 := pick t21 true t27
      refine L_q rfl (y_move rfl) ?_  -- t29 := move t28
      refine L_qif rfl rfl rfl (fun hc => (y_move h0)) ?_  -- t30 := move t0 ?(14,false)
      refine L_qif rfl rfl rfl (fun hc => (y_move h5)) ?_  -- t31 := move t5 ?(14,false)
      refine L_qif rfl rfl rfl (fun hc => (y_ia u_27 sz_117 (gv_yes hc) (gv_yes hc) (by omega) (by omega))) ?_  -- t32 := indexAddr 27 t30 t31 ?(14,false)
      refine L_qif rfl rfl rfl (fun hc => (y_fad fa_117_1 (gv_yes hc))) ?_  -- t33 := fieldAddr 117 t32 1 ?(14,false)
      refine L_qif rfl rfl rfl (fun hc => (y_fld r_2 (gv_yes hc) (hrg.sub 1 1 rfl))) ?_  -- t34 := load 2 t33 ?(14,false)
      refine L_qif rfl rfl rfl (fun hc => (y_lss (gv_yes hc) rfl)) ?_  -- t35 := binOp lss 2 t34 -16384 2 ?(14,false)
      refine L_q rfl (y_por rfl rfl) ?_  -- t36 := pick t29 true t35
      refine L_q rfl (y_move rfl) ?_  -- t37 := move t36
      refine L_qif rfl rfl rfl (fun hc => (y_move h0)) ?_  -- t38 := move t0 ?(22,false)
      refine L_qif rfl rfl rfl (fun hc => (y_move h5)) ?_  -- t39 := move t5 ?(22,false)
      refine L_qif rfl rfl rfl (fun hc => (y_ia u_27 sz_117 (gv_yes hc) (gv_yes hc) (by omega) (by omega))) ?_  -- t40 := indexAddr 27 t38 t39 ?(22,false)
      refine L_qif rfl rfl rfl (fun hc => (y_fad fa_117_1 (gv_yes hc))) ?_  -- t41 := fieldAddr 117 t40 1 ?(22,false)
      refine L_qif rfl rfl rfl (fun hc => (y_fld r_2 (gv_yes hc) (hrg.sub 1 1 rfl))) ?_  -- t42 := load 2 t41 ?(22,false)
      refine L_qif rfl rfl rfl (fun hc => (y_gtr (gv_yes hc) rfl)) ?_  -- t43 := binOp gtr 2 t42 16384 2 ?(22,false)
      refine L_q rfl (y_por rfl rfl) ?_  -- t44 := pick t37 true t43
      refine L_nil ?_
      refine W_if rfl (fun hb => ?_) (fun hb => ?_)
      · skip
        refine W_seq ?_
        refine W_region ?_
        refine L_q rfl (y_assign rfl) ?_  -- t4 := assign false
        refine L_nil ?_
        refine W_ret ?_
        -- sep: 
        refine ret_one rfl (.tmp (v := .bool false) rfl .nil) ⟨_, rfl, hs.below, ?_⟩
        rw [turnsOf, allG_not (p := turnOK) hi0 hlt (z := zU) (decide_eq_false (by simp only [Bool.or_eq_true, decide_eq_true_eq] at hb; omega)), Bool.and_false]
      · skip
        refine W_skip ?_
        refine W_region ?_
        refine L_q rfl (y_move h5) ?_  -- t13 := move t5
        refine L_q rfl (y_addi rfl rfl (by omega) (by omega)) ?_  -- t14 := binOp add 3 t13 1 3
        refine L_q rfl (y_assign rfl) ?_  -- t5 := assign t14
        refine L_nil ?_
        exact ⟨_, by omega, i + 1, by omega, by omega, rfl, allG_step hi0 hlt ha (z := zU) (decide_eq_true (by simp only [Bool.or_eq_false_iff, decide_eq_false_iff_not] at hb; omega)), h0, h1, rfl, hs⟩
    · skip
      refine W_exit ?_
      refine x_hit ?_
      refine W_seq ?_
      refine W_region ?_
      refine L_q rfl (y_assign rfl) ?_  -- t4 := assign true
      refine L_nil ?_
      refine W_ret ?_
      -- sep: 
      refine ret_one rfl (.tmp (v := .bool true) rfl .nil) ⟨_, rfl, hs.below, ?_⟩
      rw [turnsOf, allG_end (p := turnOK) ha (by have := of_decide_eq_false hb; omega)]
      simp
end Go.Proofs.YtlmddncoeikfjaaDoor
