/- Walks: matrices and measures, as the document's answer checks them. -/
import Derived.Test.YtlmddncoeikfjaaDoorFacts
import Derived.Test.YtlmddncoeikfjaaDoorKinds
namespace Go.Proofs.YtlmddncoeikfjaaDoor
open Go.RowKit Go.Proofs.YtlmddncoeikfjaaDoorW.PrintWords
set_option maxRecDepth 100000
set_option maxHeartbeats 400000

theorem rd_get {l : List Int} {i : Int} (h0 : 0 ≤ i) (h1 : i < l.length) : rd l i = l[i.toNat]'(by omega) := by
  have hi : i.toNat < l.length := by omega
  simp [rd, hi]
theorem all_step {l : List Int} {p : Int → Bool} {i : Int} (h0 : 0 ≤ i) (h1 : i < l.length) (h : (l.take i.toNat).all p = true) (hp : p (rd l i) = true) : (l.take (i + 1).toNat).all p = true := by
  have hi : i.toNat < l.length := by omega
  rw [show (i + 1).toNat = i.toNat + 1 by omega, List.take_succ_eq_append_getElem hi, List.all_append, h, Bool.true_and]
  rw [rd_get h0 h1] at hp
  simp [hp]
theorem all_not {l : List Int} {p : Int → Bool} {i : Int} (h0 : 0 ≤ i) (h1 : i < l.length) (hp : p (rd l i) = false) : l.all p = false := by
  rw [rd_get h0 h1] at hp
  rw [List.all_eq_false]
  exact ⟨l[i.toNat]'(by omega), List.getElem_mem _, by rw [hp]; simp⟩
theorem all_end {l : List Int} {p : Int → Bool} {i : Int} (h : (l.take i.toNat).all p = true) (h1 : (l.length : Int) ≤ i) : l.all p = true := by
  rwa [List.take_of_length_le (by omega)] at h

/-- An error's number, if it is not right. -/
def er (b : Bool) (e : Int) : Int := bif b then 0 else e
/-- A matrix's measures. -/
def okShape (x : SM) : Bool := !(((decide (x.f0 < 1) || decide (x.f1 < 1)) || decide ((x.f2.length : Int).tmod x.f1 ≠ 0)) || decide (IntKind.i64.wrap ((x.f2.length : Int).tdiv x.f1) ≠ x.f0))
def okMat (x : SM) : Bool := okShape x && x.f2.all fun y => decide (y ≠ -128)
theorem cal_ref03_Check (w0 : World) (x : SM) (cs : List Value) (hx : kM.K w0 x cs) : Cal Tryd.prog 66 #[.agg cs.toArray] w0 fun v w1 => Below w0.heap.size w0 w1 ∧ v = .int .i64 (er (okMat x) 30) := by
  obtain ⟨A, c, rfl, hl, hC⟩ := kM_open hx
  have hlen : x.f2.length ≤ 9223372036854775807 := by have := hC.2.1; simpa using this
  refine cal_W (n := 45) Tryd.func66 rfl rfl (by simp) ?_
  have hs := Sep.refl w0
  refine W_seq ?_
  refine W_region ?_
  refine L_op rfl (o_box (cs := [_, _, _]) rfl rfl hs ?_)  -- t1 := box 26 t0
  intro g1 w1 hs
  refine L_q rfl (y_assign rfl) ?_  -- t2 := assign 0
  refine L_nil ?_
  refine W_seq ?_
  refine W_seq ?_
  refine W_draw rfl (fun w' => w' = w1.drew) ?_
  replace hs := hs.drew
  refine H_q (i := 0) rfl (by kernel_rfl) rfl (fun _ hw => by subst hw; exact (y_fa fa_26_0 rfl)) rfl ?_  -- t4 := fieldAddr 26 t1 0
  refine H_q (i := 1) rfl (by kernel_rfl) rfl (fun _ hw => by subst hw; exact (y_fld r_3 rfl (rg_of_range (hs.rg 0 rfl 0 1 rfl)))) rfl ?_  -- t5 := load 3 t4
  refine H_q (i := 2) rfl (by kernel_rfl) rfl (fun _ hw => by subst hw; exact (y_lss rfl rfl)) rfl ?_  -- t6 := binOp lss 3 t5 1 3
  refine H_q (i := 3) rfl (by kernel_rfl) rfl (fun _ hw => by subst hw; exact (y_move rfl)) rfl ?_  -- t7 := move t6
  refine H_qif (i := 4) rfl (by kernel_rfl) rfl rfl rfl (fun _ hw hc => by subst hw; exact (y_fa fa_26_1 rfl)) rfl ?_  -- t8 := fieldAddr 26 t1 1 ?(3,false)
  refine H_qif (i := 5) rfl (by kernel_rfl) rfl rfl rfl (fun _ hw hc => by subst hw; exact (y_fld r_3 (gv_yes hc) (rg_of_range (hs.rg 0 rfl 1 1 rfl)))) rfl ?_  -- t9 := load 3 t8 ?(3,false)
  refine H_qif (i := 6) rfl (by kernel_rfl) rfl rfl rfl (fun _ hw hc => by subst hw; exact (y_lss (gv_yes hc) rfl)) rfl ?_  -- t10 := binOp lss 3 t9 1 3 ?(3,false)
  refine H_q (i := 7) rfl (by kernel_rfl) rfl (fun _ hw => by subst hw; exact (y_por rfl rfl)) rfl ?_  -- t11 := pick t7 true t10
  refine H_q (i := 8) rfl (by kernel_rfl) rfl (fun _ hw => by subst hw; exact (y_move rfl)) rfl ?_  -- t12 := move t11
  refine H_qif (i := 9) rfl (by kernel_rfl) rfl rfl rfl (fun _ hw hc => by subst hw; exact (y_fa fa_26_2 rfl)) rfl ?_  -- t13 := fieldAddr 26 t1 2 ?(8,false)
  refine H_qif (i := 10) rfl (by kernel_rfl) rfl rfl rfl (fun _ hw hc => by subst hw; exact (y_fld r_24 (gv_yes hc) (rg_of_range (hs.rg 0 rfl 2 1 rfl)))) rfl ?_  -- t14 := load 24 t13 ?(8,false)
  refine H_qif (i := 11) rfl (by kernel_rfl) rfl rfl rfl (fun _ hw hc => by subst hw; exact (y_len u_24 (gv_yes hc))) rfl ?_  -- t15 := len(t14) :3 ?(8,false)
  refine H_qif (i := 12) rfl (by kernel_rfl) rfl rfl rfl (fun _ hw hc => by subst hw; exact (y_fa fa_26_1 rfl)) rfl ?_  -- t16 := fieldAddr 26 t1 1 ?(8,false)
  refine H_qif (i := 13) rfl (by kernel_rfl) rfl rfl rfl (fun _ hw hc => by subst hw; exact (y_fld r_3 (gv_yes hc) (rg_of_range (hs.rg 0 rfl 1 1 rfl)))) rfl ?_  -- t17 := load 3 t16 ?(8,false)
  refine H_qif (i := 14) rfl (by kernel_rfl) rfl rfl rfl (fun _ hw hc => by subst hw; exact (y_rem (gv_yes hc) (gv_yes hc) (by simp at hc; omega))) rfl ?_  -- t18 := binOp rem 3 t15 t17 3 ?(8,false)
  refine H_qif (i := 15) rfl (by kernel_rfl) rfl rfl rfl (fun _ hw hc => by subst hw; exact (y_neq (gv_yes hc) rfl)) rfl ?_  -- t19 := binOp neq 3 t18 0 3 ?(8,false)
  refine H_q (i := 16) rfl (by kernel_rfl) rfl (fun _ hw => by subst hw; exact (y_por rfl rfl)) rfl ?_  -- t20 := pick t12 true t19
  refine H_q (i := 17) rfl (by kernel_rfl) rfl (fun _ hw => by subst hw; exact (y_move rfl)) rfl ?_  -- t21 := move t20
  refine H_qif (i := 18) rfl (by kernel_rfl) rfl rfl rfl (fun _ hw hc => by subst hw; exact (y_fa fa_26_2 rfl)) rfl ?_  -- t22 := fieldAddr 26 t1 2 ?(17,false)
  refine H_qif (i := 19) rfl (by kernel_rfl) rfl rfl rfl (fun _ hw hc => by subst hw; exact (y_fld r_24 (gv_yes hc) (rg_of_range (hs.rg 0 rfl 2 1 rfl)))) rfl ?_  -- t23 := load 24 t22 ?(17,false)
  refine H_qif (i := 20) rfl (by kernel_rfl) rfl rfl rfl (fun _ hw hc => by subst hw; exact (y_len u_24 (gv_yes hc))) rfl ?_  -- t24 := len(t23) :3 ?(17,false)
  refine H_qif (i := 21) rfl (by kernel_rfl) rfl rfl rfl (fun _ hw hc => by subst hw; exact (y_fa fa_26_1 rfl)) rfl ?_  -- t25 := fieldAddr 26 t1 1 ?(17,false)
  refine H_qif (i := 22) rfl (by kernel_rfl) rfl rfl rfl (fun _ hw hc => by subst hw; exact (y_fld r_3 (gv_yes hc) (rg_of_range (hs.rg 0 rfl 1 1 rfl)))) rfl ?_  -- t26 := load 3 t25 ?(17,false)
  refine H_qif (i := 23) rfl (by kernel_rfl) rfl rfl rfl (fun _ hw hc => by subst hw; exact (y_quo (gv_yes hc) (gv_yes hc) (by simp at hc; omega))) rfl ?_  -- t27 := binOp quo 3 t24 t26 3 ?(17,false)
  refine H_qif (i := 24) rfl (by kernel_rfl) rfl rfl rfl (fun _ hw hc => by subst hw; exact (y_fa fa_26_0 rfl)) rfl ?_  -- t28 := fieldAddr 26 t1 0 ?(17,false)
  refine H_qif (i := 25) rfl (by kernel_rfl) rfl rfl rfl (fun _ hw hc => by subst hw; exact (y_fld r_3 (gv_yes hc) (rg_of_range (hs.rg 0 rfl 0 1 rfl)))) rfl ?_  -- t29 := load 3 t28 ?(17,false)
  refine H_qif (i := 26) rfl (by kernel_rfl) rfl rfl rfl (fun _ hw hc => by subst hw; exact (y_neq (gv_yes hc) (gv_yes hc))) rfl ?_  -- t30 := binOp neq 3 t27 t29 3 ?(17,false)
  refine H_q (i := 27) rfl (by kernel_rfl) rfl (fun _ hw => by subst hw; exact (y_por rfl rfl)) rfl ?_  -- t31 := pick t21 true t30
  refine H_done (by kernel_rfl) ?_
  refine W_if rfl (fun hb => ?_) (fun hb => ?_)
  · skip
    refine W_seq ?_
    refine W_region ?_
    refine L_q rfl (y_assign rfl) ?_  -- t2 := assign 30
    refine L_nil ?_
    refine W_ret ?_
    -- sep: g1
    refine ret_one rfl (.tmp (v := .int .i64 30) rfl .nil) ⟨_, rfl, hs.below, ?_⟩
    have : okShape x = false := by rw [okShape, hb]; rfl
    simp [er, okMat, this]
  · skip
    have hsh : okShape x = true := by rw [okShape, hb]; rfl
    refine W_skip ?_
    refine W_seq ?_
    refine W_seq ?_
    refine W_region ?_
    refine L_q rfl (y_assign rfl) ?_  -- t3 := assign 0
    refine L_nil ?_
    refine W_block ?_
    refine W_loop (fun m f w1 => ∃ i : Int, 0 ≤ i ∧ i ≤ x.f2.length ∧ m = (x.f2.length - i).toNat ∧ (x.f2.take i.toNat).all (fun y => decide (y ≠ -128)) = true ∧ sl f 1 = .pointer (some ⟨g1, 0, none⟩) ∧ sl f 3 = .int .i64 i ∧ Sep w0 w1 [blk g1 26 [.int .i64 x.f0, .int .i64 x.f1, .slice A x.f2.length c]]) ((x.f2.length : Int) - 0).toNat ?_ ?_
    · exact ⟨0, by omega, by omega, rfl, rfl, rfl, rfl, hs⟩
    rintro m f w1 ⟨i, hi0, hi1, rfl, ha, h1, h3, hs⟩
    refine W_seq ?_
    refine W_seq ?_
    refine W_region ?_
    refine L_q rfl (y_move h3) ?_  -- t32 := move t3
    refine L_q rfl (y_fa fa_26_2 h1) ?_  -- t33 := fieldAddr 26 t1 2
    refine L_q rfl (y_fld r_24 rfl (rg_of_range (hs.rg 0 rfl 2 1 rfl))) ?_  -- t34 := load 24 t33
    refine L_q rfl (y_len u_24 rfl) ?_  -- t35 := len(t34) :3
    refine L_q rfl (y_lss rfl rfl) ?_  -- t36 := binOp lss 3 t32 t35 3
    refine L_nil ?_
    refine W_if rfl (fun hb => ?_) (fun hb => ?_)
    · skip
      have hlt : i < x.f2.length := of_decide_eq_true hb
      obtain ⟨ad, rfl, hrg⟩ := Kd.C_int (Kd.C_below hC hs.below) i hi0 hlt
      refine W_skip ?_
      refine W_seq ?_
      refine W_block ?_
      refine W_seq ?_
      refine W_region ?_
      refine L_q rfl (y_fa fa_26_2 h1) ?_  -- t39 := fieldAddr 26 t1 2
      refine L_q rfl (y_fld r_24 rfl (rg_of_range (hs.rg 0 rfl 2 1 rfl))) ?_  -- t40 := load 24 t39
      refine L_q rfl (y_move h3) ?_  -- t41 := move t3
      refine L_q rfl (y_ia u_24 sz_63 rfl rfl (by omega) (by omega)) ?_  -- t42 := indexAddr 24 t40 t41
      refine L_q rfl (y_fld r_63 rfl hrg) ?_  -- t43 := load 63 t42
      refine L_q rfl (y_eql rfl rfl) ?_  -- t44 := binOp eql 63 t43 -128:i8 63
      refine L_nil ?_
      refine W_if rfl (fun hb => ?_) (fun hb => ?_)
      · skip
        refine W_seq ?_
        refine W_region ?_
        refine L_q rfl (y_assign rfl) ?_  -- t2 := assign 30
        refine L_nil ?_
        refine W_ret ?_
        -- sep: g1
        refine ret_one rfl (.tmp (v := .int .i64 30) rfl .nil) ⟨_, rfl, hs.below, ?_⟩
        have := all_not (p := fun y => decide (y ≠ -128)) hi0 hlt (by simpa using hb)
        rw [okMat, this, Bool.and_false]
        rfl
      · skip
        refine W_skip ?_
        refine W_region ?_
        refine L_q rfl (y_move h3) ?_  -- t37 := move t3
        refine L_q rfl (y_addi rfl rfl (by omega) (by omega)) ?_  -- t38 := binOp add 3 t37 1 3
        refine L_q rfl (y_assign rfl) ?_  -- t3 := assign t38
        refine L_nil ?_
        exact ⟨_, by omega, i + 1, by omega, by omega, rfl, all_step hi0 hlt ha (by simpa using hb), h1, rfl, hs⟩
    · skip
      refine W_exit ?_
      refine x_hit ?_
      refine W_seq ?_
      refine W_region ?_
      refine L_q rfl (y_assign rfl) ?_  -- t2 := assign 0
      refine L_nil ?_
      refine W_ret ?_
      -- sep: g1
      refine ret_one rfl (.tmp (v := .int .i64 0) rfl .nil) ⟨_, rfl, hs.below, ?_⟩
      have := all_end (p := fun y => decide (y ≠ -128)) ha (by have := of_decide_eq_false hb; omega)
      simp only [er, okMat, this, hsh, Bool.and_self, cond_true]

def isMat (x : SM) (r c : Int) : Bool := okMat x && decide (x.f0 = r) && decide (x.f1 = c)
theorem cal_ref04_is (w0 : World) (x : SM) (cs : List Value) (r c : Int) (hx : kM.K w0 x cs) : Cal Tryd.prog 47 #[.agg cs.toArray, .int .i64 r, .int .i64 c] w0 fun v w1 => Below w0.heap.size w0 w1 ∧ v = .bool (isMat x r c) := by
  obtain ⟨A, k, rfl, hl, hC⟩ := kM_open hx
  refine cal_W (n := 24) Tryd.func47 rfl rfl (by simp) ?_
  have hs := Sep.refl w0
  refine W_seq ?_
  refine W_region ?_
  refine L_op rfl (o_box (cs := [_, _, _]) rfl rfl hs ?_)  -- t3 := box 26 t0
  intro g3 w1 hs
  refine L_q rfl (y_assign rfl) ?_  -- t6 := assign false
  refine L_nil ?_
  refine W_seq ?_
  refine W_region ?_
  refine L_q rfl (y_fls (cs := [_, _, _]) r_26 sz_26 rfl (rg_of_range (hs.rg 0 rfl 0 3 rfl))) ?_  -- t8 := load 26 t3
  refine L_op rfl (o_call en_66 rfl hs (cal_ref03_Check _ x _ (kM.K_below hs.below hx)) ?_)  -- t9 := CALL f66(t8) :37
  intro v9 w1 hb hs hv9
  refine L_q rfl (y_assign hv9) ?_  -- t7 := assign t9
  refine L_nil ?_
  refine W_seq ?_
  refine W_region ?_
  refine L_q rfl (y_move rfl) ?_  -- t10 := move t7
  refine L_q rfl (y_eql rfl rfl) ?_  -- t11 := binOp eql 37 t10 0 37
  refine L_q rfl (y_move rfl) ?_  -- t12 := move t11
  refine L_qif rfl rfl rfl (fun hc => (y_fa fa_26_0 rfl)) ?_  -- t13 := fieldAddr 26 t3 0 ?(2,true)
  refine L_qif rfl rfl rfl (fun hc => (y_fld r_3 (gv_yes hc) (rg_of_range (hs.rg 0 rfl 0 1 rfl)))) ?_  -- t14 := load 3 t13 ?(2,true)
  refine L_qif rfl rfl rfl (fun hc => (y_move rfl)) ?_  -- t15 := move t1 ?(2,true)
  refine L_qif rfl rfl rfl (fun hc => (y_eql (gv_yes hc) (gv_yes hc))) ?_  -- t16 := binOp eql 3 t14 t15 3 ?(2,true)
  refine L_q rfl (y_pand rfl rfl) ?_  -- t17 := pick t12 t16 false
  refine L_q rfl (y_move rfl) ?_  -- t18 := move t17
  refine L_qif rfl rfl rfl (fun hc => (y_fa fa_26_1 rfl)) ?_  -- t19 := fieldAddr 26 t3 1 ?(8,true)
  refine L_qif rfl rfl rfl (fun hc => (y_fld r_3 (gv_yes hc) (rg_of_range (hs.rg 0 rfl 1 1 rfl)))) ?_  -- t20 := load 3 t19 ?(8,true)
  refine L_qif rfl rfl rfl (fun hc => (y_move rfl)) ?_  -- t21 := move t2 ?(8,true)
  refine L_qif rfl rfl rfl (fun hc => (y_eql (gv_yes hc) (gv_yes hc))) ?_  -- t22 := binOp eql 3 t20 t21 3 ?(8,true)
  refine L_q rfl (y_pand rfl rfl) ?_  -- t23 := pick t18 t22 false
  refine L_q rfl (y_assign rfl) ?_  -- t6 := assign t23
  refine L_nil ?_
  refine W_ret ?_
  -- sep: g3
  refine ret_one rfl (.tmp (v := .bool (decide (er (okMat x) 30 = 0) && decide (x.f0 = r) && decide (x.f1 = c))) rfl .nil) ⟨_, rfl, hs.below, ?_⟩
  cases h : okMat x <;> simp [isMat, er, h]

def gainsOf (l : List Int) (n : Int) : Bool := decide ((l.length : Int) = n) && l.all fun y => decide (y ≠ -128)
theorem cal_ref04_gains (w0 : World) (A : Option Addr) (c : Nat) (l : List Int) (n : Int) (hC : (Kd.int .i8).C w0 A l.length l) : Cal Tryd.prog 48 #[.slice A l.length c, .int .i64 n] w0 fun v w1 => Below w0.heap.size w0 w1 ∧ v = .bool (gainsOf l n) := by
  have hlen : l.length ≤ 9223372036854775807 := by have := hC.2.1; simpa using this
  refine cal_W (n := 20) Tryd.func48 rfl rfl (by simp) ?_
  have hs := Sep.refl w0
  refine W_seq ?_
  refine W_region ?_
  refine L_q rfl (y_assign rfl) ?_  -- t4 := assign false
  refine L_nil ?_
  refine W_seq ?_
  refine W_seq ?_
  refine W_region ?_
  refine L_q rfl (y_move rfl) ?_  -- t6 := move t0
  refine L_q rfl (y_len u_24 rfl) ?_  -- t7 := len(t6) :3
  refine L_q rfl (y_move rfl) ?_  -- t8 := move t1
  refine L_q rfl (y_neq rfl rfl) ?_  -- t9 := binOp neq 3 t7 t8 3
  refine L_nil ?_
  refine W_if rfl (fun hb => ?_) (fun hb => ?_)
  · skip
    refine W_seq ?_
    refine W_region ?_
    refine L_q rfl (y_assign rfl) ?_  -- t4 := assign false
    refine L_nil ?_
    refine W_ret ?_
    -- sep: 
    refine ret_one rfl (.tmp (v := .bool false) rfl .nil) ⟨_, rfl, hs.below, ?_⟩
    have : decide ((l.length : Int) = n) = false := by have := of_decide_eq_true hb; simpa using this
    rw [gainsOf, this]
    rfl
  · skip
    have hn : (l.length : Int) = n := by have := of_decide_eq_false hb; omega
    subst hn
    refine W_skip ?_
    refine W_seq ?_
    refine W_seq ?_
    refine W_region ?_
    refine L_q rfl (y_assign rfl) ?_  -- t5 := assign 0
    refine L_nil ?_
    refine W_block ?_
    refine W_loop (fun m f w1 => ∃ i : Int, 0 ≤ i ∧ i ≤ l.length ∧ m = (l.length - i).toNat ∧ (l.take i.toNat).all (fun y => decide (y ≠ -128)) = true ∧ sl f 0 = .slice A l.length c ∧ sl f 1 = .int .i64 l.length ∧ sl f 5 = .int .i64 i ∧ Sep w0 w1 []) ((l.length : Int) - 0).toNat ?_ ?_
    · exact ⟨0, by omega, by omega, rfl, rfl, rfl, rfl, rfl, hs⟩
    rintro m f w1 ⟨i, hi0, hi1, rfl, ha, h0, h1, h5, hs⟩
    refine W_seq ?_
    refine W_seq ?_
    refine W_region ?_
    refine L_q rfl (y_move h5) ?_  -- t10 := move t5
    refine L_q rfl (y_move h1) ?_  -- t11 := move t1
    refine L_q rfl (y_lss rfl rfl) ?_  -- t12 := binOp lss 3 t10 t11 3
    refine L_nil ?_
    refine W_if rfl (fun hb => ?_) (fun hb => ?_)
    · skip
      have hlt : i < l.length := of_decide_eq_true hb
      obtain ⟨ad, rfl, hrg⟩ := Kd.C_int (Kd.C_below hC hs.below) i hi0 hlt
      refine W_skip ?_
      refine W_seq ?_
      refine W_block ?_
      refine W_seq ?_
      refine W_region ?_
      refine L_q rfl (y_move h0) ?_  -- t15 := move t0
      refine L_q rfl (y_move h5) ?_  -- t16 := move t5
      refine L_q rfl (y_ia u_24 sz_63 rfl rfl (by omega) (by omega)) ?_  -- t17 := indexAddr 24 t15 t16
      refine L_q rfl (y_fld r_63 rfl hrg) ?_  -- t18 := load 63 t17
      refine L_q rfl (y_eql rfl rfl) ?_  -- t19 := binOp eql 63 t18 -128:i8 63
      refine L_nil ?_
      refine W_if rfl (fun hb => ?_) (fun hb => ?_)
      · skip
        refine W_seq ?_
        refine W_region ?_
        refine L_q rfl (y_assign rfl) ?_  -- t4 := assign false
        refine L_nil ?_
        refine W_ret ?_
        -- sep: 
        refine ret_one rfl (.tmp (v := .bool false) rfl .nil) ⟨_, rfl, hs.below, ?_⟩
        rw [gainsOf, all_not (p := fun y => decide (y ≠ -128)) hi0 hlt (by simpa using hb), Bool.and_false]
      · skip
        refine W_skip ?_
        refine W_region ?_
        refine L_q rfl (y_move h5) ?_  -- t13 := move t5
        refine L_q rfl (y_addi rfl rfl (by omega) (by omega)) ?_  -- t14 := binOp add 3 t13 1 3
        refine L_q rfl (y_assign rfl) ?_  -- t5 := assign t14
        refine L_nil ?_
        exact ⟨_, by omega, i + 1, by omega, by omega, rfl, all_step hi0 hlt ha (by simpa using hb), h0, h1, rfl, hs⟩
    · skip
      refine W_exit ?_
      refine x_hit ?_
      refine W_seq ?_
      refine W_region ?_
      refine L_q rfl (y_assign rfl) ?_  -- t4 := assign true
      refine L_nil ?_
      refine W_ret ?_
      -- sep: 
      refine ret_one rfl (.tmp (v := .bool true) rfl .nil) ⟨_, rfl, hs.below, ?_⟩
      rw [gainsOf, all_end (p := fun y => decide (y ≠ -128)) ha (by have := of_decide_eq_false hb; omega)]
      simp

theorem cal_ref04_Head (w0 : World) (x : SC) (cs : List Value) (hx : kC.K w0 x cs) (h0 : x.f2 ≠ 0) : Cal Tryd.prog 50 #[.agg cs.toArray] w0 fun v w1 => Below w0.heap.size w0 w1 ∧ v = .int .i64 (IntKind.i64.wrap (x.f1.tdiv x.f2)) := by
  obtain rfl := kC_open hx
  refine cal_W (n := 8) Tryd.func50 rfl rfl (by simp) ?_
  have hs := Sep.refl w0
  refine W_seq ?_
  refine W_region ?_
  refine L_op rfl (o_box (cs := [_, _, _, _, _, _, _, _]) rfl rfl hs ?_)  -- t1 := box 23 t0
  intro g1 w1 hs
  refine L_q rfl (y_assign rfl) ?_  -- t2 := assign 0
  refine L_nil ?_
  refine W_seq ?_
  refine W_region ?_
  refine L_q rfl (y_fa fa_23_1 rfl) ?_  -- t3 := fieldAddr 23 t1 1
  refine L_q rfl (y_fld r_3 rfl (rg_of_range (hs.rg 0 rfl 1 1 rfl))) ?_  -- t4 := load 3 t3
  refine L_q rfl (y_fa fa_23_2 rfl) ?_  -- t5 := fieldAddr 23 t1 2
  refine L_q rfl (y_fld r_3 rfl (rg_of_range (hs.rg 0 rfl 2 1 rfl))) ?_  -- t6 := load 3 t5
  refine L_q rfl (y_quo rfl rfl h0) ?_  -- t7 := binOp quo 3 t4 t6 3
  refine L_q rfl (y_assign rfl) ?_  -- t2 := assign t7
  refine L_nil ?_
  refine W_ret ?_
  -- sep: g1
  refine ret_one rfl (.tmp (v := _) rfl .nil) ⟨_, rfl, hs.below, ?_⟩
  rfl
end Go.Proofs.YtlmddncoeikfjaaDoor
