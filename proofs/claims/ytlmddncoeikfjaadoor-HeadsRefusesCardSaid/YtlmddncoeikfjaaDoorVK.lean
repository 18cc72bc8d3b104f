/- Walks: a matrix times a vector: the walk. -/
import Derived.Test.YtlmddncoeikfjaaDoorVJ
namespace Go.Proofs.YtlmddncoeikfjaaDoor
open Go.RowKit Go.Proofs.YtlmddncoeikfjaaDoorW.PrintWords
set_option maxRecDepth 100000
set_option maxHeartbeats 400000

def mvFits (x : SM) (v : List Int) : Bool := okMat x && decide ((v.length : Int) = x.f1)
theorem cal_MatVec (w0 : World) (x : SM) (cs : List Value) (V : Option Addr) (k : Nat) (v : List Int) (hx : kM.K w0 x cs) (hnar : nar x.f2) (hV : (Kd.int .i8).C w0 V v.length v) (hsm : x.f2.length ≤ 100000) : Cal Tryd.prog 34 #[.agg cs.toArray, .slice V v.length k] w0 fun r w1 => Below w0.heap.size w0 w1 ∧ ((mvFits x v = false → r = .tuple #[.slice none 0 0, .int .i64 30]) ∧ (mvFits x v = true → ∃ u, r = .tuple #[u, .int .i64 0] ∧ (Kd.int .i64).R 2 w1 w0.heap.size (fun _ => True) u (mvOf x v))) := by
  obtain ⟨A, c, rfl, hl, hC⟩ := kM_open hx
  refine cal_W (n := 47) Tryd.func34 rfl rfl (by simp) ?_
  have hs := Sep.refl w0
  refine W_seq ?_
  refine W_region ?_
  refine L_op rfl (o_box (cs := [_, _, _]) rfl rfl hs ?_)  -- t2 := box 26 t0
  intro g2 w1 hs
  refine L_q rfl (y_assign rfl) ?_  -- t4 := assign nil
  refine L_q rfl (y_assign rfl) ?_  -- t5 := assign 0
  refine L_nil ?_
  refine W_seq ?_
  refine W_seq ?_
  refine W_region ?_
  refine L_q rfl (y_fls (cs := [_, _, _]) r_26 sz_26 rfl (rg_of_range (hs.rg 0 rfl 0 3 rfl))) ?_  -- t9 := load 26 t2
  refine L_op rfl (o_call en_57 rfl hs (cal_tensor_Check _ x _ (kM.K_below hs.below hx) hnar) ?_)  -- t10 := CALL f57(t9) :37
  intro v10 w1 hb hs hv10
  refine L_q rfl (y_assign hv10) ?_  -- t6 := assign t10
  refine L_nil ?_
  refine W_seq ?_
  refine W_region ?_
  refine L_q rfl (y_move rfl) ?_  -- t11 := move t6
  refine L_q rfl (y_neq rfl rfl) ?_  -- t12 := binOp neq 37 t11 0 37
  refine L_q rfl (y_move rfl) ?_  -- t13 := move t12
  refine L_qif rfl rfl rfl (fun hc => (y_move rfl)) ?_  -- t14 := move t1 ?(2,false)
  refine L_qif rfl rfl rfl (fun hc => (y_len u_24 (gv_yes hc))) ?_  -- t15 := len(t14) :3 ?(2,false)
  refine L_qif rfl rfl rfl (fun hc => (y_fa fa_26_1 rfl)) ?_  -- t16 := fieldAddr 26 t2 1 ?(2,false)
  refine L_qif rfl rfl rfl (fun hc => (y_fld r_3 (gv_yes hc) (rg_of_range (hs.rg 0 rfl 1 1 rfl)))) ?_  -- t17 := load 3 t16 ?(2,false)
  refine L_qif rfl rfl rfl (fun hc => (y_neq (gv_yes hc) (gv_yes hc))) ?_  -- t18 := binOp neq 3 t15 t17 3 ?(2,false)
  refine L_q rfl (y_por rfl rfl) ?_  -- t19 := pick t13 true t18
  refine L_nil ?_
  refine W_if rfl (fun hb => ?_) (fun hb => ?_)
  · skip
    refine W_seq ?_
    refine W_region ?_
    refine L_q rfl (y_assign rfl) ?_  -- t4 := assign nil
    refine L_q rfl (y_assign rfl) ?_  -- t5 := assign 30
    refine L_nil ?_
    refine W_ret ?_
    -- sep: g2
    refine ret_many (rs := [.tmp 4, .tmp 5]) rfl (.tmp (v := .slice none 0 0) rfl (.tmp (v := .int .i64 30) rfl .nil)) (by simp) ⟨_, rfl, hs.below, ?_⟩
    refine ⟨fun _ => rfl, fun h => ?_⟩
    rw [mvFits, Bool.and_eq_true, decide_eq_true_eq] at h
    simp [er, h.1, h.2] at hb
  · skip
    have hgood : okMat x = true ∧ (v.length : Int) = x.f1 := by
      revert hb
      cases okMat x <;> simp [er]
    have hfit : mvFits x v = true := by rw [mvFits, Bool.and_eq_true, decide_eq_true_eq]; exact hgood
    obtain ⟨hr1, hc1, hrc⟩ := okShape_len (by have := hgood.1; rw [okMat, Bool.and_eq_true] at this; exact this.1) (by omega)
    have hr2 : x.f0 * 1 ≤ x.f0 * x.f1 := Int.mul_le_mul_of_nonneg_left hc1 (by omega)
    have hc2 : 1 * x.f1 ≤ x.f0 * x.f1 := Int.mul_le_mul_of_nonneg_right hr1 (by omega)
    refine W_skip ?_
    refine W_seq ?_
    refine W_region ?_
    refine L_q rfl (y_fa fa_26_0 rfl) ?_  -- t20 := fieldAddr 26 t2 0
    refine L_q rfl (y_fld r_3 rfl (rg_of_range (hs.rg 0 rfl 0 1 rfl))) ?_  -- t21 := load 3 t20
    refine L_op rfl (o_make (enc := Value.int .i64) (dv := (0 : Int)) (h1 := fun _ => rfl) u_36 i_2 rfl rfl rfl (by omega) (by omega) (by omega) hs ?_)  -- t22 := makeSlice 36 t21 t21
    intro g22 w1 hs
    refine L_q rfl (y_assign rfl) ?_  -- t7 := assign t22
    refine L_nil ?_
    refine W_seq ?_
    refine W_seq ?_
    refine W_region ?_
    refine L_q rfl (y_move rfl) ?_  -- t23 := move t7
    refine L_q rfl (y_len u_36 rfl) ?_  -- t24 := len(t23) :3
    refine L_q rfl (y_move rfl) ?_  -- t25 := move 0
    refine L_nil ?_
    refine W_block ?_
    refine W_loop (fun m f w1 => ∃ i : Int, 0 ≤ i ∧ i ≤ (x.f0.toNat : Int) ∧ m = ((x.f0.toNat : Int) - i).toNat ∧ True ∧ sl f 1 = .slice V v.length k ∧ sl f 2 = .pointer (some ⟨g2, 0, none⟩) ∧ sl f 7 = .slice (some ⟨g22, 0, none⟩) x.f0.toNat x.f0.toNat ∧ sl f 24 = .int .i64 (x.f0.toNat : Int) ∧ sl f 25 = .int .i64 i ∧ Sep w0 w1 [row w0.heap.size (Kd.int .i64) 2 (.slice (some ⟨g22, 0, none⟩) x.f0.toNat x.f0.toNat) (mvTo x v i.toNat), blk g2 26 [.int .i64 x.f0, .int .i64 x.f1, .slice A x.f2.length c]]) (((x.f0.toNat : Int) : Int) - 0).toNat ?_ ?_
    · exact ⟨0, by omega, by omega, rfl, trivial, rfl, rfl, rfl, rfl, rfl, hs⟩
    rintro m f w1 ⟨i, hi0, hi1, rfl, _, h1, h2, h7, h24, h25, hs⟩
    refine W_seq ?_
    refine W_region ?_
    refine L_q rfl (y_lss h25 h24) ?_  -- t26 := binOp lss 3 t25 t24 3
    refine L_nil ?_
    refine W_seq ?_
    refine W_if rfl (fun hb => ?_) (fun hb => ?_)
    · skip
      have hlt : i < (x.f0.toNat : Int) := of_decide_eq_true hb
      have hm1 : 0 ≤ i * x.f1 := Int.mul_nonneg hi0 (by omega)
      have hm3 : (i + 1) * x.f1 = i * x.f1 + x.f1 := by rw [Int.add_mul, Int.one_mul]
      have hm2 : (i + 1) * x.f1 ≤ x.f0 * x.f1 := Int.mul_le_mul_of_nonneg_right (by omega) (by omega)
      have hlo : (i * x.f1).toNat = i.toNat * x.f1.toNat := by rw [Int.toNat_mul hi0 (by omega)]
      have hhi : ((i + 1) * x.f1).toNat = (i.toNat + 1) * x.f1.toNat := by rw [Int.toNat_mul (by omega) (by omega)]; congr 1; omega
      have hrl : (rowOf x i.toNat).length = ((i + 1) * x.f1).toNat - (i * x.f1).toNat := by rw [rowOf, ← hhi, ← hlo, List.length_drop, List.length_take]; omega
      refine W_skip ?_
      refine W_seq ?_
      refine W_block ?_
      refine W_seq ?_
      refine W_region ?_
      refine L_q rfl (y_move h25) ?_  -- t27 := move t25
      refine L_q rfl (y_assign rfl) ?_  -- t8 := assign t27
      refine L_nil ?_
      refine W_region ?_
      refine L_q rfl (y_move h7) ?_  -- t28 := move t7
      refine L_q rfl (y_move rfl) ?_  -- t29 := move t8
      refine L_q rfl (y_fa fa_26_2 h2) ?_  -- t30 := fieldAddr 26 t2 2
      refine L_q rfl (y_fld r_24 rfl (rg_of_range (hs.rg 1 rfl 2 1 rfl))) ?_  -- t31 := load 24 t30
      refine L_q rfl (y_move rfl) ?_  -- t32 := move t8
      refine L_q rfl (y_fa fa_26_1 h2) ?_  -- t33 := fieldAddr 26 t2 1
      refine L_q rfl (y_fld r_3 rfl (rg_of_range (hs.rg 1 rfl 1 1 rfl))) ?_  -- t34 := load 3 t33
      refine L_q rfl (y_muli rfl rfl rfl (by omega) (by omega)) ?_  -- t35 := binOp mul 3 t32 t34 3
      refine L_q rfl (y_move rfl) ?_  -- t36 := move t8
      refine L_q rfl (y_addi rfl rfl (by omega) (by omega)) ?_  -- t37 := binOp add 3 t36 1 3
      refine L_q rfl (y_fa fa_26_1 h2) ?_  -- t38 := fieldAddr 26 t2 1
      refine L_q rfl (y_fld r_3 rfl (rg_of_range (hs.rg 1 rfl 1 1 rfl))) ?_  -- t39 := load 3 t38
      refine L_q rfl (y_muli rfl rfl rfl (by omega) (by omega)) ?_  -- t40 := binOp mul 3 t37 t39 3
      refine L_q rfl (y_slcn u_24 sz_63 rfl rfl rfl (by omega) (by omega) (by omega) hrl.symm) ?_  -- t41 := slice 24 t31 t35 t40 none
      refine L_q rfl (y_move h1) ?_  -- t42 := move t1
      refine L_op rfl (o_call en_58 rfl hs (cal_products _ _ V _ k (rowOf x i.toNat) v (by have hq := Kd.C_mid (lo := (i * x.f1).toNat) (hi := ((i + 1) * x.f1).toNat) (c := c) (Kd.C_below hC hs.below) (by omega) (by omega) hl; rw [hlo, hhi] at hq; rw [hlo]; exact hq) (Kd.C_below hV hs.below) (by omega)) ?_)  -- t43 := CALL f58(t41, t42) :2
      intro v43 w1 hb hs hv43
      refine L_q rfl (y_ia u_36 sz_2 rfl rfl (by omega) (by omega)) ?_  -- t44 := indexAddr 36 t28 t29
      refine L_op rfl (o_rput (m := x.f0.toNat) sz_2 rfl hv43 rfl hs (mv_len (by omega)) hi0 (by omega) ?_)  -- store 2 t44 t43
      intro w1 hs
      rw [show dotTo (rowOf x i.toNat) v (rowOf x i.toNat).length = mvAt x v i.toNat from rfl, mv_set (by omega), show i.toNat + 1 = (i + 1).toNat by omega] at hs
      refine L_nil ?_
      refine W_region ?_
      refine L_q rfl (y_addi h25 rfl (by omega) (by omega)) ?_  -- t45 := binOp add 3 t25 1 3
      refine L_q rfl (y_move rfl) ?_  -- t25 := move t45
      refine L_nil ?_
      exact ⟨_, by omega, i + 1, by omega, by omega, rfl, trivial, h1, h2, h7, h24, rfl, hs⟩
    · skip
      refine W_exit ?_
      refine x_hit ?_
      refine W_seq ?_
      refine W_region ?_
      refine L_q rfl (y_move h7) ?_  -- t46 := move t7
      refine L_q rfl (y_assign rfl) ?_  -- t4 := assign t46
      refine L_q rfl (y_assign rfl) ?_  -- t5 := assign 0
      refine L_nil ?_
      refine W_ret ?_
      -- sep: row22 g2
      refine ret_many (rs := [.tmp 4, .tmp 5]) rfl (.tmp (v := .slice (some ⟨g22, 0, none⟩) x.f0.toNat x.f0.toNat) rfl (.tmp (v := .int .i64 0) rfl .nil)) (by simp) ⟨_, rfl, hs.below, ?_⟩
      refine ⟨fun h => absurd (hfit.symm.trans h) (by simp), fun _ => ⟨_, rfl, ?_⟩⟩
      have hq := hs.outR
      rwa [show i.toNat = x.f0.toNat by have := of_decide_eq_false hb; omega, mv_end] at hq
end Go.Proofs.YtlmddncoeikfjaaDoor
