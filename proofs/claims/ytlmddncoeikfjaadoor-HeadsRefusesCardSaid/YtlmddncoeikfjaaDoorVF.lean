/- Walks: copies of lists of narrow numbers. -/
import Derived.Test.YtlmddncoeikfjaaDoorVE
namespace Go.Proofs.YtlmddncoeikfjaaDoor
open Go.RowKit Go.Proofs.YtlmddncoeikfjaaDoorW.PrintWords
set_option maxRecDepth 100000
set_option maxHeartbeats 400000

theorem take_snoc {l : List Int} {i : Int} (h0 : 0 ≤ i) (h1 : i < l.length) : l.take i.toNat ++ [rd l i] = l.take (i + 1).toNat := by
  have hi : i.toNat < l.length := by omega
  rw [show (i + 1).toNat = i.toNat + 1 by omega, List.take_succ_eq_append_getElem hi, rd_get h0 h1]
theorem cal_model_narrow (w0 : World) (A : Option Addr) (c : Nat) (l : List Int) (hC : (Kd.int .i8).C w0 A l.length l) (hsm : l.length ≤ 100000) : Cal Tryd.prog 73 #[.slice A l.length c] w0 fun v w1 => Below w0.heap.size w0 w1 ∧ (Kd.int .i8).R 63 w1 w0.heap.size (fun _ => True) v l := by
  refine cal_W (n := 5) Tryd.func73 rfl rfl (by simp) ?_
  have hs := (Sep.refl w0).nilR (Kd.int .i8) 63
  refine W_seq ?_
  refine W_region ?_
  refine L_q rfl (y_assign rfl) ?_  -- t2 := assign nil
  refine L_nil ?_
  refine W_seq ?_
  refine W_region ?_
  refine L_q rfl (y_move rfl) ?_  -- t3 := move t0
  refine L_op rfl (o_apps u_24 i_63 rfl (by decide) (by decide) rfl rfl hC (fun _ _ h => h) hs (by simp; omega) ?_)  -- t4 := append(nil, t3) :24
  intro v4 w1 hs
  refine L_q rfl (y_assign rfl) ?_  -- t2 := assign t4
  refine L_nil ?_
  refine W_ret ?_
  -- sep: 
  refine ret_one rfl (.tmp (v := v4) rfl .nil) ⟨_, rfl, hs.below, ?_⟩
  exact hs.outR

theorem cal_ref00_CopyNarrow (w0 : World) (A : Option Addr) (c : Nat) (l : List Int) (hC : (Kd.int .i8).C w0 A l.length l) (hsm : l.length ≤ 100000) : Cal Tryd.prog 38 #[.slice A l.length c] w0 fun v w1 => Below w0.heap.size w0 w1 ∧ (Kd.int .i8).R 63 w1 w0.heap.size (fun _ => True) v l := by
  refine cal_W (n := 19) Tryd.func38 rfl rfl (by simp) ?_
  have hs := (Sep.refl w0).nilR (Kd.int .i8) 63
  refine W_seq ?_
  refine W_region ?_
  refine L_q rfl (y_assign rfl) ?_  -- t2 := assign nil
  refine L_nil ?_
  refine W_seq ?_
  refine W_region ?_
  refine L_q rfl (y_assign rfl) ?_  -- t3 := assign nil
  refine L_nil ?_
  refine W_seq ?_
  refine W_seq ?_
  refine W_region ?_
  refine L_q rfl (y_assign rfl) ?_  -- t4 := assign 0
  refine L_nil ?_
  refine W_block ?_
  refine W_loop (fun m f w1 => ∃ i : Int, 0 ≤ i ∧ i ≤ l.length ∧ m = (l.length - i).toNat ∧ ∃ v, sl f 0 = .slice A l.length c ∧ sl f 3 = v ∧ sl f 4 = .int .i64 i ∧ Sep w0 w1 [row w0.heap.size (Kd.int .i8) 63 v (l.take i.toNat)]) ((l.length : Int) - 0).toNat ?_ ?_
  · exact ⟨0, by omega, by omega, rfl, _, rfl, rfl, rfl, hs⟩
  rintro m f w1 ⟨i, hi0, hi1, rfl, v, h0, h3, h4, hs⟩
  refine W_seq ?_
  refine W_seq ?_
  refine W_region ?_
  refine L_q rfl (y_move h4) ?_  -- t5 := move t4
  refine L_q rfl (y_move h0) ?_  -- t6 := move t0
  refine L_q rfl (y_len u_24 rfl) ?_  -- t7 := len(t6) :3
  refine L_q rfl (y_lss rfl rfl) ?_  -- t8 := binOp lss 3 t5 t7 3
  refine L_nil ?_
  refine W_if rfl (fun hb => ?_) (fun hb => ?_)
  · skip
    have hlt : i < l.length := of_decide_eq_true hb
    obtain ⟨ad, rfl, hrg⟩ := Kd.C_int (Kd.C_below hC hs.below) i hi0 hlt
    have htl := List.length_take_le' i.toNat l
    refine W_skip ?_
    refine W_seq ?_
    refine W_block ?_
    refine W_region ?_
    refine L_q rfl (y_move h3) ?_  -- t11 := move t3
    refine L_q rfl (y_move h0) ?_  -- t12 := move t0
    refine L_q rfl (y_move h4) ?_  -- t13 := move t4
    refine L_q rfl (y_ia u_24 sz_63 rfl rfl (by omega) (by omega)) ?_  -- t14 := indexAddr 24 t12 t13
    refine L_q rfl (y_fld r_63 rfl hrg) ?_  -- t15 := load 63 t14
    refine L_op rfl (o_bs (cs := [_]) u_24 i_63 rfl rfl rfl (by decide) (by decide) hs ?_)  -- t16 := buildSlice 24 1 [0=t15]
    intro g16 w1 hs
    refine L_op rfl (o_app0 u_24 i_63 rfl (by decide) (by decide) rfl rfl rfl hs (by omega) ?_)  -- t17 := append(t11, t16) :24
    intro v17 w1 hs
    rw [take_snoc hi0 hlt] at hs
    refine L_q rfl (y_assign rfl) ?_  -- t3 := assign t17
    refine L_nil ?_
    refine W_region ?_
    refine L_q rfl (y_move h4) ?_  -- t9 := move t4
    refine L_q rfl (y_addi rfl rfl (by omega) (by omega)) ?_  -- t10 := binOp add 3 t9 1 3
    refine L_q rfl (y_assign rfl) ?_  -- t4 := assign t10
    refine L_nil ?_
    exact ⟨_, by omega, i + 1, by omega, by omega, rfl, v17, h0, rfl, rfl, hs⟩
  · skip
    refine W_exit ?_
    refine x_hit ?_
    refine W_seq ?_
    refine W_region ?_
    refine L_q rfl (y_move h3) ?_  -- t18 := move t3
    refine L_q rfl (y_assign rfl) ?_  -- t2 := assign t18
    refine L_nil ?_
    refine W_ret ?_
    -- sep: 
    refine ret_one rfl (.tmp (v := v) rfl .nil) ⟨_, rfl, hs.below, ?_⟩
    have hq := hs.outR
    rwa [List.take_of_length_le (by have := of_decide_eq_false hb; omega)] at hq
end Go.Proofs.YtlmddncoeikfjaaDoor
