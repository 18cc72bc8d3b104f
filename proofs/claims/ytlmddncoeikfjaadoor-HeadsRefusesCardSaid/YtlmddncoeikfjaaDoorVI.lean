/- Walks: products of two lists. -/
import Derived.Test.YtlmddncoeikfjaaDoorVH
namespace Go.Proofs.YtlmddncoeikfjaaDoor
open Go.RowKit Go.Proofs.YtlmddncoeikfjaaDoorW.PrintWords
set_option maxRecDepth 100000
set_option maxHeartbeats 400000

/-- The first products, added up. -/
def dotTo (a b : List Int) : Nat → Int
  | 0 => 0
  | i + 1 => IntKind.i64.wrap (dotTo a b i + IntKind.i64.wrap (IntKind.i64.wrap (rd a i) * IntKind.i64.wrap (rd b i)))
theorem dot_step {a b : List Int} {i : Int} (h0 : 0 ≤ i) : IntKind.i64.wrap (dotTo a b i.toNat + IntKind.i64.wrap (IntKind.i64.wrap (rd a i) * IntKind.i64.wrap (rd b i))) = dotTo a b (i + 1).toNat := by
  rw [show (i + 1).toNat = i.toNat + 1 by omega, dotTo, Int.toNat_of_nonneg h0]
theorem cal_products (w0 : World) (A B : Option Addr) (c k : Nat) (a b : List Int) (hA : (Kd.int .i8).C w0 A a.length a) (hB : (Kd.int .i8).C w0 B b.length b) (hab : a.length ≤ b.length) : Cal Tryd.prog 58 #[.slice A a.length c, .slice B b.length k] w0 fun v w1 => Below w0.heap.size w0 w1 ∧ v = .int .i64 (dotTo a b a.length) := by
  have hlen : a.length ≤ 9223372036854775807 := by have := hA.2.1; simpa using this
  refine cal_W (n := 27) Tryd.func58 rfl rfl (by simp) ?_
  have hs := Sep.refl w0
  refine W_seq ?_
  refine W_region ?_
  refine L_q rfl (y_assign rfl) ?_  -- t4 := assign 0
  refine L_nil ?_
  refine W_seq ?_
  refine W_region ?_
  refine L_q rfl (y_assign rfl) ?_  -- t5 := assign 0
  refine L_nil ?_
  refine W_seq ?_
  refine W_seq ?_
  refine W_region ?_
  refine L_q rfl (y_move rfl) ?_  -- t7 := move t0
  refine L_q rfl (y_len u_24 rfl) ?_  -- t8 := len(t7) :3
  refine L_q rfl (y_move rfl) ?_  -- t9 := move 0
  refine L_nil ?_
  refine W_block ?_
  refine W_loop (fun m f w1 => ∃ i : Int, 0 ≤ i ∧ i ≤ a.length ∧ m = (a.length - i).toNat ∧ True ∧ sl f 0 = .slice A a.length c ∧ sl f 1 = .slice B b.length k ∧ sl f 5 = .int .i64 (dotTo a b i.toNat) ∧ sl f 8 = .int .i64 a.length ∧ sl f 9 = .int .i64 i ∧ Sep w0 w1 []) ((a.length : Int) - 0).toNat ?_ ?_
  · exact ⟨0, by omega, by omega, rfl, trivial, rfl, rfl, rfl, rfl, rfl, hs⟩
  rintro m f w1 ⟨i, hi0, hi1, rfl, _, h0, h1, h5, h8, h9, hs⟩
  refine W_seq ?_
  refine W_region ?_
  refine L_q rfl (y_lss h9 h8) ?_  -- t10 := binOp lss 3 t9 t8 3
  refine L_nil ?_
  refine W_seq ?_
  refine W_if rfl (fun hb => ?_) (fun hb => ?_)
  · skip
    have hlt : i < a.length := of_decide_eq_true hb
    obtain ⟨ad, rfl, hrg⟩ := Kd.C_int hA i hi0 hlt
    obtain ⟨bd, rfl, hrh⟩ := Kd.C_int hB i hi0 (by omega)
    refine W_skip ?_
    refine W_seq ?_
    refine W_block ?_
    refine W_seq ?_
    refine W_region ?_
    refine L_q rfl (y_move h9) ?_  -- t11 := move t9
    refine L_q rfl (y_assign rfl) ?_  -- t6 := assign t11
    refine L_nil ?_
    refine W_draw rfl (fun w' => w' = w1.drew) ?_
    replace hs := hs.drew
    refine H_q (i := 0) rfl (by kernel_rfl) rfl (fun _ hw => by subst hw; exact (y_move h5)) rfl ?_  -- t12 := move t5
    refine H_q (i := 1) rfl (by kernel_rfl) rfl (fun _ hw => by subst hw; exact (y_move h0)) rfl ?_  -- t13 := move t0
    refine H_q (i := 2) rfl (by kernel_rfl) rfl (fun _ hw => by subst hw; exact (y_move rfl)) rfl ?_  -- t14 := move t6
    refine H_q (i := 3) rfl (by kernel_rfl) rfl (fun _ hw => by subst hw; exact (y_ia u_24 sz_63 rfl rfl (by omega) (by omega))) rfl ?_  -- t15 := indexAddr 24 t13 t14
    refine H_q (i := 4) rfl (by kernel_rfl) rfl (fun _ hw => by subst hw; exact (y_fld r_63 rfl (hrg.below hs.below))) rfl ?_  -- t16 := load 63 t15
    refine H_q (i := 5) rfl (by kernel_rfl) rfl (fun _ hw => by subst hw; exact (y_conv u_63 u_2 rfl)) rfl ?_  -- t17 := convert 63 2 t16
    refine H_q (i := 6) rfl (by kernel_rfl) rfl (fun _ hw => by subst hw; exact (y_move h1)) rfl ?_  -- t18 := move t1
    refine H_q (i := 7) rfl (by kernel_rfl) rfl (fun _ hw => by subst hw; exact (y_move rfl)) rfl ?_  -- t19 := move t6
    refine H_q (i := 8) rfl (by kernel_rfl) rfl (fun _ hw => by subst hw; exact (y_ia u_24 sz_63 rfl rfl (by omega) (by omega))) rfl ?_  -- t20 := indexAddr 24 t18 t19
    refine H_q (i := 9) rfl (by kernel_rfl) rfl (fun _ hw => by subst hw; exact (y_fld r_63 rfl (hrh.below hs.below))) rfl ?_  -- t21 := load 63 t20
    refine H_q (i := 10) rfl (by kernel_rfl) rfl (fun _ hw => by subst hw; exact (y_conv u_63 u_2 rfl)) rfl ?_  -- t22 := convert 63 2 t21
    refine H_q (i := 11) rfl (by kernel_rfl) rfl (fun _ hw => by subst hw; exact (y_mul rfl rfl)) rfl ?_  -- t23 := binOp mul 2 t17 t22 2
    refine H_q (i := 12) rfl (by kernel_rfl) rfl (fun _ hw => by subst hw; exact (y_add rfl rfl)) rfl ?_  -- t24 := binOp add 2 t12 t23 2
    refine H_q (i := 13) rfl (by kernel_rfl) rfl (fun _ hw => by subst hw; exact (y_assign rfl)) rfl ?_  -- t5 := assign t24
    refine H_done (by kernel_rfl) ?_
    refine W_region ?_
    refine L_q rfl (y_addi h9 rfl (by omega) (by omega)) ?_  -- t25 := binOp add 3 t9 1 3
    refine L_q rfl (y_move rfl) ?_  -- t9 := move t25
    refine L_nil ?_
    exact ⟨_, by omega, i + 1, by omega, by omega, rfl, trivial, h0, h1, congrArg (Value.int .i64) (dot_step hi0), h8, rfl, hs⟩
  · skip
    refine W_exit ?_
    refine x_hit ?_
    refine W_seq ?_
    refine W_region ?_
    refine L_q rfl (y_move h5) ?_  -- t26 := move t5
    refine L_q rfl (y_assign rfl) ?_  -- t4 := assign t26
    refine L_nil ?_
    refine W_ret ?_
    -- sep: 
    refine ret_one rfl (.tmp (v := .int .i64 (dotTo a b i.toNat)) rfl .nil) ⟨_, rfl, hs.below, ?_⟩
    have : i.toNat = a.length := by have := of_decide_eq_false hb; omega
    rw [this]
end Go.Proofs.YtlmddncoeikfjaaDoor
