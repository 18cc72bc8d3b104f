/- Walks: comparisons; the insertion sort of the library, stable. -/
import Derived.Test.YtlmddncoeikfjaaDoorVR
namespace Go.Proofs.YtlmddncoeikfjaaDoor
open Go.RowKit Go.Proofs.YtlmddncoeikfjaaDoorW.PrintWords
set_option maxRecDepth 100000
set_option maxHeartbeats 4000000

theorem cal_isNaN (w0 : World) (x : Int) : Cal Tryd.prog 76 #[.int .i64 x] w0 fun v w1 => Below w0.heap.size w0 w1 ∧ v = .bool false := by
  refine cal_W (n := 6) Tryd.func76 rfl rfl (by simp) ?_
  have hs := Sep.refl w0
  refine W_seq ?_
  refine W_region ?_
  refine L_q rfl (y_assign rfl) ?_  -- t2 := assign false
  refine L_nil ?_
  refine W_seq ?_
  refine W_region ?_
  refine L_q rfl (y_move rfl) ?_  -- t3 := move t0
  refine L_q rfl (y_move rfl) ?_  -- t4 := move t0
  refine L_q rfl (y_neq rfl rfl) ?_  -- t5 := binOp neq 2 t3 t4 2
  refine L_q rfl (y_assign rfl) ?_  -- t2 := assign t5
  refine L_nil ?_
  refine W_ret ?_
  -- sep: 
  refine ret_one rfl (.tmp (v := _) rfl .nil) ⟨_, rfl, hs.below, ?_⟩
  show Value.bool (decide (x ≠ x)) = .bool false
  simp
def cmpI (x y : Int) : Int := if x < y then -1 else if y < x then 1 else 0
theorem cal_Compare (w0 : World) (x y : Int) : Cal Tryd.prog 64 #[.int .i64 x, .int .i64 y] w0 fun v w1 => Below w0.heap.size w0 w1 ∧ v = .int .i64 (cmpI x y) := by
  refine cal_W (n := 20) Tryd.func64 rfl rfl (by simp) ?_
  have hs := Sep.refl w0
  refine W_seq ?_
  refine W_region ?_
  refine L_q rfl (y_assign rfl) ?_  -- t4 := assign 0
  refine L_nil ?_
  refine W_seq ?_
  refine W_region ?_
  refine L_q rfl (y_move rfl) ?_  -- t7 := move t0
  refine L_op rfl (o_call en_76 rfl hs (cal_isNaN _ x) ?_)  -- t8 := CALL f76(t7) :4
  intro v8 w1 hb hs hv8
  refine L_q rfl (y_assign hv8) ?_  -- t5 := assign t8
  refine L_nil ?_
  refine W_seq ?_
  refine W_region ?_
  refine L_q rfl (y_move rfl) ?_  -- t9 := move t1
  refine L_op rfl (o_call en_76 rfl hs (cal_isNaN _ y) ?_)  -- t10 := CALL f76(t9) :4
  intro v10 w1 hb hs hv10
  refine L_q rfl (y_assign hv10) ?_  -- t6 := assign t10
  refine L_nil ?_
  refine W_seq ?_
  refine W_seq ?_
  refine W_region ?_
  refine L_q rfl (y_move rfl) ?_  -- t11 := move t5
  refine L_nil ?_
  refine W_if rfl (fun hq1 => ?_) (fun hq1 => ?_)
  · skip
    cases hq1
  · skip
    refine W_skip ?_
    refine W_seq ?_
    refine W_seq ?_
    refine W_region ?_
    refine L_q rfl (y_move rfl) ?_  -- t13 := move t6
    refine L_nil ?_
    refine W_if rfl (fun hq3 => ?_) (fun hq3 => ?_)
    · skip
      cases hq3
    · skip
      refine W_skip ?_
      refine W_seq ?_
      refine W_seq ?_
      refine W_region ?_
      refine L_q rfl (y_move rfl) ?_  -- t14 := move t0
      refine L_q rfl (y_move rfl) ?_  -- t15 := move t1
      refine L_q rfl (y_lss rfl rfl) ?_  -- t16 := binOp lss 2 t14 t15 2
      refine L_nil ?_
      refine W_if rfl (fun hq4 => ?_) (fun hq4 => ?_)
      · skip
        refine W_seq ?_
        refine W_region ?_
        refine L_q rfl (y_assign rfl) ?_  -- t4 := assign -1
        refine L_nil ?_
        refine W_ret ?_
        -- sep: 
        refine ret_one rfl (.tmp (v := .int .i64 (-1)) rfl .nil) ⟨_, rfl, hs.below, ?_⟩
        rw [cmpI, if_pos (of_decide_eq_true hq4)]
      · skip
        refine W_skip ?_
        refine W_seq ?_
        refine W_seq ?_
        refine W_region ?_
        refine L_q rfl (y_move rfl) ?_  -- t17 := move t0
        refine L_q rfl (y_move rfl) ?_  -- t18 := move t1
        refine L_q rfl (y_gtr rfl rfl) ?_  -- t19 := binOp gtr 2 t17 t18 2
        refine L_nil ?_
        refine W_if rfl (fun hq5 => ?_) (fun hq5 => ?_)
        · skip
          refine W_seq ?_
          refine W_region ?_
          refine L_q rfl (y_assign rfl) ?_  -- t4 := assign 1
          refine L_nil ?_
          refine W_ret ?_
          -- sep: 
          refine ret_one rfl (.tmp (v := .int .i64 1) rfl .nil) ⟨_, rfl, hs.below, ?_⟩
          rw [cmpI, if_neg (of_decide_eq_false hq4), if_pos (of_decide_eq_true hq5)]
        · skip
          refine W_skip ?_
          refine W_seq ?_
          refine W_region ?_
          refine L_q rfl (y_assign rfl) ?_  -- t4 := assign 0
          refine L_nil ?_
          refine W_ret ?_
          -- sep: 
          refine ret_one rfl (.tmp (v := .int .i64 0) rfl .nil) ⟨_, rfl, hs.below, ?_⟩
          rw [cmpI, if_neg (of_decide_eq_false hq4), if_neg (of_decide_eq_false hq5)]
/-- A function that compares, as the sorts call it. -/
def CmpS (P : Program) (h : FuncId) (caps : List Value) (cf : Int → Int → Int) (Dm : Int → Prop) (w0 : World) (l : List Asr) : Prop := ∀ (a b : Int) (w : World) (m : Asr), Dm a → Dm b → Sep w0 w (m :: l) → Cal P h ([Value.int .i64 a, Value.int .i64 b] ++ caps).toArray w fun v w1 => Below w.heap.size w w1 ∧ v = .int .i64 (cf a b)
def swpI (ys : List Int) (j : Int) : List Int := (ys.set j.toNat (rd ys (j - 1))).set (j - 1).toNat (rd ys j)
def sink (cf : Int → Int → Int) (a : Int) : Nat → Int → List Int → List Int
  | 0, _, ys => ys
  | m + 1, j, ys => if a < j ∧ cf (rd ys j) (rd ys (j - 1)) < 0 then sink cf a m (j - 1) (swpI ys j) else ys
def insTo (cf : Int → Int → Int) (a : Int) : Nat → List Int → List Int
  | 0, xs => xs
  | m + 1, xs => sink cf a (m + 1) (a + 1 + m) (insTo cf a m xs)
theorem rd_mem {ys : List Int} {j : Int} (h0 : 0 ≤ j) (h1 : j < ys.length) : rd ys j ∈ ys := by
  rw [rd_get h0 h1]
  exact List.getElem_mem _
theorem swp_len (ys : List Int) (j : Int) : (swpI ys j).length = ys.length := by simp [swpI]
theorem swp_all {ys : List Int} {j : Int} {D : Int → Prop} (h : ∀ x ∈ ys, D x) (h0 : 1 ≤ j) (h1 : j < ys.length) : ∀ x ∈ swpI ys j, D x := by
  intro x hx
  rcases List.mem_or_eq_of_mem_set hx with hx | rfl
  · rcases List.mem_or_eq_of_mem_set hx with hx | rfl
    · exact h x hx
    · exact h _ (rd_mem (by omega) (by omega))
  · exact h _ (rd_mem (by omega) h1)
theorem sink_go {cf : Int → Int → Int} {a j : Int} {ys : List Int} (h1 : a < j) (h2 : cf (rd ys j) (rd ys (j - 1)) < 0) : sink cf a (j - a).toNat j ys = sink cf a (j - 1 - a).toNat (j - 1) (swpI ys j) := by
  rw [show (j - a).toNat = (j - 1 - a).toNat + 1 by omega, sink, if_pos ⟨h1, h2⟩]
theorem sink_end {cf : Int → Int → Int} {a j : Int} {ys : List Int} (h : ¬ (a < j ∧ cf (rd ys j) (rd ys (j - 1)) < 0)) : sink cf a (j - a).toNat j ys = ys := by
  cases hm : (j - a).toNat with
  | zero => rfl
  | succ m => rw [sink, if_neg h]
theorem cal_insertion (w0 wS : World) (g n cap : Nat) (xs : List Int) (a b : Int) (h : FuncId) (caps : List Value) (cf : Int → Int → Int) (Dm : Int → Prop) (l : List Asr) (hs : Sep w0 wS (row w0.heap.size (Kd.int .i64) 3 (.slice (some ⟨g, 0, none⟩) n cap) xs :: l)) (hen : Enters Tryd.prog h) (hcmp : CmpS Tryd.prog h caps cf Dm w0 l) (hD : ∀ x ∈ xs, Dm x) (h0 : 0 ≤ a) (hab : a ≤ b) (hb : b ≤ n) (hn : n ≤ 1099511627776) :
    Cal Tryd.prog 77 #[.slice (some ⟨g, 0, none⟩) n cap, .int .i64 a, .int .i64 b, .func (.func h) #[] caps.toArray] wS fun v w1 => Below w0.heap.size w0 w1 ∧ Sep w0 w1 (row w0.heap.size (Kd.int .i64) 3 (.slice (some ⟨g, 0, none⟩) n cap) (insTo cf a (b - a - 1).toNat xs) :: l) ∧ v = .tuple #[] := by
  have hlen0 := hs.rowLen 0 rfl
  have hlx := hlen0.1
  have hln := hlen0.2.2
  refine cal_W (n := 53) Tryd.func77 rfl rfl (by simp) ?_
  skip
  refine W_seq ?_
  refine W_region ?_
  refine L_q rfl (y_move rfl) ?_  -- t10 := move t1
  refine L_q rfl (y_addi rfl rfl (by omega) (by omega)) ?_  -- t11 := binOp add 3 t10 1 3
  refine L_q rfl (y_assign rfl) ?_  -- t8 := assign t11
  refine L_nil ?_
  refine W_block ?_
  obtain ⟨L1, hs, hL1⟩ := hs.named1
  refine W_loopF (fun f0 m f w1 => ∃ (i : Int) (ys : List Int), 0 ≤ i ∧ i ≤ (b - a) ∧ m = ((b - a) - i).toNat ∧ (ys = insTo cf a i.toNat xs ∧ ys.length = n ∧ (∀ x ∈ ys, Dm x) ∧ (i = 0 ∨ a + i < b)) ∧ sl f 0 = sl f0 0 ∧ sl f 1 = sl f0 1 ∧ sl f 2 = sl f0 2 ∧ sl f 3 = sl f0 3 ∧ sl f 8 = .int .i64 (a + 1 + i) ∧ Sep w0 w1 (row w0.heap.size (Kd.int .i64) 3 (.slice (some ⟨g, 0, none⟩) n cap) ys :: L1)) (((b - a) : Int) - 0).toNat ?_ ?_
  · exact ⟨0, xs, by omega, by omega, rfl, ⟨rfl, hlx, hD, .inl rfl⟩, rfl, rfl, rfl, rfl, (congrArg (Value.int .i64) (by omega)), hs⟩
  clear hs
  rintro m f w1 ⟨i, ys, hi0, hi1, rfl, hP1, h1_0, h1_1, h1_2, h1_3, h1_8, hs⟩
  subst hL1
  obtain ⟨hys, hlen, hDy, hib⟩ := hP1
  refine W_seq ?_
  refine W_seq ?_
  refine W_region ?_
  refine L_q rfl (y_move h1_8) ?_  -- t12 := move t8
  refine L_q rfl (y_move h1_2) ?_  -- t13 := move t2
  refine L_q rfl (y_lss rfl rfl) ?_  -- t14 := binOp lss 3 t12 t13 3
  refine L_nil ?_
  refine W_if rfl (fun hq1 => ?_) (fun hq1 => ?_)
  · skip
    have hlt : a + 1 + i < b := of_decide_eq_true hq1
    refine W_skip ?_
    refine W_seq ?_
    refine W_block ?_
    refine W_seq ?_
    refine W_region ?_
    refine L_q rfl (y_move h1_8) ?_  -- t17 := move t8
    refine L_q rfl (y_assign rfl) ?_  -- t9 := assign t17
    refine L_nil ?_
    refine W_block ?_
    obtain ⟨L2, hs, hL2⟩ := hs.named1
    refine W_loopF (fun f0 m f w1 => ∃ (k : Int) (ys2 : List Int), 0 ≤ k ∧ k ≤ (1 + i) ∧ m = ((1 + i) - k).toNat ∧ (sink cf a (a + 1 + i - k - a).toNat (a + 1 + i - k) ys2 = insTo cf a (i + 1).toNat xs ∧ ys2.length = n ∧ ∀ x ∈ ys2, Dm x) ∧ sl f 0 = sl f0 0 ∧ sl f 1 = sl f0 1 ∧ sl f 2 = sl f0 2 ∧ sl f 3 = sl f0 3 ∧ sl f 8 = sl f0 8 ∧ sl f 9 = .int .i64 (a + 1 + i - k) ∧ Sep w0 w1 (row w0.heap.size (Kd.int .i64) 3 (.slice (some ⟨g, 0, none⟩) n cap) ys2 :: L2)) (((1 + i) : Int) - 0).toNat ?_ ?_
    · exact ⟨0, ys, by omega, by omega, rfl, ⟨by rw [show (i + 1).toNat = i.toNat + 1 by omega, insTo, ← hys, show (a + 1 + i - 0 - a).toNat = i.toNat + 1 by omega, show a + 1 + i - 0 = a + 1 + (i.toNat : Int) by omega], hlen, hDy⟩, rfl, rfl, rfl, rfl, rfl, (congrArg (Value.int .i64) (by omega)), hs⟩
    clear hs
    rintro m f w1 ⟨k, ys2, hk0, hk1, rfl, hP2, h2_0, h2_1, h2_2, h2_3, h2_8, h2_9, hs⟩
    subst hL2
    obtain ⟨hsk, hlen2, hDy2⟩ := hP2
    refine W_seq ?_
    refine W_seq ?_
    refine W_drawS rfl [true] hs ?_
    intro w1 hs
    refine H_q (i := 0) rfl (by kernel_rfl) rfl (fun _ hw => (y_move h2_9)) (hs.keep [true]) ?_  -- t18 := move t9
    refine H_q (i := 1) rfl (by kernel_rfl) rfl (fun _ hw => (y_move (h2_1.trans h1_1))) (hs.keep [true]) ?_  -- t19 := move t1
    refine H_q (i := 2) rfl (by kernel_rfl) rfl (fun _ hw => (y_gtr rfl rfl)) (hs.keep [true]) ?_  -- t20 := binOp gtr 3 t18 t19 3
    refine H_q (i := 3) rfl (by kernel_rfl) rfl (fun _ hw => (y_move rfl)) (hs.keep [true]) ?_  -- t21 := move t20
    refine H_qif (i := 4) rfl (by kernel_rfl) rfl rfl rfl (fun _ hw hc => (y_move (h2_3.trans h1_3))) (hs.keep [true]) ?_  -- t22 := move t3 ?(3,true)
    refine H_qif (i := 5) rfl (by kernel_rfl) rfl rfl rfl (fun _ hw hc => (y_move (h2_0.trans h1_0))) (hs.keep [true]) ?_  -- t23 := move t0 ?(3,true)
    refine H_qif (i := 6) rfl (by kernel_rfl) rfl rfl rfl (fun _ hw hc => (y_move h2_9)) (hs.keep [true]) ?_  -- t24 := move t9 ?(3,true)
    refine H_qif (i := 7) rfl (by kernel_rfl) rfl rfl rfl (fun _ hw hc => (y_ia u_47 sz_3 (gv_yes hc) (gv_yes hc) (by first | omega | (simp at hc; omega)) (by first | omega | (simp at hc; omega)))) (hs.keep [true]) ?_  -- t25 := indexAddr 47 t23 t24 ?(3,true)
    refine H_qif (i := 8) rfl (by kernel_rfl) rfl rfl rfl (fun _ hw hc => (y_fld r_3 (gv_yes hc) (hw.rowRg 0 rfl (by first | omega | (simp at hc; omega)) (by first | omega | (simp at hc; omega)) _ rfl))) (hs.keep [true]) ?_  -- t26 := load 3 t25 ?(3,true)
    refine H_qif (i := 9) rfl (by kernel_rfl) rfl rfl rfl (fun _ hw hc => (y_move (h2_0.trans h1_0))) (hs.keep [true]) ?_  -- t27 := move t0 ?(3,true)
    refine H_qif (i := 10) rfl (by kernel_rfl) rfl rfl rfl (fun _ hw hc => (y_move h2_9)) (hs.keep [true]) ?_  -- t28 := move t9 ?(3,true)
    refine H_qif (i := 11) rfl (by kernel_rfl) rfl rfl rfl (fun _ hw hc => (y_subi (gv_yes hc) rfl (by first | omega | (simp at hc; omega)) (by first | omega | (simp at hc; omega)))) (hs.keep [true]) ?_  -- t29 := binOp sub 3 t28 1 3 ?(3,true)
    refine H_qif (i := 12) rfl (by kernel_rfl) rfl rfl rfl (fun _ hw hc => (y_ia u_47 sz_3 (gv_yes hc) (gv_yes hc) (by first | omega | (simp at hc; omega)) (by first | omega | (simp at hc; omega)))) (hs.keep [true]) ?_  -- t30 := indexAddr 47 t27 t29 ?(3,true)
    refine H_qif (i := 13) rfl (by kernel_rfl) rfl rfl rfl (fun _ hw hc => (y_fld r_3 (gv_yes hc) (hw.rowRg 0 rfl (by first | omega | (simp at hc; omega)) (by first | omega | (simp at hc; omega)) _ rfl))) (hs.keep [true]) ?_  -- t31 := load 3 t30 ?(3,true)
    refine H_callvif (i := 14) rfl (by kernel_rfl) (by kernel_rfl) rfl rfl hen (fun hc => (gv_yes hc)) (fun hc => args2 (gv_yes hc) (gv_yes hc)) hs (fun _ h => h.keep [true]) (fun hc => hcmp _ _ _ _ (hDy2 _ (rd_mem (by first | omega | (simp at hc; omega)) (by rw [hlen2]; omega))) (hDy2 _ (rd_mem (by first | omega | (simp at hc; omega)) (by rw [hlen2]; omega))) hs) ?_  -- t32 := CALL t22(t26, t31) :3 ?(3,true)
    intro v32 w1 hb hs hv32
    refine H_qif (i := 15) rfl (by kernel_rfl) rfl rfl rfl (fun _ hw hc => (y_lss (hv32.trans (gv_yes hc)) rfl)) (hs.keep [true]) ?_  -- t33 := binOp lss 3 t32 0 3 ?(3,true)
    refine H_q (i := 16) rfl (by kernel_rfl) rfl (fun _ hw => (y_pand rfl rfl)) (hs.keep [true]) ?_  -- t34 := pick t21 t33 false
    refine H_done (by kernel_rfl) ?_
    refine W_if rfl (fun hq2 => ?_) (fun hq2 => ?_)
    · skip
      have hq2' : a < a + 1 + i - k ∧ cf (rd ys2 (a + 1 + i - k)) (rd ys2 (a + 1 + i - k - 1)) < 0 := by simpa using hq2
      refine W_skip ?_
      refine W_seq ?_
      refine W_block ?_
      refine W_drawP rfl 15 [true] hs ?_
      intro w1 hs
      refine P_q (i := 0) rfl (by kernel_rfl) (by decide) rfl (fun _ => (y_move (h2_0.trans h1_0))) (.of (hs.keep [true])) ?_  -- t37 := move t0
      refine P_q (i := 1) rfl (by kernel_rfl) (by decide) rfl (fun _ => (y_move h2_9)) (.of (hs.keep [true])) ?_  -- t38 := move t9
      refine P_q (i := 2) rfl (by kernel_rfl) (by decide) rfl (fun _ => (y_move (h2_0.trans h1_0))) (.of (hs.keep [true])) ?_  -- t39 := move t0
      refine P_q (i := 3) rfl (by kernel_rfl) (by decide) rfl (fun _ => (y_move h2_9)) (.of (hs.keep [true])) ?_  -- t40 := move t9
      refine P_q (i := 4) rfl (by kernel_rfl) (by decide) rfl (fun _ => (y_subi rfl rfl (by omega) (by omega))) (.of (hs.keep [true])) ?_  -- t41 := binOp sub 3 t40 1 3
      refine P_q (i := 5) rfl (by kernel_rfl) (by decide) rfl (fun _ => (y_move (h2_0.trans h1_0))) (.of (hs.keep [true])) ?_  -- t42 := move t0
      refine P_q (i := 6) rfl (by kernel_rfl) (by decide) rfl (fun _ => (y_move h2_9)) (.of (hs.keep [true])) ?_  -- t43 := move t9
      refine P_q (i := 7) rfl (by kernel_rfl) (by decide) rfl (fun _ => (y_subi rfl rfl (by omega) (by omega))) (.of (hs.keep [true])) ?_  -- t44 := binOp sub 3 t43 1 3
      refine P_q (i := 8) rfl (by kernel_rfl) (by decide) rfl (fun _ => (y_ia u_47 sz_3 rfl rfl (by omega) (by omega))) (.of (hs.keep [true])) ?_  -- t45 := indexAddr 47 t42 t44
      refine P_ld (i := 9) rfl (by kernel_rfl) (by decide) rfl (by kernel_rfl) (by kernel_rfl) (fun _ hw => (y_fld r_3 rfl (hw.rowRg 0 rfl (by omega) (by omega) _ rfl))) (hs.keep [true]) ?_  -- t46 := load 3 t45
      refine P_q (i := 10) rfl (by kernel_rfl) (by decide) rfl (fun _ => (y_move (h2_0.trans h1_0))) (.of (hs.keep [true])) ?_  -- t47 := move t0
      refine P_q (i := 11) rfl (by kernel_rfl) (by decide) rfl (fun _ => (y_move h2_9)) (.of (hs.keep [true])) ?_  -- t48 := move t9
      refine P_q (i := 12) rfl (by kernel_rfl) (by decide) rfl (fun _ => (y_ia u_47 sz_3 rfl rfl (by omega) (by omega))) (.of (hs.keep [true])) ?_  -- t49 := indexAddr 47 t47 t48
      refine P_ld (i := 13) rfl (by kernel_rfl) (by decide) rfl (by kernel_rfl) (by kernel_rfl) (fun _ hw => (y_fld r_3 rfl (hw.rowRg 0 rfl (by omega) (by omega) _ rfl))) (hs.keep [true]) ?_  -- t50 := load 3 t49
      refine P_q (i := 14) rfl (by kernel_rfl) (by decide) rfl (fun _ => (y_ia u_47 sz_3 rfl rfl (by omega) (by omega))) (.of (hs.keep [true])) ?_  -- t51 := indexAddr 47 t37 t38
      refine P_loud (i := 15) rfl (by kernel_rfl) (by simp [Region.wanted]) (o_rputI sz_3 rfl rfl (hs.front 0) (by omega) (by omega) ?_)  -- store 3 t51 t46
      intro w1 hs
      refine ⟨.done (by kernel_rfl), ?_⟩
      refine P_q (i := 16) rfl (by kernel_rfl) (by decide) rfl (fun _ => (y_ia u_47 sz_3 rfl rfl (by omega) (by omega))) (.done (by kernel_rfl)) ?_  -- t52 := indexAddr 47 t39 t41
      refine P_loud (i := 17) rfl (by kernel_rfl) (by simp [Region.wanted]) (o_rputI sz_3 rfl rfl (hs.front 0) (by omega) (by omega) ?_)  -- store 3 t52 t50
      intro w1 hs
      refine ⟨.done (by kernel_rfl), ?_⟩
      refine P_done (by kernel_rfl) ?_
      refine W_region ?_
      refine L_q rfl (y_move h2_9) ?_  -- t35 := move t9
      refine L_q rfl (y_subi rfl rfl (by omega) (by omega)) ?_  -- t36 := binOp sub 3 t35 1 3
      refine L_q rfl (y_assign rfl) ?_  -- t9 := assign t36
      refine L_nil ?_
      -- sep: D
      exact ⟨_, by omega, k + 1, swpI ys2 (a + 1 + i - k), by omega, by omega, rfl, ⟨by rw [← hsk, sink_go hq2'.1 hq2'.2, show a + 1 + i - (k + 1) - a = a + 1 + i - k - 1 - a by omega, show a + 1 + i - (k + 1) = a + 1 + i - k - 1 by omega], (swp_len _ _).trans hlen2, swp_all hDy2 (by omega) (by rw [hlen2]; omega)⟩, h2_0, h2_1, h2_2, h2_3, h2_8, (congrArg (Value.int .i64) (by omega)), hs⟩
    · skip
      have hq2' : ¬ (a < a + 1 + i - k ∧ cf (rd ys2 (a + 1 + i - k)) (rd ys2 (a + 1 + i - k - 1)) < 0) := by simpa using hq2
      rw [sink_end hq2'] at hsk
      refine W_exit ?_
      refine x_hit ?_
      refine W_region ?_
      refine L_q rfl (y_move (h2_8.trans h1_8)) ?_  -- t15 := move t8
      refine L_q rfl (y_addi rfl rfl (by omega) (by omega)) ?_  -- t16 := binOp add 3 t15 1 3
      refine L_q rfl (y_assign rfl) ?_  -- t8 := assign t16
      refine L_nil ?_
      -- sep: D
      exact ⟨_, by omega, i + 1, ys2, by omega, by omega, rfl, ⟨hsk, hlen2, hDy2, .inr (by omega)⟩, (h2_0.trans h1_0), (h2_1.trans h1_1), (h2_2.trans h1_2), (h2_3.trans h1_3), (congrArg (Value.int .i64) (by omega)), hs⟩
  · skip
    refine W_exit ?_
    refine x_hit ?_
    -- sep: D
    refine ret_many (rs := []) rfl .nil (by simp) ⟨_, rfl, hs.below, ?_⟩
    have hge := of_decide_eq_false hq1
    have e : i.toNat = (b - a - 1).toNat := by omega
    rw [hys, e] at hs
    exact ⟨hs, rfl⟩
end Go.Proofs.YtlmddncoeikfjaaDoor
