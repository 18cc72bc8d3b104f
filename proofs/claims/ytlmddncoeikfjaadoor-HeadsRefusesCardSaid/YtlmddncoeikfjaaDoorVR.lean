/- Walks: models; logits. -/
import Derived.Test.YtlmddncoeikfjaaDoorVQ
namespace Go.Proofs.YtlmddncoeikfjaaDoor
open Go.RowKit Go.Proofs.YtlmddncoeikfjaaDoorW.PrintWords
set_option maxRecDepth 100000
set_option maxHeartbeats 4000000

theorem chk_zero {x : SW} (h : chk x = 0) : cfgOK x.f0 = true ∧ wtsOK x = true := by
  unfold chk er at h
  cases h1 : cfgOK x.f0 <;> cases h2 : wtsOK x <;> simp_all
theorem isMat_sm {m : SM} {r c : Int} (h : isMat m r c = true) (hr : r ≤ 128) (hc : c ≤ 128) (hb : m.f2.length ≤ 9223372036854775807) : m.f2.length ≤ 100000 := by
  simp only [isMat, okMat, Bool.and_eq_true, decide_eq_true_eq] at h
  obtain ⟨⟨⟨h1, _⟩, h2⟩, h3⟩ := h
  obtain ⟨ha, hb', he⟩ := okShape_len h1 hb
  have : m.f0 * m.f1 ≤ 128 * 128 := Int.mul_le_mul (by omega) (by omega) (by omega) (by omega)
  omega
theorem C_mem {α : Type} {D : Kd α} {w : World} {A : Option Addr} {xs : List α} (h : D.C w A xs.length xs) {y : α} (hy : y ∈ xs) : ∃ cs, D.K w y cs := by
  obtain ⟨i, hi, rfl⟩ := List.mem_iff_getElem.1 hy
  obtain ⟨ad, c, _, hK, _⟩ := Kd.C_at h xs[i] (i : Int) (by omega) (by omega)
  refine ⟨c, ?_⟩
  have e : xs.getD (i : Int).toNat xs[i] = xs[i] := by simp [hi]
  rwa [e] at hK
theorem C_big {α : Type} {D : Kd α} {w : World} {A : Option Addr} {m : Nat} {xs : List α} (h : D.C w A m xs) : m ≤ 9223372036854775807 := by have := h.2.1; simpa using this
/-- Weights that fit are small. -/
theorem sm_of {w : World} {x : SW} {cs : List Value} (hx : kW.K w x cs) (h : chk x = 0) : smW x := by
  obtain ⟨hc, hw⟩ := chk_zero h
  obtain ⟨A10, c10, A11, c11, A12, c12, A13, c13, A16, c16, A17, c17, rfl, l10, d10, l11, d11, l12, d12, l13, d13, l16, d16, l17, d17⟩ := kW_open hx
  have hcf := of_decide_eq_true hc
  have hhd := headOf_le hc
  have hkv := kv_le hc
  simp only [wtsOK, wtsHead, wtsLens, turnsOf, gainsOf, Bool.and_eq_true, decide_eq_true_eq, List.all_eq_true] at hw
  obtain ⟨⟨⟨⟨⟨⟨h1, h2⟩, h3, _⟩, h4, _⟩, h5, h6⟩, h7⟩, h8⟩ := hw
  have ht : IntKind.i64.wrap ((headOf x.f0).tdiv 2) ≤ 32 := by
    rw [Int.tdiv_eq_ediv_of_nonneg hhd.1, show IntKind.i64.wrap (headOf x.f0 / 2) = headOf x.f0 / 2 from IntWalk.i64_in _ (by omega)]
    omega
  refine ⟨isMat_sm h1 (by omega) (by omega) (C_big d10), by omega, fun l hl => ?_, by omega, by omega, isMat_sm h2 (by omega) (by omega) (C_big d16), fun m hm => ?_, by omega⟩
  · obtain ⟨cl, hK⟩ := C_mem d12 hl
    have hl := h7 l hl
    obtain ⟨A0, c0, A1, c1, A4, c4, A7, c7, A10, c10, A13, c13, A16, c16, A19, c19, A22, c22, rfl, l0, e0, l1, e1, l4, e4, l7, e7, l10, e10, l13, e13, l16, e16, l19, e19, l22, e22⟩ := kL_open hK
    simp only [layerOK, gainsOf, Bool.and_eq_true, decide_eq_true_eq] at hl
    obtain ⟨⟨⟨⟨⟨⟨⟨⟨a1, _⟩, a2, _⟩, a3⟩, a4⟩, a5⟩, a6⟩, ⟨a7, a8⟩, a9⟩, _⟩ := hl
    exact ⟨by omega, by omega, isMat_sm a3 (by omega) (by omega) (C_big e4), isMat_sm a5 (by omega) (by omega) (C_big e7), isMat_sm a6 (by omega) (by omega) (C_big e10), isMat_sm a4 (by omega) (by omega) (C_big e13), isMat_sm a7 (by omega) (by omega) (C_big e16), isMat_sm a8 (by omega) (by omega) (C_big e19), isMat_sm a9 (by omega) (by omega) (C_big e22)⟩
  · obtain ⟨cm, hK⟩ := C_mem d17 hm
    obtain ⟨A2, c2, rfl, l2, e2⟩ := kM_open hK
    exact isMat_sm (h8 m hm) (by omega) (by omega) (C_big e2)

/-- A model of weights lies at a block. -/
def MdlAt (w : World) (g : Nat) (x : SW) : Prop := ∃ cs, w.heap[g]? = some (.cells cs.toArray 110 (0, 0)) ∧ kW.K w x cs
theorem MdlAt.below {w w1 : World} {g : Nat} {x : SW} (h : MdlAt w g x) (hb : Below w.heap.size w w1) : MdlAt w1 g x := by
  obtain ⟨cs, h1, h2⟩ := h
  exact ⟨cs, (hb.block g (Array.getElem?_eq_some_iff.1 h1).1).trans h1, kW.K_below hb h2⟩
theorem MdlAt.rg {w : World} {g : Nat} {x : SW} (h : MdlAt w g x) : ∃ cs, Rg w ⟨g, 0, none⟩ cs ∧ kW.K w x cs := by
  obtain ⟨cs, h1, h2⟩ := h
  refine ⟨cs, rg_of_range fun j v hv => ?_, h2⟩
  simp [World.cell?, h1, hv]
theorem cal_model_New (w0 : World) (x : SW) (cs : List Value) (hx : kW.K w0 x cs) (hG : Sides w0) (hnar : narW x) : Cal Tryd.prog 32 #[.agg cs.toArray] w0 fun v w1 => Below w0.heap.size w0 w1 ∧ (chk x ≠ 0 → v = .tuple #[.pointer none, .int .i64 (chk x)]) ∧ (chk x = 0 → ∃ g, v = .tuple #[.pointer (some ⟨g, 0, none⟩), .int .i64 0] ∧ w0.heap.size ≤ g ∧ MdlAt w1 g x) := by
  have hx' := hx
  obtain ⟨A10, c10, A11, c11, A12, c12, A13, c13, A16, c16, A17, c17, rfl, -⟩ := kW_open hx
  refine cal_W (n := 14) Tryd.func32 rfl rfl (by simp) ?_
  have hs := Sep.refl w0
  refine W_seq ?_
  refine W_region ?_
  refine L_op rfl (o_box (cs := [_, _, _, _, _, _, _, _, _, _, _, _, _, _, _, _, _, _]) rfl rfl hs ?_)  -- t1 := box 31 t0
  intro g1 w1 hs
  refine L_q rfl (y_assign rfl) ?_  -- t2 := assign nilptr
  refine L_q rfl (y_assign rfl) ?_  -- t3 := assign 0
  refine L_nil ?_
  refine W_seq ?_
  refine W_seq ?_
  refine W_region ?_
  refine L_q rfl (y_fls (cs := [_, _, _, _, _, _, _, _, _, _, _, _, _, _, _, _, _, _]) r_31 sz_31 rfl (rg_of_range (hs.rg 0 rfl 0 18 rfl))) ?_  -- t5 := load 31 t1
  refine L_op rfl (o_call en_52 rfl hs (cal_model_Check _ x _ (kW.K_below hs.below hx) (hG.below hs.below) hnar) ?_)  -- t6 := CALL f52(t5) :37
  intro v6 w1 hb hs hv6
  refine L_q rfl (y_assign hv6) ?_  -- t4 := assign t6
  refine L_nil ?_
  refine W_seq ?_
  refine W_region ?_
  refine L_q rfl (y_move rfl) ?_  -- t7 := move t4
  refine L_q rfl (y_neq rfl rfl) ?_  -- t8 := binOp neq 37 t7 0 37
  refine L_nil ?_
  refine W_if rfl (fun hq1 => ?_) (fun hq1 => ?_)
  · skip
    refine W_seq ?_
    refine W_region ?_
    refine L_q rfl (y_move rfl) ?_  -- t9 := move t4
    refine L_q rfl (y_assign rfl) ?_  -- t2 := assign nilptr
    refine L_q rfl (y_assign rfl) ?_  -- t3 := assign t9
    refine L_nil ?_
    refine W_ret ?_
    -- sep: g1
    refine ret_many (rs := [.tmp 2, .tmp 3]) rfl (.tmp (v := .pointer none) rfl (.tmp (v := _) rfl .nil)) (by simp) ⟨_, rfl, hs.below, ?_⟩
    have h := of_decide_eq_true hq1
    exact ⟨fun _ => rfl, fun h0 => absurd h0 h⟩
  · skip
    have hz : chk x = 0 := by have := of_decide_eq_false hq1; omega
    refine W_skip ?_
    refine W_seq ?_
    refine W_region ?_
    refine L_q rfl (y_fls (cs := [_, _, _, _, _, _, _, _, _, _, _, _, _, _, _, _, _, _]) r_31 sz_31 rfl (rg_of_range (hs.rg 0 rfl 0 18 rfl))) ?_  -- t10 := load 31 t1
    refine L_op rfl (o_callM en_53 rfl hs (cal_model_twin _ x _ (kW.K_below hs.below hx) (sm_of hx hz) (hG.below hs.below) (chk_zero hz).1) ?_)  -- t11 := CALL f53(t10) :31
    intro cs11 w1 hb hs
    obtain ⟨r11_10, r11_11, r11_12, r11_13, r11_16, r11_17, rfl, q11_10, q11_11, q11_12, q11_13, q11_16, q11_17⟩ := kW_openM hs.outM
    obtain ⟨A11_10, c11_10, rfl⟩ := Kd.R_slice q11_10
    obtain ⟨A11_11, c11_11, rfl⟩ := Kd.R_slice q11_11
    obtain ⟨A11_12, c11_12, rfl⟩ := Kd.R_slice q11_12
    obtain ⟨A11_13, c11_13, rfl⟩ := Kd.R_slice q11_13
    obtain ⟨A11_16, c11_16, rfl⟩ := Kd.R_slice q11_16
    obtain ⟨A11_17, c11_17, rfl⟩ := Kd.R_slice q11_17
    refine L_q rfl (y_build rfl (bd_110_0 ..)) ?_  -- t12 := build 110 [0=t11]
    refine L_op rfl (o_box (cs := [_, _, _, _, _, _, _, _, _, _, _, _, _, _, _, _, _, _]) rfl rfl hs ?_)  -- t13 := box 110 t12
    intro g13 w1 hs
    refine L_q rfl (y_assign rfl) ?_  -- t2 := assign t13
    refine L_q rfl (y_assign rfl) ?_  -- t3 := assign 0
    refine L_nil ?_
    refine W_ret ?_
    -- sep: g13 own11 g1
    refine ret_many (rs := [.tmp 2, .tmp 3]) rfl (.tmp (v := _) rfl (.tmp (v := .int .i64 0) rfl .nil)) (by simp) ⟨_, rfl, hs.below, ?_⟩
    refine ⟨fun h => absurd hz h, fun _ => ⟨_, rfl, (hs.outB 0 rfl).1, _, (hs.outB 0 rfl).2, ?_⟩⟩
    exact kW.K_of_M (hs.tail.outM)
theorem cal_Model_Weights (w0 : World) (g : Nat) (x : SW) (hM : MdlAt w0 g x) (hG : Sides w0) (hz : chk x = 0) : Cal Tryd.prog 35 #[.pointer (some ⟨g, 0, none⟩)] w0 fun v w1 => Below w0.heap.size w0 w1 ∧ ∃ cs, v = .agg cs.toArray ∧ kW.M w1 w0.heap.size (fun _ => True) x cs := by
  obtain ⟨cs, hrg, hx⟩ := hM.rg
  have hx' := hx
  obtain ⟨A10, c10, A11, c11, A12, c12, A13, c13, A16, c16, A17, c17, rfl, -⟩ := kW_open hx'
  refine cal_W (n := 11) Tryd.func35 rfl rfl (by simp) ?_
  have hs := Sep.refl w0
  refine W_seq ?_
  refine W_region ?_
  refine L_op rfl (o_alloc al_31 hs ?_)  -- t2 := alloc 31
  intro g2 w1 hs
  refine L_nil ?_
  refine W_seq ?_
  refine W_seq ?_
  refine W_region ?_
  refine L_q rfl (y_move rfl) ?_  -- t3 := move t0
  refine L_q rfl (y_bin rfl rfl rfl (eql_33 ..)) ?_  -- t4 := binOp eql 33 t3 nilptr 33
  refine L_nil ?_
  refine W_if rfl (fun hq1 => ?_) (fun hq1 => ?_)
  · skip
    refine W_seq ?_
    refine W_region ?_
    refine L_q rfl (y_build rfl (bd_31_e ..)) ?_  -- t5 := build 31 []
    refine L_op rfl (o_store (seg := [_, _, _, _, _, _, _, _, _, _, _, _, _, _, _, _, _, _]) (cs' := [_, _, _, _, _, _, _, _, _, _, _, _, _, _, _, _, _, _]) sz_31 rfl rfl rfl rfl (hs.front 0) (Nat.le_of_ble_eq_true rfl) rfl ?_)  -- store 31 t2 t5
    intro w1 hs
    refine L_nil ?_
    refine W_ret ?_
    -- sep: g2
    refine ret_one rfl (.cell (cs := [_, _, _, _, _, _, _, _, _, _, _, _, _, _, _, _, _, _]) rfl r_31 sz_31 (hs.rg 0 rfl 0 18 rfl) .nil) ⟨_, rfl, hs.below, ?_⟩
    cases hq1
  · skip
    refine W_skip ?_
    refine W_seq ?_
    refine W_region ?_
    refine L_q rfl (y_move rfl) ?_  -- t6 := move t0
    refine L_q rfl (y_nil rfl) ?_  -- t7 := nilCheck t6
    refine L_q rfl (y_fad fa_110_0 rfl) ?_  -- t8 := fieldAddr 110 t7 0
    refine L_q rfl (y_fls (cs := [_, _, _, _, _, _, _, _, _, _, _, _, _, _, _, _, _, _]) r_31 sz_31 rfl ((hrg.below hs.below).sub 0 18 rfl)) ?_  -- t9 := load 31 t8
    refine L_op rfl (o_callM en_53 rfl hs (cal_model_twin _ x _ (kW.K_below hs.below hx) (sm_of hx hz) (hG.below hs.below) (chk_zero hz).1) ?_)  -- t10 := CALL f53(t9) :31
    intro cs10 w1 hb hs
    obtain ⟨r10_10, r10_11, r10_12, r10_13, r10_16, r10_17, rfl, q10_10, q10_11, q10_12, q10_13, q10_16, q10_17⟩ := kW_openM hs.outM
    obtain ⟨A10_10, c10_10, rfl⟩ := Kd.R_slice q10_10
    obtain ⟨A10_11, c10_11, rfl⟩ := Kd.R_slice q10_11
    obtain ⟨A10_12, c10_12, rfl⟩ := Kd.R_slice q10_12
    obtain ⟨A10_13, c10_13, rfl⟩ := Kd.R_slice q10_13
    obtain ⟨A10_16, c10_16, rfl⟩ := Kd.R_slice q10_16
    obtain ⟨A10_17, c10_17, rfl⟩ := Kd.R_slice q10_17
    refine L_op rfl (o_store (seg := [_, _, _, _, _, _, _, _, _, _, _, _, _, _, _, _, _, _]) (cs' := [_, _, _, _, _, _, _, _, _, _, _, _, _, _, _, _, _, _]) sz_31 rfl rfl rfl rfl (hs.front 1) (Nat.le_of_ble_eq_true rfl) rfl ?_)  -- store 31 t2 t10
    intro w1 hs
    refine L_nil ?_
    refine W_ret ?_
    -- sep: g2 own10
    refine ret_one rfl (.cell (cs := [_, _, _, _, _, _, _, _, _, _, _, _, _, _, _, _, _, _]) rfl r_31 sz_31 (hs.rg 0 rfl 0 18 rfl) .nil) ⟨_, rfl, hs.below, ?_⟩
    exact ⟨_, rfl, hs.tail.outM⟩
theorem cal_Model_Config (w0 : World) (g : Nat) (x : SW) (hM : MdlAt w0 g x) : Cal Tryd.prog 36 #[.pointer (some ⟨g, 0, none⟩)] w0 fun v w1 => Below w0.heap.size w0 w1 ∧ v = .agg #[.int .i64 x.f0.f0, .int .i64 x.f0.f1, .int .i64 x.f0.f2, .int .i64 x.f0.f3, .int .i64 x.f0.f4, .int .i64 x.f0.f5, .int .i64 x.f0.f6, .int .i64 x.f0.f7] := by
  obtain ⟨cs, hrg, hx⟩ := hM.rg
  obtain ⟨A10, c10, A11, c11, A12, c12, A13, c13, A16, c16, A17, c17, rfl, -⟩ := kW_open hx
  refine cal_W (n := 11) Tryd.func36 rfl rfl (by simp) ?_
  have hs := Sep.refl w0
  refine W_seq ?_
  refine W_region ?_
  refine L_op rfl (o_alloc al_23 hs ?_)  -- t2 := alloc 23
  intro g2 w1 hs
  refine L_nil ?_
  refine W_seq ?_
  refine W_seq ?_
  refine W_region ?_
  refine L_q rfl (y_move rfl) ?_  -- t3 := move t0
  refine L_q rfl (y_bin rfl rfl rfl (eql_33 ..)) ?_  -- t4 := binOp eql 33 t3 nilptr 33
  refine L_nil ?_
  refine W_if rfl (fun hq1 => ?_) (fun hq1 => ?_)
  · skip
    refine W_seq ?_
    refine W_region ?_
    refine L_q rfl (y_build rfl (bd_23_e ..)) ?_  -- t5 := build 23 []
    refine L_op rfl (o_store (seg := [_, _, _, _, _, _, _, _]) (cs' := [_, _, _, _, _, _, _, _]) sz_23 rfl rfl rfl rfl (hs.front 0) (Nat.le_of_ble_eq_true rfl) rfl ?_)  -- store 23 t2 t5
    intro w1 hs
    refine L_nil ?_
    refine W_ret ?_
    -- sep: g2
    refine ret_one rfl (.cell (cs := [_, _, _, _, _, _, _, _]) rfl r_23 sz_23 (hs.rg 0 rfl 0 8 rfl) .nil) ⟨_, rfl, hs.below, ?_⟩
    cases hq1
  · skip
    refine W_skip ?_
    refine W_seq ?_
    refine W_region ?_
    refine L_q rfl (y_move rfl) ?_  -- t6 := move t0
    refine L_q rfl (y_nil rfl) ?_  -- t7 := nilCheck t6
    refine L_q rfl (y_fad fa_110_0 rfl) ?_  -- t8 := fieldAddr 110 t7 0
    refine L_q rfl (y_fad fa_31_0 rfl) ?_  -- t9 := fieldAddr 31 t8 0
    refine L_q rfl (y_fls (cs := [_, _, _, _, _, _, _, _]) r_23 sz_23 rfl (((hrg.below hs.below).sub 0 18 rfl).sub 0 8 rfl)) ?_  -- t10 := load 23 t9
    refine L_op rfl (o_store (seg := [_, _, _, _, _, _, _, _]) (cs' := [_, _, _, _, _, _, _, _]) sz_23 rfl rfl rfl rfl (hs.front 0) (Nat.le_of_ble_eq_true rfl) rfl ?_)  -- store 23 t2 t10
    intro w1 hs
    refine L_nil ?_
    refine W_ret ?_
    -- sep: g2
    refine ret_one rfl (.cell (cs := [_, _, _, _, _, _, _, _]) rfl r_23 sz_23 (hs.rg 0 rfl 0 8 rfl) .nil) ⟨_, rfl, hs.below, ?_⟩
    rfl
/-- What Logits answers, the model there: the error, or the row. -/
abbrev LogAns (w0 w1 : World) (m : SM) (v : List Int) (r : Value) : Prop := (mvFits m v = false → r = .tuple #[.slice none 0 0, .int .i64 30]) ∧ (mvFits m v = true → ∃ u, r = .tuple #[u, .int .i64 0] ∧ (Kd.int .i64).R 2 w1 w0.heap.size (fun _ => True) u (mvOf m v))
theorem cal_Logits (w0 : World) (g : Nat) (x : SW) (V : Option Addr) (k : Nat) (v : List Int) (hM : MdlAt w0 g x) (hG : Sides w0) (hz : chk x = 0) (hnar : narW x) (hV : (Kd.int .i8).C w0 V v.length v) : Cal Tryd.prog 11 #[.pointer (some ⟨g, 0, none⟩), .slice V v.length k] w0 fun r w1 => Below w0.heap.size w0 w1 ∧ LogAns w0 w1 x.f5 v r := by
  obtain ⟨cs, hrg, hx⟩ := hM.rg
  have hsm := sm_of hx hz
  refine cal_W (n := 15) Tryd.func11 rfl rfl (by simp) ?_
  have hs := Sep.refl w0
  refine W_seq ?_
  refine W_region ?_
  refine L_q rfl (y_assign rfl) ?_  -- t4 := assign nil
  refine L_q rfl (y_assign rfl) ?_  -- t5 := assign 0
  refine L_nil ?_
  refine W_seq ?_
  refine W_seq ?_
  refine W_region ?_
  refine L_q rfl (y_move rfl) ?_  -- t6 := move t0
  refine L_q rfl (y_bin rfl rfl rfl (eql_33 ..)) ?_  -- t7 := binOp eql 33 t6 nilptr 33
  refine L_nil ?_
  refine W_if rfl (fun hq1 => ?_) (fun hq1 => ?_)
  · skip
    refine W_seq ?_
    refine W_region ?_
    refine L_q rfl (y_assign rfl) ?_  -- t4 := assign nil
    refine L_q rfl (y_assign rfl) ?_  -- t5 := assign 1
    refine L_nil ?_
    refine W_ret ?_
    -- sep: 
    refine ret_many (rs := [.tmp 4, .tmp 5]) rfl (.tmp (v := .slice none 0 0) rfl (.tmp (v := .int .i64 1) rfl .nil)) (by simp) ⟨_, rfl, hs.below, ?_⟩
    cases hq1
  · skip
    refine W_skip ?_
    refine W_seq ?_
    refine W_region ?_
    refine L_q rfl (y_move rfl) ?_  -- t8 := move t0
    refine L_op rfl (o_callM en_35 rfl hs (cal_Model_Weights _ g x (hM.below hs.below) (hG.below hs.below) hz) ?_)  -- t9 := CALL f35(t8) :31
    intro cs9 w1 hb hs
    obtain ⟨r9_10, r9_11, r9_12, r9_13, r9_16, r9_17, rfl, q9_10, q9_11, q9_12, q9_13, q9_16, q9_17⟩ := kW_openM hs.outM
    obtain ⟨A9_10, c9_10, rfl⟩ := Kd.R_slice q9_10
    obtain ⟨A9_11, c9_11, rfl⟩ := Kd.R_slice q9_11
    obtain ⟨A9_12, c9_12, rfl⟩ := Kd.R_slice q9_12
    obtain ⟨A9_13, c9_13, rfl⟩ := Kd.R_slice q9_13
    obtain ⟨A9_16, c9_16, rfl⟩ := Kd.R_slice q9_16
    obtain ⟨A9_17, c9_17, rfl⟩ := Kd.R_slice q9_17
    refine L_q rfl (y_field rfl (fd_31_5 ..)) ?_  -- t10 := field 31 t9 5
    refine L_q rfl (y_move rfl) ?_  -- t11 := move t1
    have hs12 := hs
    refine L_op rfl (o_call en_34 rfl hs (cal_MatVec _ x.f5 _ V k v (kM_mk _ _ (Kd.R_reads' q9_16).2.1 (Kd.R_reads' q9_16).2.2) hnar.2.1 (Kd.C_below hV hs.below) hsm.2.2.2.2.2.1) ?_)  -- t12 := CALL f34(t10, t11) :38
    have hs0 := hs.below.size
    intro v12 w1 hb hs hv12
    have key : ∃ u e, v12 = .tuple #[u, e] ∧ LogAns w0 w1 x.f5 v v12 := by
      cases hf : mvFits x.f5 v with
      | false => exact ⟨_, _, hv12.1 hf, And.intro (fun _ => hv12.1 hf) (fun h => by rw [hf] at h; cases h)⟩
      | true =>
        obtain ⟨u, e, hR⟩ := hv12.2 hf
        exact ⟨_, _, e, And.intro (fun h => by rw [hf] at h; cases h) (fun _ => ⟨u, e, Kd.R_lower hR hs0⟩)⟩
    obtain ⟨u, e, rfl, hans⟩ := key
    refine L_q rfl (y_ext rfl rfl) ?_  -- t13 := extract t12 0
    refine L_q rfl (y_ext rfl rfl) ?_  -- t14 := extract t12 1
    refine L_q rfl (y_assign rfl) ?_  -- t4 := assign t13
    refine L_q rfl (y_assign rfl) ?_  -- t5 := assign t14
    refine L_nil ?_
    refine W_ret ?_
    -- sep: own9
    refine ret_many (rs := [.tmp 4, .tmp 5]) rfl (.tmp (v := _) rfl (.tmp (v := _) rfl .nil)) (by simp) ⟨_, rfl, hs.below, ?_⟩
    exact hans
/-- Without a model. -/
theorem cal_Logits_nil (w0 : World) (V : Value) : Cal Tryd.prog 11 #[.pointer none, V] w0 fun r w1 => Below w0.heap.size w0 w1 ∧ r = .tuple #[.slice none 0 0, .int .i64 1] := by
  refine cal_W (n := 15) Tryd.func11 rfl rfl (by simp) ?_
  have hs := Sep.refl w0
  refine W_seq ?_
  refine W_region ?_
  refine L_q rfl (y_assign rfl) ?_  -- t4 := assign nil
  refine L_q rfl (y_assign rfl) ?_  -- t5 := assign 0
  refine L_nil ?_
  refine W_seq ?_
  refine W_seq ?_
  refine W_region ?_
  refine L_q rfl (y_move rfl) ?_  -- t6 := move t0
  refine L_q rfl (y_bin rfl rfl rfl (eql_33 ..)) ?_  -- t7 := binOp eql 33 t6 nilptr 33
  refine L_nil ?_
  refine W_if rfl (fun hq1 => ?_) (fun hq1 => ?_)
  · skip
    refine W_seq ?_
    refine W_region ?_
    refine L_q rfl (y_assign rfl) ?_  -- t4 := assign nil
    refine L_q rfl (y_assign rfl) ?_  -- t5 := assign 1
    refine L_nil ?_
    refine W_ret ?_
    -- sep: 
    refine ret_many (rs := [.tmp 4, .tmp 5]) rfl (.tmp (v := .slice none 0 0) rfl (.tmp (v := .int .i64 1) rfl .nil)) (by simp) ⟨_, rfl, hs.below, ?_⟩
    rfl
  · skip
    cases hq1
/-- What Guesses answers. -/
def gsOf (l : List SM) (v : List Int) : List (List Int) := l.map fun m => mvOf m v
abbrev GsAns (w0 w1 : World) (x : SW) (v : List Int) (r : Value) : Prop := ((v.length : Int) ≠ x.f0.f1 → r = .tuple #[.slice none 0 0, .int .i64 30]) ∧ ((v.length : Int) = x.f0.f1 → ∃ u, r = .tuple #[u, .int .i64 0] ∧ (Kd.slice 2 (Kd.int .i64)).R 36 w1 w0.heap.size (fun _ => True) u (gsOf x.f6 v))
theorem fits_med {x : SW} {m : SM} {v : List Int} (hw : wtsOK x = true) (hm : m ∈ x.f6) (hv : (v.length : Int) = x.f0.f1) : mvFits m v = true := by
  simp only [wtsOK, Bool.and_eq_true, List.all_eq_true] at hw
  have h := hw.2 m hm
  simp only [isMat, Bool.and_eq_true, decide_eq_true_eq] at h
  simp only [mvFits, Bool.and_eq_true, decide_eq_true_eq]
  exact ⟨h.1.1, by omega⟩
theorem gs_snoc {l : List SM} {v : List Int} {i : Int} (h0 : 0 ≤ i) (h1 : i < l.length) : gsOf (l.take i.toNat) v ++ [mvOf (l.getD i.toNat zM) v] = gsOf (l.take (i + 1).toNat) v := by
  rw [← takeG_snoc (z := zM) h0 h1]
  simp [gsOf]
theorem cal_Guesses (w0 : World) (g : Nat) (x : SW) (V : Option Addr) (k : Nat) (v : List Int) (hM : MdlAt w0 g x) (hG : Sides w0) (hz : chk x = 0) (hnar : narW x) (hV : (Kd.int .i8).C w0 V v.length v) : Cal Tryd.prog 12 #[.pointer (some ⟨g, 0, none⟩), .slice V v.length k] w0 fun r w1 => Below w0.heap.size w0 w1 ∧ GsAns w0 w1 x v r := by
  obtain ⟨cs, hrg, hx⟩ := hM.rg
  have hsm := sm_of hx hz
  have m6 := hsm.2.2.2.2.2.2.2
  obtain ⟨hcfg, hwok⟩ := chk_zero hz
  refine cal_W (n := 44) Tryd.func12 rfl rfl (by simp) ?_
  have hs := Sep.refl w0
  refine W_seq ?_
  refine W_region ?_
  refine L_q rfl (y_assign rfl) ?_  -- t4 := assign nil
  refine L_q rfl (y_assign rfl) ?_  -- t5 := assign 0
  refine L_nil ?_
  refine W_seq ?_
  refine W_block ?_
  refine W_seq ?_
  refine W_region ?_
  refine L_q rfl (y_move rfl) ?_  -- t12 := move t0
  refine L_q rfl (y_bin rfl rfl rfl (eql_33 ..)) ?_  -- t13 := binOp eql 33 t12 nilptr 33
  refine L_q rfl (y_assign rfl) ?_  -- t11 := assign t13
  refine L_nil ?_
  refine W_if rfl (fun hq1 => ?_) (fun hq1 => ?_)
  · skip
    refine W_seq ?_
    refine W_region ?_
    refine L_q rfl (y_assign rfl) ?_  -- t4 := assign nil
    refine L_q rfl (y_assign rfl) ?_  -- t5 := assign 1
    refine L_nil ?_
    refine W_ret ?_
    -- sep: 
    refine ret_many (rs := [.tmp 4, .tmp 5]) rfl (.tmp (v := .slice none 0 0) rfl (.tmp (v := .int .i64 1) rfl .nil)) (by simp) ⟨_, rfl, hs.below, ?_⟩
    cases hq1
  · skip
    refine W_seq ?_
    refine W_region ?_
    refine L_q rfl (y_move rfl) ?_  -- t15 := move t1
    refine L_q rfl (y_len u_24 rfl) ?_  -- t16 := len(t15) :3
    refine L_q rfl (y_move rfl) ?_  -- t17 := move t0
    refine L_op rfl (o_call en_36 rfl hs (cal_Model_Config _ g x (hM.below hs.below)) ?_)  -- t18 := CALL f36(t17) :23
    intro v18 w1 hb hs hv18
    refine L_q rfl (y_field hv18 (fd_23_1 ..)) ?_  -- t19 := field 23 t18 1
    refine L_q rfl (y_neq rfl rfl) ?_  -- t20 := binOp neq 3 t16 t19 3
    refine L_q rfl (y_assign rfl) ?_  -- t14 := assign t20
    refine L_nil ?_
    refine W_if rfl (fun hq2 => ?_) (fun hq2 => ?_)
    · skip
      refine W_seq ?_
      refine W_region ?_
      refine L_q rfl (y_assign rfl) ?_  -- t4 := assign nil
      refine L_q rfl (y_assign rfl) ?_  -- t5 := assign 30
      refine L_nil ?_
      refine W_ret ?_
      -- sep: 
      refine ret_many (rs := [.tmp 4, .tmp 5]) rfl (.tmp (v := .slice none 0 0) rfl (.tmp (v := .int .i64 30) rfl .nil)) (by simp) ⟨_, rfl, hs.below, ?_⟩
      have h := of_decide_eq_true hq2
      exact ⟨fun _ => rfl, fun he => absurd he h⟩
    · skip
      have hlen : (v.length : Int) = x.f0.f1 := by have := of_decide_eq_false hq2; omega
      refine W_skip ?_
      refine W_seq ?_
      refine W_region ?_
      refine L_q rfl (y_assign rfl) ?_  -- t6 := assign nil
      refine L_nil ?_
      refine W_seq ?_
      refine W_seq ?_
      refine W_region ?_
      refine L_q rfl (y_move rfl) ?_  -- t21 := move t0
      refine L_op rfl (o_callM en_35 rfl hs (cal_Model_Weights _ g x (hM.below hs.below) (hG.below hs.below) hz) ?_)  -- t22 := CALL f35(t21) :31
      intro cs22 w1 hb hs
      obtain ⟨r22_10, r22_11, r22_12, r22_13, r22_16, r22_17, rfl, q22_10, q22_11, q22_12, q22_13, q22_16, q22_17⟩ := kW_openM hs.outM
      obtain ⟨A22_10, c22_10, rfl⟩ := Kd.R_slice q22_10
      obtain ⟨A22_11, c22_11, rfl⟩ := Kd.R_slice q22_11
      obtain ⟨A22_12, c22_12, rfl⟩ := Kd.R_slice q22_12
      obtain ⟨A22_13, c22_13, rfl⟩ := Kd.R_slice q22_13
      obtain ⟨A22_16, c22_16, rfl⟩ := Kd.R_slice q22_16
      obtain ⟨A22_17, c22_17, rfl⟩ := Kd.R_slice q22_17
      refine L_q rfl (y_field rfl (fd_31_6 ..)) ?_  -- t23 := field 31 t22 6
      refine L_q rfl (y_len u_29 rfl) ?_  -- t24 := len(t23) :3
      refine L_q rfl (y_move rfl) ?_  -- t25 := move 0
      refine L_nil ?_
      refine W_block ?_
      obtain ⟨wA, hwA⟩ : ∃ wA, wA = w1 := ⟨w1, rfl⟩
      subst hwA
      have hsB := hs
      clear hs
      have hs := (Sep.refl wA).nilR (Kd.slice 2 (Kd.int .i64)) 36
      have hCm := (Kd.R_reads' q22_17).2.2
      have hs1 := hsB.below.size
      have hnm : ∀ m ∈ x.f6, nar m.f2 := hnar.2.2.2
      obtain ⟨L1, hs, hL1⟩ := hs.named1
      refine W_loopF (fun f0 m f w1 => ∃ (i : Int) (u : Value), 0 ≤ i ∧ i ≤ x.f6.length ∧ m = (x.f6.length - i).toNat ∧ True ∧ sl f 1 = sl f0 1 ∧ sl f 4 = .slice none 0 0 ∧ sl f 5 = .int .i64 0 ∧ sl f 6 = u ∧ sl f 23 = sl f0 23 ∧ sl f 24 = sl f0 24 ∧ sl f 25 = .int .i64 i ∧ Sep wA w1 (row wA.heap.size (Kd.slice 2 (Kd.int .i64)) 36 u (gsOf (x.f6.take i.toNat) v) :: L1)) ((x.f6.length : Int) - 0).toNat ?_ ?_
      · exact ⟨0, .slice none 0 0, by omega, by omega, rfl, trivial, rfl, rfl, rfl, rfl, rfl, rfl, rfl, hs⟩
      clear hs
      rintro m f w1 ⟨i, u, hi0, hi1, rfl, hP1, h1_1, h1_4, h1_5, h1_6, h1_23, h1_24, h1_25, hs⟩
      subst hL1
      refine W_seq ?_
      refine W_region ?_
      refine L_q rfl (y_lss h1_25 h1_24) ?_  -- t26 := binOp lss 3 t25 t24 3
      refine L_nil ?_
      refine W_seq ?_
      refine W_if rfl (fun hq3 => ?_) (fun hq3 => ?_)
      · skip
        refine W_skip ?_
        have hlt : i < x.f6.length := of_decide_eq_true hq3
        obtain ⟨ad, cu, rfl, hK, hrg6⟩ := Kd.C_at hCm zM i hi0 hlt
        have hmem := getD_mem' (z := zM) hi0 hlt
        obtain ⟨B2, e2, rfl, hle2, hC2⟩ := kM_open hK
        refine W_seq ?_
        refine W_block ?_
        refine W_seq ?_
        refine W_region ?_
        refine L_q rfl (y_ia u_29 sz_26 h1_23 h1_25 (by omega) (by omega)) ?_  -- t27 := indexAddr 29 t23 t25
        refine L_q rfl (y_fls (cs := [_, _, _]) r_26 sz_26 rfl (hrg6.below hs.below)) ?_  -- t28 := load 26 t27
        refine L_op rfl (o_alloc al_26 hs ?_)  -- t8 := alloc 26
        intro g8 w1 hs
        refine L_op rfl (o_store (seg := [_, _, _]) (cs' := [_, _, _]) sz_26 rfl rfl rfl rfl (hs.front 0) (Nat.le_of_ble_eq_true rfl) rfl ?_)  -- store 26 t8 t28
        intro w1 hs
        refine L_nil ?_
        refine W_seq ?_
        refine W_region ?_
        refine L_q rfl (y_fls (cs := [_, _, _]) r_26 sz_26 rfl (rg_of_range (hs.rg 0 rfl 0 3 rfl))) ?_  -- t30 := load 26 t8
        refine L_q rfl (y_move h1_1) ?_  -- t31 := move t1
        have hs32 := hs
        refine L_op rfl (o_call en_34 rfl hs (cal_MatVec _ (x.f6.getD i.toNat zM) _ V k v (kM.K_below hs.below hK) (hnm _ hmem) (Kd.C_below (Kd.C_below hV hsB.below) hs.below) (hsm.2.2.2.2.2.2.1 _ hmem)) ?_)  -- t32 := CALL f34(t30, t31) :38
        intro v32 w1 hb hs hv32
        obtain ⟨u32, rfl, hR32⟩ := hv32.2 (fits_med hwok hmem hlen)
        obtain ⟨A32, c32, rfl⟩ := Kd.R_slice hR32
        replace hs := (hs32.madeR hb hR32 (Nat.le_refl _)).conv (a' := own wA.heap.size (Kd.slice 2 (Kd.int .i64)) (mvOf (x.f6.getD i.toNat zM) v) [.slice A32 (mvOf (x.f6.getD i.toNat zM) v).length c32]) (fun S h => ⟨_, rfl, h⟩)
        refine L_q rfl (y_move rfl) ?_  -- t29 := move t32
        refine L_q rfl (y_ext rfl rfl) ?_  -- t33 := extract t29 0
        refine L_q rfl (y_ext rfl rfl) ?_  -- t34 := extract t29 1
        refine L_q rfl (y_assign rfl) ?_  -- t9 := assign t33
        refine L_q rfl (y_assign rfl) ?_  -- t10 := assign t34
        refine L_nil ?_
        refine W_seq ?_
        refine W_seq ?_
        refine W_region ?_
        refine L_q rfl (y_move rfl) ?_  -- t35 := move t10
        refine L_q rfl (y_neq rfl rfl) ?_  -- t36 := binOp neq 37 t35 0 37
        refine L_nil ?_
        refine W_if rfl (fun hq4 => ?_) (fun hq4 => ?_)
        · skip
          simp at hq4
        · skip
          refine W_skip ?_
          refine W_region ?_
          refine L_q rfl (y_move h1_6) ?_  -- t38 := move t6
          refine L_q rfl (y_move rfl) ?_  -- t39 := move t9
          refine L_op rfl (o_bs (cs := [_]) u_40 i_36 rfl rfl rfl (by decide) (by decide) hs ?_)  -- t40 := buildSlice 40 1 [0=t39]
          intro g40 w1 hs
          refine L_op rfl (o_app u_40 i_36 rfl (by decide) (by decide) rfl rfl (((hs.front 3).front 2).front 2) (by simp [gsOf]; omega) ?_)  -- t41 := append(t38, t40) :40
          intro v41 w1 hs
          rw [gs_snoc hi0 hlt] at hs
          obtain ⟨A41, c41, rfl⟩ := Kd.R_slice hs.outR
          refine L_q rfl (y_assign rfl) ?_  -- t6 := assign t41
          refine L_nil ?_
          refine W_region ?_
          refine L_q rfl (y_addi h1_25 rfl (by omega) (by omega)) ?_  -- t42 := binOp add 3 t25 1 3
          refine L_q rfl (y_move rfl) ?_  -- t25 := move t42
          refine L_nil ?_
          -- sep: G g8
          exact ⟨_, by omega, i + 1, _, by omega, by omega, rfl, trivial, h1_1, h1_4, h1_5, rfl, h1_23, h1_24, rfl, hs.keep [true, false]⟩
      · skip
        refine W_exit ?_
        refine x_hit ?_
        refine W_seq ?_
        refine W_region ?_
        refine L_q rfl (y_move h1_6) ?_  -- t43 := move t6
        refine L_q rfl (y_assign rfl) ?_  -- t4 := assign t43
        refine L_q rfl (y_assign rfl) ?_  -- t5 := assign 0
        refine L_nil ?_
        refine W_ret ?_
        -- sep: G
        refine ret_many (rs := [.tmp 4, .tmp 5]) rfl (.tmp (v := _) rfl (.tmp (v := .int .i64 0) rfl .nil)) (by simp) ⟨_, rfl, hsB.below.trans (hs.below.mono hsB.below.size), ?_⟩
        have e6 : i.toNat = x.f6.length := by have := of_decide_eq_false hq3; omega
        rw [e6, List.take_length] at hs
        exact And.intro (fun h => absurd hlen h) (fun _ => ⟨_, rfl, Kd.R_lower hs.outR hs1⟩)
end Go.Proofs.YtlmddncoeikfjaaDoor
