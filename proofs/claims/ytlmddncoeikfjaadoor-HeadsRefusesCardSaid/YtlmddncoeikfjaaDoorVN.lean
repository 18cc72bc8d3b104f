/- Walks: the shapes of a layer's matrices. -/
import Derived.Test.YtlmddncoeikfjaaDoorVM
namespace Go.Proofs.YtlmddncoeikfjaaDoor
open Go.RowKit Go.Proofs.YtlmddncoeikfjaaDoorW.PrintWords
set_option maxRecDepth 100000
set_option maxHeartbeats 4000000

theorem cal_model_head (w0 : World) (x : SC) (cs : List Value) (hx : kC.K w0 x cs) (h0 : x.f2 ≠ 0) : Cal Tryd.prog 70 #[.agg cs.toArray] w0 fun v w1 => Below w0.heap.size w0 w1 ∧ v = .int .i64 (headOf x) := by
  obtain rfl := kC_open hx
  refine cal_W (n := 8) Tryd.func70 rfl rfl (by simp) ?_
  have hs := Sep.refl w0
  refine W_seq ?_
  refine W_region ?_
  refine L_op rfl (o_box (cs := [_, _, _, _, _, _, _, _]) rfl rfl hs ?_)  -- t1 := box 23 t0
  intro g1 w1 hs
  refine L_q rfl (y_assign rfl) ?_  -- t2 := assign 0
  refine L_nil ?_
  refine W_seq ?_
  refine W_region ?_
  refine L_q rfl (y_fa fa_23_1 rfl) ?_  -- t3 := fieldAddr 23 t1 1
  refine L_q rfl (y_fld r_3 rfl (rg_of_range (hs.rg 0 rfl 1 1 rfl))) ?_  -- t4 := load 3 t3
  refine L_q rfl (y_fa fa_23_2 rfl) ?_  -- t5 := fieldAddr 23 t1 2
  refine L_q rfl (y_fld r_3 rfl (rg_of_range (hs.rg 0 rfl 2 1 rfl))) ?_  -- t6 := load 3 t5
  refine L_q rfl (y_quo rfl rfl h0) ?_  -- t7 := binOp quo 3 t4 t6 3
  refine L_q rfl (y_assign rfl) ?_  -- t2 := assign t7
  refine L_nil ?_
  refine W_ret ?_
  -- sep: g1
  refine ret_one rfl (.tmp (v := _) rfl .nil) ⟨_, rfl, hs.below, ?_⟩
  rfl

def measOf (x : SC) (s : Int) : Int := if s = 1 then x.f3 * headOf x else if s = 2 then x.f5 else x.f1
theorem cal_model_measure (w0 : World) (x : SC) (s : Int) (cs : List Value) (hx : kC.K w0 x cs) (hcfg : cfgOK x = true) : Cal Tryd.prog 87 #[.agg cs.toArray, .int .i64 s] w0 fun v w1 => Below w0.heap.size w0 w1 ∧ v = .int .i64 (measOf x s) := by
  obtain rfl := kC_open hx
  have hne : x.f2 ≠ 0 := by have := of_decide_eq_true hcfg; omega
  have hkv := kv_le hcfg
  refine cal_W (n := 19) Tryd.func87 rfl rfl (by simp) ?_
  have hs := Sep.refl w0
  refine W_seq ?_
  refine W_region ?_
  refine L_op rfl (o_box (cs := [_, _, _, _, _, _, _, _]) rfl rfl hs ?_)  -- t2 := box 23 t0
  intro g2 w1 hs
  refine L_q rfl (y_assign rfl) ?_  -- t4 := assign 0
  refine L_nil ?_
  refine W_seq ?_
  refine W_seq ?_
  refine W_region ?_
  refine L_q rfl (y_move rfl) ?_  -- t5 := move t1
  refine L_nil ?_
  refine W_block ?_
  refine W_seq ?_
  refine W_region ?_
  refine L_q rfl (y_eql rfl rfl) ?_  -- t7 := binOp eql 3 t5 1 3
  refine L_q rfl (y_assign rfl) ?_  -- t6 := assign t7
  refine L_nil ?_
  refine W_if rfl (fun hq1 => ?_) (fun hq1 => ?_)
  · skip
    refine W_seq ?_
    refine W_drawS rfl [true] hs ?_
    intro w1 hs
    refine H_q (i := 0) rfl (by kernel_rfl) rfl (fun _ hw => (y_fa fa_23_3 rfl)) (hs.keep [true]) ?_  -- t8 := fieldAddr 23 t2 3
    refine H_q (i := 1) rfl (by kernel_rfl) rfl (fun _ hw => (y_fld r_3 rfl (rg_of_range (hw.rg 0 rfl 3 1 rfl)))) (hs.keep [true]) ?_  -- t9 := load 3 t8
    refine H_q (i := 2) rfl (by kernel_rfl) rfl (fun _ hw => (y_fls (cs := [_, _, _, _, _, _, _, _]) r_23 sz_23 rfl (rg_of_range (hw.rg 0 rfl 0 8 rfl)))) (hs.keep [true]) ?_  -- t10 := load 23 t2
    refine H_loud (i := 3) rfl (by kernel_rfl) (by simp [Region.wanted]) (o_call en_70 rfl hs (cal_model_head _ x _ (kC_mk _ _) hne) ?_)  -- t11 := CALL f70(t10) :3
    intro v11 w1 hb hs hv11
    refine ⟨hs.keep [true], ?_⟩
    refine H_q (i := 4) rfl (by kernel_rfl) rfl (fun _ hw => (y_muli (c := x.f3 * headOf x) rfl hv11 rfl (by omega) (by omega))) (hs.keep [true]) ?_  -- t12 := binOp mul 3 t9 t11 3
    refine H_q (i := 5) rfl (by kernel_rfl) rfl (fun _ hw => (y_assign rfl)) (hs.keep [true]) ?_  -- t4 := assign t12
    refine H_done (by kernel_rfl) ?_
    refine W_ret ?_
    -- sep: g2
    refine ret_one rfl (.tmp (v := _) rfl .nil) ⟨_, rfl, hs.below, ?_⟩
    have := of_decide_eq_true hq1
    simp only [measOf, this, if_true]
    rfl
  · skip
    refine W_seq ?_
    refine W_region ?_
    refine L_q rfl (y_eql rfl rfl) ?_  -- t14 := binOp eql 3 t5 2 3
    refine L_q rfl (y_assign rfl) ?_  -- t13 := assign t14
    refine L_nil ?_
    refine W_if rfl (fun hq2 => ?_) (fun hq2 => ?_)
    · skip
      refine W_seq ?_
      refine W_region ?_
      refine L_q rfl (y_fa fa_23_5 rfl) ?_  -- t15 := fieldAddr 23 t2 5
      refine L_q rfl (y_fld r_3 rfl (rg_of_range (hs.rg 0 rfl 5 1 rfl))) ?_  -- t16 := load 3 t15
      refine L_q rfl (y_assign rfl) ?_  -- t4 := assign t16
      refine L_nil ?_
      refine W_ret ?_
      -- sep: g2
      refine ret_one rfl (.tmp (v := _) rfl .nil) ⟨_, rfl, hs.below, ?_⟩
      have := of_decide_eq_true hq2
      simp only [measOf, this]
      rfl
    · skip
      refine W_skip ?_
      refine W_seq ?_
      refine W_region ?_
      refine L_q rfl (y_fa fa_23_1 rfl) ?_  -- t17 := fieldAddr 23 t2 1
      refine L_q rfl (y_fld r_3 rfl (rg_of_range (hs.rg 0 rfl 1 1 rfl))) ?_  -- t18 := load 3 t17
      refine L_q rfl (y_assign rfl) ?_  -- t4 := assign t18
      refine L_nil ?_
      refine W_ret ?_
      -- sep: g2
      refine ret_one rfl (.tmp (v := _) rfl .nil) ⟨_, rfl, hs.below, ?_⟩
      have h1 := of_decide_eq_false hq1
      have h2 := of_decide_eq_false hq2
      simp only [measOf, if_neg h1, if_neg h2]
      rfl

/-- Where a layer's matrices lie. -/
def matOf (x : SL) : Nat → SM
  | 0 => x.f2 | 1 => x.f3 | 2 => x.f4 | 3 => x.f5 | 4 => x.f6 | 5 => x.f7 | _ => x.f8
theorem cal_shape0 (w0 : World) (ad : Addr) : Cal Tryd.prog 80 #[.pointer (some ad)] w0 fun v w1 => Below w0.heap.size w0 w1 ∧ v = .pointer (some (ad.add 2)) := by
  refine cal_W (n := 6) Tryd.func80 rfl rfl (by simp) ?_
  have hs := Sep.refl w0
  refine W_seq ?_
  refine W_region ?_
  refine L_q rfl (y_assign rfl) ?_  -- t2 := assign nilptr
  refine L_nil ?_
  refine W_seq ?_
  refine W_region ?_
  refine L_q rfl (y_move rfl) ?_  -- t3 := move t0
  refine L_q rfl (y_nil rfl) ?_  -- t4 := nilCheck t3
  refine L_q rfl (y_fad fa_108_2 rfl) ?_  -- t5 := fieldAddr 108 t4 2
  refine L_q rfl (y_assign rfl) ?_  -- t2 := assign t5
  refine L_nil ?_
  refine W_ret ?_
  -- sep: 
  refine ret_one rfl (.tmp (v := _) rfl .nil) ⟨_, rfl, hs.below, ?_⟩
  rfl
theorem cal_shape1 (w0 : World) (ad : Addr) : Cal Tryd.prog 81 #[.pointer (some ad)] w0 fun v w1 => Below w0.heap.size w0 w1 ∧ v = .pointer (some (ad.add 5)) := by
  refine cal_W (n := 6) Tryd.func81 rfl rfl (by simp) ?_
  have hs := Sep.refl w0
  refine W_seq ?_
  refine W_region ?_
  refine L_q rfl (y_assign rfl) ?_  -- t2 := assign nilptr
  refine L_nil ?_
  refine W_seq ?_
  refine W_region ?_
  refine L_q rfl (y_move rfl) ?_  -- t3 := move t0
  refine L_q rfl (y_nil rfl) ?_  -- t4 := nilCheck t3
  refine L_q rfl (y_fad fa_108_3 rfl) ?_  -- t5 := fieldAddr 108 t4 3
  refine L_q rfl (y_assign rfl) ?_  -- t2 := assign t5
  refine L_nil ?_
  refine W_ret ?_
  -- sep: 
  refine ret_one rfl (.tmp (v := _) rfl .nil) ⟨_, rfl, hs.below, ?_⟩
  rfl
theorem cal_shape2 (w0 : World) (ad : Addr) : Cal Tryd.prog 82 #[.pointer (some ad)] w0 fun v w1 => Below w0.heap.size w0 w1 ∧ v = .pointer (some (ad.add 8)) := by
  refine cal_W (n := 6) Tryd.func82 rfl rfl (by simp) ?_
  have hs := Sep.refl w0
  refine W_seq ?_
  refine W_region ?_
  refine L_q rfl (y_assign rfl) ?_  -- t2 := assign nilptr
  refine L_nil ?_
  refine W_seq ?_
  refine W_region ?_
  refine L_q rfl (y_move rfl) ?_  -- t3 := move t0
  refine L_q rfl (y_nil rfl) ?_  -- t4 := nilCheck t3
  refine L_q rfl (y_fad fa_108_4 rfl) ?_  -- t5 := fieldAddr 108 t4 4
  refine L_q rfl (y_assign rfl) ?_  -- t2 := assign t5
  refine L_nil ?_
  refine W_ret ?_
  -- sep: 
  refine ret_one rfl (.tmp (v := _) rfl .nil) ⟨_, rfl, hs.below, ?_⟩
  rfl
theorem cal_shape3 (w0 : World) (ad : Addr) : Cal Tryd.prog 83 #[.pointer (some ad)] w0 fun v w1 => Below w0.heap.size w0 w1 ∧ v = .pointer (some (ad.add 11)) := by
  refine cal_W (n := 6) Tryd.func83 rfl rfl (by simp) ?_
  have hs := Sep.refl w0
  refine W_seq ?_
  refine W_region ?_
  refine L_q rfl (y_assign rfl) ?_  -- t2 := assign nilptr
  refine L_nil ?_
  refine W_seq ?_
  refine W_region ?_
  refine L_q rfl (y_move rfl) ?_  -- t3 := move t0
  refine L_q rfl (y_nil rfl) ?_  -- t4 := nilCheck t3
  refine L_q rfl (y_fad fa_108_5 rfl) ?_  -- t5 := fieldAddr 108 t4 5
  refine L_q rfl (y_assign rfl) ?_  -- t2 := assign t5
  refine L_nil ?_
  refine W_ret ?_
  -- sep: 
  refine ret_one rfl (.tmp (v := _) rfl .nil) ⟨_, rfl, hs.below, ?_⟩
  rfl
theorem cal_shape4 (w0 : World) (ad : Addr) : Cal Tryd.prog 84 #[.pointer (some ad)] w0 fun v w1 => Below w0.heap.size w0 w1 ∧ v = .pointer (some (ad.add 14)) := by
  refine cal_W (n := 6) Tryd.func84 rfl rfl (by simp) ?_
  have hs := Sep.refl w0
  refine W_seq ?_
  refine W_region ?_
  refine L_q rfl (y_assign rfl) ?_  -- t2 := assign nilptr
  refine L_nil ?_
  refine W_seq ?_
  refine W_region ?_
  refine L_q rfl (y_move rfl) ?_  -- t3 := move t0
  refine L_q rfl (y_nil rfl) ?_  -- t4 := nilCheck t3
  refine L_q rfl (y_fad fa_108_6 rfl) ?_  -- t5 := fieldAddr 108 t4 6
  refine L_q rfl (y_assign rfl) ?_  -- t2 := assign t5
  refine L_nil ?_
  refine W_ret ?_
  -- sep: 
  refine ret_one rfl (.tmp (v := _) rfl .nil) ⟨_, rfl, hs.below, ?_⟩
  rfl
theorem cal_shape5 (w0 : World) (ad : Addr) : Cal Tryd.prog 85 #[.pointer (some ad)] w0 fun v w1 => Below w0.heap.size w0 w1 ∧ v = .pointer (some (ad.add 17)) := by
  refine cal_W (n := 6) Tryd.func85 rfl rfl (by simp) ?_
  have hs := Sep.refl w0
  refine W_seq ?_
  refine W_region ?_
  refine L_q rfl (y_assign rfl) ?_  -- t2 := assign nilptr
  refine L_nil ?_
  refine W_seq ?_
  refine W_region ?_
  refine L_q rfl (y_move rfl) ?_  -- t3 := move t0
  refine L_q rfl (y_nil rfl) ?_  -- t4 := nilCheck t3
  refine L_q rfl (y_fad fa_108_7 rfl) ?_  -- t5 := fieldAddr 108 t4 7
  refine L_q rfl (y_assign rfl) ?_  -- t2 := assign t5
  refine L_nil ?_
  refine W_ret ?_
  -- sep: 
  refine ret_one rfl (.tmp (v := _) rfl .nil) ⟨_, rfl, hs.below, ?_⟩
  rfl
theorem cal_shape6 (w0 : World) (ad : Addr) : Cal Tryd.prog 86 #[.pointer (some ad)] w0 fun v w1 => Below w0.heap.size w0 w1 ∧ v = .pointer (some (ad.add 20)) := by
  refine cal_W (n := 6) Tryd.func86 rfl rfl (by simp) ?_
  have hs := Sep.refl w0
  refine W_seq ?_
  refine W_region ?_
  refine L_q rfl (y_assign rfl) ?_  -- t2 := assign nilptr
  refine L_nil ?_
  refine W_seq ?_
  refine W_region ?_
  refine L_q rfl (y_move rfl) ?_  -- t3 := move t0
  refine L_q rfl (y_nil rfl) ?_  -- t4 := nilCheck t3
  refine L_q rfl (y_fad fa_108_8 rfl) ?_  -- t5 := fieldAddr 108 t4 8
  refine L_q rfl (y_assign rfl) ?_  -- t2 := assign t5
  refine L_nil ?_
  refine W_ret ?_
  -- sep: 
  refine ret_one rfl (.tmp (v := _) rfl .nil) ⟨_, rfl, hs.below, ?_⟩
  rfl
theorem cal_shape (w0 : World) (ad : Addr) {i : Nat} (hi : i < 7) : Cal Tryd.prog (80 + i) #[.pointer (some ad)] w0 fun v w1 => Below w0.heap.size w0 w1 ∧ v = .pointer (some (ad.add (2 + 3 * i))) := by
  have : i = 0 ∨ i = 1 ∨ i = 2 ∨ i = 3 ∨ i = 4 ∨ i = 5 ∨ i = 6 := by omega
  rcases this with rfl | rfl | rfl | rfl | rfl | rfl | rfl
  · exact cal_shape0 w0 ad
  · exact cal_shape1 w0 ad
  · exact cal_shape2 w0 ad
  · exact cal_shape3 w0 ad
  · exact cal_shape4 w0 ad
  · exact cal_shape5 w0 ad
  · exact cal_shape6 w0 ad
theorem en_shape {i : Nat} (hi : i < 7) : Enters Tryd.prog (80 + i) := by
  have : i = 0 ∨ i = 1 ∨ i = 2 ∨ i = 3 ∨ i = 4 ∨ i = 5 ∨ i = 6 := by omega
  rcases this with rfl | rfl | rfl | rfl | rfl | rfl | rfl
  · exact en_80
  · exact en_81
  · exact en_82
  · exact en_83
  · exact en_84
  · exact en_85
  · exact en_86

/-- The table 'sides'. -/
def sidesL : List Int := [0, 0, 1, 0, 1, 0, 0, 0, 2, 0, 2, 0, 0, 2]
def Sides (w : World) : Prop := Rg w ⟨0, 0, none⟩ (sidesL.map (Value.int .i64))
theorem Sides.below {w w1 : World} (h : Sides w) (hb : Below w.heap.size w w1) : Sides w1 := Rg.below h hb
def sideOf (i k : Nat) : Int := sidesL.getD (2 * i + k) 0
theorem rg_side {w : World} (h : Sides w) {i : Int} (h0 : 0 ≤ i) (h1 : i < 7) (k : Nat) (hk : k < 2) : Rg w (((⟨0, 0, none⟩ : Addr).add (i.toNat * 2)).add k) [.int .i64 (sideOf i.toNat k)] := by
  have : i = 0 ∨ i = 1 ∨ i = 2 ∨ i = 3 ∨ i = 4 ∨ i = 5 ∨ i = 6 := by omega
  have hk' : k = 0 ∨ k = 1 := by omega
  rw [add_add]
  rcases this with rfl | rfl | rfl | rfl | rfl | rfl | rfl <;> rcases hk' with rfl | rfl <;> exact h.sub _ 1 rfl
/-- The cells of shapes' answer. -/
def shpRow (x : SC) (i : Nat) : List Value := [.func (.func (80 + i)) #[] #[], .int .i64 (measOf x (sideOf i 0)), .int .i64 (measOf x (sideOf i 1))]
def shp (x : SC) : Nat → List Value
  | 0 => [.func (.func 80) #[] #[], .int .i64 0, .int .i64 0, .func (.func 81) #[] #[], .int .i64 0, .int .i64 0, .func (.func 82) #[] #[], .int .i64 0, .int .i64 0, .func (.func 83) #[] #[], .int .i64 0, .int .i64 0, .func (.func 84) #[] #[], .int .i64 0, .int .i64 0, .func (.func 85) #[] #[], .int .i64 0, .int .i64 0, .func (.func 86) #[] #[], .int .i64 0, .int .i64 0]
  | i + 1 => ((shp x i).set (i * 3 + 1) (.int .i64 (measOf x (sideOf i 0)))).set (i * 3 + 2) (.int .i64 (measOf x (sideOf i 1)))
theorem shp_len (x : SC) : ∀ i, (shp x i).length = 21
  | 0 => rfl
  | i + 1 => by simp [shp, shp_len x i]
theorem shp_step (x : SC) {i : Int} (h0 : 0 ≤ i) : shp x (i + 1).toNat = ((shp x i.toNat).set (i.toNat * 3 + 1) (.int .i64 (measOf x (sideOf i.toNat 0)))).set (i.toNat * 3 + 2) (.int .i64 (measOf x (sideOf i.toNat 1))) := by
  rw [show (i + 1).toNat = i.toNat + 1 by omega]
  rfl
def shpEnd (x : SC) : List Value := shpRow x 0 ++ shpRow x 1 ++ shpRow x 2 ++ shpRow x 3 ++ shpRow x 4 ++ shpRow x 5 ++ shpRow x 6
theorem shp_end (x : SC) : shp x 7 = shpEnd x := rfl
theorem cal_model_shapes (w0 : World) (x : SC) (cs : List Value) (hx : kC.K w0 x cs) (hG : Sides w0) (hcfg : cfgOK x = true) : Cal Tryd.prog 74 #[.agg cs.toArray] w0 fun v w1 => Below w0.heap.size w0 w1 ∧ ∃ g, v = .slice (some ⟨g, 0, none⟩) 7 7 ∧ w0.heap.size ≤ g ∧ w1.heap[g]? = some (.cells (shpEnd x).toArray 129 (0, 0)) := by
  obtain rfl := kC_open hx
  refine cal_W (n := 40) Tryd.func74 rfl rfl (by simp) ?_
  have hs := Sep.refl w0
  refine W_seq ?_
  refine W_region ?_
  refine L_op rfl (o_box (cs := [_, _, _, _, _, _, _, _]) rfl rfl hs ?_)  -- t1 := box 23 t0
  intro g1 w1 hs
  refine L_q rfl (y_assign rfl) ?_  -- t2 := assign nil
  refine L_nil ?_
  refine W_seq ?_
  refine W_region ?_
  refine L_q rfl (y_build rfl (bd_129_0 ..)) ?_  -- t5 := build 129 [0=f80]
  refine L_q rfl (y_build rfl (bd_129_0 ..)) ?_  -- t6 := build 129 [0=f81]
  refine L_q rfl (y_build rfl (bd_129_0 ..)) ?_  -- t7 := build 129 [0=f82]
  refine L_q rfl (y_build rfl (bd_129_0 ..)) ?_  -- t8 := build 129 [0=f83]
  refine L_q rfl (y_build rfl (bd_129_0 ..)) ?_  -- t9 := build 129 [0=f84]
  refine L_q rfl (y_build rfl (bd_129_0 ..)) ?_  -- t10 := build 129 [0=f85]
  refine L_q rfl (y_build rfl (bd_129_0 ..)) ?_  -- t11 := build 129 [0=f86]
  refine L_op rfl (o_bsk u_125 i_129 rfl (by decide) (by decide) (bs_125_7 ..) hs ?_)  -- t12 := buildSlice 125 7 [0=t5,1=t6,2=t7,3=t8,4=t9,5=t10,6=t11]
  intro g12 w1 hs
  refine L_q rfl (y_assign rfl) ?_  -- t3 := assign t12
  refine L_nil ?_
  refine W_seq ?_
  refine W_seq ?_
  refine W_region ?_
  refine L_q rfl (y_move rfl) ?_  -- t13 := move t3
  refine L_q rfl (y_len u_125 rfl) ?_  -- t14 := len(t13) :3
  refine L_q rfl (y_move rfl) ?_  -- t15 := move 0
  refine L_nil ?_
  refine W_block ?_
  obtain ⟨L1, hs, hL1⟩ := hs.named1
  obtain ⟨c1_g12, hs, hc1_g12⟩ := hs.cells1
  refine W_loopF (fun f0 m f w1 => ∃ (i : Int), 0 ≤ i ∧ i ≤ 7 ∧ m = (7 - i).toNat ∧ True ∧ sl f 1 = sl f0 1 ∧ sl f 2 = sl f0 2 ∧ sl f 3 = sl f0 3 ∧ sl f 14 = sl f0 14 ∧ sl f 15 = .int .i64 i ∧ Sep w0 w1 (blk g12 129 (shp x i.toNat) :: L1)) ((7 : Int) - 0).toNat ?_ ?_
  · subst hc1_g12; exact ⟨0,  by omega, by omega, rfl, trivial, rfl, rfl, rfl, rfl, rfl, hs⟩
  clear hs
  rintro m f w1 ⟨i,  hi0, hi1, rfl, hP1, h1_1, h1_2, h1_3, h1_14, h1_15, hs⟩
  subst hc1_g12; subst hL1
  refine W_seq ?_
  refine W_region ?_
  refine L_q rfl (y_lss h1_15 h1_14) ?_  -- t16 := binOp lss 3 t15 t14 3
  refine L_nil ?_
  refine W_seq ?_
  refine W_if rfl (fun hq1 => ?_) (fun hq1 => ?_)
  · skip
    have hlt : i < 7 := of_decide_eq_true hq1
    refine W_skip ?_
    refine W_seq ?_
    refine W_block ?_
    refine W_seq ?_
    refine W_region ?_
    refine L_q rfl (y_move h1_15) ?_  -- t17 := move t15
    refine L_q rfl (y_assign rfl) ?_  -- t4 := assign t17
    refine L_nil ?_
    refine W_drawS rfl [false, true] hs ?_
    intro w1 hs
    refine H_q (i := 0) rfl (by kernel_rfl) rfl (fun _ hw => (y_move h1_3)) (hs.keep [false, true]) ?_  -- t18 := move t3
    refine H_q (i := 1) rfl (by kernel_rfl) rfl (fun _ hw => (y_move rfl)) (hs.keep [false, true]) ?_  -- t19 := move t4
    refine H_q (i := 2) rfl (by kernel_rfl) rfl (fun _ hw => (y_move h1_3)) (hs.keep [false, true]) ?_  -- t20 := move t3
    refine H_q (i := 3) rfl (by kernel_rfl) rfl (fun _ hw => (y_move rfl)) (hs.keep [false, true]) ?_  -- t21 := move t4
    refine H_q (i := 4) rfl (by kernel_rfl) rfl (fun _ hw => (y_fls (cs := [_, _, _, _, _, _, _, _]) r_23 sz_23 h1_1 (rg_of_range (hw.rg 0 rfl 0 8 rfl)))) (hs.keep [false, true]) ?_  -- t22 := load 23 t1
    refine H_q (i := 5) rfl (by kernel_rfl) rfl (fun _ hw => (y_move rfl)) (hs.keep [false, true]) ?_  -- t23 := move t4
    refine H_q (i := 6) rfl (by kernel_rfl) rfl (fun _ hw => (y_iaa u_138 sz_137 rfl rfl (by omega) (by omega))) (hs.keep [false, true]) ?_  -- t24 := indexAddr 138 g0 t23
    refine H_q (i := 7) rfl (by kernel_rfl) rfl (fun _ hw => (y_fad fa_137_0 rfl)) (hs.keep [false, true]) ?_  -- t25 := fieldAddr 137 t24 0
    refine H_q (i := 8) rfl (by kernel_rfl) rfl (fun _ hw => (y_fld r_3 rfl (rg_side (hG.below hw.below) hi0 hlt 0 (by decide)))) (hs.keep [false, true]) ?_  -- t26 := load 3 t25
    refine H_q (i := 10) rfl (by kernel_rfl) rfl (fun _ hw => (y_fls (cs := [_, _, _, _, _, _, _, _]) r_23 sz_23 h1_1 (rg_of_range (hw.rg 0 rfl 0 8 rfl)))) (hs.keep [false, true]) ?_  -- t28 := load 23 t1
    refine H_q (i := 11) rfl (by kernel_rfl) rfl (fun _ hw => (y_move rfl)) (hs.keep [false, true]) ?_  -- t29 := move t4
    refine H_q (i := 12) rfl (by kernel_rfl) rfl (fun _ hw => (y_iaa u_138 sz_137 rfl rfl (by omega) (by omega))) (hs.keep [false, true]) ?_  -- t30 := indexAddr 138 g0 t29
    refine H_q (i := 13) rfl (by kernel_rfl) rfl (fun _ hw => (y_fad fa_137_1 rfl)) (hs.keep [false, true]) ?_  -- t31 := fieldAddr 137 t30 1
    refine H_q (i := 14) rfl (by kernel_rfl) rfl (fun _ hw => (y_fld r_3 rfl (rg_side (hG.below hw.below) hi0 hlt 1 (by decide)))) (hs.keep [false, true]) ?_  -- t32 := load 3 t31
    refine H_loud (i := 9) rfl (by kernel_rfl) (by simp [Region.wanted]) (o_call en_87 rfl hs (cal_model_measure _ x _ _ (kC_mk _ _) hcfg) ?_)  -- t27 := CALL f87(t22, t26) :3
    intro v27 w1 hb hs hv27
    refine ⟨hs.keep [false, true], ?_⟩
    refine H_loud (i := 15) rfl (by kernel_rfl) (by simp [Region.wanted]) (o_call en_87 rfl hs (cal_model_measure _ x _ _ (kC_mk _ _) hcfg) ?_)  -- t33 := CALL f87(t28, t32) :3
    intro v33 w1 hb hs hv33
    refine ⟨hs.keep [false, true], ?_⟩
    refine H_q (i := 16) rfl (by kernel_rfl) rfl (fun _ hw => (y_ia u_125 sz_129 rfl rfl (by omega) (by omega))) (hs.keep [false, true]) ?_  -- t34 := indexAddr 125 t18 t19
    refine H_q (i := 17) rfl (by kernel_rfl) rfl (fun _ hw => (y_fad fa_129_1 rfl)) (hs.keep [false, true]) ?_  -- t35 := fieldAddr 129 t34 1
    refine H_loud (i := 18) rfl (by kernel_rfl) (by simp [Region.wanted]) (o_set sz_3 rfl (by rw [add_at, add_at, Nat.zero_add]) hv27 rfl rfl (hs.front 0) (by rw [shp_len]; omega) ?_)  -- store 3 t35 t27
    intro w1 hs
    refine ⟨hs.keep [false, true], ?_⟩
    refine H_q (i := 19) rfl (by kernel_rfl) rfl (fun _ hw => (y_ia u_125 sz_129 rfl rfl (by omega) (by omega))) (hs.keep [false, true]) ?_  -- t36 := indexAddr 125 t20 t21
    refine H_q (i := 20) rfl (by kernel_rfl) rfl (fun _ hw => (y_fad fa_129_2 rfl)) (hs.keep [false, true]) ?_  -- t37 := fieldAddr 129 t36 2
    refine H_loud (i := 21) rfl (by kernel_rfl) (by simp [Region.wanted]) (o_set sz_3 rfl (by rw [add_at, add_at, Nat.zero_add]) hv33 rfl rfl (hs.front 0) (by rw [List.length_set, shp_len]; omega) ?_)  -- store 3 t37 t33
    intro w1 hs
    refine ⟨hs.keep [false, true], ?_⟩
    refine H_done (by kernel_rfl) ?_
    refine W_region ?_
    refine L_q rfl (y_addi h1_15 rfl (by omega) (by omega)) ?_  -- t38 := binOp add 3 t15 1 3
    refine L_q rfl (y_move rfl) ?_  -- t15 := move t38
    refine L_nil ?_
    -- sep: g12 g1
    rw [← shp_step x hi0] at hs
    exact ⟨_, by omega, i + 1,  by omega, by omega, rfl, trivial, h1_1, h1_2, h1_3, h1_14, rfl, hs⟩
  · skip
    refine W_exit ?_
    refine x_hit ?_
    refine W_seq ?_
    refine W_region ?_
    refine L_q rfl (y_move h1_3) ?_  -- t39 := move t3
    refine L_q rfl (y_assign rfl) ?_  -- t2 := assign t39
    refine L_nil ?_
    refine W_ret ?_
    -- sep: g12 g1
    refine ret_one rfl (.tmp (v := _) rfl .nil) ⟨_, rfl, hs.below, ?_⟩
    have e7 : i.toNat = 7 := by have := of_decide_eq_false hq1; omega
    rw [e7, shp_end] at hs
    exact ⟨_, rfl, hs.outB 0 rfl⟩
end Go.Proofs.YtlmddncoeikfjaaDoor
