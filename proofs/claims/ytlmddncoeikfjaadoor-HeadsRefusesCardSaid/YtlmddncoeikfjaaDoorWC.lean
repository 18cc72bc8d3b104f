/- Walks: Top, and the fixed part of the law of the heads. -/
import Derived.Test.YtlmddncoeikfjaaDoorWB
namespace Go.Proofs.YtlmddncoeikfjaaDoor
open Go.RowKit Go.Proofs.YtlmddncoeikfjaaDoorW.PrintWords
set_option maxRecDepth 100000
set_option maxHeartbeats 4000000

/-- The k places that hold the largest values. -/
def topI (xs : List Int) (k : Int) : List Int := if k < 1 then [] else (rankI xs).take k.toNat
theorem rankL_fst (xs : List Int) : (rankL xs).map (·.1) = rankI xs := by simp [rankL, List.map_map, Function.comp_def]
theorem rankI_take {xs : List Int} {k : Nat} {x : Int × Int} (h : (rankL xs)[k]? = some x) : (rankI xs).take k ++ [x.1] = (rankI xs).take (k + 1) := by
  have h1 : (rankI xs)[k]? = some x.1 := by rw [← rankL_fst, List.getElem?_map, h]; rfl
  have hk : k < (rankI xs).length := (List.getElem?_eq_some_iff.1 h1).1
  rw [List.take_succ_eq_append_getElem hk]
  rw [List.getElem?_eq_getElem hk] at h1
  injection h1 with h1
  rw [h1]
theorem topI_all {xs : List Int} {m : Int} (h : (xs.length : Int) < m) : topI xs m = (rankI xs).take xs.length := by
  rw [topI, if_neg (by omega), List.take_of_length_le (by rw [rankI_len]; omega), List.take_of_length_le (by rw [rankI_len]; omega)]
theorem topI_at {xs : List Int} {m : Int} {k : Nat} (h : (k : Int) = m) (h1 : 1 ≤ m) : topI xs m = (rankI xs).take k := by
  rw [topI, if_neg (by omega), show m.toNat = k by omega]
theorem cal_Top (w0 : World) (A : Option Addr) (n c : Nat) (m : Int) (xs : List Int) (hC : (Kd.int .i64).C w0 A n xs) (hn : n < 20) :
    Cal Tryd.prog 25 #[.slice A n c, .int .i64 m] w0 fun v w1 => Below w0.heap.size w0 w1 ∧ (Kd.int .i64).R 3 w1 w0.heap.size (fun _ => True) v (topI xs m) := by
  obtain rfl : xs.length = n := hC.1
  refine cal_W (n := 23) Tryd.func25 rfl rfl (by simp) ?_
  have hs := Sep.refl w0
  refine W_seq ?_
  refine W_region ?_
  refine L_op rfl (o_box (cs := [_]) rfl rfl hs ?_)  -- t3 := box 3 t1
  intro g3 w1 hs
  refine L_q rfl (y_assign rfl) ?_  -- t4 := assign nil
  refine L_nil ?_
  refine W_seq ?_
  refine W_region ?_
  refine L_op rfl (o_alloc al_47 hs ?_)  -- t5 := alloc 47
  intro g5 w1 hs
  refine L_nil ?_
  refine W_seq ?_
  refine W_seq ?_
  refine W_region ?_
  refine L_q rfl (y_fld r_3 rfl (rg_of_range (hs.rg 1 rfl 0 1 rfl))) ?_  -- t7 := load 3 t3
  refine L_q rfl (y_lss rfl rfl) ?_  -- t8 := binOp lss 3 t7 1 3
  refine L_nil ?_
  refine W_if rfl (fun hq1 => ?_) (fun hq1 => ?_)
  · skip
    refine W_seq ?_
    refine W_region ?_
    refine L_q rfl (y_fld r_47 rfl (rg_of_range (hs.rg 0 rfl 0 1 rfl))) ?_  -- t9 := load 47 t5
    refine L_q rfl (y_assign rfl) ?_  -- t4 := assign t9
    refine L_nil ?_
    refine W_ret ?_
    -- sep: g5 g3
    refine ret_one rfl (.tmp (v := _) rfl .nil) ⟨_, rfl, hs.below, ?_⟩
    rw [topI, if_pos (of_decide_eq_true hq1)]
    exact Kd.R_nil _ _ _ _ _
  · skip
    refine W_skip ?_
    refine W_seq2 ?_
    refine W_region ?_
    refine L_q rfl (y_move rfl) ?_  -- t10 := move t0
    skip
    refine L_op rfl (o_callX en_42 rfl (cal_Ranked w0 _ A _ c xs _ hs (Kd.C_below hC hs.below) (by omega)) ?_)  -- t11 := CALL f42(t10) :89
    intro v11 w1 hv11
    obtain ⟨_, gB, A2, c2, rfl, hs⟩ := hv11
    refine L_nil ?_
    refine WB_name fun F1 hF1 => ?_
    have f1_3 := slF hF1 3
    have f1_4 := slF hF1 4
    have f1_5 := slF hF1 5
    have f1_11 := slF hF1 11
    clear hF1
    -- sep: K g5 g3
    have hm1 := of_decide_eq_false hq1
    replace hs := ((hs.nilR (Kd.int .i64) 3).front 2).front 2
    refine WB_range f1_11 (en_62) (iter_ranked w0 gB c2 A2 xs hn) (fun _ => rfl) (fun k l => (k : Int) < m ∧ ∃ v, l = [blk g5 47 [v], row w0.heap.size (Kd.int .i64) 3 v ((rankI xs).take k), blk g3 3 [.int .i64 m]]) (fun l => ∃ v, l = [blk g5 47 [v], row w0.heap.size (Kd.int .i64) 3 v (topI xs m), blk g3 3 [.int .i64 m]]) (fun _ => False) (⟨by omega, _, rfl⟩) hs (fun x => (up (up (up F1 12 (.int .i64 x.1)) 13 (.int .i64 x.2)) 6 (.int .i64 x.1))) ?_ ?_ ?_ ?_
    · intro r x W0
      rw [zip2]
      refine W_region ?_
      refine L_q rfl (y_assign rfl) ?_  -- t6 := assign t12
      refine L_nil ?_
      exact ⟨rfl, rfl⟩
    · intro r k x h l W0 hx hJ hs
      obtain ⟨hk, v, rfl⟩ := hJ
      have hkl : k < xs.length := by have := (List.getElem?_eq_some_iff.1 hx).1; rwa [rankL_len] at this
      refine W_block ?_
      refine W_seq ?_
      refine W_region ?_
      refine L_q rfl (y_fld r_47 f1_5 (rg_of_range (hs.rg 1 rfl 0 1 rfl))) ?_  -- t14 := load 47 t5
      refine L_q rfl (y_move rfl) ?_  -- t15 := move t6
      refine L_op rfl (o_bs (cs := [_]) u_47 i_3 rfl rfl rfl (by decide) (by decide) hs ?_)  -- t16 := buildSlice 47 1 [0=t15]
      intro g16 w1 hs
      refine L_op rfl (o_app0 u_47 i_3 rfl (by decide) (by decide) rfl rfl rfl ((hs.front 3).front 1) (by simp [rankI_len]; omega) ?_)  -- t17 := append(t14, t16) :47
      intro v17 w1 hs
      obtain ⟨A17, c17, rfl⟩ := Kd.R_slice hs.outR
      refine L_op rfl (o_store (seg := [_]) (cs' := [_]) sz_47 f1_5 rfl rfl rfl (hs.front 2) (Nat.le_of_ble_eq_true rfl) rfl ?_)  -- store 47 t5 t17
      intro w1 hs
      refine L_nil ?_
      refine W_seq ?_
      refine W_region ?_
      refine L_q rfl (y_fld r_47 f1_5 (rg_of_range (hs.rg 0 rfl 0 1 rfl))) ?_  -- t18 := load 47 t5
      refine L_q rfl (y_len u_47 rfl) ?_  -- t19 := len(t18) :3
      refine L_q rfl (y_fld r_3 f1_3 (rg_of_range (hs.rg 3 rfl 0 1 rfl))) ?_  -- t20 := load 3 t3
      refine L_q rfl (y_eql rfl rfl) ?_  -- t21 := binOp eql 3 t19 t20 3
      refine L_nil ?_
      refine W_if rfl (fun hq2 => ?_) (fun hq2 => ?_)
      · skip
        refine W_exit ?_
        refine x_far (by decide) ?_
        -- sep: g5 rowT h g3
        skip
        have hl := of_decide_eq_true hq2
        rw [rankI_take hx] at hs hl
        rw [List.length_take, rankI_len] at hl
        rw [← topI_at (xs := xs) (k := k + 1) (m := m) (by omega) (by omega)] at hs
        exact ⟨rfl, _, ⟨_, rfl⟩, hs.front 2⟩
      · skip
        refine W_skip ?_
        -- sep: g5 rowT h g3
        skip
        have hl := of_decide_eq_false hq2
        rw [rankI_take hx] at hs hl
        rw [List.length_take, rankI_len] at hl
        exact ⟨_, ⟨by omega, _, rfl⟩, hs.front 2⟩
    · intro D l W0 hJ hs
      obtain ⟨v, rfl⟩ : ∃ v, l = [blk g5 47 [v], row w0.heap.size (Kd.int .i64) 3 v (topI xs m), blk g3 3 [.int .i64 m]] := by
        rcases hJ with ⟨hk, v, rfl⟩ | h
        · rw [rankL_len] at hk ⊢
          exact ⟨v, by rw [topI_all hk]⟩
        · exact h
      refine W_seq ?_
      refine W_region ?_
      refine L_q rfl (y_fld r_47 f1_5 (rg_of_range (hs.rg 2 rfl 0 1 rfl))) ?_  -- t22 := load 47 t5
      refine L_q rfl (y_assign rfl) ?_  -- t4 := assign t22
      refine L_nil ?_
      refine W_ret ?_
      -- sep: objD K g5 rowT g3
      refine ret_mark (hs.outO 0 rfl).2 ?_
      replace hs := hs.putO (.deferred none)
      refine ret_one rfl (.tmp (v := v) rfl .nil) ⟨_, rfl, hs.below, ?_⟩
      exact (hs.front 3).outR
    · intro D l W0 hJ hs
      exact hJ.elim
/-- What the law's own ranking gathers: all, or the first m. -/
def rkI (xs : List Int) (m : Int) : List Int := if m < 1 then rankI xs else (rankI xs).take m.toNat
theorem rkI_all {xs : List Int} {m : Int} (h : m < 1 ∨ (xs.length : Int) < m) : rkI xs m = (rankI xs).take xs.length := by
  rw [rkI]
  split
  · rw [List.take_of_length_le (by rw [rankI_len]; omega)]
  · rw [List.take_of_length_le (by rw [rankI_len]; omega), List.take_of_length_le (by rw [rankI_len]; omega)]
theorem rkI_at {xs : List Int} {m : Int} {k : Nat} (h : (k : Int) = m) (h1 : 1 ≤ m) : rkI xs m = (rankI xs).take k := by
  rw [rkI, if_neg (by omega), show m.toNat = k by omega]
theorem rankL_val {xs : List Int} {k : Nat} {x : Int × Int} (h : (rankL xs)[k]? = some x) : 0 ≤ x.1 ∧ x.1 < xs.length ∧ x.2 = rd xs x.1 := by
  rw [rankL, List.getElem?_map] at h
  cases hr : (rankI xs)[k]? with
  | none => rw [hr] at h; cases h
  | some y =>
    rw [hr] at h
    injection h with h
    subst h
    have := rankI_all xs y (List.mem_of_getElem? hr)
    exact ⟨this.1, this.2, rfl⟩
theorem cal_law09_ranked (w0 : World) (A : Option Addr) (n c : Nat) (m : Int) (xs : List Int) (hC : (Kd.int .i64).C w0 A n xs) (hn : n < 20) :
    Cal Tryd.prog 45 #[.slice A n c, .int .i64 m] w0 fun v w1 => Below w0.heap.size w0 w1 ∧ ∃ v', v = .tuple #[v', .bool true] ∧ (Kd.int .i64).R 3 w1 w0.heap.size (fun _ => True) v' (rkI xs m) := by
  obtain rfl : xs.length = n := hC.1
  refine cal_W (n := 43) Tryd.func45 rfl rfl (by simp) ?_
  have hs := Sep.refl w0
  refine W_seq ?_
  refine W_region ?_
  refine L_op rfl (o_box (cs := [_]) rfl rfl hs ?_)  -- t2 := box 36 t0
  intro g2 w1 hs
  refine L_op rfl (o_box (cs := [_]) rfl rfl hs ?_)  -- t3 := box 3 t1
  intro g3 w1 hs
  refine L_op rfl (o_alloc al_47 hs ?_)  -- t4 := alloc 47
  intro g4 w1 hs
  refine L_op rfl (o_alloc al_4 hs ?_)  -- t5 := alloc 4
  intro g5 w1 hs
  refine L_nil ?_
  refine W_seq ?_
  refine W_region ?_
  refine L_op rfl (o_alloc al_47 hs ?_)  -- t6 := alloc 47
  intro g6 w1 hs
  refine L_nil ?_
  refine W_seq ?_
  refine W_region ?_
  refine L_q rfl (y_fld r_36 rfl (rg_of_range (hs.rg 4 rfl 0 1 rfl))) ?_  -- t10 := load 36 t2
  skip
  refine L_op rfl (o_callX en_42 rfl (cal_Ranked w0 _ A _ c xs _ hs (Kd.C_below hC hs.below) (by omega)) ?_)  -- t11 := CALL f42(t10) :89
  intro v11 w1 hv11
  obtain ⟨_, gB, A2, c2, rfl, hs⟩ := hv11
  refine L_q rfl (y_assign rfl) ?_  -- t7 := assign t11
  refine L_nil ?_
  refine W_seq ?_
  refine W_seq ?_
  refine W_region ?_
  refine L_q rfl (y_move rfl) ?_  -- t12 := move t7
  refine L_q rfl (y_bin rfl rfl rfl (eql_89 ..)) ?_  -- t13 := binOp eql 89 t12 Value.nilFunc 89
  refine L_nil ?_
  refine W_if rfl (fun hq1 => ?_) (fun hq1 => ?_)
  · skip
    cases hq1
  · skip
    refine W_skip ?_
    refine W_seq2 ?_
    refine W_region ?_
    refine L_q rfl (y_move rfl) ?_  -- t14 := move t7
    refine L_nil ?_
    refine WB_name fun F1 hF1 => ?_
    have f1_2 := slF hF1 2
    have f1_3 := slF hF1 3
    have f1_4 := slF hF1 4
    have f1_5 := slF hF1 5
    have f1_6 := slF hF1 6
    have f1_14 := slF hF1 14
    clear hF1
    -- sep: K g6 g5 g4 g3 g2
    replace hs := ((hs.nilR (Kd.int .i64) 3).front 2).front 2
    refine WB_range f1_14 (en_62) (iter_ranked w0 gB c2 A2 xs hn) (fun _ => rfl) (fun k l => (m < 1 ∨ (k : Int) < m) ∧ ∃ v, l = [blk g6 47 [v], row w0.heap.size (Kd.int .i64) 3 v ((rankI xs).take k), blk g5 4 [.bool false], blk g4 47 [.slice none 0 0], blk g3 3 [.int .i64 m], blk g2 36 [.slice A xs.length c]]) (fun l => ∃ v, l = [blk g6 47 [v], row w0.heap.size (Kd.int .i64) 3 v (rkI xs m), blk g5 4 [.bool false], blk g4 47 [.slice none 0 0], blk g3 3 [.int .i64 m], blk g2 36 [.slice A xs.length c]]) (fun _ => False) (⟨by omega, _, rfl⟩) hs (fun x => (up (up (up (up F1 15 (.int .i64 x.1)) 16 (.int .i64 x.2)) 8 (.int .i64 x.1)) 9 (.int .i64 x.2))) ?_ ?_ ?_ ?_
    · intro r x W0
      rw [zip2]
      refine W_seq ?_
      refine W_region ?_
      refine L_q rfl (y_assign rfl) ?_  -- t8 := assign t15
      refine L_nil ?_
      refine W_region ?_
      refine L_q rfl (y_assign rfl) ?_  -- t9 := assign t16
      refine L_nil ?_
      exact ⟨rfl, rfl⟩
    · intro r k x h l W0 hx hJ hs
      obtain ⟨hk, v, rfl⟩ := hJ
      have hkl : k < xs.length := by have := (List.getElem?_eq_some_iff.1 hx).1; rwa [rankL_len] at this
      obtain ⟨hx0, hx1, hx2⟩ := rankL_val hx
      obtain ⟨ad, rfl, hrg⟩ := Kd.C_int hC _ hx0 hx1
      refine W_block ?_
      refine W_seq ?_
      refine W_seq ?_
      refine W_region ?_
      refine L_q rfl (y_move rfl) ?_  -- t17 := move t8
      refine L_q rfl (y_lss rfl rfl) ?_  -- t18 := binOp lss 3 t17 0 3
      refine L_q rfl (y_move rfl) ?_  -- t19 := move t18
      refine L_qif rfl rfl rfl (fun hc => (y_move rfl)) ?_  -- t20 := move t8 ?(2,false)
      refine L_qif rfl rfl rfl (fun hc => (y_fld r_36 f1_2 (rg_of_range (hs.rg 6 rfl 0 1 rfl)))) ?_  -- t21 := load 36 t2 ?(2,false)
      refine L_qif rfl rfl rfl (fun hc => (y_len u_36 (gv_yes hc))) ?_  -- t22 := len(t21) :3 ?(2,false)
      refine L_qif rfl rfl rfl (fun hc => (y_geq (gv_yes hc) (gv_yes hc))) ?_  -- t23 := binOp geq 3 t20 t22 3 ?(2,false)
      refine L_q rfl (y_por rfl rfl) ?_  -- t24 := pick t19 true t23
      refine L_q rfl (y_move rfl) ?_  -- t25 := move t24
      refine L_qif rfl rfl rfl (fun hc => (y_move rfl)) ?_  -- t26 := move t9 ?(8,false)
      refine L_qif rfl rfl rfl (fun hc => (y_fld r_36 f1_2 (rg_of_range (hs.rg 6 rfl 0 1 rfl)))) ?_  -- t27 := load 36 t2 ?(8,false)
      refine L_qif rfl rfl rfl (fun hc => (y_move rfl)) ?_  -- t28 := move t8 ?(8,false)
      refine L_qif rfl rfl rfl (fun hc => (y_ia u_36 sz_2 (gv_yes hc) (gv_yes hc) (by first | omega | (simp at hc; omega)) (by first | omega | (simp at hc; omega)))) ?_  -- t29 := indexAddr 36 t27 t28 ?(8,false)
      refine L_qif rfl rfl rfl (fun hc => (y_fld r_2 (gv_yes hc) (hrg.below hs.below))) ?_  -- t30 := load 2 t29 ?(8,false)
      refine L_qif rfl rfl rfl (fun hc => (y_neq (gv_yes hc) (gv_yes hc))) ?_  -- t31 := binOp neq 2 t26 t30 2 ?(8,false)
      refine L_q rfl (y_por rfl rfl) ?_  -- t32 := pick t25 true t31
      refine L_nil ?_
      refine W_if rfl (fun hq2 => ?_) (fun hq2 => ?_)
      · skip
        exact absurd hq2 (by simp; omega)
      · skip
        refine W_skip ?_
        refine W_seq ?_
        refine W_region ?_
        refine L_q rfl (y_fld r_47 f1_6 (rg_of_range (hs.rg 1 rfl 0 1 rfl))) ?_  -- t34 := load 47 t6
        refine L_q rfl (y_move rfl) ?_  -- t35 := move t8
        refine L_op rfl (o_bs (cs := [_]) u_47 i_3 rfl rfl rfl (by decide) (by decide) hs ?_)  -- t36 := buildSlice 47 1 [0=t35]
        intro g36 w1 hs
        refine L_op rfl (o_app0 u_47 i_3 rfl (by decide) (by decide) rfl rfl rfl ((hs.front 3).front 1) (by simp [rankI_len]; omega) ?_)  -- t37 := append(t34, t36) :47
        intro v37 w1 hs
        obtain ⟨A37, c37, rfl⟩ := Kd.R_slice hs.outR
        refine L_op rfl (o_store (seg := [_]) (cs' := [_]) sz_47 f1_6 rfl rfl rfl (hs.front 2) (Nat.le_of_ble_eq_true rfl) rfl ?_)  -- store 47 t6 t37
        intro w1 hs
        refine L_nil ?_
        refine W_seq ?_
        refine W_region ?_
        refine L_q rfl (y_fld r_47 f1_6 (rg_of_range (hs.rg 0 rfl 0 1 rfl))) ?_  -- t38 := load 47 t6
        refine L_q rfl (y_len u_47 rfl) ?_  -- t39 := len(t38) :3
        refine L_q rfl (y_fld r_3 f1_3 (rg_of_range (hs.rg 5 rfl 0 1 rfl))) ?_  -- t40 := load 3 t3
        refine L_q rfl (y_eql rfl rfl) ?_  -- t41 := binOp eql 3 t39 t40 3
        refine L_nil ?_
        refine W_if rfl (fun hq3 => ?_) (fun hq3 => ?_)
        · skip
          refine W_exit ?_
          refine x_far (by decide) ?_
          -- sep: g6 rowT h g5 g4 g3 g2
          skip
          have hl := of_decide_eq_true hq3
          rw [rankI_take hx] at hs hl
          rw [List.length_take, rankI_len] at hl
          rw [← rkI_at (xs := xs) (k := k + 1) (m := m) (by omega) (by omega)] at hs
          exact ⟨rfl, _, ⟨_, rfl⟩, hs.front 2⟩
        · skip
          refine W_skip ?_
          -- sep: g6 rowT h g5 g4 g3 g2
          skip
          have hl := of_decide_eq_false hq3
          rw [rankI_take hx] at hs hl
          rw [List.length_take, rankI_len] at hl
          exact ⟨_, ⟨by omega, _, rfl⟩, hs.front 2⟩
    · intro D l W0 hJ hs
      obtain ⟨v, rfl⟩ : ∃ v, l = [blk g6 47 [v], row w0.heap.size (Kd.int .i64) 3 v (rkI xs m), blk g5 4 [.bool false], blk g4 47 [.slice none 0 0], blk g3 3 [.int .i64 m], blk g2 36 [.slice A xs.length c]] := by
        rcases hJ with ⟨hk, v, rfl⟩ | h
        · rw [rankL_len] at hk ⊢
          exact ⟨v, by rw [rkI_all hk]⟩
        · exact h
      obtain ⟨Av, cv, rfl⟩ := Kd.R_slice (hs.front 3).outR
      refine W_seq ?_
      refine W_region ?_
      refine L_q rfl (y_fld r_47 f1_6 (rg_of_range (hs.rg 2 rfl 0 1 rfl))) ?_  -- t42 := load 47 t6
      refine L_op rfl (o_store (seg := [_]) (cs' := [_]) sz_47 f1_4 rfl rfl rfl (hs.front 5) (Nat.le_of_ble_eq_true rfl) rfl ?_)  -- store 47 t4 t42
      intro w1 hs
      refine L_op rfl (o_store (seg := [_]) (cs' := [_]) sz_4 f1_5 rfl rfl rfl (hs.front 5) (Nat.le_of_ble_eq_true rfl) rfl ?_)  -- store 4 t5 true
      intro w1 hs
      refine L_nil ?_
      refine W_ret ?_
      -- sep: g5 g4 objD K g6 rowT g3 g2
      refine ret_mark (hs.outO 2 rfl).2 ?_
      replace hs := (hs.front 2).putO (.deferred none)
      refine ret_many (rs := [.cell 4 47, .cell 5 4]) rfl (.cell1 (v := _) f1_4 r_47 (hs.rg 2 rfl 0 1 rfl) (.cell1 (v := _) f1_5 r_4 (hs.rg 1 rfl 0 1 rfl) .nil)) (by simp) ⟨_, rfl, hs.below, ?_⟩
      exact ⟨_, rfl, (hs.front 5).outR⟩
    · intro D l W0 hJ hs
      exact hJ.elim
theorem ext_rd {xs ys : List Int} (hl : xs.length = ys.length) (h : ∀ j : Int, 0 ≤ j → j < xs.length → rd xs j = rd ys j) : xs = ys := by
  apply List.ext_getElem hl
  intro n h1 h2
  have := h n (by omega) (by omega)
  rw [rd_get (by omega) (by omega), rd_get (by omega) (by omega)] at this
  simpa using this
theorem cal_EqInts (w0 : World) (A B : Option Addr) (n m c d : Nat) (xs ys : List Int) (hA : (Kd.int .i64).C w0 A n xs) (hB : (Kd.int .i64).C w0 B m ys) : Cal Tryd.prog 21 #[.slice A n c, .slice B m d] w0 fun v w1 => Below w0.heap.size w0 w1 ∧ v = .bool (decide (xs = ys)) := by
  obtain rfl : xs.length = n := hA.1
  obtain rfl : ys.length = m := hB.1
  refine cal_W (n := 26) Tryd.func21 rfl rfl (by simp) ?_
  have hs := Sep.refl w0
  refine W_seq ?_
  refine W_region ?_
  refine L_q rfl (y_assign rfl) ?_  -- t4 := assign false
  refine L_nil ?_
  refine W_seq ?_
  refine W_seq ?_
  refine W_region ?_
  refine L_q rfl (y_move rfl) ?_  -- t6 := move t0
  refine L_q rfl (y_len u_47 rfl) ?_  -- t7 := len(t6) :3
  refine L_q rfl (y_move rfl) ?_  -- t8 := move t1
  refine L_q rfl (y_len u_47 rfl) ?_  -- t9 := len(t8) :3
  refine L_q rfl (y_neq rfl rfl) ?_  -- t10 := binOp neq 3 t7 t9 3
  refine L_nil ?_
  refine W_if rfl (fun hq1 => ?_) (fun hq1 => ?_)
  · skip
    refine W_seq ?_
    refine W_region ?_
    refine L_q rfl (y_assign rfl) ?_  -- t4 := assign false
    refine L_nil ?_
    refine W_ret ?_
    -- sep: 
    refine ret_one rfl (.tmp (v := .bool false) rfl .nil) ⟨_, rfl, hs.below, ?_⟩
    have hne : xs ≠ ys := fun e => by subst e; simp at hq1
    rw [decide_eq_false hne]
  · skip
    have hlen : xs.length = ys.length := by have := of_decide_eq_false hq1; simp at this; omega
    have hbig : xs.length ≤ 9223372036854775807 := by have := hA.2.1; simpa using this
    refine W_skip ?_
    refine W_seq ?_
    refine W_seq ?_
    refine W_region ?_
    refine L_q rfl (y_assign rfl) ?_  -- t5 := assign 0
    refine L_nil ?_
    refine W_block ?_
    obtain ⟨L1, hs, hL1⟩ := hs.named
    refine W_loopF (fun f0 m f w1 => ∃ (i : Int), 0 ≤ i ∧ i ≤ xs.length ∧ m = (xs.length - i).toNat ∧ (∀ j : Int, 0 ≤ j → j < i → rd xs j = rd ys j) ∧ sl f 0 = sl f0 0 ∧ sl f 1 = sl f0 1 ∧ sl f 4 = .bool false ∧ sl f 5 = .int .i64 i ∧ Sep w0 w1 (L1)) ((xs.length : Int) - 0).toNat ?_ ?_
    · exact ⟨0,  by omega, by omega, rfl, (fun j h0 h1 => by omega), rfl, rfl, rfl, rfl, hs⟩
    clear hs
    rintro m f w1 ⟨i,  hi0, hi1, rfl, hP1, h1_0, h1_1, h1_4, h1_5, hs⟩
    subst hL1
    refine W_seq ?_
    refine W_seq ?_
    refine W_region ?_
    refine L_q rfl (y_move h1_5) ?_  -- t11 := move t5
    refine L_q rfl (y_move h1_0) ?_  -- t12 := move t0
    refine L_q rfl (y_len u_47 rfl) ?_  -- t13 := len(t12) :3
    refine L_q rfl (y_lss rfl rfl) ?_  -- t14 := binOp lss 3 t11 t13 3
    refine L_nil ?_
    refine W_if rfl (fun hq2 => ?_) (fun hq2 => ?_)
    · skip
      have hlt : i < xs.length := of_decide_eq_true hq2
      obtain ⟨ad, rfl, hrg⟩ := Kd.C_int hA i hi0 hlt
      obtain ⟨bd, rfl, hrh⟩ := Kd.C_int hB i hi0 (by omega)
      refine W_skip ?_
      refine W_seq ?_
      refine W_block ?_
      refine W_seq ?_
      refine W_draw rfl (fun w' => w' = w1.drew) ?_
      replace hs := hs.drew
      refine H_q (i := 0) rfl (by kernel_rfl) rfl (fun _ hw => by subst hw; exact (y_move h1_0)) rfl ?_  -- t17 := move t0
      refine H_q (i := 1) rfl (by kernel_rfl) rfl (fun _ hw => by subst hw; exact (y_move h1_5)) rfl ?_  -- t18 := move t5
      refine H_q (i := 2) rfl (by kernel_rfl) rfl (fun _ hw => by subst hw; exact (y_ia u_47 sz_3 rfl rfl (by omega) (by omega))) rfl ?_  -- t19 := indexAddr 47 t17 t18
      refine H_q (i := 3) rfl (by kernel_rfl) rfl (fun _ hw => by subst hw; exact (y_fld r_3 rfl (hrg.below hs.below))) rfl ?_  -- t20 := load 3 t19
      refine H_q (i := 4) rfl (by kernel_rfl) rfl (fun _ hw => by subst hw; exact (y_move h1_1)) rfl ?_  -- t21 := move t1
      refine H_q (i := 5) rfl (by kernel_rfl) rfl (fun _ hw => by subst hw; exact (y_move h1_5)) rfl ?_  -- t22 := move t5
      refine H_q (i := 6) rfl (by kernel_rfl) rfl (fun _ hw => by subst hw; exact (y_ia u_47 sz_3 rfl rfl (by omega) (by omega))) rfl ?_  -- t23 := indexAddr 47 t21 t22
      refine H_q (i := 7) rfl (by kernel_rfl) rfl (fun _ hw => by subst hw; exact (y_fld r_3 rfl (hrh.below hs.below))) rfl ?_  -- t24 := load 3 t23
      refine H_q (i := 8) rfl (by kernel_rfl) rfl (fun _ hw => by subst hw; exact (y_neq rfl rfl)) rfl ?_  -- t25 := binOp neq 3 t20 t24 3
      refine H_done (by kernel_rfl) ?_
      refine W_if rfl (fun hq3 => ?_) (fun hq3 => ?_)
      · skip
        refine W_seq ?_
        refine W_region ?_
        refine L_q rfl (y_assign rfl) ?_  -- t4 := assign false
        refine L_nil ?_
        refine W_ret ?_
        -- sep: 
        refine ret_one rfl (.tmp (v := .bool false) rfl .nil) ⟨_, rfl, hs.below, ?_⟩
        have hne : xs ≠ ys := fun e => by subst e; simp at hq3
        rw [decide_eq_false hne]
      · skip
        refine W_skip ?_
        refine W_region ?_
        refine L_q rfl (y_move h1_5) ?_  -- t15 := move t5
        refine L_q rfl (y_addi rfl rfl (by omega) (by omega)) ?_  -- t16 := binOp add 3 t15 1 3
        refine L_q rfl (y_assign rfl) ?_  -- t5 := assign t16
        refine L_nil ?_
        -- sep: 
        exact ⟨_, by omega, i + 1,  by omega, by omega, rfl, (fun j h0 h1 => by
          have he : rd xs i = rd ys i := by have := of_decide_eq_false hq3; simpa using this
          rcases Int.lt_or_eq_of_le (show j ≤ i by omega) with h | h
          · exact hP1 j h0 h
          · subst h; exact he), h1_0, h1_1, h1_4, rfl, hs⟩
    · skip
      refine W_exit ?_
      refine x_hit ?_
      refine W_seq ?_
      refine W_region ?_
      refine L_q rfl (y_assign rfl) ?_  -- t4 := assign true
      refine L_nil ?_
      refine W_ret ?_
      -- sep: 
      refine ret_one rfl (.tmp (v := .bool true) rfl .nil) ⟨_, rfl, hs.below, ?_⟩
      have hge := of_decide_eq_false hq2
      rw [decide_eq_true (ext_rd hlen (fun j h0 h1 => hP1 j h0 (by omega)))]
theorem Sep.rowI {w0 w : World} {l : List Asr} {g e : Nat} {k : IntKind} {xs : List Int} (h : Sep w0 w (blk g e (xs.map (Value.int k)) :: l)) (hl : xs.length ≤ maxLen) : Sep w0 w (row w0.heap.size (Kd.int k) e (.slice (some ⟨g, 0, none⟩) xs.length xs.length) xs :: l) := by
  obtain ⟨hb, S, h1, ⟨hg, hblk⟩, h3⟩ := h
  refine ⟨hb, S, h1, Kd.R_of_own ⟨by simp [encs], .inr ⟨g, _, _, rfl, (h1 g hg).1, hblk, Nat.le_refl _, hl, by simp, by rw [encs]; simp [List.take_of_length_le]⟩⟩ (fun k hk => ?_), h3⟩
  simp only [Value.ownBlock, Option.some.injEq] at hk
  subst hk
  exact hg
theorem Sep.blkC {w0 w : World} {l : List Asr} {g e : Nat} {k : IntKind} {xs : List Int} {cs : List Value} (h : Sep w0 w (blk g e cs :: l)) (hcs : cs = xs.map (Value.int k)) (hl : xs.length ≤ maxLen) : (Kd.int k).C w (some ⟨g, 0, none⟩) xs.length xs := by
  subst hcs
  obtain ⟨_, S, _, hR, _⟩ := h.rowI hl
  exact (Kd.R_reads' (show (Kd.int k).R e w w0.heap.size S _ xs from hR)).2.2
theorem Sep.rowC {w0 w : World} {l : List Asr} {B e m c : Nat} {k : IntKind} {xs : List Int} {A : Option Addr} (h : Sep w0 w l) (i : Nat) (ha : l[i]? = some (row B (Kd.int k) e (.slice A m c) xs)) : (Kd.int k).C w A m xs := by
  obtain ⟨S, _, hR⟩ := h.sep.get i ha
  obtain ⟨hm, _, hC⟩ := Kd.R_reads' (show (Kd.int k).R e w B S (.slice A m c) xs from hR)
  subst hm
  exact hC
theorem cal_Top_35 (w0 : World) (A : Option Addr) (c : Nat) (hC : (Kd.int .i64).C w0 A 2 [3, 5]) : Cal Tryd.prog 25 #[.slice A 2 c, .int .i64 2] w0 fun v w1 => Below w0.heap.size w0 w1 ∧ (Kd.int .i64).R 3 w1 w0.heap.size (fun _ => True) v [1, 0] := by
  have := cal_Top w0 A 2 c 2 [3, 5] hC (by decide)
  rwa [show topI [3, 5] 2 = [1, 0] by decide] at this
theorem cal_EqInts_same (w0 : World) (A B : Option Addr) (n m c d : Nat) (xs ys : List Int) (hA : (Kd.int .i64).C w0 A n xs) (hB : (Kd.int .i64).C w0 B m ys) (h : xs = ys) : Cal Tryd.prog 21 #[.slice A n c, .slice B m d] w0 fun v w1 => Below w0.heap.size w0 w1 ∧ v = .bool true := by
  have := cal_EqInts w0 A B n m c d xs ys hA hB
  rwa [decide_eq_true h] at this
theorem cal_law09_rankedAgain (w0 : World) : Cal Tryd.prog 30 #[] w0 fun v w1 => Below w0.heap.size w0 w1 ∧ v = .bool true := by
  refine cal_W (n := 33) Tryd.func30 rfl rfl (by simp) ?_
  have hs := Sep.refl w0
  refine W_seq ?_
  refine W_region ?_
  refine L_q rfl (y_assign rfl) ?_  -- t0 := assign false
  refine L_nil ?_
  refine W_seq ?_
  refine W_region ?_
  refine L_op rfl (o_bsk u_36 i_2 rfl (by decide) (by decide) (bs_36_2 ..) hs ?_)  -- t6 := buildSlice 36 2 [0=3,1=5]
  intro g6 w1 hs
  refine L_q rfl (y_assign rfl) ?_  -- t1 := assign t6
  refine L_nil ?_
  refine W_seq ?_
  refine W_region ?_
  refine L_q rfl (y_move rfl) ?_  -- t8 := move t1
  have hs9 := hs
  refine L_op rfl (o_call en_45 rfl hs (cal_law09_ranked _ _ 2 _ 0 [3, 5] (hs.blkC (xs := [3, 5]) rfl (by decide)) (by decide)) ?_)  -- t9 := CALL f45(t8, 0) :97
  intro v9 w1 hb hs hv9
  obtain ⟨v', rfl, hR⟩ := hv9
  replace hs := hs9.madeR hb hR (Nat.le_refl _)
  obtain ⟨A9, c9, rfl⟩ := Kd.R_slice hR
  refine L_q rfl (y_move rfl) ?_  -- t7 := move t9
  refine L_q rfl (y_ext rfl rfl) ?_  -- t10 := extract t7 0
  refine L_q rfl (y_ext rfl rfl) ?_  -- t11 := extract t7 1
  refine L_q rfl (y_assign rfl) ?_  -- t2 := assign t10
  refine L_q rfl (y_assign rfl) ?_  -- t3 := assign t11
  refine L_nil ?_
  refine W_seq ?_
  refine W_region ?_
  refine L_q rfl (y_move rfl) ?_  -- t12 := move t1
  refine L_q rfl (y_ia u_36 sz_2 rfl rfl (by omega) (by omega)) ?_  -- t13 := indexAddr 36 t12 0
  refine L_op rfl (o_set sz_2 rfl (by rfl) rfl rfl rfl (hs.front 1) (by decide) ?_)  -- store 2 t13 9
  intro w1 hs
  refine L_nil ?_
  refine W_seq ?_
  refine W_region ?_
  refine L_q rfl (y_move rfl) ?_  -- t15 := move t1
  have hs16 := hs
  refine L_op rfl (o_call en_45 rfl hs (cal_law09_ranked _ _ 2 _ 0 [9, 5] (hs.blkC (xs := [9, 5]) rfl (by decide)) (by decide)) ?_)  -- t16 := CALL f45(t15, 0) :97
  intro v16 w1 hb hs hv16
  obtain ⟨v', rfl, hR⟩ := hv16
  replace hs := hs16.madeR hb hR (Nat.le_refl _)
  obtain ⟨A16, c16, rfl⟩ := Kd.R_slice hR
  refine L_q rfl (y_move rfl) ?_  -- t14 := move t16
  refine L_q rfl (y_ext rfl rfl) ?_  -- t17 := extract t14 0
  refine L_q rfl (y_ext rfl rfl) ?_  -- t18 := extract t14 1
  refine L_q rfl (y_assign rfl) ?_  -- t4 := assign t17
  refine L_q rfl (y_assign rfl) ?_  -- t5 := assign t18
  refine L_nil ?_
  refine W_seq ?_
  refine W_region ?_
  refine L_q rfl (y_move rfl) ?_  -- t19 := move t3
  refine L_q rfl (y_move rfl) ?_  -- t20 := move t19
  refine L_qg (gd_yes rfl rfl rfl) (y_move rfl) ?_  -- t21 := move t5 ?(1,true)
  refine L_q rfl (y_pand rfl rfl) ?_  -- t22 := pick t20 t21 false
  refine L_q rfl (y_move rfl) ?_  -- t23 := move t22
  refine L_qg (gd_yes rfl rfl rfl) (y_move rfl) ?_  -- t24 := move t2 ?(4,true)
  refine L_opg (gd_yes rfl rfl rfl) (o_bsk u_47 i_3 rfl (by decide) (by decide) (bs_47_2 ..) hs ?_)  -- t25 := buildSlice 47 2 [0=1,1=0] ?(4,true)
  intro g25 w1 hs
  refine L_opg (gd_yes rfl rfl rfl) (o_call en_21 rfl hs (cal_EqInts_same _ _ _ _ 2 _ _ _ [1, 0] (hs.rowC 3 rfl) (hs.blkC (xs := [1, 0]) rfl (by decide)) (by decide)) ?_)  -- t26 := CALL f21(t24, t25) :4 ?(4,true)
  intro v26 w1 hb hs hv26
  refine L_q rfl (y_pand rfl hv26) ?_  -- t27 := pick t23 t26 false
  refine L_q rfl (y_move rfl) ?_  -- t28 := move t27
  refine L_qg (gd_yes rfl rfl rfl) (y_move rfl) ?_  -- t29 := move t4 ?(9,true)
  refine L_opg (gd_yes rfl rfl rfl) (o_bsk u_47 i_3 rfl (by decide) (by decide) (bs_47_2 ..) hs ?_)  -- t30 := buildSlice 47 2 [0=0,1=1] ?(9,true)
  intro g30 w1 hs
  refine L_opg (gd_yes rfl rfl rfl) (o_call en_21 rfl hs (cal_EqInts_same _ _ _ _ 2 _ _ _ [0, 1] (hs.rowC 2 rfl) (hs.blkC (xs := [0, 1]) rfl (by decide)) (by decide)) ?_)  -- t31 := CALL f21(t29, t30) :4 ?(9,true)
  intro v31 w1 hb hs hv31
  refine L_q rfl (y_pand rfl hv31) ?_  -- t32 := pick t28 t31 false
  refine L_q rfl (y_assign rfl) ?_  -- t0 := assign t32
  refine L_nil ?_
  refine W_ret ?_
  -- sep: g30 g25 row16 g6 row9
  refine ret_one rfl (.tmp (v := .bool true) rfl .nil) ⟨_, rfl, hs.below, ?_⟩
  rfl
theorem cal_law09_fixed (w0 : World) : Cal Tryd.prog 9 #[] w0 fun v w1 => Below w0.heap.size w0 w1 ∧ v = .bool true := by
  refine cal_W (n := 24) Tryd.func9 rfl rfl (by simp) ?_
  have hs := Sep.refl w0
  refine W_seq ?_
  refine W_region ?_
  refine L_q rfl (y_assign rfl) ?_  -- t0 := assign false
  refine L_nil ?_
  refine W_seq ?_
  refine W_region ?_
  refine L_op rfl (o_bsk u_36 i_2 rfl (by decide) (by decide) (bs_36_2 ..) hs ?_)  -- t3 := buildSlice 36 2 [0=3,1=5]
  intro g3 w1 hs
  refine L_op rfl (o_callR en_25 rfl hs (cal_Top_35 _ _ _ (hs.blkC (xs := [3, 5]) rfl (by decide))) ?_)  -- t4 := CALL f25(t3, 2) :47
  intro v4 w1 hb hs
  obtain ⟨A4, c4, rfl⟩ := Kd.R_slice hs.outR
  refine L_q rfl (y_assign rfl) ?_  -- t1 := assign t4
  refine L_nil ?_
  refine W_seq ?_
  refine W_region ?_
  refine L_op rfl (o_call en_30 rfl hs (cal_law09_rankedAgain _) ?_)  -- t5 := CALL f30() :4
  intro v5 w1 hb hs hv5
  obtain ⟨ad, rfl, hrg0⟩ := Kd.C_int (hs.rowC 0 rfl) 0 (by decide) (by decide)
  obtain ⟨bd, hbd, hrg1⟩ := Kd.C_int (hs.rowC 0 rfl) 1 (by decide) (by decide)
  injection hbd with hbd
  subst hbd
  refine L_q rfl (y_assign hv5) ?_  -- t2 := assign t5
  refine L_nil ?_
  refine W_seq ?_
  refine W_region ?_
  refine L_q rfl (y_move rfl) ?_  -- t6 := move t1
  refine L_q rfl (y_len u_47 rfl) ?_  -- t7 := len(t6) :3
  refine L_q rfl (y_eql rfl rfl) ?_  -- t8 := binOp eql 3 t7 2 3
  refine L_q rfl (y_move rfl) ?_  -- t9 := move t8
  refine L_qg (gd_yes rfl rfl rfl) (y_move rfl) ?_  -- t10 := move t1 ?(3,true)
  refine L_qg (gd_yes rfl rfl rfl) (y_ia u_47 sz_3 rfl rfl (by decide) (by decide)) ?_  -- t11 := indexAddr 47 t10 0 ?(3,true)
  refine L_qg (gd_yes rfl rfl rfl) (y_fld r_3 rfl hrg0) ?_  -- t12 := load 3 t11 ?(3,true)
  refine L_qg (gd_yes rfl rfl rfl) (y_eql rfl rfl) ?_  -- t13 := binOp eql 3 t12 1 3 ?(3,true)
  refine L_q rfl (y_pand rfl rfl) ?_  -- t14 := pick t9 t13 false
  refine L_q rfl (y_move rfl) ?_  -- t15 := move t14
  refine L_qg (gd_yes rfl rfl rfl) (y_move rfl) ?_  -- t16 := move t1 ?(9,true)
  refine L_qg (gd_yes rfl rfl rfl) (y_ia u_47 sz_3 rfl rfl (by decide) (by decide)) ?_  -- t17 := indexAddr 47 t16 1 ?(9,true)
  refine L_qg (gd_yes rfl rfl rfl) (y_fld r_3 rfl hrg1) ?_  -- t18 := load 3 t17 ?(9,true)
  refine L_qg (gd_yes rfl rfl rfl) (y_eql rfl rfl) ?_  -- t19 := binOp eql 3 t18 0 3 ?(9,true)
  refine L_q rfl (y_pand rfl rfl) ?_  -- t20 := pick t15 t19 false
  refine L_q rfl (y_move rfl) ?_  -- t21 := move t20
  refine L_qg (gd_yes rfl rfl rfl) (y_move rfl) ?_  -- t22 := move t2 ?(15,true)
  refine L_q rfl (y_pand rfl rfl) ?_  -- t23 := pick t21 t22 false
  refine L_q rfl (y_assign rfl) ?_  -- t0 := assign t23
  refine L_nil ?_
  refine W_ret ?_
  -- sep: row4 g3
  refine ret_one rfl (.tmp (v := .bool true) rfl .nil) ⟨_, rfl, hs.below, ?_⟩
  rfl
end Go.Proofs.YtlmddncoeikfjaaDoor
