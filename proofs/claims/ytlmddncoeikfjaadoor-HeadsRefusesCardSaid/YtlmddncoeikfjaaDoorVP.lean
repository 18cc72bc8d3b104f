/- Walks: do weights fit, as the program checks them. -/
import Derived.Test.YtlmddncoeikfjaaDoorVO
namespace Go.Proofs.YtlmddncoeikfjaaDoor
open Go.RowKit Go.Proofs.YtlmddncoeikfjaaDoorW.PrintWords
set_option maxRecDepth 100000
set_option maxHeartbeats 4000000

def narW (x : SW) : Prop := nar x.f1.f2 ∧ nar x.f5.f2 ∧ (∀ l ∈ x.f3, narL l) ∧ ∀ m ∈ x.f6, nar m.f2
def ok0 (x : SW) : Bool := (((((isMat x.f1 x.f0.f0 x.f0.f1 && isMat x.f5 x.f0.f0 x.f0.f1) && gainsOf x.f4 x.f0.f1) && decide ((x.f2.length : Int) = IntKind.i64.wrap ((headOf x.f0).tdiv 2))) && decide ((x.f3.length : Int) = x.f0.f4)) && decide ((x.f6.length : Int) = x.f0.f7))
def ok1 (x : SW) : Bool := x.f2.all turnOK && ok0 x
def ok2 (x : SW) : Bool := x.f3.all (fun l => layerOK l x.f0) && ok1 x
def ok3 (x : SW) : Bool := x.f6.all (fun m => isMat m x.f0.f0 x.f0.f1) && ok2 x
theorem ok3_eq (x : SW) : ok3 x = wtsOK x := by
  simp only [ok3, ok2, ok1, ok0, wtsOK, wtsHead, wtsLens, turnsOf]
  generalize isMat x.f1 x.f0.f0 x.f0.f1 = a1
  generalize isMat x.f5 x.f0.f0 x.f0.f1 = a2
  generalize gainsOf x.f4 x.f0.f1 = a3
  generalize decide ((x.f2.length : Int) = IntKind.i64.wrap ((headOf x.f0).tdiv 2)) = a4
  generalize decide ((x.f3.length : Int) = x.f0.f4) = a5
  generalize decide ((x.f6.length : Int) = x.f0.f7) = a6
  generalize x.f2.all turnOK = a7
  generalize (x.f3.all fun l => layerOK l x.f0) = a8
  generalize (x.f6.all fun m => isMat m x.f0.f0 x.f0.f1) = a9
  revert a1 a2 a3 a4 a5 a6 a7 a8 a9
  decide
theorem all_snoc {α : Type} {l : List α} {z : α} {p : α → Bool} {i : Int} (h0 : 0 ≤ i) (h1 : i < l.length) : (l.take (i + 1).toNat).all p = ((l.take i.toNat).all p && p (l.getD i.toNat z)) := by
  rw [show (i + 1).toNat = i.toNat + 1 by omega, List.take_succ_eq_append_getElem (by omega), List.all_append, getD_get h0 h1]
  simp
theorem turn_ok (x : SU) : turnOK x = (decide ((if x.f0 < x.f1 then x.f1 else x.f0) ≤ 16384) && decide (-16384 ≤ (if x.f1 < x.f0 then x.f1 else x.f0))) := by
  rw [turnOK, ← Bool.decide_and]
  apply decide_eq_decide.2
  constructor
  · intro h; constructor <;> split <;> omega
  · intro h; obtain ⟨h1, h2⟩ := h; split at h1 <;> split at h2 <;> omega
theorem bool4 (a b c d : Bool) : (((a && b) && c) && d) = ((a && (c && d)) && b) := by revert a b c d; decide
theorem bool3 (a b c : Bool) : ((a && b) && c) = ((a && c) && b) := by revert a b c; decide
theorem take_all {α : Type} {l : List α} {i : Int} (h : (l.length : Int) ≤ i) : l.take i.toNat = l := List.take_of_length_le (by omega)
theorem cal_model_Check (w0 : World) (x : SW) (cs : List Value) (hx : kW.K w0 x cs) (hG : Sides w0) (hnar : narW x) : Cal Tryd.prog 52 #[.agg cs.toArray] w0 fun v w1 => Below w0.heap.size w0 w1 ∧ v = .int .i64 (chk x) := by
  obtain ⟨A10, c10, A11, c11, A12, c12, A13, c13, A16, c16, A17, c17, rfl, l10, d10, l11, d11, l12, d12, l13, d13, l16, d16, l17, d17⟩ := kW_open hx
  obtain ⟨n1, n5, n3, n6⟩ := hnar
  have m11 : x.f2.length ≤ 9223372036854775807 := by have := d11.2.1; simpa using this
  have m12 : x.f3.length ≤ 9223372036854775807 := by have := d12.2.1; simpa using this
  have m17 : x.f6.length ≤ 9223372036854775807 := by have := d17.2.1; simpa using this
  refine cal_W (n := 126) Tryd.func52 rfl rfl (by simp) ?_
  have hs := Sep.refl w0
  refine W_seq ?_
  refine W_region ?_
  refine L_op rfl (o_box (cs := [_, _, _, _, _, _, _, _, _, _, _, _, _, _, _, _, _, _]) rfl rfl hs ?_)  -- t1 := box 31 t0
  intro g1 w1 hs
  refine L_q rfl (y_assign rfl) ?_  -- t2 := assign 0
  refine L_nil ?_
  refine W_seq ?_
  refine W_region ?_
  refine L_q rfl (y_fa fa_31_0 rfl) ?_  -- t11 := fieldAddr 31 t1 0
  refine L_q rfl (y_fls (cs := [_, _, _, _, _, _, _, _]) r_23 sz_23 rfl (rg_of_range (hs.rg 0 rfl 0 8 rfl))) ?_  -- t12 := load 23 t11
  refine L_op rfl (o_alloc al_23 hs ?_)  -- t3 := alloc 23
  intro g3 w1 hs
  refine L_op rfl (o_store (seg := [_, _, _, _, _, _, _, _]) (cs' := [_, _, _, _, _, _, _, _]) sz_23 rfl rfl rfl rfl (hs.front 0) (Nat.le_of_ble_eq_true rfl) rfl ?_)  -- store 23 t3 t12
  intro w1 hs
  refine L_nil ?_
  refine W_seq ?_
  refine W_seq ?_
  refine W_region ?_
  refine L_q rfl (y_fls (cs := [_, _, _, _, _, _, _, _]) r_23 sz_23 rfl (rg_of_range (hs.rg 0 rfl 0 8 rfl))) ?_  -- t13 := load 23 t3
  refine L_op rfl (o_call en_67 rfl hs (cal_model_CheckConfig _ x.f0 _ (kC_mk _ _)) ?_)  -- t14 := CALL f67(t13) :37
  intro v14 w1 hb hs hv14
  refine L_q rfl (y_assign hv14) ?_  -- t4 := assign t14
  refine L_nil ?_
  refine W_seq ?_
  refine W_region ?_
  refine L_q rfl (y_move rfl) ?_  -- t15 := move t4
  refine L_q rfl (y_neq rfl rfl) ?_  -- t16 := binOp neq 37 t15 0 37
  refine L_nil ?_
  refine W_if rfl (fun hq1 => ?_) (fun hq1 => ?_)
  · skip
    refine W_seq ?_
    refine W_region ?_
    refine L_q rfl (y_move rfl) ?_  -- t17 := move t4
    refine L_q rfl (y_assign rfl) ?_  -- t2 := assign t17
    refine L_nil ?_
    refine W_ret ?_
    -- sep: g3 g1
    refine ret_one rfl (.tmp (v := _) rfl .nil) ⟨_, rfl, hs.below, ?_⟩
    revert hq1
    rw [chk]
    cases cfgOK x.f0 <;> simp [er]
    rfl
  · skip
    have hok : cfgOK x.f0 = true := by
      revert hq1
      cases cfgOK x.f0 <;> simp [er]
    have hne : x.f0.f2 ≠ 0 := by have := of_decide_eq_true hok; omega
    refine W_skip ?_
    refine W_seq ?_
    refine W_drawS rfl [true, true] hs ?_
    intro w1 hs
    refine H_q (i := 0) rfl (by kernel_rfl) rfl (fun _ hw => (y_fa fa_31_1 rfl)) (hs.keep [true, true]) ?_  -- t18 := fieldAddr 31 t1 1
    refine H_q (i := 1) rfl (by kernel_rfl) rfl (fun _ hw => (y_fls (cs := [_, _, _]) r_26 sz_26 rfl (rg_of_range (hw.rg 1 rfl 8 3 rfl)))) (hs.keep [true, true]) ?_  -- t19 := load 26 t18
    refine H_q (i := 2) rfl (by kernel_rfl) rfl (fun _ hw => (y_fa fa_23_0 rfl)) (hs.keep [true, true]) ?_  -- t20 := fieldAddr 23 t3 0
    refine H_q (i := 3) rfl (by kernel_rfl) rfl (fun _ hw => (y_fld r_3 rfl (rg_of_range (hw.rg 0 rfl 0 1 rfl)))) (hs.keep [true, true]) ?_  -- t21 := load 3 t20
    refine H_q (i := 4) rfl (by kernel_rfl) rfl (fun _ hw => (y_fa fa_23_1 rfl)) (hs.keep [true, true]) ?_  -- t22 := fieldAddr 23 t3 1
    refine H_q (i := 5) rfl (by kernel_rfl) rfl (fun _ hw => (y_fld r_3 rfl (rg_of_range (hw.rg 0 rfl 1 1 rfl)))) (hs.keep [true, true]) ?_  -- t23 := load 3 t22
    refine H_loud (i := 6) rfl (by kernel_rfl) (by simp [Region.wanted]) (o_call en_68 rfl hs (cal_model_shaped _ x.f1 _ x.f0.f0 x.f0.f1 (kM_mk _ _ l10 (Kd.C_below d10 hs.below)) n1) ?_)  -- t24 := CALL f68(t19, t21, t23) :4
    intro v24 w1 hb hs hv24
    refine ⟨hs.keep [true, true], ?_⟩
    refine H_q (i := 7) rfl (by kernel_rfl) rfl (fun _ hw => (y_move hv24)) (hs.keep [true, true]) ?_  -- t25 := move t24
    refine H_qif (i := 8) rfl (by kernel_rfl) rfl rfl rfl (fun _ hw hc => (y_fa fa_31_5 rfl)) (hs.keep [true, true]) ?_  -- t26 := fieldAddr 31 t1 5 ?(7,true)
    refine H_qif (i := 9) rfl (by kernel_rfl) rfl rfl rfl (fun _ hw hc => (y_fls (cs := [_, _, _]) r_26 sz_26 (gv_yes hc) (rg_of_range (hw.rg 1 rfl 14 3 rfl)))) (hs.keep [true, true]) ?_  -- t27 := load 26 t26 ?(7,true)
    refine H_qif (i := 10) rfl (by kernel_rfl) rfl rfl rfl (fun _ hw hc => (y_fa fa_23_0 rfl)) (hs.keep [true, true]) ?_  -- t28 := fieldAddr 23 t3 0 ?(7,true)
    refine H_qif (i := 11) rfl (by kernel_rfl) rfl rfl rfl (fun _ hw hc => (y_fld r_3 (gv_yes hc) (rg_of_range (hw.rg 0 rfl 0 1 rfl)))) (hs.keep [true, true]) ?_  -- t29 := load 3 t28 ?(7,true)
    refine H_qif (i := 12) rfl (by kernel_rfl) rfl rfl rfl (fun _ hw hc => (y_fa fa_23_1 rfl)) (hs.keep [true, true]) ?_  -- t30 := fieldAddr 23 t3 1 ?(7,true)
    refine H_qif (i := 13) rfl (by kernel_rfl) rfl rfl rfl (fun _ hw hc => (y_fld r_3 (gv_yes hc) (rg_of_range (hw.rg 0 rfl 1 1 rfl)))) (hs.keep [true, true]) ?_  -- t31 := load 3 t30 ?(7,true)
    refine H_callif (i := 14) rfl (by kernel_rfl) (by kernel_rfl) rfl rfl en_68 (fun hc => args3 (gv_yes hc) (gv_yes hc) (gv_yes hc)) hs (fun _ h => h.keep [true, true]) (fun hc => cal_model_shaped _ x.f5 _ x.f0.f0 x.f0.f1 (kM_mk _ _ l16 (Kd.C_below d16 hs.below)) n5) ?_  -- t32 := CALL f68(t27, t29, t31) :4 ?(7,true)
    intro v32 w1 hb hs hv32
    refine H_q (i := 15) rfl (by kernel_rfl) rfl (fun _ hw => (y_pand rfl hv32)) (hs.keep [true, true]) ?_  -- t33 := pick t25 t32 false
    refine H_q (i := 16) rfl (by kernel_rfl) rfl (fun _ hw => (y_move rfl)) (hs.keep [true, true]) ?_  -- t34 := move t33
    refine H_qif (i := 17) rfl (by kernel_rfl) rfl rfl rfl (fun _ hw hc => (y_fa fa_31_4 rfl)) (hs.keep [true, true]) ?_  -- t35 := fieldAddr 31 t1 4 ?(16,true)
    refine H_qif (i := 18) rfl (by kernel_rfl) rfl rfl rfl (fun _ hw hc => (y_fld r_24 (gv_yes hc) (rg_of_range (hw.rg 1 rfl 13 1 rfl)))) (hs.keep [true, true]) ?_  -- t36 := load 24 t35 ?(16,true)
    refine H_qif (i := 19) rfl (by kernel_rfl) rfl rfl rfl (fun _ hw hc => (y_fa fa_23_1 rfl)) (hs.keep [true, true]) ?_  -- t37 := fieldAddr 23 t3 1 ?(16,true)
    refine H_qif (i := 20) rfl (by kernel_rfl) rfl rfl rfl (fun _ hw hc => (y_fld r_3 (gv_yes hc) (rg_of_range (hw.rg 0 rfl 1 1 rfl)))) (hs.keep [true, true]) ?_  -- t38 := load 3 t37 ?(16,true)
    refine H_callif (i := 21) rfl (by kernel_rfl) (by kernel_rfl) rfl rfl en_69 (fun hc => args2 (gv_yes hc) (gv_yes hc)) hs (fun _ h => h.keep [true, true]) (fun hc => cal_model_gains _ A13 c13 x.f4 x.f0.f1 (Kd.C_below d13 hs.below)) ?_  -- t39 := CALL f69(t36, t38) :4 ?(16,true)
    intro v39 w1 hb hs hv39
    refine H_q (i := 22) rfl (by kernel_rfl) rfl (fun _ hw => (y_pand rfl hv39)) (hs.keep [true, true]) ?_  -- t40 := pick t34 t39 false
    refine H_q (i := 23) rfl (by kernel_rfl) rfl (fun _ hw => (y_move rfl)) (hs.keep [true, true]) ?_  -- t41 := move t40
    refine H_qif (i := 24) rfl (by kernel_rfl) rfl rfl rfl (fun _ hw hc => (y_fa fa_31_2 rfl)) (hs.keep [true, true]) ?_  -- t42 := fieldAddr 31 t1 2 ?(23,true)
    refine H_qif (i := 25) rfl (by kernel_rfl) rfl rfl rfl (fun _ hw hc => (y_fld r_27 (gv_yes hc) (rg_of_range (hw.rg 1 rfl 11 1 rfl)))) (hs.keep [true, true]) ?_  -- t43 := load 27 t42 ?(23,true)
    refine H_qif (i := 26) rfl (by kernel_rfl) rfl rfl rfl (fun _ hw hc => (y_len u_27 (gv_yes hc))) (hs.keep [true, true]) ?_  -- t44 := len(t43) :3 ?(23,true)
    refine H_qif (i := 27) rfl (by kernel_rfl) rfl rfl rfl (fun _ hw hc => (y_fls (cs := [_, _, _, _, _, _, _, _]) r_23 sz_23 rfl (rg_of_range (hw.rg 0 rfl 0 8 rfl)))) (hs.keep [true, true]) ?_  -- t45 := load 23 t3 ?(23,true)
    refine H_callif (i := 28) rfl (by kernel_rfl) (by kernel_rfl) rfl rfl en_70 (fun hc => args1 (gv_yes hc)) hs (fun _ h => h.keep [true, true]) (fun hc => cal_model_head _ x.f0 _ (kC_mk _ _) hne) ?_  -- t46 := CALL f70(t45) :3 ?(23,true)
    intro v46 w1 hb hs hv46
    refine H_qif (i := 29) rfl (by kernel_rfl) rfl rfl rfl (fun _ hw hc => (y_quo (hv46.trans (gv_yes hc)) rfl (by decide))) (hs.keep [true, true]) ?_  -- t47 := binOp quo 3 t46 2 3 ?(23,true)
    refine H_qif (i := 30) rfl (by kernel_rfl) rfl rfl rfl (fun _ hw hc => (y_eql (gv_yes hc) (gv_yes hc))) (hs.keep [true, true]) ?_  -- t48 := binOp eql 3 t44 t47 3 ?(23,true)
    refine H_q (i := 31) rfl (by kernel_rfl) rfl (fun _ hw => (y_pand rfl rfl)) (hs.keep [true, true]) ?_  -- t49 := pick t41 t48 false
    refine H_q (i := 32) rfl (by kernel_rfl) rfl (fun _ hw => (y_move rfl)) (hs.keep [true, true]) ?_  -- t50 := move t49
    refine H_qif (i := 33) rfl (by kernel_rfl) rfl rfl rfl (fun _ hw hc => (y_fa fa_31_3 rfl)) (hs.keep [true, true]) ?_  -- t51 := fieldAddr 31 t1 3 ?(32,true)
    refine H_qif (i := 34) rfl (by kernel_rfl) rfl rfl rfl (fun _ hw hc => (y_fld r_28 (gv_yes hc) (rg_of_range (hw.rg 1 rfl 12 1 rfl)))) (hs.keep [true, true]) ?_  -- t52 := load 28 t51 ?(32,true)
    refine H_qif (i := 35) rfl (by kernel_rfl) rfl rfl rfl (fun _ hw hc => (y_len u_28 (gv_yes hc))) (hs.keep [true, true]) ?_  -- t53 := len(t52) :3 ?(32,true)
    refine H_qif (i := 36) rfl (by kernel_rfl) rfl rfl rfl (fun _ hw hc => (y_fa fa_23_4 rfl)) (hs.keep [true, true]) ?_  -- t54 := fieldAddr 23 t3 4 ?(32,true)
    refine H_qif (i := 37) rfl (by kernel_rfl) rfl rfl rfl (fun _ hw hc => (y_fld r_3 (gv_yes hc) (rg_of_range (hw.rg 0 rfl 4 1 rfl)))) (hs.keep [true, true]) ?_  -- t55 := load 3 t54 ?(32,true)
    refine H_qif (i := 38) rfl (by kernel_rfl) rfl rfl rfl (fun _ hw hc => (y_eql (gv_yes hc) (gv_yes hc))) (hs.keep [true, true]) ?_  -- t56 := binOp eql 3 t53 t55 3 ?(32,true)
    refine H_q (i := 39) rfl (by kernel_rfl) rfl (fun _ hw => (y_pand rfl rfl)) (hs.keep [true, true]) ?_  -- t57 := pick t50 t56 false
    refine H_q (i := 40) rfl (by kernel_rfl) rfl (fun _ hw => (y_move rfl)) (hs.keep [true, true]) ?_  -- t58 := move t57
    refine H_qif (i := 41) rfl (by kernel_rfl) rfl rfl rfl (fun _ hw hc => (y_fa fa_31_6 rfl)) (hs.keep [true, true]) ?_  -- t59 := fieldAddr 31 t1 6 ?(40,true)
    refine H_qif (i := 42) rfl (by kernel_rfl) rfl rfl rfl (fun _ hw hc => (y_fld r_29 (gv_yes hc) (rg_of_range (hw.rg 1 rfl 17 1 rfl)))) (hs.keep [true, true]) ?_  -- t60 := load 29 t59 ?(40,true)
    refine H_qif (i := 43) rfl (by kernel_rfl) rfl rfl rfl (fun _ hw hc => (y_len u_29 (gv_yes hc))) (hs.keep [true, true]) ?_  -- t61 := len(t60) :3 ?(40,true)
    refine H_qif (i := 44) rfl (by kernel_rfl) rfl rfl rfl (fun _ hw hc => (y_fa fa_23_7 rfl)) (hs.keep [true, true]) ?_  -- t62 := fieldAddr 23 t3 7 ?(40,true)
    refine H_qif (i := 45) rfl (by kernel_rfl) rfl rfl rfl (fun _ hw hc => (y_fld r_3 (gv_yes hc) (rg_of_range (hw.rg 0 rfl 7 1 rfl)))) (hs.keep [true, true]) ?_  -- t63 := load 3 t62 ?(40,true)
    refine H_qif (i := 46) rfl (by kernel_rfl) rfl rfl rfl (fun _ hw hc => (y_eql (gv_yes hc) (gv_yes hc))) (hs.keep [true, true]) ?_  -- t64 := binOp eql 3 t61 t63 3 ?(40,true)
    refine H_q (i := 47) rfl (by kernel_rfl) rfl (fun _ hw => (y_pand rfl rfl)) (hs.keep [true, true]) ?_  -- t65 := pick t58 t64 false
    refine H_q (i := 48) rfl (by kernel_rfl) rfl (fun _ hw => (y_assign rfl)) (hs.keep [true, true]) ?_  -- t5 := assign t65
    refine H_done (by kernel_rfl) ?_
    refine W_seq ?_
    refine W_seq ?_
    refine W_region ?_
    refine L_q rfl (y_fa fa_31_2 rfl) ?_  -- t66 := fieldAddr 31 t1 2
    refine L_q rfl (y_fld r_27 rfl (rg_of_range (hs.rg 1 rfl 11 1 rfl))) ?_  -- t67 := load 27 t66
    refine L_q rfl (y_len u_27 rfl) ?_  -- t68 := len(t67) :3
    refine L_q rfl (y_move rfl) ?_  -- t69 := move 0
    refine L_nil ?_
    refine W_block ?_
    obtain ⟨L1, hs, hL1⟩ := hs.named
    refine W_loopF (fun f0 m f w1 => ∃ (i : Int), 0 ≤ i ∧ i ≤ x.f2.length ∧ m = (x.f2.length - i).toNat ∧ True ∧ sl f 1 = sl f0 1 ∧ sl f 2 = sl f0 2 ∧ sl f 3 = sl f0 3 ∧ sl f 5 = .bool ((x.f2.take i.toNat).all turnOK && ok0 x) ∧ sl f 67 = sl f0 67 ∧ sl f 68 = sl f0 68 ∧ sl f 69 = .int .i64 i ∧ Sep w0 w1 (L1)) ((x.f2.length : Int) - 0).toNat ?_ ?_
    · exact ⟨0,  by omega, by omega, rfl, trivial, rfl, rfl, rfl, rfl, rfl, rfl, rfl, hs⟩
    clear hs
    rintro m f w1 ⟨i,  hi0, hi1, rfl, hP1, h1_1, h1_2, h1_3, h1_5, h1_67, h1_68, h1_69, hs⟩
    subst hL1
    refine W_seq ?_
    refine W_region ?_
    refine L_q rfl (y_lss h1_69 h1_68) ?_  -- t70 := binOp lss 3 t69 t68 3
    refine L_nil ?_
    refine W_seq ?_
    refine W_if rfl (fun hq2 => ?_) (fun hq2 => ?_)
    · skip
      have hlt : i < x.f2.length := of_decide_eq_true hq2
      obtain ⟨ad, cu, rfl, hK, hrg⟩ := Kd.C_at d11 zU i hi0 hlt
      obtain rfl := kU_open hK
      refine W_skip ?_
      refine W_seq ?_
      refine W_block ?_
      refine W_seq ?_
      refine W_region ?_
      refine L_q rfl (y_ia u_27 sz_117 h1_67 h1_69 (by omega) (by omega)) ?_  -- t71 := indexAddr 27 t67 t69
      refine L_q rfl (y_fls (cs := [_, _]) r_117 sz_117 rfl (hrg.below hs.below)) ?_  -- t72 := load 117 t71
      refine L_op rfl (o_alloc al_117 hs ?_)  -- t7 := alloc 117
      intro g7 w1 hs
      refine L_op rfl (o_store (seg := [_, _]) (cs' := [_, _]) sz_117 rfl rfl rfl rfl (hs.front 0) (Nat.le_of_ble_eq_true rfl) rfl ?_)  -- store 117 t7 t72
      intro w1 hs
      refine L_nil ?_
      refine W_region ?_
      refine L_q rfl (y_move h1_5) ?_  -- t73 := move t5
      refine L_q rfl (y_move rfl) ?_  -- t74 := move t73
      refine L_qif rfl rfl rfl (fun hc => (y_fa fa_117_0 rfl)) ?_  -- t75 := fieldAddr 117 t7 0 ?(1,true)
      refine L_qif rfl rfl rfl (fun hc => (y_fld r_2 (gv_yes hc) (rg_of_range (hs.rg 0 rfl 0 1 rfl)))) ?_  -- t76 := load 2 t75 ?(1,true)
      refine L_qif rfl rfl rfl (fun hc => (y_fa fa_117_1 rfl)) ?_  -- t77 := fieldAddr 117 t7 1 ?(1,true)
      refine L_qif rfl rfl rfl (fun hc => (y_fld r_2 (gv_yes hc) (rg_of_range (hs.rg 0 rfl 1 1 rfl)))) ?_  -- t78 := load 2 t77 ?(1,true)
      refine L_qif rfl rfl rfl (fun hc => (y_max (gv_yes hc) (gv_yes hc))) ?_  -- t79 := max(t76, t78) :2 ?(1,true)
      refine L_qif rfl rfl rfl (fun hc => (y_leq (gv_yes hc) rfl)) ?_  -- t80 := binOp leq 2 t79 16384 2 ?(1,true)
      refine L_q rfl (y_pand rfl rfl) ?_  -- t81 := pick t74 t80 false
      refine L_q rfl (y_move rfl) ?_  -- t82 := move t81
      refine L_qif rfl rfl rfl (fun hc => (y_fa fa_117_0 rfl)) ?_  -- t83 := fieldAddr 117 t7 0 ?(9,true)
      refine L_qif rfl rfl rfl (fun hc => (y_fld r_2 (gv_yes hc) (rg_of_range (hs.rg 0 rfl 0 1 rfl)))) ?_  -- t84 := load 2 t83 ?(9,true)
      refine L_qif rfl rfl rfl (fun hc => (y_fa fa_117_1 rfl)) ?_  -- t85 := fieldAddr 117 t7 1 ?(9,true)
      refine L_qif rfl rfl rfl (fun hc => (y_fld r_2 (gv_yes hc) (rg_of_range (hs.rg 0 rfl 1 1 rfl)))) ?_  -- t86 := load 2 t85 ?(9,true)
      refine L_qif rfl rfl rfl (fun hc => (y_min (gv_yes hc) (gv_yes hc))) ?_  -- t87 := min(t84, t86) :2 ?(9,true)
      refine L_qif rfl rfl rfl (fun hc => (y_geq (gv_yes hc) rfl)) ?_  -- t88 := binOp geq 2 t87 -16384 2 ?(9,true)
      refine L_q rfl (y_pand rfl rfl) ?_  -- t89 := pick t82 t88 false
      refine L_q rfl (y_assign rfl) ?_  -- t5 := assign t89
      refine L_nil ?_
      refine W_region ?_
      refine L_q rfl (y_addi h1_69 rfl (by omega) (by omega)) ?_  -- t90 := binOp add 3 t69 1 3
      refine L_q rfl (y_move rfl) ?_  -- t69 := move t90
      refine L_nil ?_
      -- sep: g7 g3 g1
      exact ⟨_, by omega, i + 1,  by omega, by omega, rfl, trivial, h1_1, h1_2, h1_3, (congrArg Value.bool ((bool4 _ _ _ _).trans (by rw [all_snoc (z := zU) hi0 hlt, turn_ok]))), h1_67, h1_68, rfl, hs.keep [false, true, true]⟩
    · skip
      rw [take_all (by have := of_decide_eq_false hq2; omega)] at h1_5
      refine W_exit ?_
      refine x_hit ?_
      refine W_seq ?_
      refine W_seq ?_
      refine W_region ?_
      refine L_q rfl (y_fa fa_31_3 h1_1) ?_  -- t91 := fieldAddr 31 t1 3
      refine L_q rfl (y_fld r_28 rfl (rg_of_range (hs.rg 1 rfl 12 1 rfl))) ?_  -- t92 := load 28 t91
      refine L_q rfl (y_len u_28 rfl) ?_  -- t93 := len(t92) :3
      refine L_q rfl (y_move rfl) ?_  -- t94 := move 0
      refine L_nil ?_
      refine W_block ?_
      obtain ⟨L2, hs, hL2⟩ := hs.named
      refine W_loopF (fun f0 m f w1 => ∃ (i : Int), 0 ≤ i ∧ i ≤ x.f3.length ∧ m = (x.f3.length - i).toNat ∧ True ∧ sl f 1 = sl f0 1 ∧ sl f 2 = sl f0 2 ∧ sl f 3 = sl f0 3 ∧ sl f 5 = .bool ((x.f3.take i.toNat).all (fun l => layerOK l x.f0) && ok1 x) ∧ sl f 67 = sl f0 67 ∧ sl f 68 = sl f0 68 ∧ sl f 69 = sl f0 69 ∧ sl f 93 = sl f0 93 ∧ sl f 94 = .int .i64 i ∧ Sep w0 w1 (L2)) ((x.f3.length : Int) - 0).toNat ?_ ?_
      · exact ⟨0,  by omega, by omega, rfl, trivial, rfl, rfl, rfl, h1_5, rfl, rfl, rfl, rfl, rfl, hs⟩
      clear hs
      rintro m f w1 ⟨i,  hi0, hi1, rfl, hP2, h2_1, h2_2, h2_3, h2_5, h2_67, h2_68, h2_69, h2_93, h2_94, hs⟩
      subst hL2
      refine W_seq ?_
      refine W_region ?_
      refine L_q rfl (y_lss h2_94 h2_93) ?_  -- t95 := binOp lss 3 t94 t93 3
      refine L_nil ?_
      refine W_seq ?_
      refine W_if rfl (fun hq3 => ?_) (fun hq3 => ?_)
      · skip
        have hlt : i < x.f3.length := of_decide_eq_true hq3
        obtain ⟨ad, cu, rfl, hK, hrg⟩ := Kd.C_at d12 zL i hi0 hlt
        refine W_skip ?_
        refine W_seq ?_
        refine W_block ?_
        refine W_seq ?_
        refine W_region ?_
        refine L_q rfl (y_move h2_94) ?_  -- t96 := move t94
        refine L_q rfl (y_assign rfl) ?_  -- t8 := assign t96
        refine L_nil ?_
        refine W_drawS rfl [true, true] hs ?_
        intro w1 hs
        refine H_q (i := 0) rfl (by kernel_rfl) rfl (fun _ hw => (y_move h2_5)) (hs.keep [true, true]) ?_  -- t97 := move t5
        refine H_q (i := 1) rfl (by kernel_rfl) rfl (fun _ hw => (y_move rfl)) (hs.keep [true, true]) ?_  -- t98 := move t97
        refine H_qif (i := 2) rfl (by kernel_rfl) rfl rfl rfl (fun _ hw hc => (y_fa fa_31_3 (h2_1.trans h1_1))) (hs.keep [true, true]) ?_  -- t99 := fieldAddr 31 t1 3 ?(1,true)
        refine H_qif (i := 3) rfl (by kernel_rfl) rfl rfl rfl (fun _ hw hc => (y_fld r_28 (gv_yes hc) (rg_of_range (hw.rg 1 rfl 12 1 rfl)))) (hs.keep [true, true]) ?_  -- t100 := load 28 t99 ?(1,true)
        refine H_qif (i := 4) rfl (by kernel_rfl) rfl rfl rfl (fun _ hw hc => (y_move rfl)) (hs.keep [true, true]) ?_  -- t101 := move t8 ?(1,true)
        refine H_qif (i := 5) rfl (by kernel_rfl) rfl rfl rfl (fun _ hw hc => (y_ia u_28 sz_108 (gv_yes hc) (gv_yes hc) (by first | omega | (simp at hc; omega)) (by first | omega | (simp at hc; omega)))) (hs.keep [true, true]) ?_  -- t102 := indexAddr 28 t100 t101 ?(1,true)
        refine H_qif (i := 6) rfl (by kernel_rfl) rfl rfl rfl (fun _ hw hc => (y_fls (cs := [_, _, _, _, _, _, _, _]) r_23 sz_23 (h2_3.trans h1_3) (rg_of_range (hw.rg 0 rfl 0 8 rfl)))) (hs.keep [true, true]) ?_  -- t103 := load 23 t3 ?(1,true)
        refine H_callif (i := 7) rfl (by kernel_rfl) (by kernel_rfl) rfl rfl en_71 (fun hc => args2 (gv_yes hc) (gv_yes hc)) hs (fun _ h => h.keep [true, true]) (fun hc => cal_model_fits _ _ (x.f3.getD i.toNat zL) _ x.f0 _ (hrg.below hs.below) (kL.K_below hs.below hK) (kC_mk _ _) (hG.below hs.below) hok (n3 _ (getD_mem' hi0 hlt))) ?_  -- t104 := CALL f71(t102, t103) :4 ?(1,true)
        intro v104 w1 hb hs hv104
        refine H_q (i := 8) rfl (by kernel_rfl) rfl (fun _ hw => (y_pand rfl hv104)) (hs.keep [true, true]) ?_  -- t105 := pick t98 t104 false
        refine H_q (i := 9) rfl (by kernel_rfl) rfl (fun _ hw => (y_assign rfl)) (hs.keep [true, true]) ?_  -- t5 := assign t105
        refine H_done (by kernel_rfl) ?_
        refine W_region ?_
        refine L_q rfl (y_addi h2_94 rfl (by omega) (by omega)) ?_  -- t106 := binOp add 3 t94 1 3
        refine L_q rfl (y_move rfl) ?_  -- t94 := move t106
        refine L_nil ?_
        -- sep: g3 g1
        exact ⟨_, by omega, i + 1,  by omega, by omega, rfl, trivial, h2_1, h2_2, h2_3, (congrArg Value.bool ((bool3 _ _ _).trans (by rw [all_snoc (z := zL) hi0 hlt]))), h2_67, h2_68, h2_69, h2_93, rfl, hs⟩
      · skip
        rw [take_all (by have := of_decide_eq_false hq3; omega)] at h2_5
        refine W_exit ?_
        refine x_hit ?_
        refine W_seq ?_
        refine W_seq ?_
        refine W_region ?_
        refine L_q rfl (y_fa fa_31_6 (h2_1.trans h1_1)) ?_  -- t107 := fieldAddr 31 t1 6
        refine L_q rfl (y_fld r_29 rfl (rg_of_range (hs.rg 1 rfl 17 1 rfl))) ?_  -- t108 := load 29 t107
        refine L_q rfl (y_len u_29 rfl) ?_  -- t109 := len(t108) :3
        refine L_q rfl (y_move rfl) ?_  -- t110 := move 0
        refine L_nil ?_
        refine W_block ?_
        obtain ⟨L3, hs, hL3⟩ := hs.named
        refine W_loopF (fun f0 m f w1 => ∃ (i : Int), 0 ≤ i ∧ i ≤ x.f6.length ∧ m = (x.f6.length - i).toNat ∧ True ∧ sl f 1 = sl f0 1 ∧ sl f 2 = sl f0 2 ∧ sl f 3 = sl f0 3 ∧ sl f 5 = .bool ((x.f6.take i.toNat).all (fun m => isMat m x.f0.f0 x.f0.f1) && ok2 x) ∧ sl f 67 = sl f0 67 ∧ sl f 68 = sl f0 68 ∧ sl f 69 = sl f0 69 ∧ sl f 93 = sl f0 93 ∧ sl f 94 = sl f0 94 ∧ sl f 108 = sl f0 108 ∧ sl f 109 = sl f0 109 ∧ sl f 110 = .int .i64 i ∧ Sep w0 w1 (L3)) ((x.f6.length : Int) - 0).toNat ?_ ?_
        · exact ⟨0,  by omega, by omega, rfl, trivial, rfl, rfl, rfl, h2_5, rfl, rfl, rfl, rfl, rfl, rfl, rfl, rfl, hs⟩
        clear hs
        rintro m f w1 ⟨i,  hi0, hi1, rfl, hP3, h3_1, h3_2, h3_3, h3_5, h3_67, h3_68, h3_69, h3_93, h3_94, h3_108, h3_109, h3_110, hs⟩
        subst hL3
        refine W_seq ?_
        refine W_region ?_
        refine L_q rfl (y_lss h3_110 h3_109) ?_  -- t111 := binOp lss 3 t110 t109 3
        refine L_nil ?_
        refine W_seq ?_
        refine W_if rfl (fun hq4 => ?_) (fun hq4 => ?_)
        · skip
          have hlt : i < x.f6.length := of_decide_eq_true hq4
          obtain ⟨ad, cu, rfl, hK, hrg⟩ := Kd.C_at d17 zM i hi0 hlt
          obtain ⟨B2, e2, rfl, h2, g2'⟩ := kM_open hK
          refine W_skip ?_
          refine W_seq ?_
          refine W_block ?_
          refine W_seq ?_
          refine W_region ?_
          refine L_q rfl (y_ia u_29 sz_26 h3_108 h3_110 (by omega) (by omega)) ?_  -- t112 := indexAddr 29 t108 t110
          refine L_q rfl (y_fls (cs := [_, _, _]) r_26 sz_26 rfl (hrg.below hs.below)) ?_  -- t113 := load 26 t112
          refine L_op rfl (o_alloc al_26 hs ?_)  -- t10 := alloc 26
          intro g10 w1 hs
          refine L_op rfl (o_store (seg := [_, _, _]) (cs' := [_, _, _]) sz_26 rfl rfl rfl rfl (hs.front 0) (Nat.le_of_ble_eq_true rfl) rfl ?_)  -- store 26 t10 t113
          intro w1 hs
          refine L_nil ?_
          refine W_region ?_
          refine L_q rfl (y_move h3_5) ?_  -- t114 := move t5
          refine L_q rfl (y_move rfl) ?_  -- t115 := move t114
          refine L_qif rfl rfl rfl (fun hc => (y_fls (cs := [_, _, _]) r_26 sz_26 rfl (rg_of_range (hs.rg 0 rfl 0 3 rfl)))) ?_  -- t116 := load 26 t10 ?(1,true)
          refine L_qif rfl rfl rfl (fun hc => (y_fa fa_23_0 (h3_3.trans (h2_3.trans h1_3)))) ?_  -- t117 := fieldAddr 23 t3 0 ?(1,true)
          refine L_qif rfl rfl rfl (fun hc => (y_fld r_3 (gv_yes hc) (rg_of_range (hs.rg 1 rfl 0 1 rfl)))) ?_  -- t118 := load 3 t117 ?(1,true)
          refine L_qif rfl rfl rfl (fun hc => (y_fa fa_23_1 (h3_3.trans (h2_3.trans h1_3)))) ?_  -- t119 := fieldAddr 23 t3 1 ?(1,true)
          refine L_qif rfl rfl rfl (fun hc => (y_fld r_3 (gv_yes hc) (rg_of_range (hs.rg 1 rfl 1 1 rfl)))) ?_  -- t120 := load 3 t119 ?(1,true)
          refine L_callif rfl rfl en_68 (fun hc => args3 (gv_yes hc) (gv_yes hc) (gv_yes hc)) hs (fun hc => cal_model_shaped _ (x.f6.getD i.toNat zM) _ x.f0.f0 x.f0.f1 (kM.K_below hs.below hK) (n6 _ (getD_mem' hi0 hlt))) ?_  -- t121 := CALL f68(t116, t118, t120) :4 ?(1,true)
          intro v121 w1 hb hs hv121
          refine L_q rfl (y_pand rfl hv121) ?_  -- t122 := pick t115 t121 false
          refine L_q rfl (y_assign rfl) ?_  -- t5 := assign t122
          refine L_nil ?_
          refine W_region ?_
          refine L_q rfl (y_addi h3_110 rfl (by omega) (by omega)) ?_  -- t123 := binOp add 3 t110 1 3
          refine L_q rfl (y_move rfl) ?_  -- t110 := move t123
          refine L_nil ?_
          -- sep: g10 g3 g1
          exact ⟨_, by omega, i + 1,  by omega, by omega, rfl, trivial, h3_1, h3_2, h3_3, (congrArg Value.bool ((bool3 _ _ _).trans (by rw [all_snoc (z := zM) hi0 hlt]))), h3_67, h3_68, h3_69, h3_93, h3_94, h3_108, h3_109, rfl, hs.keep [false, true, true]⟩
        · skip
          rw [take_all (by have := of_decide_eq_false hq4; omega)] at h3_5
          refine W_exit ?_
          refine x_hit ?_
          refine W_seq ?_
          refine W_seq ?_
          refine W_region ?_
          refine L_q rfl (y_move h3_5) ?_  -- t124 := move t5
          refine L_q rfl (y_not rfl) ?_  -- t125 := unOp not 4 t124
          refine L_nil ?_
          refine W_if rfl (fun hq5 => ?_) (fun hq5 => ?_)
          · skip
            refine W_seq ?_
            refine W_region ?_
            refine L_q rfl (y_assign rfl) ?_  -- t2 := assign 41
            refine L_nil ?_
            refine W_ret ?_
            -- sep: g3 g1
            refine ret_one rfl (.tmp (v := .int .i64 41) rfl .nil) ⟨_, rfl, hs.below, ?_⟩
            refine chk_no hok ?_
            rw [← ok3_eq]
            have h : (!ok3 x) = true := hq5
            simpa using h
          · skip
            refine W_skip ?_
            refine W_seq ?_
            refine W_region ?_
            refine L_q rfl (y_assign rfl) ?_  -- t2 := assign 0
            refine L_nil ?_
            refine W_ret ?_
            -- sep: g3 g1
            refine ret_one rfl (.tmp (v := .int .i64 0) rfl .nil) ⟨_, rfl, hs.below, ?_⟩
            have h : (!ok3 x) = false := hq5
            have : wtsOK x = true := by rw [← ok3_eq]; simpa using h
            rw [chk, hok, this]
            rfl
end Go.Proofs.YtlmddncoeikfjaaDoor
