/- Walks: the same weights in memory of their own. -/
import Derived.Test.YtlmddncoeikfjaaDoorVP
namespace Go.Proofs.YtlmddncoeikfjaaDoor
open Go.RowKit Go.Proofs.YtlmddncoeikfjaaDoorW.PrintWords
set_option maxRecDepth 100000
set_option maxHeartbeats 4000000

/-- A layer's cells, the data of the first matrices laid anew. -/
def layV (cs vs : List Value) : List Value := vs.zipIdx.foldl (fun c q => c.set (4 + 3 * q.2) q.1) cs
def matA (B : Nat) (x : SL) (q : Value × Nat) : Asr := own B kM (matOf x q.2) [.int .i64 (matOf x q.2).f0, .int .i64 (matOf x q.2).f1, q.1]
def matsA (B : Nat) (x : SL) (vs : List Value) : List Asr := vs.zipIdx.map (matA B x)
theorem matsA_snoc (B : Nat) (x : SL) (vs : List Value) (v : Value) : matsA B x (vs ++ [v]) = matsA B x vs ++ [matA B x (v, vs.length)] := by simp [matsA, List.zipIdx_append]
/-- A layer's cells. -/
def layC (x : SL) (v0 v1 v4 v7 v10 v13 v16 v19 v22 : Value) : List Value := [v0, v1, .int .i64 x.f2.f0, .int .i64 x.f2.f1, v4, .int .i64 x.f3.f0, .int .i64 x.f3.f1, v7, .int .i64 x.f4.f0, .int .i64 x.f4.f1, v10, .int .i64 x.f5.f0, .int .i64 x.f5.f1, v13, .int .i64 x.f6.f0, .int .i64 x.f6.f1, v16, .int .i64 x.f7.f0, .int .i64 x.f7.f1, v19, .int .i64 x.f8.f0, .int .i64 x.f8.f1, v22, .int .i64 x.f9.f0, .int .i64 x.f9.f1, .int .i64 x.f9.f2, .int .i64 x.f9.f3, .int .i64 x.f9.f4, .int .i64 x.f9.f5, .int .i64 x.f9.f6]
theorem vs_cases {α : Type} {vs : List α} (h : vs.length < 7) : vs = [] ∨ (∃ a, vs = [a]) ∨ (∃ a b, vs = [a, b]) ∨ (∃ a b c, vs = [a, b, c]) ∨ (∃ a b c d, vs = [a, b, c, d]) ∨ (∃ a b c d e, vs = [a, b, c, d, e]) ∨ ∃ a b c d e f, vs = [a, b, c, d, e, f] := by
  match vs, h with
  | [], _ => simp
  | [a], _ => simp
  | [a, b], _ => simp
  | [a, b, c], _ => simp
  | [a, b, c, d], _ => simp
  | [a, b, c, d, e], _ => simp
  | [a, b, c, d, e, f], _ => simp
  | _ :: _ :: _ :: _ :: _ :: _ :: _ :: _, h => simp at h; omega
section
variable {x : SL} {v0 v1 v4 v7 v10 v13 v16 v19 v22 : Value} {vs : List Value}
/-- The matrix that is next. -/
theorem lay_at (h : vs.length < 7) : ((layV (layC x v0 v1 v4 v7 v10 v13 v16 v19 v22) vs).drop (2 + 3 * vs.length)).take 3 = [.int .i64 (matOf x vs.length).f0, .int .i64 (matOf x vs.length).f1, [v4, v7, v10, v13, v16, v19, v22].getD vs.length undef] := by
  rcases vs_cases h with rfl | ⟨_, rfl⟩ | ⟨_, _, rfl⟩ | ⟨_, _, _, rfl⟩ | ⟨_, _, _, _, rfl⟩ | ⟨_, _, _, _, _, rfl⟩ | ⟨_, _, _, _, _, _, rfl⟩ <;> rfl
theorem lay_put (h : vs.length < 7) (v : Value) : (layV (layC x v0 v1 v4 v7 v10 v13 v16 v19 v22) vs).take (2 + 3 * vs.length) ++ [.int .i64 (matOf x vs.length).f0, .int .i64 (matOf x vs.length).f1, v] ++ (layV (layC x v0 v1 v4 v7 v10 v13 v16 v19 v22) vs).drop (2 + 3 * vs.length + [Value.int .i64 (matOf x vs.length).f0, .int .i64 (matOf x vs.length).f1, v].length) = layV (layC x v0 v1 v4 v7 v10 v13 v16 v19 v22) (vs ++ [v]) := by
  rcases vs_cases h with rfl | ⟨_, rfl⟩ | ⟨_, _, rfl⟩ | ⟨_, _, _, rfl⟩ | ⟨_, _, _, _, rfl⟩ | ⟨_, _, _, _, _, rfl⟩ | ⟨_, _, _, _, _, _, rfl⟩ <;> rfl
theorem lay_at' {k : Nat} (hk : vs.length = k) (h : k < 7) {X : Value} (hX : [v4, v7, v10, v13, v16, v19, v22].getD k undef = X) : ((layV (layC x v0 v1 v4 v7 v10 v13 v16 v19 v22) vs).drop (2 + 3 * k)).take 3 = [.int .i64 (matOf x k).f0, .int .i64 (matOf x k).f1, X] := by
  subst hk; subst hX
  exact lay_at h
theorem lay_put' {k : Nat} (hk : vs.length = k) (h : k < 7) (v : Value) : (layV (layC x v0 v1 v4 v7 v10 v13 v16 v19 v22) vs).take (2 + 3 * k) ++ [.int .i64 (matOf x k).f0, .int .i64 (matOf x k).f1, v] ++ (layV (layC x v0 v1 v4 v7 v10 v13 v16 v19 v22) vs).drop (2 + 3 * k + [Value.int .i64 (matOf x k).f0, .int .i64 (matOf x k).f1, v].length) = layV (layC x v0 v1 v4 v7 v10 v13 v16 v19 v22) (vs ++ [v]) := by
  subst hk
  exact lay_put h v
theorem matsA_snoc' {B k : Nat} (hk : vs.length = k) (v : Value) : matsA B x vs ++ [own B kM (matOf x k) [.int .i64 (matOf x k).f0, .int .i64 (matOf x k).f1, v]] = matsA B x (vs ++ [v]) := by
  subst hk
  exact (matsA_snoc B x vs v).symm
theorem vs7 (h : vs.length = 7) : ∃ a b c d e f g, vs = [a, b, c, d, e, f, g] := by
  match vs, h with
  | [a, b, c, d, e, f, g], _ => exact ⟨a, b, c, d, e, f, g, rfl⟩
theorem lay_own {w : World} {B : Nat} {a0 a1 a2 a3 a4 a5 a6 : Value} {S : Nat → Prop} (h : SepIn w S [row B (Kd.int .i8) 63 v1 x.f1, row B (Kd.int .i8) 63 v0 x.f0, bagA (matsA B x [a0, a1, a2, a3, a4, a5, a6])]) : kL.M w B S x (layC x v0 v1 a0 a1 a2 a3 a4 a5 a6) := by
  obtain ⟨S', hS', hm⟩ := h.get 2 rfl
  replace hm : SepIn w S (matsA B x [a0, a1, a2, a3, a4, a5, a6]) := SepIn.mono hS' hm
  exact kL_mkM w B S x (h.row 1 rfl) (h.row 0 rfl) (kM_row (hm.own 0 rfl)) (kM_row (hm.own 1 rfl)) (kM_row (hm.own 2 rfl)) (kM_row (hm.own 3 rfl)) (kM_row (hm.own 4 rfl)) (kM_row (hm.own 5 rfl)) (kM_row (hm.own 6 rfl))
theorem lay_src {w : World} {y : SL} {A4 : Option Addr} {c4 : Nat} (l4 : y.f2.f2.length ≤ c4) (g4 : (Kd.int .i8).C w A4 y.f2.f2.length y.f2.f2) {A7 : Option Addr} {c7 : Nat} (l7 : y.f3.f2.length ≤ c7) (g7 : (Kd.int .i8).C w A7 y.f3.f2.length y.f3.f2) {A10 : Option Addr} {c10 : Nat} (l10 : y.f4.f2.length ≤ c10) (g10 : (Kd.int .i8).C w A10 y.f4.f2.length y.f4.f2) {A13 : Option Addr} {c13 : Nat} (l13 : y.f5.f2.length ≤ c13) (g13 : (Kd.int .i8).C w A13 y.f5.f2.length y.f5.f2) {A16 : Option Addr} {c16 : Nat} (l16 : y.f6.f2.length ≤ c16) (g16 : (Kd.int .i8).C w A16 y.f6.f2.length y.f6.f2) {A19 : Option Addr} {c19 : Nat} (l19 : y.f7.f2.length ≤ c19) (g19 : (Kd.int .i8).C w A19 y.f7.f2.length y.f7.f2) {A22 : Option Addr} {c22 : Nat} (l22 : y.f8.f2.length ≤ c22) (g22 : (Kd.int .i8).C w A22 y.f8.f2.length y.f8.f2) {i : Nat} (hi : i < 7) :
    ∃ A c, [Value.slice A4 y.f2.f2.length c4, .slice A7 y.f3.f2.length c7, .slice A10 y.f4.f2.length c10, .slice A13 y.f5.f2.length c13, .slice A16 y.f6.f2.length c16, .slice A19 y.f7.f2.length c19, .slice A22 y.f8.f2.length c22].getD i undef = .slice A (matOf y i).f2.length c ∧ (matOf y i).f2.length ≤ c ∧ (Kd.int .i8).C w A (matOf y i).f2.length (matOf y i).f2 := by
  rcases seven hi with rfl | rfl | rfl | rfl | rfl | rfl | rfl
  · exact ⟨_, _, rfl, l4, g4⟩
  · exact ⟨_, _, rfl, l7, g7⟩
  · exact ⟨_, _, rfl, l10, g10⟩
  · exact ⟨_, _, rfl, l13, g13⟩
  · exact ⟨_, _, rfl, l16, g16⟩
  · exact ⟨_, _, rfl, l19, g19⟩
  · exact ⟨_, _, rfl, l22, g22⟩
theorem mat_sm {y : SL} (t2 : y.f2.f2.length ≤ 100000) (t3 : y.f3.f2.length ≤ 100000) (t4 : y.f4.f2.length ≤ 100000) (t5 : y.f5.f2.length ≤ 100000) (t6 : y.f6.f2.length ≤ 100000) (t7 : y.f7.f2.length ≤ 100000) (t8 : y.f8.f2.length ≤ 100000) {i : Nat} (hi : i < 7) : (matOf y i).f2.length ≤ 100000 := by
  rcases seven hi with rfl | rfl | rfl | rfl | rfl | rfl | rfl <;> assumption
theorem lay_len : (layV (layC x v0 v1 v4 v7 v10 v13 v16 v19 v22) vs).length = 30 := by
  have : ∀ (l : List (Value × Nat)) (cs : List Value), (l.foldl (fun c q => c.set (4 + 3 * q.2) q.1) cs).length = cs.length := by
    intro l
    induction l with
    | nil => intro cs; rfl
    | cons q l ih => intro cs; simp [ih]
  rw [layV, this]
  rfl
end
theorem cal_model_twin (w0 : World) (x : SW) (cs : List Value) (hx : kW.K w0 x cs) (hsm : smW x) (hG : Sides w0) (hcfg : cfgOK x.f0 = true) : Cal Tryd.prog 53 #[.agg cs.toArray] w0 fun v w1 => Below w0.heap.size w0 w1 ∧ ∃ cs, v = .agg cs.toArray ∧ kW.M w1 w0.heap.size (fun _ => True) x cs := by
  obtain ⟨A10, c10, A11, c11, A12, c12, A13, c13, A16, c16, A17, c17, rfl, l10, d10, l11, d11, l12, d12, l13, d13, l16, d16, l17, d17⟩ := kW_open hx
  obtain ⟨s0, s1, s2, s3, s4, s5, s6, s7⟩ := hsm
  refine cal_W (n := 82) Tryd.func53 rfl rfl (by simp) ?_
  have hs := ((Sep.refl w0).nilR kM 26).nilR kL 108
  refine W_seq ?_
  refine W_region ?_
  refine L_op rfl (o_box (cs := [_, _, _, _, _, _, _, _, _, _, _, _, _, _, _, _, _, _]) rfl rfl hs ?_)  -- t1 := box 31 t0
  intro g1 w1 hs
  refine L_op rfl (o_alloc al_31 hs ?_)  -- t2 := alloc 31
  intro g2 w1 hs
  refine L_nil ?_
  obtain ⟨K1, hs, hK1⟩ := hs.named
  refine W_cutF (fun f0 f w1 => ∃ g3 B14 b14 B17 b17 B20 b20 B23 b23, True ∧ sl f 1 = sl f0 1 ∧ sl f 2 = sl f0 2 ∧ sl f 3 = .pointer (some ⟨g3, 0, none⟩) ∧ Sep w0 w1 (blk g3 31 [.int .i64 x.f0.f0, .int .i64 x.f0.f1, .int .i64 x.f0.f2, .int .i64 x.f0.f3, .int .i64 x.f0.f4, .int .i64 x.f0.f5, .int .i64 x.f0.f6, .int .i64 x.f0.f7, .int .i64 x.f1.f0, .int .i64 x.f1.f1, .slice B14 x.f1.f2.length b14, .slice B17 x.f2.length b17, .slice none 0 0, .slice B20 x.f4.length b20, .int .i64 x.f5.f0, .int .i64 x.f5.f1, .slice B23 x.f5.f2.length b23, .slice none 0 0] :: own w0.heap.size kM x.f5 [.int .i64 x.f5.f0, .int .i64 x.f5.f1, .slice B23 x.f5.f2.length b23] :: row w0.heap.size (Kd.int .i8) 63 (.slice B20 x.f4.length b20) x.f4 :: row w0.heap.size kU 117 (.slice B17 x.f2.length b17) x.f2 :: own w0.heap.size kM x.f1 [.int .i64 x.f1.f0, .int .i64 x.f1.f1, .slice B14 x.f1.f2.length b14] :: K1)) ?_ ?_
  · subst hK1
    refine W_drawS rfl [true, true, true, true] hs ?_
    intro w1 hs
    refine H_q (i := 0) rfl (by kernel_rfl) rfl (fun _ hw => (y_fa fa_31_0 rfl)) (hs.keep [true, true, true, true]) ?_  -- t10 := fieldAddr 31 t1 0
    refine H_q (i := 1) rfl (by kernel_rfl) rfl (fun _ hw => (y_fls (cs := [_, _, _, _, _, _, _, _]) r_23 sz_23 rfl (rg_of_range (hw.rg 1 rfl 0 8 rfl)))) (hs.keep [true, true, true, true]) ?_  -- t11 := load 23 t10
    refine H_q (i := 2) rfl (by kernel_rfl) rfl (fun _ hw => (y_fa fa_31_1 rfl)) (hs.keep [true, true, true, true]) ?_  -- t12 := fieldAddr 31 t1 1
    refine H_q (i := 3) rfl (by kernel_rfl) rfl (fun _ hw => (y_fls (cs := [_, _, _]) r_26 sz_26 rfl (rg_of_range (hw.rg 1 rfl 8 3 rfl)))) (hs.keep [true, true, true, true]) ?_  -- t13 := load 26 t12
    refine H_q (i := 5) rfl (by kernel_rfl) rfl (fun _ hw => (y_fa fa_31_2 rfl)) (hs.keep [true, true, true, true]) ?_  -- t15 := fieldAddr 31 t1 2
    refine H_q (i := 6) rfl (by kernel_rfl) rfl (fun _ hw => (y_fld r_27 rfl (rg_of_range (hw.rg 1 rfl 11 1 rfl)))) (hs.keep [true, true, true, true]) ?_  -- t16 := load 27 t15
    refine H_q (i := 8) rfl (by kernel_rfl) rfl (fun _ hw => (y_fa fa_31_4 rfl)) (hs.keep [true, true, true, true]) ?_  -- t18 := fieldAddr 31 t1 4
    refine H_q (i := 9) rfl (by kernel_rfl) rfl (fun _ hw => (y_fld r_24 rfl (rg_of_range (hw.rg 1 rfl 13 1 rfl)))) (hs.keep [true, true, true, true]) ?_  -- t19 := load 24 t18
    refine H_q (i := 11) rfl (by kernel_rfl) rfl (fun _ hw => (y_fa fa_31_5 rfl)) (hs.keep [true, true, true, true]) ?_  -- t21 := fieldAddr 31 t1 5
    refine H_q (i := 12) rfl (by kernel_rfl) rfl (fun _ hw => (y_fls (cs := [_, _, _]) r_26 sz_26 rfl (rg_of_range (hw.rg 1 rfl 14 3 rfl)))) (hs.keep [true, true, true, true]) ?_  -- t22 := load 26 t21
    refine H_two (i := 4) (j := 15) (by kernel_rfl) ?_ ?_
    · skip
      refine H_one rfl (by simp [Region.wanted]) (o_callM en_72 rfl hs (cal_model_matrix _ x.f1 _ (kM_mk _ _ l10 (Kd.C_below d10 hs.below)) s0) ?_)  -- t14 := CALL f72(t13) :26
      intro cs14 w1 hb hs
      obtain ⟨r14_2, rfl, q14_2⟩ := kM_openM hs.outM
      obtain ⟨A14_2, c14_2, rfl⟩ := Kd.R_slice q14_2
      refine ⟨hs.keep [false, true, true, true, true], ?_⟩
      refine H_two (i := 7) (j := 15) (by kernel_rfl) ?_ ?_
      · skip
        refine H_one rfl (by simp [Region.wanted]) (o_apps (D := kU) u_27 i_117 rfl (by decide) (by decide) rfl rfl (Kd.C_below d11 hs.below) (fun _ _ h => by obtain rfl := kU_open h; exact kU_mkM _ _ _ _) (hs.nilR kU 117) (by simp; omega) ?_)  -- t17 := append(nil, t16) :27
        intro v17 w1 hs
        obtain ⟨A17, c17, rfl⟩ := Kd.R_slice hs.outR
        refine ⟨hs.keep [false, false, true, true, true, true], ?_⟩
        refine H_two (i := 10) (j := 15) (by kernel_rfl) ?_ ?_
        · skip
          refine H_one rfl (by simp [Region.wanted]) (o_callR en_73 rfl hs (cal_model_narrow _ A13 c13 x.f4 (Kd.C_below d13 hs.below) s4) ?_)  -- t20 := CALL f73(t19) :24
          intro v20 w1 hb hs
          obtain ⟨A20, c20, rfl⟩ := Kd.R_slice hs.outR
          refine ⟨hs.keep [false, false, false, true, true, true, true], ?_⟩
          refine H_two (i := 13) (j := 15) (by kernel_rfl) ?_ ?_
          · skip
            refine H_one rfl (by simp [Region.wanted]) (o_callM en_72 rfl hs (cal_model_matrix _ x.f5 _ (kM_mk _ _ l16 (Kd.C_below d16 hs.below)) s5) ?_)  -- t23 := CALL f72(t22) :26
            intro cs23 w1 hb hs
            obtain ⟨r23_2, rfl, q23_2⟩ := kM_openM hs.outM
            obtain ⟨A23_2, c23_2, rfl⟩ := Kd.R_slice q23_2
            refine ⟨hs.keep [false, false, false, false, true, true, true, true], ?_⟩
            refine H_q (i := 14) rfl (by kernel_rfl) rfl (fun _ hw => (y_build rfl (bd_31_01245 ..))) (hs.keep [false, false, false, false, true, true, true, true]) ?_  -- t24 := build 31 [0=t11,1=t14,2=t17,4=t20,5=t23]
            refine H_loud (i := 15) rfl (by kernel_rfl) (by simp [Region.wanted]) (o_alloc al_31 hs ?_)  -- t3 := alloc 31
            intro g3 w1 hs
            refine ⟨hs.keep [false, false, false, false, false, true, true, true, true], ?_⟩
            refine H_loud (i := 16) rfl (by kernel_rfl) (by simp [Region.wanted]) (o_store (seg := [_, _, _, _, _, _, _, _, _, _, _, _, _, _, _, _, _, _]) (cs' := [_, _, _, _, _, _, _, _, _, _, _, _, _, _, _, _, _, _]) sz_31 rfl rfl rfl rfl (hs.front 0) (Nat.le_of_ble_eq_true rfl) rfl ?_)  -- store 31 t3 t24
            intro w1 hs
            refine ⟨hs.keep [false, false, false, false, false, true, true, true, true], ?_⟩
            refine H_done (by kernel_rfl) ?_
            exact ⟨_, _, _, _, _, _, _, _, _, trivial, rfl, rfl, rfl, (((((hs.front 4).front 4).front 4).front 4).front 4)⟩
            -- sep: g3 own23 row20 row17 own14 g2 g1 Lay Med
          · skip
            refine H_one rfl (by simp [Region.wanted]) (o_alloc al_31 hs ?_)  -- t3 := alloc 31
            intro g3 w1 hs
            refine ⟨hs.keep [false, false, false, false, true, true, true, true], ?_⟩
            refine H_loud (i := 13) rfl (by kernel_rfl) (by simp [Region.wanted]) (o_callM en_72 rfl hs (cal_model_matrix _ x.f5 _ (kM_mk _ _ l16 (Kd.C_below d16 hs.below)) s5) ?_)  -- t23 := CALL f72(t22) :26
            intro cs23 w1 hb hs
            obtain ⟨r23_2, rfl, q23_2⟩ := kM_openM hs.outM
            obtain ⟨A23_2, c23_2, rfl⟩ := Kd.R_slice q23_2
            refine ⟨hs.keep [false, false, false, false, false, true, true, true, true], ?_⟩
            refine H_q (i := 14) rfl (by kernel_rfl) rfl (fun _ hw => (y_build rfl (bd_31_01245 ..))) (hs.keep [false, false, false, false, false, true, true, true, true]) ?_  -- t24 := build 31 [0=t11,1=t14,2=t17,4=t20,5=t23]
            refine H_loud (i := 16) rfl (by kernel_rfl) (by simp [Region.wanted]) (o_store (seg := [_, _, _, _, _, _, _, _, _, _, _, _, _, _, _, _, _, _]) (cs' := [_, _, _, _, _, _, _, _, _, _, _, _, _, _, _, _, _, _]) sz_31 rfl rfl rfl rfl (hs.front 1) (Nat.le_of_ble_eq_true rfl) rfl ?_)  -- store 31 t3 t24
            intro w1 hs
            refine ⟨hs.keep [false, false, false, false, false, true, true, true, true], ?_⟩
            refine H_done (by kernel_rfl) ?_
            exact ⟨_, _, _, _, _, _, _, _, _, trivial, rfl, rfl, rfl, (((((hs.front 4).front 4).front 4).front 4).front 4)⟩
            -- sep: g3 own23 row20 row17 own14 g2 g1 Lay Med
        · skip
          refine H_one rfl (by simp [Region.wanted]) (o_alloc al_31 hs ?_)  -- t3 := alloc 31
          intro g3 w1 hs
          refine ⟨hs.keep [false, false, false, true, true, true, true], ?_⟩
          refine H_loud (i := 10) rfl (by kernel_rfl) (by simp [Region.wanted]) (o_callR en_73 rfl hs (cal_model_narrow _ A13 c13 x.f4 (Kd.C_below d13 hs.below) s4) ?_)  -- t20 := CALL f73(t19) :24
          intro v20 w1 hb hs
          obtain ⟨A20, c20, rfl⟩ := Kd.R_slice hs.outR
          refine ⟨hs.keep [false, false, false, false, true, true, true, true], ?_⟩
          refine H_loud (i := 13) rfl (by kernel_rfl) (by simp [Region.wanted]) (o_callM en_72 rfl hs (cal_model_matrix _ x.f5 _ (kM_mk _ _ l16 (Kd.C_below d16 hs.below)) s5) ?_)  -- t23 := CALL f72(t22) :26
          intro cs23 w1 hb hs
          obtain ⟨r23_2, rfl, q23_2⟩ := kM_openM hs.outM
          obtain ⟨A23_2, c23_2, rfl⟩ := Kd.R_slice q23_2
          refine ⟨hs.keep [false, false, false, false, false, true, true, true, true], ?_⟩
          refine H_q (i := 14) rfl (by kernel_rfl) rfl (fun _ hw => (y_build rfl (bd_31_01245 ..))) (hs.keep [false, false, false, false, false, true, true, true, true]) ?_  -- t24 := build 31 [0=t11,1=t14,2=t17,4=t20,5=t23]
          refine H_loud (i := 16) rfl (by kernel_rfl) (by simp [Region.wanted]) (o_store (seg := [_, _, _, _, _, _, _, _, _, _, _, _, _, _, _, _, _, _]) (cs' := [_, _, _, _, _, _, _, _, _, _, _, _, _, _, _, _, _, _]) sz_31 rfl rfl rfl rfl (hs.front 2) (Nat.le_of_ble_eq_true rfl) rfl ?_)  -- store 31 t3 t24
          intro w1 hs
          refine ⟨hs.keep [false, false, false, false, false, true, true, true, true], ?_⟩
          refine H_done (by kernel_rfl) ?_
          exact ⟨_, _, _, _, _, _, _, _, _, trivial, rfl, rfl, rfl, (((((hs.front 4).front 4).front 4).front 4).front 4)⟩
          -- sep: g3 own23 row20 row17 own14 g2 g1 Lay Med
      · skip
        refine H_one rfl (by simp [Region.wanted]) (o_alloc al_31 hs ?_)  -- t3 := alloc 31
        intro g3 w1 hs
        refine ⟨hs.keep [false, false, true, true, true, true], ?_⟩
        refine H_loud (i := 7) rfl (by kernel_rfl) (by simp [Region.wanted]) (o_apps (D := kU) u_27 i_117 rfl (by decide) (by decide) rfl rfl (Kd.C_below d11 hs.below) (fun _ _ h => by obtain rfl := kU_open h; exact kU_mkM _ _ _ _) (hs.nilR kU 117) (by simp; omega) ?_)  -- t17 := append(nil, t16) :27
        intro v17 w1 hs
        obtain ⟨A17, c17, rfl⟩ := Kd.R_slice hs.outR
        refine ⟨hs.keep [false, false, false, true, true, true, true], ?_⟩
        refine H_loud (i := 10) rfl (by kernel_rfl) (by simp [Region.wanted]) (o_callR en_73 rfl hs (cal_model_narrow _ A13 c13 x.f4 (Kd.C_below d13 hs.below) s4) ?_)  -- t20 := CALL f73(t19) :24
        intro v20 w1 hb hs
        obtain ⟨A20, c20, rfl⟩ := Kd.R_slice hs.outR
        refine ⟨hs.keep [false, false, false, false, true, true, true, true], ?_⟩
        refine H_loud (i := 13) rfl (by kernel_rfl) (by simp [Region.wanted]) (o_callM en_72 rfl hs (cal_model_matrix _ x.f5 _ (kM_mk _ _ l16 (Kd.C_below d16 hs.below)) s5) ?_)  -- t23 := CALL f72(t22) :26
        intro cs23 w1 hb hs
        obtain ⟨r23_2, rfl, q23_2⟩ := kM_openM hs.outM
        obtain ⟨A23_2, c23_2, rfl⟩ := Kd.R_slice q23_2
        refine ⟨hs.keep [false, false, false, false, false, true, true, true, true], ?_⟩
        refine H_q (i := 14) rfl (by kernel_rfl) rfl (fun _ hw => (y_build rfl (bd_31_01245 ..))) (hs.keep [false, false, false, false, false, true, true, true, true]) ?_  -- t24 := build 31 [0=t11,1=t14,2=t17,4=t20,5=t23]
        refine H_loud (i := 16) rfl (by kernel_rfl) (by simp [Region.wanted]) (o_store (seg := [_, _, _, _, _, _, _, _, _, _, _, _, _, _, _, _, _, _]) (cs' := [_, _, _, _, _, _, _, _, _, _, _, _, _, _, _, _, _, _]) sz_31 rfl rfl rfl rfl (hs.front 3) (Nat.le_of_ble_eq_true rfl) rfl ?_)  -- store 31 t3 t24
        intro w1 hs
        refine ⟨hs.keep [false, false, false, false, false, true, true, true, true], ?_⟩
        refine H_done (by kernel_rfl) ?_
        exact ⟨_, _, _, _, _, _, _, _, _, trivial, rfl, rfl, rfl, (((((hs.front 4).front 4).front 4).front 4).front 4)⟩
        -- sep: g3 own23 row20 row17 own14 g2 g1 Lay Med
    · skip
      refine H_one rfl (by simp [Region.wanted]) (o_alloc al_31 hs ?_)  -- t3 := alloc 31
      intro g3 w1 hs
      refine ⟨hs.keep [false, true, true, true, true], ?_⟩
      refine H_loud (i := 4) rfl (by kernel_rfl) (by simp [Region.wanted]) (o_callM en_72 rfl hs (cal_model_matrix _ x.f1 _ (kM_mk _ _ l10 (Kd.C_below d10 hs.below)) s0) ?_)  -- t14 := CALL f72(t13) :26
      intro cs14 w1 hb hs
      obtain ⟨r14_2, rfl, q14_2⟩ := kM_openM hs.outM
      obtain ⟨A14_2, c14_2, rfl⟩ := Kd.R_slice q14_2
      refine ⟨hs.keep [false, false, true, true, true, true], ?_⟩
      refine H_loud (i := 7) rfl (by kernel_rfl) (by simp [Region.wanted]) (o_apps (D := kU) u_27 i_117 rfl (by decide) (by decide) rfl rfl (Kd.C_below d11 hs.below) (fun _ _ h => by obtain rfl := kU_open h; exact kU_mkM _ _ _ _) (hs.nilR kU 117) (by simp; omega) ?_)  -- t17 := append(nil, t16) :27
      intro v17 w1 hs
      obtain ⟨A17, c17, rfl⟩ := Kd.R_slice hs.outR
      refine ⟨hs.keep [false, false, false, true, true, true, true], ?_⟩
      refine H_loud (i := 10) rfl (by kernel_rfl) (by simp [Region.wanted]) (o_callR en_73 rfl hs (cal_model_narrow _ A13 c13 x.f4 (Kd.C_below d13 hs.below) s4) ?_)  -- t20 := CALL f73(t19) :24
      intro v20 w1 hb hs
      obtain ⟨A20, c20, rfl⟩ := Kd.R_slice hs.outR
      refine ⟨hs.keep [false, false, false, false, true, true, true, true], ?_⟩
      refine H_loud (i := 13) rfl (by kernel_rfl) (by simp [Region.wanted]) (o_callM en_72 rfl hs (cal_model_matrix _ x.f5 _ (kM_mk _ _ l16 (Kd.C_below d16 hs.below)) s5) ?_)  -- t23 := CALL f72(t22) :26
      intro cs23 w1 hb hs
      obtain ⟨r23_2, rfl, q23_2⟩ := kM_openM hs.outM
      obtain ⟨A23_2, c23_2, rfl⟩ := Kd.R_slice q23_2
      refine ⟨hs.keep [false, false, false, false, false, true, true, true, true], ?_⟩
      refine H_q (i := 14) rfl (by kernel_rfl) rfl (fun _ hw => (y_build rfl (bd_31_01245 ..))) (hs.keep [false, false, false, false, false, true, true, true, true]) ?_  -- t24 := build 31 [0=t11,1=t14,2=t17,4=t20,5=t23]
      refine H_loud (i := 16) rfl (by kernel_rfl) (by simp [Region.wanted]) (o_store (seg := [_, _, _, _, _, _, _, _, _, _, _, _, _, _, _, _, _, _]) (cs' := [_, _, _, _, _, _, _, _, _, _, _, _, _, _, _, _, _, _]) sz_31 rfl rfl rfl rfl (hs.front 4) (Nat.le_of_ble_eq_true rfl) rfl ?_)  -- store 31 t3 t24
      intro w1 hs
      refine ⟨hs.keep [false, false, false, false, false, true, true, true, true], ?_⟩
      refine H_done (by kernel_rfl) ?_
      exact ⟨_, _, _, _, _, _, _, _, _, trivial, rfl, rfl, rfl, (((((hs.front 4).front 4).front 4).front 4).front 4)⟩
      -- sep: g3 own23 row20 row17 own14 g2 g1 Lay Med
  clear hs
  rintro f w1 ⟨g3, B14, b14, B17, b17, B20, b20, B23, b23, hC1, k1_1, k1_2, k1_3, hs⟩
  subst hK1
  refine W_seq ?_
  refine W_seq ?_
  refine W_region ?_
  refine L_q rfl (y_fa fa_31_3 k1_1) ?_  -- t25 := fieldAddr 31 t1 3
  refine L_q rfl (y_fld r_28 rfl (rg_of_range (hs.rg 6 rfl 12 1 rfl))) ?_  -- t26 := load 28 t25
  refine L_q rfl (y_len u_28 rfl) ?_  -- t27 := len(t26) :3
  refine L_q rfl (y_move rfl) ?_  -- t28 := move 0
  refine L_nil ?_
  refine W_block ?_
  obtain ⟨L1, hs, hL1⟩ := ((hs.front 7).front 1).named2
  obtain ⟨c1_g3, hs, hc1_g3⟩ := hs.cells1
  refine W_loopF (fun f0 m f w1 => ∃ (p : Int) (v : Value), 0 ≤ p ∧ p ≤ x.f3.length ∧ m = (x.f3.length - p).toNat ∧ True ∧ sl f 1 = sl f0 1 ∧ sl f 2 = sl f0 2 ∧ sl f 3 = sl f0 3 ∧ sl f 26 = sl f0 26 ∧ sl f 27 = sl f0 27 ∧ sl f 28 = .int .i64 p ∧ Sep w0 w1 (blk g3 31 (c1_g3.set 12 v) :: row w0.heap.size kL 108 v (x.f3.take p.toNat) :: L1)) ((x.f3.length : Int) - 0).toNat ?_ ?_
  · subst hc1_g3; exact ⟨0, .slice none 0 0, by omega, by omega, rfl, trivial, rfl, rfl, rfl, rfl, rfl, rfl, hs⟩
  clear hs
  rintro m f w1 ⟨p, v, hp0, hp1, rfl, hP1, h1_1, h1_2, h1_3, h1_26, h1_27, h1_28, hs⟩
  subst hc1_g3; subst hL1
  obtain ⟨Av, cv, rfl⟩ := Kd.R_slice (hs.front 1).outR
  refine W_seq ?_
  refine W_region ?_
  refine L_q rfl (y_lss h1_28 h1_27) ?_  -- t29 := binOp lss 3 t28 t27 3
  refine L_nil ?_
  refine W_seq ?_
  refine W_if rfl (fun hq1 => ?_) (fun hq1 => ?_)
  · skip
    refine W_skip ?_
    have hlt : p < x.f3.length := of_decide_eq_true hq1
    obtain ⟨ad, cu, rfl, hK, hrg⟩ := Kd.C_at d12 zL p hp0 hlt
    obtain ⟨B0, e0, B1, e1, B4, e4, B7, e7, B10, e10, B13, e13, B16, e16, B19, e19, B22, e22, rfl, p0, q0, p1, q1, p4, q4, p7, q7, p10, q10, p13, q13, p16, q16, p19, q19, p22, q22⟩ := kL_open hK
    have hsm := s2 _ (getD_mem' (z := zL) hp0 hlt)
    generalize hy : x.f3.getD p.toNat zL = y at *
    obtain ⟨t0, t1, t2, t3, t4, t5, t6, t7, t8⟩ := hsm
    refine W_seq ?_
    refine W_block ?_
    refine W_seq ?_
    refine W_region ?_
    refine L_q rfl (y_ia u_28 sz_108 h1_26 h1_28 (by omega) (by omega)) ?_  -- t30 := indexAddr 28 t26 t28
    refine L_q rfl (y_fls (cs := [_, _, _, _, _, _, _, _, _, _, _, _, _, _, _, _, _, _, _, _, _, _, _, _, _, _, _, _, _, _]) r_108 sz_108 rfl (hrg.below hs.below)) ?_  -- t31 := load 108 t30
    refine L_op rfl (o_alloc al_108 hs ?_)  -- t5 := alloc 108
    intro g5 w1 hs
    refine L_op rfl (o_store (seg := [_, _, _, _, _, _, _, _, _, _, _, _, _, _, _, _, _, _, _, _, _, _, _, _, _, _, _, _, _, _]) (cs' := [_, _, _, _, _, _, _, _, _, _, _, _, _, _, _, _, _, _, _, _, _, _, _, _, _, _, _, _, _, _]) sz_108 rfl rfl rfl rfl (hs.front 0) (Nat.le_of_ble_eq_true rfl) rfl ?_)  -- store 108 t5 t31
    intro w1 hs
    refine L_nil ?_
    obtain ⟨K2, hs, hK2⟩ := hs.named1
    obtain ⟨d2_g5, hs, hd2_g5⟩ := hs.cells1
    refine W_cutF (fun f0 f w1 => ∃ D34 b34 D37 b37, True ∧ sl f 1 = sl f0 1 ∧ sl f 2 = sl f0 2 ∧ sl f 3 = sl f0 3 ∧ sl f 5 = sl f0 5 ∧ sl f 26 = sl f0 26 ∧ sl f 27 = sl f0 27 ∧ sl f 28 = sl f0 28 ∧ Sep w0 w1 (blk g5 108 (layC y (.slice D34 y.f0.length b34) (.slice D37 y.f1.length b37) (.slice B4 y.f2.f2.length e4) (.slice B7 y.f3.f2.length e7) (.slice B10 y.f4.f2.length e10) (.slice B13 y.f5.f2.length e13) (.slice B16 y.f6.f2.length e16) (.slice B19 y.f7.f2.length e19) (.slice B22 y.f8.f2.length e22)) :: row w0.heap.size (Kd.int .i8) 63 (.slice D37 y.f1.length b37) y.f1 :: row w0.heap.size (Kd.int .i8) 63 (.slice D34 y.f0.length b34) y.f0 :: K2)) ?_ ?_
    · subst hd2_g5; subst hK2
      refine W_drawS rfl [false, true, true, true, true, true, true, true, true, true] hs ?_
      intro w1 hs
      refine H_q (i := 0) rfl (by kernel_rfl) rfl (fun _ hw => (y_fa fa_108_0 rfl)) (hs.keep [false, true, true, true, true, true, true, true, true, true]) ?_  -- t32 := fieldAddr 108 t5 0
      refine H_q (i := 3) rfl (by kernel_rfl) rfl (fun _ hw => (y_fa fa_108_1 rfl)) (hs.keep [false, true, true, true, true, true, true, true, true, true]) ?_  -- t35 := fieldAddr 108 t5 1
      refine H_two (i := 1) (j := 4) (by kernel_rfl) ?_ ?_
      · skip
        refine H_one rfl (by simp [Region.wanted]) (Op1_of (y_fld r_24 rfl (rg_of_range (hs.rg 0 rfl 0 1 rfl))) ⟨hs.keep [false, true, true, true, true, true, true, true, true, true], ?_⟩)  -- t33 := load 24 t32
        refine H_two (i := 2) (j := 4) (by kernel_rfl) ?_ ?_
        · skip
          refine H_one rfl (by simp [Region.wanted]) (o_callR en_73 rfl hs (cal_model_narrow _ B0 e0 y.f0 (Kd.C_below q0 hs.below) t0) ?_)  -- t34 := CALL f73(t33) :24
          intro v34 w1 hb hs
          obtain ⟨A34, c34, rfl⟩ := Kd.R_slice hs.outR
          refine ⟨hs.keep [false, false, true, true, true, true, true, true, true, true, true], ?_⟩
          refine H_loud (i := 4) rfl (by kernel_rfl) (by simp [Region.wanted]) (Op1_of (y_fld r_24 rfl (rg_of_range (hs.rg 1 rfl 1 1 rfl))) ⟨hs.keep [false, false, true, true, true, true, true, true, true, true, true], ?_⟩)  -- t36 := load 24 t35
          refine H_loud (i := 5) rfl (by kernel_rfl) (by simp [Region.wanted]) (o_callR en_73 rfl hs (cal_model_narrow _ B1 e1 y.f1 (Kd.C_below q1 hs.below) t1) ?_)  -- t37 := CALL f73(t36) :24
          intro v37 w1 hb hs
          obtain ⟨A37, c37, rfl⟩ := Kd.R_slice hs.outR
          refine ⟨hs.keep [false, false, false, true, true, true, true, true, true, true, true, true], ?_⟩
          refine H_q (i := 6) rfl (by kernel_rfl) rfl (fun _ hw => (y_fa fa_108_0 rfl)) (hs.keep [false, false, false, true, true, true, true, true, true, true, true, true]) ?_  -- t38 := fieldAddr 108 t5 0
          refine H_loud (i := 7) rfl (by kernel_rfl) (by simp [Region.wanted]) (o_store (seg := [_]) (cs' := [_, _, _, _, _, _, _, _, _, _, _, _, _, _, _, _, _, _, _, _, _, _, _, _, _, _, _, _, _, _]) sz_24 rfl rfl rfl rfl (hs.front 2) (Nat.le_of_ble_eq_true rfl) rfl ?_)  -- store 24 t38 t34
          intro w1 hs
          refine ⟨hs.keep [false, false, false, true, true, true, true, true, true, true, true, true], ?_⟩
          refine H_q (i := 8) rfl (by kernel_rfl) rfl (fun _ hw => (y_fa fa_108_1 rfl)) (hs.keep [false, false, false, true, true, true, true, true, true, true, true, true]) ?_  -- t39 := fieldAddr 108 t5 1
          refine H_loud (i := 9) rfl (by kernel_rfl) (by simp [Region.wanted]) (o_store (seg := [_]) (cs' := [_, _, _, _, _, _, _, _, _, _, _, _, _, _, _, _, _, _, _, _, _, _, _, _, _, _, _, _, _, _]) sz_24 rfl rfl rfl rfl (hs.front 0) (Nat.le_of_ble_eq_true rfl) rfl ?_)  -- store 24 t39 t37
          intro w1 hs
          refine ⟨hs.keep [false, false, false, true, true, true, true, true, true, true, true, true], ?_⟩
          refine H_done (by kernel_rfl) ?_
          exact ⟨_, _, _, _, trivial, rfl, rfl, rfl, rfl, rfl, rfl, rfl, (((hs.front 2).front 2).front 2)⟩
          -- sep: g5 row37 row34 g3 Lay own23 row20 row17 own14 g2 g1 Med
        · skip
          refine H_one rfl (by simp [Region.wanted]) (Op1_of (y_fld r_24 rfl (rg_of_range (hs.rg 0 rfl 1 1 rfl))) ⟨hs.keep [false, true, true, true, true, true, true, true, true, true], ?_⟩)  -- t36 := load 24 t35
          refine H_loud (i := 2) rfl (by kernel_rfl) (by simp [Region.wanted]) (o_callR en_73 rfl hs (cal_model_narrow _ B0 e0 y.f0 (Kd.C_below q0 hs.below) t0) ?_)  -- t34 := CALL f73(t33) :24
          intro v34 w1 hb hs
          obtain ⟨A34, c34, rfl⟩ := Kd.R_slice hs.outR
          refine ⟨hs.keep [false, false, true, true, true, true, true, true, true, true, true], ?_⟩
          refine H_loud (i := 5) rfl (by kernel_rfl) (by simp [Region.wanted]) (o_callR en_73 rfl hs (cal_model_narrow _ B1 e1 y.f1 (Kd.C_below q1 hs.below) t1) ?_)  -- t37 := CALL f73(t36) :24
          intro v37 w1 hb hs
          obtain ⟨A37, c37, rfl⟩ := Kd.R_slice hs.outR
          refine ⟨hs.keep [false, false, false, true, true, true, true, true, true, true, true, true], ?_⟩
          refine H_q (i := 6) rfl (by kernel_rfl) rfl (fun _ hw => (y_fa fa_108_0 rfl)) (hs.keep [false, false, false, true, true, true, true, true, true, true, true, true]) ?_  -- t38 := fieldAddr 108 t5 0
          refine H_loud (i := 7) rfl (by kernel_rfl) (by simp [Region.wanted]) (o_store (seg := [_]) (cs' := [_, _, _, _, _, _, _, _, _, _, _, _, _, _, _, _, _, _, _, _, _, _, _, _, _, _, _, _, _, _]) sz_24 rfl rfl rfl rfl (hs.front 2) (Nat.le_of_ble_eq_true rfl) rfl ?_)  -- store 24 t38 t34
          intro w1 hs
          refine ⟨hs.keep [false, false, false, true, true, true, true, true, true, true, true, true], ?_⟩
          refine H_q (i := 8) rfl (by kernel_rfl) rfl (fun _ hw => (y_fa fa_108_1 rfl)) (hs.keep [false, false, false, true, true, true, true, true, true, true, true, true]) ?_  -- t39 := fieldAddr 108 t5 1
          refine H_loud (i := 9) rfl (by kernel_rfl) (by simp [Region.wanted]) (o_store (seg := [_]) (cs' := [_, _, _, _, _, _, _, _, _, _, _, _, _, _, _, _, _, _, _, _, _, _, _, _, _, _, _, _, _, _]) sz_24 rfl rfl rfl rfl (hs.front 0) (Nat.le_of_ble_eq_true rfl) rfl ?_)  -- store 24 t39 t37
          intro w1 hs
          refine ⟨hs.keep [false, false, false, true, true, true, true, true, true, true, true, true], ?_⟩
          refine H_done (by kernel_rfl) ?_
          exact ⟨_, _, _, _, trivial, rfl, rfl, rfl, rfl, rfl, rfl, rfl, (((hs.front 2).front 2).front 2)⟩
          -- sep: g5 row37 row34 g3 Lay own23 row20 row17 own14 g2 g1 Med
      · skip
        refine H_one rfl (by simp [Region.wanted]) (Op1_of (y_fld r_24 rfl (rg_of_range (hs.rg 0 rfl 1 1 rfl))) ⟨hs.keep [false, true, true, true, true, true, true, true, true, true], ?_⟩)  -- t36 := load 24 t35
        refine H_loud (i := 1) rfl (by kernel_rfl) (by simp [Region.wanted]) (Op1_of (y_fld r_24 rfl (rg_of_range (hs.rg 0 rfl 0 1 rfl))) ⟨hs.keep [false, true, true, true, true, true, true, true, true, true], ?_⟩)  -- t33 := load 24 t32
        refine H_loud (i := 2) rfl (by kernel_rfl) (by simp [Region.wanted]) (o_callR en_73 rfl hs (cal_model_narrow _ B0 e0 y.f0 (Kd.C_below q0 hs.below) t0) ?_)  -- t34 := CALL f73(t33) :24
        intro v34 w1 hb hs
        obtain ⟨A34, c34, rfl⟩ := Kd.R_slice hs.outR
        refine ⟨hs.keep [false, false, true, true, true, true, true, true, true, true, true], ?_⟩
        refine H_loud (i := 5) rfl (by kernel_rfl) (by simp [Region.wanted]) (o_callR en_73 rfl hs (cal_model_narrow _ B1 e1 y.f1 (Kd.C_below q1 hs.below) t1) ?_)  -- t37 := CALL f73(t36) :24
        intro v37 w1 hb hs
        obtain ⟨A37, c37, rfl⟩ := Kd.R_slice hs.outR
        refine ⟨hs.keep [false, false, false, true, true, true, true, true, true, true, true, true], ?_⟩
        refine H_q (i := 6) rfl (by kernel_rfl) rfl (fun _ hw => (y_fa fa_108_0 rfl)) (hs.keep [false, false, false, true, true, true, true, true, true, true, true, true]) ?_  -- t38 := fieldAddr 108 t5 0
        refine H_loud (i := 7) rfl (by kernel_rfl) (by simp [Region.wanted]) (o_store (seg := [_]) (cs' := [_, _, _, _, _, _, _, _, _, _, _, _, _, _, _, _, _, _, _, _, _, _, _, _, _, _, _, _, _, _]) sz_24 rfl rfl rfl rfl (hs.front 2) (Nat.le_of_ble_eq_true rfl) rfl ?_)  -- store 24 t38 t34
        intro w1 hs
        refine ⟨hs.keep [false, false, false, true, true, true, true, true, true, true, true, true], ?_⟩
        refine H_q (i := 8) rfl (by kernel_rfl) rfl (fun _ hw => (y_fa fa_108_1 rfl)) (hs.keep [false, false, false, true, true, true, true, true, true, true, true, true]) ?_  -- t39 := fieldAddr 108 t5 1
        refine H_loud (i := 9) rfl (by kernel_rfl) (by simp [Region.wanted]) (o_store (seg := [_]) (cs' := [_, _, _, _, _, _, _, _, _, _, _, _, _, _, _, _, _, _, _, _, _, _, _, _, _, _, _, _, _, _]) sz_24 rfl rfl rfl rfl (hs.front 0) (Nat.le_of_ble_eq_true rfl) rfl ?_)  -- store 24 t39 t37
        intro w1 hs
        refine ⟨hs.keep [false, false, false, true, true, true, true, true, true, true, true, true], ?_⟩
        refine H_done (by kernel_rfl) ?_
        exact ⟨_, _, _, _, trivial, rfl, rfl, rfl, rfl, rfl, rfl, rfl, (((hs.front 2).front 2).front 2)⟩
        -- sep: g5 row37 row34 g3 Lay own23 row20 row17 own14 g2 g1 Med
    clear hs
    rintro f w1 ⟨D34, b34, D37, b37, hC2, k2_1, k2_2, k2_3, k2_5, k2_26, k2_27, k2_28, hs⟩
    subst hd2_g5; subst hK2
    refine W_seq ?_
    refine W_seq ?_
    replace hs := hs.bagNil
    refine W_region ?_
    refine L_q rfl (y_fa fa_31_0 (k2_1.trans (h1_1.trans k1_1))) ?_  -- t40 := fieldAddr 31 t1 0
    refine L_q rfl (y_fls (cs := [_, _, _, _, _, _, _, _]) r_23 sz_23 rfl (rg_of_range (hs.rg 11 rfl 0 8 rfl))) ?_  -- t41 := load 23 t40
    refine L_op rfl (o_callB en_74 rfl hs (cal_model_shapes _ x.f0 _ (kC_mk _ _) (hG.below hs.below) hcfg) ?_)  -- t42 := CALL f74(t41) :125
    intro g42 w1 hb hs
    refine L_q rfl (y_len u_125 rfl) ?_  -- t43 := len(t42) :3
    refine L_q rfl (y_move rfl) ?_  -- t44 := move 0
    refine L_nil ?_
    refine W_block ?_
    obtain ⟨L2, hs, hL2⟩ := ((hs.front 2).front 2).named2
    obtain ⟨c2_g5, hs, hc2_g5⟩ := hs.cells2
    refine W_loopF (fun f0 m f w1 => ∃ (i : Int) (vs : List Value), 0 ≤ i ∧ i ≤ 7 ∧ m = (7 - i).toNat ∧ vs.length = i.toNat ∧ sl f 1 = sl f0 1 ∧ sl f 2 = sl f0 2 ∧ sl f 3 = sl f0 3 ∧ sl f 5 = sl f0 5 ∧ sl f 26 = sl f0 26 ∧ sl f 27 = sl f0 27 ∧ sl f 28 = sl f0 28 ∧ sl f 42 = sl f0 42 ∧ sl f 43 = sl f0 43 ∧ sl f 44 = .int .i64 i ∧ Sep w0 w1 (bagA (matsA w0.heap.size y vs) :: blk g5 108 (layV c2_g5 vs) :: L2)) ((7 : Int) - 0).toNat ?_ ?_
    · subst hc2_g5; exact ⟨0, [], by omega, by omega, rfl, rfl, rfl, rfl, rfl, rfl, rfl, rfl, rfl, rfl, rfl, rfl, hs⟩
    clear hs
    rintro m f w1 ⟨i, vs, hi0, hi1, rfl, hP2, h2_1, h2_2, h2_3, h2_5, h2_26, h2_27, h2_28, h2_42, h2_43, h2_44, hs⟩
    subst hc2_g5; subst hL2
    refine W_seq ?_
    refine W_region ?_
    refine L_q rfl (y_lss h2_44 h2_43) ?_  -- t45 := binOp lss 3 t44 t43 3
    refine L_nil ?_
    refine W_seq ?_
    refine W_if rfl (fun hq2 => ?_) (fun hq2 => ?_)
    · skip
      refine W_skip ?_
      have hlt2 : i < 7 := of_decide_eq_true hq2
      have hlt' : i.toNat < 7 := by omega
      obtain ⟨Am, cm, hsrc, hcm, hCm⟩ := lay_src p4 q4 p7 q7 p10 q10 p13 q13 p16 q16 p19 q19 p22 q22 hlt'
      have hsmm := mat_sm t2 t3 t4 t5 t6 t7 t8 hlt'
      refine W_seq ?_
      refine W_block ?_
      refine W_seq ?_
      refine W_region ?_
      refine L_q rfl (y_ia u_125 sz_129 h2_42 h2_44 (by omega) (by omega)) ?_  -- t46 := indexAddr 125 t42 t44
      refine L_q rfl (y_fls (cs := [_, _, _]) r_129 sz_129 rfl (rg_shape (rg_of_range (hs.rg 2 rfl 0 21 rfl)) hlt')) ?_  -- t47 := load 129 t46
      refine L_op rfl (o_alloc al_129 hs ?_)  -- t7 := alloc 129
      intro g7 w1 hs
      refine L_op rfl (o_store (seg := [_, _, _]) (cs' := [_, _, _]) sz_129 rfl rfl rfl rfl (hs.front 0) (Nat.le_of_ble_eq_true rfl) rfl ?_)  -- store 129 t7 t47
      intro w1 hs
      refine L_nil ?_
      refine W_drawS rfl [true, true, false, true, true, true, true, true, true, true, true, true, true, true, true] hs ?_
      intro w1 hs
      refine H_q (i := 0) rfl (by kernel_rfl) rfl (fun _ hw => (y_fa fa_129_0 rfl)) (hs.keep [true, true, false, true, true, true, true, true, true, true, true, true, true, true, true]) ?_  -- t48 := fieldAddr 129 t7 0
      refine H_q (i := 1) rfl (by kernel_rfl) rfl (fun _ hw => (y_fld r_127 rfl (rg_of_range (hw.rg 0 rfl 0 1 rfl)))) (hs.keep [true, true, false, true, true, true, true, true, true, true, true, true, true, true, true]) ?_  -- t49 := load 127 t48
      refine H_q (i := 3) rfl (by kernel_rfl) rfl (fun _ hw => (y_fa fa_129_0 rfl)) (hs.keep [true, true, false, true, true, true, true, true, true, true, true, true, true, true, true]) ?_  -- t51 := fieldAddr 129 t7 0
      refine H_q (i := 4) rfl (by kernel_rfl) rfl (fun _ hw => (y_fld r_127 rfl (rg_of_range (hw.rg 0 rfl 0 1 rfl)))) (hs.keep [true, true, false, true, true, true, true, true, true, true, true, true, true, true, true]) ?_  -- t52 := load 127 t51
      refine H_loud (i := 2) rfl (by kernel_rfl) (by simp [Region.wanted]) (o_callv (en_shape hlt') rfl (args1 (h2_5.trans k2_5)) hs (cal_shape _ _ hlt') ?_)  -- t50 := CALL t49(t5) :130
      intro v50 w1 hb hs hv50
      refine ⟨hs.keep [true, true, false, true, true, true, true, true, true, true, true, true, true, true, true], ?_⟩
      refine H_loud (i := 5) rfl (by kernel_rfl) (by simp [Region.wanted]) (o_callv (en_shape hlt') rfl (args1 (h2_5.trans k2_5)) hs (cal_shape _ _ hlt') ?_)  -- t53 := CALL t52(t5) :130
      intro v53 w1 hb hs hv53
      refine ⟨hs.keep [true, true, false, true, true, true, true, true, true, true, true, true, true, true, true], ?_⟩
      refine H_q (i := 6) rfl (by kernel_rfl) rfl (fun _ hw => (y_nil hv53)) (hs.keep [true, true, false, true, true, true, true, true, true, true, true, true, true, true, true]) ?_  -- t54 := nilCheck t53
      refine H_loud (i := 7) rfl (by kernel_rfl) (by simp [Region.wanted]) (Op1_of (y_fls (cs := [_, _, _]) r_26 sz_26 rfl (rg_add (hs.rg 2 rfl _ 3 (lay_at' hP2 hlt' hsrc)))) ⟨hs.keep [true, true, false, true, true, true, true, true, true, true, true, true, true, true, true], ?_⟩)  -- t55 := load 26 t54
      refine H_loud (i := 8) rfl (by kernel_rfl) (by simp [Region.wanted]) (o_callM en_72 rfl hs (cal_model_matrix _ (matOf y i.toNat) _ (kM_mk _ _ hcm (Kd.C_below hCm hs.below)) hsmm) ?_)  -- t56 := CALL f72(t55) :26
      intro cs56 w1 hb hs
      obtain ⟨r56_2, rfl, q56_2⟩ := kM_openM hs.outM
      obtain ⟨A56_2, c56_2, rfl⟩ := Kd.R_slice q56_2
      refine ⟨hs.keep [false, true, true, false, true, true, true, true, true, true, true, true, true, true, true, true], ?_⟩
      refine H_q (i := 9) rfl (by kernel_rfl) rfl (fun _ hw => (y_nil hv50)) (hs.keep [false, true, true, false, true, true, true, true, true, true, true, true, true, true, true, true]) ?_  -- t57 := nilCheck t50
      refine H_loud (i := 10) rfl (by kernel_rfl) (by simp [Region.wanted]) (o_storeA (seg := [_, _, _]) sz_26 rfl (by rw [add_at, Nat.zero_add]) rfl rfl rfl (hs.front 3) (by rw [lay_len]; show 2 + 3 * i.toNat + 3 ≤ 30; omega) (lay_put' hP2 hlt' _) ?_)  -- store 26 t57 t56
      intro w1 hs
      refine ⟨hs.keep [false, false, true, true, true, true, true, true, true, true, true, true, true, true, true, true], ?_⟩
      refine H_done (by kernel_rfl) ?_
      refine W_region ?_
      refine L_q rfl (y_addi h2_44 rfl (by omega) (by omega)) ?_  -- t58 := binOp add 3 t44 1 3
      refine L_q rfl (y_move rfl) ?_  -- t44 := move t58
      refine L_nil ?_
      -- sep: g5 own56 g7 mats g42 row37 row34 g3 Lay own23 row20 row17 own14 g2 g1 Med
      replace hs := ((hs.front 1).front 3).bagSnoc
      rw [matsA_snoc' hP2] at hs
      exact ⟨_, by omega, i + 1, vs ++ [Value.slice A56_2 (matOf y i.toNat).f2.length c56_2], by omega, by omega, rfl, by simp; omega, h2_1, h2_2, h2_3, h2_5, h2_26, h2_27, h2_28, h2_42, h2_43, rfl, ((hs.front 1).front 1).keep [true, true, false, true, true, true, true, true, true, true, true, true, true, true, true]⟩
    · skip
      refine W_exit ?_
      refine x_hit ?_
      -- sep: mats g5 g42 row37 row34 g3 Lay own23 row20 row17 own14 g2 g1 Med
      obtain ⟨a0, a1, a2, a3, a4, a5, a6, rfl⟩ := vs7 (show vs.length = 7 by have := of_decide_eq_false hq2; omega)
      replace hs := (((hs.front 4).front 4).bag 3).conv (a' := own w0.heap.size kL y (layC y (.slice D34 y.f0.length b34) (.slice D37 y.f1.length b37) a0 a1 a2 a3 a4 a5 a6)) (fun S h => lay_own h)
      refine W_region ?_
      refine L_q rfl (y_fa fa_31_3 (h2_3.trans (k2_3.trans (h1_3.trans k1_3)))) ?_  -- t59 := fieldAddr 31 t3 3
      refine L_q rfl (y_fld r_28 rfl (rg_of_range (hs.rg 3 rfl 12 1 rfl))) ?_  -- t60 := load 28 t59
      refine L_q rfl (y_fls (cs := [_, _, _, _, _, _, _, _, _, _, _, _, _, _, _, _, _, _, _, _, _, _, _, _, _, _, _, _, _, _]) r_108 sz_108 (h2_5.trans k2_5) (rg_of_range (hs.rg 1 rfl 0 30 rfl))) ?_  -- t61 := load 108 t5
      refine L_op rfl (o_bs (cs := [_, _, _, _, _, _, _, _, _, _, _, _, _, _, _, _, _, _, _, _, _, _, _, _, _, _, _, _, _, _]) u_28 i_108 rfl rfl rfl (by decide) (by decide) hs ?_)  -- t62 := buildSlice 28 1 [0=t61]
      intro g62 w1 hs
      refine L_op rfl (o_app u_28 i_108 rfl (by decide) (by decide) rfl rfl (((hs.front 5).front 2).front 2) (by have := List.length_take_le' p.toNat x.f3; omega) ?_)  -- t63 := append(t60, t62) :28
      intro v63 w1 hs
      rw [← hy, takeG_snoc hp0 hlt] at hs
      obtain ⟨A63, c63, rfl⟩ := Kd.R_slice hs.outR
      refine L_q rfl (y_fa fa_31_3 (h2_3.trans (k2_3.trans (h1_3.trans k1_3)))) ?_  -- t64 := fieldAddr 31 t3 3
      refine L_op rfl (o_store (seg := [_]) (cs' := [_, _, _, _, _, _, _, _, _, _, _, _, _, _, _, _, _, _]) sz_28 rfl rfl rfl rfl (hs.front 3) (Nat.le_of_ble_eq_true rfl) rfl ?_)  -- store 28 t64 t63
      intro w1 hs
      refine L_nil ?_
      refine W_region ?_
      refine L_q rfl (y_addi (h2_28.trans (k2_28.trans h1_28)) rfl (by omega) (by omega)) ?_  -- t65 := binOp add 3 t28 1 3
      refine L_q rfl (y_move rfl) ?_  -- t28 := move t65
      refine L_nil ?_
      -- sep: g3 Lay g5 g42 own23 row20 row17 own14 g2 g1 Med
      exact ⟨_, by omega, p + 1, _, by omega, by omega, rfl, trivial, (h2_1.trans (k2_1.trans h1_1)), (h2_2.trans (k2_2.trans h1_2)), (h2_3.trans (k2_3.trans h1_3)), (h2_26.trans (k2_26.trans h1_26)), (h2_27.trans (k2_27.trans h1_27)), rfl, ((hs.front 1).front 1).keep [true, true, false, false, true, true, true, true, true, true, true]⟩
  · skip
    have e3 : p.toNat = x.f3.length := by have := of_decide_eq_false hq1; omega
    refine W_exit ?_
    refine x_hit ?_
    refine W_seq ?_
    refine W_seq ?_
    refine W_region ?_
    refine L_q rfl (y_fa fa_31_6 (h1_1.trans k1_1)) ?_  -- t66 := fieldAddr 31 t1 6
    refine L_q rfl (y_fld r_29 rfl (rg_of_range (hs.rg 7 rfl 17 1 rfl))) ?_  -- t67 := load 29 t66
    refine L_q rfl (y_len u_29 rfl) ?_  -- t68 := len(t67) :3
    refine L_q rfl (y_move rfl) ?_  -- t69 := move 0
    refine L_nil ?_
    refine W_block ?_
    obtain ⟨L3, hs, hL3⟩ := ((hs.front 8).front 1).named2
    obtain ⟨c3_g3, hs, hc3_g3⟩ := hs.cells1
    refine W_loopF (fun f0 m f w1 => ∃ (i : Int) (u : Value), 0 ≤ i ∧ i ≤ x.f6.length ∧ m = (x.f6.length - i).toNat ∧ True ∧ sl f 1 = sl f0 1 ∧ sl f 2 = sl f0 2 ∧ sl f 3 = sl f0 3 ∧ sl f 26 = sl f0 26 ∧ sl f 27 = sl f0 27 ∧ sl f 28 = sl f0 28 ∧ sl f 67 = sl f0 67 ∧ sl f 68 = sl f0 68 ∧ sl f 69 = .int .i64 i ∧ Sep w0 w1 (blk g3 31 (c3_g3.set 17 u) :: row w0.heap.size kM 26 u (x.f6.take i.toNat) :: L3)) ((x.f6.length : Int) - 0).toNat ?_ ?_
    · subst hc3_g3; exact ⟨0, .slice none 0 0, by omega, by omega, rfl, trivial, rfl, rfl, rfl, rfl, rfl, rfl, rfl, rfl, rfl, hs⟩
    clear hs
    rintro m f w1 ⟨i, u, hi0, hi1, rfl, hP3, h3_1, h3_2, h3_3, h3_26, h3_27, h3_28, h3_67, h3_68, h3_69, hs⟩
    subst hc3_g3; subst hL3
    obtain ⟨Au, cu, rfl⟩ := Kd.R_slice (hs.front 1).outR
    refine W_seq ?_
    refine W_region ?_
    refine L_q rfl (y_lss h3_69 h3_68) ?_  -- t70 := binOp lss 3 t69 t68 3
    refine L_nil ?_
    refine W_seq ?_
    refine W_if rfl (fun hq3 => ?_) (fun hq3 => ?_)
    · skip
      refine W_skip ?_
      have hlt3 : i < x.f6.length := of_decide_eq_true hq3
      obtain ⟨ad, cu, rfl, hK, hrg⟩ := Kd.C_at d17 zM i hi0 hlt3
      obtain ⟨B2, e2, rfl, -⟩ := kM_open hK
      obtain ⟨K3, hs, hK3⟩ := ((hs.front 1).front 1).named2
      obtain ⟨d3_g3, hs, hd3_g3⟩ := hs.cells1
      refine W_cutF (fun f0 f w1 => ∃ v, True ∧ sl f 1 = sl f0 1 ∧ sl f 2 = sl f0 2 ∧ sl f 3 = sl f0 3 ∧ sl f 26 = sl f0 26 ∧ sl f 27 = sl f0 27 ∧ sl f 28 = sl f0 28 ∧ sl f 67 = sl f0 67 ∧ sl f 68 = sl f0 68 ∧ sl f 69 = sl f0 69 ∧ Sep w0 w1 (blk g3 31 (d3_g3.set 17 v) :: row w0.heap.size kM 26 v (x.f6.take (i + 1).toNat) :: K3)) ?_ ?_
      · subst hd3_g3; subst hK3
        refine W_block ?_
        refine W_seq ?_
        refine W_region ?_
        refine L_q rfl (y_ia u_29 sz_26 h3_67 h3_69 (by omega) (by omega)) ?_  -- t71 := indexAddr 29 t67 t69
        refine L_q rfl (y_fls (cs := [_, _, _]) r_26 sz_26 rfl (hrg.below hs.below)) ?_  -- t72 := load 26 t71
        refine L_op rfl (o_alloc al_26 hs ?_)  -- t9 := alloc 26
        intro g9 w1 hs
        refine L_op rfl (o_store (seg := [_, _, _]) (cs' := [_, _, _]) sz_26 rfl rfl rfl rfl (hs.front 0) (Nat.le_of_ble_eq_true rfl) rfl ?_)  -- store 26 t9 t72
        intro w1 hs
        refine L_nil ?_
        refine W_drawS rfl [true, false, false, true, true, true, true, true, true, true] hs ?_
        intro w1 hs
        refine H_q (i := 0) rfl (by kernel_rfl) rfl (fun _ hw => (y_fa fa_31_6 (h3_3.trans (h1_3.trans k1_3)))) (hs.keep [true, false, false, true, true, true, true, true, true, true]) ?_  -- t73 := fieldAddr 31 t3 6
        refine H_q (i := 2) rfl (by kernel_rfl) rfl (fun _ hw => (y_fls (cs := [_, _, _]) r_26 sz_26 rfl (rg_of_range (hw.rg 0 rfl 0 3 rfl)))) (hs.keep [true, false, false, true, true, true, true, true, true, true]) ?_  -- t75 := load 26 t9
        refine H_two (i := 1) (j := 3) (by kernel_rfl) ?_ ?_
        · skip
          refine H_one rfl (by simp [Region.wanted]) (Op1_of (y_fld r_29 rfl (rg_of_range (hs.rg 1 rfl 17 1 rfl))) ⟨hs.keep [true, false, false, true, true, true, true, true, true, true], ?_⟩)  -- t74 := load 29 t73
          refine H_loud (i := 3) rfl (by kernel_rfl) (by simp [Region.wanted]) (o_callM en_72 rfl hs (cal_model_matrix _ (x.f6.getD i.toNat zM) _ (kM.K_below hs.below hK) (s6 _ (getD_mem' hi0 hlt3))) ?_)  -- t76 := CALL f72(t75) :26
          intro cs76 w1 hb hs
          obtain ⟨r76_2, rfl, q76_2⟩ := kM_openM hs.outM
          obtain ⟨A76_2, c76_2, rfl⟩ := Kd.R_slice q76_2
          refine ⟨hs.keep [false, true, false, false, true, true, true, true, true, true, true], ?_⟩
          refine H_loud (i := 4) rfl (by kernel_rfl) (by simp [Region.wanted]) (o_bs (cs := [_, _, _]) u_29 i_26 rfl rfl rfl (by decide) (by decide) hs ?_)  -- t77 := buildSlice 29 1 [0=t76]
          intro g77 w1 hs
          refine ⟨hs.keep [false, false, true, false, false, true, true, true, true, true, true, true], ?_⟩
          refine H_loud (i := 5) rfl (by kernel_rfl) (by simp [Region.wanted]) (o_app u_29 i_26 rfl (by decide) (by decide) rfl rfl (((hs.front 4).front 2).front 2) (by have := List.length_take_le' i.toNat x.f6; omega) ?_)  -- t78 := append(t74, t77) :29
          intro v78 w1 hs; rw [takeG_snoc hi0 hlt3] at hs
          obtain ⟨A78, c78, rfl⟩ := Kd.R_slice hs.outR
          refine ⟨hs.keep [false, true, false, true, true, true, true, true, true, true], ?_⟩
          refine H_q (i := 6) rfl (by kernel_rfl) rfl (fun _ hw => (y_fa fa_31_6 (h3_3.trans (h1_3.trans k1_3)))) (hs.keep [false, true, false, true, true, true, true, true, true, true]) ?_  -- t79 := fieldAddr 31 t3 6
          refine H_loud (i := 7) rfl (by kernel_rfl) (by simp [Region.wanted]) (o_store (seg := [_]) (cs' := [_, _, _, _, _, _, _, _, _, _, _, _, _, _, _, _, _, _]) sz_29 rfl rfl rfl rfl (hs.front 2) (Nat.le_of_ble_eq_true rfl) rfl ?_)  -- store 29 t79 t78
          intro w1 hs
          refine ⟨hs.keep [false, false, true, true, true, true, true, true, true, true], ?_⟩
          refine H_done (by kernel_rfl) ?_
          exact ⟨_, trivial, rfl, rfl, rfl, rfl, rfl, rfl, rfl, rfl, rfl, ((hs.front 1).front 1).keep [true, true, false, true, true, true, true, true, true, true]⟩
          -- sep: g3 Med g9 Lay own23 row20 row17 own14 g2 g1
        · skip
          refine H_one rfl (by simp [Region.wanted]) (o_callM en_72 rfl hs (cal_model_matrix _ (x.f6.getD i.toNat zM) _ (kM.K_below hs.below hK) (s6 _ (getD_mem' hi0 hlt3))) ?_)  -- t76 := CALL f72(t75) :26
          intro cs76 w1 hb hs
          obtain ⟨r76_2, rfl, q76_2⟩ := kM_openM hs.outM
          obtain ⟨A76_2, c76_2, rfl⟩ := Kd.R_slice q76_2
          refine ⟨hs.keep [false, true, false, false, true, true, true, true, true, true, true], ?_⟩
          refine H_two (i := 1) (j := 4) (by kernel_rfl) ?_ ?_
          · skip
            refine H_one rfl (by simp [Region.wanted]) (Op1_of (y_fld r_29 rfl (rg_of_range (hs.rg 2 rfl 17 1 rfl))) ⟨hs.keep [false, true, false, false, true, true, true, true, true, true, true], ?_⟩)  -- t74 := load 29 t73
            refine H_loud (i := 4) rfl (by kernel_rfl) (by simp [Region.wanted]) (o_bs (cs := [_, _, _]) u_29 i_26 rfl rfl rfl (by decide) (by decide) hs ?_)  -- t77 := buildSlice 29 1 [0=t76]
            intro g77 w1 hs
            refine ⟨hs.keep [false, false, true, false, false, true, true, true, true, true, true, true], ?_⟩
            refine H_loud (i := 5) rfl (by kernel_rfl) (by simp [Region.wanted]) (o_app u_29 i_26 rfl (by decide) (by decide) rfl rfl (((hs.front 4).front 2).front 2) (by have := List.length_take_le' i.toNat x.f6; omega) ?_)  -- t78 := append(t74, t77) :29
            intro v78 w1 hs; rw [takeG_snoc hi0 hlt3] at hs
            obtain ⟨A78, c78, rfl⟩ := Kd.R_slice hs.outR
            refine ⟨hs.keep [false, true, false, true, true, true, true, true, true, true], ?_⟩
            refine H_q (i := 6) rfl (by kernel_rfl) rfl (fun _ hw => (y_fa fa_31_6 (h3_3.trans (h1_3.trans k1_3)))) (hs.keep [false, true, false, true, true, true, true, true, true, true]) ?_  -- t79 := fieldAddr 31 t3 6
            refine H_loud (i := 7) rfl (by kernel_rfl) (by simp [Region.wanted]) (o_store (seg := [_]) (cs' := [_, _, _, _, _, _, _, _, _, _, _, _, _, _, _, _, _, _]) sz_29 rfl rfl rfl rfl (hs.front 2) (Nat.le_of_ble_eq_true rfl) rfl ?_)  -- store 29 t79 t78
            intro w1 hs
            refine ⟨hs.keep [false, false, true, true, true, true, true, true, true, true], ?_⟩
            refine H_done (by kernel_rfl) ?_
            exact ⟨_, trivial, rfl, rfl, rfl, rfl, rfl, rfl, rfl, rfl, rfl, ((hs.front 1).front 1).keep [true, true, false, true, true, true, true, true, true, true]⟩
            -- sep: g3 Med g9 Lay own23 row20 row17 own14 g2 g1
          · skip
            refine H_one rfl (by simp [Region.wanted]) (o_bs (cs := [_, _, _]) u_29 i_26 rfl rfl rfl (by decide) (by decide) hs ?_)  -- t77 := buildSlice 29 1 [0=t76]
            intro g77 w1 hs
            refine ⟨hs.keep [false, false, true, false, false, true, true, true, true, true, true, true], ?_⟩
            refine H_loud (i := 1) rfl (by kernel_rfl) (by simp [Region.wanted]) (Op1_of (y_fld r_29 rfl (rg_of_range (hs.rg 3 rfl 17 1 rfl))) ⟨hs.keep [false, false, true, false, false, true, true, true, true, true, true, true], ?_⟩)  -- t74 := load 29 t73
            refine H_loud (i := 5) rfl (by kernel_rfl) (by simp [Region.wanted]) (o_app u_29 i_26 rfl (by decide) (by decide) rfl rfl (((hs.front 4).front 2).front 2) (by have := List.length_take_le' i.toNat x.f6; omega) ?_)  -- t78 := append(t74, t77) :29
            intro v78 w1 hs; rw [takeG_snoc hi0 hlt3] at hs
            obtain ⟨A78, c78, rfl⟩ := Kd.R_slice hs.outR
            refine ⟨hs.keep [false, true, false, true, true, true, true, true, true, true], ?_⟩
            refine H_q (i := 6) rfl (by kernel_rfl) rfl (fun _ hw => (y_fa fa_31_6 (h3_3.trans (h1_3.trans k1_3)))) (hs.keep [false, true, false, true, true, true, true, true, true, true]) ?_  -- t79 := fieldAddr 31 t3 6
            refine H_loud (i := 7) rfl (by kernel_rfl) (by simp [Region.wanted]) (o_store (seg := [_]) (cs' := [_, _, _, _, _, _, _, _, _, _, _, _, _, _, _, _, _, _]) sz_29 rfl rfl rfl rfl (hs.front 2) (Nat.le_of_ble_eq_true rfl) rfl ?_)  -- store 29 t79 t78
            intro w1 hs
            refine ⟨hs.keep [false, false, true, true, true, true, true, true, true, true], ?_⟩
            refine H_done (by kernel_rfl) ?_
            exact ⟨_, trivial, rfl, rfl, rfl, rfl, rfl, rfl, rfl, rfl, rfl, ((hs.front 1).front 1).keep [true, true, false, true, true, true, true, true, true, true]⟩
            -- sep: g3 Med g9 Lay own23 row20 row17 own14 g2 g1
      clear hs
      rintro f w1 ⟨v, hC3, k3_1, k3_2, k3_3, k3_26, k3_27, k3_28, k3_67, k3_68, k3_69, hs⟩
      subst hd3_g3; subst hK3
      refine W_region ?_
      refine L_q rfl (y_addi (k3_69.trans h3_69) rfl (by omega) (by omega)) ?_  -- t80 := binOp add 3 t69 1 3
      refine L_q rfl (y_move rfl) ?_  -- t69 := move t80
      refine L_nil ?_
      -- sep: g3 Med Lay own23 row20 row17 own14 g2 g1
      exact ⟨_, by omega, i + 1, _, by omega, by omega, rfl, trivial, (k3_1.trans h3_1), (k3_2.trans h3_2), (k3_3.trans h3_3), (k3_26.trans h3_26), (k3_27.trans h3_27), (k3_28.trans h3_28), (k3_67.trans h3_67), (k3_68.trans h3_68), rfl, ((hs.front 1).front 1)⟩
    · skip
      refine W_exit ?_
      refine x_hit ?_
      refine W_seq ?_
      refine W_region ?_
      refine L_q rfl (y_fls (cs := [_, _, _, _, _, _, _, _, _, _, _, _, _, _, _, _, _, _]) r_31 sz_31 (h3_3.trans (h1_3.trans k1_3)) (rg_of_range (hs.rg 0 rfl 0 18 rfl))) ?_  -- t81 := load 31 t3
      refine L_op rfl (o_store (seg := [_, _, _, _, _, _, _, _, _, _, _, _, _, _, _, _, _, _]) (cs' := [_, _, _, _, _, _, _, _, _, _, _, _, _, _, _, _, _, _]) sz_31 (h3_2.trans (h1_2.trans k1_2)) rfl rfl rfl (hs.front 7) (Nat.le_of_ble_eq_true rfl) rfl ?_)  -- store 31 t2 t81
      intro w1 hs
      refine L_nil ?_
      refine W_ret ?_
      -- sep: g2 g3 Med Lay own23 row20 row17 own14 g1
      refine ret_one rfl (.cell (cs := [_, _, _, _, _, _, _, _, _, _, _, _, _, _, _, _, _, _]) (h3_2.trans (h1_2.trans k1_2)) r_31 sz_31 (hs.rg 0 rfl 0 18 rfl) .nil) ⟨_, rfl, hs.below, ?_⟩
      have e6 : i.toNat = x.f6.length := by have := of_decide_eq_false hq3; omega
      rw [e3, e6, List.take_length, List.take_length] at hs ⊢
      have h := hs.tail.tail.out
      exact ⟨_, rfl, kW_mkM _ _ _ x (kM_row (h.own 5 rfl)) (h.row 4 rfl) (h.row 1 rfl) (h.row 3 rfl) (kM_row (h.own 2 rfl)) (h.row 0 rfl)⟩
end Go.Proofs.YtlmddncoeikfjaaDoor
