/- Walks: the stable sort of the library (few elements), Ranked. -/
import Derived.Test.YtlmddncoeikfjaaDoorWA
namespace Go.Proofs.YtlmddncoeikfjaaDoor
open Go.RowKit Go.Proofs.YtlmddncoeikfjaaDoorW.PrintWords
set_option maxRecDepth 100000
set_option maxHeartbeats 4000000

theorem zip1 (p : Nat) (a : Value) : ((#[p] : Array Nat).zip #[a]).toList = [(p, a)] := by simp
theorem zip2 (p q : Nat) (a b : Value) : ((#[p, q] : Array Nat).zip #[a, b]).toList = [(p, a), (q, b)] := by simp
theorem W_once {n : Nat} {P : Program} {ro : Option Nat} {ds : List Deferred} {N : Fr n → World → Prop} {X : Nat → Fr n → World → Prop} {R : List Deferred → Fr n → World → Prop} {f : Fr n} {w : World} {c : Code} (h : W ro ds P c (fun _ _ => False) X R f w) : W ro ds P (.loop c) N X R f w :=
  W_loop (fun m f' w' => m = 0 ∧ f' = f ∧ w' = w) 0 ⟨rfl, rfl, rfl⟩ (by
    rintro m f w ⟨rfl, rfl, rfl⟩
    exact W_mono h (fun _ _ h => h.elim) (fun _ _ _ h => h))
section
variable {n : Nat} {P : Program} {f : Fr n} {w0 w : World} {K : Fr n → World → Prop} {d : Option Tmp} {ty : TypeId} {pos : String} {af : Array Edge} {g : Option (Nat × Bool)}
/-- A call that changes what the function owns. -/
theorem o_callS {h : FuncId} {x : Array Operand} {tys : Array TypeId} {args : List Value} {l' : List Asr} {u : Value} (hen : Enters P h) (hargs : x.toList.map (ev f) = args) (hc : Cal P h args.toArray w fun v w1 => Below w0.heap.size w0 w1 ∧ Sep w0 w1 l' ∧ v = u) (hk : ∀ w1, Sep w0 w1 l' → K (upo f d u) w1) : Op1 P ⟨d, .call { callee := .value (.func h), args := x, argTypes := tys }, ty, pos, af, g⟩ f w K :=
  o_calls hen (captured := #[]) rfl hargs (R := fun v w1 => Below w0.heap.size w0 w1 ∧ Sep w0 w1 l' ∧ v = u) (by simpa using hc) (fun v w1 hr => by
    obtain ⟨hb, hs, rfl⟩ := hr
    exact hk w1 hs)
theorem o_callX {h : FuncId} {x : Array Operand} {tys : Array TypeId} {args : List Value} {R : Value → World → Prop} (hen : Enters P h) (hargs : x.toList.map (ev f) = args) (hc : Cal P h args.toArray w R) (hk : ∀ v w1, R v w1 → K (upo f d v) w1) : Op1 P ⟨d, .call { callee := .value (.func h), args := x, argTypes := tys }, ty, pos, af, g⟩ f w K :=
  o_calls hen (captured := #[]) rfl hargs (R := R) (by simpa using hc) hk
theorem slF {f F : Fr n} (h : F = f) (k : Nat) : sl F k = sl f k := by rw [h]
theorem W_name {ro : Option Nat} {ds : List Deferred} {c : Code} {N : Fr n → World → Prop} {X : Nat → Fr n → World → Prop} {R : List Deferred → Fr n → World → Prop} (h : ∀ F, F = f → W ro ds P c N X R F w) : W ro ds P c N X R f w := h f rfl
/-- A slice without elements, written out. -/
theorem o_bs0 {α : Type} {enc : α → Value} {h1 : ∀ x, (enc x).oneCell' = true} {l : List Asr} {t e : TypeId} {dv : α} {bytes : Nat} (ht : P.underlying t = some (.slice e)) (hinfo : (P.info? e).map (fun i => (i.zero, i.size, i.bytes)) = some (some (enc dv), 1, bytes)) (hs : Sep w0 w l)
    (h : ∀ g' w1, Sep w0 w1 (row w0.heap.size (Kd.scalar enc h1) e (.slice (some ⟨g', 0, none⟩) 0 0) [] :: l) → K (upo f d (.slice (some ⟨g', 0, none⟩) 0 0)) w1) : Op1 P ⟨d, .buildSlice t 0 #[], ty, pos, af, g⟩ f w K := by
  obtain ⟨i, hi, hzz⟩ := Option.map_eq_some_iff.1 hinfo
  simp only [Prod.mk.injEq] at hzz
  obtain ⟨hz0, hz1, hz2⟩ := hzz
  have hbs := hs.below.size
  have hrun : (execOp (ev f) ⟨d, .buildSlice t 0 #[], ty, pos, af, g⟩).run P w = .ok (.value (.slice (some ⟨w.heap.size, 0, none⟩) 0 0)) (w.alloc (.cells (madeCells #[enc dv] 0) e)) := by
    have e0 : Array.range 0 = #[] := rfl
    simp [execOp, Instr.buildSlice, run_underlying ht, sizeOf, typeInfo, hi, Instr.fill, newRow, madeCells, e0]
  constructor
  unfold Op0
  rw [hrun]
  exact h _ _ (hs.madeR (base := w.heap.size) (ok := fun _ => True) ((Below.refl _ w).alloc (Nat.le_refl _) _) (Kd.R_of_own (xs := List.replicate 0 dv) (own_made_of' w w.heap.size e 0 (Nat.le_refl _) (by omega)) (fun _ _ => trivial)) (Nat.le_refl _))
end
theorem cal_stable20 (w0 wS : World) (g n cap : Nat) (xs : List Int) (h : FuncId) (caps : List Value) (cf : Int → Int → Int) (Dm : Int → Prop) (l : List Asr) (hs : Sep w0 wS (row w0.heap.size (Kd.int .i64) 3 (.slice (some ⟨g, 0, none⟩) n cap) xs :: l)) (hen : Enters Tryd.prog h) (hcmp : CmpS Tryd.prog h caps cf Dm w0 l) (hD : ∀ x ∈ xs, Dm x) (hn : n < 20) :
    Cal Tryd.prog 65 #[.slice (some ⟨g, 0, none⟩) n cap, .int .i64 n, .func (.func h) #[] caps.toArray] wS fun v w1 => Below w0.heap.size w0 w1 ∧ Sep w0 w1 (row w0.heap.size (Kd.int .i64) 3 (.slice (some ⟨g, 0, none⟩) n cap) (insTo cf 0 (n - 1) xs) :: l) ∧ v = .tuple #[] := by
  refine cal_W (n := 63) Tryd.func65 rfl rfl (by simp) ?_
  skip
  refine W_seq ?_
  refine W_region ?_
  refine L_q rfl (y_assign rfl) ?_  -- t6 := assign 20
  refine L_nil ?_
  refine W_seq ?_
  refine W_region ?_
  refine L_q rfl (y_move rfl) ?_  -- t10 := move t6
  refine L_q rfl (y_assign rfl) ?_  -- t7 := assign 0
  refine L_q rfl (y_assign rfl) ?_  -- t8 := assign t10
  refine L_nil ?_
  refine W_seq ?_
  refine W_block ?_
  refine W_once ?_
  refine W_seq ?_
  refine W_seq ?_
  refine W_region ?_
  refine L_q rfl (y_move rfl) ?_  -- t11 := move t8
  refine L_q rfl (y_move rfl) ?_  -- t12 := move t1
  refine L_q rfl (y_leq rfl rfl) ?_  -- t13 := binOp leq 3 t11 t12 3
  refine L_nil ?_
  refine W_if rfl (fun hq1 => ?_) (fun hq1 => ?_)
  · skip
    exact absurd (of_decide_eq_true hq1) (by omega)
  · skip
    refine W_exit ?_
    refine x_hit ?_
    refine W_seq ?_
    refine W_region ?_
    refine L_q rfl (y_move rfl) ?_  -- t23 := move t0
    refine L_q rfl (y_move rfl) ?_  -- t24 := move t7
    refine L_q rfl (y_move rfl) ?_  -- t25 := move t1
    refine L_q rfl (y_move rfl) ?_  -- t26 := move t2
    refine L_op rfl (o_callS en_77 rfl (cal_insertion w0 _ g n cap xs 0 n h caps cf Dm l hs hen hcmp hD (by omega) (by omega) (by omega) (by omega)) ?_)  -- t27 := CALL f77(t23, t24, t25, t26) :0
    intro w1 hs
    refine L_nil ?_
    refine W_block ?_
    refine W_once ?_
    refine W_seq ?_
    refine W_seq ?_
    refine W_region ?_
    refine L_q rfl (y_move rfl) ?_  -- t28 := move t6
    refine L_q rfl (y_move rfl) ?_  -- t29 := move t1
    refine L_q rfl (y_lss rfl rfl) ?_  -- t30 := binOp lss 3 t28 t29 3
    refine L_nil ?_
    refine W_if rfl (fun hq2 => ?_) (fun hq2 => ?_)
    · skip
      exact absurd (of_decide_eq_true hq2) (by omega)
    · skip
      refine W_exit ?_
      refine x_hit ?_
      -- sep: D
      refine ret_many (rs := []) rfl .nil (by simp) ⟨_, rfl, hs.below, ?_⟩
      skip
      exact ⟨by have e : ((n : Int) - 0 - 1).toNat = n - 1 := by omega
                rw [← e]; exact hs, rfl⟩
theorem cal_sort20 (w0 wS : World) (g n cap : Nat) (xs : List Int) (h : FuncId) (caps : List Value) (cf : Int → Int → Int) (Dm : Int → Prop) (l : List Asr) (hs : Sep w0 wS (row w0.heap.size (Kd.int .i64) 3 (.slice (some ⟨g, 0, none⟩) n cap) xs :: l)) (hen : Enters Tryd.prog h) (hcmp : CmpS Tryd.prog h caps cf Dm w0 l) (hD : ∀ x ∈ xs, Dm x) (hn : n < 20) :
    Cal Tryd.prog 43 #[.slice (some ⟨g, 0, none⟩) n cap, .func (.func h) #[] caps.toArray] wS fun v w1 => Below w0.heap.size w0 w1 ∧ Sep w0 w1 (row w0.heap.size (Kd.int .i64) 3 (.slice (some ⟨g, 0, none⟩) n cap) (insTo cf 0 (n - 1) xs) :: l) ∧ v = .tuple #[] := by
  refine cal_W (n := 9) Tryd.func43 rfl rfl (by simp) ?_
  skip
  refine W_region ?_
  refine L_q rfl (y_move rfl) ?_  -- t4 := move t0
  refine L_q rfl (y_move rfl) ?_  -- t5 := move t0
  refine L_q rfl (y_len u_47 rfl) ?_  -- t6 := len(t5) :3
  refine L_q rfl (y_move rfl) ?_  -- t7 := move t1
  refine L_op rfl (o_callS en_65 rfl (cal_stable20 w0 _ g n cap xs h caps cf Dm l hs hen hcmp hD hn) ?_)  -- t8 := CALL f65(t4, t6, t7) :0
  intro w1 hs
  refine L_nil ?_
  -- sep: D
  refine ret_many (rs := []) rfl .nil (by simp) ⟨_, rfl, hs.below, ?_⟩
  exact ⟨hs, rfl⟩
theorem cal_Clone (w0 : World) (A : Option Addr) (n c : Nat) (xs : List Int) (hC : (Kd.int .i64).C w0 A n xs) (hn : n ≤ 1099511627776) :
    Cal Tryd.prog 61 #[.slice A n c] w0 fun v w1 => Below w0.heap.size w0 w1 ∧ (Kd.int .i64).R 2 w1 w0.heap.size (fun _ => True) v xs := by
  refine cal_W (n := 8) Tryd.func61 rfl rfl (by simp) ?_
  have hs := Sep.refl w0
  refine W_seq ?_
  refine W_region ?_
  refine L_q rfl (y_assign rfl) ?_  -- t2 := assign nil
  refine L_nil ?_
  refine W_seq ?_
  refine W_seq ?_
  refine W_region ?_
  refine L_q rfl (y_move rfl) ?_  -- t3 := move t0
  refine L_q rfl (y_bin rfl rfl rfl (eql_36 ..)) ?_  -- t4 := binOp eql 36 t3 nil 36
  refine L_nil ?_
  refine W_if rfl (fun hq1 => ?_) (fun hq1 => ?_)
  · skip
    refine W_seq ?_
    refine W_region ?_
    refine L_q rfl (y_assign rfl) ?_  -- t2 := assign nil
    refine L_nil ?_
    refine W_ret ?_
    -- sep: 
    refine ret_one rfl (.tmp (v := .slice none 0 0) rfl .nil) ⟨_, rfl, hs.below, ?_⟩
    have hA : A = none := by cases A <;> simp_all
    have h0 : xs = [] := by
      rcases Nat.eq_zero_or_pos n with h0 | h0
      · exact List.eq_nil_of_length_eq_zero (hC.1.trans h0)
      · obtain ⟨ad, h, _⟩ := hC.2.2 h0
        rw [hA] at h; cases h
    subst h0
    exact Kd.R_nil _ _ _ _ _
  · skip
    refine W_skip ?_
    refine W_seq ?_
    refine W_region ?_
    refine L_op rfl (o_bs0 (enc := Value.int .i64) (h1 := fun _ => rfl) (dv := (0 : Int)) u_36 i_2 hs ?_)  -- t5 := buildSlice 36 0 []
    intro g5 w1 hs
    refine L_q rfl (y_move rfl) ?_  -- t6 := move t0
    refine L_op rfl (o_apps (D := (Kd.int .i64)) u_36 i_2 rfl (by decide) (by decide) rfl rfl (Kd.C_below hC hs.below) (fun _ _ h => h) hs (by simp; omega) ?_)  -- t7 := append(t5, t6) :36
    intro v7 w1 hs
    obtain ⟨A7, c7, rfl⟩ := Kd.R_slice hs.outR
    refine L_q rfl (y_assign rfl) ?_  -- t2 := assign t7
    refine L_nil ?_
    refine W_ret ?_
    -- sep: row5
    refine ret_one rfl (.tmp (v := .slice A7 (xs.length) c7) rfl .nil) ⟨_, rfl, hs.below, ?_⟩
    skip
    simpa using hs.outR
theorem cal_cmp (w0 : World) (gB n c T : Nat) (A : Option Addr) (a b : Int) (kept : List Int) (hB : w0.heap[gB]? = some (.cells #[.slice A n c] T (0, 0))) (hC : (Kd.int .i64).C w0 A n kept) (ha : 0 ≤ a) (ha1 : a < n) (hb0 : 0 ≤ b) (hb1 : b < n) :
    Cal Tryd.prog 63 #[.int .i64 a, .int .i64 b, .pointer (some ⟨gB, 0, none⟩)] w0 fun v w1 => Below w0.heap.size w0 w1 ∧ v = .int .i64 (cmpI (rd kept b) (rd kept a)) := by
  have hlen : kept.length = n := hC.1
  obtain ⟨ad, hA1, hrg⟩ := Kd.C_int hC a ha ha1
  obtain ⟨bd, hA2, hrh⟩ := Kd.C_int hC b hb0 hb1
  rw [hA1] at hA2
  injection hA2 with hA2
  subst hA2 hA1
  have hB' : Rg w0 ⟨gB, 0, none⟩ [.slice (some ad) n c] := fun j v hv => by
    cases j with
    | zero => simp at hv; subst hv; rw [add_at]; simp [World.cell?, hB]
    | succ j => simp at hv
  refine cal_W (n := 15) Tryd.func63 rfl rfl (by simp) ?_
  have hs := Sep.refl w0
  refine W_seq ?_
  refine W_region ?_
  refine L_q rfl (y_assign rfl) ?_  -- t5 := assign 0
  refine L_nil ?_
  refine W_seq ?_
  refine W_drawS rfl [] hs ?_
  intro w1 hs
  refine H_q (i := 0) rfl (by kernel_rfl) rfl (fun _ hw => (y_fld r_36 rfl (hB'.below hw.below))) (hs.keep []) ?_  -- t6 := load 36 t2
  refine H_q (i := 1) rfl (by kernel_rfl) rfl (fun _ hw => (y_move rfl)) (hs.keep []) ?_  -- t7 := move t1
  refine H_q (i := 2) rfl (by kernel_rfl) rfl (fun _ hw => (y_ia u_36 sz_2 rfl rfl (by omega) (by omega))) (hs.keep []) ?_  -- t8 := indexAddr 36 t6 t7
  refine H_q (i := 3) rfl (by kernel_rfl) rfl (fun _ hw => (y_fld r_2 rfl (hrh.below hw.below))) (hs.keep []) ?_  -- t9 := load 2 t8
  refine H_q (i := 4) rfl (by kernel_rfl) rfl (fun _ hw => (y_fld r_36 rfl (hB'.below hw.below))) (hs.keep []) ?_  -- t10 := load 36 t2
  refine H_q (i := 5) rfl (by kernel_rfl) rfl (fun _ hw => (y_move rfl)) (hs.keep []) ?_  -- t11 := move t0
  refine H_q (i := 6) rfl (by kernel_rfl) rfl (fun _ hw => (y_ia u_36 sz_2 rfl rfl (by omega) (by omega))) (hs.keep []) ?_  -- t12 := indexAddr 36 t10 t11
  refine H_q (i := 7) rfl (by kernel_rfl) rfl (fun _ hw => (y_fld r_2 rfl (hrg.below hw.below))) (hs.keep []) ?_  -- t13 := load 2 t12
  refine H_loud (i := 8) rfl (by kernel_rfl) (by simp [Region.wanted]) (o_call en_64 rfl hs (cal_Compare _ (rd kept b) (rd kept a)) ?_)  -- t14 := CALL f64(t9, t13) :3
  intro v14 w1 hb hs hv14
  refine ⟨hs.keep [], ?_⟩
  refine H_q (i := 9) rfl (by kernel_rfl) rfl (fun _ hw => (y_assign hv14)) (hs.keep []) ?_  -- t5 := assign t14
  refine H_done (by kernel_rfl) ?_
  refine W_ret ?_
  -- sep: 
  refine ret_one rfl (.tmp (v := .int .i64 (cmpI (rd kept b) (rd kept a))) rfl .nil) ⟨_, rfl, hs.below, ?_⟩
  rfl
theorem cal_Ranked (w0 wS : World) (A : Option Addr) (n c : Nat) (xs : List Int) (l : List Asr) (hs : Sep w0 wS l) (hC : (Kd.int .i64).C wS A n xs) (hn : n ≤ 1099511627776) :
    Cal Tryd.prog 42 #[.slice A n c] wS fun v w1 => Below w0.heap.size w0 w1 ∧ ∃ gB A' c', v = .func (.func 62) #[] #[.pointer (some ⟨gB, 0, none⟩)] ∧ Sep w0 w1 (bagA [blk gB 36 [.slice A' n c'], row w0.heap.size (Kd.int .i64) 2 (.slice A' n c') xs] :: l) := by
  refine cal_W (n := 7) Tryd.func42 rfl rfl (by simp) ?_
  skip
  refine W_seq ?_
  refine W_region ?_
  refine L_q rfl (y_assign rfl) ?_  -- t2 := assign Value.nilFunc
  refine L_nil ?_
  refine W_seq ?_
  refine W_region ?_
  refine L_q rfl (y_move rfl) ?_  -- t4 := move t0
  refine L_op rfl (o_callR en_61 rfl hs (cal_Clone _ A n c xs hC hn) ?_)  -- t5 := CALL f61(t4) :36
  intro v5 w1 hb hs
  obtain ⟨A5, c5, rfl⟩ := Kd.R_slice hs.outR
  refine L_op rfl (o_alloc al_36 hs ?_)  -- t3 := alloc 36
  intro g3 w1 hs
  refine L_op rfl (o_store (seg := [_]) (cs' := [_]) sz_36 rfl rfl rfl rfl (hs.front 0) (Nat.le_of_ble_eq_true rfl) rfl ?_)  -- store 36 t3 t5
  intro w1 hs
  refine L_nil ?_
  refine W_seq ?_
  refine W_region ?_
  refine L_q rfl (y_mkf rfl rfl) ?_  -- t6 := makeFunc Fn.func [] [t3]
  refine L_q rfl (y_assign rfl) ?_  -- t2 := assign t6
  refine L_nil ?_
  refine W_ret ?_
  -- sep: g3 row5
  refine ret_one rfl (.tmp (v := _) rfl .nil) ⟨_, rfl, hs.below, ?_⟩
  exact ⟨g3, A5, _, rfl, by
    have e : xs.length = n := hC.1
    rw [← e]
    exact hs.bag 2⟩
/-- 0, 1, .. -/
def upTo (n : Nat) : List Int := (List.range n).map Int.ofNat
theorem upTo_len (n : Nat) : (upTo n).length = n := by simp [upTo]
theorem upTo_all (n : Nat) : ∀ x ∈ upTo n, 0 ≤ x ∧ x < n := by
  intro x hx
  simp only [upTo, List.mem_map, List.mem_range] at hx
  obtain ⟨k, hk, rfl⟩ := hx
  simp; omega
theorem upTo_of {n : Nat} {ys : List Int} (hl : ys.length = n) (h : ∀ j : Nat, (j : Int) < n → ys[j]? = some (j : Int)) : ys = upTo n := by
  apply List.ext_getElem?
  intro j
  rcases Nat.lt_or_ge j n with hj | hj
  · rw [h j (by omega)]
    simp [upTo, hj]
  · rw [List.getElem?_eq_none (by omega), List.getElem?_eq_none (by rw [upTo_len]; omega)]
/-- Where the values lie, from the largest on. -/
def rankI (kept : List Int) : List Int := insTo (fun a b => cmpI (rd kept b) (rd kept a)) 0 (kept.length - 1) (upTo kept.length)
def rankL (kept : List Int) : List (Int × Int) := (rankI kept).map fun i => (i, rd kept i)
theorem sink_len (cf : Int → Int → Int) (a : Int) : ∀ (m : Nat) (j : Int) (ys : List Int), (sink cf a m j ys).length = ys.length
  | 0, _, _ => rfl
  | m + 1, j, ys => by
    rw [sink]
    split
    · rw [sink_len cf a m, swp_len]
    · rfl
theorem insTo_len (cf : Int → Int → Int) (a : Int) : ∀ (m : Nat) (xs : List Int), (insTo cf a m xs).length = xs.length
  | 0, _ => rfl
  | m + 1, xs => by rw [insTo, sink_len, insTo_len cf a m]
theorem mem_swp {ys : List Int} {j x : Int} (h0 : 1 ≤ j) (h1 : j < ys.length) (h : x ∈ swpI ys j) : x ∈ ys := swp_all (D := fun x => x ∈ ys) (fun _ h => h) h0 h1 x h
theorem mem_sink {cf : Int → Int → Int} {a x : Int} (ha : 0 ≤ a) : ∀ (m : Nat) (j : Int) (ys : List Int), j < ys.length → x ∈ sink cf a m j ys → x ∈ ys
  | 0, _, _, _, h => h
  | m + 1, j, ys, hj, h => by
    rw [sink] at h
    split at h
    · rename_i hc
      exact mem_swp (by omega) hj (mem_sink ha m (j - 1) _ (by rw [swp_len]; omega) h)
    · exact h
theorem mem_insTo {cf : Int → Int → Int} {a x : Int} (ha : 0 ≤ a) : ∀ (m : Nat) (xs : List Int), a + m < xs.length ∨ m = 0 → x ∈ insTo cf a m xs → x ∈ xs
  | 0, _, _, h => h
  | m + 1, xs, hm, h => by
    rw [insTo] at h
    exact mem_insTo ha m xs (.inl (by omega)) (mem_sink ha _ _ _ (by rw [insTo_len]; omega) h)
theorem rankI_len (kept : List Int) : (rankI kept).length = kept.length := by rw [rankI, insTo_len, upTo_len]
theorem rankI_all (kept : List Int) : ∀ x ∈ rankI kept, 0 ≤ x ∧ x < kept.length := by
  intro x hx
  refine upTo_all _ x (mem_insTo (by omega) _ _ ?_ hx)
  rw [upTo_len]
  omega
theorem rankL_len (kept : List Int) : (rankL kept).length = kept.length := by rw [rankL, List.length_map, rankI_len]
theorem rankL_at (kept : List Int) {i : Int} (h0 : 0 ≤ i) (h1 : i < kept.length) : (rankL kept)[i.toNat]? = some (rd (rankI kept) i, rd kept (rd (rankI kept) i)) := by
  have hl := rankI_len kept
  rw [rankL, List.getElem?_map, List.getElem?_eq_getElem (by omega), ← rd_get h0 (by omega)]
  rfl
theorem cmp_ranked (w0 : World) (gB c : Nat) (A : Option Addr) (kept : List Int) (l : List Asr) : CmpS Tryd.prog 63 [.pointer (some ⟨gB, 0, none⟩)] (fun a b => cmpI (rd kept b) (rd kept a)) (fun x => 0 ≤ x ∧ x < kept.length) w0 (blk gB 36 [.slice A kept.length c] :: row w0.heap.size (Kd.int .i64) 2 (.slice A kept.length c) kept :: l) := by
  intro a b w m ha hb hs
  obtain ⟨S, _, hR⟩ := hs.sep.get 2 rfl
  obtain ⟨hm, hc, hC⟩ := Kd.R_reads' hR
  exact cal_cmp w gB _ c _ A a b kept (hs.outB 1 rfl).2 hC ha.1 ha.2 hb.1 hb.2
theorem iter_ranked (w0 : World) (gB c : Nat) (A : Option Addr) (kept : List Int) (hn : kept.length < 20) : IterS Tryd.prog 62 #[.pointer (some ⟨gB, 0, none⟩)] (fun p : Int × Int => #[.int .i64 p.1, .int .i64 p.2]) (rankL kept) (bagA [blk gB 36 [.slice A kept.length c], row w0.heap.size (Kd.int .i64) 2 (.slice A kept.length c) kept]) w0 := by
  intro r J Jf W l hbody hJ hs
  have hs := hs.unbag
  show Calls Tryd.prog 62 #[.func (.yield r) #[] #[], .pointer (some ⟨gB, 0, none⟩)] W _
  refine calls_W (n := 38) Tryd.func62 rfl rfl (by simp) ?_
  replace hs : Sep w0 W (blk gB 36 [.slice A kept.length c] :: row w0.heap.size (Kd.int .i64) 2 (.slice A kept.length c) kept :: l) := hs
  refine W_seq ?_
  refine W_region ?_
  refine L_q rfl (y_fld r_36 rfl (rg_of_range (hs.rg 0 rfl 0 1 rfl))) ?_  -- t7 := load 36 t1
  refine L_q rfl (y_len u_36 rfl) ?_  -- t8 := len(t7) :3
  refine L_op rfl (o_make (enc := Value.int .i64) (dv := 0) (h1 := fun _ => rfl) u_47 i_3 rfl rfl rfl (by omega) (by omega) (by omega) hs ?_)  -- t9 := makeSlice 47 t8 t8
  intro g9 w1 hs
  refine L_q rfl (y_assign rfl) ?_  -- t3 := assign t9
  refine L_nil ?_
  refine W_seq ?_
  refine W_seq ?_
  refine W_region ?_
  refine L_q rfl (y_move rfl) ?_  -- t10 := move t3
  refine L_q rfl (y_len u_47 rfl) ?_  -- t11 := len(t10) :3
  refine L_q rfl (y_move rfl) ?_  -- t12 := move 0
  refine L_nil ?_
  refine W_block ?_
  obtain ⟨L1, hs, hL1⟩ := hs.named1
  refine W_loopF (fun f0 m f w1 => ∃ (i : Int) (ys : List Int), 0 ≤ i ∧ i ≤ kept.length ∧ m = (kept.length - i).toNat ∧ (ys.length = kept.length ∧ ∀ j : Nat, (j : Int) < i → ys[j]? = some (j : Int)) ∧ sl f 0 = sl f0 0 ∧ sl f 1 = sl f0 1 ∧ sl f 3 = sl f0 3 ∧ sl f 11 = sl f0 11 ∧ sl f 12 = .int .i64 i ∧ Sep w0 w1 (row w0.heap.size (Kd.int .i64) 3 (.slice (some ⟨g9, 0, none⟩) kept.length kept.length) ys :: L1)) ((kept.length : Int) - 0).toNat ?_ ?_
  · exact ⟨0, List.replicate kept.length 0, by omega, by omega, rfl, ⟨by simp, fun j hj => by omega⟩, rfl, rfl, rfl, rfl, rfl, hs⟩
  clear hs
  rintro m f w1 ⟨i, ys, hi0, hi1, rfl, hP1, h1_0, h1_1, h1_3, h1_11, h1_12, hs⟩
  subst hL1
  have hly := hP1.1
  refine W_seq ?_
  refine W_region ?_
  refine L_q rfl (y_lss h1_12 h1_11) ?_  -- t13 := binOp lss 3 t12 t11 3
  refine L_nil ?_
  refine W_seq ?_
  refine W_if rfl (fun hq1 => ?_) (fun hq1 => ?_)
  · skip
    have hlt : i < kept.length := of_decide_eq_true hq1
    refine W_skip ?_
    refine W_seq ?_
    refine W_block ?_
    refine W_seq ?_
    refine W_region ?_
    refine L_q rfl (y_move h1_12) ?_  -- t14 := move t12
    refine L_q rfl (y_assign rfl) ?_  -- t4 := assign t14
    refine L_nil ?_
    refine W_region ?_
    refine L_q rfl (y_move h1_3) ?_  -- t15 := move t3
    refine L_q rfl (y_move rfl) ?_  -- t16 := move t4
    refine L_q rfl (y_move rfl) ?_  -- t17 := move t4
    refine L_q rfl (y_ia u_47 sz_3 rfl rfl (by omega) (by omega)) ?_  -- t18 := indexAddr 47 t15 t16
    refine L_op rfl (o_rputI sz_3 rfl rfl (hs.front 0) (by omega) (by omega) ?_)  -- store 3 t18 t17
    intro w1 hs
    refine L_nil ?_
    refine W_region ?_
    refine L_q rfl (y_addi h1_12 rfl (by omega) (by omega)) ?_  -- t19 := binOp add 3 t12 1 3
    refine L_q rfl (y_move rfl) ?_  -- t12 := move t19
    refine L_nil ?_
    -- sep: row9 g1 kept
    exact ⟨_, by omega, i + 1, ys.set i.toNat i, by omega, by omega, rfl, ⟨by simp [hP1.1], fun j hj => by
          by_cases he : i.toNat = j
          · subst he
            rw [List.getElem?_set_self (by have := of_decide_eq_true hq1; omega)]
            congr 1
            omega
          · rw [List.getElem?_set_ne he]
            exact hP1.2 j (by omega)⟩, h1_0, h1_1, h1_3, h1_11, rfl, hs⟩
  · skip
    have hge := of_decide_eq_false hq1
    obtain rfl : ys = upTo kept.length := upTo_of hP1.1 (fun j hj => hP1.2 j (by omega))
    refine W_exit ?_
    refine x_hit ?_
    refine W_seq ?_
    refine W_region ?_
    refine L_q rfl (y_move h1_3) ?_  -- t20 := move t3
    refine L_q rfl (y_mkf rfl (args1 h1_1)) ?_  -- t21 := makeFunc Fn.func [] [t1]
    refine L_op rfl (o_callS en_43 rfl (cal_sort20 w0 _ g9 _ _ (upTo kept.length) 63 [.pointer (some ⟨gB, 0, none⟩)] _ _ _ hs en_63 (cmp_ranked w0 gB c A kept l) (upTo_all _) hn) ?_)  -- t22 := CALL f43(t20, t21) :0
    intro w1 hs
    refine L_nil ?_
    refine W_seq ?_
    refine W_region ?_
    refine L_q rfl (y_move h1_3) ?_  -- t23 := move t3
    refine L_q rfl (y_len u_47 rfl) ?_  -- t24 := len(t23) :3
    refine L_q rfl (y_move rfl) ?_  -- t25 := move 0
    refine L_nil ?_
    refine W_block ?_
    replace hs : Sep w0 w1 (row w0.heap.size (Kd.int .i64) 3 (.slice (some ⟨g9, 0, none⟩) kept.length kept.length) (rankI kept) :: blk gB 36 [.slice A kept.length c] :: row w0.heap.size (Kd.int .i64) 2 (.slice A kept.length c) kept :: l) := hs
    refine W_loopF (fun f0 m f w1 => ∃ (i : Int) (l2 : List Asr), 0 ≤ i ∧ i ≤ kept.length ∧ m = (kept.length - i).toNat ∧ J i.toNat l2 ∧ sl f 0 = sl f0 0 ∧ sl f 1 = sl f0 1 ∧ sl f 3 = sl f0 3 ∧ sl f 11 = sl f0 11 ∧ sl f 12 = sl f0 12 ∧ sl f 23 = sl f0 23 ∧ sl f 24 = sl f0 24 ∧ sl f 25 = .int .i64 i ∧ Sep w0 w1 (row w0.heap.size (Kd.int .i64) 3 (.slice (some ⟨g9, 0, none⟩) kept.length kept.length) (rankI kept) :: blk gB 36 [.slice A kept.length c] :: row w0.heap.size (Kd.int .i64) 2 (.slice A kept.length c) kept :: l2)) ((kept.length : Int) - 0).toNat ?_ ?_
    · exact ⟨0, l, by omega, by omega, rfl, hJ, rfl, rfl, rfl, rfl, rfl, rfl, rfl, rfl, hs⟩
    clear hs
    rintro m f w1 ⟨i, l2, hi0, hi1, rfl, hP2, h2_0, h2_1, h2_3, h2_11, h2_12, h2_23, h2_24, h2_25, hs⟩
    skip
    skip
    refine W_seq ?_
    refine W_region ?_
    refine L_q rfl (y_lss h2_25 h2_24) ?_  -- t26 := binOp lss 3 t25 t24 3
    refine L_nil ?_
    refine W_seq ?_
    refine W_if rfl (fun hq2 => ?_) (fun hq2 => ?_)
    · skip
      have hlt2 : i < kept.length := of_decide_eq_true hq2
      have hri := rankI_all kept _ (rd_mem hi0 (by rw [rankI_len]; exact hlt2))
      obtain ⟨S2, _, hR2⟩ := hs.sep.get 2 rfl
      obtain ⟨_, _, hC2⟩ := Kd.R_reads' hR2
      obtain ⟨ad, rfl, hrg⟩ := Kd.C_int hC2 _ hri.1 hri.2
      refine W_skip ?_
      refine W_seq ?_
      refine W_block ?_
      refine W_seq ?_
      refine W_region ?_
      refine L_q rfl (y_ia u_47 sz_3 h2_23 h2_25 (by omega) (by omega)) ?_  -- t27 := indexAddr 47 t23 t25
      refine L_q rfl (y_fld r_3 rfl (hs.rowRg 0 rfl (by omega) (by omega) _ rfl)) ?_  -- t28 := load 3 t27
      refine L_q rfl (y_assign rfl) ?_  -- t6 := assign t28
      refine L_nil ?_
      refine W_seq ?_
      refine W_region ?_
      refine L_q rfl (y_move (h2_0.trans h1_0)) ?_  -- t29 := move t0
      refine L_q rfl (y_move rfl) ?_  -- t30 := move t6
      refine L_q rfl (y_fld r_36 (h2_1.trans h1_1) (rg_of_range (hs.rg 1 rfl 0 1 rfl))) ?_  -- t31 := load 36 t1
      refine L_q rfl (y_move rfl) ?_  -- t32 := move t6
      refine L_q rfl (y_ia u_36 sz_2 rfl rfl (by omega) (by omega)) ?_  -- t33 := indexAddr 36 t31 t32
      refine L_q rfl (y_fld r_2 rfl hrg) ?_  -- t34 := load 2 t33
      have hs := hs.bag 3
      refine L_yield rfl rfl (hbody i.toNat (rd (rankI kept) i, rd kept (rd (rankI kept) i)) _ l2 _ (rankL_at kept hi0 hlt2) hP2 hs) ?_  -- t35 := CALL t29(t30, t34) :4
      rintro _ w1 ⟨b35, l35, rfl, hs, hyes35, hno35⟩
      refine ⟨_, rfl, ?_⟩
      replace hs : Sep w0 w1 (row w0.heap.size (Kd.int .i64) 3 (.slice (some ⟨g9, 0, none⟩) kept.length kept.length) (rankI kept) :: blk gB 36 [.slice (some ad) kept.length c] :: row w0.heap.size (Kd.int .i64) 2 (.slice (some ad) kept.length c) kept :: l35) := hs.unbag
      refine L_q rfl (y_not rfl) ?_  -- t36 := unOp not 4 t35
      refine L_nil ?_
      refine W_if rfl (fun hq3 => ?_) (fun hq3 => ?_)
      · skip
        refine W_ret ?_
        -- sep: row9 g1 kept
        refine ret_many (rs := []) rfl .nil (by simp) ⟨⟨_, rfl⟩, ?_⟩
        exact ⟨l35, hs.tail.bag 2, .inr (hno35 (by simpa using hq3))⟩
      · skip
        refine W_skip ?_
        refine W_region ?_
        refine L_q rfl (y_addi h2_25 rfl (by omega) (by omega)) ?_  -- t37 := binOp add 3 t25 1 3
        refine L_q rfl (y_move rfl) ?_  -- t25 := move t37
        refine L_nil ?_
        -- sep: row9 g1 kept
        exact ⟨_, by omega, i + 1, l35, by omega, by omega, rfl, (by rw [show (i + 1).toNat = i.toNat + 1 by omega]; exact hyes35 (by simpa using hq3)), h2_0, h2_1, h2_3, h2_11, h2_12, h2_23, h2_24, rfl, hs⟩
    · skip
      refine W_exit ?_
      refine x_hit ?_
      -- sep: row9 g1 kept
      refine ret_many (rs := []) rfl .nil (by simp) ⟨⟨_, rfl⟩, ?_⟩
      have hge2 := of_decide_eq_false hq2
      exact ⟨l2, hs.tail.bag 2, .inl (by rw [rankL_len, show kept.length = i.toNat by omega]; exact hP2)⟩
end Go.Proofs.YtlmddncoeikfjaaDoor
