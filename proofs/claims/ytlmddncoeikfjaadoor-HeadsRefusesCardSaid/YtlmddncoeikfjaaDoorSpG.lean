/- A range over a function, in the calculus: the iterator's contract, the statement, a round's call. Over any program. -/
import Derived.Test.YtlmddncoeikfjaaDoorSpF
import Derived.RangeFuncSeq
namespace Go.Proofs.YtlmddncoeikfjaaDoor
open Go.RowKit Go.Proofs.YtlmddncoeikfjaaDoorW.PrintWords

/-! ### 1. Objects that are no cells; bags -/
def objA (k : Nat) (o : Obj) : Asr where
  holds := fun w S => S k ∧ w.heap[k]? = some o
  move := fun hm h => ⟨h.1, (hm k h.1).trans h.2⟩
section
variable {w0 w : World} {l : List Asr}
theorem Sep.allocO (h : Sep w0 w l) (o : Obj) : Sep w0 (w.alloc o) (objA w.heap.size o :: l) :=
  h.add (S := fun k => k = w.heap.size) ((Below.refl _ w).alloc (Nat.le_refl _) _) ⟨rfl, by simpa using heap_alloc_new w _⟩ (by rintro k rfl; simp)
theorem Sep.putO {k : Nat} {o : Obj} (h : Sep w0 w (objA k o :: l)) (o' : Obj) : Sep w0 (w.putObj k o') (objA k o' :: l) := by
  refine h.upd ?_
  rintro S hS ⟨hk, hb⟩
  have hlt : k < w.heap.size := (Array.getElem?_eq_some_iff.1 hb).1
  refine ⟨⟨rfl, rfl, rfl, by simp, fun j _ hj => World.putObj_heap_other (fun he => hj (he ▸ hk))⟩, S, ⟨hk, World.putObj_heap_same hlt⟩, fun j hj => .inl hj⟩
theorem Sep.outO {k : Nat} {o : Obj} (h : Sep w0 w l) (i : Nat) (ha : l[i]? = some (objA k o)) : w0.heap.size ≤ k ∧ w.heap[k]? = some o := by
  obtain ⟨S, h1, h2, h3⟩ := h.sep.get i ha
  exact ⟨(h1 k h2).1, h3⟩
theorem SepIn.append {w : World} : ∀ {m l : List Asr} {U S : Nat → Prop}, (∀ k, S k → U k) → SepIn w S m → SepIn w (fun k => U k ∧ ¬ S k) l → SepIn w U (m ++ l)
  | [], l, U, S, _, _, h => h.mono fun _ hk => hk.1
  | a :: m, l, U, S, h0, ⟨T, h1, h2, h3⟩, h => ⟨T, fun k hk => h0 k (h1 k hk), h2, SepIn.append (S := fun k => S k ∧ ¬ T k) (fun k hk => ⟨h0 k hk.1, hk.2⟩) h3 (h.mono fun k hk => ⟨⟨hk.1, fun ht => hk.2 (h1 k ht)⟩, fun hs => hk.2 hs.1⟩)⟩
theorem Sep.unbag {m : List Asr} (h : Sep w0 w (bagA m :: l)) : Sep w0 w (m ++ l) := by
  obtain ⟨hb, S, h1, h2, h3⟩ := h
  exact ⟨hb, SepIn.append h1 h2 h3⟩
end

/-! ### 2. The iterator's contract -/
/-- Called with a yield, it hands over xs, one by one, as long as the caller says yes; it keeps what it reads (K); what the caller owns (l) is the caller's. -/
def IterS {α : Type} (P : Program) (gf : Nat) (lb : Array Value) (encs : α → Array Value) (xs : List α) (K : Asr) (w0 : World) : Prop :=
  ∀ (r : Nat) (J : Nat → List Asr → Prop) (Jf : List Asr → Prop) (W : World) (l : List Asr),
    (∀ (k : Nat) (x : α) (h : Asr) (l : List Asr) (W : World), xs[k]? = some x → J k l → Sep w0 W (h :: l) → YieldAt (FR none) 0 P r (encs x) W fun e W' => ∃ b l', e = .returned (.bool b) ∧ Sep w0 W' (h :: l') ∧ (b = true → J (k + 1) l') ∧ (b = false → Jf l')) →
    J 0 l → Sep w0 W (K :: l) →
    Calls P gf (#[.func (.yield r) #[] #[]] ++ lb) W fun e W' => (∃ v, e = .returned v) ∧ ∃ l', Sep w0 W' (K :: l') ∧ (J xs.length l' ∨ Jf l')

/-! ### 3. The statement -/
section
variable {n : Nat} {P : Program} {ds : List Deferred} {N : Fr n → World → Prop} {X : Nat → Fr n → World → Prop} {R : List Deferred → Fr n → World → Prop} {f : Fr n} {w0 w : World}
/-- The frame in which a round begins: the loop's own, yield's arguments in the parameters. -/
def inPs (f : Fr n) : List (Tmp × Value) → Fr n
  | [] => f
  | (p, v) :: q => inPs (up f p v) q
theorem inPs_tmps (f : Fr n) (ps : Array Tmp) (vs : Array Value) : (ps.zip vs).foldl (fun t (p, v) => t.setIfInBounds p v) (mk f).tmps = (mk (inPs f (ps.zip vs).toList)).tmps := by
  rw [← Array.foldl_toList]
  generalize (ps.zip vs).toList = q
  induction q generalizing f with
  | nil => rfl
  | cons a q ih =>
    obtain ⟨p, v⟩ := a
    simp only [List.foldl_cons, inPs]
    rw [show (mk f).tmps.setIfInBounds p v = (mk (up f p v)).tmps from congrArg Act.tmps (mkd_put [] f (some p) v)]
    exact ih _
/-- What stands before the code that follows a range: that code begins with the range's mark. -/
structure WB (ds : List Deferred) (P : Program) (y z : Code) (N : Fr n → World → Prop) (X : Nat → Fr n → World → Prop) (R : List Deferred → Fr n → World → Prop) (f : Fr n) (w : World) : Prop where
  out : y.wpIn (FR none) 0 P (Exit.then (z.wpIn (FR none) 0 P (post ds N X R)) (post ds N X R)) (mkd ds f) w
theorem W_of_WB {y z : Code} (h : WB ds P y z N X R f w) : Go.Proofs.YtlmddncoeikfjaaDoor.W none ds P (.seq y z) N X R f w := ⟨wpIn_seq h.out⟩
theorem W_seq2 {x y z : Code} (h : Go.Proofs.YtlmddncoeikfjaaDoor.W none ds P x (fun f w => WB ds P y z N X R f w) X R f w) : Go.Proofs.YtlmddncoeikfjaaDoor.W none ds P (.seq (.seq x y) z) N X R f w := by
  refine ⟨wpIn_seq (wpIn_seq (wpIn_mono h.out ?_))⟩
  rintro e a w' hq
  cases e <;> try exact hq
  obtain ⟨f', rfl, h'⟩ := hq
  exact h'.out
theorem WB_name {y z : Code} (h : ∀ F, F = f → WB ds P y z N X R F w) : WB ds P y z N X R f w := h f rfl
theorem WB_range {α : Type} {id : Nat} {g : Operand} {ps : Array Tmp} {assign body rest : Code} {gf : Nat} {lb : Array Value} (hg : ev f g = .func (.func gf) #[] lb) (hen : Enters P gf) {encs : α → Array Value} {xs : List α} {K : Asr} (hit : IterS P gf lb encs xs K w0) (hps : ∀ x, (encs x).size = ps.size)
    (J : Nat → List Asr → Prop) (Jx Jr : List Asr → Prop) {l : List Asr} (h0 : J 0 l) (hs : Sep w0 w (K :: l)) (fa : α → Fr n)
    (hassign : ∀ (r : Nat) (x : α) (W : World), Go.Proofs.YtlmddncoeikfjaaDoor.W (some r) [] P assign (fun f' W' => f' = fa x ∧ W' = W) (fun _ _ _ => False) (fun _ _ _ => False) (inPs f (ps.zip (encs x)).toList) W)
    (hbody : ∀ (r k : Nat) (x : α) (h : Asr) (l : List Asr) (W : World), xs[k]? = some x → J k l → Sep w0 W (h :: l) → Go.Proofs.YtlmddncoeikfjaaDoor.W (some r) [] P body (fun _ W' => ∃ l', J (k + 1) l' ∧ Sep w0 W' (h :: l')) (fun j _ W' => j = id ∧ ∃ l', Jx l' ∧ Sep w0 W' (h :: l')) (fun _ _ W' => ∃ l', Jr l' ∧ Sep w0 W' (h :: l')) (fa x) W)
    (hdone : ∀ (D : Nat) (l : List Asr) (W : World), (J xs.length l ∨ Jx l) → Sep w0 W (objA D (.deferred (some [])) :: K :: l) → Go.Proofs.YtlmddncoeikfjaaDoor.W none (mark D :: ds) P rest (fun _ _ => False) (fun _ _ _ => False) R f W)
    (hret : ∀ (D : Nat) (l : List Asr) (W : World), Jr l → Sep w0 W (objA D (.deferred (some [])) :: K :: l) → R (mark D :: ds) f W) : WB ds P (.block id (.rangeFunc g ps assign body)) rest N X R f w := by
  refine ⟨wpIn_block (wpIn_rangeFunc ?_)⟩
  intro fn hfn
  obtain ⟨rec, hrec⟩ : ∃ rec : LoopState → Option Code → Loop, rec = fun st pe => { state := st, pending := pe, fn, tmps := (mkd ds f).tmps, params := ps, assign, body, defers := w.heap.size } := ⟨_, rfl⟩
  obtain ⟨r, hr⟩ : ∃ r, r = w.heap.size + 1 := ⟨_, rfl⟩
  obtain ⟨D, hD⟩ : ∃ D, D = w.heap.size := ⟨_, rfl⟩
  have hs1 : Sep w0 ((w.alloc (.deferred (some []))).alloc (.loop (rec .ready none))) (objA r (.loop (rec .ready none)) :: objA D (.deferred (some [])) :: K :: l) := by
    have := (hs.allocO (.deferred (some []))).allocO (.loop (rec .ready none))
    rw [World.size_alloc, ← hr, ← hD] at this
    exact this
  obtain ⟨W1, hW1⟩ : ∃ W1, (w.alloc (.deferred (some []))).alloc (.loop (rec .ready none)) = W1 := ⟨_, rfl⟩
  rw [hW1] at hs1
  refine ⟨r, [{ target := .collected D, args := #[] }], W1, { target := .fn (.func gf) lb, args := #[.func (.yield r) #[] #[]] }, W1, gf, #[.func (.yield r) #[] #[]] ++ lb, W1, ?_, ?_, ?_, ?_, fun h => (by cases h), ?_⟩
  · rw [← hW1, hrec, hr, hD]; exact run_enterLoop_outer _ _ _ _ _
  · rw [mkd_eval]
    simp only [resolve, hg]
    simp [go_sem]
    rfl
  · intro f' hf'; trivial
  · simp [invoke, go_sem, hen _ _]
  refine callsIn_FR.2 (Calls.mono (hit r (fun k l'' => ∃ l, l'' = objA r (.loop (rec .ready none)) :: objA D (.deferred (some [])) :: l ∧ J k l) (fun l'' => ∃ l c, l'' = objA r (.loop (rec .done (some c))) :: objA D (.deferred (some [])) :: l ∧ ((c = .exit id ∧ Jx l) ∨ (c = .ret ∧ Jr l))) W1 _ ?_ ⟨l, rfl, h0⟩ (hs1.front 2)) ?_)
  · rintro k x h l'' W hx ⟨l, rfl, hJ⟩ hs
    have hl := (hs.outO 1 rfl).2
    have hy := run_yield (P := P) (args := encs x) hl (by rw [hrec]; exact hps x)
    rw [hrec] at hy
    refine ⟨fn, _, assign, body, hy, roundIn_of_wpIn trivial ?_⟩
    have ha := (hassign r x W).out
    rw [show ({ tmps := (ps.zip (encs x)).foldl (fun t (p, v) => t.setIfInBounds p v) (mkd ds f).tmps, defers := [] } : Act) = mkd [] (inPs f (ps.zip (encs x)).toList) from by
      show ({ tmps := (ps.zip (encs x)).foldl (fun t (p, v) => t.setIfInBounds p v) (mk f).tmps, defers := [] } : Act) = _
      rw [inPs_tmps]; rfl]
    refine wpIn_mono ha ?_
    rintro e a W' hq
    cases e with
    | normal =>
      obtain ⟨f', rfl, rfl, rfl⟩ := hq
      refine ⟨_, run_beginRound hl (by rw [hrec]), ?_⟩
      have hs2 := ((hs.front 1).putO (.loop { rec .ready none with state := .busy })).front 1
      have hs3 : Sep w0 _ (bagA [h, objA r (.loop { rec .ready none with state := .busy }), objA D (.deferred (some []))] :: l) := hs2.bag 3
      refine wpIn_mono (hbody r k x _ l _ hx hJ hs3).out ?_
      have fin : ∀ (jump : Option Code) (W3 : World) (l' : List Asr), Sep w0 W3 (bagA [h, objA r (.loop { rec .ready none with state := .busy }), objA D (.deferred (some []))] :: l') →
          ∃ W4, (Instr.endRound r jump).run P W3 = .ok (.bool jump.isNone) W4 ∧ Sep w0 W4 (h :: objA r (.loop (rec (if jump.isNone then .ready else .done) jump)) :: objA D (.deferred (some [])) :: l') := by
        intro jump W3 l' h3
        have h4 : Sep w0 W3 (h :: objA r (.loop { rec .ready none with state := .busy }) :: objA D (.deferred (some [])) :: l') := h3.unbag
        have hl3 := (h4.outO 1 rfl).2
        refine ⟨_, run_endRound (P := P) jump hl3, ?_⟩
        have h5 := ((h4.front 1).putO (.loop (rec (if jump.isNone then .ready else .done) jump))).front 1
        rw [hrec] at h5 ⊢
        exact h5
      rintro e a3 W3 hp
      cases e with
      | normal =>
        obtain ⟨f3, rfl, l', hJ', h3⟩ := hp
        obtain ⟨W4, he, h4⟩ := fin none W3 l' h3
        exact ⟨_, _, he, true, _, rfl, h4, And.intro (fun _ => ⟨l', rfl, hJ'⟩) (fun hb => by cases hb)⟩
      | ret =>
        obtain ⟨_, f3, rfl, l', hJ', h3⟩ := hp
        obtain ⟨W4, he, h4⟩ := fin (some .ret) W3 l' h3
        exact ⟨_, _, he, false, _, rfl, h4, And.intro (fun hb => by cases hb) (fun _ => ⟨l', _, rfl, .inr ⟨rfl, hJ'⟩⟩)⟩
      | exit j =>
        obtain ⟨f3, rfl, rfl, l', hJ', h3⟩ := hp
        obtain ⟨W4, he, h4⟩ := fin (some (.exit j)) W3 l' h3
        exact ⟨_, _, he, false, _, rfl, h4, And.intro (fun hb => by cases hb) (fun _ => ⟨l', _, rfl, .inl ⟨rfl, hJ'⟩⟩)⟩
      | goto t => exact hp.elim
      | panic ch => exact hp.elim
      | outgrown => exact hp.elim
    | ret => obtain ⟨_, _, _, hx⟩ := hq; exact hx.elim
    | exit j => obtain ⟨_, _, hx⟩ := hq; exact hx.elim
    | goto t => exact hq.elim
    | panic ch => exact hq.elim
    | outgrown => exact hq.elim
  · rintro e W2 ⟨⟨v, rfl⟩, l'', hs2, hfin⟩
    have main : ∀ (pe : Option Code) (st : LoopState) (l : List Asr), st ≠ .busy → Sep w0 W2 (K :: objA r (.loop (rec st pe)) :: objA D (.deferred (some [])) :: l) → ∃ W4, (Instr.endLoop r).run P W2 = .ok pe W4 ∧ Sep w0 W4 (objA D (.deferred (some [])) :: K :: l) := by
      intro pe st l hst h
      have hl := (h.outO 1 rfl).2
      have he := run_endLoop (P := P) hl (by rw [hrec]; exact hst)
      have hp : (rec st pe).pending = pe := by rw [hrec]
      refine ⟨W2.putObj r (.loop { rec st pe with state := .exhausted }), he.trans (congrArg (fun q => Result.ok q _) hp), ?_⟩
      have h5 := (((h.front 1).putO (.loop { rec st pe with state := .exhausted })).front 2).keep [true, false, true]
      have h6 := ((h.front 1).putO (.loop { rec st pe with state := .exhausted })).tail.front 1
      exact h6
    rcases hfin with ⟨l, rfl, hJ⟩ | ⟨l, c, rfl, hc⟩
    · obtain ⟨W4, he, h4⟩ := main none .ready l (by simp) hs2
      refine ⟨none, W4, he, ?_⟩
      refine wpIn_mono (hdone D l W4 (.inl hJ) h4).out ?_
      rintro e a W' hq
      cases e <;> first | exact hq | (obtain ⟨_, _, hx⟩ := hq; exact hx.elim)
    · rcases hc with ⟨rfl, hJ⟩ | ⟨rfl, hJ⟩
      · obtain ⟨W4, he, h4⟩ := main (some (.exit id)) .done l (by simp) hs2
        refine ⟨some (.exit id), W4, he, wpIn_exit ?_⟩
        unfold Exit.inBlock
        dsimp only
        rw [if_pos rfl]
        refine wpIn_mono (hdone D l W4 (.inr hJ) h4).out ?_
        rintro e a W' hq
        cases e <;> first | exact hq | (obtain ⟨_, _, hx⟩ := hq; exact hx.elim)
      · obtain ⟨W4, he, h4⟩ := main (some .ret) .done l (by simp) hs2
        exact ⟨some .ret, W4, he, wpIn_ret ⟨_, _, rfl, hret D l W4 hJ h4⟩⟩
end
/-! ### 4. A call of yield -/
section
variable {n : Nat} {P : Program} {ops : Array Oper} {K : Fr n → World → Prop} {rest : List Oper} {f : Fr n} {w : World} {d : Option Tmp} {ty : TypeId} {pos : String} {af : Array Edge}
theorem L_yield {r : Nat} {fn : Operand} {x : Array Operand} {tys : Array TypeId} {vs : List Value} (hfn : ev f fn = .func (.yield r) #[] #[]) (hargs : x.toList.map (ev f) = vs) {R : Ending → World → Prop} (hy : YieldAt (FR none) 0 P r vs.toArray w R) (hk : ∀ e W', R e W' → ∃ v, e = .returned v ∧ WL P ops K rest (upo f d v) W') : WL P ops K (⟨d, .call { callee := .value fn, args := x, argTypes := tys }, ty, pos, af, none⟩ :: rest) f w := by
  subst hargs
  constructor
  unfold WL0
  rw [if_pos (by simp [Region.wanted])]
  constructor
  unfold Op0r
  obtain ⟨g, tmps, asg, body, hy, hR⟩ := hy
  have e : x.map (ev f) = (x.toList.map (ev f)).toArray := Array.ext' (Array.toList_map)
  rw [show (execOp (ev f) ⟨d, .call { callee := .value fn, args := x, argTypes := tys }, ty, pos, af, none⟩).run P w = .ok (.round r g tmps asg body) w by
    simp only [execOp, resolve, e]
    simp [Deferred.ofValue, hfn, invoke, hy]]
  exact RoundIn.mono hR fun e W' h => by
    obtain ⟨v, he, hv⟩ := hk e W' h
    exact ⟨v, he, hv.out⟩
end
/-! ### 5. A region that draws, reads, and then writes what it has read: T holds until operation s has come up -/
section
variable {P : Program} {ops : Array Oper} {Q : Exit → Act → World → Prop} {md : Region.Mode} {s : Nat} {T : World → Prop}
def Ph (s : Nat) (T : World → Prop) (listed : Array Bool) (w : World) : Prop := listed.getD s true = false → T w
theorem Ph.of {listed : Array Bool} {w : World} (h : T w) : Ph s T listed w := fun _ => h
theorem Ph.done {listed : Array Bool} {w : World} (h : listed.getD s true = true) : Ph s T listed w := fun h2 => by rw [h] at h2; cases h2
def wpAnyP (P : Program) (md : Region.Mode) (ops : Array Oper) (Q : Exit → Act → World → Prop) (s : Nat) (T : World → Prop) : Nat → Array Bool → Act → World → Prop
  | 0, listed, a, w => Region.ready md ops listed = [] ∧ Q .normal a w
  | fuel + 1, listed, a, w =>
    (Region.ready md ops listed = [] → Q .normal a w) ∧
    ∀ i ∈ Region.ready md ops listed, wpOp P ops Q i (fun a' w' => Ph s T (listed.setIfInBounds i true) w' ∧ wpAnyP P md ops Q s T fuel (listed.setIfInBounds i true) a' w') a w
theorem wpAny_of_P : ∀ (fuel : Nat) (listed : Array Bool) (a : Act) (w : World), wpAnyP P md ops Q s T fuel listed a w → wpAny P md ops Q fuel listed a w
  | 0, _, _, _, h => h
  | fuel + 1, _, _, _, h => ⟨h.1, fun i hi => wpOp_mono (fun a' w' h' => wpAny_of_P fuel _ a' w' h'.2) (h.2 i hi)⟩
/-- s waits for i. -/
def waitsB (md : Region.Mode) (ops : Array Oper) (s i : Nat) : Bool := match ops[s]? with
  | some o => o.after.any fun e => Region.binds md e && e.on == i
  | none => false
theorem getD_set_other {listed : Array Bool} {i s : Nat} (h : i ≠ s) : (listed.setIfInBounds i true).getD s true = listed.getD s true := by
  simp [Array.getD_eq_getD_getElem?, Array.getElem?_setIfInBounds_ne h]
/-- What i needs is there in every world that may come ahead of it. -/
def Needs (md : Region.Mode) (ops : Array Oper) (s i : Nat) (T T' : World → Prop) (listed : Array Bool) : Prop := (∀ w, T' w) ∨ (waitsB md ops s i = true ∧ listed.getD s true = false ∧ ∀ w, T w → T' w)
theorem wpAnyP_first {i : Nat} {oi : Oper} {v : Value} {T' : World → Prop} (hi : ops[i]? = some oi) (hne : i ≠ s) (hsel : ∀ (j : Nat) (o : Oper) cs b, ops[j]? = some o → o.op ≠ .select cs b)
    (hQ : ∀ c a w, Q (.panic c) (a.put oi.dst v) w → Q (.panic c) a w) :
    ∀ (fuel : Nat) (listed : Array Bool) (a : Act) (w : World),
      (∀ j oj, ops[j]? = some oj → j ≠ i → listed.getD j true = false → (∀ e ∈ oj.after, Region.binds md e = true → e.on ≠ i) → oi.apart ops oj = true) →
      i ∈ Region.ready md ops listed → Needs md ops s i T T' listed → YieldsIf P ops T' oi v a → Ph s T listed w →
      wpAnyP P md ops Q s T fuel (listed.setIfInBounds i true) (a.put oi.dst v) w → wpAnyP P md ops Q s T (fuel + 1) listed a w := by
  have hTw : ∀ (listed : Array Bool) (w : World), Needs md ops s i T T' listed → Ph s T listed w → T' w := by
    intro listed w hN hP
    rcases hN with h | ⟨_, h2, h3⟩
    · exact h w
    · exact h3 w (hP h2)
  have hPs : ∀ (listed : Array Bool) (w : World), Ph s T listed w → Ph s T (listed.setIfInBounds i true) w := by
    intro listed w h h2
    rw [getD_set_other hne] at h2
    exact h h2
  intro fuel
  induction fuel with
  | zero =>
    intro listed a w _ hr hN hy hP H
    refine ⟨fun h => (by rw [h] at hr; cases hr), fun j hj => ?_⟩
    by_cases hji : j = i
    · subst hji; exact hy.wpOp hi (hTw _ _ hN hP) ⟨hPs _ _ hP, H⟩
    · have := ready_mono hj hji
      rw [H.1] at this
      cases this
  | succ fuel ih =>
    intro listed a w hfree hr hN hy hP H
    refine ⟨fun h => (by rw [h] at hr; cases hr), fun j hj => ?_⟩
    by_cases hji : j = i
    · subst hji; exact hy.wpOp hi (hTw _ _ hN hP) ⟨hPs _ _ hP, H⟩
    · have h1 := H.2 j (ready_mono hj hji)
      obtain ⟨hjun, oj, hoj, hall⟩ := mem_ready.1 hj
      have hil : listed.getD i true = false := (mem_ready.1 hr).1
      have hnot : ∀ e ∈ oj.after, Region.binds md e = true → e.on ≠ i := fun e he hb heq => by
        have h1 := hall e he hb
        rw [heq] at h1
        rcases Nat.lt_or_ge i listed.size with h' | h'
        · simp [h'] at hil h1; rw [hil] at h1; cases h1
        · simp [Array.getElem?_eq_none h'] at h1
      have h2 := wpOp_putIf hoj (hfree j oj hoj hji hjun hnot) (fun cs b => hsel i oi cs b hi) (fun cs b => hsel j oj cs b hoj) hQ hy h1
      have hfree' : ∀ k ok, ops[k]? = some ok → k ≠ i → (listed.setIfInBounds j true).getD k true = false →
          (∀ e ∈ ok.after, Region.binds md e = true → e.on ≠ i) → oi.apart ops ok = true := fun k ok hk hki hun hno => by
        refine hfree k ok hk hki ?_ hno
        by_cases hjk : j = k
        · subst hjk; exact hjun
        · rw [getD_set_ne true hjk] at hun; exact hun
      have hN' : Needs md ops s i T T' (listed.setIfInBounds j true) := by
        rcases hN with h | ⟨h3, h4, h5⟩
        · exact .inl h
        · refine .inr ⟨h3, ?_, h5⟩
          have hjs : j ≠ s := by
            rintro rfl
            unfold waitsB at h3
            rw [hoj] at h3
            obtain ⟨e, he, hb⟩ := Array.any_eq_true'.1 h3
            simp only [Bool.and_eq_true, beq_iff_eq] at hb
            exact hnot e he hb.1 hb.2
          rw [getD_set_other hjs]
          exact h4
      refine wpOp_mono (fun a' w' h3 => ⟨?_, ih (listed.setIfInBounds j true) a' w' hfree' (ready_mono hr (Ne.symm hji)) hN' h3.1 ?_ ?_⟩) h2
      · intro h4
        refine h3.2.1 ?_
        rw [Array.setIfInBounds_comm _ _ (Ne.symm hji), getD_set_other hne]
        exact h4
      · intro h4
        refine h3.2.1 ?_
        rw [Array.setIfInBounds_comm _ _ (Ne.symm hji), getD_set_other hne]
        exact h4
      · rw [Array.setIfInBounds_comm _ _ hji]
        exact h3.2.2
end
section
variable {n : Nat} {P : Program} {ro : Option Nat} {ds : List Deferred} {N : Fr n → World → Prop} {X : Nat → Fr n → World → Prop} {R : List Deferred → Fr n → World → Prop} {f : Fr n} {w0 w : World} {l : List Asr} {ops : Array Oper} {s : Nat} {T : World → Prop} {fuel : Nat} {listed : Array Bool}
structure WP (P : Program) (ops : Array Oper) (N : Fr n → World → Prop) (s : Nat) (T : World → Prop) (fuel : Nat) (listed : Array Bool) (f : Fr n) (w : World) : Prop where
  out : ∀ ds, wpAnyP P .any ops (post ds N (fun _ _ _ => False) (fun _ _ => fun _ => False)) s T fuel listed (mkd ds f) w
theorem W_drawP {id : Nat} (hm : P.follows .mixedOrders = true) (s : Nat) (m : List Bool) (hs : Sep w0 w l) (h : ∀ w1, Sep w0 w1 l → WP P ops N s (fun w' => Sep w0 w' (maskL m l)) ops.size (Array.replicate ops.size false) f w1) (hnd : noDefer ops = true := by rfl) : W ro ds P (.region id ops true) N X R f w := by
  refine ⟨wpIn_mono (wpIn_region_any hm (wpAny_in (fun ⟨_, _, hx⟩ => hx) hnd _ _ _ _ (wpAny_of_P _ _ _ _ ((h _ hs.drew).out ds)))) ?_⟩
  rintro e a w' hq
  cases e <;> first | exact hq | (obtain ⟨_, _, hx⟩ := hq; exact hx.elim) | (obtain ⟨_, _, _, hx⟩ := hq; exact hx.elim)
theorem P_take {i : Nat} {o : Oper} {v : Value} {T' : World → Prop} (hi : ops[i]? = some o) (hk : okAt ops listed i = true) (hne : i ≠ s) (hN : Needs .any ops s i T T' listed) (hy : YieldsIf P ops T' o v (mkd [] f)) (hP : Ph s T listed w)
    (h : WP P ops N s T fuel (listed.setIfInBounds i true) (upo f o.dst v) w) : WP P ops N s T (fuel + 1) listed f w := by
  obtain ⟨h1, h2, h3⟩ := okAt_all hk
  refine ⟨fun ds => wpAnyP_first hi hne (Region.noSelect_spec h1) (fun c a w h => h) fuel listed _ w (Region.free_spec hi h2) (by simpa using h3) hN (v := v) ?_ hP ?_⟩
  · rcases hy with ⟨a1, a2⟩ | a3
    · exact .inl ⟨a1, fun w hw => by have := a2 w hw; rw [mkd_eval] at this ⊢; exact this⟩
    · exact .inr a3
  · rw [mkd_put]
    exact h.out ds
theorem P_q {i : Nat} {o : Oper} {v : Value} (hi : ops[i]? = some o) (hk : okAt ops listed i = true) (hne : i ≠ s) (hg : o.guard = none) (hy : ∀ w, (execOp (ev f) o).run P w = .ok (.value v) w) (hP : Ph s T listed w)
    (h : WP P ops N s T fuel (listed.setIfInBounds i true) (upo f o.dst v) w) : WP P ops N s T (fuel + 1) listed f w :=
  P_take (T' := fun _ => True) hi hk hne (.inl fun _ => trivial) (.inl ⟨by simp [Region.wanted, hg], fun w _ => by rw [mkd_eval]; exact hy w⟩) hP h
theorem P_ld {i : Nat} {o : Oper} {v : Value} (hi : ops[i]? = some o) (hk : okAt ops listed i = true) (hne : i ≠ s) (hg : o.guard = none) (hw : waitsB .any ops s i = true) (hl : listed.getD s true = false) (hy : ∀ w, T w → (execOp (ev f) o).run P w = .ok (.value v) w) (hT : T w)
    (h : WP P ops N s T fuel (listed.setIfInBounds i true) (upo f o.dst v) w) : WP P ops N s T (fuel + 1) listed f w :=
  P_take (T' := T) hi hk hne (.inr ⟨hw, hl, fun _ h => h⟩) (.inl ⟨by simp [Region.wanted, hg], fun w hw => by rw [mkd_eval]; exact hy w hw⟩) (.of hT) h
theorem P_qif {i j t : Nat} {b c : Bool} {o : Oper} {v : Value} (hi : ops[i]? = some o) (hk : okAt ops listed i = true) (hne : i ≠ s) (hg : o.guard = some (j, b)) (hd : (ops[j]?).bind (·.dst) = some t) (hv : sl f t = .bool c) (hy : ∀ w, (c == b) = true → (execOp (ev f) o).run P w = .ok (.value v) w) (hP : Ph s T listed w)
    (h : WP P ops N s T fuel (listed.setIfInBounds i true) (upo f o.dst (gv (c == b) v)) w) : WP P ops N s T (fuel + 1) listed f w := by
  have hw := gd hg hd hv
  cases hb : c == b with
  | true =>
    rw [hb] at hw h
    exact P_take (T' := fun _ => True) hi hk hne (.inl fun _ => trivial) (.inl ⟨hw, fun w _ => by rw [mkd_eval]; exact hy w hb⟩) hP h
  | false =>
    rw [hb] at hw h
    exact P_take (T' := fun _ => True) hi hk hne (.inl fun _ => trivial) (.inr ⟨hw, rfl⟩) hP h
theorem P_ldif {i j t : Nat} {b c : Bool} {o : Oper} {v : Value} (hi : ops[i]? = some o) (hk : okAt ops listed i = true) (hne : i ≠ s) (hg : o.guard = some (j, b)) (hd : (ops[j]?).bind (·.dst) = some t) (hv : sl f t = .bool c) (hwt : waitsB .any ops s i = true) (hl : listed.getD s true = false) (hy : ∀ w, T w → (c == b) = true → (execOp (ev f) o).run P w = .ok (.value v) w) (hT : T w)
    (h : WP P ops N s T fuel (listed.setIfInBounds i true) (upo f o.dst (gv (c == b) v)) w) : WP P ops N s T (fuel + 1) listed f w := by
  have hw := gd hg hd hv
  cases hb : c == b with
  | true =>
    rw [hb] at hw h
    exact P_take (T' := T) hi hk hne (.inr ⟨hwt, hl, fun _ h => h⟩) (.inl ⟨hw, fun w hTw => by rw [mkd_eval]; exact hy w hTw hb⟩) (.of hT) h
  | false =>
    rw [hb] at hw h
    exact P_take (T' := fun _ => True) hi hk hne (.inl fun _ => trivial) (.inr ⟨hw, rfl⟩) (.of hT) h
theorem P_loud {i : Nat} {o : Oper} (hi : ops[i]? = some o) (hr : Region.ready .any ops listed = [i]) (hg : Region.wanted o (yielded ops (mk f).tmps) = true)
    (h : Op1 P o f w (fun f' w' => Ph s T (listed.setIfInBounds i true) w' ∧ WP P ops N s T fuel (listed.setIfInBounds i true) f' w')) : WP P ops N s T (fuel + 1) listed f w := by
  refine ⟨fun ds => And.intro (fun h0 => by rw [hr] at h0; cases h0) (fun j hj => ?_)⟩
  rw [hr] at hj
  obtain rfl : j = i := by simpa using hj
  unfold wpOp
  simp only [hi]
  rw [if_pos (show Region.wanted o (yielded ops (mkd ds f).tmps) = true from hg)]
  refine .inl (oper_mono (op1_sound h _) ?_)
  rintro a w' ⟨f', rfl, hk⟩
  exact ⟨hk.1, hk.2.out ds⟩
theorem P_done (hr : Region.ready .any ops listed = []) (h : N f w) : WP P ops N s T fuel listed f w := by
  refine ⟨fun ds => ?_⟩
  cases fuel with
  | zero => exact ⟨hr, f, rfl, h⟩
  | succ fuel => exact ⟨fun _ => ⟨f, rfl, h⟩, by rw [hr]; simp⟩
end
/-! ### 6. Own rows of numbers -/
theorem Sep.rowRg {w0 w : World} {l : List Asr} {k : IntKind} {B : Nat} {e : TypeId} {A : Option Addr} {m c : Nat} {xs : List Int} (hs : Sep w0 w l) (i : Nat) (ha : l[i]? = some (row B (Kd.int k) e (.slice A m c) xs)) {j : Int} (h0 : 0 ≤ j) (h1 : j < m) : ∀ ad, A = some ad → Rg w (ad.add (j.toNat * 1)) [.int k (rd xs j)] := by
  obtain ⟨S, _, hR⟩ := hs.sep.get i ha
  have hR' : (Kd.int k).R e w B S (.slice A m c) xs := hR
  obtain ⟨hm, hc, hC⟩ := Kd.R_reads' hR'
  subst hm
  intro ad had
  obtain ⟨ad', e', hg⟩ := Kd.C_int hC j h0 h1
  rw [had] at e'
  injection e' with e'
  subst e'
  exact hg
theorem Sep.rowLen {w0 w : World} {l : List Asr} {α : Type} {D : Kd α} {B : Nat} {e : TypeId} {A : Option Addr} {m c : Nat} {xs : List α} (hs : Sep w0 w l) (i : Nat) (ha : l[i]? = some (row B D e (.slice A m c) xs)) : xs.length = m ∧ m ≤ c ∧ m ≤ 9223372036854775807 := by
  obtain ⟨S, _, hR⟩ := hs.sep.get i ha
  have hR' : D.R e w B S (.slice A m c) xs := hR
  obtain ⟨hm, hc, hC⟩ := Kd.R_reads' hR'
  refine ⟨hm.symm, hc, ?_⟩
  have := hC.2.1
  omega
/-! ### 7. Guarded calls of function values -/
section
variable {n : Nat} {P : Program} {ops : Array Oper} {K N : Fr n → World → Prop} {rest : List Oper} {f : Fr n} {w0 w : World} {l : List Asr} {d : Option Tmp} {ty : TypeId} {pos : String} {af : Array Edge} {fuel : Nat} {listed : Array Bool} {h : FuncId} {x : Array Operand} {tys : Array TypeId} {args : List Value} {V : Value} {S : World → Prop}
theorem H_callvif {i j t : Nat} {b c : Bool} {fn : Operand} {captured : List Value} (hi : ops[i]? = some ⟨d, .call { callee := .value fn, args := x, argTypes := tys }, ty, pos, af, some (j, b)⟩) (hr : Region.ready .any ops listed = [i]) (ho : okAt ops listed i = true) (hd : (ops[j]?).bind (·.dst) = some t) (hv : sl f t = .bool c) (hen : Enters P h) (hfn : (c == b) = true → ev f fn = .func (.func h) #[] captured.toArray) (hargs : (c == b) = true → x.toList.map (ev f) = args) (hs : Sep w0 w l) (hS : ∀ w1, Sep w0 w1 l → S w1) (hc : (c == b) = true → Cal P h (args ++ captured).toArray w fun v w1 => Below w.heap.size w w1 ∧ v = V)
    (hk : ∀ v w1, Below w.heap.size w w1 → Sep w0 w1 l → v = gv (c == b) V → WH P ops N S fuel (listed.setIfInBounds i true) (upo f d v) w1) : WH P ops N S (fuel + 1) listed f w := by
  refine H_opif hi hr ho rfl hd hv (hS _ hs) (fun hb => ?_) (fun hb => ?_)
  · refine o_callv hen (hfn hb) (hargs hb) hs (R := fun v _ => v = V) (hc hb) fun v w1 h1 h2 h3 => ⟨hS _ h2, hk v w1 h1 h2 ?_⟩
    rw [gv_yes hb]
    exact h3
  · exact hk undef w (Below.refl _ _) hs (by rw [gv_no hb])
end
section
variable {n : Nat} {P : Program} {K : Fr n → World → Prop} {f : Fr n} {w0 w : World} {l : List Asr} {d : Option Tmp} {ty : TypeId} {pos : String} {af : Array Edge} {g : Option (Nat × Bool)}
/-- A number is put into an own row of numbers. -/
theorem o_rputI {k : IntKind} {e T' : TypeId} {x y : Operand} {g' cap m : Nat} {xs : List Int} {i p : Int} (hsz : (P.info? T').map (·.size) = some 1) (hx : ev f x = .pointer (some ((⟨g', 0, none⟩ : Addr).add (i.toNat * 1)))) (hy : ev f y = .int k p) (hs : Sep w0 w (row w0.heap.size (Kd.int k) e (.slice (some ⟨g', 0, none⟩) m cap) xs :: l)) (h0 : 0 ≤ i) (hi : i < m)
    (h : ∀ w1, Sep w0 w1 (row w0.heap.size (Kd.int k) e (.slice (some ⟨g', 0, none⟩) m cap) (xs.set i.toNat p) :: l) → K (upo f d undef) w1) : Op1 P ⟨d, .store T' x y, ty, pos, af, g⟩ f w K :=
  o_rput (enc := Value.int k) (h1 := fun _ => rfl) hsz hx hy rfl hs (hs.rowLen 0 rfl).1 h0 hi h
end
end Go.Proofs.YtlmddncoeikfjaaDoor
