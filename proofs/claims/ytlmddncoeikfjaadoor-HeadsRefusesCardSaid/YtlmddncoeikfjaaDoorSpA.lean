/- A calculus of our own over the kit's rules: frames as functions, one rule an operation, worlds as letters. It holds of any program. -/
import Derived.Test.YtlmddncoeikfjaaDoorWWords
import Derived.Test.YtlmddncoeikfjaaDoorWArr
import Derived.OrdersHeld
import Derived.OrdersIn
import Derived.TacticsInMore
import Derived.RangeFuncLeaves
import Derived.RangeFuncRecord
import Derived.KernelRfl
namespace Go.Proofs.YtlmddncoeikfjaaDoor
open Go.RowKit Go.Proofs.YtlmddncoeikfjaaDoorW.PrintWords

/-! ### 1. Frames -/
abbrev Fr (n : Nat) := Fin n → Value
section
variable {n : Nat}
def up (f : Fr n) (d : Nat) (v : Value) : Fr n := fun i => if i.1 = d then v else f i
def upo (f : Fr n) : Option Tmp → Value → Fr n
  | some d, v => up f d v
  | none, _ => f
def sl (f : Fr n) (t : Nat) : Value := if h : t < n then f ⟨t, h⟩ else undef
def ev (f : Fr n) : Operand → Value
  | .tmp t => sl f t
  | .const v => v
  | .global g => .pointer (some ⟨g, 0, none⟩)
  | .func g => .func (.func g) #[] #[]
def mk (f : Fr n) : Act := { tmps := Array.ofFn f, defers := [] }
def mkd (ds : List Deferred) (f : Fr n) : Act := { tmps := Array.ofFn f, defers := ds }

theorem mkd_eval (ds : List Deferred) (f : Fr n) : (mkd ds f).eval = ev f := by
  funext x
  cases x with
  | tmp t =>
    simp only [Act.eval, ev, sl, mkd]
    by_cases h : t < n
    · simp [h]
    · simp [h]
  | const v => rfl
  | global g => rfl
  | func g => rfl
theorem mkd_put (ds : List Deferred) (f : Fr n) (d : Option Tmp) (v : Value) : (mkd ds f).put d v = mkd ds (upo f d v) := by
  cases d with
  | none => rfl
  | some d =>
    simp only [Act.put, mkd, upo, Act.mk.injEq, and_true]
    apply Array.ext
    · simp
    · intro i h1 h2
      have h3 : i < (Array.ofFn f).size := by simpa using h1
      by_cases h : d = i
      · subst h
        rw [Array.getElem_setIfInBounds_self]
        simp [up]
      · rw [Array.getElem_setIfInBounds_ne h3 h]
        simp [up, Ne.symm h]
def start (args : Array Value) : Fr n := fun i => args.getD i.1 undef
theorem start_mk (args : Array Value) (h : args.size ≤ n) : ({ tmps := args ++ Array.replicate (n - args.size) undef, defers := [] } : Act) = mkd [] (start (n := n) args) := by
  simp only [mkd, Act.mk.injEq, and_true]
  apply Array.ext
  · simp; omega
  · intro i h1 h2
    simp only [Array.getElem_append, Array.getElem_ofFn, start, Array.getElem_replicate]
    split <;> simp_all
end

/-! ### 2. One operation, a list of operations -/
/-- Everything may be called; within a round, or in none. -/
abbrev FR (ro : Option Nat) : Fence := { fn := fun _ => True, depth := none, alive := false, round := ro }
theorem callsIn_FR {ro : Option Nat} {n : Nat} {P : Program} {g : FuncId} {args : Array Value} {w : World} {R : Ending → World → Prop} : CallsIn (FR ro) n P g args w R ↔ Calls P g args w R := callsIn_wide (n := n)
section
variable {n : Nat} {P : Program} {ops : Array Oper} {ro : Option Nat} {ds : List Deferred}
def Op0 (P : Program) (o : Oper) (f : Fr n) (w : World) (K : Fr n → World → Prop) : Prop :=
  match (execOp (ev f) o).run P w with
  | .ok (.value v) w' => K (upo f o.dst v) w'
  | .ok .skip w' => K (upo f o.dst undef) w'
  | .ok (.enter g args) w' => Calls P g args w' fun e w'' => ∃ v, e = .returned v ∧ K (upo f o.dst v) w''
  | _ => False
/-- The same, and a round of a range over a function may be asked for. -/
def Op0r (P : Program) (o : Oper) (f : Fr n) (w : World) (K : Fr n → World → Prop) : Prop :=
  match (execOp (ev f) o).run P w with
  | .ok (.value v) w' => K (upo f o.dst v) w'
  | .ok .skip w' => K (upo f o.dst undef) w'
  | .ok (.enter g args) w' => Calls P g args w' fun e w'' => ∃ v, e = .returned v ∧ K (upo f o.dst v) w''
  | .ok (.round l g tmps as body) w' => RoundIn (FR none) 0 P l g tmps as body w' fun e w'' => ∃ v, e = .returned v ∧ K (upo f o.dst v) w''
  | _ => False
theorem op0r_of {o : Oper} {f : Fr n} {w : World} {K : Fr n → World → Prop} (h : Op0 P o f w K) : Op0r P o f w K := by
  unfold Op0 at h
  unfold Op0r
  generalize (execOp (ev f) o).run P w = r at *
  cases r with
  | ok x w' => cases x <;> first | exact h | exact h.elim
  | halt x w' => exact h
/-- A structure, so that nobody reckons it. -/
structure Op1 (P : Program) (o : Oper) (f : Fr n) (w : World) (K : Fr n → World → Prop) : Prop where
  out : Op0 P o f w K
structure Op1r (P : Program) (o : Oper) (f : Fr n) (w : World) (K : Fr n → World → Prop) : Prop where
  out : Op0r P o f w K
theorem Op1.r {o : Oper} {f : Fr n} {w : World} {K : Fr n → World → Prop} (h : Op1 P o f w K) : Op1r P o f w K := ⟨op0r_of h.out⟩
def Kept1 (ds : List Deferred) (K : Fr n → World → Prop) : Act → World → Prop := fun a w => ∃ f, a = mkd ds f ∧ K f w
theorem op1_sound {o : Oper} {f : Fr n} {w : World} {K : Fr n → World → Prop} (h : Op1 P o f w K) (Q : Exit → Act → World → Prop) : o.wp P (mkd ds f) w (Kept1 ds K) Q := by
  replace h := h.out
  unfold Op0 at h
  unfold Oper.wp
  rw [mkd_eval]
  split at h
  · rename_i hr
    rw [hr]
    exact ⟨_, mkd_put _ _ _ _, h⟩
  · rename_i hr
    rw [hr]
    exact ⟨_, mkd_put _ _ _ _, h⟩
  · rename_i hr
    rw [hr]
    refine Calls.mono h ?_
    rintro e w'' ⟨v, rfl, hk⟩
    exact ⟨_, mkd_put _ _ _ _, hk⟩
  · exact h.elim
theorem not_defer {o : Oper} {f : Fr n} {w : World} {K : Fr n → World → Prop} (h : Op0r P o f w K) : ∀ c, o.op ≠ .defer c := by
  intro c hc
  unfold Op0r at h
  rw [show execOp (ev f) o = (do let d ← resolve (ev f) c o.type; pure (.defer d)) by unfold execOp; rw [hc]] at h
  rw [Sem.run_bind] at h
  generalize (resolve (ev f) c o.type).run P w = r at h
  cases r with
  | ok d w' => simp [Result.andThen] at h
  | halt x w' => simp [Result.andThen] at h
theorem op1r_sound {o : Oper} {f : Fr n} {w : World} {K : Fr n → World → Prop} (h : Op1r P o f w K) (Q : Exit → Act → World → Prop) : o.wpIn (FR ro) 0 P (mkd ds f) w (Kept1 ds K) Q := by
  replace h := h.out
  refine ⟨fun _ _ => trivial, ?_⟩
  rw [Oper.semAt_eq _ _ _ (not_defer h), mkd_eval]
  unfold Op0r at h
  split at h
  · rename_i hr
    rw [hr]
    exact ⟨_, mkd_put _ _ _ _, h⟩
  · rename_i hr
    rw [hr]
    exact ⟨_, mkd_put _ _ _ _, h⟩
  · rename_i hr
    rw [hr]
    refine ⟨fun h => (by cases h), callsIn_FR.2 (Calls.mono h ?_)⟩
    rintro e w'' ⟨v, rfl, hk⟩
    exact ⟨_, mkd_put _ _ _ _, hk⟩
  · rename_i hr
    rw [hr]
    refine ⟨fun h => (by cases h), RoundIn.mono (F := FR ro) h ?_⟩
    rintro e w'' ⟨v, rfl, hk⟩
    exact ⟨_, mkd_put _ _ _ _, hk⟩
  · exact h.elim
theorem oper_mono {o : Oper} {a : Act} {w : World} {K K' : Act → World → Prop} {Q : Exit → Act → World → Prop} (h : o.wp P a w K (fun _ _ _ => False)) (hk : ∀ a w, K a w → K' a w) : o.wp P a w K' Q := by
  unfold Oper.wp Oper.upon at *
  generalize (execOp a.eval o).run P w = r at *
  cases r with
  | ok x w' =>
    cases x <;> try (exact hk _ _ h)
    all_goals try exact h
    case enter g args =>
      refine Calls.mono h fun e w'' he => ?_
      cases e with
      | returned v => exact hk _ _ he
      | panicked c => exact he.elim
      | outgrown => obtain ⟨_, _, hx⟩ := he; exact hx.elim
    case row r args => exact Rows.mono h fun v w'' he => hk _ _ he
  | halt x w' =>
    cases x <;> first | exact h | exact h.elim
def WL0 (P : Program) (ops : Array Oper) (K : Fr n → World → Prop) : List Oper → Fr n → World → Prop
  | [], f, w => K f w
  | o :: rest, f, w => if Region.wanted o (yielded ops (mk f).tmps) = true then Op1r P o f w (WL0 P ops K rest) else WL0 P ops K rest (upo f o.dst undef) w
structure WL (P : Program) (ops : Array Oper) (K : Fr n → World → Prop) (l : List Oper) (f : Fr n) (w : World) : Prop where
  out : WL0 P ops K l f w
theorem WL0.sound {K : Fr n → World → Prop} {Q : Exit → Act → World → Prop} (hQ : ∀ f w, K f w → Q .normal (mkd ds f) w) :
    ∀ (l : List Oper) (f : Fr n) (w : World), WL0 P ops K l f w → wpListIn (FR ro) 0 P ops Q l (mkd ds f) w
  | [], f, w, h => hQ f w h
  | o :: rest, f, w, h => by
    unfold WL0 at h
    unfold wpListIn
    split at h
    · rename_i hw
      rw [if_pos (show Region.wanted o (yielded ops (mkd ds f).tmps) = true from hw)]
      refine Oper.wpIn_mono ?_ (op1r_sound h Q)
      rintro a w' ⟨f', rfl, hk⟩
      exact WL0.sound hQ rest f' w' hk
    · rename_i hw
      rw [if_neg (show ¬ Region.wanted o (yielded ops (mkd ds f).tmps) = true from hw), mkd_put]
      exact ⟨fun _ _ => trivial, WL0.sound hQ rest _ w h⟩
end

/-! ### 3. Code -/
section
variable {n : Nat} {P : Program} {ro : Option Nat} {ds : List Deferred} {N : Fr n → World → Prop} {X : Nat → Fr n → World → Prop} {R : List Deferred → Fr n → World → Prop} {f : Fr n} {w : World}
def post (ds : List Deferred) (N : Fr n → World → Prop) (X : Nat → Fr n → World → Prop) (R : List Deferred → Fr n → World → Prop) : Exit → Act → World → Prop
  | .normal, a, w => ∃ f, a = mkd ds f ∧ N f w
  | .exit id, a, w => ∃ f, a = mkd ds f ∧ X id f w
  | .ret, a, w => ∃ ds' f, a = mkd ds' f ∧ R ds' f w
  | _, _, _ => False
structure W (ro : Option Nat) (ds : List Deferred) (P : Program) (c : Code) (N : Fr n → World → Prop) (X : Nat → Fr n → World → Prop) (R : List Deferred → Fr n → World → Prop) (f : Fr n) (w : World) : Prop where
  out : c.wpIn (FR ro) 0 P (post ds N X R) (mkd ds f) w
theorem W_mono {c : Code} {N' : Fr n → World → Prop} {X' : Nat → Fr n → World → Prop} (h : W ro ds P c N X R f w) (hN : ∀ f w, N f w → N' f w) (hX : ∀ id f w, X id f w → X' id f w) : W ro ds P c N' X' R f w := by
  refine ⟨wpIn_mono h.out ?_⟩
  rintro e a w' hq
  cases e <;> try exact hq
  · obtain ⟨f', rfl, h'⟩ := hq; exact ⟨f', rfl, hN _ _ h'⟩
  · obtain ⟨f', rfl, h'⟩ := hq; exact ⟨f', rfl, hX _ _ _ h'⟩
theorem W_seq {x y : Code} (h : W ro ds P x (fun f w => W ro ds P y N X R f w) X R f w) : W ro ds P (.seq x y) N X R f w := by
  refine ⟨wpIn_seq (wpIn_mono h.out ?_)⟩
  rintro e a w' hq
  cases e <;> try exact hq
  obtain ⟨f', rfl, h'⟩ := hq
  exact h'.out
/-- What follows, behind a letter. -/
theorem W_seqk {x y : Code} (h : ∀ N' : Fr n → World → Prop, (∀ f w, W ro ds P y N X R f w → N' f w) → W ro ds P x N' X R f w) : W ro ds P (.seq x y) N X R f w := W_seq (h _ fun _ _ h => h)
/-- Ways meet. -/
theorem W_cut {x y : Code} (J : Fr n → World → Prop) (h : W ro ds P x J X R f w) (hj : ∀ f w, J f w → W ro ds P y N X R f w) : W ro ds P (.seq x y) N X R f w := W_seq (W_mono h hj (fun _ _ _ h => h))
theorem W_skip (h : N f w) : W ro ds P .skip N X R f w := ⟨wpIn_skip ⟨f, rfl, h⟩⟩
theorem W_ret (h : R ds f w) : W ro ds P .ret N X R f w := ⟨wpIn_ret ⟨ds, f, rfl, h⟩⟩
theorem W_exit {id : Nat} (h : X id f w) : W ro ds P (.exit id) N X R f w := ⟨wpIn_exit ⟨f, rfl, h⟩⟩
theorem W_block {id : Nat} {c : Code} (h : W ro ds P c N (fun j f w => if j = id then N f w else X j f w) R f w) : W ro ds P (.block id c) N X R f w := by
  refine ⟨wpIn_block (wpIn_mono h.out ?_)⟩
  rintro e a w' hq
  cases e <;> try exact hq
  rename_i j
  obtain ⟨f', rfl, h'⟩ := hq
  unfold Exit.inBlock
  dsimp only at h' ⊢
  split
  · rename_i hj; rw [if_pos hj] at h'; exact ⟨f', rfl, h'⟩
  · rename_i hj; rw [if_neg hj] at h'; exact ⟨f', rfl, h'⟩
theorem W_if {c : Operand} {x y : Code} {b : Bool} (hc : ev f c = .bool b) (ht : b = true → W ro ds P x N X R f w) (hf : b = false → W ro ds P y N X R f w) : W ro ds P (.cond c x y) N X R f w := by
  cases b with
  | true => exact ⟨wpIn_cond_true (by rw [mkd_eval]; exact hc) (ht rfl).out⟩
  | false => exact ⟨wpIn_cond_false (by rw [mkd_eval]; exact hc) (hf rfl).out⟩
theorem W_ifp {c : Operand} {x y : Code} {p : Prop} {_ : Decidable p} (hc : ev f c = .bool (decide p)) (ht : p → W ro ds P x N X R f w) (hf : ¬ p → W ro ds P y N X R f w) : W ro ds P (.cond c x y) N X R f w :=
  W_if hc (fun h => ht (of_decide_eq_true h)) (fun h => hf (of_decide_eq_false h))
theorem W_then {c : Operand} {x y : Code} (hc : ev f c = .bool true) (h : W ro ds P x N X R f w) : W ro ds P (.cond c x y) N X R f w := ⟨wpIn_cond_true (by rw [mkd_eval]; exact hc) h.out⟩
theorem W_else {c : Operand} {x y : Code} (hc : ev f c = .bool false) (h : W ro ds P y N X R f w) : W ro ds P (.cond c x y) N X R f w := ⟨wpIn_cond_false (by rw [mkd_eval]; exact hc) h.out⟩
theorem W_loop {c : Code} (I : Nat → Fr n → World → Prop) (m : Nat) (h0 : I m f w)
    (round : ∀ m f w, I m f w → W ro ds P c (fun f' w' => ∃ m', m' < m ∧ I m' f' w') X R f w) : W ro ds P (.loop c) N X R f w := by
  constructor
  intro b k cs hro hb hr
  have key : ∀ (m : Nat) (f : Fr n) (w : World), I m f w → ∃ e a' w', post ds N X R e a' w' ∧ ArrivesIn (Machine.fenced P (FR ro)) P (lone (b.atR (mkd ds f) (.code c :: .inLoop c :: k)) cs w) b k cs e a' w' := by
    intro m
    induction m using Nat.strongRecOn with
    | _ m ih =>
      intro f w hI
      obtain ⟨e, a₁, w₁, hq, harr⟩ := (round m f w hI).out b (.inLoop c :: k) cs hro hb hr
      cases e with
      | normal =>
        obtain ⟨f1, rfl, m', hlt, hI1⟩ := hq
        obtain ⟨e₂, a₂, w₂, hq₂, harr₂⟩ := ih m' hlt f1 w₁ hI1
        exact ⟨e₂, a₂, w₂, hq₂, .of_steps (StepsIn.trans harr (.one (fenced_calm hb hr rfl) stepR_inLoop)) harr₂⟩
      | exit id => exact ⟨.exit id, a₁, w₁, hq, .pass (x := .inLoop c) rfl (fun _ _ => .inl (by simp)) harr⟩
      | ret => exact ⟨.ret, a₁, w₁, hq, .pass (x := .inLoop c) rfl (fun _ _ => .inl (by simp)) harr⟩
      | goto l => exact hq.elim
      | panic ch => exact hq.elim
      | outgrown => exact hq.elim
  obtain ⟨e, a', w', hq, harr⟩ := key m f w h0
  exact ⟨e, a', w', hq, .of_steps (.one (fenced_calm hb hr rfl) stepR_loop) harr⟩
theorem W_region {id : Nat} {l : List Oper} (h : WL P l.toArray N l f w) : W ro ds P (.region id l.toArray false) N X R f w := by
  refine ⟨wpIn_region_list ?_⟩
  rw [List.toList_toArray]
  exact WL0.sound (fun f w hk => ⟨f, rfl, hk⟩) l f w h.out
end

/-! ### 4. A region that draws its order: S is what stays -/
section
variable {n : Nat} {P : Program} {ro : Option Nat} {ds : List Deferred} {N : Fr n → World → Prop} {X : Nat → Fr n → World → Prop} {R : List Deferred → Fr n → World → Prop} {f : Fr n} {w : World} {ops : Array Oper} {S : World → Prop} {fuel : Nat} {listed : Array Bool}
structure WH (P : Program) (ops : Array Oper) (N : Fr n → World → Prop) (S : World → Prop) (fuel : Nat) (listed : Array Bool) (f : Fr n) (w : World) : Prop where
  out : ∀ ds, wpAnyH P .any ops (post ds N (fun _ _ _ => False) (fun _ _ _ => False)) S fuel listed (mkd ds f) w
def noDefer (ops : Array Oper) : Bool := ops.toList.all fun o => match o.op with
  | .defer _ => false
  | _ => true
theorem noDefer_spec (h : noDefer ops = true) {i : Nat} {o : Oper} (ho : ops[i]? = some o) : ∀ c, o.op ≠ .defer c := by
  intro c hc
  have hm : o ∈ ops.toList := by
    rw [List.mem_iff_getElem?]
    exact ⟨i, by simpa using ho⟩
  have := List.all_eq_true.1 h o hm
  rw [hc] at this
  cases this
theorem wpOp_in {Q : Exit → Act → World → Prop} (hQ : ¬ LetsOut Q) (hnd : noDefer ops = true) {i : Nat} {K : Act → World → Prop} {a : Act} (h : wpOp P ops Q i K a w) : wpOpIn (FR ro) 0 P ops Q i K a w := by
  unfold wpOp at h
  unfold wpOpIn
  cases ho : ops[i]? with
  | none => simp only [ho] at h ⊢; exact h
  | some o =>
    simp only [ho] at h ⊢
    split at h
    · rename_i hw
      rw [if_pos hw]
      rcases h with h | h
      · refine ⟨fun _ _ => trivial, ?_⟩
        rw [Oper.semAt_eq _ _ _ (noDefer_spec hnd ho)]
        unfold Oper.wp at h
        generalize (execOp a.eval o).run P w = r at *
        cases r with
        | ok x w' =>
          cases x <;> first | exact h | skip
          case enter g args => exact ⟨fun h => (by cases h), callsIn_FR.2 h⟩
          case row row args => exact ⟨fun h => (by cases h), fun c cs _ => by
            obtain ⟨v, w', h1, h2⟩ := h c cs
            exact ⟨v, w', h1, stepsIn_wide.2 h2⟩⟩
          all_goals exact h.elim
        | halt x w' => cases x <;> first | exact h | exact h.elim
      · exact (hQ h.2).elim
    · rename_i hw
      rw [if_neg hw]
      exact ⟨fun _ _ => trivial, h⟩
theorem wpAny_in {Q : Exit → Act → World → Prop} (hQ : ¬ LetsOut Q) (hnd : noDefer ops = true) {md : Region.Mode} : ∀ (fuel : Nat) (listed : Array Bool) (a : Act) (w : World), wpAny P md ops Q fuel listed a w → wpAnyIn (FR ro) 0 P md ops Q fuel listed a w
  | 0, _, _, _, h => h
  | fuel + 1, _, _, _, h => ⟨h.1, fun i hi => wpOpIn_mono (fun a' w' h' => wpAny_in hQ hnd fuel _ a' w' h') (wpOp_in hQ hnd (h.2 i hi))⟩
theorem W_draw {id : Nat} (hm : P.follows .mixedOrders = true) (S : World → Prop) (h : WH P ops N S ops.size (Array.replicate ops.size false) f w.drew) (hnd : noDefer ops = true := by rfl) : W ro ds P (.region id ops true) N X R f w := by
  refine ⟨wpIn_mono (wpIn_region_any hm (wpAny_in (fun ⟨_, _, hx⟩ => hx) hnd _ _ _ _ (wpAny_of_held _ _ _ _ (h.out ds)))) ?_⟩
  rintro e a w' hq
  cases e <;> first | exact hq | (obtain ⟨_, _, hx⟩ := hq; exact hx.elim) | (obtain ⟨_, _, _, hx⟩ := hq; exact hx.elim)
theorem H_take {i : Nat} {o : Oper} {v : Value} (hi : ops[i]? = some o) (hs : Region.noSelect ops = true) (hf : Region.free .any ops listed i = true) (hr : (Region.ready .any ops listed).contains i = true)
    (hg : Region.wanted o (yielded ops (mk f).tmps) = true) (hy : ∀ w, S w → (execOp (ev f) o).run P w = .ok (.value v) w) (hS : S w)
    (h : WH P ops N S fuel (listed.setIfInBounds i true) (upo f o.dst v) w) : WH P ops N S (fuel + 1) listed f w := by
  refine ⟨fun ds => wpAnyH_take hi hs hf hr (fun c a w h => h) (.inl ⟨hg, fun w hw => by rw [mkd_eval]; exact hy w hw⟩) hS ?_⟩
  rw [mkd_put]
  exact h.out ds
theorem H_skip {i : Nat} {o : Oper} (hi : ops[i]? = some o) (hs : Region.noSelect ops = true) (hf : Region.free .any ops listed i = true) (hr : (Region.ready .any ops listed).contains i = true)
    (hg : Region.wanted o (yielded ops (mk f).tmps) = false) (hS : S w)
    (h : WH P ops N S fuel (listed.setIfInBounds i true) (upo f o.dst undef) w) : WH P ops N S (fuel + 1) listed f w := by
  refine ⟨fun ds => wpAnyH_take (v := undef) hi hs hf hr (fun c a w h => h) (.inr ⟨hg, rfl⟩) hS ?_⟩
  rw [mkd_put]
  exact h.out ds
/-- One alone may come up. -/
theorem H_loud {i : Nat} {o : Oper} (hi : ops[i]? = some o) (hr : Region.ready .any ops listed = [i]) (hg : Region.wanted o (yielded ops (mk f).tmps) = true)
    (h : Op1 P o f w (fun f' w' => S w' ∧ WH P ops N S fuel (listed.setIfInBounds i true) f' w')) : WH P ops N S (fuel + 1) listed f w := by
  refine ⟨fun ds => wpAnyH_all hr (by simp) ?_⟩
  intro j hj
  obtain rfl : j = i := by simpa using hj
  unfold wpOp
  simp only [hi]
  rw [if_pos (show Region.wanted o (yielded ops (mkd ds f).tmps) = true from hg)]
  refine .inl (oper_mono (op1_sound h _) ?_)
  rintro a w' ⟨f', rfl, hk⟩
  exact ⟨hk.1, hk.2.out ds⟩
theorem H_done (hr : Region.ready .any ops listed = []) (h : N f w) : WH P ops N S fuel listed f w := ⟨fun ds => wpAnyH_done hr ⟨f, rfl, h⟩ fuel⟩
end

/-! ### 5. A function -/
section
variable {n : Nat} {P : Program} {R : Ending → World → Prop}
/-- What is left when the body is over: the deferred calls and marks, the results. -/
structure Ret (P : Program) (fn : Func) (R : Ending → World → Prop) (ds : List Deferred) (f : Fr n) (w : World) : Prop where
  out : LeavesInM (FR none) 0 P fn (mk f).tmps R ds .returning w
theorem ret_of {fn : Func} {f : Fr n} {w : World} (h : ∃ v, (results fn (mk f).tmps).run P w = .ok v w ∧ R (.returned v) w) : Ret P fn R [] f w := ⟨h⟩
/-- The mark of a range over a function. -/
abbrev mark (D : Nat) : Deferred := { target := .collected D, args := #[] }
theorem ret_mark {fn : Func} {f : Fr n} {w : World} {ds : List Deferred} {D : Nat} (hD : w.heap[D]? = some (.deferred (some []))) (h : Ret P fn R ds f (w.putObj D (.deferred none))) : Ret P fn R (mark D :: ds) f w :=
  ⟨⟨by simp, .inl ⟨D, _, rfl, run_takeDeferred hD, h.out⟩⟩⟩
theorem calls_W {g : FuncId} {fn : Func} {c : Code} {args : Array Value} {w : World} (hf : P.funcs[g]? = some fn) (hb : fn.body = some c) (hn : fn.ntmps = n) (ha : args.size ≤ n)
    (h : W none [] P c (fun f w => Ret P fn R [] f w) (fun _ _ _ => False) (fun ds f w => Ret P fn R ds f w) (start (n := n) args) w) : Calls P g args w R := by
  refine (callsIn_FR (ro := none) (n := 0)).1 (callsIn_of_wp_marks hf hb trivial ?_ rfl)
  rw [hn, start_mk args ha]
  refine wpIn_mono h.out ?_
  rintro e a w' hq
  cases e <;> try exact hq.elim
  · obtain ⟨f, rfl, h⟩ := hq; exact h.out
  · obtain ⟨_, _, hx⟩ := hq; exact hx.elim
  · obtain ⟨ds, f, rfl, h⟩ := hq; exact h.out
end
end Go.Proofs.YtlmddncoeikfjaaDoor
