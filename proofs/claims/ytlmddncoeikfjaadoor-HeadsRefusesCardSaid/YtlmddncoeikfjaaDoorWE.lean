/- What a row's reading of an argument gives: the data, as the walks take them. -/
import Derived.Test.YtlmddncoeikfjaaDoorWD
import Derived.WalkKit
import Derived.ProofKit
import Derived.OpenShut
import Derived.ChangeOld
import Derived.Below
import Derived.Deep.Slices
namespace Go.Proofs.YtlmddncoeikfjaaDoor
open Go.RowKit Go.ChangeShapes Go.WideShapes Go.ChangeAt Go.Proofs.YtlmddncoeikfjaaDoorW.PrintWords
set_option maxRecDepth 100000

/-- Cells that a type's reading takes give the data of a kind. -/
def Opn (P : Program) {α : Type} (D : Kd α) (t : TypeId) (Q : α → Prop) : Prop :=
  ∀ (H : Type) (enc : TypeId × Value → H) (w : World) (base : Nat) (spare : Nat → Bool) (held : Bool) (fuel : Nat) (cs : List Value) (x : DataW H × List MemPlace), DataW.trod enc P w base spare held fuel t cs = some x → ∃ y, D.K w y cs ∧ Q y
/-- Cells in consecutive pieces. -/
def Pieces (R : TypeId → List Value → Prop) : List TypeId → List Value → Prop
  | [], cs => cs = []
  | t :: ts, cs => ∃ c0 c1, cs = c0 ++ c1 ∧ R t c0 ∧ Pieces R ts c1
def OpnL (P : Program) {α : Type} (D : Kd α) (ts : List TypeId) (Q : α → Prop) : Prop :=
  ∀ (H : Type) (enc : TypeId × Value → H) (w : World) (base : Nat) (spare : Nat → Bool) (held : Bool) (fuel : Nat) (cs : List Value), Pieces (fun t c => ∃ x, DataW.trod enc P w base spare held fuel t c = some x) ts cs → ∃ y, D.K w y cs ∧ Q y
section
variable {P : Program} {α β : Type} {D : Kd α} {t : TypeId} {Q : α → Prop}
theorem opn_int {k : IntKind} (ht : P.underlying t = some (.int k)) : Opn P (Kd.int k) t (fun n => (Lit.int k n).wf = true) := by
  intro H enc w base spare held fuel cs x h
  obtain ⟨n, rfl, _, hw⟩ := DataW.trod_int ht h
  exact ⟨n, rfl, hw⟩
theorem Opn.mono {Q' : α → Prop} (h : Opn P D t Q) (hq : ∀ y, Q y → Q' y) : Opn P D t Q' := fun H enc w base spare held fuel cs x hx => by
  obtain ⟨y, h1, h2⟩ := h H enc w base spare held fuel cs x hx
  exact ⟨y, h1, hq y h2⟩
theorem opnl_one (h : Opn P D t Q) : OpnL P D [t] Q := by
  rintro H enc w base spare held fuel cs ⟨c0, c1, rfl, ⟨x, hx⟩, rfl⟩
  rw [List.append_nil]
  exact h H enc w base spare held fuel c0 x hx
theorem opnl_pair {E : Kd β} {Qb : β → Prop} {ts : List TypeId} (ha : Opn P D t Q) (hb : OpnL P E ts Qb) : OpnL P (Kd.pair D E) (t :: ts) (fun y => Q y.1 ∧ Qb y.2) := by
  rintro H enc w base spare held fuel cs ⟨c0, c1, rfl, ⟨x, hx⟩, h1⟩
  obtain ⟨y, k1, q1⟩ := ha H enc w base spare held fuel c0 x hx
  obtain ⟨z, k2, q2⟩ := hb H enc w base spare held fuel c1 h1
  exact ⟨(y, z), ⟨c0, c1, rfl, k1, k2⟩, q1, q2⟩
theorem opnl_iso {ts : List TypeId} (h : OpnL P D ts Q) (f : β → α) (g : α → β) (hfg : ∀ y, f (g y) = y) : OpnL P (Kd.iso D f) ts (fun x => Q (f x)) := by
  intro H enc w base spare held fuel cs hp
  obtain ⟨y, k1, q1⟩ := h H enc w base spare held fuel cs hp
  refine ⟨g y, ?_, by show Q (f (g y)); rw [hfg]; exact q1⟩
  show D.K w (f (g y)) cs
  rw [hfg]
  exact k1
def chain (P : Program) : Nat → List Field → Nat → Bool
  | o, [], n => o == n
  | o, f :: r, n => f.offset == o && chain P (o + P.cellsOf f.type) r n
theorem pieces_of {R : TypeId → List Value → Prop} {cs : List Value} : ∀ (l : List Field) (o : Nat), (∀ f ∈ l, R f.type ((cs.drop f.offset).take (P.cellsOf f.type))) → chain P o l cs.length = true → Pieces R (l.map (·.type)) (cs.drop o)
  | [], o, _, hc => by
    simp only [chain, beq_iff_eq] at hc
    exact List.drop_eq_nil_iff.2 (by omega)
  | f :: r, o, h, hc => by
    simp only [chain, Bool.and_eq_true, beq_iff_eq] at hc
    obtain ⟨h1, h2⟩ := hc
    have h3 := pieces_of (R := R) r (o + P.cellsOf f.type) (fun g hg => h g (List.mem_cons_of_mem _ hg)) h2
    refine ⟨(cs.drop o).take (P.cellsOf f.type), cs.drop (o + P.cellsOf f.type), ?_, ?_, h3⟩
    · rw [← List.drop_drop, List.take_append_drop]
    · have := h f (List.mem_cons_self ..)
      rwa [h1] at this
theorem opn_struct {fs : Array Field} {ts : List TypeId} (ht : P.underlying t = some (.struct fs)) (hc : chain P 0 fs.toList (P.cellsOf t) = true) (hts : fs.toList.map (·.type) = ts) (h : OpnL P D ts Q) : Opn P D t Q := by
  subst hts
  intro H enc w base spare held fuel cs x hx
  obtain ⟨xs, n, _, _, hl, hlen, hf⟩ := DataW.trod_struct ht hx
  refine h H enc w base spare held n cs ?_
  rw [← hl] at hc
  refine pieces_of (R := fun t c => ∃ x, DataW.trod enc P w base spare held n t c = some x) fs.toList 0 (fun f hm => ?_) hc
  obtain ⟨i, hi, rfl⟩ := List.mem_iff_getElem.1 hm
  have hi' : i < fs.size := by simpa using hi
  have := hf i fs[i] (Array.getElem?_eq_getElem hi')
  rw [List.getElem?_eq_getElem (show i < xs.length by omega)] at this
  exact ⟨_, this⟩
theorem pieces_arr {R : TypeId → List Value → Prop} {cs : List Value} {e : TypeId} {sz : Nat} : ∀ (k o : Nat), o + k * sz = cs.length → (∀ i, i < k → R e ((cs.drop (o + i * sz)).take sz)) → Pieces R (List.replicate k e) (cs.drop o)
  | 0, o, hl, _ => List.drop_eq_nil_iff.2 (by omega)
  | k + 1, o, hl, h => by
    have h3 := pieces_arr (R := R) (e := e) (sz := sz) k (o + sz) (by rw [← hl, Nat.succ_mul]; omega) (fun i hi => by
      have := h (i + 1) (by omega)
      rwa [Nat.succ_mul, Nat.add_comm (i * sz) sz, ← Nat.add_assoc] at this)
    refine ⟨(cs.drop o).take sz, cs.drop (o + sz), ?_, ?_, h3⟩
    · rw [← List.drop_drop, List.take_append_drop]
    · have := h 0 (by omega)
      rwa [Nat.zero_mul, Nat.add_zero] at this
theorem opn_array {n : Nat} {e : TypeId} (ht : P.underlying t = some (.array n e)) (hc : P.cellsOf t = n * P.cellsOf e) (h : OpnL P D (List.replicate n e) Q) : Opn P D t Q := by
  intro H enc w base spare held fuel cs x hx
  obtain ⟨xs, m, _, _, hl, hlen, hf⟩ := DataW.trod_array ht hx
  refine h H enc w base spare held m cs ?_
  have := pieces_arr (R := fun t c => ∃ x, DataW.trod enc P w base spare held m t c = some x) (cs := cs) (e := e) (sz := P.cellsOf e) n 0 (by omega) (fun i hi => by
    rw [Nat.zero_add, hf i hi, List.getElem?_eq_getElem (show i < xs.length by omega)]
    exact ⟨_, rfl⟩)
  exact this
theorem opn_slice {e : TypeId} [Inhabited α] (ht : P.underlying t = some (.slice e)) (hs : P.cellsOf e = D.sz) (h : Opn P D e Q) : Opn P (Kd.slice e D) t (fun ys => ∀ y ∈ ys, Q y) := by
  intro H enc w base spare held fuel cs x hx
  rcases Go.Deep.open_slice ht hx with ⟨rfl, _⟩ | ⟨a, len, cap, m, n, Dt, Pl, rfl, hb, hl, hm, hmm, _, hel⟩
  · exact ⟨[], ⟨none, 0, rfl, Nat.le_refl _, rfl, by simp, fun h => absurd h (by simp)⟩, fun y hy => by cases hy⟩
  · have hlm : len ≤ m := by rw [hmm]; split <;> omega
    obtain ⟨ys, hys⟩ := Go.Deep.choose_lt (α := α) (n := len) (p := fun i y => ∃ c, w.cells? base (a.add (i * P.cellsOf e)) (P.cellsOf e) = some c ∧ D.K w y c ∧ Q y) (fun i hi => by
      obtain ⟨c, h1, h2⟩ := hel i (by omega)
      obtain ⟨y, h3, h4⟩ := h H enc w base spare held n c _ h2
      exact ⟨y, c, h1, h3, h4⟩)
    refine ⟨(List.range len).map ys, ⟨some a, cap, by simp, by simpa using hl, by simp, ?_, fun _ => ⟨a, rfl, ?_⟩⟩, ?_⟩
    · simp only [maxLen] at hm
      simp; omega
    · intro j p hj
      rw [List.getElem?_map] at hj
      have hjl : j < len := by
        rcases Nat.lt_or_ge j len with h0 | h0
        · exact h0
        · rw [List.getElem?_eq_none (by simpa using h0)] at hj; cases hj
      rw [List.getElem?_range hjl] at hj
      injection hj with hj
      subst hj
      obtain ⟨c, h1, h2, h3⟩ := hys j hjl
      obtain ⟨_, hcl, hcell⟩ := World.cells?_some h1
      refine ⟨c, by rw [hcl, hs], h2, fun i u hu => ?_⟩
      have hi := (List.getElem?_eq_some_iff.1 hu).1
      have := hcell i (by omega)
      rw [hu, hs] at this
      rw [← this]
      congr 1
      rw [Addr.add_add]
    · intro y hy
      obtain ⟨j, hj, rfl⟩ := List.mem_map.1 hy
      obtain ⟨c, _, _, h3⟩ := hys j (by simpa using hj)
      exact h3
end
end Go.Proofs.YtlmddncoeikfjaaDoor
