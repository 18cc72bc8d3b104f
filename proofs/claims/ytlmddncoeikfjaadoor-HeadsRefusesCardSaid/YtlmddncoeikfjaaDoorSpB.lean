/- The rules of single operations, over any program. -/
import Derived.Test.YtlmddncoeikfjaaDoorSpA
import Derived.WalkKit
import Derived.Laws.Rows
import Derived.Laws.MakeOwn
import Derived.Maps.AppendAt
import Derived.Deep.MidRow
namespace Go.Proofs.YtlmddncoeikfjaaDoor
open Go.RowKit Go.Proofs.YtlmddncoeikfjaaDoorW.PrintWords

/-! ### 1. Steps in a list; guards -/
section
variable {n : Nat} {P : Program} {ops : Array Oper} {K : Fr n → World → Prop} {o : Oper} {rest : List Oper} {f : Fr n} {w : World} {v : Value}
theorem L_nil (h : K f w) : WL P ops K [] f w := ⟨h⟩
theorem Op1_of (hy : (execOp (ev f) o).run P w = .ok (.value v) w) (h : K (upo f o.dst v) w) : Op1 P o f w K := by
  constructor
  unfold Op0
  rw [hy]
  exact h
theorem Op1_mono {K' : Fr n → World → Prop} (h : Op1 P o f w K) (hk : ∀ f w, K f w → K' f w) : Op1 P o f w K' := by
  constructor
  replace h := h.out
  unfold Op0 at h ⊢
  generalize (execOp (ev f) o).run P w = r at *
  cases r with
  | ok x w' =>
    cases x <;> first | exact hk _ _ h | exact h.elim | skip
    exact Calls.mono h fun e w'' ⟨v, he, hv⟩ => ⟨v, he, hk _ _ hv⟩
  | halt x w' => exact h.elim
theorem L_opg (hg : Region.wanted o (yielded ops (mk f).tmps) = true) (h : Op1 P o f w (WL P ops K rest)) : WL P ops K (o :: rest) f w := by
  constructor
  unfold WL0
  rw [if_pos hg]
  exact (Op1_mono h fun _ _ h => h.out).r
theorem L_op (hg : o.guard = none) (h : Op1 P o f w (WL P ops K rest)) : WL P ops K (o :: rest) f w := L_opg (by simp [Region.wanted, hg]) h
theorem L_qg (hg : Region.wanted o (yielded ops (mk f).tmps) = true) (hy : (execOp (ev f) o).run P w = .ok (.value v) w) (h : WL P ops K rest (upo f o.dst v) w) : WL P ops K (o :: rest) f w := L_opg hg (Op1_of hy h)
theorem L_q (hg : o.guard = none) (hy : (execOp (ev f) o).run P w = .ok (.value v) w) (h : WL P ops K rest (upo f o.dst v) w) : WL P ops K (o :: rest) f w := L_op hg (Op1_of hy h)
theorem L_skip (hg : Region.wanted o (yielded ops (mk f).tmps) = false) (h : WL P ops K rest (upo f o.dst undef) w) : WL P ops K (o :: rest) f w := by
  constructor
  unfold WL0
  rw [if_neg (by simp [hg])]
  exact h.out
theorem gd {j t : Nat} {b c : Bool} (hg : o.guard = some (j, b)) (hd : (ops[j]?).bind (·.dst) = some t) (hv : sl f t = .bool c) : Region.wanted o (yielded ops (mk f).tmps) = (c == b) := by
  have ht : t < n := by
    rcases Nat.lt_or_ge t n with h | h
    · exact h
    · unfold sl at hv
      rw [dif_neg (by omega)] at hv
      cases hv
  have hm : (mk f).tmps[t]? = some (.bool c) := by
    unfold sl at hv
    rw [dif_pos ht] at hv
    simp [mk, ht, hv]
  simp only [Region.wanted, hg, yielded, hd, Option.bind_some, hm]
  cases b <;> cases c <;> rfl
theorem gd_yes {j t : Nat} {b : Bool} (hg : o.guard = some (j, b)) (hd : (ops[j]?).bind (·.dst) = some t) (hv : sl f t = .bool b) : Region.wanted o (yielded ops (mk f).tmps) = true := by
  rw [gd hg hd hv]; simp
theorem gd_no {j t : Nat} {b : Bool} (hg : o.guard = some (j, b)) (hd : (ops[j]?).bind (·.dst) = some t) (hv : sl f t = .bool (!b)) : Region.wanted o (yielded ops (mk f).tmps) = false := by
  rw [gd hg hd hv]; cases b <;> rfl
theorem gd_none (hg : o.guard = none) : Region.wanted o (yielded ops (mk f).tmps) = true := by simp [Region.wanted, hg]
end

/-! ### 2. What an operation yields -/
section
variable {n : Nat} {P : Program} {f : Fr n} {w : World} {d : Option Tmp} {ty : TypeId} {pos : String} {af : Array Edge} {g : Option (Nat × Bool)}
theorem y_move {x : Operand} {v : Value} (hx : ev f x = v) : (execOp (ev f) ⟨d, .move x, ty, pos, af, g⟩).run P w = .ok (.value v) w := by rw [← hx]; rfl
theorem y_assign {x : Operand} {v : Value} (hx : ev f x = v) : (execOp (ev f) ⟨d, .assign x, ty, pos, af, g⟩).run P w = .ok (.value v) w := by rw [← hx]; rfl
theorem y_pick {c x y : Operand} {b : Bool} {v : Value} (hc : ev f c = .bool b) (hv : (if b = true then ev f x else ev f y) = v) : (execOp (ev f) ⟨d, .pick c x y, ty, pos, af, g⟩).run P w = .ok (.value v) w := by
  subst hv
  simp [execOp, hc, asBool]
section
variable {t t' : TypeId} {x y : Operand} {k : IntKind} {a b : Int} (hx : ev f x = .int k a) (hy : ev f y = .int k b)
include hx hy
theorem y_add : (execOp (ev f) ⟨d, .binOp .add t x y t', ty, pos, af, g⟩).run P w = .ok (.value (.int k (k.wrap (a + b)))) w := by simp [execOp, hx, hy, eqGuard, binOp, Op.intArith]
theorem y_sub : (execOp (ev f) ⟨d, .binOp .sub t x y t', ty, pos, af, g⟩).run P w = .ok (.value (.int k (k.wrap (a - b)))) w := by simp [execOp, hx, hy, eqGuard, binOp, Op.intArith]
theorem y_mul : (execOp (ev f) ⟨d, .binOp .mul t x y t', ty, pos, af, g⟩).run P w = .ok (.value (.int k (k.wrap (a * b)))) w := by simp [execOp, hx, hy, eqGuard, binOp, Op.intArith]
theorem y_quo (h0 : b ≠ 0) : (execOp (ev f) ⟨d, .binOp .quo t x y t', ty, pos, af, g⟩).run P w = .ok (.value (.int k (k.wrap (a.tdiv b)))) w := by simp [execOp, hx, hy, eqGuard, binOp, Op.intDiv, h0]
theorem y_rem (h0 : b ≠ 0) : (execOp (ev f) ⟨d, .binOp .rem t x y t', ty, pos, af, g⟩).run P w = .ok (.value (.int k (a.tmod b))) w := by simp [execOp, hx, hy, eqGuard, binOp, Op.intDiv, h0]
theorem y_lss : (execOp (ev f) ⟨d, .binOp .lss t x y t', ty, pos, af, g⟩).run P w = .ok (.value (.bool (decide (a < b)))) w := by simp [execOp, hx, hy, eqGuard, binOp, Op.intCmp]
theorem y_leq : (execOp (ev f) ⟨d, .binOp .leq t x y t', ty, pos, af, g⟩).run P w = .ok (.value (.bool (decide (a ≤ b)))) w := by simp [execOp, hx, hy, eqGuard, binOp, Op.intCmp]
theorem y_gtr : (execOp (ev f) ⟨d, .binOp .gtr t x y t', ty, pos, af, g⟩).run P w = .ok (.value (.bool (decide (b < a)))) w := by simp [execOp, hx, hy, eqGuard, binOp, Op.intCmp]
theorem y_geq : (execOp (ev f) ⟨d, .binOp .geq t x y t', ty, pos, af, g⟩).run P w = .ok (.value (.bool (decide (b ≤ a)))) w := by simp [execOp, hx, hy, eqGuard, binOp, Op.intCmp]
theorem y_eql : (execOp (ev f) ⟨d, .binOp .eql t x y t', ty, pos, af, g⟩).run P w = .ok (.value (.bool (decide (a = b)))) w := by
  simp [execOp, hx, hy, eqGuard, binOp, Op.intCmp]
  exact Bool.eq_iff_iff.2 (by simp)
theorem y_neq : (execOp (ev f) ⟨d, .binOp .neq t x y t', ty, pos, af, g⟩).run P w = .ok (.value (.bool (decide (a ≠ b)))) w := by
  simp [execOp, hx, hy, eqGuard, binOp, Op.intCmp, bne]
  exact Bool.eq_iff_iff.2 (by simp)
end
/-- int's sums that need no wrap. -/
theorem y_addi {t t' : TypeId} {x y : Operand} {a b : Int} (hx : ev f x = .int .i64 a) (hy : ev f y = .int .i64 b) (h0 : -9223372036854775808 ≤ a + b) (h1 : a + b ≤ 9223372036854775807) : (execOp (ev f) ⟨d, .binOp .add t x y t', ty, pos, af, g⟩).run P w = .ok (.value (.int .i64 (a + b))) w := by
  rw [y_add hx hy, show IntKind.i64.wrap (a + b) = a + b from IntWalk.i64_in _ (by omega)]
theorem y_subi {t t' : TypeId} {x y : Operand} {a b : Int} (hx : ev f x = .int .i64 a) (hy : ev f y = .int .i64 b) (h0 : -9223372036854775808 ≤ a - b) (h1 : a - b ≤ 9223372036854775807) : (execOp (ev f) ⟨d, .binOp .sub t x y t', ty, pos, af, g⟩).run P w = .ok (.value (.int .i64 (a - b))) w := by
  rw [y_sub hx hy, show IntKind.i64.wrap (a - b) = a - b from IntWalk.i64_in _ (by omega)]
theorem y_muli {t t' : TypeId} {x y : Operand} {a b c : Int} (hx : ev f x = .int .i64 a) (hy : ev f y = .int .i64 b) (hc : a * b = c) (h0 : -9223372036854775808 ≤ c) (h1 : c ≤ 9223372036854775807) : (execOp (ev f) ⟨d, .binOp .mul t x y t', ty, pos, af, g⟩).run P w = .ok (.value (.int .i64 c)) w := by
  subst hc
  rw [y_mul hx hy, show IntKind.i64.wrap (a * b) = a * b from IntWalk.i64_in _ (by omega)]
theorem y_not {t : TypeId} {x : Operand} {b : Bool} (hx : ev f x = .bool b) : (execOp (ev f) ⟨d, .unOp .not t x, ty, pos, af, g⟩).run P w = .ok (.value (.bool (!b))) w := by simp [execOp, hx, Op.unary]
theorem y_neg {t : TypeId} {x : Operand} {k : IntKind} {a : Int} (hx : ev f x = .int k a) : (execOp (ev f) ⟨d, .unOp .neg t x, ty, pos, af, g⟩).run P w = .ok (.value (.int k (k.wrap (0 - a)))) w := by simp [execOp, hx, Op.unary, Op.intArith]
theorem y_conv {s t : TypeId} {x : Operand} {k k' : IntKind} {a : Int} {u : TypeDesc} (hs : P.underlying s = some u) (ht : P.underlying t = some (.int k)) (hx : ev f x = .int k' a) : (execOp (ev f) ⟨d, .convert s t x, ty, pos, af, g⟩).run P w = .ok (.value (.int k (k.wrap a))) w := by
  simp [execOp, hx, convert, run_underlying hs, run_underlying ht, Conv.intToInt]
theorem y_len {t : TypeId} {e : TypeId} {x : Operand} {A : Option Addr} {m c : Nat} (ht : P.underlying t = some (.slice e)) (hx : ev f x = .slice A m c) : (execOp (ev f) ⟨d, .call { callee := .builtin .len, args := #[x], argTypes := #[t] }, ty, pos, af, g⟩).run P w = .ok (.value (.int .i64 m)) w := by
  simp [execOp, resolve, invoke, builtin, Builtin.len_, run_underlying ht, hx, goInt]
theorem y_ext {x : Operand} {i : Nat} {vs : Array Value} {v : Value} (hx : ev f x = .tuple vs) (hi : vs[i]? = some v) : (execOp (ev f) ⟨d, .extract x i, ty, pos, af, g⟩).run P w = .ok (.value v) w := by
  simp [execOp, hx, Instr.extract, hi]
theorem y_nil {x : Operand} {a : Addr} (hx : ev f x = .pointer (some a)) : (execOp (ev f) ⟨d, .nilCheck x, ty, pos, af, g⟩).run P w = .ok (.value (.pointer (some a))) w := by
  simp [execOp, hx]
/-- A field's address: 'hfa' is the seat's own fact on the type. -/
theorem y_fa {s : TypeId} {x : Operand} {k off : Nat} {b i : Nat} (hfa : ∀ (a : Addr) (w : World), (Instr.fieldAt s (.pointer (some a)) k).run P w = .ok (.pointer (some (a.add off))) w) (hx : ev f x = .pointer (some ⟨b, i, none⟩)) : (execOp (ev f) ⟨d, .fieldAddr s x k, ty, pos, af, g⟩).run P w = .ok (.value (.pointer (some ⟨b, i + off, none⟩))) w := by
  simp only [execOp, hx, Sem.run_bind, hfa, Result.andThen_ok, Sem.run_pure, add_at]
theorem y_ia {t e : TypeId} {x y : Operand} {A : Addr} {m c : Nat} {i : Int} {k : IntKind} {sz : Nat} (ht : P.underlying t = some (.slice e)) (hsz : (P.info? e).map (·.size) = some sz) (hx : ev f x = .slice (some A) m c) (hy : ev f y = .int k i) (h0 : 0 ≤ i) (h1 : i < m) : (execOp (ev f) ⟨d, .indexAddr t x y, ty, pos, af, g⟩).run P w = .ok (.value (.pointer (some (A.add (i.toNat * sz))))) w := by
  obtain ⟨j, hj, rfl⟩ := Option.map_eq_some_iff.1 hsz
  simp [execOp, hx, hy, Instr.indexAt, asIntOf, run_underlying ht, sizeOf, typeInfo, hj, h0, h1]
theorem run_isAgg_no {t : TypeId} {u : TypeDesc} (ht : P.underlying t = some u) (hu : u.isRow = false) : (isAgg t).run P w = .ok false w := by
  unfold isAgg
  rw [Sem.run_bind, run_underlying ht w]
  cases u <;> simp_all
/-- A plain cell is read. -/
theorem y_ld {t : TypeId} {x : Operand} {b o : Nat} {v : Value} {u : TypeDesc} (ht : P.underlying t = some u) (hu : u.isRow = false) (hx : ev f x = .pointer (some ⟨b, o, none⟩)) (hc : w.rangeAt b o [v]) : (execOp (ev f) ⟨d, .load t x, ty, pos, af, g⟩).run P w = .ok (.value v) w := by
  have h1 := hc 0 v rfl
  rw [Nat.add_zero] at h1
  simp [execOp, hx, Instr.loadAt, Instr.sureAddr, loadVar, run_isAgg_no ht hu, h1]
/-- A struct's cells are read. -/
theorem y_lda {t : TypeId} {x : Operand} {b o : Nat} {cs : List Value} {u : TypeDesc} (ht : P.underlying t = some u) (hu : u.isRow = true) (hsz : (P.info? t).map (·.size) = some cs.length) (hx : ev f x = .pointer (some ⟨b, o, none⟩)) (hc : w.rangeAt b o cs) : (execOp (ev f) ⟨d, .load t x, ty, pos, af, g⟩).run P w = .ok (.value (.agg cs.toArray)) w := by
  simp [execOp, hx, run_loadAt_mid w b o t cs u hc ht hu hsz]
end

/-! ### 3. What a function owns: blocks that are known whole, rows, data that was made; each apart from the others -/
structure Asr where
  holds : World → (Nat → Prop) → Prop
  move : ∀ {w w1 : World} {S : Nat → Prop}, (∀ k, S k → w1.heap[k]? = w.heap[k]?) → holds w S → holds w1 S
def blk (g T : Nat) (cs : List Value) : Asr where
  holds := fun w S => S g ∧ w.heap[g]? = some (.cells cs.toArray T (0, 0))
  move := fun hm h => ⟨h.1, (hm g h.1).trans h.2⟩
def own (B : Nat) {α : Type} (d : Kd α) (x : α) (cs : List Value) : Asr where
  holds := fun w S => d.M w B S x cs
  move := fun hm h => d.M_move hm h
def row (B : Nat) {α : Type} (d : Kd α) (e : Nat) (v : Value) (xs : List α) : Asr where
  holds := fun w S => d.R e w B S v xs
  move := fun hm h => Kd.R_move h hm

def SepIn (w : World) : (Nat → Prop) → List Asr → Prop
  | _, [] => True
  | U, a :: as => ∃ S : Nat → Prop, (∀ k, S k → U k) ∧ a.holds w S ∧ SepIn w (fun k => U k ∧ ¬ S k) as
theorem SepIn.mono {w : World} : ∀ {as : List Asr} {U U' : Nat → Prop}, (∀ k, U k → U' k) → SepIn w U as → SepIn w U' as
  | [], _, _, _, _ => trivial
  | _ :: _, _, _, hU, ⟨S, h1, h2, h3⟩ => ⟨S, fun k hk => hU k (h1 k hk), h2, SepIn.mono (fun k hk => ⟨hU k hk.1, hk.2⟩) h3⟩
theorem SepIn.move {w w1 : World} : ∀ {as : List Asr} {U : Nat → Prop}, (∀ k, U k → w1.heap[k]? = w.heap[k]?) → SepIn w U as → SepIn w1 U as
  | [], _, _, _ => trivial
  | a :: _, _, hU, ⟨S, h1, h2, h3⟩ => ⟨S, h1, a.move (fun k hk => hU k (h1 k hk)) h2, SepIn.move (fun k hk => hU k hk.1) h3⟩
theorem SepIn.swap {w : World} {a b : Asr} {as : List Asr} {U : Nat → Prop} (h : SepIn w U (a :: b :: as)) : SepIn w U (b :: a :: as) := by
  obtain ⟨S, h1, h2, S', h1', h2', h3⟩ := h
  exact ⟨S', fun k hk => (h1' k hk).1, h2', S, fun k hk => ⟨h1 k hk, fun hk' => (h1' k hk').2 hk⟩, h2, SepIn.mono (fun k hk => ⟨⟨hk.1.1, hk.2⟩, hk.1.2⟩) h3⟩
def frontAt : Nat → List Asr → List Asr
  | 0, l => l
  | _ + 1, [] => []
  | i + 1, a :: l => match frontAt i l with
    | [] => [a]
    | b :: l' => b :: a :: l'
theorem SepIn.front {w : World} : ∀ (i : Nat) {as : List Asr} {U : Nat → Prop}, SepIn w U as → SepIn w U (frontAt i as)
  | 0, _, _, h => h
  | _ + 1, [], _, h => h
  | i + 1, a :: l, U, ⟨S, h1, h2, h3⟩ => by
    have h4 := SepIn.front i h3
    unfold frontAt
    cases hl : frontAt i l with
    | nil => exact ⟨S, h1, h2, trivial⟩
    | cons b l' =>
      rw [hl] at h4
      exact SepIn.swap ⟨S, h1, h2, h4⟩

structure Sep (w0 w : World) (as : List Asr) : Prop where
  below : Below w0.heap.size w0 w
  sep : SepIn w (fun k => w0.heap.size ≤ k ∧ k < w.heap.size) as
section
variable {w0 w w1 : World} {as : List Asr} {a : Asr}
theorem Sep.refl (w : World) : Sep w w [] := ⟨Below.refl _ _, trivial⟩
theorem Sep.front (h : Sep w0 w as) (i : Nat) : Sep w0 w (frontAt i as) := ⟨h.below, h.sep.front i⟩
theorem Sep.tail (h : Sep w0 w (a :: as)) : Sep w0 w as := by
  obtain ⟨hb, S, h1, h2, h3⟩ := h
  exact ⟨hb, h3.mono (fun k hk => hk.1)⟩
theorem Sep.head (h : Sep w0 w (a :: as)) : ∃ S : Nat → Prop, (∀ k, S k → w0.heap.size ≤ k ∧ k < w.heap.size) ∧ a.holds w S := by
  obtain ⟨hb, S, h1, h2, h3⟩ := h
  exact ⟨S, h1, h2⟩
/-- The world has changed inside the head's blocks, and beyond. -/
structure Turn (w w1 : World) (S : Nat → Prop) : Prop where
  os : w1.os = w.os
  tape : w1.tape = w.tape
  output : w1.output = w.output
  size : w.heap.size ≤ w1.heap.size
  block : ∀ k, k < w.heap.size → ¬ S k → w1.heap[k]? = w.heap[k]?
theorem Sep.upd (h : Sep w0 w (a :: as)) {a' : Asr} (hu : ∀ S : Nat → Prop, (∀ k, S k → w0.heap.size ≤ k ∧ k < w.heap.size) → a.holds w S → Turn w w1 S ∧ ∃ S' : Nat → Prop, a'.holds w1 S' ∧ ∀ k, S' k → S k ∨ (w.heap.size ≤ k ∧ k < w1.heap.size)) : Sep w0 w1 (a' :: as) := by
  obtain ⟨hb, S, h1, h2, h3⟩ := h
  obtain ⟨ht, S', h4, h5⟩ := hu S h1 h2
  have hs0 := hb.size
  refine ⟨hb.trans ⟨ht.os, ht.tape, ht.output, ht.size, fun k hk => ht.block k (by omega) (fun hs => by have := (h1 k hs).1; omega)⟩, S', fun k hk => ?_, h4, ?_⟩
  · have := ht.size
    rcases h5 k hk with h6 | h6
    · have := h1 k h6; omega
    · omega
  · refine SepIn.move (fun k hk => ht.block k hk.1.2 hk.2) h3 |>.mono ?_
    intro k hk
    have := ht.size
    refine ⟨⟨hk.1.1, by omega⟩, fun hs => ?_⟩
    rcases h5 k hs with h6 | h6
    · exact hk.2 h6
    · omega
/-- Nothing that is owned was touched; a has been made. -/
theorem Sep.add (h : Sep w0 w as) (hb : Below w.heap.size w w1) {S : Nat → Prop} (ha : a.holds w1 S) (hS : ∀ k, S k → w.heap.size ≤ k ∧ k < w1.heap.size) : Sep w0 w1 (a :: as) := by
  have hs0 := h.below.size
  have hs1 := hb.size
  refine ⟨h.below.trans (hb.mono hs0), S, fun k hk => by have := hS k hk; omega, ha, ?_⟩
  refine (SepIn.move (fun k hk => hb.block k hk.2) h.sep).mono ?_
  intro k hk
  exact ⟨⟨hk.1, by omega⟩, fun hs => by have := hS k hs; omega⟩
theorem Sep.call (h : Sep w0 w as) (hb : Below w.heap.size w w1) : Sep w0 w1 as := by
  have hs0 := h.below.size
  have hs1 := hb.size
  exact ⟨h.below.trans (hb.mono hs0), (SepIn.move (fun k hk => hb.block k hk.2) h.sep).mono (fun k hk => ⟨hk.1, by omega⟩)⟩
theorem Sep.drew (h : Sep w0 w as) : Sep w0 w.drew as := h.call (Below.refl _ w).drew
theorem Sep.alloc (h : Sep w0 w as) (cs : List Value) (T : Nat) : Sep w0 (w.alloc (.cells cs.toArray T)) (blk w.heap.size T cs :: as) :=
  h.add (S := fun k => k = w.heap.size) ((Below.refl _ w).alloc (Nat.le_refl _) _) ⟨rfl, by simpa using heap_alloc_new w _⟩ (by rintro k rfl; simp)
theorem Sep.made {α : Type} {d : Kd α} {x : α} {cs : List Value} {base : Nat} {ok : Nat → Prop} (h : Sep w0 w as) (hb : Below w.heap.size w w1) (hm : d.M w1 base ok x cs) (hbase : w.heap.size ≤ base) : Sep w0 w1 (own w0.heap.size d x cs :: as) := by
  refine h.add hb (S := fun k => w.heap.size ≤ k ∧ k < w1.heap.size) ?_ (fun k hk => hk)
  have := h.below.size
  exact d.M_lower (by omega) (d.M_mono (fun k hk => ⟨by have := hk.2.1; omega, hk.2.2.1⟩) (d.M_bound hm))
theorem Sep.madeR {α : Type} {d : Kd α} {e : Nat} {v : Value} {xs : List α} {base : Nat} {ok : Nat → Prop} (h : Sep w0 w as) (hb : Below w.heap.size w w1) (hm : d.R e w1 base ok v xs) (hbase : w.heap.size ≤ base) : Sep w0 w1 (row w0.heap.size d e v xs :: as) := by
  refine h.add hb (S := fun k => w.heap.size ≤ k ∧ k < w1.heap.size) ?_ (fun k hk => hk)
  have := h.below.size
  exact Kd.R_lower (Kd.R_mono (Kd.R_bound hm) (fun k hk => ⟨by have := hk.2.1; omega, hk.2.2.1⟩)) (by omega)
/-- What is owned, as the function's answer tells it. -/
theorem Sep.outM {α : Type} {d : Kd α} {x : α} {cs : List Value} (h : Sep w0 w (own w0.heap.size d x cs :: as)) : d.M w w0.heap.size (fun _ => True) x cs := by
  obtain ⟨S, _, hm⟩ := h.head
  exact d.M_mono (fun _ _ => trivial) hm
theorem Sep.outR {α : Type} {d : Kd α} {e : Nat} {v : Value} {xs : List α} (h : Sep w0 w (row w0.heap.size d e v xs :: as)) : d.R e w w0.heap.size (fun _ => True) v xs := by
  obtain ⟨S, _, hm⟩ := h.head
  exact Kd.R_mono hm (fun _ _ => trivial)
/-- A block that is known: its cells, from o on. -/
theorem SepIn.get {w : World} : ∀ (i : Nat) {as : List Asr} {U : Nat → Prop} {a : Asr}, SepIn w U as → as[i]? = some a → ∃ S : Nat → Prop, (∀ k, S k → U k) ∧ a.holds w S
  | _, [], _, _, _, ha => by simp at ha
  | 0, _ :: _, _, _, ⟨S, h1, h2, _⟩, ha => by
    simp only [List.getElem?_cons_zero, Option.some.injEq] at ha
    subst ha
    exact ⟨S, h1, h2⟩
  | i + 1, _ :: _, _, _, ⟨_, _, _, h3⟩, ha => by
    obtain ⟨S, h4, h5⟩ := SepIn.get i h3 (by simpa using ha)
    exact ⟨S, fun k hk => (h4 k hk).1, h5⟩
theorem Sep.rg {g T : Nat} {cs : List Value} (h : Sep w0 w as) (i : Nat) (ha : as[i]? = some (blk g T cs)) (o sz : Nat) {out : List Value} (ho : (cs.drop o).take sz = out) : w.rangeAt g o out := by
  obtain ⟨S, _, _, hb⟩ := h.sep.get i ha
  subst ho
  intro j v hv
  rw [List.getElem?_take, List.getElem?_drop] at hv
  split at hv
  · simp [World.cell?, hb, hv]
  · cases hv
theorem Sep.lt {g T : Nat} {cs : List Value} (h : Sep w0 w as) (i : Nat) (ha : as[i]? = some (blk g T cs)) : w0.heap.size ≤ g ∧ g < w.heap.size := by
  obtain ⟨S, h1, h2, _⟩ := h.sep.get i ha
  exact h1 g h2
end
end Go.Proofs.YtlmddncoeikfjaaDoor
