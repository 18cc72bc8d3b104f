/- Operations that make or write memory; calls; results. Over any program. -/
import Derived.Test.YtlmddncoeikfjaaDoorSpB
import Derived.Shelf.Abstract
import Derived.Great.BuildSlice
namespace Go.Proofs.YtlmddncoeikfjaaDoor
open Go.RowKit Go.Proofs.YtlmddncoeikfjaaDoorW.PrintWords

section
variable {n : Nat} {P : Program} {f : Fr n} {w0 w : World} {l : List Asr} {d : Option Tmp} {ty : TypeId} {pos : String} {af : Array Edge} {g : Option (Nat × Bool)} {K : Fr n → World → Prop}

/-! ### 1. New blocks -/
/-- A value's cells, each rebuilt from its own constructor (so that what is reckoned is what is kept). -/
def cellsOf : Value → List Value
  | .bool b => [.bool b]
  | .int k a => [.int k a]
  | .float k a => [.float k a]
  | .complex k a b => [.complex k a b]
  | .string s => [.string s]
  | .pointer a => [.pointer a]
  | .slice a m c => [.slice a m c]
  | .map r => [.map r]
  | .chan r => [.chan r]
  | .func fn a c => [.func fn a c]
  | .nilFunc => [.nilFunc]
  | .iface t v => [.iface t v]
  | .nilIface => [.nilIface]
  | .agg cs => cs.toList
  | .tuple vs => [.tuple vs]
theorem cellsOf_eq (v : Value) : v.cells.toList = cellsOf v := by cases v <;> rfl
theorem cellsOf_arr {v : Value} {cs : List Value} (h : cellsOf v = cs) : v.cells = cs.toArray := by
  rw [← h, ← cellsOf_eq]
theorem o_new {o : Oper} {T : Nat} {cs : List Value} (hs : Sep w0 w l) (v : Nat → Value) (hr : (execOp (ev f) o).run P w = .ok (.value (v w.heap.size)) (w.alloc (.cells cs.toArray T)))
    (h : ∀ g w1, Sep w0 w1 (blk g T cs :: l) → K (upo f o.dst (v g)) w1) : Op1 P o f w K := by
  constructor
  unfold Op0
  rw [hr]
  exact h _ _ (hs.alloc cs T)
theorem o_alloc {T : Nat} {cs : List Value} (hal : ∀ w, (Instr.alloc T true (.tuple #[])).run P w = .ok (.pointer (some ⟨w.heap.size, 0, none⟩)) (w.alloc (.cells cs.toArray T))) (hs : Sep w0 w l)
    (h : ∀ g w1, Sep w0 w1 (blk g T cs :: l) → K (upo f d (.pointer (some ⟨g, 0, none⟩))) w1) : Op1 P ⟨d, .alloc T, ty, pos, af, g⟩ f w K :=
  o_new hs (fun g => .pointer (some ⟨g, 0, none⟩)) (by simp [execOp, hal]) h
theorem o_box {T : Nat} {x : Operand} {v : Value} {cs : List Value} (hx : ev f x = v) (hv : cellsOf v = cs) (hs : Sep w0 w l)
    (h : ∀ g w1, Sep w0 w1 (blk g T cs :: l) → K (upo f d (.pointer (some ⟨g, 0, none⟩))) w1) : Op1 P ⟨d, .box T x, ty, pos, af, g⟩ f w K :=
  o_new hs (fun g => .pointer (some ⟨g, 0, none⟩)) (by simp [execOp, hx, Instr.box, newVar, newRow, cellsOf_arr hv]) h

theorem fold_set : ∀ (l : List Value) (k : Nat) (base : Array Value), k + l.length ≤ base.size →
    ((l.zipIdx k).foldl (fun cs (c : Value × Nat) => cs.setIfInBounds c.2 c.1) base).toList = base.toList.take k ++ l ++ base.toList.drop (k + l.length)
  | [], k, base, h => by simp
  | x :: l, k, base, h => by
    simp only [List.zipIdx_cons, List.foldl_cons]
    rw [fold_set l (k + 1) _ (by simp at h ⊢; omega)]
    have hk : k < base.toList.length := by simp at h ⊢; omega
    simp only [Array.toList_setIfInBounds, List.length_cons]
    rw [show k + (l.length + 1) = k + 1 + l.length by omega, List.drop_set_of_lt (by omega)]
    congr 1
    rw [show x :: l = [x] ++ l from rfl, ← List.append_assoc]
    congr 1
    rw [List.take_succ_eq_append_getElem (by simpa using hk), List.take_set_of_le (Nat.le_refl _)]
    simp
theorem fill_one {sz : Nat} {u : Value} {base : Array Value} (hu : u.cells.size = sz) (hb : base.size = sz) : Instr.fill (fun i => some (i * sz, sz)) base [(0, u)] = some u.cells := by
  unfold Instr.fill
  simp only [Nat.zero_mul, Nat.zero_add, ne_eq, hu, not_true_eq_false, hb, Nat.lt_irrefl, decide_false, Bool.or_self, if_false, Bool.false_eq_true, Instr.fill, gt_iff_lt]
  congr 1
  apply Array.ext'
  rw [← Array.foldl_toList, Array.toList_zipIdx]
  have := fold_set u.cells.toList 0 base (by simp [hu, hb])
  simp only [Nat.zero_add, List.take_zero, List.nil_append] at this
  rw [this, List.drop_of_length_le (by simp [hu, hb])]
  simp
/-- The box of an append's one element. -/
theorem o_bs {t e : TypeId} {x : Operand} {u : Value} {cs : List Value} {z : Value} {sz bytes : Nat} (ht : P.underlying t = some (.slice e)) (hinfo : (P.info? e).map (fun i => (i.zero, i.size, i.bytes)) = some (some z, sz, bytes)) (hx : ev f x = u) (hu' : cellsOf u = cs) (hl : cs.length = sz) (h0 : 0 < sz) (h1 : sz ≤ 1000) (hs : Sep w0 w l)
    (h : ∀ g w1, Sep w0 w1 (blk g e cs :: l) → K (upo f d (.slice (some ⟨g, 0, none⟩) 1 1)) w1) : Op1 P ⟨d, .buildSlice t 1 #[(0, x)], ty, pos, af, g⟩ f w K := by
  have hu := cellsOf_arr hu'
  obtain ⟨i, hi, hzz⟩ := Option.map_eq_some_iff.1 hinfo
  simp only [Prod.mk.injEq] at hzz
  obtain ⟨hz0, hz1, hz2⟩ := hzz
  subst hz1
  refine o_new hs (fun g => .slice (some ⟨g, 0, none⟩) 1 1) ?_ h
  have hfill := fill_one (u := u) (sz := i.size) (base := (Array.range (1 * i.size)).map (z.cells[· % z.cells.size]!)) (by rw [hu]; simpa using hl) (by simp)
  have hrun := run_buildSlice (P := P) w t e 1 #[(0, u)] cs.toArray i z ht hi hz0 (by omega) (by omega) (by rw [← hu]; exact hfill)
  simp only [execOp, List.map_toArray, List.map_cons, List.map_nil, hx, hrun, Sem.run_bind, Result.andThen_ok, Sem.run_pure]

/-! ### 2. A store into a block that is known -/
theorem Sep.take {a : Asr} (h : Sep w0 w (a :: l)) : ∃ S : Nat → Prop, (∀ k, S k → w0.heap.size ≤ k ∧ k < w.heap.size) ∧ a.holds w S ∧ ∀ (a' : Asr) (w1 : World) (S' : Nat → Prop), Turn w w1 S → a'.holds w1 S' → (∀ k, S' k → S k ∨ (w.heap.size ≤ k ∧ k < w1.heap.size)) → Sep w0 w1 (a' :: l) := by
  obtain ⟨hb, S, h1, h2, h3⟩ := h
  refine ⟨S, h1, h2, fun a' w1 S' ht h4 h5 => ?_⟩
  have hs0 := hb.size
  have hsz := ht.size
  refine ⟨hb.trans ⟨ht.os, ht.tape, ht.output, ht.size, fun k hk => ht.block k (by omega) (fun hs => by have := (h1 k hs).1; omega)⟩, S', fun k hk => ?_, h4, ?_⟩
  · rcases h5 k hk with h6 | h6
    · have := h1 k h6; omega
    · omega
  · refine SepIn.move (fun k hk => ht.block k hk.1.2 hk.2) h3 |>.mono ?_
    intro k hk
    refine ⟨⟨hk.1.1, by omega⟩, fun hs => ?_⟩
    rcases h5 k hs with h6 | h6
    · exact hk.2 h6
    · omega
theorem Sep.store {g T o : Nat} {cs seg : List Value} (h : Sep w0 w (blk g T cs :: l)) (hfit : o + seg.length ≤ cs.length) : Sep w0 (w.setCells g o seg) (blk g T (cs.take o ++ seg ++ cs.drop (o + seg.length)) :: l) := by
  refine h.upd ?_
  rintro S hS ⟨hg, hb⟩
  obtain ⟨cur', h1, h2, h3⟩ := setCells_row seg o w _ hb (by simpa using hfit)
  have hsame := setCells_same g seg o w
  refine ⟨⟨hsame.1, hsame.2.1, hsame.2.2.1, by omega, fun k hk hk2 => setCells_far seg o k (fun he => hk2 (he ▸ hg))⟩, S, ⟨hg, ?_⟩, fun k hk => .inl hk⟩
  rw [h1]
  congr 2
  apply Array.ext'
  simpa using h3
theorem o_store {T' : TypeId} {x y : Operand} {u : Value} {g' T o : Nat} {cs seg cs' : List Value} (hsz : (P.info? T').map (·.size) = some seg.length) (hx : ev f x = .pointer (some ⟨g', o, none⟩)) (hy : ev f y = u) (hu' : cellsOf u = seg) (h1 : (seg.all fun q => q.oneCell') = true) (hs : Sep w0 w (blk g' T cs :: l)) (hfit : o + seg.length ≤ cs.length) (hcs : cs.take o ++ seg ++ cs.drop (o + seg.length) = cs')
    (h : ∀ w1, Sep w0 w1 (blk g' T cs' :: l) → K (upo f d undef) w1) : Op1 P ⟨d, .store T' x y, ty, pos, af, g⟩ f w K := by
  have hu := (cellsOf_eq u).trans hu'
  subst hcs
  obtain ⟨S, hS, hg, hb⟩ := hs.head
  have hrun := run_store_run (P := P) (o := o) T' u seg hb hu hsz (by simpa using hfit) (List.all_eq_true.1 h1)
  constructor
  unfold Op0
  simp only [execOp, hx, hy, Sem.run_bind, hrun, Result.andThen_ok, Sem.run_pure]
  exact h _ (hs.store hfit)

/-! ### 3. Rows -/
def both (a b : Asr) : Asr where
  holds := fun w S => ∃ S1 S2 : Nat → Prop, (∀ k, S1 k → S k) ∧ (∀ k, S2 k → S k ∧ ¬ S1 k) ∧ a.holds w S1 ∧ b.holds w S2
  move := fun hm ⟨S1, S2, h1, h2, h3, h4⟩ => ⟨S1, S2, h1, h2, a.move (fun k hk => hm k (h1 k hk)) h3, b.move (fun k hk => hm k (h2 k hk).1) h4⟩
theorem Sep.both {a b : Asr} (h : Sep w0 w (a :: b :: l)) : Sep w0 w (both a b :: l) := by
  obtain ⟨hb, S, h1, h2, S', h3, h4, h5⟩ := h
  exact ⟨hb, fun k => S k ∨ S' k, fun k hk => hk.elim (h1 k) (fun h => (h3 k h).1), ⟨S, S', fun k hk => .inl hk, fun k hk => ⟨.inr hk, (h3 k hk).2⟩, h2, h4⟩, h5.mono (fun k hk => ⟨hk.1.1, fun h => h.elim hk.1.2 hk.2⟩)⟩
theorem Sep.addz {a : Asr} (h : Sep w0 w l) (ha : a.holds w (fun _ => False)) : Sep w0 w (a :: l) :=
  ⟨h.below, fun _ => False, fun _ hk => hk.elim, ha, h.sep.mono (fun k hk => ⟨hk, fun h => h⟩)⟩
theorem Sep.nilR {α : Type} (h : Sep w0 w l) (D : Kd α) (e : Nat) : Sep w0 w (row w0.heap.size D e (.slice none 0 0) [] :: l) := h.addz (Kd.R_nil D e w _ _)
/-- The append of one, behind its box. -/
theorem o_app {α : Type} {D : Kd α} {t e : TypeId} {s x : Operand} {z v : Value} {bytes g' : Nat} {xs : List α} {p : α} {cs : List Value} (ht : P.underlying t = some (.slice e)) (hinfo : (P.info? e).map (fun i => (i.zero, i.size, i.bytes)) = some (some z, D.sz, bytes)) (hz : z.cells.size = D.sz) (hs0 : 0 < D.sz) (hb0 : 0 < bytes)
    (hv : ev f s = v) (hx : ev f x = .slice (some ⟨g', 0, none⟩) 1 1) (hs : Sep w0 w (blk g' e cs :: own w0.heap.size D p cs :: row w0.heap.size D e v xs :: l)) (hl : (xs.length + 1) * bytes ≤ 140737488355328)
    (h : ∀ v1 w1, Sep w0 w1 (row w0.heap.size D e v1 (xs ++ [p]) :: l) → K (upo f d v1) w1) : Op1 P ⟨d, .call { callee := .builtin .append, args := #[s, x], argTypes := #[t, t] }, ty, pos, af, g⟩ f w K := by
  obtain ⟨i, hi, hzz⟩ := Option.map_eq_some_iff.1 hinfo
  simp only [Prod.mk.injEq] at hzz
  obtain ⟨hz0, hz1, hz2⟩ := hzz
  have hlen : xs.length + 1 ≤ 140737488355328 := Nat.le_trans (Nat.le_mul_of_pos_right _ hb0) hl
  have hbs := hs.below.size
  obtain ⟨S0, hS0, hg0, hblk⟩ := hs.head
  have hs' := hs.tail.both
  obtain ⟨S, hS, ⟨S1, S2, hS1, hS2, hM, hR⟩, hto⟩ := hs'.take
  change D.M w w0.heap.size S1 p cs at hM
  obtain ⟨hok, inner, hown, hr⟩ := hR
  have hk := D.K_of_M hM
  have hnews : ∀ j u, cs[j]? = some u → w.cell? ((⟨g', 0, none⟩ : Addr).add j) = some u := by
    intro j u hj
    rw [add_at]
    simp [World.cell?, hblk, hj]
  obtain ⟨v1, w1, hrun, hown1, hgr, _, hat⟩ := run_append_own_at (P := P) w w0.heap.size t ty e i z D.sz bytes ht hi hz0 hz1 hz2 hz hs0 v xs.length inner hown ⟨g', 0, none⟩ 1 1 cs (by rw [D.K_len hk]; simp) hnews (D.K_one hk) (by simp only [maxLen]; omega) hl hbs
  have hrun' : (execOp (ev f) ⟨d, .call { callee := .builtin .append, args := #[s, x], argTypes := #[t, t] }, ty, pos, af, g⟩).run P w = .ok (.value v1) w1 := by
    simp [execOp, resolve, invoke, builtin, hv, hx, hrun]
  constructor
  unfold Op0
  rw [hrun']
  have hat' : v1.ownBlock = v.ownBlock ∨ ∃ b, v1.ownBlock = some b ∧ w.heap.size ≤ b := by
    rcases hat with hat | hat
    · exact .inl hat
    · exact .inr ⟨_, hat, Nat.le_refl _⟩
  have hR1 := Kd.R_bound (Kd.R_appended (d := D) (ok := fun k => S1 k ∨ S2 k ∨ w.heap.size ≤ k) (fun k hk => .inr (.inl (hok k hk))) (hr.imp_ fun _ _ hp => D.M_mono (fun k hk => ⟨.inr (.inl hk.1), hk.2⟩) hp) hM (fun k hk => ⟨.inl hk, fun he => (hS2 k (hok k he.symm)).2 hk⟩) (fun k hk => .inr (.inr hk)) hown1 hgr hat')
  refine h _ _ (hto _ _ _ ⟨hgr.os, hgr.tape, hgr.output, hgr.size, fun k hk hk2 => hgr.block k hk (fun he => hk2 (hS2 k (hok k he.symm)).1)⟩ hR1 ?_)
  intro k hk
  rcases hk.1 with h6 | h6 | h6
  · exact .inl (hS1 k h6)
  · exact .inl (hS2 k h6).1
  · exact .inr ⟨h6, hk.2.2.1⟩
/-- The same where what is appended owns nothing. -/
theorem o_app0 {α : Type} {D : Kd α} {t e : TypeId} {s x : Operand} {z v : Value} {bytes g' : Nat} {xs : List α} {p : α} {cs : List Value} (ht : P.underlying t = some (.slice e)) (hinfo : (P.info? e).map (fun i => (i.zero, i.size, i.bytes)) = some (some z, D.sz, bytes)) (hz : z.cells.size = D.sz) (hs0 : 0 < D.sz) (hb0 : 0 < bytes)
    (hv : ev f s = v) (hx : ev f x = .slice (some ⟨g', 0, none⟩) 1 1) (hp : D.M w w0.heap.size (fun _ => False) p cs) (hs : Sep w0 w (blk g' e cs :: row w0.heap.size D e v xs :: l)) (hl : (xs.length + 1) * bytes ≤ 140737488355328)
    (h : ∀ v1 w1, Sep w0 w1 (row w0.heap.size D e v1 (xs ++ [p]) :: l) → K (upo f d v1) w1) : Op1 P ⟨d, .call { callee := .builtin .append, args := #[s, x], argTypes := #[t, t] }, ty, pos, af, g⟩ f w K :=
  o_app ht hinfo hz hs0 hb0 hv hx ((hs.addz (a := own w0.heap.size D p cs) hp).front 1) hl h
/-- append(v, ys...): rows that are read, whose elements own nothing. -/
theorem o_apps {α : Type} {D : Kd α} {t e : TypeId} {s x : Operand} {z v : Value} {bytes : Nat} {xs ys : List α} {A : Option Addr} {m c : Nat} (ht : P.underlying t = some (.slice e)) (hinfo : (P.info? e).map (fun i => (i.zero, i.size, i.bytes)) = some (some z, D.sz, bytes)) (hz : z.cells.size = D.sz) (hs0 : 0 < D.sz) (hb0 : 0 < bytes)
    (hv : ev f s = v) (hx : ev f x = .slice A m c) (hC : D.C w A m ys) (hK : ∀ x cs, D.K w x cs → D.M w w0.heap.size (fun _ => False) x cs) (hs : Sep w0 w (row w0.heap.size D e v xs :: l)) (hl : (xs.length + m) * bytes ≤ 140737488355328)
    (h : ∀ v1 w1, Sep w0 w1 (row w0.heap.size D e v1 (xs ++ ys) :: l) → K (upo f d v1) w1) : Op1 P ⟨d, .call { callee := .builtin .append, args := #[s, x], argTypes := #[t, t] }, ty, pos, af, g⟩ f w K := by
  obtain ⟨i, hi, hzz⟩ := Option.map_eq_some_iff.1 hinfo
  simp only [Prod.mk.injEq] at hzz
  obtain ⟨hz0, hz1, hz2⟩ := hzz
  have hm : ys.length = m := hC.1
  have hlen : xs.length + m ≤ 140737488355328 := Nat.le_trans (Nat.le_mul_of_pos_right _ hb0) hl
  have hbs := hs.below.size
  obtain ⟨S, hS, hR, hto⟩ := hs.take
  obtain ⟨hok, inner, hown, hr⟩ := hR
  have fin : ∀ v1 w1, (Builtin.append_ #[t, t] ty #[v, .slice A m c]).run P w = .ok v1 w1 → Sep w0 w1 (row w0.heap.size D e v1 (xs ++ ys) :: l) → Op1 P ⟨d, .call { callee := .builtin .append, args := #[s, x], argTypes := #[t, t] }, ty, pos, af, g⟩ f w K := by
    intro v1 w1 hrun hs1
    constructor
    unfold Op0
    rw [show (execOp (ev f) ⟨d, .call { callee := .builtin .append, args := #[s, x], argTypes := #[t, t] }, ty, pos, af, g⟩).run P w = .ok (.value v1) w1 by simp [execOp, resolve, invoke, builtin, hv, hx, hrun]]
    exact h _ _ hs1
  rcases A with _ | ad
  · have h0 : m = 0 := by
      rcases Nat.eq_zero_or_pos m with h0 | h0
      · exact h0
      · obtain ⟨ad, h, _⟩ := hC.2.2 h0
        cases h
    subst h0
    obtain rfl : ys = [] := List.eq_nil_of_length_eq_zero hm
    refine fin v w ?_ (by rw [List.append_nil]; exact hs)
    rcases hown.2 with ⟨rfl, hn⟩ | ⟨g, cap, cur, rfl, _, _, hnc, _⟩
    · simp [Builtin.append_, run_underlying ht, sizeOf, typeInfo, hi, Builtin.lenOf, Builtin.firstCells]
    · simp [Builtin.append_, run_underlying ht, sizeOf, typeInfo, hi, Builtin.lenOf, Builtin.firstCells, hnc, storeCells]
  · obtain ⟨news, hnr, hnc⟩ := ReadsRow.inner_ hC
    have hone : ∀ u ∈ news, u.oneCell' = true := by
      intro u hu
      obtain ⟨q, hq, rfl⟩ := List.mem_iff_getElem.1 hu
      have hql : q / D.sz < ys.length := by
        rw [Nat.div_lt_iff_lt_mul hs0, ← hnr.1]
        exact hq
      refine D.K_one (hnr.2 (q / D.sz) _ (List.getElem?_eq_getElem hql)) _ ?_
      rw [List.mem_iff_getElem?]
      refine ⟨q % D.sz, ?_⟩
      rw [List.getElem?_take, if_pos (Nat.mod_lt _ hs0), List.getElem?_drop, Nat.mul_comm, Nat.div_add_mod, List.getElem?_eq_getElem hq]
    obtain ⟨v1, w1, hrun, hown1, hgr, _, hat⟩ := run_append_own_at (P := P) w w0.heap.size t ty e i z D.sz bytes ht hi hz0 hz1 hz2 hz hs0 v xs.length inner hown ad m c news (by rw [hnr.1, hm]) hnc hone (by simp only [maxLen]; omega) hl hbs
    have hok1 : ∀ k, v1.ownBlock = some k → S k ∨ w.heap.size ≤ k := by
      intro k hk
      rcases hat with hat | hat
      · exact .inl (hok k (hat ▸ hk))
      · rw [hat] at hk
        injection hk with hk
        exact .inr (by omega)
    have hne : ∀ k, k < w.heap.size → some k ≠ v.ownBlock → some k ≠ v1.ownBlock := by
      intro k hk hlt
      rcases hat with hat | hat
      · rw [hat]; exact hlt
      · rw [hat]
        intro he
        injection he with he
        omega
    have hR1 : D.R e w1 w0.heap.size (fun k => S k ∨ w.heap.size ≤ k) v1 (xs ++ ys) := by
      refine ⟨hok1, inner ++ news, by rw [List.length_append, hm]; exact hown1, Kd.reps_append (hr.imp_ fun q c hq => ?_) (hnr.imp_ fun q c hq => ?_)⟩
      · have h1 := D.M_bound hq
        refine D.M_mono (fun k hk => ?_) (D.M_move (w1 := w1) (fun k hk => hgr.block k hk.2.2.1 hk.1.2) h1)
        exact ⟨.inl hk.1.1, hne k hk.2.2.1 hk.1.2⟩
      · exact D.M_mono (fun k hk => hk.elim) (D.M_move (w1 := w1) (fun k hk => hk.elim) (hK _ _ hq))
    refine fin v1 w1 hrun (hto _ _ _ ⟨hgr.os, hgr.tape, hgr.output, hgr.size, fun k hk hk2 => hgr.block k hk (fun he => hk2 (hok k he.symm))⟩ (Kd.R_bound hR1) ?_)
    intro k hk
    rcases hk.1 with h6 | h6
    · exact .inl h6
    · exact .inr ⟨h6, hk.2.2.1⟩
/-- make([]T, n). -/
theorem o_make {α : Type} {enc : α → Value} {h1 : ∀ x, (enc x).oneCell' = true} {t e : TypeId} {x y : Operand} {dv : α} {kl kc : IntKind} {m : Int} {bytes : Nat} (ht : P.underlying t = some (.slice e)) (hinfo : (P.info? e).map (fun i => (i.zero, i.size, i.bytes)) = some (some (enc dv), 1, bytes)) (hcells : (enc dv).cells = #[enc dv]) (hx : ev f x = .int kl m) (hy : ev f y = .int kc m) (h0 : 0 ≤ m) (hm : m ≤ 9223372036854775807) (hb : (bytes : Int) * m ≤ 281474976710656) (hs : Sep w0 w l)
    (h : ∀ g' w1, Sep w0 w1 (row w0.heap.size (Kd.scalar enc h1) e (.slice (some ⟨g', 0, none⟩) m.toNat m.toNat) (List.replicate m.toNat dv) :: l) → K (upo f d (.slice (some ⟨g', 0, none⟩) m.toNat m.toNat)) w1) : Op1 P ⟨d, .makeSlice t x y, ty, pos, af, g⟩ f w K := by
  obtain ⟨i, hi, hzz⟩ := Option.map_eq_some_iff.1 hinfo
  simp only [Prod.mk.injEq] at hzz
  obtain ⟨hz0, hz1, hz2⟩ := hzz
  subst hz2
  have hrun := run_make (P := P) w t e i (enc dv) ht hi hz0 kl kc m m h0 (Int.le_refl _) hb hm
  rw [hz1, hcells, Nat.mul_one] at hrun
  have hbs := hs.below.size
  constructor
  unfold Op0
  rw [show (execOp (ev f) ⟨d, .makeSlice t x y, ty, pos, af, g⟩).run P w = .ok (.value (.slice (some ⟨w.heap.size, 0, none⟩) m.toNat m.toNat)) (w.alloc (.cells (madeCells #[enc dv] m.toNat) e)) by simp only [execOp, hx, hy, hrun, Sem.run_bind, Result.andThen_ok, Sem.run_pure]]
  refine h _ _ (hs.madeR (base := w.heap.size) (ok := fun _ => True) ((Below.refl _ w).alloc (Nat.le_refl _) _) (Kd.R_of_own (own_made_of' w w.heap.size e m.toNat (Nat.le_refl _) (by omega)) (fun _ _ => trivial)) (Nat.le_refl _))
end

/-! ### 4. Calls, answers -/
section
variable {n : Nat} {P : Program} {f : Fr n} {w0 w : World} {l : List Asr} {d : Option Tmp} {ty : TypeId} {pos : String} {af : Array Edge} {g : Option (Nat × Bool)} {K : Fr n → World → Prop}
/-- What a call answers. -/
structure Cal (P : Program) (h : FuncId) (args : Array Value) (w : World) (R : Value → World → Prop) : Prop where
  out : Calls P h args w fun e w' => ∃ v, e = .returned v ∧ R v w'
theorem Cal.mono {h : FuncId} {args : Array Value} {R R' : Value → World → Prop} (hc : Cal P h args w R) (hr : ∀ v w', R v w' → R' v w') : Cal P h args w R' :=
  ⟨Calls.mono hc.out fun e w' ⟨v, he, h⟩ => ⟨v, he, hr v w' h⟩⟩
theorem run_call_func {h : FuncId} (hen : Enters P h) {x : Array Operand} {tys : Array TypeId} {fn : Operand} {captured : Array Value} {args : List Value} (hfn : ev f fn = .func (.func h) #[] captured) (hargs : x.toList.map (ev f) = args) : (execOp (ev f) ⟨d, .call { callee := .value fn, args := x, argTypes := tys }, ty, pos, af, g⟩).run P w = .ok (.enter h (args.toArray ++ captured)) w := by
  subst hargs
  have : x.map (ev f) = (x.toList.map (ev f)).toArray := Array.ext' (Array.toList_map)
  simp only [execOp, resolve, this]
  simp [Deferred.ofValue, hfn, invoke, hen _ w]
theorem o_calls {h : FuncId} (hen : Enters P h) {x : Array Operand} {tys : Array TypeId} {fn : Operand} {captured : Array Value} {args : List Value} (hfn : ev f fn = .func (.func h) #[] captured) (hargs : x.toList.map (ev f) = args) {R : Value → World → Prop} (hc : Cal P h (args.toArray ++ captured) w R) (hk : ∀ v w1, R v w1 → K (upo f d v) w1) : Op1 P ⟨d, .call { callee := .value fn, args := x, argTypes := tys }, ty, pos, af, g⟩ f w K := by
  constructor
  unfold Op0
  rw [run_call_func hen hfn hargs]
  exact Calls.mono hc.out fun e w' ⟨v, he, hr⟩ => ⟨v, he, hk v w' hr⟩
/-- A call that leaves all blocks as they were. -/
theorem o_call {h : FuncId} (hen : Enters P h) {x : Array Operand} {tys : Array TypeId} {args : List Value} (hargs : x.toList.map (ev f) = args) {R : Value → World → Prop} (hs : Sep w0 w l) (hc : Cal P h args.toArray w fun v w1 => Below w.heap.size w w1 ∧ R v w1) (hk : ∀ v w1, Below w.heap.size w w1 → Sep w0 w1 l → R v w1 → K (upo f d v) w1) : Op1 P ⟨d, .call { callee := .value (.func h), args := x, argTypes := tys }, ty, pos, af, g⟩ f w K :=
  o_calls hen (captured := #[]) rfl hargs (R := fun v w1 => Below w.heap.size w w1 ∧ R v w1) (by simpa using hc) (fun v w1 hr => hk v w1 hr.1 (hs.call hr.1) hr.2)
theorem cal_W {h : FuncId} {fn : Func} {c : Code} {args : Array Value} {R : Value → World → Prop} (hf : P.funcs[h]? = some fn) (hb : fn.body = some c) (hn : fn.ntmps = n) (ha : args.size ≤ n)
    (hw : W none [] P c (fun f w => Ret P fn (fun e w' => ∃ v, e = .returned v ∧ R v w') [] f w) (fun _ _ _ => False) (fun ds f w => Ret P fn (fun e w' => ∃ v, e = .returned v ∧ R v w') ds f w) (start (n := n) args) w) : Cal P h args w R := ⟨calls_W hf hb hn ha hw⟩
theorem tmps_getD (f : Fr n) (t : Nat) : (mk f).tmps.getD t undef = sl f t := by
  unfold sl mk
  simp only [Array.getD_eq_getD_getElem?]
  split
  · rename_i h
    simp [h]
  · rename_i h
    simp [h]
/-- What results tell. -/
inductive Tells (P : Program) (f : Fr n) (w : World) : List ResultVar → List Value → Prop where
  | nil : Tells P f w [] []
  | tmp {t : Tmp} {v : Value} {rs : List ResultVar} {vs : List Value} (hv : sl f t = v) (h : Tells P f w rs vs) : Tells P f w (.tmp t :: rs) (v :: vs)
  | cell {p : Tmp} {T g : Nat} {rs : List ResultVar} {vs : List Value} {cs : List Value} (hp : sl f p = .pointer (some ⟨g, 0, none⟩)) (hu : (P.underlying T).map TypeDesc.isRow = some true) (hi : (P.info? T).map (·.size) = some cs.length) (hc : w.rangeAt g 0 cs) (h : Tells P f w rs vs) : Tells P f w (.cell p T :: rs) (.agg cs.toArray :: vs)
  | cell1 {p : Tmp} {T g : Nat} {rs : List ResultVar} {vs : List Value} {v : Value} (hp : sl f p = .pointer (some ⟨g, 0, none⟩)) (hu : (P.underlying T).map TypeDesc.isRow = some false) (hc : w.rangeAt g 0 [v]) (h : Tells P f w rs vs) : Tells P f w (.cell p T :: rs) (v :: vs)
theorem Tells.run {rs : List ResultVar} {vs : List Value} (hv : Tells P f w rs vs) (F : ResultVar → Sem Value) (hf : ∀ u, F (.tmp u) = pure ((mk f).tmps.getD u undef)) (hc : ∀ a t, F (.cell a t) = (do loadVar t (← asAddr ((mk f).tmps.getD a undef)))) : (rs.mapM F).run P w = .ok vs w := by
  induction hv with
  | nil => simp
  | tmp hv h ih => subst hv; simp [List.mapM_cons, hf, ih, -Array.getD_eq_getD_getElem?, tmps_getD]
  | cell hp hu hi hcc h ih =>
    obtain ⟨u, hu, hd⟩ := Option.map_eq_some_iff.1 hu
    rw [List.mapM_cons, hc, tmps_getD, hp]
    simp [asAddr, run_loadVar_mid _ _ _ _ _ _ hcc hu hd hi, ih]
  | cell1 hp hu hcc h ih =>
    obtain ⟨u, hu, hd⟩ := Option.map_eq_some_iff.1 hu
    rw [List.mapM_cons, hc, tmps_getD, hp]
    have h1 := hcc 0 _ rfl
    rw [Nat.add_zero] at h1
    simp [asAddr, loadVar, run_isAgg_no hu hd, h1, ih]
theorem ret_many {fn : Func} {R : Ending → World → Prop} {rs : List ResultVar} {vs : List Value} (hr : fn.results = rs.toArray) (hv : Tells P f w rs vs) (hl : vs.length ≠ 1) (h : R (.returned (.tuple vs.toArray)) w) : Ret P fn R [] f w := by
  refine ret_of ⟨_, ?_, h⟩
  unfold results
  rw [hr, List.mapM_toArray]
  simp only [Sem.run_bind, Sem.run_map]
  rw [hv.run]
  · simp [hl]
  · intro u
    rfl
  · intro a t
    rfl
theorem ret_one {fn : Func} {R : Ending → World → Prop} {r : ResultVar} {v : Value} (hr : fn.results = #[r]) (hv : Tells P f w [r] [v]) (h : R (.returned v) w) : Ret P fn R [] f w := by
  refine ret_of ⟨_, ?_, h⟩
  unfold results
  rw [show fn.results = [r].toArray from hr, List.mapM_toArray]
  simp only [Sem.run_bind, Sem.run_map]
  rw [hv.run]
  · simp
  · intro u
    rfl
  · intro a t
    rfl
end
end Go.Proofs.YtlmddncoeikfjaaDoor
