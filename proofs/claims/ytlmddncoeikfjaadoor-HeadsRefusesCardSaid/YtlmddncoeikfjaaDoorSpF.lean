/- More operations: structs that are built, fields and elements of struct values, calls of function values, comparisons with nil, stores of one cell. Over any program. -/
import Derived.Test.YtlmddncoeikfjaaDoorSpE
namespace Go.Proofs.YtlmddncoeikfjaaDoor
open Go.RowKit Go.Proofs.YtlmddncoeikfjaaDoorW.PrintWords
section
variable {n : Nat} {P : Program} {f : Fr n} {w : World} {d : Option Tmp} {ty : TypeId} {pos : String} {af : Array Edge} {g : Option (Nat × Bool)}
theorem y_build {T : TypeId} {ps : Array (Nat × Operand)} {vs : List (Nat × Value)} {v : Value} (hp : ps.toList.map (fun q => (q.1, ev f q.2)) = vs) (hb : (Instr.build T vs.toArray).run P w = .ok v w) : (execOp (ev f) ⟨d, .build T ps, ty, pos, af, g⟩).run P w = .ok (.value v) w := by
  subst hp
  have e : (ps.map fun (i, x) => (i, ev f x)) = (ps.toList.map (fun q => (q.1, ev f q.2))).toArray := Array.ext' (by simp)
  simp only [execOp, e, Sem.run_bind, hb, Result.andThen_ok, Sem.run_pure]
theorem y_field {T k : Nat} {x : Operand} {a v : Value} (hx : ev f x = a) (hb : (Instr.field T a k).run P w = .ok v w) : (execOp (ev f) ⟨d, .field T x k, ty, pos, af, g⟩).run P w = .ok (.value v) w := by
  simp only [execOp, hx, Sem.run_bind, hb, Result.andThen_ok, Sem.run_pure]
/-- An element of an array that is a value. -/
theorem y_index {T e : TypeId} {m : Nat} {x y : Operand} {cs : List Value} {i : Int} {k : IntKind} {v : Value} (ht : P.underlying T = some (.array m e)) (he : (P.underlying e).map TypeDesc.isRow = some false) (hsz : (P.info? e).map (·.size) = some 1) (hx : ev f x = .agg cs.toArray) (hy : ev f y = .int k i) (h0 : 0 ≤ i) (h1 : i < m) (hv : cs[i.toNat]? = some v) : (execOp (ev f) ⟨d, .index T x y, ty, pos, af, g⟩).run P w = .ok (.value v) w := by
  obtain ⟨j, hj, hs⟩ := Option.map_eq_some_iff.1 hsz
  have hp : (part e cs.toArray (i.toNat * 1)).run P w = .ok v w := by
    unfold part
    rw [Sem.run_bind, isAgg_is he]
    simp [Result.andThen, hv]
  have hi : (Instr.index T (.agg cs.toArray) (.int k i)).run P w = .ok v w := by
    simp only [Instr.index, asIntOf, Sem.run_bind, Sem.run_pure, Result.andThen_ok, run_underlying ht, h0, h1, and_self, if_true]
    have hz : (sizeOf e).run P w = .ok 1 w := by simp [sizeOf, typeInfo, hj, hs]
    rw [hz]
    exact hp
  simp only [execOp, hx, hy, Sem.run_bind, hi, Result.andThen_ok, Sem.run_pure]
theorem y_min {x y : Operand} {k : IntKind} {a b : Int} {tys : Array TypeId} (hx : ev f x = .int k a) (hy : ev f y = .int k b) : (execOp (ev f) ⟨d, .call { callee := .builtin .min, args := #[x, y], argTypes := tys }, ty, pos, af, g⟩).run P w = .ok (.value (.int k (if b < a then b else a))) w := by
  simp [execOp, resolve, invoke, builtin, Builtin.min_, Builtin.min2, hx, hy]
theorem y_max {x y : Operand} {k : IntKind} {a b : Int} {tys : Array TypeId} (hx : ev f x = .int k a) (hy : ev f y = .int k b) : (execOp (ev f) ⟨d, .call { callee := .builtin .max, args := #[x, y], argTypes := tys }, ty, pos, af, g⟩).run P w = .ok (.value (.int k (if a < b then b else a))) w := by
  simp [execOp, resolve, invoke, builtin, Builtin.max_, Builtin.max2, hx, hy]
/-- Comparisons: 'hb' is the seat's own fact on the type. -/
theorem y_bin {op : BinOp} {t t' : TypeId} {x y : Operand} {a b v : Value} (hx : ev f x = a) (hy : ev f y = b) (hg : (eqGuard op t x y a b).run P w = .ok () w) (hb : (binOp op t a b).run P w = .ok v w) : (execOp (ev f) ⟨d, .binOp op t x y t', ty, pos, af, g⟩).run P w = .ok (.value v) w := by
  simp only [execOp, hx, hy, Sem.run_bind, hg, hb, Result.andThen_ok, Sem.run_pure]
end
/-! ### Ways that meet; several operations that may come up -/
theorem W_cutF {n : Nat} {P : Program} {ro : Option Nat} {ds : List Deferred} {N : Fr n → World → Prop} {X : Nat → Fr n → World → Prop} {R : List Deferred → Fr n → World → Prop} {f : Fr n} {w : World} {x y : Code} (J : Fr n → Fr n → World → Prop) (h : W ro ds P x (J f) X R f w) (hj : ∀ f1 w1, J f f1 w1 → W ro ds P y N X R f1 w1) : W ro ds P (.seq x y) N X R f w := W_cut (J f) h hj
structure WOp {n : Nat} (P : Program) (ops : Array Oper) (N : Fr n → World → Prop) (S : World → Prop) (fuel : Nat) (listed : Array Bool) (i : Nat) (f : Fr n) (w : World) : Prop where
  out : ∀ ds, wpOp P ops (post ds N (fun _ _ _ => False) (fun _ _ _ => False)) i (fun a' w' => S w' ∧ wpAnyH P .any ops (post ds N (fun _ _ _ => False) (fun _ _ _ => False)) S fuel (listed.setIfInBounds i true) a' w') (mkd ds f) w
section
variable {n : Nat} {P : Program} {ops : Array Oper} {N : Fr n → World → Prop} {S : World → Prop} {fuel : Nat} {listed : Array Bool} {f : Fr n} {w : World}
theorem H_one {i : Nat} {o : Oper} (hi : ops[i]? = some o) (hg : Region.wanted o (yielded ops (mk f).tmps) = true) (h : Op1 P o f w (fun f' w' => S w' ∧ WH P ops N S fuel (listed.setIfInBounds i true) f' w')) : WOp P ops N S fuel listed i f w := by
  refine ⟨fun ds => ?_⟩
  unfold wpOp
  simp only [hi]
  rw [if_pos (show Region.wanted o (yielded ops (mkd ds f).tmps) = true from hg)]
  refine .inl (oper_mono (op1_sound h _) ?_)
  rintro a w' ⟨f', rfl, hk⟩
  exact ⟨hk.1, hk.2.out ds⟩
theorem H_two {i j : Nat} (hr : Region.ready .any ops listed = [i, j]) (hi : WOp P ops N S fuel listed i f w) (hj : WOp P ops N S fuel listed j f w) : WH P ops N S (fuel + 1) listed f w := by
  refine ⟨fun ds => wpAnyH_all hr (by simp) ?_⟩
  intro k hk
  simp only [List.mem_cons, List.not_mem_nil, or_false] at hk
  rcases hk with rfl | rfl
  · exact hi.out ds
  · exact hj.out ds
theorem H_three {i j k : Nat} (hr : Region.ready .any ops listed = [i, j, k]) (hi : WOp P ops N S fuel listed i f w) (hj : WOp P ops N S fuel listed j f w) (hk : WOp P ops N S fuel listed k f w) : WH P ops N S (fuel + 1) listed f w := by
  refine ⟨fun ds => wpAnyH_all hr (by simp) ?_⟩
  intro q hq
  simp only [List.mem_cons, List.not_mem_nil, or_false] at hq
  rcases hq with rfl | rfl | rfl
  · exact hi.out ds
  · exact hj.out ds
  · exact hk.out ds
end
/-! ### Stores at places that are reckoned; blocks that a call makes; literal slices -/
section
variable {n : Nat} {P : Program} {f : Fr n} {w0 w : World} {l : List Asr} {d : Option Tmp} {ty : TypeId} {pos : String} {af : Array Edge} {g : Option (Nat × Bool)} {K : Fr n → World → Prop}
theorem o_set {T' : TypeId} {x y : Operand} {u v : Value} {g' T o : Nat} {ad : Addr} {cs : List Value} (hsz : (P.info? T').map (·.size) = some 1) (hx : ev f x = .pointer (some ad)) (had : ad = ⟨g', o, none⟩) (hy : ev f y = u) (hu : cellsOf u = [v]) (h1 : v.oneCell' = true) (hs : Sep w0 w (blk g' T cs :: l)) (ho : o < cs.length)
    (h : ∀ w1, Sep w0 w1 (blk g' T (cs.set o v) :: l) → K (upo f d undef) w1) : Op1 P ⟨d, .store T' x y, ty, pos, af, g⟩ f w K := by
  subst had
  refine o_store (seg := [v]) hsz hx hy hu (by simp [h1]) hs (show o + 1 ≤ cs.length by omega) ?_ h
  rw [List.set_eq_take_append_cons_drop, if_pos ho]
  simp
theorem o_storeA {T' : TypeId} {x y : Operand} {u : Value} {g' T o : Nat} {ad : Addr} {cs seg cs' : List Value} (hsz : (P.info? T').map (·.size) = some seg.length) (hx : ev f x = .pointer (some ad)) (had : ad = ⟨g', o, none⟩) (hy : ev f y = u) (hu : cellsOf u = seg) (h1 : (seg.all fun q => q.oneCell') = true) (hs : Sep w0 w (blk g' T cs :: l)) (hfit : o + seg.length ≤ cs.length) (hcs : cs.take o ++ seg ++ cs.drop (o + seg.length) = cs')
    (h : ∀ w1, Sep w0 w1 (blk g' T cs' :: l) → K (upo f d undef) w1) : Op1 P ⟨d, .store T' x y, ty, pos, af, g⟩ f w K := by
  subst had
  exact o_store hsz hx hy hu h1 hs hfit hcs h
theorem Sep.bagNil (h : Sep w0 w l) : Sep w0 w (bagA [] :: l) := h.addz trivial
theorem SepIn.snoc {w : World} {a : Asr} : ∀ {l : List Asr} {U S S' : Nat → Prop}, (∀ k, S k → U k) → SepIn w S l → (∀ k, S' k → U k ∧ ¬ S k) → a.holds w S' → SepIn w U (l ++ [a])
  | [], U, S, S', _, _, h2, h3 => ⟨S', fun k hk => (h2 k hk).1, h3, trivial⟩
  | b :: l, U, S, S', h0, ⟨T, h4, h5, h6⟩, h2, h3 => ⟨T, fun k hk => h0 k (h4 k hk), h5, SepIn.snoc (l := l) (S := fun k => S k ∧ ¬ T k) (S' := S') (fun k hk => ⟨h0 k hk.1, hk.2⟩) h6 (fun k hk => ⟨⟨(h2 k hk).1, fun ht => (h2 k hk).2 (h4 k ht)⟩, fun h => (h2 k hk).2 h.1⟩) h3⟩
theorem Sep.bagSnoc {m : List Asr} {a : Asr} (h : Sep w0 w (bagA m :: a :: l)) : Sep w0 w (bagA (m ++ [a]) :: l) := by
  obtain ⟨hb, S, h1, h2, S', h3, h4, h5⟩ := h
  refine ⟨hb, (fun k => S k ∨ S' k), fun k hk => hk.elim (h1 k) (fun h => (h3 k h).1), ?_, h5.mono fun k hk => ⟨hk.1.1, fun h => h.elim hk.1.2 hk.2⟩⟩
  exact SepIn.snoc (U := fun k => S k ∨ S' k) (fun k hk => Or.inl hk) h2 (fun k hk => ⟨Or.inr hk, (h3 k hk).2⟩) h4
theorem rg_add {g k : Nat} {out : List Value} (h : w.rangeAt g k out) : Rg w ((⟨g, 0, none⟩ : Addr).add k) out := by
  rw [add_at, Nat.zero_add]
  exact rg_of_range h
theorem Sep.addB {w1 : World} {g T : Nat} {cs : List Value} (hs : Sep w0 w l) (hb : Below w.heap.size w w1) (h0 : w.heap.size ≤ g) (hg : w1.heap[g]? = some (.cells cs.toArray T (0, 0))) : Sep w0 w1 (blk g T cs :: l) :=
  hs.add hb (S := fun k => k = g) ⟨rfl, hg⟩ (by rintro k rfl; exact ⟨h0, (Array.getElem?_eq_some_iff.1 hg).1⟩)
theorem Sep.outB {g T : Nat} {cs : List Value} (hs : Sep w0 w l) (i : Nat) (ha : l[i]? = some (blk g T cs)) : w0.heap.size ≤ g ∧ w.heap[g]? = some (.cells cs.toArray T (0, 0)) := by
  obtain ⟨S, h1, h2, h3⟩ := hs.sep.get i ha
  exact ⟨(h1 g h2).1, h3⟩
/-- A call that makes a block. -/
theorem o_callB {h : FuncId} {x : Array Operand} {tys : Array TypeId} {args : List Value} {T : Nat} {cs : List Value} {V : Nat → Value} (hen : Enters P h) (hargs : x.toList.map (ev f) = args) (hs : Sep w0 w l) (hc : Cal P h args.toArray w fun v w1 => Below w.heap.size w w1 ∧ ∃ g, v = V g ∧ w.heap.size ≤ g ∧ w1.heap[g]? = some (.cells cs.toArray T (0, 0))) (hk : ∀ g w1, Below w.heap.size w w1 → Sep w0 w1 (blk g T cs :: l) → K (upo f d (V g)) w1) : Op1 P ⟨d, .call { callee := .value (.func h), args := x, argTypes := tys }, ty, pos, af, g⟩ f w K :=
  o_calls hen (captured := #[]) rfl hargs (R := fun v w1 => Below w.heap.size w w1 ∧ ∃ g, v = V g ∧ w.heap.size ≤ g ∧ w1.heap[g]? = some (.cells cs.toArray T (0, 0))) (by simpa using hc) (fun v w1 hr => by
    obtain ⟨hb, g, rfl, h1, h2⟩ := hr
    exact hk g w1 hb (hs.addB hb h1 h2))
/-- A call of a function value. -/
theorem o_callv {h : FuncId} {fn : Operand} {captured : List Value} {x : Array Operand} {tys : Array TypeId} {args : List Value} (hen : Enters P h) (hfn : ev f fn = .func (.func h) #[] captured.toArray) (hargs : x.toList.map (ev f) = args) {R : Value → World → Prop} (hs : Sep w0 w l) (hc : Cal P h (args ++ captured).toArray w fun v w1 => Below w.heap.size w w1 ∧ R v w1) (hk : ∀ v w1, Below w.heap.size w w1 → Sep w0 w1 l → R v w1 → K (upo f d v) w1) : Op1 P ⟨d, .call { callee := .value fn, args := x, argTypes := tys }, ty, pos, af, g⟩ f w K :=
  o_calls hen hfn hargs (R := fun v w1 => Below w.heap.size w w1 ∧ R v w1) (by simpa using hc) (fun v w1 hr => hk v w1 hr.1 (hs.call hr.1) hr.2)
/-- A slice that is written out: its block is known. -/
theorem o_bsk {t e : TypeId} {k : Nat} {ps : Array (Nat × Operand)} {vs : List (Nat × Value)} {cs : List Value} {z : Value} {sz bytes : Nat} (ht : P.underlying t = some (.slice e)) (hinfo : (P.info? e).map (fun i => (i.zero, i.size, i.bytes)) = some (some z, sz, bytes)) (hp : ps.toList.map (fun q => (q.1, ev f q.2)) = vs) (h0 : 0 < k * sz) (h1 : k * sz ≤ 1000) (hf : Instr.fill (fun i => some (i * sz, sz)) ((Array.range (k * sz)).map (z.cells[· % z.cells.size]!)) vs = some cs.toArray) (hs : Sep w0 w l)
    (h : ∀ g w1, Sep w0 w1 (blk g e cs :: l) → K (upo f d (.slice (some ⟨g, 0, none⟩) k k)) w1) : Op1 P ⟨d, .buildSlice t k ps, ty, pos, af, g⟩ f w K := by
  obtain ⟨i, hi, hzz⟩ := Option.map_eq_some_iff.1 hinfo
  simp only [Prod.mk.injEq] at hzz
  obtain ⟨hz0, hz1, hz2⟩ := hzz
  subst hz1
  subst hp
  have e1 : (ps.map fun (i, x) => (i, ev f x)) = (ps.toList.map (fun q => (q.1, ev f q.2))).toArray := Array.ext' (by simp)
  refine o_new hs (fun g => .slice (some ⟨g, 0, none⟩) k k) ?_ h
  have hrun := run_buildSlice (P := P) w t e k (ps.toList.map (fun q => (q.1, ev f q.2))).toArray cs.toArray i z ht hi hz0 (by omega) (by omega) (by simpa using hf)
  simp only [execOp, e1, hrun, Sem.run_bind, Result.andThen_ok, Sem.run_pure]
end
/-! ### Loops: what does not change is said by the frame at the start, or by a letter -/
theorem W_loopF {n : Nat} {P : Program} {ro : Option Nat} {ds : List Deferred} {N : Fr n → World → Prop} {X : Nat → Fr n → World → Prop} {R : List Deferred → Fr n → World → Prop} {f : Fr n} {w : World} {c : Code} (I : Fr n → Nat → Fr n → World → Prop) (m : Nat) (h0 : I f m f w)
    (round : ∀ m f1 w, I f m f1 w → W ro ds P c (fun f' w' => ∃ m', m' < m ∧ I f m' f' w') X R f1 w) : W ro ds P (.loop c) N X R f w := W_loop (I f) m h0 round
section
variable {w0 w : World} {a b c : Asr} {l : List Asr}
theorem Sep.cells1 {g T : Nat} {cs : List Value} (h : Sep w0 w (blk g T cs :: l)) : ∃ cs', Sep w0 w (blk g T cs' :: l) ∧ cs = cs' := ⟨_, h, rfl⟩
theorem Sep.cells2 {g T : Nat} {cs : List Value} (h : Sep w0 w (a :: blk g T cs :: l)) : ∃ cs', Sep w0 w (a :: blk g T cs' :: l) ∧ cs = cs' := ⟨_, h, rfl⟩
theorem Sep.cells3 {g T : Nat} {cs : List Value} (h : Sep w0 w (a :: b :: blk g T cs :: l)) : ∃ cs', Sep w0 w (a :: b :: blk g T cs' :: l) ∧ cs = cs' := ⟨_, h, rfl⟩
theorem Sep.named (h : Sep w0 w l) : ∃ L, Sep w0 w L ∧ l = L := ⟨_, h, rfl⟩
theorem Sep.named1 (h : Sep w0 w (a :: l)) : ∃ L, Sep w0 w (a :: L) ∧ l = L := ⟨_, h, rfl⟩
theorem Sep.named2 (h : Sep w0 w (a :: b :: l)) : ∃ L, Sep w0 w (a :: b :: L) ∧ l = L := ⟨_, h, rfl⟩
theorem Sep.named3 (h : Sep w0 w (a :: b :: c :: l)) : ∃ L, Sep w0 w (a :: b :: c :: L) ∧ l = L := ⟨_, h, rfl⟩
end
end Go.Proofs.YtlmddncoeikfjaaDoor
