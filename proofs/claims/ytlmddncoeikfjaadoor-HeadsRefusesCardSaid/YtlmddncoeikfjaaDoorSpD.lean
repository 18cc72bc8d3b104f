/- Guarded operations without cases, loads at any address, slices, fields. Over any program. -/
import Derived.Test.YtlmddncoeikfjaaDoorSpC
namespace Go.Proofs.YtlmddncoeikfjaaDoor
open Go.RowKit Go.Proofs.YtlmddncoeikfjaaDoorW.PrintWords

theorem enters_some {P : Program} {g : FuncId} {fn : Func} (hf : P.funcs[g]? = some fn) (hname : (fn.name == "runtime.NumGoroutine") = false) (hb : fn.body.isSome = true) : Enters P g := by
  obtain ⟨c, hc⟩ := Option.isSome_iff_exists.1 hb
  exact enters_of hf hname hc

/-! ### 1. A guarded operation's value -/
def gv (b : Bool) (v : Value) : Value := if b = true then v else undef
theorem gv_yes {b : Bool} {v : Value} (h : b = true) : gv b v = v := if_pos h
theorem gv_no {b : Bool} {v : Value} (h : b = false) : gv b v = undef := by subst h; rfl
section
variable {n : Nat} {P : Program} {ops : Array Oper} {K : Fr n → World → Prop} {o : Oper} {rest : List Oper} {f : Fr n} {w : World} {v : Value}
theorem L_qif {j t : Nat} {b c : Bool} (hg : o.guard = some (j, b)) (hd : (ops[j]?).bind (·.dst) = some t) (hv : sl f t = .bool c) (hy : (c == b) = true → (execOp (ev f) o).run P w = .ok (.value v) w) (h : WL P ops K rest (upo f o.dst (gv (c == b) v)) w) : WL P ops K (o :: rest) f w := by
  have hw := gd hg hd hv
  cases hb : c == b with
  | true =>
    rw [hb] at hw h
    exact L_qg hw (hy hb) h
  | false =>
    rw [hb] at hw h
    exact L_skip hw h
theorem L_opif {j t : Nat} {b c : Bool} (hg : o.guard = some (j, b)) (hd : (ops[j]?).bind (·.dst) = some t) (hv : sl f t = .bool c) (hy : (c == b) = true → Op1 P o f w (WL P ops K rest)) (hn : (c == b) = false → WL P ops K rest (upo f o.dst undef) w) : WL P ops K (o :: rest) f w := by
  have hw := gd hg hd hv
  cases hb : c == b with
  | true =>
    rw [hb] at hw
    exact L_opg hw (hy hb)
  | false =>
    rw [hb] at hw
    exact L_skip hw (hn hb)
variable {N : Fr n → World → Prop} {S : World → Prop} {fuel : Nat} {listed : Array Bool}
def okAt (ops : Array Oper) (listed : Array Bool) (i : Nat) : Bool := Region.noSelect ops && (Region.free .any ops listed i && (Region.ready .any ops listed).contains i)
theorem okAt_all {i : Nat} (h : okAt ops listed i = true) : Region.noSelect ops = true ∧ Region.free .any ops listed i = true ∧ (Region.ready .any ops listed).contains i = true := by
  simp only [okAt, Bool.and_eq_true] at h
  exact h
theorem H_q {i : Nat} (hi : ops[i]? = some o) (hk : okAt ops listed i = true)
    (hg : o.guard = none) (hy : ∀ w, S w → (execOp (ev f) o).run P w = .ok (.value v) w) (hS : S w)
    (h : WH P ops N S fuel (listed.setIfInBounds i true) (upo f o.dst v) w) : WH P ops N S (fuel + 1) listed f w :=
  H_take hi (okAt_all hk).1 (okAt_all hk).2.1 (okAt_all hk).2.2 (by simp [Region.wanted, hg]) hy hS h
theorem H_qif {i j t : Nat} {b c : Bool} (hi : ops[i]? = some o) (hk : okAt ops listed i = true)
    (hg : o.guard = some (j, b)) (hd : (ops[j]?).bind (·.dst) = some t) (hv : sl f t = .bool c) (hy : ∀ w, S w → (c == b) = true → (execOp (ev f) o).run P w = .ok (.value v) w) (hS : S w)
    (h : WH P ops N S fuel (listed.setIfInBounds i true) (upo f o.dst (gv (c == b) v)) w) : WH P ops N S (fuel + 1) listed f w := by
  have hw := gd hg hd hv
  cases hb : c == b with
  | true =>
    rw [hb] at hw h
    exact H_take hi (okAt_all hk).1 (okAt_all hk).2.1 (okAt_all hk).2.2 hw (fun w hS => hy w hS hb) hS h
  | false =>
    rw [hb] at hw h
    exact H_skip hi (okAt_all hk).1 (okAt_all hk).2.1 (okAt_all hk).2.2 hw hS h
end

/-! ### 2. Values -/
section
variable {n : Nat} {P : Program} {f : Fr n} {w : World} {d : Option Tmp} {ty : TypeId} {pos : String} {af : Array Edge} {g : Option (Nat × Bool)}
theorem ev_const {v : Value} : ev f (.const v) = v := rfl
theorem y_por {x y : Operand} {a b : Bool} (hx : ev f x = .bool a) (hy : ev f y = gv (a == false) (.bool b)) : (execOp (ev f) ⟨d, .pick x (.const (.bool true)) y, ty, pos, af, g⟩).run P w = .ok (.value (.bool (a || b))) w := by
  cases a <;> simp [execOp, hx, hy, asBool, ev_const, gv]
theorem y_pand {x y : Operand} {a b : Bool} (hx : ev f x = .bool a) (hy : ev f y = gv (a == true) (.bool b)) : (execOp (ev f) ⟨d, .pick x y (.const (.bool false)), ty, pos, af, g⟩).run P w = .ok (.value (.bool (a && b))) w := by
  cases a <;> simp [execOp, hx, hy, asBool, ev_const, gv]
/-- What lies from an address on. -/
def Rg (w : World) (ad : Addr) (cs : List Value) : Prop := ∀ j v, cs[j]? = some v → w.cell? (ad.add j) = some v
theorem rg_of_range {b o : Nat} {cs : List Value} (h : w.rangeAt b o cs) : Rg w ⟨b, o, none⟩ cs := fun j v hv => by rw [Addr.add_mid]; exact h j v hv
theorem Rg.sub {ad : Addr} {cs out : List Value} (h : Rg w ad cs) (o sz : Nat) (ho : (cs.drop o).take sz = out) : Rg w (ad.add o) out := by
  subst ho
  intro j v hv
  rw [List.getElem?_take, List.getElem?_drop] at hv
  split at hv
  · rw [add_add]
    exact h _ _ hv
  · cases hv
theorem isAgg_is {t : TypeId} {b : Bool} (h : (P.underlying t).map TypeDesc.isRow = some b) : (isAgg t).run P w = .ok b w := by
  obtain ⟨u, hu, hb⟩ := Option.map_eq_some_iff.1 h
  unfold isAgg
  rw [Sem.run_bind, run_underlying hu w]
  cases u <;> simp_all
theorem y_fld {t : TypeId} {x : Operand} {ad : Addr} {v : Value} (ht : (P.underlying t).map TypeDesc.isRow = some false) (hx : ev f x = .pointer (some ad)) (hc : Rg w ad [v]) : (execOp (ev f) ⟨d, .load t x, ty, pos, af, g⟩).run P w = .ok (.value v) w := by
  have h1 := hc 0 v rfl
  rw [show ad.add 0 = ad by simp [Addr.add]] at h1
  simp [execOp, hx, Instr.loadAt, Instr.sureAddr, loadVar, isAgg_is ht, h1]
theorem run_loadVar_rg {t : TypeId} {ad : Addr} {cs : List Value} (ht : (P.underlying t).map TypeDesc.isRow = some true) (hsz : (P.info? t).map (·.size) = some cs.length) (hc : Rg w ad cs) : (loadVar t ad).run P w = .ok (.agg cs.toArray) w := by
  obtain ⟨i, hi, hs⟩ := Option.map_eq_some_iff.1 hsz
  have hl := run_loadCells_list (P := P) w ad cs hc
  simp [loadVar, Sem.run_bind, isAgg_is ht, sizeOf, typeInfo, hi, hs, hl]
theorem y_fls {t : TypeId} {x : Operand} {ad : Addr} {cs : List Value} (ht : (P.underlying t).map TypeDesc.isRow = some true) (hsz : (P.info? t).map (·.size) = some cs.length) (hx : ev f x = .pointer (some ad)) (hc : Rg w ad cs) : (execOp (ev f) ⟨d, .load t x, ty, pos, af, g⟩).run P w = .ok (.value (.agg cs.toArray)) w := by
  simp [execOp, hx, Instr.loadAt, Instr.sureAddr, run_loadVar_rg ht hsz hc]
theorem y_fad {s : TypeId} {x : Operand} {k off : Nat} {ad : Addr} (hfa : ∀ (a : Addr) (w : World), (Instr.fieldAt s (.pointer (some a)) k).run P w = .ok (.pointer (some (a.add off))) w) (hx : ev f x = .pointer (some ad)) : (execOp (ev f) ⟨d, .fieldAddr s x k, ty, pos, af, g⟩).run P w = .ok (.value (.pointer (some (ad.add off)))) w := by
  simp only [execOp, hx, Sem.run_bind, hfa, Result.andThen_ok, Sem.run_pure]
/-- A row's element. -/
theorem Kd.C_at {α : Type} {D : Kd α} {A : Option Addr} {m : Nat} {xs : List α} (h : D.C w A m xs) (z : α) (i : Int) (h0 : 0 ≤ i) (h1 : i < m) : ∃ ad c, A = some ad ∧ D.K w (xs.getD i.toNat z) c ∧ Rg w (ad.add (i.toNat * D.sz)) c := by
  obtain ⟨ad, c, e, _, hK, hc⟩ := Kd.C_get h z i h0 h1
  exact ⟨ad, c, e, hK, fun j u hj => by rw [add_add]; exact hc j u hj⟩
theorem Kd.C_int {k : IntKind} {A : Option Addr} {m : Nat} {xs : List Int} (h : (Kd.int k).C w A m xs) (i : Int) (h0 : 0 ≤ i) (h1 : i < m) : ∃ ad, A = some ad ∧ Rg w (ad.add (i.toNat * 1)) [.int k (rd xs i)] := by
  obtain ⟨ad, e, hc⟩ := Kd.at_int h i h0 h1
  refine ⟨ad, e, fun j u hj => ?_⟩
  cases j with
  | zero => simp only [List.getElem?_cons_zero, Option.some.injEq] at hj; subst hj; simpa [Addr.add] using hc
  | succ j => simp at hj
theorem run_bound {k : IntKind} {a : Int} {y : Nat} {code : BoundsCode} (h0 : 0 ≤ a) (h1 : a ≤ y) : (Instr.sliceBound (.int k a) y code).run P w = .ok a.toNat w := by
  simp [Instr.sliceBound, asIntOf, h0, h1]
/-- l[a:b] -/
theorem y_slc {t e : TypeId} {x lo hi : Operand} {A : Option Addr} {m c : Nat} {a b : Int} {k k' : IntKind} {sz : Nat} (ht : P.underlying t = some (.slice e)) (hsz : (P.info? e).map (·.size) = some sz) (hx : ev f x = .slice A m c) (hlo : ev f lo = .int k a) (hhi : ev f hi = .int k' b) (h0 : 0 ≤ a) (h1 : a ≤ b) (h2 : b ≤ c) :
    (execOp (ev f) ⟨d, .slice t x (some lo) (some hi) none, ty, pos, af, g⟩).run P w = .ok (.value (.slice (if c = a.toNat then A else A.map (·.add (a.toNat * sz))) (b.toNat - a.toNat) (c - a.toNat))) w := by
  obtain ⟨i, hi', hs⟩ := Option.map_eq_some_iff.1 hsz
  simp [execOp, hx, hlo, hhi, Instr.sliceAt, Instr.slice, run_underlying ht, sizeOf, typeInfo, hi', hs, Instr.sliceBounds, run_bound (P := P) (w := w) (k := k') (code := .sliceAcap) (by omega : 0 ≤ b) h2, run_bound (P := P) (w := w) (k := k) (y := b.toNat) (code := .sliceB) h0 (by omega)]
theorem y_slcn {t e : TypeId} {x lo hi : Operand} {A : Option Addr} {m c n' : Nat} {a b : Int} {k k' : IntKind} {sz : Nat} (ht : P.underlying t = some (.slice e)) (hsz : (P.info? e).map (·.size) = some sz) (hx : ev f x = .slice A m c) (hlo : ev f lo = .int k a) (hhi : ev f hi = .int k' b) (h0 : 0 ≤ a) (h1 : a ≤ b) (h2 : b ≤ c) (hn : b.toNat - a.toNat = n') :
    (execOp (ev f) ⟨d, .slice t x (some lo) (some hi) none, ty, pos, af, g⟩).run P w = .ok (.value (.slice (if c = a.toNat then A else A.map (·.add (a.toNat * sz))) n' (c - a.toNat))) w := by
  subst hn
  exact y_slc ht hsz hx hlo hhi h0 h1 h2
theorem y_slc_hi {t e : TypeId} {x hi : Operand} {A : Option Addr} {m c : Nat} {b : Int} {k' : IntKind} {sz : Nat} (ht : P.underlying t = some (.slice e)) (hsz : (P.info? e).map (·.size) = some sz) (hx : ev f x = .slice A m c) (hhi : ev f hi = .int k' b) (h1 : 0 ≤ b) (h2 : b ≤ c) :
    (execOp (ev f) ⟨d, .slice t x none (some hi) none, ty, pos, af, g⟩).run P w = .ok (.value (.slice A b.toNat c)) w := by
  obtain ⟨i, hi', hs⟩ := Option.map_eq_some_iff.1 hsz
  cases A <;> simp [execOp, hx, hhi, Instr.sliceAt, Instr.slice, run_underlying ht, sizeOf, typeInfo, hi', hs, Instr.sliceBounds, run_bound (P := P) (w := w) (k := k') (code := .sliceAcap) h1 h2, Addr.add]
theorem y_mkf {fn : Fn} {first captured : Array Operand} {a c : List Value} (ha : first.toList.map (ev f) = a) (hc : captured.toList.map (ev f) = c) : (execOp (ev f) ⟨d, .makeFunc fn first captured, ty, pos, af, g⟩).run P w = .ok (.value (.func fn a.toArray c.toArray)) w := by
  subst ha hc
  have e : ∀ x : Array Operand, x.map (ev f) = (x.toList.map (ev f)).toArray := fun x => Array.ext' (Array.toList_map)
  simp only [execOp, e]
  simp [Instr.makeFunc]
end
theorem x_hit {A B : Prop} {id : Nat} (h : A) : if id = id then A else B := by rw [if_pos rfl]; exact h
theorem x_far {A B : Prop} {id j : Nat} (hne : ¬ j = id) (h : B) : if j = id then A else B := by rw [if_neg hne]; exact h
end Go.Proofs.YtlmddncoeikfjaaDoor
