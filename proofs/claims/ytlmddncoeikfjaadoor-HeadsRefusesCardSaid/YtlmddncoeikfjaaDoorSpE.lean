/- Calls behind guards, and in regions that draw. Over any program. -/
import Derived.Test.YtlmddncoeikfjaaDoorSpD
namespace Go.Proofs.YtlmddncoeikfjaaDoor
open Go.RowKit Go.Proofs.YtlmddncoeikfjaaDoorW.PrintWords
section
variable {n : Nat} {f : Fr n} {x y z u t : Operand} {a b c d e : Value}
theorem args1 (hx : ev f x = a) : [x].map (ev f) = [a] := by simp [hx]
theorem args2 (hx : ev f x = a) (hy : ev f y = b) : [x, y].map (ev f) = [a, b] := by simp [hx, hy]
theorem args3 (hx : ev f x = a) (hy : ev f y = b) (hz : ev f z = c) : [x, y, z].map (ev f) = [a, b, c] := by simp [hx, hy, hz]
theorem args4 (hx : ev f x = a) (hy : ev f y = b) (hz : ev f z = c) (hu : ev f u = d) : [x, y, z, u].map (ev f) = [a, b, c, d] := by simp [hx, hy, hz, hu]
theorem args5 {v : Operand} {p : Value} (hx : ev f x = a) (hy : ev f y = b) (hz : ev f z = c) (hu : ev f u = d) (hv : ev f v = p) : [x, y, z, u, v].map (ev f) = [a, b, c, d, p] := by simp [hx, hy, hz, hu, hv]
end
section
variable {n : Nat} {P : Program} {ops : Array Oper} {K : Fr n → World → Prop} {rest : List Oper} {f : Fr n} {w0 w wS : World} {l : List Asr} {d : Option Tmp} {ty : TypeId} {pos : String} {af : Array Edge} {N : Fr n → World → Prop} {fuel : Nat} {listed : Array Bool} {h : FuncId} {x : Array Operand} {tys : Array TypeId} {args : List Value} {X : Value} {R : Value → World → Prop}
/-- A guarded call with one answer. -/
theorem L_callif {j t : Nat} {b c : Bool} (hd : (ops[j]?).bind (·.dst) = some t) (hv : sl f t = .bool c) (hen : Enters P h) (hargs : (c == b) = true → x.toList.map (ev f) = args) (hs : Sep w0 w l) (hc : (c == b) = true → Cal P h args.toArray w fun v w1 => Below w.heap.size w w1 ∧ v = X)
    (hk : ∀ v w1, Below w.heap.size w w1 → Sep w0 w1 l → v = gv (c == b) X → WL P ops K rest (upo f d v) w1) : WL P ops K (⟨d, .call { callee := .value (.func h), args := x, argTypes := tys }, ty, pos, af, some (j, b)⟩ :: rest) f w := by
  refine L_opif rfl hd hv (fun hb => ?_) (fun hb => ?_)
  · refine o_call hen (hargs hb) hs (R := fun v _ => v = X) (hc hb) fun v w1 h1 h2 h3 => hk v w1 h1 h2 ?_
    rw [gv_yes hb]
    exact h3
  · exact hk undef w (Below.refl _ _) hs (by rw [gv_no hb])
end
/-! ### A region that draws: S is what is owned and only read -/
def maskL : List Bool → List Asr → List Asr
  | true :: m, a :: l => a :: maskL m l
  | false :: m, _ :: l => maskL m l
  | _, _ => []
theorem SepIn.keep {w : World} : ∀ (m : List Bool) {l : List Asr} {U : Nat → Prop}, SepIn w U l → SepIn w U (maskL m l)
  | [], _, _, _ => trivial
  | true :: _, [], _, _ => trivial
  | false :: _, [], _, _ => trivial
  | true :: m, _ :: _, _, ⟨S, h1, h2, h3⟩ => ⟨S, h1, h2, SepIn.keep m h3⟩
  | false :: m, _ :: _, _, ⟨_, _, _, h3⟩ => SepIn.keep m (h3.mono fun _ hk => hk.1)
theorem Sep.keep {w0 w : World} {l : List Asr} (h : Sep w0 w l) (m : List Bool) : Sep w0 w (maskL m l) := ⟨h.below, h.sep.keep m⟩
section
variable {n : Nat} {P : Program} {ro : Option Nat} {ds : List Deferred} {ops : Array Oper} {N : Fr n → World → Prop} {X : Nat → Fr n → World → Prop} {Rr : List Deferred → Fr n → World → Prop} {f : Fr n} {w0 w : World} {l : List Asr} {d : Option Tmp} {ty : TypeId} {pos : String} {af : Array Edge} {fuel : Nat} {listed : Array Bool} {h : FuncId} {x : Array Operand} {tys : Array TypeId} {args : List Value} {V : Value} {R : Value → World → Prop} {S : World → Prop}
theorem W_drawS {id : Nat} (hm : P.follows .mixedOrders = true) (m : List Bool) (hs : Sep w0 w l) (h : ∀ w1, Sep w0 w1 l → WH P ops N (fun w' => Sep w0 w' (maskL m l)) ops.size (Array.replicate ops.size false) f w1) (hnd : noDefer ops = true := by rfl) : W ro ds P (.region id ops true) N X Rr f w := W_draw hm _ (h _ hs.drew) hnd
theorem H_opif {i j t : Nat} {b c : Bool} {o : Oper} (hi : ops[i]? = some o) (hr : Region.ready .any ops listed = [i]) (ho : okAt ops listed i = true) (hg : o.guard = some (j, b)) (hd : (ops[j]?).bind (·.dst) = some t) (hv : sl f t = .bool c) (hS : S w)
    (hy : (c == b) = true → Op1 P o f w (fun f' w' => S w' ∧ WH P ops N S fuel (listed.setIfInBounds i true) f' w')) (hn : (c == b) = false → WH P ops N S fuel (listed.setIfInBounds i true) (upo f o.dst undef) w) : WH P ops N S (fuel + 1) listed f w := by
  have hw := gd hg hd hv
  cases hb : c == b with
  | true =>
    rw [hb] at hw
    exact H_loud hi hr hw (hy hb)
  | false =>
    rw [hb] at hw
    exact H_skip hi (okAt_all ho).1 (okAt_all ho).2.1 (okAt_all ho).2.2 hw hS (hn hb)
theorem H_callif {i j t : Nat} {b c : Bool} (hi : ops[i]? = some ⟨d, .call { callee := .value (.func h), args := x, argTypes := tys }, ty, pos, af, some (j, b)⟩) (hr : Region.ready .any ops listed = [i]) (ho : okAt ops listed i = true) (hd : (ops[j]?).bind (·.dst) = some t) (hv : sl f t = .bool c) (hen : Enters P h) (hargs : (c == b) = true → x.toList.map (ev f) = args) (hs : Sep w0 w l) (hS : ∀ w1, Sep w0 w1 l → S w1) (hc : (c == b) = true → Cal P h args.toArray w fun v w1 => Below w.heap.size w w1 ∧ v = V)
    (hk : ∀ v w1, Below w.heap.size w w1 → Sep w0 w1 l → v = gv (c == b) V → WH P ops N S fuel (listed.setIfInBounds i true) (upo f d v) w1) : WH P ops N S (fuel + 1) listed f w := by
  refine H_opif hi hr ho rfl hd hv (hS _ hs) (fun hb => ?_) (fun hb => ?_)
  · refine o_call hen (hargs hb) hs (R := fun v _ => v = V) (hc hb) fun v w1 h1 h2 h3 => ⟨hS _ h2, hk v w1 h1 h2 ?_⟩
    rw [gv_yes hb]
    exact h3
  · exact hk undef w (Below.refl _ _) hs (by rw [gv_no hb])
end
/-! ### Many assertions as one -/
def bagA (l : List Asr) : Asr where
  holds := fun w S => SepIn w S l
  move := fun hm h => SepIn.move hm h
theorem SepIn.bag {w : World} : ∀ (k : Nat) {l : List Asr} {U : Nat → Prop}, SepIn w U l → ∃ S : Nat → Prop, (∀ j, S j → U j) ∧ SepIn w S (l.take k) ∧ SepIn w (fun j => U j ∧ ¬ S j) (l.drop k)
  | 0, l, U, h => ⟨fun _ => False, fun _ h => h.elim, trivial, h.mono fun _ hk => ⟨hk, fun h => h⟩⟩
  | k + 1, [], U, _ => ⟨fun _ => False, fun _ h => h.elim, trivial, trivial⟩
  | k + 1, a :: l, U, ⟨S, h1, h2, h3⟩ => by
    obtain ⟨S', h4, h5, h6⟩ := SepIn.bag k h3
    refine ⟨fun j => S j ∨ S' j, fun j hj => hj.elim (h1 j) (fun h => (h4 j h).1), ⟨S, fun j hj => .inl hj, h2, h5.mono fun j hj => ⟨.inr hj, (h4 j hj).2⟩⟩, h6.mono fun j hj => ⟨hj.1.1, fun h => h.elim hj.1.2 hj.2⟩⟩
theorem Sep.bag {w0 w : World} {l : List Asr} (h : Sep w0 w l) (k : Nat) : Sep w0 w (bagA (l.take k) :: l.drop k) := by
  obtain ⟨S, h1, h2, h3⟩ := SepIn.bag k h.sep
  exact ⟨h.below, S, h1, h2, h3⟩
theorem Sep.conv {w0 w : World} {l : List Asr} {a a' : Asr} (h : Sep w0 w (a :: l)) (hc : ∀ S, a.holds w S → a'.holds w S) : Sep w0 w (a' :: l) := by
  obtain ⟨hb, S, h1, h2, h3⟩ := h
  exact ⟨hb, S, h1, hc S h2, h3⟩
theorem SepIn.row {w : World} {l : List Asr} {S : Nat → Prop} (h : SepIn w S l) {B : Nat} {α : Type} {D : Kd α} {e : Nat} {v : Value} {xs : List α} (i : Nat) (ha : l[i]? = some (row B D e v xs)) : D.R e w B S v xs := by
  obtain ⟨S', h1, h2⟩ := h.get i ha
  exact Kd.R_mono h2 h1
theorem SepIn.own {w : World} {l : List Asr} {S : Nat → Prop} (h : SepIn w S l) {B : Nat} {α : Type} {D : Kd α} {x : α} {cs : List Value} (i : Nat) (ha : l[i]? = some (own B D x cs)) : D.M w B S x cs := by
  obtain ⟨S', h1, h2⟩ := h.get i ha
  exact D.M_mono h1 h2
theorem Sep.out {w0 w : World} {l : List Asr} (h : Sep w0 w l) : SepIn w (fun _ => True) l := h.sep.mono fun _ _ => trivial
theorem Rg.below {w w1 : World} {ad : Addr} {cs : List Value} (h : Rg w ad cs) (hb : Below w.heap.size w w1) : Rg w1 ad cs := fun j v hv => (hb.cell (World.block_lt_of_cell? w _ (h j v hv))).trans (h j v hv)
theorem Sep.hide {w0 w : World} {l : List Asr} {Q : World → Prop} (hs : Sep w0 w l) (h : ∀ w, Sep w0 w l → Q w) : ∃ l', Sep w0 w l' ∧ ∀ w, Sep w0 w l' → Q w := ⟨l, hs, h⟩
section
variable {n : Nat} {P : Program} {f : Fr n} {w : World} {d : Option Tmp} {ty : TypeId} {pos : String} {af : Array Edge} {g : Option (Nat × Bool)}
/-- An array's element. -/
theorem y_iaa {t e : TypeId} {x y : Operand} {A : Addr} {m : Nat} {i : Int} {k : IntKind} {sz : Nat} (ht : P.underlying t = some (.array m e)) (hsz : (P.info? e).map (·.size) = some sz) (hx : ev f x = .pointer (some A)) (hy : ev f y = .int k i) (h0 : 0 ≤ i) (h1 : i < m) : (execOp (ev f) ⟨d, .indexAddr t x y, ty, pos, af, g⟩).run P w = .ok (.value (.pointer (some (A.add (i.toNat * sz))))) w := by
  obtain ⟨j, hj, rfl⟩ := Option.map_eq_some_iff.1 hsz
  simp [execOp, hx, hy, Instr.indexAt, Instr.sureAddr, asIntOf, run_underlying ht, sizeOf, typeInfo, hj, h0, h1]
theorem rg_ints {k : IntKind} {ad : Addr} {l : List Int} (h : Rg w ad (l.map (Value.int k))) {i : Int} (h0 : 0 ≤ i) (h1 : i < l.length) : Rg w (ad.add (i.toNat * 1)) [.int k (l.getD i.toNat 0)] := by
  have hi : i.toNat < l.length := by omega
  refine h.sub _ 1 ?_ |> fun q => by rwa [Nat.mul_one]
  rw [List.drop_eq_getElem_cons (by simpa using hi)]
  simp [hi]
end
section
variable {n : Nat} {P : Program} {ops : Array Oper} {K : Fr n → World → Prop} {f : Fr n} {w0 w wS : World} {l : List Asr} {d : Option Tmp} {ty : TypeId} {pos : String} {af : Array Edge} {g : Option (Nat × Bool)} {h : FuncId} {x : Array Operand} {tys : Array TypeId} {args : List Value}
/-- A call that makes a row, or data. -/
theorem o_callR {α : Type} {D : Kd α} {e : Nat} {xs : List α} (hen : Enters P h) (hargs : x.toList.map (ev f) = args) (hs : Sep w0 w l) (hc : Cal P h args.toArray w fun v w1 => Below w.heap.size w w1 ∧ D.R e w1 w.heap.size (fun _ => True) v xs) (hk : ∀ v w1, Below w.heap.size w w1 → Sep w0 w1 (row w0.heap.size D e v xs :: l) → K (upo f d v) w1) : Op1 P ⟨d, .call { callee := .value (.func h), args := x, argTypes := tys }, ty, pos, af, g⟩ f w K :=
  o_calls hen (captured := #[]) rfl hargs (R := fun v w1 => Below w.heap.size w w1 ∧ D.R e w1 w.heap.size (fun _ => True) v xs) (by simpa using hc) (fun v w1 hr => hk v w1 hr.1 (hs.madeR hr.1 hr.2 (Nat.le_refl _)))
theorem o_callM {α : Type} {D : Kd α} {y : α} (hen : Enters P h) (hargs : x.toList.map (ev f) = args) (hs : Sep w0 w l) (hc : Cal P h args.toArray w fun v w1 => Below w.heap.size w w1 ∧ ∃ cs, v = .agg cs.toArray ∧ D.M w1 w.heap.size (fun _ => True) y cs) (hk : ∀ cs w1, Below w.heap.size w w1 → Sep w0 w1 (own w0.heap.size D y cs :: l) → K (upo f d (.agg cs.toArray)) w1) : Op1 P ⟨d, .call { callee := .value (.func h), args := x, argTypes := tys }, ty, pos, af, g⟩ f w K :=
  o_calls hen (captured := #[]) rfl hargs (R := fun v w1 => Below w.heap.size w w1 ∧ ∃ cs, v = .agg cs.toArray ∧ D.M w1 w.heap.size (fun _ => True) y cs) (by simpa using hc) (fun v w1 hr => by
    obtain ⟨hb, cs, rfl, hm⟩ := hr
    exact hk cs w1 hb (hs.made hb hm (Nat.le_refl _)))
end
section
variable {n : Nat} {P : Program} {K : Fr n → World → Prop} {f : Fr n} {w0 w : World} {l : List Asr} {d : Option Tmp} {ty : TypeId} {pos : String} {af : Array Edge} {g : Option (Nat × Bool)}
/-- A number is put into an own row. -/
theorem o_rput {α : Type} {enc : α → Value} {h1 : ∀ x, (enc x).oneCell' = true} {e T' : TypeId} {x y : Operand} {g' cap m : Nat} {xs : List α} {i : Int} {p : α} (hsz : (P.info? T').map (·.size) = some 1) (hx : ev f x = .pointer (some ((⟨g', 0, none⟩ : Addr).add (i.toNat * 1)))) (hy : ev f y = enc p) (hc : (enc p).cells.toList = [enc p]) (hs : Sep w0 w (row w0.heap.size (Kd.scalar enc h1) e (.slice (some ⟨g', 0, none⟩) m cap) xs :: l)) (hm : xs.length = m) (h0 : 0 ≤ i) (hi : i < m)
    (h : ∀ w1, Sep w0 w1 (row w0.heap.size (Kd.scalar enc h1) e (.slice (some ⟨g', 0, none⟩) m cap) (xs.set i.toNat p) :: l) → K (upo f d undef) w1) : Op1 P ⟨d, .store T' x y, ty, pos, af, g⟩ f w K := by
  subst hm
  obtain ⟨S, hS, hR, hto⟩ := hs.take
  have hR' : (Kd.scalar enc h1).R e w w0.heap.size S (.slice (some ⟨g', 0, none⟩) xs.length cap) xs := hR
  obtain ⟨hput, hgr⟩ := Kd.R_put hR' i p
  have hSg : S g' := hR'.1 g' rfl
  have hown := Kd.own_of_R hR'
  rcases hown.2 with ⟨hv, _⟩ | ⟨g1, cap1, cur, hv, hb, hh, hnc, hcm, hcs, _⟩
  · cases hv
  injection hv with ha _ hcc
  injection ha with ha
  injection ha with hg1
  subst hg1; subst hcc
  rw [Nat.mul_one, add_at, Nat.zero_add] at hx
  have hrun := run_store_run (P := P) (o := i.toNat) T' (enc p) [enc p] hh hc hsz (by simp; omega) (by simp [h1])
  constructor
  unfold Op0
  simp only [execOp, hx, hy, Sem.run_bind, hrun, Result.andThen_ok, Sem.run_pure]
  exact h _ (hto _ _ _ ⟨hgr.os, hgr.tape, hgr.output, hgr.size, fun k hk hk2 => hgr.block k hk (fun he => by injection he with he; exact hk2 (he ▸ hSg))⟩ hput (fun k hk => .inl hk))
end
end Go.Proofs.YtlmddncoeikfjaaDoor
