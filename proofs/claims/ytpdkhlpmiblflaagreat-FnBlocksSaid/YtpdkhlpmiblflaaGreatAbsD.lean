import Derived.Test.YtpdkhlpmiblflaaGreatAbsC
import Derived.Lib.SliceRun
/- Abs, part 38: contracts whose objects own objects. -/
set_option linter.unusedVariables false
set_option linter.unusedSimpArgs false
namespace Go.Proofs.YtpdkhlpmiblflaaGreat.Abs
open Go Go.RowKit
variable {P : Program} {T : TT} {C : Ctx}

def renXs (ks : List Nat) : List (List D) → Option (List (List D))
  | [] => some []
  | x :: xs => match renCL ks x, renXs ks xs with
    | some y, some ys => some (y :: ys)
    | _, _ => none
theorem renCL_get {ks : List Nat} : ∀ {x y : List D}, renCL ks x = some y → x.length = y.length ∧ ∀ (j : Nat) d, x[j]? = some d → ∃ e, y[j]? = some e ∧ renC ks d = some e
  | [], y, h => by simp only [renCL, Option.some.injEq] at h; subst h; exact ⟨rfl, fun j d h => by simp at h⟩
  | d :: ds, y, h => by
    simp only [renCL] at h
    split at h
    · rename_i e es h1 h2
      cases h
      obtain ⟨h3, h4⟩ := renCL_get h2
      refine ⟨by simp [h3], fun j d' hj => ?_⟩
      cases j with
      | zero => simp at hj; subst hj; exact ⟨e, rfl, h1⟩
      | succ j => obtain ⟨e', h5, h6⟩ := h4 j d' (by simpa using hj); exact ⟨e', by simpa using h5, h6⟩
    · cases h
theorem renXs_get {ks : List Nat} : ∀ {xs ys : List (List D)}, renXs ks xs = some ys → xs.length = ys.length ∧ ∀ (i : Nat) x, xs[i]? = some x → ∃ y, ys[i]? = some y ∧ renCL ks x = some y
  | [], y, h => by simp only [renXs, Option.some.injEq] at h; subst h; exact ⟨rfl, fun j d h => by simp at h⟩
  | d :: ds, y, h => by
    simp only [renXs] at h
    split at h
    · rename_i e es h1 h2
      cases h
      obtain ⟨h3, h4⟩ := renXs_get h2
      refine ⟨by simp [h3], fun j d' hj => ?_⟩
      cases j with
      | zero => simp at hj; subst hj; exact ⟨e, rfl, h1⟩
      | succ j => obtain ⟨e', h5, h6⟩ := h4 j d' (by simpa using hj); exact ⟨e', by simpa using h5, h6⟩
    · cases h
theorem renC_P {ks : List Nat} {w : World} {F : Nat → Prop} {e d : D} {u : Value} (h : renC ks e = some d) (hr : RepP w F d u) : RepP w F e u := by
  cases e <;> simp only [renC, Option.map_eq_some_iff, reduceCtorEq, Option.some.injEq] at h
  case own => obtain ⟨k, _, rfl⟩ := h; cases hr
  case vw => obtain ⟨k, _, rfl⟩ := h; cases hr
  case cvw => obtain ⟨k, _, rfl⟩ := h; cases hr
  case ptr => obtain ⟨k, _, rfl⟩ := h; cases hr
  all_goals (subst h; exact hr)
def FitsG (ks : List Nat) (ob o : Ob) : Prop := ob.ty = o.ty ∧ ob.sz = o.sz ∧ renXs ks o.xs = some ob.xs ∧ (o.deep = true ∨ ob.deep = false ∨ ∀ x ∈ ob.xs, x.all hf = true)
def ObjsG (hp : HP) (KS : List Nat) : List Nat → List Ob → Prop
  | [], [] => True
  | k :: ks, o :: os => (∃ ob, lk k hp = some ob ∧ FitsG KS ob o) ∧ ObjsG hp KS ks os
  | _, _ => False
theorem objsG_get {hp : HP} {KS : List Nat} : ∀ {ks : List Nat} {os : List Ob}, ObjsG hp KS ks os → ks.length = os.length ∧ ∀ (i : Nat) o, os[i]? = some o → ∃ k ob, ks[i]? = some k ∧ lk k hp = some ob ∧ FitsG KS ob o
  | [], [], _ => ⟨rfl, fun i o h => by simp at h⟩
  | k :: ks, o :: os, h => by
    obtain ⟨h1, h2⟩ := objsG_get h.2
    refine ⟨by simp [h1], fun i o' hi => ?_⟩
    cases i with
    | zero => simp at hi; subst hi; obtain ⟨ob, h3, h4⟩ := h.1; exact ⟨k, ob, rfl, h3, h4⟩
    | succ i => obtain ⟨k', ob, h3, h4⟩ := h2 i o' (by simpa using hi); exact ⟨k', ob, by simpa using h3, h4⟩
  | [], _ :: _, h => h.elim
  | _ :: _, [], h => h.elim
theorem objsG_cons {hp : HP} {KS : List Nat} {k : Nat} {ks : List Nat} {ob o : Ob} {os : List Ob} (h1 : lk k hp = some ob) (h2 : ob.ty = o.ty) (h3 : ob.sz = o.sz) (h4 : renXs KS o.xs = some ob.xs) (h5 : o.deep = true ∨ ob.deep = false ∨ ∀ x ∈ ob.xs, x.all hf = true) (h : ObjsG hp KS ks os) : ObjsG hp KS (k :: ks) (o :: os) := ⟨⟨ob, h1, h2, h3, h4, h5⟩, h⟩
theorem objsG_nil {hp : HP} {KS : List Nat} : ObjsG hp KS [] [] := trivial
theorem fits_cells {ks : List Nat} {ob o : Ob} (h : FitsG ks ob o) : o.xs.length = ob.xs.length ∧ ∀ (i j : Nat) x e, o.xs[i]? = some x → x[j]? = some e → ∃ y d, ob.xs[i]? = some y ∧ y[j]? = some d ∧ renC ks e = some d := by
  obtain ⟨h1, h2⟩ := renXs_get h.2.2.1
  refine ⟨h1, fun i j x e hi hj => ?_⟩
  obtain ⟨y, hy, h3⟩ := h2 i x hi
  obtain ⟨d, hd, h4⟩ := (renCL_get h3).2 j e hj
  exact ⟨y, d, hy, hd, h4⟩
theorem fits_grid {ks : List Nat} {ob o : Ob} (h : FitsG ks ob o) (hg : Grid ob.sz ob.xs) : Grid o.sz o.xs := fun x hx => by
  obtain ⟨h1, h2⟩ := renXs_get h.2.2.1
  obtain ⟨i, hi⟩ := List.getElem?_of_mem hx
  obtain ⟨y, hy, h3⟩ := h2 i x hi
  rw [(renCL_get h3).1, ← h.2.1]
  exact hg y (List.mem_of_getElem? hy)
theorem fits_rep {ks : List Nat} {ob o : Ob} (h : FitsG ks ob o) {L L' : LF} {w : World} {F F' : Nat → Prop} (hL : ∀ (i k : Nat) x, ks[i]? = some k → L k = some x → L' i = some x) (hF : ∀ b, F b → F' b) {i j : Nat} {y : List D} {e d : D} {u : Value} (hi : ob.xs[i]? = some y) (hj : y[j]? = some d) (hr : renC ks e = some d) (hu : RepO ob.deep L w F d u) : RepO o.deep L' w F' e u := by
  cases hd : o.deep with
  | true => simp only [RepO, if_true]; exact renC_back hL hF hr hu.toC
  | false =>
    simp only [RepO, Bool.false_eq_true, if_false]
    have hp : RepP w F d u := by
      rcases h.2.2.2 with h1 | h1 | h1
      · rw [hd] at h1; cases h1
      · simpa [RepO, h1] using hu
      · exact repP_of_hf (List.all_eq_true.1 (h1 y (List.mem_of_getElem? hi)) d (List.mem_of_getElem? hj)) hu.toC
    exact (renC_P hr hp).mono (fun b hb => ⟨hF b hb, rfl⟩)
def FinG {X : Type} (T : TT) (rs : List ResultVar) (s : Spec X) (m : Nat) (x : X) (st : St) : Prop :=
  ∃ d ks, outD T st.sl st.hp rs = some d ∧ ren (List.range m ++ ks) (s.res x) = some d ∧ ObjsG st.hp (List.range m ++ ks) (List.range m ++ ks) (s.out x ++ s.new x) ∧ (List.range m ++ ks).Nodup
def bodyG {X : Type} (T : TT) (rs : List ResultVar) (s : Spec X) (m : Nat) (x : X) : Exit → St → Prop
  | .normal, st | .ret, st => FinG T rs s m x st
  | _, _ => False
theorem finG_mk {X : Type} {rs : List ResultVar} {s : Spec X} {m : Nat} {x : X} {st : St} (ks : List Nat) {d d' : D} (hd : outD T st.sl st.hp rs = some d) (hr : ren (List.range m ++ ks) (s.res x) = some d') (he : d' = d) (ho : ObjsG st.hp (List.range m ++ ks) (List.range m ++ ks) (s.out x ++ s.new x)) (hn : (List.range m ++ ks).Nodup) : FinG T rs s m x st :=
  ⟨d, ks, hd, he ▸ hr, ho, hn⟩
theorem fn_okG {X : Type} {s : Spec X} {f : FuncId} {fn : Func} {c : Code} (n m : Nat) (hT : TOk P T) (hf : P.funcs[f]? = some fn) (hb : fn.body = some c) (hent : ∀ args w, (callFunc f args).run P w = .ok (.enter f args) w)
    (hargs : ∀ x, (s.args x).length = n) (hobs : ∀ x, (s.obs x).length = m) (hout : ∀ x, (s.out x).map Ob.sz = (s.obs x).map Ob.sz)
    (h : ∀ x, s.pre x → ∀ C : Ctx, C.P = P → C.N = n + (fn.ntmps - n) → C.m = m → (∀ b, C.w0.heap.size ≤ b → C.G b) → awp C c (bodyG T fn.results.toList s m x) ⟨numD 0 (s.args x), numbered 0 (s.obs x), m⟩) : FnOk P f s := by
  refine ⟨hent, fun x hx => ⟨hout x, fun w S G hv vs hG hI hA => ?_⟩⟩
  have hn : vs.length = n := by rw [← repAL_length hA, hargs]
  refine calls_of_wp hf hb ?_
  have hInv : Inv ⟨P, n + (fn.ntmps - n), w, S, G, m, hv⟩ ⟨numD 0 (s.args x), numbered 0 (s.obs x), m⟩ { tmps := vs.toArray ++ Array.replicate (fn.ntmps - vs.toArray.size) undef, defers := [] } w := by
    refine ⟨hv, hI, fun h ob hl => ?_, Nat.le_refl _, fun _ _ _ _ => rfl, ⟨rfl, by simp [hn], fun t d hl => ?_⟩⟩
    · rw [lk_numbered] at hl
      simp only [Nat.zero_le, if_true, Nat.sub_zero] at hl
      have := (List.getElem?_eq_some_iff.1 hl).1
      rw [hobs] at this
      exact this
    · rw [lk_numD] at hl
      simp only [Nat.zero_le, if_true, Nat.sub_zero] at hl
      obtain ⟨u, hu, hr⟩ := repAL_get hA t d hl
      have htl : t < vs.length := (List.getElem?_eq_some_iff.1 hu).1
      have : (vs.toArray ++ Array.replicate (fn.ntmps - vs.toArray.size) undef).getD t undef = u := by
        rw [Array.getD_eq_getD_getElem?, Array.getElem?_append_left (by simpa using htl)]
        simp [hu]
      rw [this]
      exact repA_D hr
  refine wp_mono (h x hx ⟨P, n + (fn.ntmps - n), w, S, G, m, hv⟩ rfl rfl rfl hG _ w hInv) (fun e a' w' ⟨st', h1, h2⟩ => ?_)
  obtain ⟨hv', hH, hk, hmn, hpin, hS⟩ := h2
  have fin : FinG T fn.results.toList s m x st' → a'.defers = [] ∧ ∃ v, (results fn a'.tmps).run P w' = .ok v w' ∧ ∃ v0 hv'', Ending.returned v = .returned v0 ∧ HInv w S G hv'' (numbered 0 (s.out x ++ s.new x)) w' ∧ (∀ i, i < (s.obs x).length → hv'' i = hv i) ∧
      Rep (LOf hv'' (numbered 0 (s.out x ++ s.new x))) w' (FOf G hv'' (numbered 0 (s.out x ++ s.new x)) w') (s.res x) v0 := fun ⟨d, ks0, hd, hren, hobj, hnd⟩ => by
    obtain ⟨v, hrun, hrep⟩ := outD_ok hT hH hS hd
    obtain ⟨ks, hks⟩ : ∃ ks, ks = List.range m ++ ks0 := ⟨_, rfl⟩
    rw [← hks] at hren hobj hnd
    obtain ⟨hkl, hget⟩ := objsG_get hobj
    have hlk : ∀ i o, lk i (numbered 0 (s.out x ++ s.new x)) = some o → ∃ k ob, ks[i]? = some k ∧ lk k st'.hp = some ob ∧ FitsG ks ob o := fun i o hi => by
      rw [lk_numbered] at hi
      simp only [Nat.zero_le, if_true, Nat.sub_zero] at hi
      exact hget i o hi
    have hgd : ∀ i k, ks[i]? = some k → ks.getD i 0 = k := fun i k h => by simp [List.getD, h]
    have hF : ∀ b, FOf G hv' st'.hp w' b → FOf G (fun i => hv' (ks.getD i 0)) (numbered 0 (s.out x ++ s.new x)) w' b := fun b hb => ⟨hb.1, fun i o hi => by
      obtain ⟨k, ob, hk, hob, _⟩ := hlk i o hi
      simp only [hgd i k hk]
      exact hb.2 k ob hob⟩
    have hL : ∀ (i k : Nat) y, ks[i]? = some k → LOf hv' st'.hp k = some y → LOf (fun i => hv' (ks.getD i 0)) (numbered 0 (s.out x ++ s.new x)) i = some y := fun i k y hk hy => by
      have hil : i < ks.length := (List.getElem?_eq_some_iff.1 hk).1
      have h3 : ∃ o, (s.out x ++ s.new x)[i]? = some o := ⟨_, List.getElem?_eq_getElem (by omega)⟩
      obtain ⟨o, h3⟩ := h3
      obtain ⟨k', ob, hk', hob, hfit⟩ := hget i o h3
      rw [hk] at hk'
      cases hk'
      rw [LOf_eq hob] at hy
      have h4 : lk i (numbered 0 (s.out x ++ s.new x)) = some o := by rw [lk_numbered]; simpa using h3
      rw [LOf_eq h4]
      cases hy
      simp only [hgd i k hk, hfit.2.1]
    refine ⟨hS.defers, v, hrun, v, fun i => hv' (ks.getD i 0), rfl, ⟨fun i o hi => ?_, fun i j o o' hi hj hne => ?_, fun i o b hi hb => ?_, hH.keeps, hH.gnew⟩, fun i hi => ?_, ren_back hL hF hren hrep⟩
    · obtain ⟨k, ob, hk, hob, hfit⟩ := hlk i o hi
      obtain ⟨us, ho, hg, hc⟩ := hH.obs k ob hob
      obtain ⟨hln, hcl⟩ := fits_cells hfit
      refine ⟨us, by rw [← hfit.1, ← hfit.2.1, hln, hgd i k hk]; exact ho, fits_grid hfit hg, fun a b y e ha hb => ?_⟩
      obtain ⟨y', d', hy', hd', hrn⟩ := hcl a b y e ha hb
      obtain ⟨u, hu, hone, hr⟩ := hc a b y' d' hy' hd'
      exact ⟨u, by rw [← hfit.2.1]; exact hu, hone, fits_rep hfit hL hF hy' hd' hrn hr⟩
    · obtain ⟨k, ob, hk, hob, _⟩ := hlk i o hi
      obtain ⟨k', ob', hk', hob', _⟩ := hlk j o' hj
      simp only [hgd i k hk, hgd j k' hk']
      refine hH.inj k k' ob ob' hob hob' (fun e => hne ?_)
      subst e
      exact (List.getElem?_inj (List.getElem?_eq_some_iff.1 hk).1 hnd).1 (hk.trans hk'.symm)
    · obtain ⟨k, ob, hk, hob, _⟩ := hlk i o hi
      simp only [hgd i k hk] at hb
      exact hH.base k ob b hob hb
    · rw [hobs] at hi
      have hki : ks[i]? = some i := by rw [hks, List.getElem?_append_left (by simpa using hi), List.getElem?_range hi]
      have h3 : ∃ o, (s.out x ++ s.new x)[i]? = some o := ⟨_, List.getElem?_eq_getElem (by have := (List.getElem?_eq_some_iff.1 hki).1; omega)⟩
      obtain ⟨o, h3⟩ := h3
      obtain ⟨k', ob, hk', hob, hfit⟩ := hget i o h3
      rw [hki] at hk'
      cases hk'
      simp only [hgd i i hki]
      exact hpin i ob hob hi
  cases e with
  | normal => exact fin h1
  | ret => exact fin h1
  | _ => exact h1.elim

/-! ### Calls -/
def updZ : List Nat → List Ob → List (Nat × Ob)
  | k :: ks, o :: os => (k, o) :: updZ ks os
  | _, _ => []
theorem lk_updZ_out : ∀ (ks : List Nat) (os : List Ob) (hp : HP) (h : Nat), h ∉ ks → lk h (updHP (updZ ks os) hp) = lk h hp
  | [], os, hp, h, _ => by simp [updZ, updHP]
  | k :: ks, [], hp, h, _ => by simp [updZ, updHP]
  | k :: ks, o :: os, hp, h, hn => by
    simp only [List.mem_cons, not_or] at hn
    simp only [updZ, updHP]
    rw [lk_updZ_out ks os _ h hn.2, lk_hset, if_neg hn.1]
theorem lk_updZ_in : ∀ (ks : List Nat) (os : List Ob) (hp : HP) (i k : Nat) (o : Ob), ks.Nodup → ks[i]? = some k → os[i]? = some o → (∃ ob, lk k hp = some ob) → lk k (updHP (updZ ks os) hp) = some o
  | [], _, _, i, _, _, _, h, _, _ => by simp at h
  | k0 :: ks, [], _, i, _, _, _, _, h, _ => by simp at h
  | k0 :: ks, o0 :: os, hp, i, k, o, hnd, hk, ho, hex => by
    simp only [updZ, updHP]
    rw [List.nodup_cons] at hnd
    cases i with
    | zero =>
      simp at hk ho
      subst hk; subst ho
      obtain ⟨ob, hob⟩ := hex
      rw [lk_updZ_out ks os _ _ hnd.1, lk_hset, if_pos rfl, hob]
      rfl
    | succ i =>
      have hk' : ks[i]? = some k := by simpa using hk
      refine lk_updZ_in ks os _ i k o hnd.2 hk' (by simpa using ho) ?_
      obtain ⟨ob, hob⟩ := hex
      rw [lk_hset]
      by_cases e : k = k0
      · subst e; exact absurd (List.mem_of_getElem? hk') hnd.1
      · exact ⟨ob, by rw [if_neg e]; exact hob⟩
end Go.Proofs.YtpdkhlpmiblflaaGreat.Abs

/- Abs, part 39: a list of one's own against nil. -/
set_option linter.unusedVariables false
set_option linter.unusedSimpArgs false
namespace Go.Proofs.YtpdkhlpmiblflaaGreat.Abs
open Go Go.RowKit
variable {P : Program} {T : TT} {C : Ctx}
end Go.Proofs.YtpdkhlpmiblflaaGreat.Abs

/- Abs, part 40: calls by contract in a region that is walked in states. -/
set_option linter.unusedVariables false
set_option linter.unusedSimpArgs false
namespace Go.Proofs.YtpdkhlpmiblflaaGreat.Abs
open Go Go.RowKit
variable {P : Program} {T : TT} {C : Ctx}
theorem sgc1 {m N : Nat} (hT : TOk P T) (hP : C.P = P) (hCm : C.m = m) (hN : C.N = N) {ops l : List Oper} {st st' : St} {K : St → Prop} {dst : Option Tmp} {op : Op} {ty : TypeId} {pos : String} {af : Array Edge} {r : Res} (hK : SReg C ops l st' K) (hr : OpRel P { dst := dst, op := op, type := ty, pos := pos, after := af, guard := none } (evD st.sl) st.hp st.nx r) (hd : dstsOk N ops = true := by rfl) (hsub : { dst := dst, op := op, type := ty, pos := pos, after := af, guard := none } ∈ ops := by repeat (first | exact List.Mem.head _ | apply List.Mem.tail))
    (hs : astep T op (evD st.sl) st.hp st.nx = none := by rfl)
    (hst : st.app dst r = st' := by simp +decide (disch := omega) only [nrm, lk_nrm, dc_nrm, mk_nrm, mf_nrm, ti_nrm, ls_nrm, mp_nrm, nb_nrm, hset, pick_and, pick_or, ↓reduceIte, Nat.reduceAdd, wI64, wI32, wI16, wI8, wU8, List.length_map, Int.toNat_natCast, xn1, xn2]; rfl) : SReg C ops ({ dst := dst, op := op, type := ty, pos := pos, after := af, guard := none } :: l) st K :=
  sreg_step hT hP hCm hN hd hsub rfl (by simp only [aop, hs]; exact ⟨r, hr, hst⟩) hK
end Go.Proofs.YtpdkhlpmiblflaaGreat.Abs

/- Abs, part 41: calls that hand over what is read only. -/
set_option linter.unusedVariables false
set_option linter.unusedSimpArgs false
namespace Go.Proofs.YtpdkhlpmiblflaaGreat.Abs
open Go Go.RowKit
variable {P : Program} {T : TT} {C : Ctx}
def shFc (K : List Nat) (d : D) : D := (renC K d).getD .any
def shF (K : List Nat) (o : Ob) : Ob := ⟨o.ty, o.sz, o.deep, o.xs.map (·.map (shFc K))⟩
def okF (K : List Nat) (o : Ob) : Prop := ∀ x ∈ o.xs, ∀ d ∈ x, ∃ e, renC K d = some e
theorem renC_Pf {ks : List Nat} {w : World} {F : Nat → Prop} {e d : D} {u : Value} (h : renC ks d = some e) (hr : RepP w F d u) : RepP w F e u := by
  cases d <;> simp only [renC, Option.map_eq_some_iff, reduceCtorEq, Option.some.injEq] at h
  case own => cases hr
  case vw => cases hr
  case cvw => cases hr
  case ptr => cases hr
  all_goals (subst h; exact hr)
theorem repAL_ren {L : LF} {w : World} {F : Nat → Prop} {ks : List Nat} : ∀ {ds es : List D} {vs : List Value}, renAL ks ds = some es → es.length = vs.length → (∀ (j : Nat) e v, es[j]? = some e → vs[j]? = some v → Rep L w F e v) → RepAL L w F es vs
  | [], es, vs, h, hl, _ => by
    simp [renAL] at h; subst h
    cases vs with
    | nil => trivial
    | cons => simp at hl
  | d :: ds, es, vs, h, hl, hr => by
    simp only [renAL] at h
    split at h
    · rename_i e es' h1 h2
      cases h
      cases vs with
      | nil => simp at hl
      | cons v vs =>
        refine ⟨?_, repAL_ren h2 (by simpa using hl) (fun j e v he hv => hr (j + 1) e v (by simpa using he) (by simpa using hv))⟩
        have h3 := hr 0 e v rfl rfl
        cases e <;> first | exact h3 | (exfalso; cases d <;> simp [renA, renC] at h1 <;> (try (split at h1 <;> cases h1)))
    · cases h
theorem OpRel.callF {X : Type} {s : Spec X} {f : FuncId} (hF : FnOk P f s) (x : X) (ks : List Nat) (hkn : ks.Nodup) {o : Oper} {cf : Operand} {args : Array Operand} {tys : Array TypeId} (ho : o.op = .call ⟨.value cf, args, tys⟩) {ev : Operand → D} {hp : HP} {nx : Nat}
    {first caps : List D} (hcf : fnParts (ev cf) = some (.func f, first, caps)) (hpre : s.pre x) (hargs : renAL ks (s.args x) = some (first ++ args.toList.map ev ++ caps)) (hobs : ObjsG hp ks ks (s.obs x))
    {d : D} (hren : ren (ks ++ List.range' nx (s.new x).length) (s.res x) = some d) {K0 : List Nat} (hK0 : K0 = ks ++ List.range' nx (s.new x).length) (hcell : ∀ o ∈ s.out x ++ s.new x, okF K0 o) :
    OpRel P o ev hp nx { d, new := numbered nx ((s.new x).map (shF K0)), upd := updZ ks ((s.out x).map (shF K0)) } := by
  refine ⟨⟨fun p hp => by rw [numbered_length]; exact numbered_mem hp, rfl⟩, fun w0 S G hv a w hI hk hev K Q hK => ?_⟩
  obtain ⟨hent, hcon⟩ := hF
  obtain ⟨hos, hcall⟩ := hcon x hpre
  have hol : (s.out x).length = (s.obs x).length := by have := congrArg List.length hos; simpa using this
  obtain ⟨hkl, hget⟩ := objsG_get hobs
  have hgd : ∀ i k, ks[i]? = some k → ks.getD i 0 = k := fun i k h => by simp [List.getD, h]
  have hkin : ∀ h ∈ ks, ∃ ob, lk h hp = some ob := fun h hm => by
    obtain ⟨i, hi⟩ := List.getElem?_of_mem hm
    have hil := (List.getElem?_eq_some_iff.1 hi).1
    obtain ⟨k, ob, h1, h2, _⟩ := hget i _ (List.getElem?_eq_getElem (by omega))
    rw [hi] at h1; cases h1; exact ⟨ob, h2⟩
  have hlk : ∀ i ob, lk i (numbered 0 (s.obs x)) = some ob → ∃ k ob', ks[i]? = some k ∧ lk k hp = some ob' ∧ FitsG ks ob' ob := fun i ob hi => by
    rw [lk_numbered] at hi
    exact hget i ob (by simpa using hi)
  -- the callee's side
  have hFc : ∀ b, FOf G hv hp w b → FOf (fun b => w.heap.size ≤ b ∨ FOf G hv hp w b) (fun i => hv (ks.getD i 0)) (numbered 0 (s.obs x)) w b := fun b hb => ⟨⟨hb.1.1, .inr hb⟩, fun i ob hi => by
    obtain ⟨k, ob', h1, h2, _⟩ := hlk i ob hi
    simp only [hgd i k h1]
    exact hb.2 k ob' h2⟩
  have hLc : ∀ (i h : Nat) ob, ks[i]? = some h → lk h hp = some ob → LOf (fun i => hv (ks.getD i 0)) (numbered 0 (s.obs x)) i = some (hv h, ob.sz) := fun i h ob hi hob => by
    have hil := (List.getElem?_eq_some_iff.1 hi).1
    have h3 : ∃ o, (s.obs x)[i]? = some o := ⟨_, List.getElem?_eq_getElem (by omega)⟩
    obtain ⟨o', h3⟩ := h3
    obtain ⟨k, ob', h1, h2, hfit⟩ := hget i o' h3
    rw [hi] at h1; cases h1
    rw [hob] at h2; cases h2
    rw [LOf_eq (show lk i (numbered 0 (s.obs x)) = some o' by rw [lk_numbered]; simpa using h3), hgd i h hi, hfit.2.1]
  have hLc0 : ∀ (i k : Nat) y, ks[i]? = some k → LOf hv hp k = some y → LOf (fun i => hv (ks.getD i 0)) (numbered 0 (s.obs x)) i = some y := fun i k y hi hy => by
    simp only [LOf, Option.map_eq_some_iff] at hy
    obtain ⟨ob, hob, rfl⟩ := hy
    exact hLc i k ob hi hob
  have hIc : HInv w (ks.filterMap fun k => (hv k).ownBlock) (fun b => w.heap.size ≤ b ∨ FOf G hv hp w b) (fun i => hv (ks.getD i 0)) (numbered 0 (s.obs x)) w := by
    refine ⟨fun i ob hi => ?_, fun i j ob ob' hi hj hne => ?_, fun i ob b hi hb => ?_, Keeps.refl _ _ (hI.keeps.later (fun b hb => by
      obtain ⟨k, hkm, hkb⟩ := List.mem_filterMap.1 hb
      obtain ⟨ob, hob⟩ := hkin k hkm
      exact hI.base k ob b hob hkb)), fun b hb => .inl hb⟩
    · obtain ⟨k, ob', h1, h2, hfit⟩ := hlk i ob hi
      obtain ⟨us, ho, hg, hc⟩ := hI.obs k ob' h2
      obtain ⟨hln, hcl⟩ := fits_cells hfit
      refine ⟨us, by rw [← hfit.1, ← hfit.2.1, hln, hgd i k h1]; exact ho, fits_grid hfit hg, fun a b y e ha hb => ?_⟩
      obtain ⟨y', d', hy', hd', hrn⟩ := hcl a b y e ha hb
      obtain ⟨u, hu, hone, hr⟩ := hc a b y' d' hy' hd'
      exact ⟨u, by rw [← hfit.2.1]; exact hu, hone, fits_rep hfit hLc0 hFc hy' hd' hrn hr⟩
    · obtain ⟨k, o1, h1, h2, _⟩ := hlk i ob hi
      obtain ⟨k', o2, h1', h2', _⟩ := hlk j ob' hj
      simp only [hgd i k h1, hgd j k' h1']
      refine hI.inj k k' o1 o2 h2 h2' (fun e => hne ?_)
      subst e
      exact (List.getElem?_inj (List.getElem?_eq_some_iff.1 h1).1 hkn).1 (h1.trans h1'.symm)
    · obtain ⟨k, o1, h1, h2, _⟩ := hlk i ob hi
      simp only [hgd i k h1] at hb
      exact .inr (List.mem_filterMap.2 ⟨k, List.mem_of_getElem? h1, hb⟩)
  have hev' := hev cf
  obtain ⟨us, cs, hfv, hus, hcs⟩ := fnParts_rep hcf hev'
  have hvs : us.toArray ++ args.map a.eval ++ cs.toArray = (us ++ args.toList.map a.eval ++ cs).toArray := by
    apply Array.ext'
    simp
  have hA : RepAL (LOf (fun i => hv (ks.getD i 0)) (numbered 0 (s.obs x))) w (FOf (fun b => w.heap.size ≤ b ∨ FOf G hv hp w b) (fun i => hv (ks.getD i 0)) (numbered 0 (s.obs x)) w) (s.args x) (us ++ args.toList.map a.eval ++ cs) := by
    have hlen : (first ++ args.toList.map ev ++ caps).length = (us ++ args.toList.map a.eval ++ cs).length := by simp [repL_length hus, repL_length hcs]
    refine renAL_back (L := LOf hv hp) (F := FOf G hv hp w) hLc0 hFc hargs (repAL_ren hargs hlen (fun j e v he hv' => ?_))
    have hl1 := repL_length hus
    have hl2 := repL_length hcs
    rw [List.append_assoc] at he hv'
    by_cases hj : j < us.length
    · rw [List.getElem?_append_left (by omega)] at he
      rw [List.getElem?_append_left hj] at hv'
      obtain ⟨u, hu, hr⟩ := repL_get hus j e he
      rw [hu] at hv'; cases hv'; exact repC_oneD hr
    · rw [List.getElem?_append_right (by omega)] at he hv'
      rw [hl1] at hv'
      by_cases hj2 : j - first.length < args.toList.length
      · rw [List.getElem?_append_left (by simpa using hj2)] at he hv'
        exact rep_list hev _ _ e v he hv'
      · rw [List.getElem?_append_right (by simpa using hj2)] at he hv'
        simp only [List.length_map] at he hv'
        obtain ⟨u, hu, hr⟩ := repL_get hcs _ e he
        rw [hu] at hv'; cases hv'; exact repC_oneD hr
  have hmain := hcall w _ (fun b => w.heap.size ≤ b ∨ FOf G hv hp w b) _ _ (fun b hb => .inl hb) hIc hA
  refine callOp_wp (R := fun v w' => ∃ hv1, HInv w (ks.filterMap fun k => (hv k).ownBlock) (fun b => w.heap.size ≤ b ∨ FOf G hv hp w b) hv1 (numbered 0 (s.out x ++ s.new x)) w' ∧ (∀ i, i < (s.obs x).length → hv1 i = hv (ks.getD i 0)) ∧ Rep (LOf hv1 (numbered 0 (s.out x ++ s.new x))) w' (FOf (fun b => w.heap.size ≤ b ∨ FOf G hv hp w b) hv1 (numbered 0 (s.out x ++ s.new x)) w') (s.res x) v) ho hfv hent (by rw [hvs]; exact hmain.mono (fun e w' ⟨v, hv1, he, h1, h2, h3⟩ => ⟨v, he, hv1, h1, h2, h3⟩)) (fun v w' ⟨hv1, hI1, hsame, hrep⟩ => ?_)
  clear hmain hcall
  -- back in the caller
  have hlen : (s.out x).length = ks.length := by omega
  have hnk : ∀ h ∈ ks, h < nx := fun h hm => by obtain ⟨ob, hob⟩ := hkin h hm; exact hk h ob hob
  obtain ⟨hv', hv'd⟩ : ∃ hv' : Nat → Value, hv' = fun h => if nx ≤ h then hv1 (ks.length + (h - nx)) else hv h := ⟨_, rfl⟩
  have hvlt : ∀ h, h < nx → hv' h = hv h := fun h hh => by rw [hv'd]; exact if_neg (by omega)
  have hvge : ∀ h, nx ≤ h → hv' h = hv1 (ks.length + (h - nx)) := fun h hh => by rw [hv'd]; exact if_pos hh
  have hhp : ({ d, new := numbered nx ((s.new x).map (shF K0)), upd := updZ ks ((s.out x).map (shF K0)) } : Res).hpOf hp = numbered nx ((s.new x).map (shF K0)) ++ updHP (updZ ks ((s.out x).map (shF K0))) hp := rfl
  have hnew : ∀ h, nx ≤ h → lk h (numbered nx ((s.new x).map (shF K0)) ++ updHP (updZ ks ((s.out x).map (shF K0))) hp) = ((s.new x).map (shF K0))[h - nx]? := fun h hh => by
    rw [lk_append, lk_numbered, if_pos hh]
    have : lk h (updHP (updZ ks ((s.out x).map (shF K0))) hp) = none := by
      cases h1 : lk h (updHP (updZ ks ((s.out x).map (shF K0))) hp) with
      | none => rfl
      | some ob =>
        obtain ⟨ob', h2⟩ := lk_updHP _ _ _ _ h1
        have := hk h ob' h2
        omega
    rw [this, Option.or_none]
  have hold : ∀ h, h < nx → lk h (numbered nx ((s.new x).map (shF K0)) ++ updHP (updZ ks ((s.out x).map (shF K0))) hp) = lk h (updHP (updZ ks ((s.out x).map (shF K0))) hp) := fun h hh => by
    rw [lk_append, lk_numbered, if_neg (by omega), Option.none_or]
  have hnews : ∀ {j ob}, ((s.new x).map (shF K0))[j]? = some ob → ∃ o', (s.new x)[j]? = some o' ∧ shF K0 o' = ob := fun {j ob} h => by
    rw [List.getElem?_map] at h
    exact Option.map_eq_some_iff.1 h
  -- what the callee's objects are called here
  have hin : ∀ i k, ks[i]? = some k → ∃ o', (s.out x)[i]? = some o' ∧ lk k (numbered nx ((s.new x).map (shF K0)) ++ updHP (updZ ks ((s.out x).map (shF K0))) hp) = some (shF K0 o') ∧ lk i (numbered 0 (s.out x ++ s.new x)) = some o' := fun i k hi => by
    have hil := (List.getElem?_eq_some_iff.1 hi).1
    have h3 : ∃ o, (s.out x)[i]? = some o := ⟨_, List.getElem?_eq_getElem (by omega)⟩
    obtain ⟨o', h3⟩ := h3
    have hm := List.mem_of_getElem? hi
    refine ⟨o', h3, ?_, ?_⟩
    · rw [hold k (hnk k hm)]
      exact lk_updZ_in ks _ hp i k _ hkn hi (by rw [List.getElem?_map, h3]; rfl) (hkin k hm)
    · rw [lk_numbered]
      simp only [Nat.zero_le, if_true, Nat.sub_zero]
      rw [List.getElem?_append_left (by omega)]
      exact h3
  have hnw : ∀ j o', (s.new x)[j]? = some o' → lk (ks.length + j) (numbered 0 (s.out x ++ s.new x)) = some o' := fun j o' hj => by
    rw [lk_numbered]
    simp only [Nat.zero_le, if_true, Nat.sub_zero]
    rw [List.getElem?_append_right (by omega)]
    rw [← hj]
    congr 1
    omega
  have hvin : ∀ i k, ks[i]? = some k → hv1 i = hv k := fun i k hi => by
    have hil := (List.getElem?_eq_some_iff.1 hi).1
    rw [hsame i (by omega)]
    simp only [hgd i k hi]
  have hkeepb : ∀ b, b < w.heap.size → (∀ k ∈ ks, (hv k).ownBlock ≠ some b) → w'.heap[b]? = w.heap[b]? := fun b hb hn => hI1.keeps.block b hb (fun hm => by
    obtain ⟨k, hkm, hkb⟩ := List.mem_filterMap.1 hm
    exact hn k hkm hkb)
  have hnewblk : ∀ j o', (s.new x)[j]? = some o' → ∀ b, (hv1 (ks.length + j)).ownBlock = some b → w.heap.size ≤ b := fun j o' hj b hb => by
    rcases hI1.base _ _ b (hnw j o' hj) hb with h1 | h1
    · exact h1
    · obtain ⟨k, hkm, hkb⟩ := List.mem_filterMap.1 h1
      obtain ⟨i, hi⟩ := List.getElem?_of_mem hkm
      obtain ⟨o2, h4, _, h5⟩ := hin i k hi
      have hil := (List.getElem?_eq_some_iff.1 hi).1
      rcases hI1.inj _ _ _ _ (hnw j o' hj) h5 (by omega) with h6 | h6
      · rw [h6] at hb; cases hb
      · exact absurd (hb.trans ((congrArg Value.ownBlock (hvin i k hi)).trans hkb).symm) h6
  have hL : ∀ h y, LOf hv hp h = some y → LOf hv' (numbered nx ((s.new x).map (shF K0)) ++ updHP (updZ ks ((s.out x).map (shF K0))) hp) h = some y := fun h y hy => by
    simp only [LOf, Option.map_eq_some_iff] at hy
    obtain ⟨ob, hob, rfl⟩ := hy
    have hlt := hk h ob hob
    by_cases hm : h ∈ ks
    · obtain ⟨i, hi⟩ := List.getElem?_of_mem hm
      obtain ⟨o2, h4, h5, _⟩ := hin i h hi
      rw [LOf_eq h5, hvlt h hlt]
      have hil := (List.getElem?_eq_some_iff.1 hi).1
      have : o2.sz = ob.sz := by
        have h6 : ∃ o, (s.obs x)[i]? = some o := ⟨_, List.getElem?_eq_getElem (by omega)⟩
        obtain ⟨o3, h6⟩ := h6
        obtain ⟨k, ob', h7, h8, hfit⟩ := hget i o3 h6
        rw [hi] at h7; cases h7
        rw [hob] at h8; cases h8
        have h9 := congrArg (fun l => l[i]?) hos
        simp only [List.getElem?_map, h4, h6, Option.map_some, Option.some.injEq] at h9
        rw [h9, hfit.2.1]
      show some (hv h, o2.sz) = some (hv h, ob.sz)
      rw [this]
    · have h5 : lk h (numbered nx ((s.new x).map (shF K0)) ++ updHP (updZ ks ((s.out x).map (shF K0))) hp) = some ob := by rw [hold h hlt, lk_updZ_out ks _ hp h hm]; exact hob
      rw [LOf_eq h5, hvlt h hlt]
  -- every object here is one of the callee's, or one that it did not see
  have hcase : ∀ h ob, lk h (numbered nx ((s.new x).map (shF K0)) ++ updHP (updZ ks ((s.out x).map (shF K0))) hp) = some ob →
      (∃ j o', h = nx + j ∧ (s.new x)[j]? = some o' ∧ ob = shF K0 o') ∨ (∃ i, ∃ o' : Ob, ks[i]? = some h ∧ (s.out x)[i]? = some o' ∧ ob = shF K0 o') ∨ (h ∉ ks ∧ h < nx ∧ lk h hp = some ob) := fun h ob hl => by
    by_cases hge : nx ≤ h
    · rw [hnew h hge] at hl
      obtain ⟨o', ho', rfl⟩ := hnews hl
      exact .inl ⟨h - nx, o', by omega, ho', rfl⟩
    · by_cases hm : h ∈ ks
      · obtain ⟨i, hi⟩ := List.getElem?_of_mem hm
        obtain ⟨o2, h4, h5, _⟩ := hin i h hi
        rw [hl] at h5
        cases h5
        exact .inr (.inl ⟨i, o2, hi, h4, rfl⟩)
      · rw [hold h (by omega), lk_updZ_out ks _ hp h hm] at hl
        exact .inr (.inr ⟨hm, by omega, hl⟩)
  have hF : ∀ b, FOf G hv hp w b → FOf G hv' (numbered nx ((s.new x).map (shF K0)) ++ updHP (updZ ks ((s.out x).map (shF K0))) hp) w' b ∧ w'.heap[b]? = w.heap[b]? := fun b hb => by
    refine ⟨⟨⟨Nat.lt_of_lt_of_le hb.1.1 hI1.keeps.size, hb.1.2⟩, fun h ob hl => ?_⟩, hkeepb b hb.1.1 (fun k hm => by obtain ⟨ob, hob⟩ := hkin k hm; exact hb.2 k ob hob)⟩
    rcases hcase h ob hl with ⟨j, o', rfl, hj, _⟩ | ⟨i, o', hi, _, _⟩ | ⟨hm, hlt, hob⟩
    · rw [hvge _ (by omega), show nx + j - nx = j by omega]
      intro hb'
      have := hnewblk j o' hj b hb'
      have := hb.1.1
      omega
    · have hm := List.mem_of_getElem? hi
      rw [hvlt h (hnk h hm)]
      obtain ⟨ob', hob'⟩ := hkin h hm
      exact hb.2 h ob' hob'
    · rw [hvlt h hlt]
      exact hb.2 h ob hob
  have hblk : ∀ k ob, lk k hp = some ob → ∀ b, (hv k).ownBlock = some b → b < w.heap.size := fun k ob hob b hb => by
    obtain ⟨vs, ho, _⟩ := hI.obs k ob hob
    exact (ho.lt b hb).2
  have hFF : ∀ b, FOf (fun b => w.heap.size ≤ b ∨ FOf G hv hp w b) hv1 (numbered 0 (s.out x ++ s.new x)) w' b → FOf G hv' (numbered nx ((s.new x).map (shF K0)) ++ updHP (updZ ks ((s.out x).map (shF K0))) hp) w' b := fun b hb => by
    refine ⟨⟨hb.1.1, ?_⟩, fun h ob hl => ?_⟩
    · rcases hb.1.2 with h1 | h1
      · exact hI.gnew b h1
      · exact h1.1.2
    · rcases hcase h ob hl with ⟨j, o', rfl, hj, _⟩ | ⟨i, o', hi, _, _⟩ | ⟨hm, hlt, hob⟩
      · rw [hvge _ (by omega), show nx + j - nx = j by omega]
        exact hb.2 _ _ (hnw j o' hj)
      · rw [hvlt h (hnk h (List.mem_of_getElem? hi)), ← hvin i h hi]
        obtain ⟨o2, _, _, h5⟩ := hin i h hi
        exact hb.2 _ _ h5
      · rw [hvlt h hlt]
        rcases hb.1.2 with h1 | h1
        · intro e; have := hblk h ob hob b e; omega
        · exact h1.2 h ob hob
  have hLn : ∀ i y, LOf hv1 (numbered 0 (s.out x ++ s.new x)) i = some y → LOf hv' (numbered nx ((s.new x).map (shF K0)) ++ updHP (updZ ks ((s.out x).map (shF K0))) hp) (K0.getD i 0) = some y := fun i y hy => by
    simp only [LOf, Option.map_eq_some_iff] at hy
    obtain ⟨o', ho', rfl⟩ := hy
    rw [lk_numbered] at ho'
    simp only [Nat.zero_le, if_true, Nat.sub_zero] at ho'
    by_cases hil : i < ks.length
    · obtain ⟨k, hki⟩ : ∃ k, ks[i]? = some k := ⟨_, List.getElem?_eq_getElem hil⟩
      obtain ⟨o2, h4, h5, h6⟩ := hin i k hki
      rw [List.getElem?_append_left (by omega), h4] at ho'
      cases ho'
      rw [show K0.getD i 0 = k by rw [hK0, List.getD, List.getElem?_append_left hil, hki]; rfl, LOf_eq h5, hvlt k (hnk k (List.mem_of_getElem? hki)), ← hvin i k hki]
      rfl
    · rw [List.getElem?_append_right (by omega), hlen] at ho'
      have hjl := (List.getElem?_eq_some_iff.1 ho').1
      have h7 := hnew (nx + (i - ks.length)) (by omega)
      rw [show nx + (i - ks.length) - nx = i - ks.length by omega, List.getElem?_map, ho', Option.map_some] at h7
      rw [show K0.getD i 0 = nx + (i - ks.length) by rw [hK0, List.getD, List.getElem?_append_right (by omega), List.getElem?_range' hjl]; simp, LOf_eq h7, hvge _ (by omega), show ks.length + (nx + (i - ks.length) - nx) = i by omega]
      rfl
  have hLr : ∀ (i k : Nat) y, K0[i]? = some k → LOf hv1 (numbered 0 (s.out x ++ s.new x)) i = some y → LOf hv' (numbered nx ((s.new x).map (shF K0)) ++ updHP (updZ ks ((s.out x).map (shF K0))) hp) k = some y := fun i k y hi hy => by
    have := hLn i y hy
    rwa [show K0.getD i 0 = k by simp [List.getD, hi]] at this
  refine hK v hv' w' ⟨⟨fun h ob hl => ?_, fun h h' ob ob' hl hl' hne => ?_, fun h ob b hl hb => ?_, ?_, fun b hb => hI.gnew b (Nat.le_trans hI1.keeps.size hb)⟩, ?_, fun e u hr => hr.mono hL hF, fun h ob hob _ => hvlt h (hk h ob hob)⟩
  · -- the objects
    have toNew : ∀ (o' : Ob) (us : List Value), okF K0 o' → (∃ v0, oRow w' 0 o'.ty o'.sz v0 o'.xs.length us ∧ Grid o'.sz o'.xs ∧ ∀ (i j : Nat) (x_1 : List D) (d_1 : D), o'.xs[i]? = some x_1 → x_1[j]? = some d_1 → ∃ u, us[i * o'.sz + j]? = some u ∧ u.oneCell' = true ∧ RepO o'.deep (LOf hv1 (numbered 0 (s.out x ++ s.new x))) w' (FOf (fun b => w.heap.size ≤ b ∨ FOf G hv hp w b) hv1 (numbered 0 (s.out x ++ s.new x)) w') d_1 u) →
        Grid o'.sz (o'.xs.map (·.map (shFc K0))) ∧ ∀ (i j : Nat) (x_1 : List D) (d_1 : D), (o'.xs.map (·.map (shFc K0)))[i]? = some x_1 → x_1[j]? = some d_1 → ∃ u, us[i * o'.sz + j]? = some u ∧ u.oneCell' = true ∧ RepO o'.deep (LOf hv' (numbered nx ((s.new x).map (shF K0)) ++ updHP (updZ ks ((s.out x).map (shF K0))) hp)) w' (FOf G hv' (numbered nx ((s.new x).map (shF K0)) ++ updHP (updZ ks ((s.out x).map (shF K0))) hp) w') d_1 u := fun o' us hok ⟨v0, _, hg, hc⟩ => by
      refine ⟨fun y hy => ?_, fun i j y e hi hj => ?_⟩
      · obtain ⟨y0, h1, rfl⟩ := List.mem_map.1 hy
        rw [List.length_map]; exact hg y0 h1
      · simp only [List.getElem?_map, Option.map_eq_some_iff] at hi
        obtain ⟨y0, hy0, rfl⟩ := hi
        simp only [List.getElem?_map, Option.map_eq_some_iff] at hj
        obtain ⟨e0, he0, rfl⟩ := hj
        obtain ⟨u, hu, h1, hr⟩ := hc i j y0 e0 hy0 he0
        refine ⟨u, hu, h1, ?_⟩
        obtain ⟨e1, he1⟩ := hok y0 (List.mem_of_getElem? hy0) e0 (List.mem_of_getElem? he0)
        rw [show shFc K0 e0 = e1 by simp [shFc, he1]]
        cases hd : o'.deep with
        | false =>
          rw [hd] at hr
          simp only [RepO, Bool.false_eq_true, if_false] at hr ⊢
          exact (renC_Pf he1 hr).mono (fun b hb => ⟨hFF b hb, rfl⟩)
        | true =>
          rw [hd] at hr
          simp only [RepO, if_true] at hr ⊢
          exact renC_rep hLr hFF he1 hr
    rcases hcase h ob hl with ⟨j, o', rfl, hj, rfl⟩ | ⟨i, o', hi, ho', rfl⟩ | ⟨hm, hlt, hob⟩
    · obtain ⟨us, h1, h2, h3⟩ := hI1.obs _ _ (hnw j _ hj)
      rw [hvge _ (by omega), show nx + j - nx = j by omega]
      obtain ⟨g1, g2⟩ := toNew _ us (hcell _ (List.mem_append_right _ (List.mem_of_getElem? hj))) ⟨_, h1, h2, h3⟩
      exact ⟨us, by simpa [shF] using h1, g1, g2⟩
    · obtain ⟨o2, h4, _, h5⟩ := hin i h hi
      rw [ho'] at h4
      cases h4
      obtain ⟨us, h1, h2, h3⟩ := hI1.obs _ _ h5
      rw [hvlt h (hnk h (List.mem_of_getElem? hi)), ← hvin i h hi]
      obtain ⟨g1, g2⟩ := toNew _ us (hcell _ (List.mem_append_left _ (List.mem_of_getElem? ho'))) ⟨_, h1, h2, h3⟩
      exact ⟨us, by simpa [shF] using h1, g1, g2⟩
    · obtain ⟨us, h1, h2, h3⟩ := hI.obs h ob hob
      rw [hvlt h hlt]
      refine ⟨us, oRow_same h1 (fun b hb => hkeepb b (hblk h ob hob b hb) (fun k hk' hkb => ?_)), h2, fun a b y e ha hb => ?_⟩
      · obtain ⟨ob', hob'⟩ := hkin k hk'
        rcases hI.inj h k ob ob' hob hob' (fun e => hm (e ▸ hk')) with h4 | h4
        · rw [h4] at hb; cases hb
        · exact h4 (hb.trans hkb.symm)
      · obtain ⟨u, hu, h6, hr⟩ := h3 a b y e ha hb
        exact ⟨u, hu, h6, RepO.obMono hr hL hF⟩
  · -- no two in one block
    rw [hhp] at hl hl'
    have old : ∀ h ob, h < nx → lk h (numbered nx ((s.new x).map (shF K0)) ++ updHP (updZ ks ((s.out x).map (shF K0))) hp) = some ob → ∃ o, lk h hp = some o := fun h ob hlt hl => by
      rw [hold h hlt] at hl
      exact lk_updHP _ _ _ _ hl
    by_cases hge : nx ≤ h
    · rw [hnew h hge] at hl
      obtain ⟨oo, hl, _⟩ := hnews hl
      by_cases hge' : nx ≤ h'
      · rw [hnew h' hge'] at hl'
        obtain ⟨oo', hl', _⟩ := hnews hl'
        rw [hvge h hge, hvge h' hge']
        exact hI1.inj _ _ _ _ (hnw _ _ hl) (hnw _ _ hl') (by omega)
      · obtain ⟨o2, ho2⟩ := old h' ob' (by omega) hl'
        rw [hvge h hge, hvlt h' (by omega)]
        cases hb : (hv1 (ks.length + (h - nx))).ownBlock with
        | none => exact .inl rfl
        | some b =>
          refine .inr fun e => ?_
          have := hnewblk _ _ hl b hb
          have := hblk h' o2 ho2 b e.symm
          omega
    · obtain ⟨o1, ho1⟩ := old h ob (by omega) hl
      by_cases hge' : nx ≤ h'
      · rw [hnew h' hge'] at hl'
        obtain ⟨oo', hl', _⟩ := hnews hl'
        rw [hvge h' hge', hvlt h (by omega)]
        cases hb : (hv h).ownBlock with
        | none => exact .inl rfl
        | some b =>
          refine .inr fun e => ?_
          have := hnewblk _ _ hl' b e.symm
          have := hblk h o1 ho1 b hb
          omega
      · obtain ⟨o2, ho2⟩ := old h' ob' (by omega) hl'
        rw [hvlt h (by omega), hvlt h' (by omega)]
        exact hI.inj h h' o1 o2 ho1 ho2 hne
  · -- where they lie
    rw [hhp] at hl
    by_cases hge : nx ≤ h
    · rw [hnew h hge] at hl
      obtain ⟨oo, hl, _⟩ := hnews hl
      rw [hvge h hge] at hb
      exact .inl (Nat.le_trans hI.keeps.size (hnewblk _ _ hl b hb))
    · rw [hold h (by omega)] at hl
      obtain ⟨o1, ho1⟩ := lk_updHP _ _ _ _ hl
      rw [hvlt h (by omega)] at hb
      exact hI.base h o1 b ho1 hb
  · refine ⟨hI1.keeps.os.trans hI.keeps.os, hI1.keeps.tape.trans hI.keeps.tape, hI1.keeps.output.trans hI.keeps.output, Nat.le_trans hI.keeps.size hI1.keeps.size, fun k hk' hS => ?_, hI.keeps.tab⟩
    rw [hkeepb k (Nat.lt_of_lt_of_le hk' hI.keeps.size) (fun k' hm hb => ?_)]
    · exact hI.keeps.block k hk' hS
    · obtain ⟨o1, ho1⟩ := hkin k' hm
      rcases hI.base k' o1 k ho1 hb with h1 | h1
      · omega
      · exact hS h1
  · -- the result
    exact ren_rep hLr hFF (hK0 ▸ hren) hrep
end Go.Proofs.YtpdkhlpmiblflaaGreat.Abs

/- Abs, part 42: a literal that is read only from its first moment; steps by a relation in a region walked in order. -/
set_option linter.unusedVariables false
set_option linter.unusedSimpArgs false
namespace Go.Proofs.YtpdkhlpmiblflaaGreat.Abs
open Go Go.RowKit
variable {P : Program} {T : TT} {C : Ctx}
theorem awp_joinW {c : Code} {Q : Exit → St → Prop} {st st1 : St} (h : awp C c (fun e s => e = .normal ∧ Weak C s st1) st) (hQ : Q .normal st1) : awp C c Q st := fun a w hI => wp_mono (h a w hI) (fun e a' w' ⟨s, ⟨he, hw⟩, hs⟩ => ⟨st1, by subst he; exact hQ, hw a' w' hs⟩)
section lit
variable {w0 : World} {S : List Nat} {G : Nat → Prop} {hv : Nat → Value} {hp : HP} {w : World}
end lit
end Go.Proofs.YtpdkhlpmiblflaaGreat.Abs

