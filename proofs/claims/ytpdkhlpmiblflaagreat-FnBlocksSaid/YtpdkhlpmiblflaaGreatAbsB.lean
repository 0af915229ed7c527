import Derived.Test.YtpdkhlpmiblflaaGreatAbsA
import Derived.ProofKit
import Derived.Lib.SmallJoins
/- Abs, part 10: all operations in one function; states behind an operation. -/
set_option linter.unusedVariables false
set_option linter.unusedSimpArgs false
namespace Go.Proofs.YtpdkhlpmiblflaaGreat.Abs
open Go Go.RowKit
variable {P : Program} {T : TT} {w0 : World} {S : List Nat} {G : Nat → Prop} {hv : Nat → Value} {hp : HP} {w : World}

def evD (sl : List (Nat × D)) : Operand → D
  | .tmp t => (lk t sl).getD .any
  | .const v => cst v
  | .func f => .fn (.func f) [] []
  | .global _ => .any

theorem evD_ok {N : Nat} {L : LF} {F : Nat → Prop} {sl : List (Nat × D)} {a : Act} (h : SInv N L w F sl a) (x : Operand) : Rep L w F (evD sl x) (a.eval x) := by
  cases x with
  | tmp t =>
    simp only [evD, Act.eval]
    cases hl : lk t sl with
    | none => exact (RepP.any _ : RepP w F .any _)
    | some d => exact h.at_ t d hl
  | const v =>
    simp only [evD, Act.eval]
    have h2 := cst_rep (w := w) (F := F) v
    unfold cst at h2 ⊢
    split at h2 <;> exact h2
  | func f => exact ⟨[], [], rfl, trivial, trivial⟩
  | global g => exact (RepP.any _ : RepP w F .any _)

def cellD : D → Bool
  | .agg _ | .tup _ | .fn _ _ _ => false
  | _ => true

def mkFn (f : Fn) (fs cs : List D) : D := match allVals fs, allVals cs with
  | some us, some vs => .val (.func f us.toArray vs.toArray)
  | _, _ => .fn f fs cs
theorem mkFn_rep {L : LF} {F : Nat → Prop} {f : Fn} {fs cs : List D} {us vs : List Value} (h1 : RepL L w F fs us) (h2 : RepL L w F cs vs) : Rep L w F (mkFn f fs cs) (.func f us.toArray vs.toArray) := by
  unfold mkFn
  split
  · rename_i us' vs' e1 e2
    rw [allVals_rep e1 h1, allVals_rep e2 h2]
    exact rep_mk _
  · exact ⟨us, vs, rfl, h1, h2⟩

def astep (T : TT) (op : Op) (ev : Operand → D) (hp : HP) (h0 : Nat) : Option (Prop × Res) :=
  match op with
  | .move x | .assign x => q (ev x)
  | .pick c a b => match ev c with
    | .val (.bool t) => q (if t then ev a else ev b)
    | _ => none
  | .alloc t => stepAlloc T h0 t
  | .box t x => stepBox h0 t (ev x)
  | .build t parts => stepBuild T t (parts.toList.map fun p => (p.1, ev p.2))
  | .buildSlice t len parts => stepBuildSlice T h0 t len (parts.toList.map fun p => (p.1, ev p.2))
  | .load t a => stepLoad T t hp (ev a)
  | .store t a v => stepStore T t hp (ev a) (ev v)
  | .nilCheck x => match ev x with
    | .ptr h i off => q (.ptr h i off)
    | .rptr sz xs i off => q (.rptr sz xs i off)
    | _ => none
  | .binOp op t x y _ => stepBin T op t (ev x) (ev y)
  | .unOp op _ x => stepUn op (ev x)
  | .convert src dst x => match lk src T with
    | some _ => stepConv T dst (ev x)
    | none => none
  | .makeFunc f fs cs => some ((fs.toList.map ev).all cellD = true ∧ (cs.toList.map ev).all cellD = true, { d := mkFn f (fs.toList.map ev) (cs.toList.map ev) })
  | .makeSlice t l c => stepMake T h0 t (ev l) (ev c)
  | .slice t x lo hi none => stepSlice T t hp (ev x) (lo.map ev) (hi.map ev)
  | .fieldAddr s x f => stepFieldAddr T s (ev x) f
  | .field s x f => stepField T s (ev x) f
  | .indexAddr t x ix => stepIndexAddr T t hp (ev x) (ev ix)
  | .index t x ix => stepIndex T t (ev x) (ev ix)
  | .extract x i => stepExtract (ev x) i
  | .call c => match c.callee, c.args.toList, c.argTypes.toList with
    | .builtin .len, [x], [t] => stepLen T t hp (ev x)
    | .builtin .append, [x, y], [t, t'] => if t = t' then stepAppend T h0 t hp (ev x) (ev y) else none
    | .builtin .max, [x, y], _ => stepMax (ev x) (ev y)
    | .builtin .min, [x, y], _ => stepMin (ev x) (ev y)
    | _, _, _ => none
  | _ => none

theorem repParts_of {ev : Operand → D} {a : Act} {L : LF} {F : Nat → Prop} (h : ∀ x, Rep L w F (ev x) (a.eval x)) : ∀ parts : List (Nat × Operand), RepParts L w F (parts.map fun p => (p.1, ev p.2)) (parts.map fun p => (p.1, a.eval p.2))
  | [] => trivial
  | (i, x) :: ps => ⟨rfl, h x, repParts_of h ps⟩

theorem cells_of {ev : Operand → D} {a : Act} {L : LF} {F : Nat → Prop} (h : ∀ x, Rep L w F (ev x) (a.eval x)) : ∀ xs : List Operand, (xs.map ev).all cellD = true → RepL L w F (xs.map ev) (xs.map a.eval)
  | [], _ => trivial
  | x :: xs, hc => by
    simp only [List.map_cons, List.all_cons, Bool.and_eq_true] at hc
    refine ⟨?_, cells_of h xs hc.2⟩
    have h1 := h x
    revert h1
    generalize ev x = d at hc
    intro h1
    cases d <;> first | exact h1 | (simp [cellD] at hc)

theorem optRep {ev : Operand → D} {a : Act} {L : LF} {F : Nat → Prop} (h : ∀ x, Rep L w F (ev x) (a.eval x)) (o : Option Operand) : match o.map ev, o.map a.eval with | none, none => True | some d, some v => Rep L w F d v | _, _ => False := by
  cases o with
  | none => trivial
  | some x => exact h x

theorem astep_ok (hT : TOk P T) (hI : HInv w0 S G hv hp w) {h0 : Nat} (hfresh : lk h0 hp = none) {o : Oper} {a : Act} {ev : Operand → D} (hev : ∀ x, Rep (LOf hv hp) w (FOf G hv hp w) (ev x) (a.eval x)) {pre : Prop} {r : Res}
    (hs : astep T o.op ev hp h0 = some (pre, r)) (hpre : pre) : ∃ v hv' w', Done P o a w v w' ∧ Post w0 S G hv hp w r v hv' w' := by
  unfold astep at hs
  unfold Done
  split at hs
  · rename_i x ho; cases hs; exact ⟨_, hv, w, .inl (by simp [execOp, ho]), post_same hI (hev x)⟩
  · rename_i x ho; cases hs; exact ⟨_, hv, w, .inl (by simp [execOp, ho]), post_same hI (hev x)⟩
  · rename_i c x y ho
    split at hs
    · rename_i t hc
      cases hs
      have h1 := hev c
      rw [hc] at h1
      have h2 := rep_val h1
      refine ⟨if t then a.eval x else a.eval y, hv, w, .inl (by simp [execOp, ho, h2, asBool]), post_same hI ?_⟩
      cases t
      · exact hev y
      · exact hev x
    · cases hs
  · rename_i t ho
    obtain ⟨z, hv', w', hr, hP⟩ := stepAlloc_ok hT hI hfresh hs hpre
    exact ⟨z, hv', w', .inl (by simp [execOp, ho, hr]), hP⟩
  · rename_i t x ho
    obtain ⟨z, hv', w', hr, hP⟩ := stepBox_ok (P := P) hI hfresh (hev x) hs hpre
    exact ⟨z, hv', w', .inl (by simp [execOp, ho, hr]), hP⟩
  · rename_i t parts ho
    obtain ⟨z, hr, hP⟩ := stepBuild_ok (vparts := parts.map fun p => (p.1, a.eval p.2)) hT hI (by simpa using repParts_of hev parts.toList) hs hpre
    exact ⟨z, hv, w, .inl (by simp [execOp, ho, hr]), hP⟩
  · rename_i t len parts ho
    obtain ⟨z, hv', w', hr, hP⟩ := stepBuildSlice_ok (vparts := parts.map fun p => (p.1, a.eval p.2)) hT hI hfresh (by simpa using repParts_of hev parts.toList) hs hpre
    exact ⟨z, hv', w', .inl (by simp [execOp, ho, hr]), hP⟩
  · rename_i t x ho
    obtain ⟨z, hr, hP⟩ := stepLoad_ok hT hI (hev x) hs hpre
    exact ⟨z, hv, w, .inl (by simp [execOp, ho, hr]), hP⟩
  · rename_i t x y ho
    obtain ⟨hv', w', hr, hP⟩ := stepStore_ok hT hI (hev x) (hev y) hs hpre
    exact ⟨undef, hv', w', .inr ⟨by simp [execOp, ho, hr], rfl⟩, hP⟩
  · rename_i x ho
    have h1 := hev x
    split at hs
    · rename_i h i off he
      cases hs
      rw [he] at h1
      obtain ⟨g, m, cap, s, hl, e⟩ := h1
      refine ⟨a.eval x, hv, w, .inl (by simp [execOp, ho, e]), post_same hI ⟨g, m, cap, s, hl, e⟩⟩
    · rename_i sz xs i off he
      cases hs
      rw [he] at h1
      obtain ⟨ad, e, hr⟩ := h1
      refine ⟨a.eval x, hv, w, .inl (by simp [execOp, ho, e]), post_same hI ⟨ad, e, hr⟩⟩
    · cases hs
  · rename_i op t x y yt ho
    obtain ⟨z, hr, hP⟩ := stepBin_ok (ox := x) (oy := y) hT hI (hev x) (hev y) hs hpre
    refine ⟨z, hv, w, .inl ?_, hP⟩
    simp only [execOp, ho]
    rw [Sem.run_bind, hr]
    rfl
  · rename_i op t x ho
    obtain ⟨z, hr, hP⟩ := stepUn_ok (P := P) hI (hev x) hs hpre
    exact ⟨z, hv, w, .inl (by simp [execOp, ho, hr]), hP⟩
  · rename_i src dst x ho
    split at hs
    · rename_i ti hl
      obtain ⟨d, hd, _⟩ := TI.under (hT _ _ hl) rfl
      obtain ⟨z, hr, hP⟩ := stepConv_ok hT hI ⟨d, hd⟩ (hev x) hs hpre
      exact ⟨z, hv, w, .inl (by simp [execOp, ho, hr]), hP⟩
    · cases hs
  · rename_i f fs cs ho
    cases hs
    refine ⟨.func f (fs.map a.eval) (cs.map a.eval), hv, w, .inl (by simp [execOp, ho, Instr.makeFunc]), post_same hI (by
      have := mkFn_rep (f := f) (cells_of hev _ hpre.1) (cells_of hev _ hpre.2)
      have e1 : (fs.toList.map a.eval).toArray = fs.map a.eval := Array.ext' (by simp)
      have e2 : (cs.toList.map a.eval).toArray = cs.map a.eval := Array.ext' (by simp)
      rw [e1, e2] at this
      exact this)⟩
  · rename_i t l c ho
    obtain ⟨z, hv', w', hr, hP⟩ := stepMake_ok hT hI hfresh (hev l) (hev c) hs hpre
    exact ⟨z, hv', w', .inl (by simp [execOp, ho, hr]), hP⟩
  · rename_i t x lo hi ho
    obtain ⟨z, hr, hP⟩ := stepSlice_ok hT hI (hev x) (optRep hev lo) (optRep hev hi) hs hpre
    exact ⟨z, hv, w, .inl (by simp [execOp, ho, hr]), hP⟩
  · rename_i s x f ho
    obtain ⟨z, hr, hP⟩ := stepFieldAddr_ok hT hI (hev x) hs hpre
    exact ⟨z, hv, w, .inl (by simp [execOp, ho, hr]), hP⟩
  · rename_i s x f ho
    obtain ⟨z, hr, hP⟩ := stepField_ok hT hI (hev x) hs hpre
    exact ⟨z, hv, w, .inl (by simp [execOp, ho, hr]), hP⟩
  · rename_i t x ix ho
    obtain ⟨z, hr, hP⟩ := stepIndexAddr_ok hT hI (hev x) (hev ix) hs hpre
    exact ⟨z, hv, w, .inl (by simp [execOp, ho, hr]), hP⟩
  · rename_i t x ix ho
    obtain ⟨z, hr, hP⟩ := stepIndex_ok hT hI (hev x) (hev ix) hs hpre
    exact ⟨z, hv, w, .inl (by simp [execOp, ho, hr]), hP⟩
  · rename_i x i ho
    obtain ⟨z, hr, hP⟩ := stepExtract_ok (P := P) hI (hev x) hs hpre
    exact ⟨z, hv, w, .inl (by simp [execOp, ho, hr]), hP⟩
  · rename_i c ho
    obtain ⟨callee, args, argTypes⟩ := c
    split at hs
    · rename_i x t hc ha ht
      simp only at hc ha ht
      obtain rfl : args = #[x] := Array.ext' ha
      obtain rfl : argTypes = #[t] := Array.ext' ht
      subst hc
      obtain ⟨z, hr, hP⟩ := stepLen_ok (ty := o.type) hT hI (hev x) hs hpre
      exact ⟨z, hv, w, .inl (by simp [execOp, ho, resolve, invoke, builtin, hr]), hP⟩
    · rename_i x y t t' hc ha ht
      simp only at hc ha ht
      obtain rfl : args = #[x, y] := Array.ext' ha
      obtain rfl : argTypes = #[t, t'] := Array.ext' ht
      subst hc
      split at hs
      · rename_i e
        subst e
        obtain ⟨z, hv', w', hr, hP⟩ := stepAppend_ok (ty := o.type) hT hI hfresh (hev x) (hev y) hs hpre
        exact ⟨z, hv', w', .inl (by simp [execOp, ho, resolve, invoke, builtin, hr]), hP⟩
      · cases hs
    · rename_i x y hc ha
      simp only at hc ha
      obtain rfl : args = #[x, y] := Array.ext' ha
      subst hc
      obtain ⟨z, hr, hP⟩ := stepMax_ok (P := P) (ts := argTypes) (t := o.type) hI (hev x) (hev y) hs hpre
      exact ⟨z, hv, w, .inl (by simp [execOp, ho, resolve, invoke, builtin, hr]), hP⟩
    · rename_i x y hc ha
      simp only at hc ha
      obtain rfl : args = #[x, y] := Array.ext' ha
      subst hc
      obtain ⟨z, hr, hP⟩ := stepMin_ok (P := P) (ts := argTypes) (t := o.type) hI (hev x) (hev y) hs hpre
      exact ⟨z, hv, w, .inl (by simp [execOp, ho, resolve, invoke, builtin, hr]), hP⟩
    · cases hs
  · cases hs
end Go.Proofs.YtpdkhlpmiblflaaGreat.Abs

/- Abs, part 11: states, regions in the order of the text, and the rules of code. -/
set_option linter.unusedVariables false
set_option linter.unusedSimpArgs false
namespace Go.Proofs.YtpdkhlpmiblflaaGreat.Abs
open Go Go.RowKit

def putSl (dst : Option Tmp) (d : D) (sl : List (Nat × D)) : List (Nat × D) := match dst with | some t => (t, d) :: sl | none => sl
def killSl (dead : Option Nat) (sl : List (Nat × D)) : List (Nat × D) := match dead with | some h => sl.map (fun p => (p.1, kill h p.2)) | none => sl
def St.app (st : St) (dst : Option Tmp) (r : Res) : St := ⟨putSl dst r.d (killSl r.dead st.sl), r.hpOf st.hp, st.nx + r.new.length⟩

def NewKeys (nx : Nat) (new : List (Nat × Ob)) : Prop := ∀ p ∈ new, nx ≤ p.1 ∧ p.1 < nx + new.length

theorem lk_mem {α : Type} : ∀ {l : List (Nat × α)} {k : Nat} {v : α}, lk k l = some v → (k, v) ∈ l
  | (k', v') :: l, k, v, h => by
    rw [lk_cons] at h
    split at h
    · rename_i e; subst e; cases h; simp
    · exact List.mem_cons_of_mem _ (lk_mem h)
  | [], _, _, h => by simp [lk] at h

theorem lk_append {α : Type} : ∀ (l m : List (Nat × α)) (k : Nat), lk k (l ++ m) = (lk k l).or (lk k m)
  | [], m, k => by simp [lk]
  | (k', v) :: l, m, k => by
    simp only [List.cons_append, lk_cons]
    split
    · simp
    · exact lk_append l m k

theorem lk_updHP : ∀ (u : List (Nat × Ob)) (hp : HP) (k : Nat) (ob : Ob), lk k (updHP u hp) = some ob → ∃ ob', lk k hp = some ob'
  | [], hp, k, ob, h => ⟨ob, h⟩
  | (h, o) :: u, hp, k, ob, hh => by
    obtain ⟨ob', h1⟩ := lk_updHP u _ k ob hh
    rw [lk_hset] at h1
    by_cases e : k = h
    · subst e
      cases h2 : lk k hp with
      | none => simp [h2] at h1
      | some o2 => exact ⟨o2, rfl⟩
    · rw [if_neg e] at h1; exact ⟨ob', h1⟩

theorem keys_app {r : Res} {hp : HP} {nx : Nat} (hk : ∀ h ob, lk h hp = some ob → h < nx) (hn : NewKeys nx r.new) : ∀ h ob, lk h (r.hpOf hp) = some ob → h < nx + r.new.length := fun h ob hl => by
  unfold Res.hpOf at hl
  rw [lk_append] at hl
  cases hnew : lk h r.new with
  | some o => exact (hn _ (lk_mem hnew)).2
  | none =>
    rw [hnew] at hl
    simp only [Option.none_or] at hl
    obtain ⟨ob', h1⟩ := lk_updHP _ _ _ _ hl
    have : ∃ o, lk h hp = some o := by
      split at h1
      · rw [lk_killHP] at h1
        cases h2 : lk h hp with
        | none => simp [h2] at h1
        | some o => exact ⟨o, rfl⟩
      · exact ⟨_, h1⟩
    obtain ⟨o, h2⟩ := this
    have := hk h o h2
    omega

theorem old_key {r : Res} {hp : HP} {nx : Nat} (hn : NewKeys nx r.new) {h : Nat} {ob : Ob} (hl : lk h (r.hpOf hp) = some ob) (hlt : h < nx) : ∃ o, lk h hp = some o := by
  unfold Res.hpOf at hl
  rw [lk_append] at hl
  cases hnew : lk h r.new with
  | some o => have := (hn _ (lk_mem hnew)).1; simp at this; omega
  | none =>
    rw [hnew] at hl
    simp only [Option.none_or] at hl
    obtain ⟨ob', h1⟩ := lk_updHP _ _ _ _ hl
    split at h1
    · rw [lk_killHP] at h1
      cases h2 : lk h hp with
      | none => simp [h2] at h1
      | some o => exact ⟨o, rfl⟩
    · exact ⟨_, h1⟩

theorem lk_killSl {h : Nat} : ∀ {sl : List (Nat × D)} {t : Nat} {d : D}, lk t (sl.map (fun p => (p.1, kill h p.2))) = some d → ∃ d0, lk t sl = some d0 ∧ d = kill h d0
  | (t', d') :: sl, t, d, hl => by
    simp only [List.map_cons, lk_cons] at hl ⊢
    split at hl
    · rename_i e; cases hl; exact ⟨d', by simp [e], rfl⟩
    · rename_i e; simp only [e, if_false]; exact lk_killSl hl
  | [], t, d, hl => by simp [lk] at hl

theorem sinv_put {N : Nat} {L : LF} {w : World} {F : Nat → Prop} {sl : List (Nat × D)} {a : Act} (h : SInv N L w F sl a) {dst : Option Tmp} (hd : ∀ t, dst = some t → t < N) {d : D} {v : Value} (hr : Rep L w F d v) : SInv N L w F (putSl dst d sl) (a.put dst v) := by
  cases dst with
  | none => exact h
  | some t =>
    have ht := hd t rfl
    refine ⟨h.defers, by simpa [Act.put] using h.size, fun t' d' hl => ?_⟩
    simp only [putSl, lk_cons] at hl
    have hsz := h.size
    split at hl
    · rename_i e
      subst e
      cases hl
      have : (a.put (some t') v).tmps.getD t' undef = v := by
        simp [Act.put, Array.getD_eq_getD_getElem?, Array.getElem?_setIfInBounds, hsz, ht]
      rw [this]
      exact hr
    · rename_i e
      have : (a.put (some t) v).tmps.getD t' undef = a.tmps.getD t' undef := by
        simp [Act.put, Array.getD_eq_getD_getElem?, Array.getElem?_setIfInBounds, Ne.symm e]
      rw [this]
      exact h.at_ t' d' hl

variable {C : Ctx} {T : TT}

def OpRel (P : Program) (o : Oper) (ev : Operand → D) (hp : HP) (nx : Nat) (r : Res) : Prop :=
  (NewKeys nx r.new ∧ r.dead = none) ∧ ∀ (w0 : World) (S : List Nat) (G : Nat → Prop) (hv : Nat → Value) (a : Act) (w : World), HInv w0 S G hv hp w → (∀ h ob, lk h hp = some ob → h < nx) → (∀ x, Rep (LOf hv hp) w (FOf G hv hp w) (ev x) (a.eval x)) →
    ∀ (K : Act → World → Prop) (Q : Exit → Act → World → Prop), (∀ v hv' w', Post w0 S G hv hp w r v hv' w' → K (a.put o.dst v) w') → o.wp P a w K Q

def deadOk (m : Nat) (r : Res) : Bool := match r.dead with | some h => decide (m ≤ h) | none => true
def aop (P : Program) (T : TT) (m : Nat) (o : Oper) (st : St) (K : St → Prop) : Prop :=
  match astep T o.op (evD st.sl) st.hp st.nx with
  | some (pre, r) => pre ∧ deadOk m r = true ∧ K (st.app o.dst r)
  | none => ∃ r, OpRel P o (evD st.sl) st.hp st.nx r ∧ K (st.app o.dst r)

theorem astep_new {op : Op} {ev : Operand → D} {hp : HP} {h0 : Nat} {pre : Prop} {r : Res} (h : astep T op ev hp h0 = some (pre, r)) : r.new = [] ∨ ∃ ob, r.new = [(h0, ob)] := by
  unfold astep stepAlloc stepBox stepBuild stepBuildSlice stepLoad stepStore stepBin binI binS binShift stepUn stepConv stepMake stepSlice stepFieldAddr stepField stepIndexAddr stepIndex stepExtract stepLen stepAppend stepMax stepMin q qp at h
  (repeat' split at h) <;> first | cases h; done | (cases h; first | exact .inl rfl | exact .inr ⟨_, rfl⟩)

theorem newKeys_of {h0 : Nat} {new : List (Nat × Ob)} (h : new = [] ∨ ∃ ob, new = [(h0, ob)]) : NewKeys h0 new := by
  rcases h with rfl | ⟨ob, rfl⟩
  · intro p hp; simp at hp
  · intro p hp; simp at hp; subst hp; simp

theorem oprel_of_astep {P : Program} (hT : TOk P T) {o : Oper} {ev : Operand → D} {hp : HP} {nx : Nat} {pre : Prop} {r : Res} (hs : astep T o.op ev hp nx = some (pre, r)) (hpre : pre) :
    ∀ (w0 : World) (S : List Nat) (G : Nat → Prop) (hv : Nat → Value) (a : Act) (w : World), HInv w0 S G hv hp w → (∀ h ob, lk h hp = some ob → h < nx) → (∀ x, Rep (LOf hv hp) w (FOf G hv hp w) (ev x) (a.eval x)) →
    ∀ (K : Act → World → Prop) (Q : Exit → Act → World → Prop), (∀ v hv' w', Post w0 S G hv hp w r v hv' w' → K (a.put o.dst v) w') → o.wp P a w K Q := by
  refine (fun w0 S G hv a w hI hk hev K Q hK => ?_)
  have hfresh : lk nx hp = none := by
    cases h : lk nx hp with
    | none => rfl
    | some ob => have := hk nx ob h; omega
  obtain ⟨v, hv', w', hdone, hP⟩ := astep_ok hT hI hfresh hev hs hpre
  unfold Oper.wp
  rcases hdone with h1 | ⟨h1, rfl⟩
  · rw [h1]; exact hK v hv' w' hP
  · rw [h1]; exact hK _ hv' w' hP

theorem inv_app {st : St} {a : Act} {w : World} {hv : Nat → Value} (hk : ∀ h ob, lk h st.hp = some ob → h < st.nx) (hm : C.m ≤ st.nx) (hpin : ∀ h ob, lk h st.hp = some ob → h < C.m → hv h = C.hv0 h)
    (hS : SInv C.N (LOf hv st.hp) w (FOf C.G hv st.hp w) st.sl a) {dst : Option Tmp} (hd : ∀ t, dst = some t → t < C.N) {r : Res} (hn : NewKeys st.nx r.new) (hdead : ∀ h, r.dead = some h → C.m ≤ h)
    {v : Value} {hv' : Nat → Value} {w' : World} (hP : Post C.w0 C.S C.G hv st.hp w r v hv' w') : Inv C (st.app dst r) (a.put dst v) w' := by
  refine ⟨hv', hP.inv, keys_app hk hn, Nat.le_trans hm (Nat.le_add_right _ _), fun h ob hl hlt => ?_, sinv_put ⟨hS.defers, hS.size, fun t d hl => ?_⟩ hd hP.rep⟩
  · obtain ⟨o, ho⟩ := old_key hn hl (by omega)
    rw [hP.same h o ho (fun e => by have := hdead h e; omega)]
    exact hpin h o ho hlt
  · have hold := hP.old
    unfold killSl at hl
    split at hl
    · rename_i h hdead
      obtain ⟨d0, h1, rfl⟩ := lk_killSl hl
      have := hold d0 _ (hS.at_ t d0 h1)
      simp only [Res.kills, hdead] at this
      exact this
    · rename_i hdead
      have := hold d _ (hS.at_ t d hl)
      simp only [Res.kills, hdead] at this
      exact this

def guardD (ops : List Oper) (j : Nat) (sl : List (Nat × D)) : Option Bool :=
  match (ops[j]?).bind (·.dst) with
  | some t => match lk t sl with
    | some (.val (.bool b)) => some b
    | _ => none
  | none => none

def guardU (ops : List Oper) (j : Nat) (sl : List (Nat × D)) : Bool :=
  match (ops[j]?).bind (·.dst) with
  | some t => match lk t sl with
    | some (.val (.tuple _)) => true
    | _ => false
  | none => false

def areg (P : Program) (T : TT) (m : Nat) (ops : List Oper) : List Oper → St → (St → Prop) → Prop
  | [], st, K => K st
  | o :: l, st, K =>
    match o.guard with
    | none => aop P T m o st (fun st' => areg P T m ops l st' K)
    | some (j, want) =>
      match guardD ops j st.sl with
      | some b => (b = want → aop P T m o st (fun st' => areg P T m ops l st' K)) ∧ (b = !want → areg P T m ops l ⟨putSl o.dst (.val undef) st.sl, st.hp, st.nx⟩ K)
      | none => guardU ops j st.sl = true ∧ areg P T m ops l ⟨putSl o.dst (.val undef) st.sl, st.hp, st.nx⟩ K

def dstsOk (N : Nat) (ops : List Oper) : Bool := ops.all fun o => match o.dst with | some t => decide (t < N) | none => true

theorem aop_wp {P : Program} {m : Nat} (hT : TOk P T) (hP : C.P = P) (hCm : C.m = m) {o : Oper} {st : St} {K : St → Prop} {a : Act} {w : World} (hI : Inv C st a w) (hd : ∀ t, o.dst = some t → t < C.N) (h : aop P T m o st K) {K' : Act → World → Prop} {Q : Exit → Act → World → Prop}
    (hK : ∀ st' a' w', K st' → Inv C st' a' w' → K' a' w') : o.wp P a w K' Q := by
  obtain ⟨hv, hH, hk, hm, hpin, hS⟩ := hI
  have hev := evD_ok hS
  unfold aop at h
  split at h
  · rename_i pre r hs
    exact oprel_of_astep hT hs h.1 C.w0 C.S C.G hv a w hH hk hev K' Q (fun v hv' w' hPost => hK _ _ _ h.2.2 (inv_app hk hm hpin hS hd (newKeys_of (astep_new hs)) (fun k hk => by
      have := h.2.1
      simp only [deadOk, hk, decide_eq_true_eq] at this
      omega) hPost))
  · obtain ⟨r, hr, hKr⟩ := h
    exact hr.2 C.w0 C.S C.G hv a w hH hk hev K' Q (fun v hv' w' hPost => hK _ _ _ hKr (inv_app hk hm hpin hS hd hr.1.1 (fun k hk => by rw [hr.1.2] at hk; cases hk) hPost))

theorem guardD_ok {ops : List Oper} {j : Nat} {sl : List (Nat × D)} {b : Bool} {N : Nat} {L : LF} {w : World} {F : Nat → Prop} {a : Act} (h : guardD ops j sl = some b) (hS : SInv N L w F sl a) (hN : ∀ t, (ops[j]?).bind (·.dst) = some t → t < N) : yielded ops.toArray a.tmps j = some b := by
  unfold guardD at h
  split at h
  · rename_i t ht
    split at h
    · rename_i b' hl
      cases h
      have h1 := rep_val (hS.at_ t _ hl)
      have hlt : t < a.tmps.size := by rw [hS.size]; exact hN t ht
      have h2 : a.tmps[t]? = some (.bool b) := by
        rw [Array.getD_eq_getD_getElem?, Array.getElem?_eq_getElem hlt] at h1
        rw [Array.getElem?_eq_getElem hlt]
        simpa using h1
      have ht' : (ops.toArray[j]?).bind (·.dst) = some t := by simpa using ht
      unfold yielded
      rw [ht']
      simp only [Option.bind_some, h2]
    · cases h
  · cases h

theorem guardU_ok {ops : List Oper} {j : Nat} {sl : List (Nat × D)} {N : Nat} {L : LF} {w : World} {F : Nat → Prop} {a : Act} (h : guardU ops j sl = true) (hS : SInv N L w F sl a) (hN : ∀ t, (ops[j]?).bind (·.dst) = some t → t < N) : yielded ops.toArray a.tmps j = none := by
  unfold guardU at h
  split at h
  · rename_i t ht
    split at h
    · rename_i u hl
      have h1 := rep_val (hS.at_ t _ hl)
      have hlt : t < a.tmps.size := by rw [hS.size]; exact hN t ht
      have h2 : a.tmps[t]? = some (.tuple u) := by
        rw [Array.getD_eq_getD_getElem?, Array.getElem?_eq_getElem hlt] at h1
        rw [Array.getElem?_eq_getElem hlt]
        simpa using h1
      have ht' : (ops.toArray[j]?).bind (·.dst) = some t := by simpa using ht
      unfold yielded
      rw [ht']
      simp only [Option.bind_some, h2]
    · cases h
  · cases h

theorem areg_wp {P : Program} {m : Nat} (hT : TOk P T) (hP : C.P = P) (hCm : C.m = m) {ops : List Oper} (hd0 : dstsOk C.N ops = true) {Q : Exit → Act → World → Prop} : ∀ (l : List Oper) (st : St) (a : Act) (w : World) (K : St → Prop), (∀ o ∈ l, o ∈ ops) → Inv C st a w → areg P T m ops l st K →
    (∀ st' a' w', K st' → Inv C st' a' w' → Q .normal a' w') → wpList P ops.toArray Q l a w
  | [], st, a, w, K, _, hI, h, hK => hK st a w h hI
  | o :: l, st, a, w, K, hsub, hI, h, hK => by
    have hdst : ∀ o ∈ ops, ∀ t, o.dst = some t → t < C.N := fun o ho t ht => by
      have := List.all_eq_true.1 hd0 o ho
      simpa [ht] using this
    have hd := hdst o (hsub o (by simp))
    have ih := areg_wp hT hP hCm hd0 (Q := Q) l
    simp only [areg] at h
    refine wpList_step (fun K' hK' => ?_)
    cases hg : o.guard with
    | none =>
      rw [hg] at h
      simp only [Region.wanted, hg, if_true]
      exact aop_wp hT hP hCm hI hd h (fun st' a' w' h1 h2 => hK' _ _ (ih st' a' w' K (fun o ho => hsub o (by simp [ho])) h2 h1 hK))
    | some jw =>
      obtain ⟨j, want⟩ := jw
      rw [hg] at h
      simp only at h
      split at h
      · rename_i b hb
        obtain ⟨hv, hH, hk, hm, hpin, hS⟩ := hI
        have hy := guardD_ok hb hS (fun t ht => by
          cases hj : ops[j]? with
          | none => simp [hj] at ht
          | some oj => exact hdst oj (List.mem_of_getElem? hj) t (by simpa [hj] using ht))
        simp only [Region.wanted, hg, hy]
        by_cases hbw : b = want
        · subst hbw
          simp only [beq_self_eq_true, if_true]
          exact aop_wp hT hP hCm ⟨hv, hH, hk, hm, hpin, hS⟩ hd (h.1 rfl) (fun st' a' w' h1 h2 => hK' _ _ (ih st' a' w' K (fun o ho => hsub o (by simp [ho])) h2 h1 hK))
        · have hnb : b = !want := by cases b <;> cases want <;> simp_all
          have : (some b == some want) = false := by simpa using hbw
          rw [if_neg (by simpa using hbw)]
          exact hK' _ _ (ih ⟨putSl o.dst (.val undef) st.sl, st.hp, st.nx⟩ _ _ K (fun o ho => hsub o (by simp [ho])) ⟨hv, hH, hk, hm, hpin, sinv_put hS hd (d := .val undef) (v := undef) (RepP.val _ : RepP w (FOf C.G hv st.hp w) (.val undef) _)⟩ (h.2 hnb) hK)
      · obtain ⟨hv, hH, hk, hm, hpin, hS⟩ := hI
        have hy := guardU_ok h.1 hS (fun t ht => by
          cases hj : ops[j]? with
          | none => simp [hj] at ht
          | some oj => exact hdst oj (List.mem_of_getElem? hj) t (by simpa [hj] using ht))
        simp only [Region.wanted, hg, hy]
        rw [if_neg (by simp)]
        exact hK' _ _ (ih ⟨putSl o.dst (.val undef) st.sl, st.hp, st.nx⟩ _ _ K (fun o ho => hsub o (by simp [ho])) ⟨hv, hH, hk, hm, hpin, sinv_put hS hd (d := .val undef) (v := undef) (RepP.val _ : RepP w (FOf C.G hv st.hp w) (.val undef) _)⟩ h.2 hK)

/-! ### Code -/
def awp (C : Ctx) (c : Code) (Q : Exit → St → Prop) (st : St) : Prop := ∀ a w, Inv C st a w → c.wp C.P (fun e a' w' => ∃ st', Q e st' ∧ Inv C st' a' w') a w

def thenA (next : St → Prop) (Q : Exit → St → Prop) : Exit → St → Prop
  | .normal, st => next st
  | e, st => Q e st
def blockA (id : Nat) (Q : Exit → St → Prop) : Exit → St → Prop
  | .exit id', st => if id' = id then Q .normal st else Q (.exit id') st
  | e, st => Q e st

variable {Q : Exit → St → Prop} {st : St}

theorem awp_mono {c : Code} {Q' : Exit → St → Prop} (h : awp C c Q st) (hq : ∀ e st, Q e st → Q' e st) : awp C c Q' st := fun a w hI =>
  wp_mono (h a w hI) (fun e a' w' ⟨st', h1, h2⟩ => ⟨st', hq _ _ h1, h2⟩)
theorem awp_skip (h : Q .normal st) : awp C .skip Q st := fun a w hI => wp_skip ⟨st, h, hI⟩
theorem awp_exit {id : Nat} (h : Q (.exit id) st) : awp C (.exit id) Q st := fun a w hI => wp_exit ⟨st, h, hI⟩
theorem awp_ret (h : Q .ret st) : awp C .ret Q st := fun a w hI => wp_ret ⟨st, h, hI⟩
theorem awp_seq {x y : Code} (h : awp C x (thenA (awp C y Q) Q) st) : awp C (.seq x y) Q st := fun a w hI => by
  refine wp_seq (wp_mono (h a w hI) (fun e a' w' ⟨st', h1, h2⟩ => ?_))
  cases e with
  | normal => exact h1 a' w' h2
  | _ => exact ⟨st', h1, h2⟩
theorem awp_cond {c : Operand} {x y : Code} {t : Bool} (hc : evD st.sl c = .val (.bool t)) (ht : t = true → awp C x Q st) (hf : t = false → awp C y Q st) : awp C (.cond c x y) Q st := fun a w hI => by
  obtain ⟨hv, hH, hk, hm, hpin, hS⟩ := hI
  have h1 := evD_ok hS c
  rw [hc] at h1
  refine wp_cond_split (rep_val h1) (fun e => ht e a w ⟨hv, hH, hk, hm, hpin, hS⟩) (fun e => hf e a w ⟨hv, hH, hk, hm, hpin, hS⟩)
theorem awp_block {id : Nat} {c : Code} (h : awp C c (blockA id Q) st) : awp C (.block id c) Q st := fun a w hI => by
  refine wp_block (wp_mono (h a w hI) (fun e a' w' ⟨st', h1, h2⟩ => ?_))
  cases e with
  | exit id' =>
    simp only [blockA] at h1
    simp only [Exit.inBlock]
    split
    · rename_i e; rw [if_pos e] at h1; exact ⟨st', h1, h2⟩
    · rename_i e; rw [if_neg e] at h1; exact ⟨st', h1, h2⟩
  | _ => exact ⟨st', h1, h2⟩
theorem awp_region {P : Program} {m N : Nat} (hT : TOk P T) (hP : C.P = P) (hCm : C.m = m) (hN : C.N = N) {id : Nat} {l : List Oper} (hd : dstsOk N l = true) (h : areg P T m l l st (Q .normal)) : awp C (.region id l.toArray false) Q st := fun a w hI => by
  subst hP
  exact wp_region_lit (areg_wp hT rfl hCm (hN ▸ hd) l st a w _ (fun o h => h) hI h (fun st' a' w' h1 h2 => ⟨st', h1, h2⟩))

def Weak (C : Ctx) (st st' : St) : Prop := ∀ a w, Inv C st a w → Inv C st' a w
theorem Weak.refl (C : Ctx) (st : St) : Weak C st st := fun _ _ h => h
theorem awp_weak {c : Code} {st' : St} (hw : Weak C st st') (h : awp C c Q st') : awp C c Q st := fun a w hI => h a w (hw a w hI)

theorem least_exists {p : Nat → Prop} (h : ∃ n, p n) : ∃ n, p n ∧ ∀ m, p m → n ≤ m := by
  obtain ⟨n, hn⟩ := h
  induction n using Nat.strongRecOn with
  | _ n ih =>
    by_cases hm : ∃ m, m < n ∧ p m
    · obtain ⟨m, hlt, hpm⟩ := hm
      exact ih m hlt hpm
    · exact ⟨n, hn, fun m hpm => by
        rcases Nat.lt_or_ge m n with h | h
        · exact absurd ⟨m, h, hpm⟩ hm
        · exact h⟩

theorem awp_loop {c : Code} (I : Nat → St → Prop) (n : Nat) (h0 : ∃ st', Weak C st st' ∧ I n st') (round : ∀ n st, I n st → awp C c (thenA (fun st' => ∃ m st'', m < n ∧ Weak C st' st'' ∧ I m st'') Q) st) : awp C (.loop c) Q st := fun a w hI => by
  obtain ⟨st0, hw0, hI0⟩ := h0
  let J : Act → World → Nat → Prop := fun a w n => ∃ st, I n st ∧ Inv C st a w
  have μ : ∀ a w, ∃ k : Nat, ∀ n, J a w n → (J a w k ∧ k ≤ n) := fun a w => by
    by_cases h : ∃ n, J a w n
    · obtain ⟨k, hk, hle⟩ := least_exists h
      exact ⟨k, fun n hn => ⟨hk, hle n hn⟩⟩
    · exact ⟨0, fun n hn => absurd ⟨n, hn⟩ h⟩
  refine wp_loop (fun a w => ∃ n, J a w n) (fun a w => Classical.choose (μ a w)) ⟨n, st0, hI0, hw0 a w hI⟩ (fun a w hJ => ?_)
  obtain ⟨n1, hn1⟩ := hJ
  have hk := Classical.choose_spec (μ a w)
  generalize hkd : Classical.choose (μ a w) = k at hk ⊢
  obtain ⟨st1, h1, h2⟩ := (hk n1 hn1).1
  refine wp_mono (round k st1 h1 a w h2) (fun e a' w' ⟨st', h3, h4⟩ => ?_)
  cases e with
  | normal =>
    obtain ⟨m, st'', hlt, hwk, hIm⟩ := h3
    have hJ' : J a' w' m := ⟨st'', hIm, hwk a' w' h4⟩
    exact ⟨⟨m, hJ'⟩, Nat.lt_of_le_of_lt ((Classical.choose_spec (μ a' w')) m hJ').2 hlt⟩
  | _ => exact ⟨st', h3, h4⟩
end Go.Proofs.YtpdkhlpmiblflaaGreat.Abs

/- Abs, part 12: contracts of functions, and how a call takes them. -/
set_option linter.unusedVariables false
set_option linter.unusedSimpArgs false
namespace Go.Proofs.YtpdkhlpmiblflaaGreat.Abs
open Go Go.RowKit

def numbered : Nat → List Ob → HP
  | _, [] => []
  | k, o :: l => (k, o) :: numbered (k + 1) l
def numD : Nat → List D → List (Nat × D)
  | _, [] => []
  | k, d :: l => (k, d) :: numD (k + 1) l

theorem lk_numbered : ∀ (l : List Ob) (k i : Nat), lk i (numbered k l) = if k ≤ i then l[i - k]? else none
  | [], k, i => by simp [numbered, lk]
  | o :: l, k, i => by
    simp only [numbered, lk_cons, lk_numbered l (k + 1) i]
    by_cases h : i = k
    · subst h; simp
    · rw [if_neg h]
      by_cases h2 : k + 1 ≤ i
      · rw [if_pos h2, if_pos (by omega), show i - k = (i - (k + 1)) + 1 by omega, List.getElem?_cons_succ]
      · rw [if_neg h2, if_neg (by omega)]
theorem lk_numD : ∀ (l : List D) (k i : Nat), lk i (numD k l) = if k ≤ i then l[i - k]? else none
  | [], k, i => by simp [numD, lk]
  | o :: l, k, i => by
    simp only [numD, lk_cons, lk_numD l (k + 1) i]
    by_cases h : i = k
    · subst h; simp
    · rw [if_neg h]
      by_cases h2 : k + 1 ≤ i
      · rw [if_pos h2, if_pos (by omega), show i - k = (i - (k + 1)) + 1 by omega, List.getElem?_cons_succ]
      · rw [if_neg h2, if_neg (by omega)]

structure Spec (X : Type) where
  args : X → List D
  pre : X → Prop := fun _ => True
  res : X → D
  new : X → List Ob := fun _ => []
  obs : X → List Ob := fun _ => []
  out : X → List Ob := fun _ => []

def FnOk {X : Type} (P : Program) (f : FuncId) (s : Spec X) : Prop :=
  (∀ args w, (callFunc f args).run P w = .ok (.enter f args) w) ∧
  ∀ x, s.pre x → (s.out x).map Ob.sz = (s.obs x).map Ob.sz ∧ ∀ (w : World) (S : List Nat) (G : Nat → Prop) (hv : Nat → Value) (vs : List Value), (∀ b, w.heap.size ≤ b → G b) →
    HInv w S G hv (numbered 0 (s.obs x)) w → RepAL (LOf hv (numbered 0 (s.obs x))) w (FOf G hv (numbered 0 (s.obs x)) w) (s.args x) vs →
    Calls P f vs.toArray w (fun e w' => ∃ v hv', e = .returned v ∧ HInv w S G hv' (numbered 0 (s.out x ++ s.new x)) w' ∧ (∀ i, i < (s.obs x).length → hv' i = hv i) ∧
      Rep (LOf hv' (numbered 0 (s.out x ++ s.new x))) w' (FOf G hv' (numbered 0 (s.out x ++ s.new x)) w') (s.res x) v)

/-! ### Other handles for a value's handles -/
def renC (ks : List Nat) : D → Option D
  | .own i => (ks[i]?).map .own
  | .vw i lo n => (ks[i]?).map fun k => .vw k lo n
  | .cvw i a b c n => (ks[i]?).map fun k => .cvw k a b c n
  | .ptr i a b => (ks[i]?).map fun k => .ptr k a b
  | .agg _ | .tup _ | .fn _ _ _ => none
  | d => some d
def renCL (ks : List Nat) : List D → Option (List D)
  | [] => some []
  | d :: ds => match renC ks d, renCL ks ds with
    | some e, some es => some (e :: es)
    | _, _ => none
def renA (ks : List Nat) : D → Option D
  | .agg cs => (renCL ks cs).map .agg
  | .fn f fs cs => match renCL ks fs, renCL ks cs with
    | some es, some ds => some (.fn f es ds)
    | _, _ => none
  | d => renC ks d
def renAL (ks : List Nat) : List D → Option (List D)
  | [] => some []
  | d :: ds => match renA ks d, renAL ks ds with
    | some e, some es => some (e :: es)
    | _, _ => none
def ren (ks : List Nat) : D → Option D
  | .tup ds => (renAL ks ds).map .tup
  | d => renA ks d

section ren
variable {L L' : LF} {w : World} {F F' : Nat → Prop} {ks : List Nat}
theorem renC_rep (hL : ∀ (i k : Nat) x, ks[i]? = some k → L i = some x → L' k = some x) (hF : ∀ b, F b → F' b) {d e : D} {v : Value} (h : renC ks d = some e) (hr : RepC L w F d v) : RepC L' w F' e v := by
  have hF' : ∀ b, F b → F' b ∧ w.heap[b]? = w.heap[b]? := fun b hb => ⟨hF b hb, rfl⟩
  cases d <;> simp only [renC, Option.map_eq_some_iff, reduceCtorEq, Option.some.injEq] at h
  case own i => obtain ⟨k, hk, rfl⟩ := h; obtain ⟨s, hs⟩ := hr; exact ⟨s, hL _ _ _ hk hs⟩
  case vw i lo n => obtain ⟨k, hk, rfl⟩ := h; obtain ⟨A, c, m, cap, s, a, e, hl, r⟩ := hr; exact ⟨A, c, m, cap, s, a, e, hL _ _ _ hk hl, r⟩
  case cvw i a b c n => obtain ⟨k, hk, rfl⟩ := h; obtain ⟨g, m, cap, s, c, hl, r⟩ := hr; exact ⟨g, m, cap, s, c, hL _ _ _ hk hl, r⟩
  case ptr i a b => obtain ⟨k, hk, rfl⟩ := h; obtain ⟨g, m, cap, s, hl, r⟩ := hr; exact ⟨g, m, cap, s, hL _ _ _ hk hl, r⟩
  case rptr => subst h; obtain ⟨ad, e, hrow⟩ := hr; exact ⟨ad, e, hrow.mono hF'⟩
  all_goals (subst h; exact RepP.mono hF' hr)
theorem renCL_rep (hL : ∀ (i k : Nat) x, ks[i]? = some k → L i = some x → L' k = some x) (hF : ∀ b, F b → F' b) : ∀ {ds es : List D} {vs : List Value}, renCL ks ds = some es → RepL L w F ds vs → RepL L' w F' es vs
  | [], es, [], h, _ => by simp [renCL] at h; subst h; trivial
  | d :: ds, es, v :: vs, h, hr => by
    simp only [renCL] at h
    split at h
    · rename_i e es' h1 h2
      cases h
      exact ⟨renC_rep hL hF h1 hr.1, renCL_rep hL hF h2 hr.2⟩
    · cases h
  | [], _, _ :: _, _, hr => hr.elim
  | _ :: _, _, [], _, hr => hr.elim
theorem renA_rep (hL : ∀ (i k : Nat) x, ks[i]? = some k → L i = some x → L' k = some x) (hF : ∀ b, F b → F' b) {d e : D} {v : Value} (h : renA ks d = some e) (hr : RepA L w F d v) : RepA L' w F' e v := by
  have one : ∀ d e, renC ks d = some e → RepC L w F d v → RepA L' w F' e v := fun d e h hr => by
    have := renC_rep hL hF h hr
    cases e <;> first | exact this | exact this.elim
  cases d
  case agg cs =>
    simp only [renA, Option.map_eq_some_iff] at h
    obtain ⟨es, h1, rfl⟩ := h
    obtain ⟨vs, e, hr, ho⟩ := hr
    exact ⟨vs, e, renCL_rep hL hF h1 hr, ho⟩
  case fn f fs cs =>
    simp only [renA] at h
    split at h
    · rename_i es ds h1 h2
      cases h
      obtain ⟨us, vs, e, hr1, hr2⟩ := hr
      exact ⟨us, vs, e, renCL_rep hL hF h1 hr1, renCL_rep hL hF h2 hr2⟩
    · cases h
  all_goals (simp only [renA] at h; exact one _ e h hr)
theorem renAL_rep (hL : ∀ (i k : Nat) x, ks[i]? = some k → L i = some x → L' k = some x) (hF : ∀ b, F b → F' b) : ∀ {ds es : List D} {vs : List Value}, renAL ks ds = some es → RepAL L w F ds vs → RepAL L' w F' es vs
  | [], es, [], h, _ => by simp [renAL] at h; subst h; trivial
  | d :: ds, es, v :: vs, h, hr => by
    simp only [renAL] at h
    split at h
    · rename_i e es' h1 h2
      cases h
      exact ⟨renA_rep hL hF h1 hr.1, renAL_rep hL hF h2 hr.2⟩
    · cases h
  | [], _, _ :: _, _, hr => hr.elim
  | _ :: _, _, [], _, hr => hr.elim
theorem ren_rep (hL : ∀ (i k : Nat) x, ks[i]? = some k → L i = some x → L' k = some x) (hF : ∀ b, F b → F' b) {d e : D} {v : Value} (h : ren ks d = some e) (hr : Rep L w F d v) : Rep L' w F' e v := by
  have one : ∀ d e, renA ks d = some e → RepA L w F d v → Rep L' w F' e v := fun d e h hr => repA_D (renA_rep hL hF h hr)
  cases d
  case tup ds =>
    simp only [ren, Option.map_eq_some_iff] at h
    obtain ⟨es, h1, rfl⟩ := h
    obtain ⟨vs, e, hr⟩ := hr
    exact ⟨vs, e, renAL_rep hL hF h1 hr⟩
  all_goals (simp only [ren] at h; exact one _ e h hr)
theorem renC_back (hL : ∀ (i k : Nat) x, ks[i]? = some k → L k = some x → L' i = some x) (hF : ∀ b, F b → F' b) {d e : D} {v : Value} (h : renC ks d = some e) (hr : RepC L w F e v) : RepC L' w F' d v := by
  have hF' : ∀ b, F b → F' b ∧ w.heap[b]? = w.heap[b]? := fun b hb => ⟨hF b hb, rfl⟩
  cases d <;> simp only [renC, Option.map_eq_some_iff, reduceCtorEq, Option.some.injEq] at h
  case own i => obtain ⟨k, hk, rfl⟩ := h; obtain ⟨s, hs⟩ := hr; exact ⟨s, hL _ _ _ hk hs⟩
  case vw i lo n => obtain ⟨k, hk, rfl⟩ := h; obtain ⟨A, c, m, cap, s, a, e, hl, r⟩ := hr; exact ⟨A, c, m, cap, s, a, e, hL _ _ _ hk hl, r⟩
  case cvw i a b c n => obtain ⟨k, hk, rfl⟩ := h; obtain ⟨g, m, cap, s, c, hl, r⟩ := hr; exact ⟨g, m, cap, s, c, hL _ _ _ hk hl, r⟩
  case ptr i a b => obtain ⟨k, hk, rfl⟩ := h; obtain ⟨g, m, cap, s, hl, r⟩ := hr; exact ⟨g, m, cap, s, hL _ _ _ hk hl, r⟩
  case rptr => subst h; obtain ⟨ad, e, hrow⟩ := hr; exact ⟨ad, e, hrow.mono hF'⟩
  all_goals (subst h; exact RepP.mono hF' hr)
theorem renCL_back (hL : ∀ (i k : Nat) x, ks[i]? = some k → L k = some x → L' i = some x) (hF : ∀ b, F b → F' b) : ∀ {ds es : List D} {vs : List Value}, renCL ks ds = some es → RepL L w F es vs → RepL L' w F' ds vs
  | [], es, vs, h, hr => by simp [renCL] at h; subst h; cases vs with | nil => trivial | cons => exact hr.elim
  | d :: ds, es, vs, h, hr => by
    simp only [renCL] at h
    split at h
    · rename_i e es' h1 h2
      cases h
      cases vs with
      | nil => exact hr.elim
      | cons v vs => exact ⟨renC_back hL hF h1 hr.1, renCL_back hL hF h2 hr.2⟩
    · cases h
theorem renA_back (hL : ∀ (i k : Nat) x, ks[i]? = some k → L k = some x → L' i = some x) (hF : ∀ b, F b → F' b) {d e : D} {v : Value} (h : renA ks d = some e) (hr : RepA L w F e v) : RepA L' w F' d v := by
  have one : ∀ d e, renC ks d = some e → (∀ x, d ≠ .agg x) → (∀ x y z, d ≠ .fn x y z) → RepA L w F e v → RepA L' w F' d v := fun d e h h1 h2 hr => by
    have hr' : RepC L w F e v := by
      cases d <;> simp only [renC, Option.map_eq_some_iff, reduceCtorEq, Option.some.injEq] at h
      case own => obtain ⟨k, _, rfl⟩ := h; exact hr
      case vw => obtain ⟨k, _, rfl⟩ := h; exact hr
      case cvw => obtain ⟨k, _, rfl⟩ := h; exact hr
      case ptr => obtain ⟨k, _, rfl⟩ := h; exact hr
      all_goals (subst h; exact hr)
    have := renC_back hL hF h hr'
    cases d <;> first | exact this | exact this.elim
  cases d
  case agg cs =>
    simp only [renA, Option.map_eq_some_iff] at h
    obtain ⟨es, h1, rfl⟩ := h
    obtain ⟨vs, e, hr, ho⟩ := hr
    exact ⟨vs, e, renCL_back hL hF h1 hr, ho⟩
  case fn f fs cs =>
    simp only [renA] at h
    split at h
    · rename_i es ds h1 h2
      cases h
      obtain ⟨us, vs, e, hr1, hr2⟩ := hr
      exact ⟨us, vs, e, renCL_back hL hF h1 hr1, renCL_back hL hF h2 hr2⟩
    · cases h
  all_goals (simp only [renA] at h; exact one _ e h (fun _ => by simp) (fun _ _ _ => by simp) hr)
theorem renAL_back (hL : ∀ (i k : Nat) x, ks[i]? = some k → L k = some x → L' i = some x) (hF : ∀ b, F b → F' b) : ∀ {ds es : List D} {vs : List Value}, renAL ks ds = some es → RepAL L w F es vs → RepAL L' w F' ds vs
  | [], es, vs, h, hr => by simp [renAL] at h; subst h; cases vs with | nil => trivial | cons => exact hr.elim
  | d :: ds, es, vs, h, hr => by
    simp only [renAL] at h
    split at h
    · rename_i e es' h1 h2
      cases h
      cases vs with
      | nil => exact hr.elim
      | cons v vs => exact ⟨renA_back hL hF h1 hr.1, renAL_back hL hF h2 hr.2⟩
    · cases h
theorem ren_back (hL : ∀ (i k : Nat) x, ks[i]? = some k → L k = some x → L' i = some x) (hF : ∀ b, F b → F' b) {d e : D} {v : Value} (h : ren ks d = some e) (hr : Rep L w F e v) : Rep L' w F' d v := by
  have one : ∀ d e, renA ks d = some e → (∀ x, d ≠ .tup x) → Rep L w F e v → Rep L' w F' d v := fun d e h h1 hr => by
    have hr' : RepA L w F e v := by
      cases d
      case tup => exact absurd rfl (h1 _)
      case agg => simp only [renA, Option.map_eq_some_iff] at h; obtain ⟨es, _, rfl⟩ := h; exact hr
      case fn => 
        simp only [renA] at h
        split at h
        · cases h; exact hr
        · cases h
      all_goals simp only [renA, renC, Option.map_eq_some_iff, Option.some.injEq] at h
      case own => obtain ⟨k, _, rfl⟩ := h; exact hr
      case vw => obtain ⟨k, _, rfl⟩ := h; exact hr
      case cvw => obtain ⟨k, _, rfl⟩ := h; exact hr
      case ptr => obtain ⟨k, _, rfl⟩ := h; exact hr
      all_goals (subst h; exact hr)
    exact repA_D (renA_back hL hF h hr')
  cases d
  case tup ds =>
    simp only [ren, Option.map_eq_some_iff] at h
    obtain ⟨es, h1, rfl⟩ := h
    obtain ⟨vs, e, hr⟩ := hr
    exact ⟨vs, e, renAL_back hL hF h1 hr⟩
  all_goals (simp only [ren] at h; exact one _ e h (fun _ => by simp) hr)
end ren
end Go.Proofs.YtpdkhlpmiblflaaGreat.Abs

/- Abs, part 13: a contract out of a body. -/
set_option linter.unusedVariables false
set_option linter.unusedSimpArgs false
namespace Go.Proofs.YtpdkhlpmiblflaaGreat.Abs
open Go Go.RowKit
variable {P : Program} {T : TT} {w : World}

def resD (T : TT) (sl : List (Nat × D)) (hp : HP) : ResultVar → Option D
  | .tmp t => some (evD sl (.tmp t))
  | .cell a t => match stepLoad T t hp (evD sl (.tmp a)) with
    | some (_, r) => some r.d
    | none => none
def resDs (T : TT) (sl : List (Nat × D)) (hp : HP) : List ResultVar → Option (List D)
  | [] => some []
  | r :: rs => match resD T sl hp r, resDs T sl hp rs with
    | some d, some ds => some (d :: ds)
    | _, _ => none
def notTup : D → Bool
  | .tup _ => false
  | _ => true
def outD (T : TT) (sl : List (Nat × D)) (hp : HP) (rs : List ResultVar) : Option D :=
  match resDs T sl hp rs with
  | some [d] => some d
  | some ds => if ds.all notTup then some (.tup ds) else none
  | none => none

theorem stepLoad_true {T : TT} {t : TypeId} {hp : HP} {a : D} {pre : Prop} {r : Res} (h : stepLoad T t hp a = some (pre, r)) : pre := by
  unfold stepLoad q at h
  (repeat' split at h) <;> first | cases h; done | (cases h; trivial)

theorem asAddr_of_load {T : TT} {t : TypeId} {hp : HP} {L : LF} {F : Nat → Prop} {a : D} {u : Value} {pr : Prop × Res} (h : stepLoad T t hp a = some pr) (hr : Rep L w F a u) : ∃ ad, u = .pointer (some ad) := by
  unfold stepLoad at h
  split at h
  · cases h
  split at h
  · obtain ⟨g, m, cap, s, _, rfl⟩ := hr; exact ⟨_, rfl⟩
  · obtain ⟨ad, rfl, _⟩ := hr; exact ⟨_, rfl⟩
  · cases h

theorem rep_A {L : LF} {F : Nat → Prop} {d : D} {v : Value} (h : Rep L w F d v) (hn : notTup d = true) : RepA L w F d v := by
  cases d <;> first | exact h | (simp [notTup] at hn)

def resV : ResultVar → Array Value → Sem Value
  | .tmp t, tmps => pure (tmps.getD t undef)
  | .cell a t, tmps => do loadVar t (← asAddr (tmps.getD a undef))

theorem resDs_ok (hT : TOk P T) {w0 : World} {S : List Nat} {G : Nat → Prop} {hv : Nat → Value} {hp : HP} {N : Nat} {sl : List (Nat × D)} {a : Act} (hI : HInv w0 S G hv hp w) (hS : SInv N (LOf hv hp) w (FOf G hv hp w) sl a) : ∀ (rs : List ResultVar) (ds : List D), resDs T sl hp rs = some ds →
    ∃ vs : List Value, (rs.mapM (fun r => resV r a.tmps)).run P w = .ok vs w ∧ (ds.length = vs.length) ∧ ∀ (j : Nat) d v, ds[j]? = some d → vs[j]? = some v → Rep (LOf hv hp) w (FOf G hv hp w) d v
  | [], ds, h => by simp [resDs] at h; subst h; exact ⟨[], rfl, rfl, fun j d v hd => by simp at hd⟩
  | r :: rs, ds, h => by
    simp only [resDs] at h
    split at h
    · rename_i d ds' h1 h2
      cases h
      obtain ⟨vs, hrun, hlen, hrep⟩ := resDs_ok hT hI hS rs ds' h2
      have hone : ∃ v, (resV r a.tmps).run P w = .ok v w ∧ Rep (LOf hv hp) w (FOf G hv hp w) d v := by
        cases r with
        | tmp t =>
          simp only [resD, Option.some.injEq] at h1
          subst h1
          exact ⟨_, rfl, evD_ok hS (.tmp t)⟩
        | cell ad t =>
          simp only [resD] at h1
          split at h1
          · rename_i pre r hl
            cases h1
            have hra := evD_ok hS (.tmp ad)
            obtain ⟨adr, hadr⟩ := asAddr_of_load hl hra
            obtain ⟨z, hz, hP⟩ := stepLoad_ok hT hI hra hl (stepLoad_true hl)
            have hnew : r.hpOf hp = hp := by
              unfold stepLoad q at hl
              (repeat' split at hl) <;> first | cases hl; done | (cases hl; rfl)
            have hr := hP.rep
            rw [hnew] at hr
            refine ⟨z, ?_, hr⟩
            simp only [Act.eval] at hadr hz
            rw [hadr] at hz
            simp only [Instr.loadAt, Instr.sureAddr, Sem.run_bind, Sem.run_pure, Result.andThen_ok] at hz
            simp only [resV, hadr, asAddr, Sem.run_bind, Sem.run_pure, Result.andThen_ok]
            exact hz
          · cases h1
      obtain ⟨v, hv1, hv2⟩ := hone
      refine ⟨v :: vs, ?_, by simp [hlen], fun j d' v' hd hv' => ?_⟩
      · rw [List.mapM_cons]
        simp [hv1, hrun]
      · cases j with
        | zero => simp at hd hv'; subst hd; subst hv'; exact hv2
        | succ j => exact hrep j d' v' (by simpa using hd) (by simpa using hv')
    · cases h

theorem repAL_of {L : LF} {F : Nat → Prop} : ∀ {ds : List D} {us : List Value}, ds.length = us.length → (∀ (j : Nat) d u, ds[j]? = some d → us[j]? = some u → RepA L w F d u) → RepAL L w F ds us
  | [], [], _, _ => trivial
  | d :: ds, u :: us, hl, h => ⟨h 0 d u rfl rfl, repAL_of (by simpa using hl) (fun j d u hd hu => h (j + 1) d u (by simpa using hd) (by simpa using hu))⟩
  | [], _ :: _, hl, _ => by simp at hl
  | _ :: _, [], hl, _ => by simp at hl

theorem outD_ok (hT : TOk P T) {w0 : World} {S : List Nat} {G : Nat → Prop} {hv : Nat → Value} {hp : HP} {N : Nat} {sl : List (Nat × D)} {a : Act} (hI : HInv w0 S G hv hp w) (hS : SInv N (LOf hv hp) w (FOf G hv hp w) sl a) {fn : Func} {d : D} (h : outD T sl hp fn.results.toList = some d) :
    ∃ v, (results fn a.tmps).run P w = .ok v w ∧ Rep (LOf hv hp) w (FOf G hv hp w) d v := by
  have hfun : results fn a.tmps = (do let vs ← fn.results.mapM (fun r => resV r a.tmps); pure (if h : vs.size = 1 then vs[0] else .tuple vs)) := by
    unfold results
    congr 1
    congr 1
    funext r
    cases r <;> rfl
  unfold outD at h
  split at h
  · rename_i d' hd
    cases h
    obtain ⟨vs, hrun, hlen, hrep⟩ := resDs_ok hT hI hS _ _ hd
    match vs, hlen with
    | [v], _ =>
      refine ⟨v, ?_, hrep 0 _ _ rfl rfl⟩
      rw [hfun, Array.mapM_eq_mapM_toList]
      simp [hrun]
  · rename_i ds hne hd
    split at h
    · rename_i hall
      cases h
      obtain ⟨vs, hrun, hlen, hrep⟩ := resDs_ok hT hI hS _ _ hd
      refine ⟨.tuple vs.toArray, ?_, ⟨vs, rfl, repAL_of hlen (fun j d u hd hu => rep_A (hrep j d u hd hu) (List.all_eq_true.1 hall d (List.mem_of_getElem? hd)))⟩⟩
      have hn1 : vs.length ≠ 1 := fun e => by
        rw [← hlen] at e
        match ds, e with
        | [x], _ => exact hne x rfl
      rw [hfun, Array.mapM_eq_mapM_toList]
      simp [hrun, hn1]
    · cases h
  · cases h

def Fits (o o' : Ob) : Prop := o.ty = o'.ty ∧ o.sz = o'.sz ∧ o.xs = o'.xs ∧ o'.deep = false ∧ (o.deep = false ∨ ∀ x ∈ o'.xs, x.all hf = true)
def Objs (hp : HP) : List Nat → List Ob → Prop
  | [], [] => True
  | k :: ks, o :: os => (∃ ob, lk k hp = some ob ∧ Fits ob o) ∧ Objs hp ks os
  | _, _ => False

theorem objs_get {hp : HP} : ∀ {ks : List Nat} {os : List Ob}, Objs hp ks os → ks.length = os.length ∧ ∀ (i : Nat) o, os[i]? = some o → ∃ k ob, ks[i]? = some k ∧ lk k hp = some ob ∧ Fits ob o
  | [], [], _ => ⟨rfl, fun i o h => by simp at h⟩
  | k :: ks, o :: os, h => by
    obtain ⟨h1, h2⟩ := objs_get h.2
    refine ⟨by simp [h1], fun i o' hi => ?_⟩
    cases i with
    | zero => simp at hi; subst hi; obtain ⟨ob, h3, h4⟩ := h.1; exact ⟨k, ob, rfl, h3, h4⟩
    | succ i => obtain ⟨k', ob, h3, h4⟩ := h2 i o' (by simpa using hi); exact ⟨k', ob, by simpa using h3, h4⟩
  | [], _ :: _, h => h.elim
  | _ :: _, [], h => h.elim

def Fin {X : Type} (T : TT) (rs : List ResultVar) (s : Spec X) (m : Nat) (x : X) (st : St) : Prop :=
  ∃ d ks, outD T st.sl st.hp rs = some d ∧ ren (List.range m ++ ks) (s.res x) = some d ∧ Objs st.hp (List.range m ++ ks) (s.out x ++ s.new x) ∧ (List.range m ++ ks).Nodup

def bodyA {X : Type} (T : TT) (rs : List ResultVar) (s : Spec X) (m : Nat) (x : X) : Exit → St → Prop
  | .normal, st | .ret, st => Fin T rs s m x st
  | _, _ => False

theorem repAL_length {L : LF} {F : Nat → Prop} : ∀ {ds : List D} {us : List Value}, RepAL L w F ds us → ds.length = us.length
  | [], [], _ => rfl
  | _ :: ds, _ :: us, h => by simp [repAL_length h.2]
  | [], _ :: _, h => h.elim
  | _ :: _, [], h => h.elim

theorem fn_ok {X : Type} {s : Spec X} {f : FuncId} {fn : Func} {c : Code} (n m : Nat) (hT : TOk P T) (hf : P.funcs[f]? = some fn) (hb : fn.body = some c) (hent : ∀ args w, (callFunc f args).run P w = .ok (.enter f args) w)
    (hargs : ∀ x, (s.args x).length = n) (hobs : ∀ x, (s.obs x).length = m) (hout : ∀ x, (s.out x).map Ob.sz = (s.obs x).map Ob.sz)
    (h : ∀ x, s.pre x → ∀ C : Ctx, C.P = P → C.N = n + (fn.ntmps - n) → C.m = m → (∀ b, C.w0.heap.size ≤ b → C.G b) → awp C c (bodyA T fn.results.toList s m x) ⟨numD 0 (s.args x), numbered 0 (s.obs x), m⟩) : FnOk P f s := by
  refine ⟨hent, fun x hx => ⟨hout x, fun w S G hv vs hG hI hA => ?_⟩⟩
  have hn : vs.length = n := by rw [← repAL_length hA, hargs]
  refine calls_of_wp hf hb ?_
  have hInv : Inv ⟨P, n + (fn.ntmps - n), w, S, G, m, hv⟩ ⟨numD 0 (s.args x), numbered 0 (s.obs x), m⟩ { tmps := vs.toArray ++ Array.replicate (fn.ntmps - vs.toArray.size) undef, defers := [] } w := by
    refine ⟨hv, hI, fun h ob hl => ?_, Nat.le_refl _, fun _ _ _ _ => rfl, ⟨rfl, by simp [hn], fun t d hl => ?_⟩⟩
    · rw [lk_numbered] at hl
      simp only [Nat.zero_le, if_true, Nat.sub_zero] at hl
      have := (List.getElem?_eq_some_iff.1 hl).1
      rw [hobs] at this
      exact this
    · rw [lk_numD] at hl
      simp only [Nat.zero_le, if_true, Nat.sub_zero] at hl
      obtain ⟨u, hu, hr⟩ := repAL_get hA t d hl
      have htl : t < vs.length := (List.getElem?_eq_some_iff.1 hu).1
      have : (vs.toArray ++ Array.replicate (fn.ntmps - vs.toArray.size) undef).getD t undef = u := by
        rw [Array.getD_eq_getD_getElem?, Array.getElem?_append_left (by simpa using htl)]
        simp [hu]
      rw [this]
      exact repA_D hr
  refine wp_mono (h x hx ⟨P, n + (fn.ntmps - n), w, S, G, m, hv⟩ rfl rfl rfl hG _ w hInv) (fun e a' w' ⟨st', h1, h2⟩ => ?_)
  obtain ⟨hv', hH, hk, hmn, hpin, hS⟩ := h2
  have fin : Fin T fn.results.toList s m x st' → a'.defers = [] ∧ ∃ v, (results fn a'.tmps).run P w' = .ok v w' ∧ ∃ v0 hv'', Ending.returned v = .returned v0 ∧ HInv w S G hv'' (numbered 0 (s.out x ++ s.new x)) w' ∧ (∀ i, i < (s.obs x).length → hv'' i = hv i) ∧
      Rep (LOf hv'' (numbered 0 (s.out x ++ s.new x))) w' (FOf G hv'' (numbered 0 (s.out x ++ s.new x)) w') (s.res x) v0 := fun ⟨d, ks0, hd, hren, hobj, hnd⟩ => by
    obtain ⟨v, hrun, hrep⟩ := outD_ok hT hH hS hd
    obtain ⟨ks, hks⟩ : ∃ ks, ks = List.range m ++ ks0 := ⟨_, rfl⟩
    rw [← hks] at hren hobj hnd
    obtain ⟨hkl, hget⟩ := objs_get hobj
    have hlk : ∀ i o, lk i (numbered 0 (s.out x ++ s.new x)) = some o → ∃ k ob, ks[i]? = some k ∧ lk k st'.hp = some ob ∧ Fits ob o := fun i o hi => by
      rw [lk_numbered] at hi
      simp only [Nat.zero_le, if_true, Nat.sub_zero] at hi
      exact hget i o hi
    have hgd : ∀ i k, ks[i]? = some k → ks.getD i 0 = k := fun i k h => by simp [List.getD, h]
    have hF : ∀ b, FOf G hv' st'.hp w' b → FOf G (fun i => hv' (ks.getD i 0)) (numbered 0 (s.out x ++ s.new x)) w' b := fun b hb => ⟨hb.1, fun i o hi => by
      obtain ⟨k, ob, hk, hob, _⟩ := hlk i o hi
      simp only [hgd i k hk]
      exact hb.2 k ob hob⟩
    have hL : ∀ (i k : Nat) y, ks[i]? = some k → LOf hv' st'.hp k = some y → LOf (fun i => hv' (ks.getD i 0)) (numbered 0 (s.out x ++ s.new x)) i = some y := fun i k y hk hy => by
      have hil : i < ks.length := (List.getElem?_eq_some_iff.1 hk).1
      have h3 : ∃ o, (s.out x ++ s.new x)[i]? = some o := ⟨_, List.getElem?_eq_getElem (by omega)⟩
      obtain ⟨o, h3⟩ := h3
      obtain ⟨k', ob, hk', hob, hfit⟩ := hget i o h3
      rw [hk] at hk'
      cases hk'
      rw [LOf_eq hob] at hy
      have h4 : lk i (numbered 0 (s.out x ++ s.new x)) = some o := by rw [lk_numbered]; simpa using h3
      rw [LOf_eq h4]
      cases hy
      simp only [hgd i k hk, hfit.2.1]
    refine ⟨hS.defers, v, hrun, v, fun i => hv' (ks.getD i 0), rfl, ⟨fun i o hi => ?_, fun i j o o' hi hj hne => ?_, fun i o b hi hb => ?_, hH.keeps, hH.gnew⟩, fun i hi => ?_, ren_back hL hF hren hrep⟩
    · obtain ⟨k, ob, hk, hob, h4, h5, h6, h7, h8⟩ := hlk i o hi
      obtain ⟨us, ho, hg, hc⟩ := hH.obs k ob hob
      refine ⟨us, by rw [← h4, ← h5, ← h6, hgd i k hk]; exact ho, by rw [← h5, ← h6]; exact hg, fun a b y e ha hb => ?_⟩
      rw [← h6] at ha
      obtain ⟨u, hu, hone, hr⟩ := hc a b y e ha hb
      refine ⟨u, by rw [← h5]; exact hu, hone, ?_⟩
      have hp : RepP w' (FOf G hv' st'.hp w') e u := by
        rcases h8 with h8 | h8
        · simpa [RepO, h8] using hr
        · have := List.all_eq_true.1 (h8 y (by rw [← h6]; exact List.mem_of_getElem? ha)) e (List.mem_of_getElem? hb)
          exact repP_of_hf this hr.toC
      rw [h7]
      simp only [RepO, Bool.false_eq_true, if_false]
      exact hp.mono (fun b hb => ⟨hF b hb, rfl⟩)
    · obtain ⟨k, ob, hk, hob, _⟩ := hlk i o hi
      obtain ⟨k', ob', hk', hob', _⟩ := hlk j o' hj
      simp only [hgd i k hk, hgd j k' hk']
      refine hH.inj k k' ob ob' hob hob' (fun e => hne ?_)
      subst e
      exact (List.getElem?_inj (List.getElem?_eq_some_iff.1 hk).1 hnd).1 (hk.trans hk'.symm)
    · obtain ⟨k, ob, hk, hob, _⟩ := hlk i o hi
      simp only [hgd i k hk] at hb
      exact hH.base k ob b hob hb
    · rw [hobs] at hi
      have hki : ks[i]? = some i := by rw [hks, List.getElem?_append_left (by simpa using hi), List.getElem?_range hi]
      have h3 : ∃ o, (s.out x ++ s.new x)[i]? = some o := ⟨_, List.getElem?_eq_getElem (by have := (List.getElem?_eq_some_iff.1 hki).1; omega)⟩
      obtain ⟨o, h3⟩ := h3
      obtain ⟨k', ob, hk', hob, hfit⟩ := hget i o h3
      rw [hki] at hk'
      cases hk'
      simp only [hgd i i hki]
      exact hpin i ob hob hi
  cases e with
  | normal => exact fin h1
  | ret => exact fin h1
  | _ => exact h1.elim
end Go.Proofs.YtpdkhlpmiblflaaGreat.Abs

/- Abs, part 14: a call taken by its contract. -/
set_option linter.unusedVariables false
set_option linter.unusedSimpArgs false
namespace Go.Proofs.YtpdkhlpmiblflaaGreat.Abs
open Go Go.RowKit
variable {P : Program} {T : TT}

theorem oRow_same {w w' : World} {b0 : Nat} {e : TypeId} {sz n : Nat} {v : Value} {xs : List Value} (h : oRow w b0 e sz v n xs) (hb : ∀ b, v.ownBlock = some b → w'.heap[b]? = w.heap[b]?) : oRow w' b0 e sz v n xs := by
  refine ⟨h.1, ?_⟩
  rcases h.2 with h | ⟨g, cap, cur, rfl, h1, h2, h3⟩
  · exact .inl h
  · exact .inr ⟨g, cap, cur, rfl, h1, by rw [hb g rfl]; exact h2, h3⟩

/-! ### Arguments: what the caller holds, as the contract tells it -/
/-- One cell: formal, actual. 'ks': the caller's handles of the objects that are handed over. -/
/- A cell of an object that is lent for reading: it bears no handle, or a slice over a whole object of flat cells. -/
def CellV (hp : HP) (ks : List Nat) (d e : D) : Prop := (d = e ∧ hf e = true) ∨ ∃ k ob, e = .own k ∧ k ∉ ks ∧ lk k hp = some ob ∧ ob.deep = false ∧ d = .sl ob.sz ob.xs
def CellsV (hp : HP) (ks : List Nat) : List D → List D → Prop
  | [], [] => True
  | d :: ds, e :: es => CellV hp ks d e ∧ CellsV hp ks ds es
  | _, _ => False
def RowsV (hp : HP) (ks : List Nat) : List (List D) → List (List D) → Prop
  | [], [] => True
  | x :: xs, y :: ys => CellsV hp ks x y ∧ RowsV hp ks xs ys
  | _, _ => False
theorem cellsV_get {hp : HP} {ks : List Nat} : ∀ {x y : List D}, CellsV hp ks x y → x.length = y.length ∧ ∀ (j : Nat) d, x[j]? = some d → ∃ e, y[j]? = some e ∧ CellV hp ks d e
  | [], [], _ => ⟨rfl, fun j d h => by simp at h⟩
  | d :: ds, e :: es, h => by
    obtain ⟨h1, h2⟩ := cellsV_get h.2
    refine ⟨by simp [h1], fun j d' hj => ?_⟩
    cases j with
    | zero => simp at hj; subst hj; exact ⟨e, rfl, h.1⟩
    | succ j => exact h2 j d' (by simpa using hj)
  | [], _ :: _, h => h.elim
  | _ :: _, [], h => h.elim
theorem rowsV_get {hp : HP} {ks : List Nat} : ∀ {xs ys : List (List D)}, RowsV hp ks xs ys → xs.length = ys.length ∧ ∀ (i : Nat) x, xs[i]? = some x → ∃ y, ys[i]? = some y ∧ CellsV hp ks x y
  | [], [], _ => ⟨rfl, fun j d h => by simp at h⟩
  | x :: xs, y :: ys, h => by
    obtain ⟨h1, h2⟩ := rowsV_get h.2
    refine ⟨by simp [h1], fun j d' hj => ?_⟩
    cases j with
    | zero => simp at hj; subst hj; exact ⟨y, rfl, h.1⟩
    | succ j => exact h2 j d' (by simpa using hj)
  | [], _ :: _, h => h.elim
  | _ :: _, [], h => h.elim
def ArgC (hp : HP) (ks : List Nat) : D → D → Prop
  | .any, _ => True
  | .own i, .own h => ks[i]? = some h
  | .ptr i a b, .ptr h a' b' => ks[i]? = some h ∧ a = a' ∧ b = b'
  | .vw i lo n, .vw h lo' n' => ks[i]? = some h ∧ lo' = lo ∧ n' = n
  | .sl sz xs, .own h => h ∉ ks ∧ ∃ ob, lk h hp = some ob ∧ ob.sz = sz ∧ ((ob.deep = false ∧ ob.xs = xs) ∨ RowsV hp ks xs ob.xs)
  | .sl sz xs, .vw h lo n => h ∉ ks ∧ ∃ ob, lk h hp = some ob ∧ ob.deep = false ∧ ob.sz = sz ∧ (ob.xs.drop lo).take n = xs
  | .sl sz xs, .cvw h i off es n => h ∉ ks ∧ sz = 1 ∧ es = 1 ∧ ∃ ob x, lk h hp = some ob ∧ ob.xs[i]? = some x ∧ x.all hf = true ∧ ((x.drop off).take n).map (fun d => [d]) = xs
  | .sl _ xs, .nil => xs = []
  | .sl sz xs, .sl sz' xs' => sz' = sz ∧ xs' = xs
  | .rptr sz xs i off, .ptr h i' off' => h ∉ ks ∧ i' = i ∧ off' = off ∧ ∃ ob, lk h hp = some ob ∧ ob.sz = sz ∧ ((ob.xs = xs ∧ (ob.deep = false ∨ ∀ x ∈ xs, x.all hf = true)) ∨ RowsV hp ks xs ob.xs)
  | .rptr sz xs i off, .rptr sz' xs' i' off' => sz' = sz ∧ xs' = xs ∧ i' = i ∧ off' = off
  | .val v, d => d = .val v
  | .nil, d => d = .nil
  | .clo f cs, .clo f' cs' => f' = f ∧ cs' = cs
  | _, _ => False
def ArgL (hp : HP) (ks : List Nat) : List D → List D → Prop
  | [], [] => True
  | d :: ds, e :: es => ArgC hp ks d e ∧ ArgL hp ks ds es
  | _, _ => False
def ArgA (hp : HP) (ks : List Nat) : D → D → Prop
  | .agg cs, .agg ds => ArgL hp ks cs ds
  | .fn f fs cs, .fn f' fs' cs' => f' = f ∧ ArgL hp ks fs fs' ∧ ArgL hp ks cs cs'
  | .val v, .fn f' fs' cs' => v = .func f' #[] #[] ∧ fs' = [] ∧ cs' = []
  | .clo f cs, .fn f' fs' cs' => f' = f ∧ fs' = [] ∧ cs.all rptrD = true ∧ ArgL hp ks cs cs'
  | d, e => ArgC hp ks d e
def Args (hp : HP) (ks : List Nat) : List D → List D → Prop
  | [], [] => True
  | d :: ds, e :: es => ArgA hp ks d e ∧ Args hp ks ds es
  | _, _ => False

section args
variable {w0 : World} {S : List Nat} {G : Nat → Prop} {hv : Nat → Value} {hp : HP} {w : World} {ks : List Nat} {L' : LF} {F' : Nat → Prop}

theorem row_toP {L : LF} {F : Nat → Prop} {es : Nat} {rows : List (List D)} {v : Value} {deep : Bool} (hR : Row L w F es rows deep v) (hpure : deep = true → ∀ x ∈ rows, x.all hf = true) (hF : ∀ b, F b → F' b) (hown : ∀ ad n c, v = .slice (some ad) n c → rows ≠ [] → F' ad.block ∧ ad.spot = none) (hcap : ∀ A n c, v = .slice A n c → c ≤ maxLen) : RepP w F' (.sl es rows) v := by
  rcases hR.2 with ⟨rfl, rfl⟩ | ⟨ad, c, rfl, hc, hcell⟩
  · exact .sl es [] none 0 (fun _ _ => undef) (fun x hx => by simp at hx) (fun _ => ⟨rfl, rfl⟩) ⟨by simp, by simp⟩ (fun ad h => by cases h) (fun ad i j x d h => by cases h) (fun i j x d hi => by simp at hi)
  · obtain ⟨b, o, sp⟩ := ad
    have hex : ∀ i j x d, rows[i]? = some x → x[j]? = some d → w.cell? ⟨b, o + (i * es + j), none⟩ = some ((w.cell? ⟨b, o + (i * es + j), none⟩).getD undef) ∧ ((w.cell? ⟨b, o + (i * es + j), none⟩).getD undef).oneCell' = true ∧ RepP w F' d ((w.cell? ⟨b, o + (i * es + j), none⟩).getD undef) := fun i j x d hi hj => by
      have hne : rows ≠ [] := by rintro rfl; simp at hi
      obtain rfl : sp = none := (hown _ _ _ rfl hne).2
      obtain ⟨u, hu, h1, hr⟩ := hcell i j x d hi hj
      rw [addr_add] at hu
      rw [hu]
      refine ⟨rfl, h1, ?_⟩
      have : RepP w F d u := by
        cases hdp : deep
        · simpa [RepO, hdp] using hr
        · exact repP_of_hf (List.all_eq_true.1 (hpure hdp x (List.mem_of_getElem? hi)) d (List.mem_of_getElem? hj)) hr.toC
      exact this.mono (fun b hb => ⟨hF b hb, rfl⟩)
    exact .sl es rows (some ⟨b, o, sp⟩) c (fun i j => (w.cell? ⟨b, o + (i * es + j), none⟩).getD undef) hR.1 (fun h => by cases h) ⟨hc, hcap _ _ _ rfl⟩ (fun ad had hne => by cases had; exact hown _ _ _ rfl hne)
      (fun ad i j x d had hi hj => by cases had; exact ⟨(hex i j x d hi hj).1, (hex i j x d hi hj).2.1⟩) (fun i j x d hi hj => (hex i j x d hi hj).2.2)

theorem row_toP2 {L : LF} {F : Nat → Prop} {es : Nat} {rows xs : List (List D)} {v : Value} {deep : Bool} (hR : Row L w F es rows deep v) (hlen : xs.length = rows.length) (hgrid : Grid es xs) (hconv : ∀ (i j : Nat) (x : List D) (d : D), xs[i]? = some x → x[j]? = some d → ∃ y e, rows[i]? = some y ∧ y[j]? = some e ∧ ∀ u, RepO deep L w F e u → RepP w F' d u) (hown : ∀ ad n c, v = .slice (some ad) n c → rows ≠ [] → F' ad.block ∧ ad.spot = none) (hcap : ∀ A n c, v = .slice A n c → c ≤ maxLen) : RepP w F' (.sl es xs) v := by
  rcases hR.2 with ⟨rfl, rfl⟩ | ⟨ad, c, rfl, hc, hcell⟩
  · obtain rfl : xs = [] := List.eq_nil_of_length_eq_zero hlen
    exact .sl es [] none 0 (fun _ _ => undef) (fun x hx => by simp at hx) (fun _ => ⟨rfl, rfl⟩) ⟨by simp, by simp⟩ (fun ad h => by cases h) (fun ad i j x d h => by cases h) (fun i j x d hi => by simp at hi)
  · obtain ⟨b, o, sp⟩ := ad
    have hex : ∀ (i j : Nat) (x : List D) (d : D), xs[i]? = some x → x[j]? = some d → w.cell? ⟨b, o + (i * es + j), none⟩ = some ((w.cell? ⟨b, o + (i * es + j), none⟩).getD undef) ∧ ((w.cell? ⟨b, o + (i * es + j), none⟩).getD undef).oneCell' = true ∧ RepP w F' d ((w.cell? ⟨b, o + (i * es + j), none⟩).getD undef) := fun i j x d hi hj => by
      obtain ⟨y, e, hy, he, hre⟩ := hconv i j x d hi hj
      have hne : rows ≠ [] := by rintro rfl; simp at hy
      obtain rfl : sp = none := (hown _ _ _ rfl hne).2
      obtain ⟨u, hu, h1, hr⟩ := hcell i j y e hy he
      rw [addr_add] at hu
      rw [hu]
      exact ⟨rfl, h1, hre u hr⟩
    rw [← hlen]
    rw [← hlen] at hc
    exact .sl es xs (some ⟨b, o, sp⟩) c (fun i j => (w.cell? ⟨b, o + (i * es + j), none⟩).getD undef) hgrid (fun h => by cases h) ⟨hc, hcap _ _ _ rfl⟩ (fun ad had hne => by cases had; exact hown _ _ _ rfl (fun e => by subst e; exact hne (List.eq_nil_of_length_eq_zero hlen)))
      (fun ad i j x d had hi hj => by cases had; exact ⟨(hex i j x d hi hj).1, (hex i j x d hi hj).2.1⟩) (fun i j x d hi hj => (hex i j x d hi hj).2.2)

variable (hI : HInv w0 S G hv hp w)
include hI

theorem own_cap {h : Nat} {ob : Ob} (hob : lk h hp = some ob) : ∀ A n c, hv h = .slice A n c → c ≤ maxLen := fun A n c e => by
  obtain ⟨vs, ho, _⟩ := hI.obs h ob hob
  rcases ho.2 with ⟨h1, _⟩ | ⟨g, cap, cur, h1, _, _, _, h2, _⟩
  · rw [h1] at e; cases e; simp
  · rw [h1] at e; cases e; exact h2

theorem argC_ok (hL : ∀ (i h : Nat) ob, ks[i]? = some h → lk h hp = some ob → L' i = some (hv h, ob.sz)) (hF : ∀ b, b < w.heap.size → (∀ h, h ∈ ks → (hv h).ownBlock ≠ some b) → F' b) (hks : ∀ h ∈ ks, ∃ ob, lk h hp = some ob)
    {d e : D} {v : Value} (ha : ArgC hp ks d e) (hr : RepC (LOf hv hp) w (FOf G hv hp w) e v) : RepC L' w F' d v := by
  have hFF : ∀ b, FOf G hv hp w b → F' b := fun b hb => hF b hb.1.1 (fun h hm => by obtain ⟨ob, hob⟩ := hks h hm; exact hb.2 h ob hob)
  have hFF' : ∀ b, FOf G hv hp w b → F' b ∧ w.heap[b]? = w.heap[b]? := fun b hb => ⟨hFF b hb, rfl⟩
  have ownF : ∀ h ob b, lk h hp = some ob → h ∉ ks → (hv h).ownBlock = some b → F' b := fun h ob b hob hnm hb => by
    obtain ⟨vs, ho, _⟩ := hI.obs h ob hob
    refine hF b (ho.lt b hb).2 (fun h' hm hb' => ?_)
    obtain ⟨ob', hob'⟩ := hks h' hm
    rcases hI.inj h h' ob ob' hob hob' (fun e => hnm (e ▸ hm)) with h1 | h1
    · rw [h1] at hb; cases hb
    · exact h1 (hb.trans hb'.symm)
  cases d
  case any => exact .any v
  case val u =>
    simp only [ArgC] at ha
    subst ha
    exact RepP.mono hFF' hr
  case nil =>
    simp only [ArgC] at ha
    subst ha
    exact RepP.mono hFF' hr
  case own i =>
    cases e <;> simp only [ArgC] at ha
    obtain ⟨s, hs⟩ := hr
    simp only [LOf, Option.map_eq_some_iff, Prod.mk.injEq] at hs
    obtain ⟨ob, hob, rfl, rfl⟩ := hs
    exact ⟨_, hL _ _ ob ha hob⟩
  case ptr i a b =>
    cases e <;> simp only [ArgC] at ha
    obtain ⟨ha, rfl, rfl⟩ := ha
    obtain ⟨g, m, cap, s, hs, rfl⟩ := hr
    simp only [LOf, Option.map_eq_some_iff, Prod.mk.injEq] at hs
    obtain ⟨ob, hob, h1, rfl⟩ := hs
    exact ⟨g, m, cap, _, by rw [hL _ _ ob ha hob, h1], rfl⟩
  case sl sz xs =>
    cases e <;> simp only [ArgC] at ha
    case nil =>
      subst ha
      have hr : RepP w (FOf G hv hp w) .nil v := hr
      cases hr
      exact RepP.sl sz [] none 0 (fun _ _ => undef) (fun x hx => by simp at hx) (fun _ => ⟨rfl, rfl⟩) ⟨by simp, by simp⟩ (fun ad h => by cases h) (fun ad i j x d h => by cases h) (fun i j x d hi => by simp at hi)
    case sl sz' xs' =>
      obtain ⟨rfl, rfl⟩ := ha
      exact RepP.mono hFF' hr
    case own h =>
      obtain ⟨hnm, ob, hob, rfl, hV⟩ := ha
      have hrow := rowOf_ok hI (x := .own h) (es := ob.sz) (pre := True) (rows := ob.xs) (deep := ob.deep) hr (by simp [rowOf, hob]) trivial
      rcases hV with ⟨hdp, rfl⟩ | hV
      case inr =>
        obtain ⟨s, hs⟩ := hr
        rw [LOf_eq hob] at hs
        simp only [Option.some.injEq, Prod.mk.injEq] at hs
        obtain ⟨rfl, _⟩ := hs
        obtain ⟨hVl, hVg⟩ := rowsV_get hV
        have hgr : Grid ob.sz ob.xs := hrow.1
        refine row_toP2 hrow hVl (fun x hx => ?_) (fun i j x d hi hj => ?_) (fun ad n c he hne => ?_) (own_cap hI hob)
        · obtain ⟨i, hi, rfl⟩ := List.getElem_of_mem hx
          obtain ⟨y, hy, hxy⟩ := hVg i _ (List.getElem?_eq_getElem hi)
          rw [(cellsV_get hxy).1]
          exact hgr y (List.mem_of_getElem? hy)
        · obtain ⟨y, hy, hxy⟩ := hVg i x hi
          obtain ⟨e, he, hc⟩ := (cellsV_get hxy).2 j d hj
          refine ⟨y, e, hy, he, fun u hr => ?_⟩
          have hr := hr.toC
          rcases hc with ⟨rfl, hff⟩ | ⟨k, ob2, rfl, hk, hob2, hdp, rfl⟩
          · exact (repP_of_hf hff hr).mono hFF'
          · have hrow := rowOf_ok hI (x := .own k) (es := ob2.sz) (pre := True) (rows := ob2.xs) (deep := ob2.deep) hr (by simp [rowOf, hob2]) trivial
            obtain ⟨s, hs⟩ := hr
            rw [LOf_eq hob2] at hs
            simp only [Option.some.injEq, Prod.mk.injEq] at hs
            obtain ⟨rfl, _⟩ := hs
            refine row_toP hrow (fun h => by rw [hdp] at h; cases h) hFF (fun ad n c he hne => ?_) (own_cap hI hob2)
            refine ⟨ownF k ob2 ad.block hob2 hk (by rw [he]; rfl), ?_⟩
            obtain ⟨g, cap, hg⟩ := own_form (hI.obs k ob2 hob2) hne
            rw [hg] at he
            cases he
            rfl
        · refine ⟨ownF h ob ad.block hob hnm (by rw [he]; rfl), ?_⟩
          obtain ⟨g, cap, hg⟩ := own_form (hI.obs h ob hob) hne
          rw [hg] at he
          cases he
          rfl
      obtain ⟨s, hs⟩ := hr
      rw [LOf_eq hob] at hs
      simp only [Option.some.injEq, Prod.mk.injEq] at hs
      obtain ⟨rfl, _⟩ := hs
      refine row_toP hrow (fun h => by rw [hdp] at h; cases h) hFF (fun ad n c he hne => ?_) (own_cap hI hob)
      refine ⟨ownF h ob ad.block hob hnm (by rw [he]; rfl), ?_⟩
      obtain ⟨g, cap, hg⟩ := own_form (hI.obs h ob hob) hne
      rw [hg] at he
      cases he
      rfl
    case vw h lo n =>
      obtain ⟨hnm, ob, hob, hdp, rfl, rfl⟩ := ha
      have hrow := rowOf_ok hI (x := .vw h lo n) (es := ob.sz) (pre := True) (rows := (ob.xs.drop lo).take n) (deep := ob.deep) hr (by simp [rowOf, hob]) trivial
      obtain ⟨A, c, m, cap, s, a, rfl, hs, hlo, hnc, hAc, hA⟩ := hr
      rw [LOf_eq hob] at hs
      simp only [Option.some.injEq, Prod.mk.injEq] at hs
      obtain ⟨hvh, rfl⟩ := hs
      refine row_toP hrow (fun h => by rw [hdp] at h; cases h) hFF (fun ad n' c' he hne => ?_) (fun A' n' c' he => by cases he; exact hnc.2.1)
      cases he
      have hpos : 0 < n := by
        rcases Nat.eq_zero_or_pos n with h0 | h0
        · subst h0; simp at hne
        · exact h0
      obtain ⟨g, rfl, h2⟩ := hA (by omega)
      cases h2
      exact ⟨ownF h ob g hob hnm (by rw [hvh]; rfl), rfl⟩
    case cvw h i off es n =>
      obtain ⟨hnm, rfl, rfl, ob, x, hob, hx, hall, rfl⟩ := ha
      have hrow := rowOf_ok hI (x := .cvw h i off 1 n) (es := 1) (pre := (1 = 1 ∧ 1 = 1)) (rows := ((x.drop off).take n).map fun d => [d]) (deep := ob.deep) hr (by simp [rowOf, hob, hx]) ⟨rfl, rfl⟩
      obtain ⟨g, m, cap, s, c, hs, hi, hoff, hnc, rfl⟩ := hr
      rw [LOf_eq hob] at hs
      simp only [Option.some.injEq, Prod.mk.injEq] at hs
      obtain ⟨hvh, rfl⟩ := hs
      refine row_toP hrow (fun _ y hy => ?_) hFF (fun ad n' c' he hne => ?_) (fun A' n' c' he => by cases he; exact hnc.2)
      · simp only [List.mem_map] at hy
        obtain ⟨d, hd, rfl⟩ := hy
        simp only [List.all_cons, List.all_nil, Bool.and_true]
        exact List.all_eq_true.1 hall d (List.mem_of_mem_drop (List.mem_of_mem_take hd))
      · cases he
        exact ⟨ownF h ob g hob hnm (by rw [hvh]; rfl), rfl⟩
  case rptr sz xs i off =>
    cases e <;> simp only [ArgC] at ha
    case rptr sz' xs' i' off' =>
      obtain ⟨rfl, rfl, rfl, rfl⟩ := ha
      obtain ⟨ad, e, hrow⟩ := hr
      exact ⟨ad, e, hrow.mono hFF'⟩
    case ptr h i' off' =>
      obtain ⟨hnm, rfl, rfl, ob, hob, rfl, hV⟩ := ha
      rcases hV with ⟨rfl, hdp⟩ | hV
      case inr =>
        obtain ⟨g, m, cap, s, hs, rfl⟩ := hr
        rw [LOf_eq hob] at hs
        simp only [Option.some.injEq, Prod.mk.injEq] at hs
        obtain ⟨hvh, rfl⟩ := hs
        obtain ⟨hVl, hVg⟩ := rowsV_get hV
        have hobr := hI.obs h ob hob
        have hgr : Grid ob.sz ob.xs := by obtain ⟨vs, _, hg, _⟩ := hobr; exact hg
        rw [hvh] at hobr
        refine ⟨⟨g, 0, none⟩, by simp, fun x hx => ?_, rfl, fun _ => ownF h ob g hob hnm (by rw [hvh]; rfl), fun i j x d hi hj => ?_⟩
        · obtain ⟨i, hi, rfl⟩ := List.getElem_of_mem hx
          obtain ⟨y, hy, hxy⟩ := hVg i _ (List.getElem?_eq_getElem hi)
          rw [(cellsV_get hxy).1]
          exact hgr y (List.mem_of_getElem? hy)
        · obtain ⟨y, hy, hxy⟩ := hVg i x hi
          obtain ⟨e, he, hc⟩ := (cellsV_get hxy).2 j d hj
          obtain ⟨u, hu, h1, hr⟩ := hobr.cells hy j e he
          refine ⟨u, by simpa using hu, h1, ?_⟩
          rcases hc with ⟨rfl, hff⟩ | ⟨k, ob2, rfl, hk, hob2, hdp, rfl⟩
          · exact (repP_of_hf hff hr).mono hFF'
          · have hrow := rowOf_ok hI (x := .own k) (es := ob2.sz) (pre := True) (rows := ob2.xs) (deep := ob2.deep) hr (by simp [rowOf, hob2]) trivial
            obtain ⟨s, hs⟩ := hr
            rw [LOf_eq hob2] at hs
            simp only [Option.some.injEq, Prod.mk.injEq] at hs
            obtain ⟨rfl, _⟩ := hs
            refine row_toP hrow (fun h => by rw [hdp] at h; cases h) hFF (fun ad n c he hne => ?_) (own_cap hI hob2)
            refine ⟨ownF k ob2 ad.block hob2 hk (by rw [he]; rfl), ?_⟩
            obtain ⟨g, cap, hg⟩ := own_form (hI.obs k ob2 hob2) hne
            rw [hg] at he
            cases he
            rfl
      obtain ⟨g, m, cap, s, hs, rfl⟩ := hr
      rw [LOf_eq hob] at hs
      simp only [Option.some.injEq, Prod.mk.injEq] at hs
      obtain ⟨hvh, rfl⟩ := hs
      have hrow := rowOf_ok hI (x := .own h) (es := ob.sz) (pre := True) (rows := ob.xs) (deep := ob.deep) (v := hv h) (show RepC (LOf hv hp) w (FOf G hv hp w) (.own h) (hv h) from ⟨_, LOf_eq hob⟩) (by simp [rowOf, hob]) trivial
      have hsl : RepP w F' (.sl ob.sz ob.xs) (hv h) := row_toP hrow (fun h x hx => by
          rcases hdp with h1 | h1
          · rw [h] at h1; cases h1
          · exact h1 x hx) hFF (fun ad n c he hne => by
          refine ⟨ownF h ob ad.block hob hnm (by rw [he]; rfl), ?_⟩
          rw [hvh] at he; cases he; rfl) (own_cap hI hob)
      rw [hvh] at hsl
      refine ⟨⟨g, 0, none⟩, by simp, ?_⟩
      generalize hz : ob.sz = z at hsl
      generalize hxs : ob.xs = l at hsl
      generalize hvv : Value.slice (some ⟨g, 0, none⟩) m cap = vv at hsl
      cases hsl with
      | sl _ _ A c V hg h0 hm hF0 hc hr0 =>
        cases hvv
        exact ⟨hg, rfl, fun hne => (hF0 _ rfl hne).1, fun i j x d hi hj => ⟨V i j, (hc _ i j x d rfl hi hj).1, (hc _ i j x d rfl hi hj).2, hr0 i j x d hi hj⟩⟩
  case clo f cs =>
    cases e <;> simp only [ArgC] at ha
    obtain ⟨rfl, rfl⟩ := ha
    exact RepP.mono hFF' (show RepP w _ _ v from hr)
  case vw i lo n =>
    cases e <;> simp only [ArgC] at ha
    obtain ⟨ha, rfl, rfl⟩ := ha
    obtain ⟨A, c, m, cap, s, a, he, hs, r⟩ := hr
    simp only [LOf, Option.map_eq_some_iff, Prod.mk.injEq] at hs
    obtain ⟨ob, hob, h1, rfl⟩ := hs
    exact ⟨A, c, m, cap, _, a, he, by rw [hL _ _ ob ha hob, h1], r⟩
  all_goals (cases e <;> simp only [ArgC] at ha)
end args

section args2
variable {w0 : World} {S : List Nat} {G : Nat → Prop} {hv : Nat → Value} {hp : HP} {w : World} {ks : List Nat} {L' : LF} {F' : Nat → Prop}
theorem argL_ok (hI : HInv w0 S G hv hp w) (hL : ∀ (i h : Nat) ob, ks[i]? = some h → lk h hp = some ob → L' i = some (hv h, ob.sz)) (hF : ∀ b, b < w.heap.size → (∀ h, h ∈ ks → (hv h).ownBlock ≠ some b) → F' b) (hks : ∀ h ∈ ks, ∃ ob, lk h hp = some ob) :
    ∀ {ds es : List D} {vs : List Value}, ArgL hp ks ds es → RepL (LOf hv hp) w (FOf G hv hp w) es vs → RepL L' w F' ds vs
  | [], [], vs, _, hr => by cases vs with | nil => trivial | cons => exact hr.elim
  | d :: ds, e :: es, vs, ha, hr => by
    cases vs with
    | nil => exact hr.elim
    | cons v vs => exact ⟨argC_ok hI hL hF hks ha.1 hr.1, argL_ok hI hL hF hks ha.2 hr.2⟩
  | [], _ :: _, _, ha, _ => ha.elim
  | _ :: _, [], _, ha, _ => ha.elim
theorem argA_ok (hI : HInv w0 S G hv hp w) (hL : ∀ (i h : Nat) ob, ks[i]? = some h → lk h hp = some ob → L' i = some (hv h, ob.sz)) (hF : ∀ b, b < w.heap.size → (∀ h, h ∈ ks → (hv h).ownBlock ≠ some b) → F' b) (hks : ∀ h ∈ ks, ∃ ob, lk h hp = some ob)
    {d e : D} {v : Value} (ha : ArgA hp ks d e) (hr : Rep (LOf hv hp) w (FOf G hv hp w) e v) : RepA L' w F' d v := by
  have one : ArgC hp ks d e → RepA L' w F' d v := fun ha => by
    have hr' : RepC (LOf hv hp) w (FOf G hv hp w) e v ∨ d = .any := by
      cases d <;> cases e <;> first | exact .inr rfl | exact .inl hr | exact ha.elim | (simp [ArgC] at ha)
    rcases hr' with hr' | rfl
    · have := argC_ok hI hL hF hks ha hr'
      cases d <;> first | exact this | exact this.elim
    · exact (RepP.any v : RepP w F' .any v)
  cases d
  case agg cs =>
    cases e <;> first | (exact ha.elim; done) | skip
    case agg ds =>
      obtain ⟨vs, e, hr, ho⟩ := hr
      exact ⟨vs, e, argL_ok hI hL hF hks ha hr, ho⟩
  case fn f fs cs =>
    cases e <;> first | (exact ha.elim; done) | skip
    case fn f' fs' cs' =>
      obtain ⟨rfl, h1, h2⟩ := ha
      obtain ⟨us, vs, e, hr1, hr2⟩ := hr
      exact ⟨us, vs, e, argL_ok hI hL hF hks h1 hr1, argL_ok hI hL hF hks h2 hr2⟩
  case clo f cs =>
    cases e <;> first | exact one ha | skip
    case fn f' fs' cs' =>
      obtain ⟨rfl, rfl, h1, h2⟩ := ha
      obtain ⟨us, vs, rfl, hr1, hr2⟩ := hr
      cases us with
      | nil => exact clo_mk h1 (argL_ok hI hL hF hks h2 hr2)
      | cons u us => exact hr1.elim
  case val u =>
    cases e <;> first | exact one ha | skip
    case fn f' fs' cs' =>
      obtain ⟨rfl, rfl, rfl⟩ := ha
      obtain ⟨us, vs, rfl, hr1, hr2⟩ := hr
      cases us with
      | nil =>
        cases vs with
        | nil => exact (RepP.val _ : RepP w F' _ _)
        | cons => exact hr2.elim
      | cons => exact hr1.elim
  all_goals exact one ha
theorem args_ok (hI : HInv w0 S G hv hp w) (hL : ∀ (i h : Nat) ob, ks[i]? = some h → lk h hp = some ob → L' i = some (hv h, ob.sz)) (hF : ∀ b, b < w.heap.size → (∀ h, h ∈ ks → (hv h).ownBlock ≠ some b) → F' b) (hks : ∀ h ∈ ks, ∃ ob, lk h hp = some ob) :
    ∀ {ds es : List D} {vs : List Value}, Args hp ks ds es → es.length = vs.length → (∀ (j : Nat) e v, es[j]? = some e → vs[j]? = some v → Rep (LOf hv hp) w (FOf G hv hp w) e v) → RepAL L' w F' ds vs
  | [], [], vs, _, hl, _ => by cases vs with | nil => trivial | cons => simp at hl
  | d :: ds, e :: es, vs, ha, hl, hr => by
    cases vs with
    | nil => simp at hl
    | cons v vs => exact ⟨argA_ok hI hL hF hks ha.1 (hr 0 e v rfl rfl), args_ok hI hL hF hks ha.2 (by simpa using hl) (fun j e v he hv => hr (j + 1) e v (by simpa using he) (by simpa using hv))⟩
  | [], _ :: _, _, ha, _, _ => ha.elim
  | _ :: _, [], _, ha, _, _ => ha.elim
end args2

/-! ### Results that lead to no memory but their own objects -/
def flatC : D → Bool
  | .any | .val _ | .nil | .own _ | .vw _ _ _ | .cvw _ _ _ _ _ | .ptr _ _ _ => true
  | _ => false
def flatA : D → Bool
  | .agg cs => cs.all flatC
  | .fn _ fs cs => fs.all flatC && cs.all flatC
  | d => flatC d
def flatD : D → Bool
  | .tup ds => ds.all flatA
  | d => flatA d
def flatO (o : Ob) : Prop := ∀ x ∈ o.xs, ∀ d ∈ x, (match d with | .any | .val _ | .nil => true | _ => false) = true

section flat
variable {L : LF} {w w' : World} {F F' : Nat → Prop}
theorem flatC_rep {d : D} {v : Value} (h : flatC d = true) (hr : RepC L w F d v) : RepC L w F' d v := by
  cases d <;> simp only [flatC, Bool.false_eq_true] at h <;> first | exact hr | skip
  case any => exact .any v
  case val u => have hr : RepP w F (.val u) v := hr; cases hr; exact .val _
  case nil => have hr : RepP w F .nil v := hr; cases hr; exact .nil
theorem flatL_rep : ∀ {ds : List D} {vs : List Value}, ds.all flatC = true → RepL L w F ds vs → RepL L w F' ds vs
  | [], [], _, _ => trivial
  | d :: ds, v :: vs, h, hr => by
    simp only [List.all_cons, Bool.and_eq_true] at h
    exact ⟨flatC_rep h.1 hr.1, flatL_rep h.2 hr.2⟩
  | [], _ :: _, _, h => h.elim
  | _ :: _, [], _, h => h.elim
theorem flatA_rep {d : D} {v : Value} (h : flatA d = true) (hr : RepA L w F d v) : RepA L w F' d v := by
  cases d
  case agg cs => obtain ⟨vs, e, hr, ho⟩ := hr; exact ⟨vs, e, flatL_rep h hr, ho⟩
  case fn f fs cs =>
    simp only [flatA, Bool.and_eq_true] at h
    obtain ⟨us, vs, e, h1, h2⟩ := hr
    exact ⟨us, vs, e, flatL_rep h.1 h1, flatL_rep h.2 h2⟩
  case any => exact (RepP.any v : RepP w F' .any v)
  case tup cs => simp [flatA, flatC] at h
  all_goals (simp only [flatA] at h; exact flatC_rep (L := L) (w := w) (F := F) (F' := F') h hr)
theorem flatAL_rep : ∀ {ds : List D} {vs : List Value}, ds.all flatA = true → RepAL L w F ds vs → RepAL L w F' ds vs
  | [], [], _, _ => trivial
  | d :: ds, v :: vs, h, hr => by
    simp only [List.all_cons, Bool.and_eq_true] at h
    exact ⟨flatA_rep h.1 hr.1, flatAL_rep h.2 hr.2⟩
  | [], _ :: _, _, h => h.elim
  | _ :: _, [], _, h => h.elim
theorem flatD_rep {d : D} {v : Value} (h : flatD d = true) (hr : Rep L w F d v) : Rep L w F' d v := by
  cases d
  case tup ds => obtain ⟨vs, e, hr⟩ := hr; exact ⟨vs, e, flatAL_rep h hr⟩
  case any => exact (RepP.any v : RepP w F' .any v)
  all_goals (simp only [flatD] at h; exact flatA_rep (L := L) (w := w) (F := F) (F' := F') h hr)
theorem flat_cell {d : D} {v : Value} (h : (match d with | .any | .val _ | .nil => true | _ => false) = true) (hr : RepP w F d v) : RepP w' F' d v := by
  cases hr with
  | any v => exact .any v
  | val v => exact .val v
  | nil => exact .nil
  | sl => simp at h
  | clo => simp at h
  | mp => simp at h
end flat

def deepOf (hp : HP) (k : Nat) : Bool := match lk k hp with | some o => o.deep | none => false
def updOf (hp : HP) : List Nat → List Ob → List (Nat × Ob)
  | k :: ks, o :: os => (k, ⟨o.ty, o.sz, deepOf hp k, o.xs⟩) :: updOf hp ks os
  | _, _ => []

theorem lk_upd_out {hp0 : HP} : ∀ (ks : List Nat) (os : List Ob) (hp : HP) (h : Nat), h ∉ ks → lk h (updHP (updOf hp0 ks os) hp) = lk h hp
  | [], os, hp, h, _ => by simp [updOf, updHP]
  | k :: ks, [], hp, h, _ => by simp [updOf, updHP]
  | k :: ks, o :: os, hp, h, hn => by
    simp only [List.mem_cons, not_or] at hn
    simp only [updOf, updHP]
    rw [lk_upd_out ks os _ h hn.2, lk_hset, if_neg hn.1]

theorem lk_upd_in {hp0 : HP} : ∀ (ks : List Nat) (os : List Ob) (hp : HP) (i k : Nat) (o : Ob), ks.Nodup → ks[i]? = some k → os[i]? = some o → (∃ ob, lk k hp = some ob) → lk k (updHP (updOf hp0 ks os) hp) = some ⟨o.ty, o.sz, deepOf hp0 k, o.xs⟩
  | [], _, _, i, _, _, _, h, _, _ => by simp at h
  | k0 :: ks, [], _, i, _, _, _, _, h, _ => by simp at h
  | k0 :: ks, o0 :: os, hp, i, k, o, hnd, hk, ho, hex => by
    simp only [updOf, updHP]
    rw [List.nodup_cons] at hnd
    cases i with
    | zero =>
      simp at hk ho
      subst hk; subst ho
      obtain ⟨ob, hob⟩ := hex
      rw [lk_upd_out ks os _ _ hnd.1, lk_hset, if_pos rfl, hob]
      rfl
    | succ i =>
      have hk' : ks[i]? = some k := by simpa using hk
      refine lk_upd_in ks os _ i k o hnd.2 hk' (by simpa using ho) ?_
      obtain ⟨ob, hob⟩ := hex
      rw [lk_hset]
      by_cases e : k = k0
      · subst e; exact absurd (List.mem_of_getElem? hk') hnd.1
      · exact ⟨ob, by rw [if_neg e]; exact hob⟩

theorem callOp_wp {o : Oper} {cf : Operand} {args : Array Operand} {tys : Array TypeId} (ho : o.op = .call ⟨.value cf, args, tys⟩) {a : Act} {w : World} {f : FuncId} {us cs : Array Value} (hc : a.eval cf = .func (.func f) us cs) (hent : ∀ args w, (callFunc f args).run P w = .ok (.enter f args) w)
    {K : Act → World → Prop} {Q : Exit → Act → World → Prop} {R : Value → World → Prop} (hcall : Calls P f (us ++ args.map a.eval ++ cs) w (fun e w' => ∃ v, e = .returned v ∧ R v w')) (hK : ∀ v w', R v w' → K (a.put o.dst v) w') : o.wp P a w K Q := by
  unfold Oper.wp
  have : (execOp a.eval o).run P w = .ok (.enter f (us ++ args.map a.eval ++ cs)) w := by
    simp only [execOp, ho, resolve, hc, Deferred.ofValue, Sem.run_bind, Sem.run_pure, Result.andThen_ok, invoke]
    rw [hent]
  rw [this]
  exact hcall.mono (fun e w' ⟨v, he, hR⟩ => by subst he; exact hK v w' hR)
end Go.Proofs.YtpdkhlpmiblflaaGreat.Abs

/- Abs, part 15: the call rule. -/
set_option linter.unusedVariables false
set_option linter.unusedSimpArgs false
namespace Go.Proofs.YtpdkhlpmiblflaaGreat.Abs
open Go Go.RowKit
variable {P : Program} {T : TT}

theorem rep_list {L : LF} {w : World} {F : Nat → Prop} {ev : Operand → D} {a : Act} (h : ∀ x, Rep L w F (ev x) (a.eval x)) (xs : List Operand) : ∀ (j : Nat) e v, (xs.map ev)[j]? = some e → (xs.map a.eval)[j]? = some v → Rep L w F e v := fun j e v he hv => by
  rw [List.getElem?_map, Option.map_eq_some_iff] at he hv
  obtain ⟨x, hx, rfl⟩ := he
  obtain ⟨y, hy, rfl⟩ := hv
  rw [hx] at hy
  cases hy
  exact h x

theorem numbered_mem {k : Nat} {l : List Ob} {p : Nat × Ob} (h : p ∈ numbered k l) : k ≤ p.1 ∧ p.1 < k + l.length := by
  induction l generalizing k with
  | nil => simp [numbered] at h
  | cons o l ih =>
    simp only [numbered, List.mem_cons] at h
    rcases h with rfl | h
    · simp
    · have := ih h
      simp only [List.length_cons]
      omega
theorem numbered_length (k : Nat) (l : List Ob) : (numbered k l).length = l.length := by
  induction l generalizing k with
  | nil => rfl
  | cons o l ih => simp [numbered, ih]

def fnParts : D → Option (Fn × List D × List D)
  | .fn f fs cs => some (f, fs, cs)
  | .clo f cs => some (f, [], cs)
  | .val (.func f us vs) => some (f, us.toList.map .val, vs.toList.map .val)
  | _ => none
theorem repL_vals {L : LF} {w : World} {F : Nat → Prop} : ∀ us : List Value, RepL L w F (us.map .val) us
  | [] => trivial
  | u :: us => ⟨(RepP.val u : RepP w F (.val u) u), repL_vals us⟩
theorem fnParts_rep {L : LF} {w : World} {F : Nat → Prop} {d : D} {v : Value} {f : Fn} {fs cs : List D} (h : fnParts d = some (f, fs, cs)) (hr : Rep L w F d v) : ∃ us vs : List Value, v = .func f us.toArray vs.toArray ∧ RepL L w F fs us ∧ RepL L w F cs vs := by
  unfold fnParts at h
  split at h
  · cases h; exact hr
  · cases h
    obtain ⟨vs, rfl, hv⟩ := clo_caps (L := L) (show RepP w F _ v from hr)
    exact ⟨[], vs, rfl, trivial, hv⟩
  · cases h
    exact ⟨_, _, by rw [rep_val hr], repL_vals _, repL_vals _⟩
  · cases h

theorem OpRel.call {X : Type} {s : Spec X} {f : FuncId} (hF : FnOk P f s) (x : X) (ks : List Nat) (hkn : ks.Nodup) {o : Oper} {cf : Operand} {args : Array Operand} {tys : Array TypeId} (ho : o.op = .call ⟨.value cf, args, tys⟩) {ev : Operand → D} {hp : HP} {nx : Nat}
    {first caps : List D} (hcf : fnParts (ev cf) = some (.func f, first, caps)) (hpre : s.pre x) (hargs : Args hp ks (s.args x) (first ++ args.toList.map ev ++ caps)) (hobs : Objs hp ks (s.obs x))
    {d : D} (hren : ren (ks ++ List.range' nx (s.new x).length) (s.res x) = some d) (hflat : flatD (s.res x) = true ∧ ∀ o ∈ s.out x ++ s.new x, flatO o) :
    OpRel P o ev hp nx { d, new := numbered nx (s.new x), upd := updOf hp ks (s.out x) } := by
  refine ⟨⟨fun p hp => by rw [numbered_length]; exact numbered_mem hp, rfl⟩, fun w0 S G hv a w hI hk hev K Q hK => ?_⟩
  obtain ⟨hent, hcon⟩ := hF
  obtain ⟨hos, hcall⟩ := hcon x hpre
  have hol : (s.out x).length = (s.obs x).length := by have := congrArg List.length hos; simpa using this
  obtain ⟨hkl, hget⟩ := objs_get hobs
  have hgd : ∀ i k, ks[i]? = some k → ks.getD i 0 = k := fun i k h => by simp [List.getD, h]
  have hkin : ∀ h ∈ ks, ∃ ob, lk h hp = some ob := fun h hm => by
    obtain ⟨i, hi⟩ := List.getElem?_of_mem hm
    have hil := (List.getElem?_eq_some_iff.1 hi).1
    obtain ⟨k, ob, h1, h2, _⟩ := hget i _ (List.getElem?_eq_getElem (by omega))
    rw [hi] at h1; cases h1; exact ⟨ob, h2⟩
  have hlk : ∀ i ob, lk i (numbered 0 (s.obs x)) = some ob → ∃ k ob', ks[i]? = some k ∧ lk k hp = some ob' ∧ Fits ob' ob := fun i ob hi => by
    rw [lk_numbered] at hi
    exact hget i ob (by simpa using hi)
  -- the callee's side
  have hFc : ∀ b, FOf G hv hp w b → FOf (fun _ => True) (fun i => hv (ks.getD i 0)) (numbered 0 (s.obs x)) w b := fun b hb => ⟨⟨hb.1.1, trivial⟩, fun i ob hi => by
    obtain ⟨k, ob', h1, h2, _⟩ := hlk i ob hi
    simp only [hgd i k h1]
    exact hb.2 k ob' h2⟩
  have hIc : HInv w (ks.filterMap fun k => (hv k).ownBlock) (fun _ => True) (fun i => hv (ks.getD i 0)) (numbered 0 (s.obs x)) w := by
    refine ⟨fun i ob hi => ?_, fun i j ob ob' hi hj hne => ?_, fun i ob b hi hb => ?_, Keeps.refl _ _ (hI.keeps.later (fun b hb => by
      obtain ⟨k, hkm, hkb⟩ := List.mem_filterMap.1 hb
      obtain ⟨ob, hob⟩ := hkin k hkm
      exact hI.base k ob b hob hkb)), fun _ _ => trivial⟩
    · obtain ⟨k, ob', h1, h2, h4, h5, h6, h7, h8⟩ := hlk i ob hi
      obtain ⟨us, ho, hg, hc⟩ := hI.obs k ob' h2
      refine ⟨us, by rw [← h4, ← h5, ← h6, hgd i k h1]; exact ho, by rw [← h5, ← h6]; exact hg, fun a b y e ha hb => ?_⟩
      rw [← h6] at ha
      obtain ⟨u, hu, hone, hr⟩ := hc a b y e ha hb
      refine ⟨u, by rw [← h5]; exact hu, hone, ?_⟩
      have hp' : RepP w (FOf G hv hp w) e u := by
        rcases h8 with h8 | h8
        · simpa [RepO, h8] using hr
        · exact repP_of_hf (List.all_eq_true.1 (h8 y (by rw [← h6]; exact List.mem_of_getElem? ha)) e (List.mem_of_getElem? hb)) hr.toC
      rw [h7]
      simp only [RepO, Bool.false_eq_true, if_false]
      exact hp'.mono (fun b hb => ⟨hFc b hb, rfl⟩)
    · obtain ⟨k, o1, h1, h2, _⟩ := hlk i ob hi
      obtain ⟨k', o2, h1', h2', _⟩ := hlk j ob' hj
      simp only [hgd i k h1, hgd j k' h1']
      refine hI.inj k k' o1 o2 h2 h2' (fun e => hne ?_)
      subst e
      exact (List.getElem?_inj (List.getElem?_eq_some_iff.1 h1).1 hkn).1 (h1.trans h1'.symm)
    · obtain ⟨k, o1, h1, h2, _⟩ := hlk i ob hi
      simp only [hgd i k h1] at hb
      exact .inr (List.mem_filterMap.2 ⟨k, List.mem_of_getElem? h1, hb⟩)
  have hev' := hev cf
  obtain ⟨us, cs, hfv, hus, hcs⟩ := fnParts_rep hcf hev'
  have hLc : ∀ (i h : Nat) ob, ks[i]? = some h → lk h hp = some ob → LOf (fun i => hv (ks.getD i 0)) (numbered 0 (s.obs x)) i = some (hv h, ob.sz) := fun i h ob hi hob => by
    have hil := (List.getElem?_eq_some_iff.1 hi).1
    have h3 : ∃ o, (s.obs x)[i]? = some o := ⟨_, List.getElem?_eq_getElem (by omega)⟩
    obtain ⟨o', h3⟩ := h3
    obtain ⟨k, ob', h1, h2, hfit⟩ := hget i o' h3
    rw [hi] at h1; cases h1
    rw [hob] at h2; cases h2
    rw [LOf_eq (show lk i (numbered 0 (s.obs x)) = some o' by rw [lk_numbered]; simpa using h3), hgd i h hi, hfit.2.1]
  have hvs : us.toArray ++ args.map a.eval ++ cs.toArray = (us ++ args.toList.map a.eval ++ cs).toArray := by
    apply Array.ext'
    simp
  have hA : RepAL (LOf (fun i => hv (ks.getD i 0)) (numbered 0 (s.obs x))) w (FOf (fun _ => True) (fun i => hv (ks.getD i 0)) (numbered 0 (s.obs x)) w) (s.args x) (us ++ args.toList.map a.eval ++ cs) := by
    have hFa : ∀ b, b < w.heap.size → (∀ k ∈ ks, (hv k).ownBlock ≠ some b) → FOf (fun _ => True) (fun i => hv (ks.getD i 0)) (numbered 0 (s.obs x)) w b := fun b hb hn => ⟨⟨hb, trivial⟩, fun i ob hi => by
      obtain ⟨k, o1, h1, h2, _⟩ := hlk i ob hi
      simp only [hgd i k h1]
      exact hn k (List.mem_of_getElem? h1)⟩
    refine args_ok hI hLc hFa hkin hargs ?_ (fun j e v he hv' => ?_)
    · simp [repL_length hus, repL_length hcs]
    · have hl1 := repL_length hus
      have hl2 := repL_length hcs
      rw [List.append_assoc] at he hv'
      by_cases hj : j < us.length
      · rw [List.getElem?_append_left (by omega)] at he
        rw [List.getElem?_append_left hj] at hv'
        obtain ⟨u, hu, hr⟩ := repL_get hus j e he
        rw [hu] at hv'; cases hv'; exact repC_oneD hr
      · rw [List.getElem?_append_right (by omega)] at he hv'
        rw [hl1] at hv'
        by_cases hj2 : j - first.length < args.toList.length
        · rw [List.getElem?_append_left (by simpa using hj2)] at he hv'
          exact rep_list hev _ _ e v he hv'
        · rw [List.getElem?_append_right (by simpa using hj2)] at he hv'
          simp only [List.length_map] at he hv'
          obtain ⟨u, hu, hr⟩ := repL_get hcs _ e he
          rw [hu] at hv'; cases hv'; exact repC_oneD hr
  have hmain := hcall w _ (fun _ => True) _ _ (fun _ _ => trivial) hIc hA
  refine callOp_wp (R := fun v w' => ∃ hv1, HInv w (ks.filterMap fun k => (hv k).ownBlock) (fun _ => True) hv1 (numbered 0 (s.out x ++ s.new x)) w' ∧ (∀ i, i < (s.obs x).length → hv1 i = hv (ks.getD i 0)) ∧ Rep (LOf hv1 (numbered 0 (s.out x ++ s.new x))) w' (FOf (fun _ => True) hv1 (numbered 0 (s.out x ++ s.new x)) w') (s.res x) v) ho hfv hent (by rw [hvs]; exact hmain.mono (fun e w' ⟨v, hv1, he, h1, h2, h3⟩ => ⟨v, he, hv1, h1, h2, h3⟩)) (fun v w' ⟨hv1, hI1, hsame, hrep⟩ => ?_)
  clear hmain hcall
  -- back in the caller
  have hlen : (s.out x).length = ks.length := by omega
  have hnk : ∀ h ∈ ks, h < nx := fun h hm => by obtain ⟨ob, hob⟩ := hkin h hm; exact hk h ob hob
  obtain ⟨hv', hv'd⟩ : ∃ hv' : Nat → Value, hv' = fun h => if nx ≤ h then hv1 (ks.length + (h - nx)) else hv h := ⟨_, rfl⟩
  have hvlt : ∀ h, h < nx → hv' h = hv h := fun h hh => by rw [hv'd]; exact if_neg (by omega)
  have hvge : ∀ h, nx ≤ h → hv' h = hv1 (ks.length + (h - nx)) := fun h hh => by rw [hv'd]; exact if_pos hh
  have hhp : ({ d, new := numbered nx (s.new x), upd := updOf hp ks (s.out x) } : Res).hpOf hp = numbered nx (s.new x) ++ updHP (updOf hp ks (s.out x)) hp := rfl
  have hnew : ∀ h, nx ≤ h → lk h (numbered nx (s.new x) ++ updHP (updOf hp ks (s.out x)) hp) = (s.new x)[h - nx]? := fun h hh => by
    rw [lk_append, lk_numbered, if_pos hh]
    have : lk h (updHP (updOf hp ks (s.out x)) hp) = none := by
      cases h1 : lk h (updHP (updOf hp ks (s.out x)) hp) with
      | none => rfl
      | some ob =>
        obtain ⟨ob', h2⟩ := lk_updHP _ _ _ _ h1
        have := hk h ob' h2
        omega
    rw [this, Option.or_none]
  have hold : ∀ h, h < nx → lk h (numbered nx (s.new x) ++ updHP (updOf hp ks (s.out x)) hp) = lk h (updHP (updOf hp ks (s.out x)) hp) := fun h hh => by
    rw [lk_append, lk_numbered, if_neg (by omega), Option.none_or]
  -- what the callee's objects are called here
  have hin : ∀ i k, ks[i]? = some k → ∃ o', (s.out x)[i]? = some o' ∧ lk k (numbered nx (s.new x) ++ updHP (updOf hp ks (s.out x)) hp) = some ⟨o'.ty, o'.sz, deepOf hp k, o'.xs⟩ ∧ lk i (numbered 0 (s.out x ++ s.new x)) = some o' := fun i k hi => by
    have hil := (List.getElem?_eq_some_iff.1 hi).1
    have h3 : ∃ o, (s.out x)[i]? = some o := ⟨_, List.getElem?_eq_getElem (by omega)⟩
    obtain ⟨o', h3⟩ := h3
    have hm := List.mem_of_getElem? hi
    refine ⟨o', h3, ?_, ?_⟩
    · rw [hold k (hnk k hm)]
      exact lk_upd_in ks _ hp i k o' hkn hi h3 (hkin k hm)
    · rw [lk_numbered]
      simp only [Nat.zero_le, if_true, Nat.sub_zero]
      rw [List.getElem?_append_left (by omega)]
      exact h3
  have hnw : ∀ j o', (s.new x)[j]? = some o' → lk (ks.length + j) (numbered 0 (s.out x ++ s.new x)) = some o' := fun j o' hj => by
    rw [lk_numbered]
    simp only [Nat.zero_le, if_true, Nat.sub_zero]
    rw [List.getElem?_append_right (by omega)]
    rw [← hj]
    congr 1
    omega
  have hvin : ∀ i k, ks[i]? = some k → hv1 i = hv k := fun i k hi => by
    have hil := (List.getElem?_eq_some_iff.1 hi).1
    rw [hsame i (by omega)]
    simp only [hgd i k hi]
  have hkeepb : ∀ b, b < w.heap.size → (∀ k ∈ ks, (hv k).ownBlock ≠ some b) → w'.heap[b]? = w.heap[b]? := fun b hb hn => hI1.keeps.block b hb (fun hm => by
    obtain ⟨k, hkm, hkb⟩ := List.mem_filterMap.1 hm
    exact hn k hkm hkb)
  have hnewblk : ∀ j o', (s.new x)[j]? = some o' → ∀ b, (hv1 (ks.length + j)).ownBlock = some b → w.heap.size ≤ b := fun j o' hj b hb => by
    rcases hI1.base _ _ b (hnw j o' hj) hb with h1 | h1
    · exact h1
    · obtain ⟨k, hkm, hkb⟩ := List.mem_filterMap.1 h1
      obtain ⟨i, hi⟩ := List.getElem?_of_mem hkm
      obtain ⟨o2, h4, _, h5⟩ := hin i k hi
      have hil := (List.getElem?_eq_some_iff.1 hi).1
      rcases hI1.inj _ _ _ _ (hnw j o' hj) h5 (by omega) with h6 | h6
      · rw [h6] at hb; cases hb
      · exact absurd (hb.trans ((congrArg Value.ownBlock (hvin i k hi)).trans hkb).symm) h6
  have hL : ∀ h y, LOf hv hp h = some y → LOf hv' (numbered nx (s.new x) ++ updHP (updOf hp ks (s.out x)) hp) h = some y := fun h y hy => by
    simp only [LOf, Option.map_eq_some_iff] at hy
    obtain ⟨ob, hob, rfl⟩ := hy
    have hlt := hk h ob hob
    by_cases hm : h ∈ ks
    · obtain ⟨i, hi⟩ := List.getElem?_of_mem hm
      obtain ⟨o2, h4, h5, _⟩ := hin i h hi
      rw [LOf_eq h5, hvlt h hlt]
      have hil := (List.getElem?_eq_some_iff.1 hi).1
      have : o2.sz = ob.sz := by
        have h6 : ∃ o, (s.obs x)[i]? = some o := ⟨_, List.getElem?_eq_getElem (by omega)⟩
        obtain ⟨o3, h6⟩ := h6
        obtain ⟨k, ob', h7, h8, hfit⟩ := hget i o3 h6
        rw [hi] at h7; cases h7
        rw [hob] at h8; cases h8
        have h9 := congrArg (fun l => l[i]?) hos
        simp only [List.getElem?_map, h4, h6, Option.map_some, Option.some.injEq] at h9
        rw [h9, hfit.2.1]
      rw [this]
    · have h5 : lk h (numbered nx (s.new x) ++ updHP (updOf hp ks (s.out x)) hp) = some ob := by rw [hold h hlt, lk_upd_out ks _ hp h hm]; exact hob
      rw [LOf_eq h5, hvlt h hlt]
  -- every object here is one of the callee's, or one that it did not see
  have hcase : ∀ h ob, lk h (numbered nx (s.new x) ++ updHP (updOf hp ks (s.out x)) hp) = some ob →
      (∃ j o', h = nx + j ∧ (s.new x)[j]? = some o' ∧ ob = o') ∨ (∃ i, ∃ o' : Ob, ks[i]? = some h ∧ (s.out x)[i]? = some o' ∧ ob = ⟨o'.ty, o'.sz, deepOf hp h, o'.xs⟩) ∨ (h ∉ ks ∧ h < nx ∧ lk h hp = some ob) := fun h ob hl => by
    by_cases hge : nx ≤ h
    · rw [hnew h hge] at hl
      exact .inl ⟨h - nx, ob, by omega, hl, rfl⟩
    · by_cases hm : h ∈ ks
      · obtain ⟨i, hi⟩ := List.getElem?_of_mem hm
        obtain ⟨o2, h4, h5, _⟩ := hin i h hi
        rw [hl] at h5
        cases h5
        exact .inr (.inl ⟨i, o2, hi, h4, rfl⟩)
      · rw [hold h (by omega), lk_upd_out ks _ hp h hm] at hl
        exact .inr (.inr ⟨hm, by omega, hl⟩)
  have hF : ∀ b, FOf G hv hp w b → FOf G hv' (numbered nx (s.new x) ++ updHP (updOf hp ks (s.out x)) hp) w' b ∧ w'.heap[b]? = w.heap[b]? := fun b hb => by
    refine ⟨⟨⟨Nat.lt_of_lt_of_le hb.1.1 hI1.keeps.size, hb.1.2⟩, fun h ob hl => ?_⟩, hkeepb b hb.1.1 (fun k hm => by obtain ⟨ob, hob⟩ := hkin k hm; exact hb.2 k ob hob)⟩
    rcases hcase h ob hl with ⟨j, o', rfl, hj, _⟩ | ⟨i, o', hi, _, _⟩ | ⟨hm, hlt, hob⟩
    · rw [hvge _ (by omega), show nx + j - nx = j by omega]
      intro hb'
      have := hnewblk j o' hj b hb'
      have := hb.1.1
      omega
    · have hm := List.mem_of_getElem? hi
      rw [hvlt h (hnk h hm)]
      obtain ⟨ob', hob'⟩ := hkin h hm
      exact hb.2 h ob' hob'
    · rw [hvlt h hlt]
      exact hb.2 h ob hob
  have hblk : ∀ k ob, lk k hp = some ob → ∀ b, (hv k).ownBlock = some b → b < w.heap.size := fun k ob hob b hb => by
    obtain ⟨vs, ho, _⟩ := hI.obs k ob hob
    exact (ho.lt b hb).2
  refine hK v hv' w' ⟨⟨fun h ob hl => ?_, fun h h' ob ob' hl hl' hne => ?_, fun h ob b hl hb => ?_, ?_, fun b hb => hI.gnew b (Nat.le_trans hI1.keeps.size hb)⟩, ?_, fun e u hr => hr.mono hL hF, fun h ob hob _ => hvlt h (hk h ob hob)⟩
  · -- the objects
    have toNew : ∀ (o' : Ob) (y : List D) (e : D) (u : Value) (F0 : Nat → Prop) (L0 : LF) (dp dp' : Bool), flatO o' → y ∈ o'.xs → e ∈ y → RepO dp L0 w' F0 e u →
        RepO dp' (LOf hv' (numbered nx (s.new x) ++ updHP (updOf hp ks (s.out x)) hp)) w' (FOf G hv' (numbered nx (s.new x) ++ updHP (updOf hp ks (s.out x)) hp) w') e u := fun o' y e u F0 L0 dp dp' hfl hy he hr => by
      have hfl := hfl y hy e he
      have hrC := hr.toC
      have hrP : RepP w' (fun _ => False) e u := by
        cases e <;> simp only [Bool.false_eq_true] at hfl <;> exact flat_cell (F := F0) (w := w') (by first | rfl | exact hfl) hrC
      have hrP' : RepP w' (FOf G hv' (numbered nx (s.new x) ++ updHP (updOf hp ks (s.out x)) hp) w') e u := hrP.mono (fun b hb => hb.elim)
      cases dp'
      · simpa [RepO] using hrP'
      · simpa [RepO] using hrP'.toC
    rcases hcase h ob hl with ⟨j, o', rfl, hj, rfl⟩ | ⟨i, o', hi, ho', rfl⟩ | ⟨hm, hlt, hob⟩
    · obtain ⟨us, h1, h2, h3⟩ := hI1.obs _ _ (hnw j _ hj)
      rw [hvge _ (by omega), show nx + j - nx = j by omega]
      refine ⟨us, h1, h2, fun a b y e ha hb => ?_⟩
      obtain ⟨u, hu, h4, hr⟩ := h3 a b y e ha hb
      exact ⟨u, hu, h4, toNew _ y e u _ _ _ _ (hflat.2 _ (List.mem_append_right _ (List.mem_of_getElem? hj))) (List.mem_of_getElem? ha) (List.mem_of_getElem? hb) hr⟩
    · obtain ⟨o2, h4, _, h5⟩ := hin i h hi
      rw [ho'] at h4
      cases h4
      obtain ⟨us, h1, h2, h3⟩ := hI1.obs _ _ h5
      rw [hvlt h (hnk h (List.mem_of_getElem? hi)), ← hvin i h hi]
      refine ⟨us, h1, h2, fun a b y e ha hb => ?_⟩
      obtain ⟨u, hu, h6, hr⟩ := h3 a b y e ha hb
      exact ⟨u, hu, h6, toNew _ y e u _ _ _ _ (hflat.2 _ (List.mem_append_left _ (List.mem_of_getElem? ho'))) (List.mem_of_getElem? ha) (List.mem_of_getElem? hb) hr⟩
    · obtain ⟨us, h1, h2, h3⟩ := hI.obs h ob hob
      rw [hvlt h hlt]
      refine ⟨us, oRow_same h1 (fun b hb => hkeepb b (hblk h ob hob b hb) (fun k hk' hkb => ?_)), h2, fun a b y e ha hb => ?_⟩
      · obtain ⟨ob', hob'⟩ := hkin k hk'
        rcases hI.inj h k ob ob' hob hob' (fun e => hm (e ▸ hk')) with h4 | h4
        · rw [h4] at hb; cases hb
        · exact h4 (hb.trans hkb.symm)
      · obtain ⟨u, hu, h6, hr⟩ := h3 a b y e ha hb
        exact ⟨u, hu, h6, RepO.obMono hr hL hF⟩
  · -- no two in one block
    rw [hhp] at hl hl'
    have old : ∀ h ob, h < nx → lk h (numbered nx (s.new x) ++ updHP (updOf hp ks (s.out x)) hp) = some ob → ∃ o, lk h hp = some o := fun h ob hlt hl => by
      rw [hold h hlt] at hl
      exact lk_updHP _ _ _ _ hl
    by_cases hge : nx ≤ h
    · rw [hnew h hge] at hl
      by_cases hge' : nx ≤ h'
      · rw [hnew h' hge'] at hl'
        rw [hvge h hge, hvge h' hge']
        exact hI1.inj _ _ _ _ (hnw _ _ hl) (hnw _ _ hl') (by omega)
      · obtain ⟨o2, ho2⟩ := old h' ob' (by omega) hl'
        rw [hvge h hge, hvlt h' (by omega)]
        cases hb : (hv1 (ks.length + (h - nx))).ownBlock with
        | none => exact .inl rfl
        | some b =>
          refine .inr fun e => ?_
          have := hnewblk _ _ hl b hb
          have := hblk h' o2 ho2 b e.symm
          omega
    · obtain ⟨o1, ho1⟩ := old h ob (by omega) hl
      by_cases hge' : nx ≤ h'
      · rw [hnew h' hge'] at hl'
        rw [hvge h' hge', hvlt h (by omega)]
        cases hb : (hv h).ownBlock with
        | none => exact .inl rfl
        | some b =>
          refine .inr fun e => ?_
          have := hnewblk _ _ hl' b e.symm
          have := hblk h o1 ho1 b hb
          omega
      · obtain ⟨o2, ho2⟩ := old h' ob' (by omega) hl'
        rw [hvlt h (by omega), hvlt h' (by omega)]
        exact hI.inj h h' o1 o2 ho1 ho2 hne
  · -- where they lie
    rw [hhp] at hl
    by_cases hge : nx ≤ h
    · rw [hnew h hge] at hl
      rw [hvge h hge] at hb
      exact .inl (Nat.le_trans hI.keeps.size (hnewblk _ _ hl b hb))
    · rw [hold h (by omega)] at hl
      obtain ⟨o1, ho1⟩ := lk_updHP _ _ _ _ hl
      rw [hvlt h (by omega)] at hb
      exact hI.base h o1 b ho1 hb
  · refine ⟨hI1.keeps.os.trans hI.keeps.os, hI1.keeps.tape.trans hI.keeps.tape, hI1.keeps.output.trans hI.keeps.output, Nat.le_trans hI.keeps.size hI1.keeps.size, fun k hk' hS => ?_, hI.keeps.tab⟩
    rw [hkeepb k (Nat.lt_of_lt_of_le hk' hI.keeps.size) (fun k' hm hb => ?_)]
    · exact hI.keeps.block k hk' hS
    · obtain ⟨o1, ho1⟩ := hkin k' hm
      rcases hI.base k' o1 k ho1 hb with h1 | h1
      · omega
      · exact hS h1
  · -- the result
    have h1 := flatD_rep (F' := fun _ => False) hflat.1 hrep
    refine ren_rep (fun i k y hi hy => ?_) (fun b hb => hb.elim) hren h1
    by_cases hil : i < ks.length
    · rw [List.getElem?_append_left hil] at hi
      obtain ⟨o2, h4, h5, h6⟩ := hin i k hi
      rw [LOf_eq h6] at hy
      show LOf hv' (numbered nx (s.new x) ++ updHP (updOf hp ks (s.out x)) hp) k = some y
      rw [LOf_eq h5, hvlt k (hnk k (List.mem_of_getElem? hi)), ← hvin i k hi]
      exact hy
    · rw [List.getElem?_append_right (by omega)] at hi
      have hjl := (List.getElem?_eq_some_iff.1 hi).1
      simp only [List.length_range'] at hjl
      rw [List.getElem?_range' (by omega)] at hi
      simp only [Nat.one_mul, Option.some.injEq] at hi
      subst hi
      have h3 : ∃ o, (s.new x)[i - ks.length]? = some o := ⟨_, List.getElem?_eq_getElem (by omega)⟩
      obtain ⟨o', h3⟩ := h3
      have h6 := hnw _ _ h3
      rw [show ks.length + (i - ks.length) = i by omega] at h6
      rw [LOf_eq h6] at hy
      show LOf hv' (numbered nx (s.new x) ++ updHP (updOf hp ks (s.out x)) hp) (nx + (i - ks.length)) = some y
      have h7 := hnew (nx + (i - ks.length)) (by omega)
      rw [show nx + (i - ks.length) - nx = i - ks.length by omega, h3] at h7
      rw [LOf_eq h7, hvge _ (by omega), show ks.length + (nx + (i - ks.length) - nx) = i by omega]
      exact hy
end Go.Proofs.YtpdkhlpmiblflaaGreat.Abs

/- Abs, part 16: the walk, step by step. -/
set_option linter.unusedVariables false
set_option linter.unusedSimpArgs false
namespace Go.Proofs.YtpdkhlpmiblflaaGreat.Abs
open Go Go.RowKit
variable {P : Program} {T : TT} {C : Ctx} {m : Nat} {ops l : List Oper} {o : Oper} {st st' : St} {K : St → Prop} {Q : Exit → St → Prop}

theorem areg_go {dst : Option Tmp} {op : Op} {ty : TypeId} {pos : String} {af : Array Edge} {pre : Prop} {r : Res} (hs : astep T op (evD st.sl) st.hp st.nx = some (pre, r)) (hd : deadOk m r = true) (hpre : pre) (hst : st.app dst r = st') (hK : areg P T m ops l st' K) : areg P T m ops ({ dst := dst, op := op, type := ty, pos := pos, after := af, guard := none } :: l) st K := by
  simp only [areg, aop, hs]
  exact ⟨hpre, hd, by rw [hst]; exact hK⟩
theorem areg_call {dst : Option Tmp} {op : Op} {ty : TypeId} {pos : String} {af : Array Edge} {r : Res} (hs : astep T op (evD st.sl) st.hp st.nx = none) (hr : OpRel P { dst := dst, op := op, type := ty, pos := pos, after := af, guard := none } (evD st.sl) st.hp st.nx r) (hst : st.app dst r = st') (hK : areg P T m ops l st' K) : areg P T m ops ({ dst := dst, op := op, type := ty, pos := pos, after := af, guard := none } :: l) st K := by
  simp only [areg, aop, hs]
  exact ⟨r, hr, by rw [hst]; exact hK⟩
theorem areg_yes {dst : Option Tmp} {op : Op} {ty : TypeId} {pos : String} {af : Array Edge} {j : Nat} {want b : Bool} (hg : guardD ops j st.sl = some b) (hb : b = want) (hK : aop P T m { dst := dst, op := op, type := ty, pos := pos, after := af, guard := some (j, want) } st (fun st' => areg P T m ops l st' K)) : areg P T m ops ({ dst := dst, op := op, type := ty, pos := pos, after := af, guard := some (j, want) } :: l) st K := by
  subst hb
  simp only [areg, hg]
  exact ⟨fun _ => hK, fun e => absurd e (by cases b <;> simp)⟩
theorem areg_no {dst : Option Tmp} {op : Op} {ty : TypeId} {pos : String} {af : Array Edge} {j : Nat} {want b : Bool} (hg : guardD ops j st.sl = some b) (hb : b = !want) (hK : areg P T m ops l ⟨putSl dst (.val undef) st.sl, st.hp, st.nx⟩ K) : areg P T m ops ({ dst := dst, op := op, type := ty, pos := pos, after := af, guard := some (j, want) } :: l) st K := by
  subst hb
  simp only [areg, hg]
  exact ⟨fun e => absurd e (by cases want <;> simp), fun _ => hK⟩
theorem areg_yes_go {dst : Option Tmp} {op : Op} {ty : TypeId} {pos : String} {af : Array Edge} {j : Nat} {want : Bool} {pre : Prop} {r : Res} (hg : guardD ops j st.sl = some want) (hs : astep T op (evD st.sl) st.hp st.nx = some (pre, r)) (hd : deadOk m r = true) (hpre : pre) (hst : st.app dst r = st') (hK : areg P T m ops l st' K) : areg P T m ops ({ dst := dst, op := op, type := ty, pos := pos, after := af, guard := some (j, want) } :: l) st K :=
  areg_yes hg rfl (by simp only [aop, hs]; exact ⟨hpre, hd, by rw [hst]; exact hK⟩)
theorem areg_yes_call {dst : Option Tmp} {op : Op} {ty : TypeId} {pos : String} {af : Array Edge} {j : Nat} {want : Bool} {r : Res} (hg : guardD ops j st.sl = some want) (hs : astep T op (evD st.sl) st.hp st.nx = none) (hr : OpRel P { dst := dst, op := op, type := ty, pos := pos, after := af, guard := some (j, want) } (evD st.sl) st.hp st.nx r) (hst : st.app dst r = st') (hK : areg P T m ops l st' K) : areg P T m ops ({ dst := dst, op := op, type := ty, pos := pos, after := af, guard := some (j, want) } :: l) st K :=
  areg_yes hg rfl (by simp only [aop, hs]; exact ⟨r, hr, by rw [hst]; exact hK⟩)
theorem areg_not {dst : Option Tmp} {op : Op} {ty : TypeId} {pos : String} {af : Array Edge} {j : Nat} {want b : Bool} (hg : guardD ops j st.sl = some b) (hb : (!want) = b) (hst : St.mk (putSl dst (.val undef) st.sl) st.hp st.nx = st') (hK : areg P T m ops l st' K) : areg P T m ops ({ dst := dst, op := op, type := ty, pos := pos, after := af, guard := some (j, want) } :: l) st K :=
  areg_no hg hb.symm (by rw [hst]; exact hK)
/-! ### A guarded operation without two ways -/
def gd (b want : Bool) (d : D) : D := if b = want then d else .val undef
theorem gd_tt (d : D) : gd true true d = d := rfl
theorem gd_ff (d : D) : gd false false d = d := rfl
theorem pick_and (t x : Bool) : (if t = true then gd t true (.val (.bool x)) else .val (.bool false)) = .val (.bool (t && x)) := by cases t <;> rfl
theorem pick_or (t x : Bool) : (if t = true then .val (.bool true) else gd t false (.val (.bool x))) = .val (.bool (t || x)) := by cases t <;> rfl

theorem areg_gd {dst : Option Tmp} {op : Op} {ty : TypeId} {pos : String} {af : Array Edge} {j : Nat} {want b : Bool} {d : D} (hg : guardD ops j st.sl = some b) (hs : b = want → ∃ pre, astep T op (evD st.sl) st.hp st.nx = some (pre, { d := d }) ∧ pre)
    (hst : St.mk (putSl dst (gd b want d) st.sl) st.hp st.nx = st') (hK : areg P T m ops l st' K) : areg P T m ops ({ dst := dst, op := op, type := ty, pos := pos, after := af, guard := some (j, want) } :: l) st K := by
  by_cases hb : b = want
  · subst hb
    obtain ⟨pre, h1, h2⟩ := hs rfl
    refine areg_yes_go hg h1 rfl h2 ?_ hK
    rw [← hst]
    simp [St.app, killSl, Res.hpOf, updHP, gd]
  · have hb' : (!want) = b := by cases b <;> cases want <;> simp_all
    refine areg_not hg hb' ?_ hK
    rw [← hst]
    simp [gd, hb]
theorem areg_gd_call {dst : Option Tmp} {op : Op} {ty : TypeId} {pos : String} {af : Array Edge} {j : Nat} {want b : Bool} {d : D} (hg : guardD ops j st.sl = some b)
    (hs : b = want → astep T op (evD st.sl) st.hp st.nx = none ∧ ∃ r, OpRel P { dst := dst, op := op, type := ty, pos := pos, after := af, guard := some (j, want) } (evD st.sl) st.hp st.nx r ∧ r.d = d ∧ r.new = [] ∧ r.upd = [])
    (hst : St.mk (putSl dst (gd b want d) st.sl) st.hp st.nx = st') (hK : areg P T m ops l st' K) : areg P T m ops ({ dst := dst, op := op, type := ty, pos := pos, after := af, guard := some (j, want) } :: l) st K := by
  by_cases hb : b = want
  · subst hb
    obtain ⟨h1, r, h2, h3, h4, h5⟩ := hs rfl
    refine areg_yes_call hg h1 h2 ?_ hK
    rw [← hst]
    simp [St.app, killSl, Res.hpOf, updHP, gd, h2.1.2, h3, h4, h5]
  · have hb' : (!want) = b := by cases b <;> cases want <;> simp_all
    refine areg_not hg hb' ?_ hK
    rw [← hst]
    simp [gd, hb]

theorem awp_reg {N : Nat} {id : Nat} {ops : Array Oper} (hT : TOk P T) (hP : C.P = P) (hCm : C.m = m) (hN : C.N = N) (l : List Oper) (he : ops = l.toArray) (hd : dstsOk N l = true) (h : areg P T m l l st (Q .normal)) : awp C (.region id ops false) Q st := by
  subst he
  exact awp_region hT hP hCm hN hd h
theorem fin_mk {X : Type} {rs : List ResultVar} {s : Spec X} {x : X} (ks : List Nat) {d d' : D} (hd : outD T st.sl st.hp rs = some d) (hr : ren (List.range m ++ ks) (s.res x) = some d') (he : d' = d) (ho : Objs st.hp (List.range m ++ ks) (s.out x ++ s.new x)) (hn : (List.range m ++ ks).Nodup) : Fin T rs s m x st :=
  ⟨d, ks, hd, he ▸ hr, ho, hn⟩

/-! ### The names of a walk's states, as one bundle of equations -/
theorem nrm : (∀ (st : St) (dst : Option Tmp) (r : Res), st.app dst r = ⟨putSl dst r.d (killSl r.dead st.sl), r.hpOf st.hp, st.nx + r.new.length⟩) ∧ (∀ (t : Tmp) (d : D) (sl : List (Nat × D)), putSl (some t) d sl = (t, d) :: sl) ∧ (∀ (d : D) (sl : List (Nat × D)), putSl none d sl = sl) ∧
    (∀ sl : List (Nat × D), killSl none sl = sl) ∧ (∀ (d : D) (hp : HP), Res.hpOf { d := d } hp = hp) ∧ (∀ (d : D) (new : List (Nat × Ob)) (hp : HP), Res.hpOf { d := d, new := new } hp = new ++ hp) ∧ (∀ (d : D) (new upd : List (Nat × Ob)) (hp : HP), Res.hpOf { d := d, new := new, upd := upd } hp = new ++ updHP upd hp) ∧
    (∀ hp : HP, updHP [] hp = hp) ∧ (∀ (h : Nat) (ob : Ob) (l : List (Nat × Ob)) (hp : HP), updHP ((h, ob) :: l) hp = updHP l (hset h ob hp)) ∧ (∀ (sl : List (Nat × D)) (t : Tmp), evD sl (.tmp t) = (lk t sl).getD .any) ∧ (∀ (sl : List (Nat × D)) (v : Value), evD sl (.const v) = cst v) ∧
    (∀ (k : IntKind) (n : Int), cst (.int k n) = .val (.int k n)) ∧ (∀ b : Bool, cst (.bool b) = .val (.bool b)) ∧ (∀ b : ByteArray, cst (.string b) = .val (.string b)) ∧ (∀ d : D, gd true true d = d) ∧ (∀ d : D, gd false false d = d) ∧ (∀ d : D, gd true false d = .val undef) ∧ (∀ d : D, gd false true d = .val undef) :=
  ⟨fun _ _ _ => rfl, fun _ _ _ => rfl, fun _ _ => rfl, fun _ => rfl, fun _ _ => rfl, fun _ _ _ => rfl, fun _ _ _ _ => rfl, fun _ => rfl, fun _ _ _ _ => rfl, fun _ _ => rfl, fun _ _ => rfl, fun _ _ => rfl, fun _ => rfl, fun _ => rfl, fun _ => rfl, fun _ => rfl, fun _ => rfl, fun _ => rfl⟩
theorem lk_nrm {α : Type} : (∀ (k : Nat) (v : α) (l : List (Nat × α)) (k' : Nat), lk k' ((k, v) :: l) = if k' = k then some v else lk k' l) ∧ (∀ v d : α, (some v).getD d = v) ∧ (∀ l : List α, [] ++ l = l) ∧ (∀ (x : α) (l m : List α), (x :: l) ++ m = x :: (l ++ m)) ∧ ([] : List α).length = 0 ∧ (∀ (x : α) (l : List α), (x :: l).length = l.length + 1) :=
  ⟨fun _ _ _ _ => rfl, fun _ _ => rfl, fun _ => rfl, fun _ _ _ => rfl, rfl, fun _ _ => rfl⟩
theorem blockA_hit {id : Nat} (h : Q .normal st) : blockA id Q (.exit id) st := by simp [blockA, h]
theorem blockA_miss {id id' : Nat} (hne : id' ≠ id) (h : Q (.exit id') st) : blockA id Q (.exit id') st := by simp [blockA, hne, h]
theorem wI64 {n : Int} (h1 : -9223372036854775808 ≤ n) (h2 : n ≤ 9223372036854775807) : IntKind.i64.wrap n = n := by
  simp only [IntKind.wrap, IntKind.bits, IntKind.signed]; simp; split <;> omega
theorem wI32 {n : Int} (h1 : -2147483648 ≤ n) (h2 : n ≤ 2147483647) : IntKind.i32.wrap n = n := by
  simp only [IntKind.wrap, IntKind.bits, IntKind.signed]; simp; split <;> omega
theorem wI16 {n : Int} (h1 : -32768 ≤ n) (h2 : n ≤ 32767) : IntKind.i16.wrap n = n := by
  simp only [IntKind.wrap, IntKind.bits, IntKind.signed]; simp; split <;> omega
theorem wI8 {n : Int} (h1 : -128 ≤ n) (h2 : n ≤ 127) : IntKind.i8.wrap n = n := by
  simp only [IntKind.wrap, IntKind.bits, IntKind.signed]; simp; split <;> omega
theorem wU8 {n : Int} (h1 : 0 ≤ n) (h2 : n ≤ 255) : IntKind.u8.wrap n = n := by
  simp only [IntKind.wrap, IntKind.bits, IntKind.signed]; simp; omega

def mkO (cs : List D) : Option (List Value) → D
  | some vs => .val (.agg vs.toArray)
  | none => .agg cs
theorem dc_nrm : (∀ l : List Value, dcells (.val (.agg l.toArray)) = l.map .val) ∧ (∀ cs : List D, dcells (.agg cs) = cs) ∧ (∀ (k : IntKind) (n : Int), dcells (.val (.int k n)) = [.val (.int k n)]) ∧ (∀ b : Bool, dcells (.val (.bool b)) = [.val (.bool b)]) ∧ (∀ b : ByteArray, dcells (.val (.string b)) = [.val (.string b)]) ∧
    dcells .nil = [.nil] ∧ dcells .any = [.any] ∧ (∀ h : Nat, dcells (.own h) = [.own h]) ∧ (∀ (sz : Nat) (xs : List (List D)), dcells (.sl sz xs) = [.sl sz xs]) ∧ (∀ h lo n : Nat, dcells (.vw h lo n) = [.vw h lo n]) ∧ (∀ h i off : Nat, dcells (.ptr h i off) = [.ptr h i off]) :=
  ⟨fun _ => rfl, fun _ => rfl, fun _ _ => rfl, fun _ => rfl, fun _ => rfl, rfl, rfl, fun _ => rfl, fun _ _ => rfl, fun _ _ _ => rfl, fun _ _ _ => rfl⟩
theorem mk_nrm : (∀ cs : List D, mkAgg cs = mkO cs (allVals cs)) ∧ allVals [] = some [] ∧ (∀ (v : Value) (ds : List D), allVals (.val v :: ds) = (allVals ds).map (v :: ·)) ∧ (∀ ds : List D, allVals (.nil :: ds) = none) ∧ (∀ ds : List D, allVals (.any :: ds) = none) ∧ (∀ (h : Nat) (ds : List D), allVals (.own h :: ds) = none) ∧
    (∀ (sz : Nat) (xs : List (List D)) (ds : List D), allVals (.sl sz xs :: ds) = none) ∧ (∀ (h lo n : Nat) (ds : List D), allVals (.vw h lo n :: ds) = none) ∧ (∀ (cs : List D) (vs : List Value), mkO cs (some vs) = .val (.agg vs.toArray)) ∧ (∀ cs : List D, mkO cs none = .agg cs) ∧ (∀ (f : List Value → List Value) (v : List Value), Option.map f (some v) = some (f v)) ∧ (∀ f : List Value → List Value, Option.map f none = none) :=
  ⟨fun cs => by unfold mkAgg mkO; cases allVals cs <;> rfl, rfl, fun _ _ => rfl, fun _ => rfl, fun _ => rfl, fun _ _ => rfl, fun _ _ _ => rfl, fun _ _ _ _ => rfl, fun _ _ => rfl, fun _ => rfl, fun _ _ => rfl, fun _ => rfl⟩
theorem ti_nrm : (∀ (x cs : List D) (off : Nat), putCells true x off cs = x.take off ++ cs ++ x.drop (off + cs.length)) ∧ (∀ (x : List D) (c : D) (off : Nat), putCells false x off [c] = x.set off c) ∧ (∀ (fs : List (Nat × TypeId)) (a b : Nat) (z : Value), TI.aggB ⟨.struct fs, a, b, z⟩ = true) ∧ (∀ (n : Nat) (e : TypeId) (a b : Nat) (z : Value), TI.aggB ⟨.arr n e, a, b, z⟩ = true) ∧
    (∀ (k : IntKind) (a b : Nat) (z : Value), TI.aggB ⟨.int k, a, b, z⟩ = false) ∧ (∀ (a b : Nat) (z : Value), TI.aggB ⟨.bool, a, b, z⟩ = false) ∧ (∀ (a b : Nat) (z : Value), TI.aggB ⟨.str, a, b, z⟩ = false) ∧ (∀ (e : TypeId) (a b : Nat) (z : Value), TI.aggB ⟨.slice e, a, b, z⟩ = false) ∧ (∀ (e : TypeId) (a b : Nat) (z : Value), TI.aggB ⟨.ptr e, a, b, z⟩ = false) ∧ (∀ (a b : Nat) (z : Value), TI.aggB ⟨.other, a, b, z⟩ = false) ∧
    (∀ (sh : Sh) (a b : Nat) (l : List Value), zeroD ⟨sh, a, b, .agg l.toArray⟩ = l.map cst) ∧ (∀ (sh : Sh) (a b : Nat) (k : IntKind) (n : Int), zeroD ⟨sh, a, b, .int k n⟩ = [.val (.int k n)]) ∧ (∀ (sh : Sh) (a b : Nat) (c : Bool), zeroD ⟨sh, a, b, .bool c⟩ = [.val (.bool c)]) ∧ (∀ (sh : Sh) (a b : Nat), zeroD ⟨sh, a, b, .slice none 0 0⟩ = [.nil]) ∧ (∀ (sh : Sh) (a b : Nat) (t : ByteArray), zeroD ⟨sh, a, b, .string t⟩ = [.val (.string t)]) ∧ cst (.slice none 0 0) = .nil :=
  ⟨fun _ _ _ => rfl, fun _ _ _ => rfl, fun _ _ _ _ => rfl, fun _ _ _ _ _ => rfl, fun _ _ _ _ => rfl, fun _ _ _ => rfl, fun _ _ _ => rfl, fun _ _ _ _ => rfl, fun _ _ _ _ => rfl, fun _ _ _ => rfl, fun _ _ _ _ => rfl, fun _ _ _ _ _ => rfl, fun _ _ _ _ => rfl, fun _ _ _ => rfl, fun _ _ _ _ => rfl, rfl⟩
theorem mp_nrm {α β : Type} : (∀ (f : α → β) (x : α) (l : List α), (x :: l).map f = f x :: l.map f) ∧ (∀ f : α → β, ([] : List α).map f = []) := ⟨fun _ _ _ => rfl, fun _ => rfl⟩
theorem ls_nrm {α : Type} : (∀ (n : Nat) (x : α) (l : List α), (x :: l).take (n + 1) = x :: l.take n) ∧ (∀ l : List α, l.take 0 = []) ∧ (∀ n : Nat, ([] : List α).take n = []) ∧ (∀ (n : Nat) (x : α) (l : List α), (x :: l).drop (n + 1) = l.drop n) ∧ (∀ l : List α, l.drop 0 = l) ∧ (∀ n : Nat, ([] : List α).drop n = []) ∧
    (∀ (x y : α) (l : List α), (x :: l).set 0 y = y :: l) ∧ (∀ (x y : α) (n : Nat) (l : List α), (x :: l).set (n + 1) y = x :: l.set n y) :=
  ⟨fun _ _ _ => rfl, fun _ => by simp, fun _ => by simp, fun _ _ _ => rfl, fun _ => rfl, fun _ => by simp, fun _ _ _ => rfl, fun _ _ _ _ => rfl⟩
theorem nb_nrm : (∀ k : Nat, numbered k [] = []) ∧ (∀ (k : Nat) (o : Ob) (l : List Ob), numbered k (o :: l) = (k, o) :: numbered (k + 1) l) ∧ (∀ (hp : HP) (os : List Ob), updOf hp [] os = []) ∧ (∀ (hp : HP) (k : Nat) (ks : List Nat) (o : Ob) (os : List Ob), updOf hp (k :: ks) (o :: os) = (k, ⟨o.ty, o.sz, deepOf hp k, o.xs⟩) :: updOf hp ks os) :=
  ⟨fun _ => rfl, fun _ _ _ => rfl, fun _ os => by cases os <;> rfl, fun _ _ _ _ _ => rfl⟩

/-! ### Arguments of a call -/
variable {hp : HP} {ks : List Nat}
theorem args_nil : Args hp ks [] [] := trivial
theorem args_cons {d e : D} {ds es : List D} (h1 : ArgA hp ks d e) (h2 : Args hp ks ds es) : Args hp ks (d :: ds) (e :: es) := ⟨h1, h2⟩
theorem argl_nil : ArgL hp ks [] [] := trivial
theorem argl_cons {d e : D} {ds es : List D} (h1 : ArgC hp ks d e) (h2 : ArgL hp ks ds es) : ArgL hp ks (d :: ds) (e :: es) := ⟨h1, h2⟩
theorem arga_agg {cs ds : List D} (h : ArgL hp ks cs ds) : ArgA hp ks (.agg cs) (.agg ds) := h
theorem arga_val {v : Value} : ArgA hp ks (.val v) (.val v) := rfl
theorem argc_val {v : Value} : ArgC hp ks (.val v) (.val v) := rfl
theorem arga_nil : ArgA hp ks .nil .nil := rfl
theorem argc_nil : ArgC hp ks .nil .nil := rfl
theorem arga_own {i h : Nat} (e : ks[i]? = some h) : ArgA hp ks (.own i) (.own h) := e
theorem arga_vw {i h lo n lo' n' : Nat} (e : ks[i]? = some h) (h1 : lo' = lo) (h2 : n' = n) : ArgA hp ks (.vw i lo n) (.vw h lo' n') := ⟨e, h1, h2⟩
theorem argc_own {i h : Nat} (e : ks[i]? = some h) : ArgC hp ks (.own i) (.own h) := e
theorem argc_slown {sz h : Nat} {xs : List (List D)} {ob : Ob} (hn : h ∉ ks) (hl : lk h hp = some ob) (hd : ob.deep = false) (hs : ob.sz = sz) (hx : ob.xs = xs) : ArgC hp ks (.sl sz xs) (.own h) := ⟨hn, ob, hl, hs, .inl ⟨hd, hx⟩⟩
theorem arga_slown {sz h : Nat} {xs : List (List D)} {ob : Ob} (hn : h ∉ ks) (hl : lk h hp = some ob) (hd : ob.deep = false) (hs : ob.sz = sz) (hx : ob.xs = xs) : ArgA hp ks (.sl sz xs) (.own h) := ⟨hn, ob, hl, hs, .inl ⟨hd, hx⟩⟩
theorem argc_slsl {sz : Nat} {xs : List (List D)} : ArgC hp ks (.sl sz xs) (.sl sz xs) := ⟨rfl, rfl⟩
theorem arga_slsl {sz : Nat} {xs : List (List D)} : ArgA hp ks (.sl sz xs) (.sl sz xs) := ⟨rfl, rfl⟩
theorem argc_slnil {sz : Nat} : ArgC hp ks (.sl sz []) .nil := rfl
theorem arga_slnil {sz : Nat} : ArgA hp ks (.sl sz []) .nil := rfl

theorem OpRel.call' {P : Program} {X : Type} {s : Spec X} {f : FuncId} (hF : FnOk P f s) (x : X) (ks : List Nat) {o : Oper} {cf : Operand} {args : Array Operand} {tys : Array TypeId} {ev : Operand → D} {hp : HP} {nx : Nat}
    {first caps : List D} {d : D} {no : List Ob} (hkn : ks.Nodup) (ho : o.op = .call ⟨.value cf, args, tys⟩) (hcf : fnParts (ev cf) = some (.func f, first, caps)) (hargs : Args hp ks (s.args x) (first ++ args.toList.map ev ++ caps)) (hpre : s.pre x) (hobs : Objs hp ks (s.obs x))
    (hno : s.new x = no) (hren : ren (ks ++ List.range' nx no.length) (s.res x) = some d) (hflat : flatD (s.res x) = true) (hfo : ∀ o ∈ s.out x ++ s.new x, flatO o) :
    OpRel P o ev hp nx { d, new := numbered nx (s.new x), upd := updOf hp ks (s.out x) } :=
  OpRel.call hF x ks hkn ho hcf hpre hargs hobs (by rw [hno]; exact hren) ⟨hflat, hfo⟩
end Go.Proofs.YtpdkhlpmiblflaaGreat.Abs

/- Abs, part 17: from a contract to a row. -/
set_option linter.unusedVariables false
set_option linter.unusedSimpArgs false
namespace Go.Proofs.YtpdkhlpmiblflaaGreat.Abs
open Go Go.RowKit Go.ChangeShapes Go.WideShapes Go.ChangeAt
variable {P : Program}

theorem hinv_none (W : World) (G : Nat → Prop) (hv : Nat → Value) (ht : TabAt [] W) (hg : ∀ b, W.heap.size ≤ b → G b) : HInv W [] G hv [] W := ⟨fun h ob hl => by simp [lk] at hl, fun h h' ob ob' hl => by simp [lk] at hl, fun h ob b hl => by simp [lk] at hl, Keeps.refl _ _ ht, hg⟩

theorem trodAll_keep {H : Type} {enc : TypeId × Value → H} (hl : laidOutB P = true) {W W' : World} (hb : Below W.heap.size W W') : ∀ {ts : List TypeId} {vs : List Value} {ds : List (DataW H)} {ps : List MemPlace}, ts.all (fun t => P.readableRec t && decide (t < P.types.size)) = true →
    DataW.TrodAll enc P W 0 (fun _ => true) true ts vs ds ps → DataW.TrodAll enc P W' 0 (fun b => decide (b < W.heap.size)) true ts vs ds ps
  | [], [], [], _, _, h => h
  | t :: ts, v :: vs, d :: ds, ps, ht, h => by
    have hlt := h.lt
    obtain ⟨p, q, h1, h2, rfl⟩ := h
    simp only [List.all_cons, Bool.and_eq_true, decide_eq_true_eq] at ht
    exact ⟨p, q, Below.trod hl ht.1.1 ht.1.2 h1 hb (fun x hx => hlt x (by simp [hx])), trodAll_keep hl hb (by simpa using ht.2) h2, rfl⟩
  | [], _ :: _, _, _, _, h => h.elim
  | [], [], _ :: _, _, _, h => h.elim
  | _ :: _, [], _, _, _, h => h.elim
  | _ :: _, _ :: _, [], _, _, h => h.elim

theorem law_calls {X : Type} {s : Spec X} {f : FuncId} (hF : FnOk P f s) (x : X) (hpre : s.pre x) (hobs : s.obs x = []) (hout : s.out x = []) (hnew : s.new x = []) (hres : s.res x = .val (.bool true)) (W : World) (ht : TabAt [] W) (vs : List Value)
    (hA : ∀ (L : LF) (F : Nat → Prop), (∀ b, b < W.heap.size → F b) → RepAL L W F (s.args x) vs) : Calls P f vs.toArray W (fun e w' => e = .returned (.bool true) ∧ Below W.heap.size W w') := by
  have h := (hF.2 x hpre).2 W [] (fun _ => True) (fun _ => undef) vs (fun _ _ => trivial)
  rw [hobs, hout, hnew, hres] at h
  refine (h (hinv_none _ _ _ ht (fun _ _ => trivial)) (hA _ _ (fun b hb => ⟨⟨hb, trivial⟩, fun h ob hl => by simp [numbered, lk] at hl⟩))).mono (fun e w' ⟨v, hv', he, hI, _, hr⟩ => ?_)
  rw [rep_val hr] at he
  exact ⟨he, hI.keeps.below⟩
end Go.Proofs.YtpdkhlpmiblflaaGreat.Abs

/- Abs, part 18: regions that draw their order. -/
set_option linter.unusedVariables false
set_option linter.unusedSimpArgs false
namespace Go.Proofs.YtpdkhlpmiblflaaGreat.Abs
open Go Go.RowKit
variable {P : Program} {T : TT} {C : Ctx}

theorem hinv_drawn {w0 : World} {S : List Nat} {G : Nat → Prop} {hv : Nat → Value} {hp : HP} {w : World} (h : HInv w0 S G hv hp w) (n : Nat) : HInv w0 S G hv hp { w with drawn := n } := by
  refine ⟨fun k ob hl => ?_, h.inj, h.base, ⟨h.keeps.os, h.keeps.tape, h.keeps.output, h.keeps.size, h.keeps.block, h.keeps.tab⟩, h.gnew⟩
  obtain ⟨us, h1, h2, h3⟩ := h.obs k ob hl
  refine ⟨us, oRow_same h1 (fun b hb => rfl), h2, fun a b y e ha hb => ?_⟩
  obtain ⟨u, hu, h4, hr⟩ := h3 a b y e ha hb
  exact ⟨u, hu, h4, RepO.obMono hr (fun _ _ h => h) (fun b hb => ⟨hb, rfl⟩)⟩

theorem inv_drawn {st : St} {a : Act} {w : World} (h : Inv C st a w) (n : Nat) : Inv C st a { w with drawn := n } := by
  obtain ⟨hv, hH, hk, hm, hpin, hS⟩ := h
  exact ⟨hv, hinv_drawn hH n, hk, hm, hpin, hS.defers, hS.size, fun t d hl => Rep.mono (w := w) (w' := { w with drawn := n }) (F := FOf C.G hv st.hp w) (fun _ _ h => h) (fun b hb => ⟨hb, rfl⟩) (hS.at_ t d hl)⟩

/-! ### An operation that only looks at what no other turns -/
def FreeOk (P : Program) (o : Oper) (ev : Operand → D) (rd : HP) (d : D) : Prop := ∀ (hp : HP) (nx : Nat), (∀ h ob, lk h rd = some ob → lk h hp = some ob) → OpRel P o ev hp nx { d := d }

section mono
variable {hp hp' : HP} (hm : ∀ h ob, lk h hp = some ob → lk h hp' = some ob)
include hm
theorem stepLoad_mono {t : TypeId} {a : D} {x : Prop × Res} (h : stepLoad T t hp a = some x) : stepLoad T t hp' a = some x := by
  unfold stepLoad at h ⊢
  split at h
  · cases h
  · rename_i ti hti
    split at h
    · rename_i k i off
      split at h
      · cases h
      · rename_i ob hob
        simp only [hm _ _ hob]
        exact h
    · exact h
    · cases h
theorem stepLen_mono {t : TypeId} {a : D} {x : Prop × Res} (h : stepLen T t hp a = some x) : stepLen T t hp' a = some x := by
  unfold stepLen at h ⊢
  split at h
  · exact h
  · exact h
  · cases a <;> simp only [reduceCtorEq] at h ⊢ <;> try exact h
    rename_i k
    cases hl : lk k hp with
    | none => simp [hl] at h
    | some ob => simp only [hl] at h; simp only [hm _ _ hl]; exact h
  · cases h
theorem stepIndexAddr_mono {t : TypeId} {a ix : D} {x : Prop × Res} (h : stepIndexAddr T t hp a ix = some x) : stepIndexAddr T t hp' a ix = some x := by
  unfold stepIndexAddr at h ⊢
  split at h
  · split at h
    · split at h
      · cases h
      · rename_i es hes
        cases a <;> simp only [reduceCtorEq] at h ⊢ <;> try exact h
        · rename_i k
          cases hl : lk k hp with
          | none => simp [hl] at h
          | some ob => simp only [hl] at h; simp only [hm _ _ hl]; exact h
        · rename_i k lo n
          cases hl : lk k hp with
          | none => simp [hl] at h
          | some ob => simp only [hl] at h; simp only [hm _ _ hl]; exact h
    · exact h
    · cases h
  · cases h
theorem stepSlice_mono {t : TypeId} {a : D} {lo hi : Option D} {x : Prop × Res} (h : stepSlice T t hp a lo hi = some x) : stepSlice T t hp' a lo hi = some x := by
  unfold stepSlice at h ⊢
  cases a <;> simp only [reduceCtorEq] at h ⊢ <;> try exact h
  case val v => cases v <;> exact h
  case own k =>
    cases hl : lk k hp with
    | none => simp [hl] at h
    | some ob => simp only [hl] at h; simp only [hm _ _ hl]; exact h
  case vw k b n =>
    cases hl : lk k hp with
    | none => simp [hl] at h
    | some ob => simp only [hl] at h; simp only [hm _ _ hl]; exact h
  case ptr k i off =>
    cases hl : lk k hp with
    | none => simp [hl] at h
    | some ob => simp only [hl] at h; simp only [hm _ _ hl]; exact h
end mono

def freeOp : Op → Bool
  | .move _ | .assign _ | .pick _ _ _ | .load _ _ | .nilCheck _ | .binOp _ _ _ _ _ | .unOp _ _ _ | .convert _ _ _ | .fieldAddr _ _ _ | .field _ _ _ | .indexAddr _ _ _ | .index _ _ _ | .extract _ _ | .slice _ _ _ _ none => true
  | .call c => match c.callee with | .builtin .len => true | .builtin .max => true | .builtin .min => true | _ => false
  | _ => false

theorem astep_mono {hp hp' : HP} (hm : ∀ h ob, lk h hp = some ob → lk h hp' = some ob) {op : Op} {ev : Operand → D} {n n' : Nat} {x : Prop × Res} (hf : freeOp op = true) (h : astep T op ev hp n = some x) : astep T op ev hp' n' = some x := by
  cases op <;> simp only [freeOp, Bool.false_eq_true] at hf <;> simp only [astep] at h ⊢ <;> try exact h
  case load => exact stepLoad_mono hm h
  case indexAddr => exact stepIndexAddr_mono hm h
  case slice t x lo hi mx =>
    cases mx with
    | none => exact stepSlice_mono hm h
    | some _ => simp at hf
  case call c =>
    obtain ⟨cal, as, tys⟩ := c
    cases cal with
    | builtin b =>
      simp only at h hf ⊢
      cases b
      case len =>
        split at h
        all_goals (first | (cases h; done) | skip)
        all_goals simp_all
        all_goals exact stepLen_mono hm h
      case max => split at h <;> simp_all
      case min => split at h <;> simp_all
      all_goals simp at hf
    | _ => simp at hf

theorem freeOk_of_astep (hT : TOk P T) {o : Oper} {ev : Operand → D} {rd : HP} {pre : Prop} {d : D} (hf : freeOp o.op = true) (hs : astep T o.op ev rd 0 = some (pre, { d := d })) (hpre : pre) : FreeOk P o ev rd d := fun hp nx hm =>
  ⟨⟨fun p hp => by simp at hp, rfl⟩, oprel_of_astep hT (astep_mono hm hf hs) hpre⟩

/-! ### The region -/
def depOn (o : Oper) (i : Nat) : Bool := o.after.toList.any (fun e => e.on == i && Region.binds .any e)
def maskC (o : Oper) (c : Nat) : List Oper → List D → Nat → List (Nat × D) → List (Nat × D)
  | [], _, _, base => base
  | oi :: l, ds, i, base => match oi.dst with
    | none => maskC o c l ds.tail (i + 1) base
    | some t => if depOn oi c then maskC o c l ds.tail (i + 1) base else (t, if depOn o i then ds.headD .any else .any) :: maskC o c l ds.tail (i + 1) base
abbrev maskSl (o : Oper) (l : List Oper) (ds : List D) (i : Nat) (base : List (Nat × D)) : List (Nat × D) := maskC o ds.length l ds i base

theorem lk_mask {o : Oper} {c : Nat} {base : List (Nat × D)} : ∀ (l : List Oper) (ds : List D) (k : Nat) (t : Nat) (d : D), lk t (maskC o c l ds k base) = some d →
    (∃ (i : Nat) (oi : Oper), l[i]? = some oi ∧ oi.dst = some t ∧ ((depOn o (k + i) = true ∧ d = ds.getD i .any) ∨ d = .any)) ∨ (lk t base = some d ∧ ∀ oi ∈ l, oi.dst = some t → depOn oi c = true)
  | [], ds, k, t, d, h => .inr ⟨h, fun oi ho => by simp at ho⟩
  | oi :: l, ds, k, t, d, h => by
    have next : lk t (maskC o c l ds.tail (k + 1) base) = some d → (oi.dst = some t → depOn oi c = true) → (∃ (i : Nat) (oi' : Oper), (oi :: l)[i]? = some oi' ∧ oi'.dst = some t ∧ ((depOn o (k + i) = true ∧ d = ds.getD i .any) ∨ d = .any)) ∨ (lk t base = some d ∧ ∀ oi' ∈ oi :: l, oi'.dst = some t → depOn oi' c = true) := fun h hne => by
      rcases lk_mask l ds.tail (k + 1) t d h with ⟨i, oi', h1, h2, h3⟩ | ⟨h1, h2⟩
      · refine .inl ⟨i + 1, oi', by simpa using h1, h2, ?_⟩
        rcases h3 with ⟨h3, h4⟩ | h3
        · exact .inl ⟨by rw [← h3]; congr 1; omega, by rw [h4]; cases ds <;> simp [List.getD]⟩
        · exact .inr h3
      · refine .inr ⟨h1, fun o' ho' => ?_⟩
        rcases List.mem_cons.1 ho' with rfl | ho'
        · exact hne
        · exact h2 o' ho'
    simp only [maskC] at h
    split at h
    · rename_i hd
      exact next h (by rw [hd]; simp)
    · rename_i t' hd
      split at h
      · rename_i hdc
        exact next h (fun _ => hdc)
      · rw [lk_cons] at h
        split at h
        · rename_i e
          subst e
          refine .inl ⟨0, oi, rfl, hd, ?_⟩
          cases hdep : depOn o k
          · simp [hdep] at h; exact .inr h.symm
          · simp [hdep] at h; exact .inl ⟨by simp, by rw [← h]; cases ds <;> simp [List.getD]⟩
        · rename_i e
          exact next h (fun h' => by rw [hd] at h'; simp only [Option.some.injEq] at h'; exact absurd h'.symm e)

structure It where
  o : Oper
  pin : Bool
  on : Bool
  r : Res
  early : Bool

def ItOk (P : Program) (ops : List Oper) (base : List (Nat × D)) (rd eh : HP) (done : List D) (hp : HP) (nx : Nat) (it : It) : Prop :=
  (match it.o.guard with | none => it.on = true | some (j, want) => depOn it.o j = true ∧ ((∃ b, guardD ops j (maskSl it.o ops done 0 base) = some b ∧ it.on = (b == want)) ∨ (guardU ops j (maskSl it.o ops done 0 base) = true ∧ it.on = false))) ∧
  (it.on = true → it.pin = true → OpRel P it.o (evD (maskSl it.o ops done 0 base)) hp nx it.r ∧ ∀ p ∈ it.r.upd, lk p.1 rd = none) ∧
  (it.on = true → it.pin = false → it.r = { d := it.r.d } ∧ FreeOk P it.o (evD (maskSl it.o ops done 0 base)) (if it.early then eh else rd) it.r.d) ∧
  (it.on = false → it.r = { d := .val undef })

def Tr (P : Program) (ops : List Oper) (base : List (Nat × D)) (rd eh : HP) : List It → List D → HP → Nat → Prop
  | [], _, _, _ => True
  | it :: l, done, hp, nx => ItOk P ops base rd eh done hp nx it ∧ Tr P ops base rd eh l (done ++ [it.r.d]) (it.r.hpOf hp) (nx + it.r.new.length)

def stAt : List It → Nat → HP → Nat → HP × Nat
  | it :: l, n + 1, hp, nx => stAt l n (it.r.hpOf hp) (nx + it.r.new.length)
  | _, _, hp, nx => (hp, nx)

section tr
variable {ops : List Oper} {base : List (Nat × D)} {rd eh : HP}
theorem tr_get : ∀ (its : List It) (done : List D) (hp : HP) (nx : Nat), Tr P ops base rd eh its done hp nx → ∀ (j : Nat) (it : It), its[j]? = some it → ItOk P ops base rd eh (done ++ (its.take j).map (·.r.d)) (stAt its j hp nx).1 (stAt its j hp nx).2 it
  | it :: l, done, hp, nx, h, 0, it', hj => by simp at hj; subst hj; simpa [stAt] using h.1
  | it :: l, done, hp, nx, h, j + 1, it', hj => by
    have := tr_get l _ _ _ h.2 j it' (by simpa using hj)
    simpa [stAt] using this
  | [], _, _, _, _, j, it', hj => by simp at hj

theorem stAt_le : ∀ (its : List It) (hp : HP) (nx n k : Nat), (∀ (i : Nat) (it : It), its[i]? = some it → n ≤ i → i < n + k → it.r = { d := it.r.d }) → stAt its (n + k) hp nx = stAt its n hp nx
  | [], hp, nx, n, k, _ => by cases n <;> cases k <;> simp [stAt]
  | it :: l, hp, nx, 0, 0, _ => rfl
  | it :: l, hp, nx, 0, k + 1, h => by
    have h0 := h 0 it rfl (Nat.le_refl _) (by omega)
    have e1 : it.r.hpOf hp = hp := by rw [h0]; rfl
    have e2 : it.r.new.length = 0 := by rw [h0]; rfl
    have := stAt_le l hp nx 0 k (fun i it' hi _ hlt => h (i + 1) it' (by simpa using hi) (by omega) (by omega))
    rw [show (0 : Nat) + (k + 1) = (0 + k) + 1 by omega]
    simp only [stAt, e1, e2, Nat.add_zero]
    rw [this]
    cases l <;> rfl
  | it :: l, hp, nx, n + 1, k, h => by
    rw [show n + 1 + k = (n + k) + 1 by omega]
    simp only [stAt]
    exact stAt_le l _ _ n k (fun i it' hi h1 h2 => h (i + 1) it' (by simpa using hi) (by omega) (by omega))

theorem lk_updHP_out : ∀ (u : List (Nat × Ob)) (hp : HP) (k : Nat), (∀ p ∈ u, p.1 ≠ k) → lk k (updHP u hp) = lk k hp
  | [], hp, k, _ => rfl
  | (h, o) :: u, hp, k, hn => by
    simp only [updHP]
    rw [lk_updHP_out u _ k (fun p hp => hn p (by simp [hp])), lk_hset, if_neg (fun e => hn (h, o) (by simp) e.symm)]

theorem stAt_rd : ∀ (its : List It) (done : List D) (hp : HP) (nx n : Nat), Tr P ops base rd eh its done hp nx → (∀ h ob, lk h rd = some ob → lk h hp = some ob ∧ h < nx) → ∀ h ob, lk h rd = some ob → lk h (stAt its n hp nx).1 = some ob ∧ h < (stAt its n hp nx).2
  | [], done, hp, nx, n, _, h0, h, ob, hl => by cases n <;> exact h0 h ob hl
  | it :: l, done, hp, nx, 0, _, h0, h, ob, hl => h0 h ob hl
  | it :: l, done, hp, nx, n + 1, ht, h0, h, ob, hl => by
    simp only [stAt]
    refine stAt_rd l _ _ _ n ht.2 (fun k o hk => ?_) h ob hl
    obtain ⟨h1, h2⟩ := h0 k o hk
    obtain ⟨_, hpin, hfree, hoff⟩ := ht.1
    refine ⟨?_, by omega⟩
    cases hon : it.on with
    | false => rw [hoff hon]; exact h1
    | true =>
      cases hp' : it.pin with
      | false => rw [(hfree hon hp').1]; exact h1
      | true =>
        obtain ⟨h3, h4⟩ := hpin hon hp'
        have hnew : lk k it.r.new = none := by
          cases hl : lk k it.r.new with
          | none => rfl
          | some o' => have := (h3.1.1 _ (lk_mem hl)).1; simp at this; omega
        unfold Res.hpOf
        rw [h3.1.2, lk_append, hnew, Option.none_or, lk_updHP_out _ _ _ (fun p hp e => by have := h4 p hp; rw [e, hk] at this; cases this)]
        exact h1
end tr

def backB (ops : List Oper) : Bool := (List.range ops.length).all fun j => match ops[j]? with | some o => o.after.toList.all fun e => !Region.binds .any e || decide (e.on < j) | none => true
def dstsApart : List Oper → Bool
  | [] => true
  | o :: l => (match o.dst with | none => true | some t => l.all (fun o' => o'.dst != some t)) && dstsApart l
def depStar (ops : List Oper) : Nat → Oper → Nat → Bool
  | 0, o, k => depOn o k
  | n + 1, o, k => depOn o k || o.after.toList.any (fun e => Region.binds .any e && (match ops[e.on]? with | some o' => depStar ops n o' k | none => false))
def chainB (ops : List Oper) : List Nat → Bool
  | i :: j :: l => decide (i < j) && (match ops[j]? with | some o => depStar ops 2 o i | none => false) && chainB ops (j :: l)
  | _ => true

theorem dstsApart_ne : ∀ (l : List Oper), dstsApart l = true → ∀ (i j : Nat) (oi oj : Oper) (t : Nat), l[i]? = some oi → l[j]? = some oj → oi.dst = some t → oj.dst = some t → i = j
  | [], _, i, j, oi, oj, t, h, _, _, _ => by simp at h
  | o :: l, hd, i, j, oi, oj, t, hi, hj, h1, h2 => by
    simp only [dstsApart, Bool.and_eq_true] at hd
    cases i with
    | zero =>
      cases j with
      | zero => rfl
      | succ j =>
        simp at hi hj
        subst hi
        rw [h1] at hd
        have := List.all_eq_true.1 hd.1 oj (List.mem_of_getElem? hj)
        simp [h2] at this
    | succ i =>
      cases j with
      | zero =>
        simp at hi hj
        subst hj
        rw [h2] at hd
        have := List.all_eq_true.1 hd.1 oi (List.mem_of_getElem? hi)
        simp [h1] at this
      | succ j =>
        have := dstsApart_ne l hd.2 i j oi oj t (by simpa using hi) (by simpa using hj) h1 h2
        omega

structure J (C : Ctx) (its : List It) (base : List (Nat × D)) (hp0 : HP) (nx0 n : Nat) (hv : Nat → Value) (listed : Array Bool) (a : Act) (w : World) : Prop where
  pins : ∀ (i : Nat) (it : It), its[i]? = some it → it.pin = true → (listed.getD i true = true ↔ i < n)
  closed : ∀ (i : Nat) (it : It), its[i]? = some it → listed.getD i true = true → ∀ k, depOn it.o k = true → listed.getD k true = true
  inv : HInv C.w0 C.S C.G hv (stAt its n hp0 nx0).1 w
  keys : ∀ h ob, lk h (stAt its n hp0 nx0).1 = some ob → h < (stAt its n hp0 nx0).2
  cm : C.m ≤ (stAt its n hp0 nx0).2
  pinned : ∀ h ob, lk h (stAt its n hp0 nx0).1 = some ob → h < C.m → hv h = C.hv0 h
  defers : a.defers = []
  size : a.tmps.size = C.N
  bas : ∀ t d, lk t base = some d → (∀ (i : Nat) (it : It), its[i]? = some it → it.o.dst = some t → listed.getD i true = false) → Rep (LOf hv (stAt its n hp0 nx0).1) w (FOf C.G hv (stAt its n hp0 nx0).1 w) d (a.tmps.getD t undef)
  got : ∀ (i : Nat) (it : It) (t : Nat), its[i]? = some it → it.o.dst = some t → listed.getD i true = true → Rep (LOf hv (stAt its n hp0 nx0).1) w (FOf C.G hv (stAt its n hp0 nx0).1 w) it.r.d (a.tmps.getD t undef)

def finSl : List It → List (Nat × D) → List (Nat × D)
  | [], sl => sl
  | it :: l, sl => finSl l (putSl it.o.dst it.r.d sl)
theorem lk_finSl : ∀ (its : List It) (sl : List (Nat × D)) (t : Nat) (d : D), lk t (finSl its sl) = some d → (∃ (i : Nat) (it : It), its[i]? = some it ∧ it.o.dst = some t ∧ d = it.r.d) ∨ (lk t sl = some d ∧ ∀ it ∈ its, it.o.dst ≠ some t)
  | [], sl, t, d, h => .inr ⟨h, fun it hi => by simp at hi⟩
  | it :: l, sl, t, d, h => by
    rcases lk_finSl l _ t d h with ⟨i, it', h1, h2⟩ | ⟨h1, h2⟩
    · exact .inl ⟨i + 1, it', by simpa using h1, h2⟩
    · cases hd : it.o.dst with
      | none =>
        rw [hd] at h1
        exact .inr ⟨h1, fun it' h' => by rcases List.mem_cons.1 h' with rfl | h'; · rw [hd]; simp
                                         · exact h2 it' h'⟩
      | some t' =>
        rw [hd] at h1
        simp only [putSl, lk_cons] at h1
        split at h1
        · rename_i e
          subst e
          cases h1
          exact .inl ⟨0, it, rfl, hd, rfl⟩
        · rename_i e
          exact .inr ⟨h1, fun it' h' => by
            rcases List.mem_cons.1 h' with rfl | h'
            · rw [hd]; simp only [ne_eq, Option.some.injEq]; exact fun h => e h.symm
            · exact h2 it' h'⟩

theorem put_other {a : Act} {dst : Option Tmp} {v : Value} {t : Nat} (h : dst ≠ some t) : (a.put dst v).tmps.getD t undef = a.tmps.getD t undef := by
  cases dst with
  | none => rfl
  | some t' =>
    have : t' ≠ t := fun e => h (by rw [e])
    simp [Act.put, Array.getD_eq_getD_getElem?, Array.getElem?_setIfInBounds, this]
theorem put_same {a : Act} {t : Nat} {v : Value} (h : t < a.tmps.size) : (a.put (some t) v).tmps.getD t undef = v := by
  simp [Act.put, Array.getD_eq_getD_getElem?, Array.getElem?_setIfInBounds, h]
theorem put_size {a : Act} {dst : Option Tmp} {v : Value} : (a.put dst v).tmps.size = a.tmps.size := by cases dst <;> simp [Act.put]
theorem put_defers {a : Act} {dst : Option Tmp} {v : Value} : (a.put dst v).defers = a.defers := by cases dst <;> rfl

theorem listed_set {listed : Array Bool} {i j : Nat} (h : i ≠ j) : (listed.setIfInBounds j true).getD i true = listed.getD i true := by
  simp [Array.getD_eq_getD_getElem?, Array.getElem?_setIfInBounds, Ne.symm h]
theorem listed_set_same {listed : Array Bool} {j : Nat} : (listed.setIfInBounds j true).getD j true = true := by
  rw [Array.getD_eq_getD_getElem?, Array.getElem?_setIfInBounds]
  by_cases h : j < listed.size <;> simp [h]

theorem J.step {its : List It} {base : List (Nat × D)} {hp0 : HP} {nx0 n : Nat} {hv : Nat → Value} {listed : Array Bool} {a : Act} {w : World} (hJ : J C its base hp0 nx0 n hv listed a w) {j : Nat} {it : It} (hj : its[j]? = some it) (hun : listed.getD j true = false)
    (hap : dstsApart (its.map (·.o)) = true) (hdN : ∀ t, it.o.dst = some t → t < C.N) (hlow : it.pin = true → n ≤ j ∧ ∀ i it', its[i]? = some it' → it'.pin = true → i < j → i < n) (hquiet : ∀ (i : Nat) (it : It), its[i]? = some it → it.pin = false → it.r = { d := it.r.d })
    (hnk : NewKeys (stAt its n hp0 nx0).2 it.r.new) (hdead : it.r.dead = none) (hdl : ∀ k, depOn it.o k = true → listed.getD k true = true) {v : Value} {hv' : Nat → Value} {w' : World}
    (hP : Post C.w0 C.S C.G hv (stAt its n hp0 nx0).1 w it.r v hv' w') : ∃ n', (stAt its n' hp0 nx0).1 = it.r.hpOf (stAt its n hp0 nx0).1 ∧ J C its base hp0 nx0 n' hv' (listed.setIfInBounds j true) (a.put it.o.dst v) w' := by
  -- the state behind it
  obtain ⟨n', hn', hpins⟩ : ∃ n', stAt its n' hp0 nx0 = (it.r.hpOf (stAt its n hp0 nx0).1, (stAt its n hp0 nx0).2 + it.r.new.length) ∧ ∀ (i : Nat) (it' : It), its[i]? = some it' → it'.pin = true → ((listed.setIfInBounds j true).getD i true = true ↔ i < n') := by
    cases hpin : it.pin with
    | false =>
      have hq := hquiet j it hj hpin
      refine ⟨n, by rw [hq]; rfl, fun i it' hi hp => ?_⟩
      have hne : i ≠ j := fun e => by subst e; rw [hj] at hi; cases hi; rw [hpin] at hp; cases hp
      rw [listed_set hne]
      exact hJ.pins i it' hi hp
    | true =>
      obtain ⟨hnj, hall⟩ := hlow hpin
      have e1 : stAt its j hp0 nx0 = stAt its n hp0 nx0 := by
        have := stAt_le its hp0 nx0 n (j - n) (fun i it' hi h1 h2 => by
          refine hquiet i it' hi ?_
          cases h : it'.pin with
          | false => rfl
          | true => have := hall i it' hi h (by omega); omega)
        rwa [show n + (j - n) = j by omega] at this
      have e2 : ∀ (its : List It) (hp : HP) (nx j : Nat) (it : It), its[j]? = some it → stAt its (j + 1) hp nx = (it.r.hpOf (stAt its j hp nx).1, (stAt its j hp nx).2 + it.r.new.length) := by
        intro its
        induction its with
        | nil => intro hp nx j it h; simp at h
        | cons x l ih =>
          intro hp nx j it h
          cases j with
          | zero => simp at h; subst h; cases l <;> rfl
          | succ j => exact ih _ _ j it (by simpa using h)
      refine ⟨j + 1, by rw [e2 its hp0 nx0 j it hj, e1], fun i it' hi hp => ?_⟩
      by_cases hne : i = j
      · subst hne; rw [listed_set_same]; simp
      · rw [listed_set hne, hJ.pins i it' hi hp]
        constructor
        · intro h; omega
        · intro h
          exact hall i it' hi hp (by omega)
  have hkills : ∀ d, it.r.kills d = d := fun d => by simp [Res.kills, hdead]
  have hmono : ∀ k, listed.getD k true = true → (listed.setIfInBounds j true).getD k true = true := fun k hk => by
    by_cases e : k = j
    · subst e; exact listed_set_same
    · rw [listed_set e]; exact hk
  refine ⟨n', by rw [hn'], ⟨hpins, fun i it' hi hls k hk => ?_, by rw [hn']; exact hP.inv, by rw [hn']; exact keys_app hJ.keys hnk, by rw [hn']; exact Nat.le_trans hJ.cm (Nat.le_add_right _ _), fun h ob hl hlt => ?_, by rw [put_defers]; exact hJ.defers, by rw [put_size]; exact hJ.size, fun t d hl hne => ?_, fun i it' t hi hd hls => ?_⟩⟩
  · by_cases e : i = j
    · subst e; rw [hj] at hi; cases hi; exact hmono k (hdl k hk)
    · rw [listed_set e] at hls; exact hmono k (hJ.closed i it' hi hls k hk)
  · rw [hn'] at hl
    obtain ⟨o, ho⟩ := old_key hnk hl (Nat.lt_of_lt_of_le hlt hJ.cm)
    rw [hP.same h o ho (by rw [hdead]; simp)]
    exact hJ.pinned h o ho hlt
  · have hnj : it.o.dst ≠ some t := fun e => by
      have := hne j it hj e
      rw [listed_set_same] at this; cases this
    rw [hn', put_other hnj]
    have := hP.old d _ (hJ.bas t d hl (fun i it' hi hd => by
      have := hne i it' hi hd
      have hij : i ≠ j := fun e => by subst e; rw [listed_set_same] at this; cases this
      rwa [listed_set hij] at this))
    rwa [hkills] at this
  · rw [hn']
    by_cases hij : i = j
    · subst hij
      rw [hj] at hi; cases hi
      rw [hd, put_same (by rw [hJ.size]; exact hdN t hd)]
      exact hP.rep
    · have hnd : it.o.dst ≠ some t := fun e => hij (dstsApart_ne _ hap i j it'.o it.o t (by simp [hi]) (by simp [hj]) hd e)
      rw [put_other hnd]
      rw [listed_set hij] at hls
      have := hP.old _ _ (hJ.got i it' t hi hd hls)
      rwa [hkills] at this

theorem count_set {l : List Bool} {j : Nat} (h : l[j]? = some false) : (l.set j true).count false + 1 = l.count false := by
  induction l generalizing j with
  | nil => simp at h
  | cons x l ih =>
    cases j with
    | zero => simp at h; subst h; simp
    | succ j =>
      have := ih (j := j) (by simpa using h)
      cases x <;> simp [List.count_cons] <;> omega

structure DrawOk (N : Nat) (its : List It) : Prop where
  back : backB (its.map (·.o)) = true
  apart : dstsApart (its.map (·.o)) = true
  dsts : dstsOk N (its.map (·.o)) = true
  chain : ∀ (i j : Nat) (it it' : It), its[i]? = some it → its[j]? = some it' → it.pin = true → it'.pin = true → i < j → ∃ (k : Nat) (ik : It), its[k]? = some ik ∧ ik.pin = true ∧ i ≤ k ∧ k < j ∧ depStar (its.map (·.o)) 2 it'.o k = true
  early : ∀ (j : Nat) (it : It), its[j]? = some it → it.early = true → ∀ (i : Nat) (it' : It), its[i]? = some it' → it'.pin = true → depStar (its.map (·.o)) 2 it'.o j = true

theorem any_of_J {P : Program} (hP : C.P = P) {its : List It} {base : List (Nat × D)} {rd eh hp0 : HP} {nx0 : Nat} (hD : DrawOk C.N its) (hT : Tr P (its.map (·.o)) base rd eh its [] hp0 nx0) (hrd : ∀ h ob, lk h rd = some ob → lk h hp0 = some ob ∧ h < nx0) (heh : ∀ h ob, lk h eh = some ob → lk h hp0 = some ob) {Q : Exit → Act → World → Prop}
    (hQ : ∀ a w, Inv C ⟨finSl its base, (stAt its its.length hp0 nx0).1, (stAt its its.length hp0 nx0).2⟩ a w → Q .normal a w) : ∀ (fuel : Nat) (listed : Array Bool) (a : Act) (w : World) (n : Nat) (hv : Nat → Value), listed.size = its.length → listed.toList.count false ≤ fuel →
    J C its base hp0 nx0 n hv listed a w → wpAny P .any (its.map (·.o)).toArray Q fuel listed a w := by
  have hops : ∀ j : Nat, (its.map (fun i : It => i.o)).toArray[j]? = (its[j]?).map (fun i : It => i.o) := fun j => by simp
  have hquiet : ∀ (i : Nat) (it : It), its[i]? = some it → it.pin = false → it.r = { d := it.r.d } := fun i it hi hp => by
    obtain ⟨_, _, h3, h4⟩ := tr_get its _ _ _ hT i it hi
    cases hon : it.on with
    | true => exact (h3 hon hp).1
    | false => rw [h4 hon]
  -- all is listed: the end
  have fin : ∀ (listed : Array Bool) (a : Act) (w : World) (n : Nat) (hv : Nat → Value), listed.size = its.length → J C its base hp0 nx0 n hv listed a w → (∀ i, i < its.length → listed.getD i true = true) → Q .normal a w := fun listed a w n hv hsz hJ hall => by
    have e : stAt its its.length hp0 nx0 = stAt its n hp0 nx0 := by
      by_cases hn : n ≤ its.length
      · have := stAt_le its hp0 nx0 n (its.length - n) (fun i it hi h1 h2 => by
          refine hquiet i it hi ?_
          cases h : it.pin with
          | false => rfl
          | true => have := (hJ.pins i it hi h).1 (hall i (List.getElem?_eq_some_iff.1 hi).1); omega)
        rwa [show n + (its.length - n) = its.length by omega] at this
      · have := stAt_le its hp0 nx0 its.length (n - its.length) (fun i it hi h1 h2 => by have := (List.getElem?_eq_some_iff.1 hi).1; omega)
        rw [show its.length + (n - its.length) = n by omega] at this
        exact this.symm
    refine hQ a w ⟨hv, by rw [e]; exact hJ.inv, by rw [e]; exact hJ.keys, by rw [e]; exact hJ.cm, by rw [e]; exact hJ.pinned, hJ.defers, hJ.size, fun t d hl => ?_⟩
    rw [e]
    rcases lk_finSl its base t d hl with ⟨i, it, h1, h2, h3⟩ | ⟨h1, h2⟩
    · rw [h3]; exact hJ.got i it t h1 h2 (hall i (List.getElem?_eq_some_iff.1 h1).1)
    · exact hJ.bas t d h1 (fun i it hi hd => absurd hd (h2 it (List.mem_of_getElem? hi)))
  -- nothing is ready: all is listed
  have done : ∀ (listed : Array Bool), Region.ready .any (its.map (·.o)).toArray listed = [] → listed.size = its.length → ∀ i, i < its.length → listed.getD i true = true := fun listed hr hsz i => by
    induction i using Nat.strongRecOn with
    | _ i ih =>
      intro hi
      cases hl : listed.getD i true with
      | true => rfl
      | false =>
        exfalso
        have hit : ∃ it, its[i]? = some it := ⟨_, List.getElem?_eq_getElem hi⟩
        obtain ⟨it, hit⟩ := hit
        have : i ∈ Region.ready .any (its.map (·.o)).toArray listed := mem_ready.2 ⟨hl, it.o, by rw [hops, hit]; rfl, fun e he hb => by
          have hb1 := List.all_eq_true.1 hD.back i (by simpa using hi)
          simp only [List.getElem?_map, hit, Option.map_some] at hb1
          have := List.all_eq_true.1 hb1 e (by simpa using he)
          simp only [hb, Bool.not_true, Bool.false_or, decide_eq_true_eq] at this
          have h2 := ih e.on this (by omega)
          rw [Array.getD_eq_getD_getElem?, Array.getElem?_eq_getElem (by omega)] at h2 ⊢
          simpa using h2⟩
        rw [hr] at this
        cases this
  intro fuel
  induction fuel with
  | zero =>
    intro listed a w n hv hsz hc hJ
    have hall : ∀ i, i < its.length → listed.getD i true = true := fun i hi => by
      have h0 : listed.toList.count false = 0 := by omega
      have hi' : i < listed.size := by omega
      rw [Array.getD_eq_getD_getElem?, Array.getElem?_eq_getElem hi']
      have : listed[i] ∈ listed.toList := by simp
      cases hb : listed[i] with
      | true => rfl
      | false => rw [hb] at this; exact absurd this (List.count_eq_zero.1 h0)
    refine ⟨?_, fin listed a w n hv hsz hJ hall⟩
    cases hr : Region.ready .any (its.map (·.o)).toArray listed with
    | nil => rfl
    | cons j l =>
      have hm : j ∈ Region.ready .any (its.map (·.o)).toArray listed := by rw [hr]; simp
      obtain ⟨h1, o, h2, _⟩ := mem_ready.1 hm
      have hj : j < its.length := by have := (Array.getElem?_eq_some_iff.1 h2).1; simpa using this
      rw [hall j hj] at h1
      cases h1
  | succ fuel ih =>
    intro listed a w n hv hsz hc hJ
    refine ⟨fun hr => fin listed a w n hv hsz hJ (done listed hr hsz), fun j hj => ?_⟩
    obtain ⟨hun, o, ho, hdeps⟩ := mem_ready.1 hj
    rw [hops] at ho
    obtain ⟨it, hit, rfl⟩ := Option.map_eq_some_iff.1 ho
    have hjl := (List.getElem?_eq_some_iff.1 hit).1
    obtain ⟨hguard, hpin, hfree, hoff⟩ := tr_get its _ _ _ hT j it hit
    simp only [List.nil_append] at hguard hpin hfree
    have hdep : ∀ i, depOn it.o i = true → listed.getD i true = true ∧ i < j := fun i hi => by
      obtain ⟨e, he, hb⟩ := List.any_eq_true.1 hi
      have he : e ∈ it.o.after := by simpa using he
      simp only [Bool.and_eq_true, beq_iff_eq] at hb
      have h1 := hdeps e he hb.2
      rw [hb.1] at h1
      have hb1 := List.all_eq_true.1 hD.back j (by simpa using hjl)
      simp only [List.getElem?_map, hit, Option.map_some] at hb1
      have := List.all_eq_true.1 hb1 e (by simpa using he)
      simp only [hb.2, Bool.not_true, Bool.false_or, decide_eq_true_eq, hb.1] at this
      refine ⟨?_, this⟩
      rw [Array.getD_eq_getD_getElem?, Array.getElem?_eq_getElem (by omega)] at h1 ⊢
      simpa using h1
    have hstar : ∀ (m : Nat) (o : Oper) (k : Nat), (∀ k, depOn o k = true → listed.getD k true = true) → depStar (its.map (·.o)) m o k = true → listed.getD k true = true := by
      intro m
      induction m with
      | zero => intro o k ho hk; exact ho k hk
      | succ m ihm =>
        intro o k ho hk
        simp only [depStar, Bool.or_eq_true] at hk
        rcases hk with hk | hk
        · exact ho k hk
        · obtain ⟨e, he, hk⟩ := List.any_eq_true.1 hk
          simp only [Bool.and_eq_true] at hk
          obtain ⟨hb, hk⟩ := hk
          have hl := ho e.on (List.any_eq_true.2 ⟨e, he, by simp [hb]⟩)
          rw [List.getElem?_map] at hk
          cases hi : its[e.on]? with
          | none => simp [hi] at hk
          | some it' =>
            simp only [hi, Option.map_some] at hk
            exact ihm it'.o k (hJ.closed e.on it' hi hl) hk
    have hdN : ∀ t, it.o.dst = some t → t < C.N := fun t ht => by
      have := List.all_eq_true.1 hD.dsts it.o (List.mem_map.2 ⟨it, List.mem_of_getElem? hit, rfl⟩)
      simpa [ht] using this
    have hlow : it.pin = true → n ≤ j ∧ ∀ i it', its[i]? = some it' → it'.pin = true → i < j → i < n := fun hp => by
      refine ⟨?_, fun i it' hi hp' hlt => ?_⟩
      · rcases Nat.lt_or_ge j n with h | h
        · have := (hJ.pins j it hit hp).2 h
          rw [hun] at this; cases this
        · exact h
      · obtain ⟨k, ik, hk, hkp, h1, h2, h3⟩ := hD.chain i j it' it hi hit hp' hp hlt
        have := (hJ.pins k ik hk hkp).1 (hstar 2 it.o k (fun k hk => (hdep k hk).1) h3)
        omega
    have hcount : (listed.setIfInBounds j true).toList.count false ≤ fuel := by
      have h1 : listed.toList[j]? = some false := by
        rw [Array.getD_eq_getD_getElem?, Array.getElem?_eq_getElem (by omega)] at hun
        simp at hun
        simp [hun, show j < listed.size by omega]
      have := count_set h1
      rw [Array.toList_setIfInBounds]
      omega
    have hsz' : (listed.setIfInBounds j true).size = its.length := by simpa using hsz
    -- what it may look at
    have hS : SInv C.N (LOf hv (stAt its n hp0 nx0).1) w (FOf C.G hv (stAt its n hp0 nx0).1 w) (maskSl it.o (its.map (·.o)) ((its.take j).map (·.r.d)) 0 base) a := by
      refine ⟨hJ.defers, hJ.size, fun t d hl => ?_⟩
      rcases lk_mask _ _ _ _ _ hl with ⟨i, oi, h1, h2, h3⟩ | ⟨h1, h2⟩
      · rcases h3 with ⟨h3, h4⟩ | h3
        · rw [Nat.zero_add] at h3
          obtain ⟨hls, hlt⟩ := hdep i h3
          rw [List.getElem?_map] at h1
          obtain ⟨ii, hii, rfl⟩ := Option.map_eq_some_iff.1 h1
          have : d = ii.r.d := by
            rw [h4]
            simp [List.getD, List.getElem?_map, List.getElem?_take, hlt, hii]
          rw [this]
          exact hJ.got i ii t hii h2 hls
        · rw [h3]; exact (RepP.any _ : RepP w _ .any _)
      · refine hJ.bas t d h1 (fun i it' hi' hd' => ?_)
        have hdep' := h2 it'.o (List.mem_map.2 ⟨it', List.mem_of_getElem? hi', rfl⟩) hd'
        have hlen : ((its.take j).map (·.r.d)).length = j := by simp; omega
        rw [hlen] at hdep'
        cases hb : listed.getD i true with
        | false => rfl
        | true => have := hJ.closed i it' hi' hb j hdep'; rw [hun] at this; cases this
    have hev := evD_ok hS
    -- it is carried out: its state
    have next : ∀ v hv' w', (NewKeys (stAt its n hp0 nx0).2 it.r.new) → it.r.dead = none → Post C.w0 C.S C.G hv (stAt its n hp0 nx0).1 w it.r v hv' w' → wpAny P .any (its.map (·.o)).toArray Q fuel (listed.setIfInBounds j true) (a.put it.o.dst v) w' := fun v hv' w' hnk hdead hP => by
      obtain ⟨n', _, hJ'⟩ := hJ.step hit hun hD.apart hdN hlow hquiet hnk hdead (fun k hk => (hdep k hk).1) hP
      exact ih _ _ _ n' hv' hsz' hcount hJ'
    unfold wpOp
    rw [hops, hit]
    simp only [Option.map_some]
    have hwant : Region.wanted it.o (yielded (its.map (·.o)).toArray a.tmps) = it.on := by
      unfold Region.wanted
      split at hguard
      · rename_i hg; rw [hg]; simp [hguard]
      · rename_i g want hg
        rw [hg]
        simp only
        have hN : ∀ t, ((its.map (fun i : It => i.o))[g]?).bind (·.dst) = some t → t < C.N := fun t ht => by
          rw [List.getElem?_map] at ht
          cases hgi : its[g]? with
          | none => simp [hgi] at ht
          | some ig =>
            have := List.all_eq_true.1 hD.dsts ig.o (List.mem_map.2 ⟨ig, List.mem_of_getElem? hgi, rfl⟩)
            simp [hgi] at ht
            simpa [ht] using this
        rcases hguard.2 with ⟨b, hb2, hb3⟩ | ⟨hb2, hb3⟩
        · have hy := guardD_ok hb2 hS hN
          rw [hy, hb3]
          cases b <;> cases want <;> rfl
        · have hy := guardU_ok hb2 hS hN
          rw [hy, hb3]
          rfl
    rw [hwant]
    cases hon : it.on with
    | false =>
      simp only [Bool.false_eq_true, if_false]
      have hr := hoff hon
      refine next undef hv w ?_ (by rw [hr]) ?_
      · rw [hr]; intro p hp; simp at hp
      · rw [hr]; exact post_same hJ.inv (RepP.val _ : RepP w _ (.val undef) _)
    | true =>
      simp only [if_true]
      refine .inl ?_
      cases hp : it.pin with
      | true =>
        obtain ⟨hrel, _⟩ := hpin hon hp
        have e1 : stAt its j hp0 nx0 = stAt its n hp0 nx0 := by
          obtain ⟨hnj, hall⟩ := hlow hp
          have := stAt_le its hp0 nx0 n (j - n) (fun i it' hi h1 h2 => by
            refine hquiet i it' hi ?_
            cases h : it'.pin with
            | false => rfl
            | true => have := hall i it' hi h (by omega); omega)
          rwa [show n + (j - n) = j by omega] at this
        rw [e1] at hrel
        exact hrel.2 C.w0 C.S C.G hv a w hJ.inv hJ.keys hev _ _ (fun v hv' w' hP' => next v hv' w' hrel.1.1 hrel.1.2 hP')
      | false =>
        obtain ⟨hq, hfr⟩ := hfree hon hp
        have hrel := hfr (stAt its n hp0 nx0).1 (stAt its n hp0 nx0).2 (fun h ob hl => by
          cases he : it.early with
          | false =>
            simp only [he, Bool.false_eq_true, if_false] at hl
            exact (stAt_rd its [] hp0 nx0 n hT hrd h ob hl).1
          | true =>
            simp only [he, if_true] at hl
            have e0 : stAt its n hp0 nx0 = (hp0, nx0) := by
              have := stAt_le its hp0 nx0 0 n (fun i it' hi _ hlt => hquiet i it' hi (by
                cases h : it'.pin with
                | false => rfl
                | true =>
                  exfalso
                  have hl1 := (hJ.pins i it' hi h).2 (by omega)
                  have := hstar 2 it'.o j (hJ.closed i it' hi hl1) (hD.early j it hit he i it' hi h)
                  rw [hun] at this; cases this))
              rw [Nat.zero_add] at this
              rw [this]; cases its <;> rfl
            rw [e0]; exact heh h ob hl)
        rw [← hq] at hrel
        exact hrel.2 C.w0 C.S C.G hv a w hJ.inv hJ.keys hev _ _ (fun v hv' w' hP' => next v hv' w' hrel.1.1 hrel.1.2 hP')

/-! ### The rules -/
theorem chain_lt {ops : List Oper} : ∀ (l : List Nat) (a : Nat), chainB ops (a :: l) = true → ∀ x ∈ l, a < x
  | [], _, _, x, h => by simp at h
  | b :: l, a, h, x, hx => by
    simp only [chainB, Bool.and_eq_true, decide_eq_true_eq] at h
    rcases List.mem_cons.1 hx with rfl | hx
    · exact h.1.1
    · exact Nat.lt_trans h.1.1 (chain_lt l b h.2 x hx)
theorem chain_ok {ops : List Oper} : ∀ (l : List Nat), chainB ops l = true → ∀ (i j : Nat) (oj : Oper), i ∈ l → j ∈ l → i < j → ops[j]? = some oj → ∃ k ∈ l, i ≤ k ∧ k < j ∧ depStar ops 2 oj k = true
  | [], _, i, j, oj, hi, _, _, _ => by simp at hi
  | [a], _, i, j, oj, hi, hj, hlt, _ => by simp at hi hj; omega
  | a :: b :: l, h, i, j, oj, hi, hj, hlt, ho => by
    have hlt' := chain_lt _ _ h
    simp only [chainB, Bool.and_eq_true, decide_eq_true_eq] at h
    have hbl := chain_lt _ _ h.2
    rcases List.mem_cons.1 hj with rfl | hj
    · rcases List.mem_cons.1 hi with rfl | hi
      · omega
      · have := hlt' i hi; omega
    · rcases List.mem_cons.1 hj with rfl | hj'
      · rcases List.mem_cons.1 hi with rfl | hi
        · refine ⟨i, by simp, Nat.le_refl _, hlt, ?_⟩
          rw [ho] at h
          exact h.1.2
        · rcases List.mem_cons.1 hi with rfl | hi
          · omega
          · have := hbl i hi; omega
      · rcases List.mem_cons.1 hi with rfl | hi
        · obtain ⟨k, h1, h2, h3, h4⟩ := chain_ok (b :: l) h.2 b j oj (by simp) (by simp [hj']) (hbl j hj') ho
          exact ⟨k, by simp [h1], by omega, h3, h4⟩
        · obtain ⟨k, h1, h2, h3, h4⟩ := chain_ok (b :: l) h.2 i j oj hi (by simp [hj']) hlt ho
          exact ⟨k, by simp [h1], h2, h3, h4⟩

def rdOf (keys : List Nat) (hp : HP) : HP := hp.filter (fun p => keys.contains p.1)
theorem lk_rdOf {keys : List Nat} : ∀ {hp : HP} {h : Nat} {ob : Ob}, lk h (rdOf keys hp) = some ob → lk h hp = some ob
  | (k, o) :: l, h, ob, hl => by
    unfold rdOf at hl
    rw [List.filter_cons] at hl
    split at hl
    · rw [lk_cons] at hl ⊢
      split at hl
      · rename_i e; rw [if_pos e]; exact hl
      · rename_i e; rw [if_neg e]; exact lk_rdOf hl
    · rename_i hn
      have h1 := lk_rdOf (hp := l) hl
      rw [lk_cons]
      split
      · rename_i e
        exfalso
        have h2 := lk_mem hl
        have := (List.mem_filter.1 h2).2
        simp only at this hn
        rw [e] at this
        exact hn this
      · exact h1
  | [], h, ob, hl => by simp [rdOf, lk] at hl

def earB (ops : List Oper) (pins : List Nat) (i : Nat) : Bool := pins.all fun p => match ops[p]? with | some o => depStar ops 2 o i | none => true
def DReg (P : Program) (ops : List Oper) (base : List (Nat × D)) (rd eh : HP) (pins : List Nat) (i : Nat) (l : List Oper) (done : List D) (hp : HP) (nx : Nat) (sl : List (Nat × D)) (K : St → Prop) : Prop :=
  ∃ its : List It, its.map (·.o) = l ∧ Tr P ops base rd eh its done hp nx ∧ (∀ (k : Nat) (it : It), its[k]? = some it → it.pin = pins.contains (i + k) ∧ (it.early = true → earB ops pins (i + k) = true)) ∧ K ⟨finSl its sl, (stAt its its.length hp nx).1, (stAt its its.length hp nx).2⟩

section rules
variable {ops : List Oper} {base sl : List (Nat × D)} {rd eh hp : HP} {pins : List Nat} {i nx : Nat} {l : List Oper} {done : List D} {K : St → Prop} {o : Oper}

theorem dreg_nil (h : K ⟨sl, hp, nx⟩) : DReg P ops base rd eh pins i [] done hp nx sl K := ⟨[], rfl, trivial, fun k it hk => by simp at hk, h⟩
theorem dreg_cons {it : It} (hpin : it.pin = pins.contains i ∧ (it.early = true → earB ops pins i = true)) (hok : ItOk P ops base rd eh done hp nx it) (h : DReg P ops base rd eh pins (i + 1) l (done ++ [it.r.d]) (it.r.hpOf hp) (nx + it.r.new.length) (putSl it.o.dst it.r.d sl) K) : DReg P ops base rd eh pins i (it.o :: l) done hp nx sl K := by
  obtain ⟨its, h1, h2, h3, h4⟩ := h
  refine ⟨it :: its, by simp [h1], ⟨hok, h2⟩, fun k it' hk => ?_, h4⟩
  cases k with
  | zero => simp at hk; subst hk; simpa using hpin
  | succ k => rw [show i + (k + 1) = i + 1 + k by omega]; exact h3 k it' (by simpa using hk)

theorem dreg_free (hT : TOk P T) {dst : Option Tmp} {op : Op} {ty : TypeId} {pos : String} {af : Array Edge} {pre : Prop} {d : D} {done' : List D} {sl' : List (Nat × D)} (hpin : pins.contains i = false) (hf : freeOp op = true)
    (hs : astep T op (evD (maskSl { dst := dst, op := op, type := ty, pos := pos, after := af, guard := none } ops done 0 base)) rd 0 = some (pre, { d := d })) (hpre : pre) (hdn : done ++ [d] = done') (hsl : putSl dst d sl = sl')
    (h : DReg P ops base rd eh pins (i + 1) l done' hp nx sl' K) : DReg P ops base rd eh pins i ({ dst := dst, op := op, type := ty, pos := pos, after := af, guard := none } :: l) done hp nx sl K := by
  subst hdn; subst hsl
  refine dreg_cons (it := ⟨_, false, true, { d := d }, false⟩) ⟨hpin.symm, fun h => Bool.noConfusion h⟩ ⟨rfl, fun _ h => by simp at h, fun _ _ => ⟨rfl, freeOk_of_astep hT hf hs hpre⟩, fun h => by simp at h⟩ h

theorem dreg_gfree (hT : TOk P T) {dst : Option Tmp} {op : Op} {ty : TypeId} {pos : String} {af : Array Edge} {g : Nat} {want b : Bool} {d : D} {done' : List D} {sl' : List (Nat × D)} (hpin : pins.contains i = false) (hf : freeOp op = true)
    (hdep : depOn { dst := dst, op := op, type := ty, pos := pos, after := af, guard := some (g, want) } g = true) (hg : guardD ops g (maskSl { dst := dst, op := op, type := ty, pos := pos, after := af, guard := some (g, want) } ops done 0 base) = some b)
    (hs : b = want → ∃ pre, astep T op (evD (maskSl { dst := dst, op := op, type := ty, pos := pos, after := af, guard := some (g, want) } ops done 0 base)) rd 0 = some (pre, { d := d }) ∧ pre) (hdn : done ++ [gd b want d] = done') (hsl : putSl dst (gd b want d) sl = sl')
    (h : DReg P ops base rd eh pins (i + 1) l done' hp nx sl' K) : DReg P ops base rd eh pins i ({ dst := dst, op := op, type := ty, pos := pos, after := af, guard := some (g, want) } :: l) done hp nx sl K := by
  subst hdn; subst hsl
  by_cases hb : b = want
  · subst hb
    obtain ⟨pre, h1, h2⟩ := hs rfl
    have e : gd b b d = d := by simp [gd]
    rw [e] at h
    exact dreg_cons (it := ⟨_, false, true, { d := d }, false⟩) ⟨hpin.symm, fun h => Bool.noConfusion h⟩ ⟨⟨hdep, .inl ⟨b, hg, by simp⟩⟩, fun _ h => by simp at h, fun _ _ => ⟨rfl, freeOk_of_astep hT hf h1 h2⟩, fun h => by simp at h⟩ h
  · have e : gd b want d = .val undef := by simp [gd, hb]
    rw [e] at h
    refine dreg_cons (it := ⟨_, false, false, { d := .val undef }, false⟩) ⟨hpin.symm, fun h => Bool.noConfusion h⟩ ⟨⟨hdep, .inl ⟨b, hg, ?_⟩⟩, fun h => by simp at h, fun h => by simp at h, fun _ => rfl⟩ h
    cases b <;> cases want <;> simp_all

theorem dreg_pin {dst : Option Tmp} {op : Op} {ty : TypeId} {pos : String} {af : Array Edge} {r : Res} {done' : List D} {sl' : List (Nat × D)} {hp' : HP} {nx' : Nat} (hpin : pins.contains i = true)
    (hr : OpRel P { dst := dst, op := op, type := ty, pos := pos, after := af, guard := none } (evD (maskSl { dst := dst, op := op, type := ty, pos := pos, after := af, guard := none } ops done 0 base)) hp nx r) (hu : ∀ p ∈ r.upd, lk p.1 rd = none)
    (hdn : done ++ [r.d] = done') (hhp : r.hpOf hp = hp') (hnx : nx + r.new.length = nx') (hsl : putSl dst r.d sl = sl')
    (h : DReg P ops base rd eh pins (i + 1) l done' hp' nx' sl' K) : DReg P ops base rd eh pins i ({ dst := dst, op := op, type := ty, pos := pos, after := af, guard := none } :: l) done hp nx sl K := by
  subst hdn; subst hsl; subst hhp; subst hnx
  exact dreg_cons (it := ⟨_, true, true, r, false⟩) ⟨hpin.symm, fun h => Bool.noConfusion h⟩ ⟨rfl, fun _ _ => ⟨hr, hu⟩, fun _ h => by simp at h, fun h => by simp at h⟩ h

theorem dreg_gpin {dst : Option Tmp} {op : Op} {ty : TypeId} {pos : String} {af : Array Edge} {g : Nat} {want b : Bool} {d : D} {done' : List D} {sl' : List (Nat × D)} (hpin : pins.contains i = true)
    (hdep : depOn { dst := dst, op := op, type := ty, pos := pos, after := af, guard := some (g, want) } g = true) (hg : guardD ops g (maskSl { dst := dst, op := op, type := ty, pos := pos, after := af, guard := some (g, want) } ops done 0 base) = some b)
    (hr : b = want → ∃ r, OpRel P { dst := dst, op := op, type := ty, pos := pos, after := af, guard := some (g, want) } (evD (maskSl { dst := dst, op := op, type := ty, pos := pos, after := af, guard := some (g, want) } ops done 0 base)) hp nx r ∧ r.d = d ∧ r.new = [] ∧ r.upd = [])
    (hdn : done ++ [gd b want d] = done') (hsl : putSl dst (gd b want d) sl = sl')
    (h : DReg P ops base rd eh pins (i + 1) l done' hp nx sl' K) : DReg P ops base rd eh pins i ({ dst := dst, op := op, type := ty, pos := pos, after := af, guard := some (g, want) } :: l) done hp nx sl K := by
  subst hdn; subst hsl
  by_cases hb : b = want
  · subst hb
    obtain ⟨r, h1, h2, h3, h4⟩ := hr rfl
    have e : gd b b d = d := by simp [gd]
    rw [e] at h
    have e2 : r = { d := d } := by
      have hd := h1.1.2
      cases r
      simp_all
    subst e2
    exact dreg_cons (it := ⟨_, true, true, { d := d }, false⟩) ⟨hpin.symm, fun h => Bool.noConfusion h⟩ ⟨⟨hdep, .inl ⟨b, hg, by simp⟩⟩, fun _ _ => ⟨h1, fun p hp => by simp at hp⟩, fun _ h => by simp at h, fun h => by simp at h⟩ h
  · have e : gd b want d = .val undef := by simp [gd, hb]
    rw [e] at h
    refine dreg_cons (it := ⟨_, true, false, { d := .val undef }, false⟩) ⟨hpin.symm, fun h => Bool.noConfusion h⟩ ⟨⟨hdep, .inl ⟨b, hg, ?_⟩⟩, fun h => by simp at h, fun h => by simp at h, fun _ => rfl⟩ h
    cases b <;> cases want <;> simp_all

def gslot (ops : List Oper) (j : Nat) (sl : List (Nat × D)) : Option D := ((ops[j]?).bind (·.dst)).bind (fun t => lk t sl)
theorem gslot_D {ops : List Oper} {j : Nat} {sl : List (Nat × D)} {b : Bool} (h : gslot ops j sl = some (.val (.bool b))) : guardD ops j sl = some b := by
  unfold gslot at h
  unfold guardD
  cases h1 : (ops[j]?).bind (·.dst) with
  | none => rw [h1] at h; cases h
  | some t => rw [h1] at h; simp only [Option.bind_some] at h; simp only [h]
theorem gslot_U {ops : List Oper} {j : Nat} {sl : List (Nat × D)} (h : gslot ops j sl = some (.val undef)) : guardU ops j sl = true := by
  unfold gslot at h
  unfold guardU
  cases h1 : (ops[j]?).bind (·.dst) with
  | none => rw [h1] at h; cases h
  | some t => rw [h1] at h; simp only [Option.bind_some] at h; simp only [h, undef]

theorem dreg_gfree2 (hT : TOk P T) {dst : Option Tmp} {op : Op} {ty : TypeId} {pos : String} {af : Array Edge} {g : Nat} {want b e w : Bool} {d : D} {done' : List D} {sl' : List (Nat × D)} (hpin : pins.contains i = false) (hf : freeOp op = true)
    (hdep : depOn { dst := dst, op := op, type := ty, pos := pos, after := af, guard := some (g, want) } g = true) (hg : gslot ops g (maskSl { dst := dst, op := op, type := ty, pos := pos, after := af, guard := some (g, want) } ops done 0 base) = some (gd e w (.val (.bool b))))
    (hs : e = w → b = want → ∃ pre, astep T op (evD (maskSl { dst := dst, op := op, type := ty, pos := pos, after := af, guard := some (g, want) } ops done 0 base)) rd 0 = some (pre, { d := d }) ∧ pre) (hdn : done ++ [gd ((e == w) && (b == want)) true d] = done') (hsl : putSl dst (gd ((e == w) && (b == want)) true d) sl = sl')
    (h : DReg P ops base rd eh pins (i + 1) l done' hp nx sl' K) : DReg P ops base rd eh pins i ({ dst := dst, op := op, type := ty, pos := pos, after := af, guard := some (g, want) } :: l) done hp nx sl K := by
  by_cases he : e = w
  · subst he
    have e1 : gd e e (.val (.bool b)) = .val (.bool b) := by simp [gd]
    rw [e1] at hg
    have e2 : gd ((e == e) && (b == want)) true d = gd b want d := by cases b <;> cases want <;> simp [gd]
    rw [e2] at hdn hsl
    exact dreg_gfree hT hpin hf hdep (gslot_D hg) (hs rfl) hdn hsl h
  · have e1 : gd e w (.val (.bool b)) = .val undef := by simp [gd, he]
    rw [e1] at hg
    have e2 : gd ((e == w) && (b == want)) true d = .val undef := by simp [gd, he]
    rw [e2] at hdn hsl
    subst hdn; subst hsl
    exact dreg_cons (it := ⟨_, false, false, { d := .val undef }, false⟩) ⟨hpin.symm, fun h => Bool.noConfusion h⟩ ⟨⟨hdep, .inr ⟨gslot_U hg, rfl⟩⟩, fun h => by simp at h, fun h => by simp at h, fun _ => rfl⟩ h
end rules

theorem awp_draw {m N : Nat} {id : Nat} {opsA : Array Oper} {st : St} {Q : Exit → St → Prop} (hT : TOk P T) (hP : C.P = P) (hCm : C.m = m) (hN : C.N = N) (hmix : P.follows .mixedOrders = true) (keys pins : List Nat) (l : List Oper) (he : opsA = l.toArray)
    (hd : (dstsOk N l && backB l && dstsApart l && chainB l pins) = true) (h : DReg P l st.sl (rdOf keys st.hp) st.hp pins 0 l [] st.hp st.nx st.sl (Q .normal)) : awp C (.region id opsA true) Q st := fun a w hI => by
  subst he; subst hP
  simp only [Bool.and_eq_true] at hd
  obtain ⟨its, h1, h2, h3, h4⟩ := h
  refine wp_region_any hmix ?_
  have hI' := inv_drawn hI (w.drawn + 1)
  obtain ⟨hv, hH, hk, hm', hpin, hS⟩ := hI'
  have hear : ∀ (j : Nat) (it : It), its[j]? = some it → it.early = true → ∀ (i : Nat) (it' : It), its[i]? = some it' → it'.pin = true → depStar (its.map (·.o)) 2 it'.o j = true := fun j it hj he i it' hi hp => by
    have h5 := (h3 j it hj).2 he
    have h6 := (h3 i it' hi).1
    rw [hp] at h6
    rw [Nat.zero_add] at h5 h6
    have h7 := List.all_eq_true.1 h5 i (by simpa using h6.symm)
    rw [← h1] at h7
    simpa [hi] using h7
  have hD : DrawOk C.N its := ⟨by rw [h1]; exact hd.1.1.2, by rw [h1]; exact hd.1.2, by rw [h1, hN]; exact hd.1.1.1, fun i j it it' hi hj hp hp' hlt => by
    have e1 := (h3 i it hi).1
    have e2 := (h3 j it' hj).1
    rw [hp, Nat.zero_add] at e1
    rw [hp', Nat.zero_add] at e2
    obtain ⟨k, hk, h5, h6, h7⟩ := chain_ok pins hd.2 i j it'.o (by simpa using e1.symm) (by simpa using e2.symm) hlt (by rw [← h1]; simp [hj])
    rw [← h1] at h7
    have hkl : k < its.length := by have := (List.getElem?_eq_some_iff.1 hj).1; omega
    refine ⟨k, its[k], List.getElem?_eq_getElem hkl, ?_, h5, h6, h7⟩
    rw [(h3 k _ (List.getElem?_eq_getElem hkl)).1, Nat.zero_add]
    simpa using hk, hear⟩
  have hsz : (Array.replicate l.toArray.size false).size = its.length := by rw [← h1]; simp
  have hun : ∀ i, i < its.length → (Array.replicate l.toArray.size false).getD i true = false := fun i hi => by
    have : i < l.length := by rw [← h1]; simpa using hi
    simp [Array.getD_eq_getD_getElem?, this]
  have := any_of_J (C := C) rfl hD (by rw [h1]; exact h2) (fun h ob hl => ⟨lk_rdOf hl, hk h ob (lk_rdOf hl)⟩) (fun h ob hl => hl) (Q := fun e a' w' => ∃ st', Q e st' ∧ Inv C st' a' w') (fun a w hI => ⟨_, h4, hI⟩) l.toArray.size (Array.replicate l.toArray.size false) a { w with drawn := w.drawn + 1 } 0 hv hsz (by simp) ⟨fun i it hi hp => ⟨fun h => (by rw [hun i (List.getElem?_eq_some_iff.1 hi).1] at h; cases h), fun h => by omega⟩, fun i it hi hls => (by rw [hun i (List.getElem?_eq_some_iff.1 hi).1] at hls; cases hls), ?_, ?_, ?_, ?_, hS.defers, hS.size, ?_, ?_⟩
  · rw [h1] at this; exact this
  all_goals (have e0 : stAt its 0 st.hp st.nx = (st.hp, st.nx) := by cases its <;> rfl)
  · rw [e0]; exact hH
  · rw [e0]; exact hk
  · rw [e0]; exact hm'
  · rw [e0]; exact hpin
  · rw [e0]; exact fun t d hl _ => hS.at_ t d hl
  · exact fun i it t hi _ hls => by rw [hun i (List.getElem?_eq_some_iff.1 hi).1] at hls; cases hls
end Go.Proofs.YtpdkhlpmiblflaaGreat.Abs

/- Abs, part 19: states that say less. -/
set_option linter.unusedVariables false
set_option linter.unusedSimpArgs false
namespace Go.Proofs.YtpdkhlpmiblflaaGreat.Abs
open Go Go.RowKit
variable {P : Program} {T : TT} {C : Ctx}

theorem Weak.trans {a b c : St} (h : Weak C a b) (k : Weak C b c) : Weak C a c := fun x w hI => k x w (h x w hI)

def SubSl (sl : List (Nat × D)) : List (Nat × D) → Prop
  | [] => True
  | (t, d) :: l => lk t sl = some d ∧ SubSl sl l
theorem subSl_lk {sl : List (Nat × D)} : ∀ {l : List (Nat × D)}, SubSl sl l → ∀ t d, lk t l = some d → lk t sl = some d
  | (t', d') :: l, h, t, d, hl => by
    rw [lk_cons] at hl
    split at hl
    · rename_i e; subst e; cases hl; exact h.1
    · exact subSl_lk h.2 t d hl
  | [], _, t, d, hl => by simp [lk] at hl
theorem sub_nil {sl : List (Nat × D)} : SubSl sl [] := trivial
theorem sub_cons {sl l : List (Nat × D)} {t : Nat} {d : D} (h : lk t sl = some d) (hl : SubSl sl l) : SubSl sl ((t, d) :: l) := ⟨h, hl⟩
theorem weak_sl {sl sl' : List (Nat × D)} {hp : HP} {nx : Nat} (h : SubSl sl sl') : Weak C ⟨sl, hp, nx⟩ ⟨sl', hp, nx⟩ := fun a w ⟨hv, hH, hk, hm, hpn, hS⟩ =>
  ⟨hv, hH, hk, hm, hpn, hS.defers, hS.size, fun t d hl => hS.at_ t d (subSl_lk h t d hl)⟩

def dropHP (h : Nat) (hp : HP) : HP := (killHP h hp).filter (fun p => p.1 != h)
theorem lk_filter_ne {h : Nat} : ∀ {hp : HP} {k : Nat}, lk k (hp.filter (fun p => p.1 != h)) = if k = h then none else lk k hp
  | [], k => by simp [lk]
  | (k', o) :: l, k => by
    rw [List.filter_cons]
    by_cases e : k' = h
    · subst e
      simp only [bne_self_eq_false, Bool.false_eq_true, if_false]
      rw [lk_filter_ne, lk_cons]
      by_cases e2 : k = k'
      · simp [e2]
      · simp [e2]
    · have : (k' != h) = true := by simpa using e
      simp only [this, if_true, lk_cons]
      rw [lk_filter_ne]
      by_cases e2 : k = k'
      · subst e2; simp [e]
      · simp [e2]
theorem lk_dropHP {h : Nat} {hp : HP} {k : Nat} : lk k (dropHP h hp) = if k = h then none else (lk k hp).map (Ob.kill h) := by
  unfold dropHP
  rw [lk_filter_ne, lk_killHP]

theorem RepO.killed' {h : Nat} {deep : Bool} {L L' : LF} {w : World} {F F' : Nat → Prop} {d : D} {v : Value} (hL : ∀ k x, k ≠ h → L k = some x → L' k = some x) (hF : ∀ b, F b → F' b ∧ w.heap[b]? = w.heap[b]?) (hr : RepO deep L w F d v) : RepO deep L' w F' (if deep then killC h d else d) v := by
  cases deep with
  | false =>
    simp only [RepO, Bool.false_eq_true, if_false] at hr ⊢
    exact RepP.mono hF hr
  | true =>
    simp only [RepO, if_true] at hr ⊢
    exact hr.killed hL hF

theorem weak_drop (h : Nat) {sl : List (Nat × D)} {hp : HP} {nx : Nat} : Weak C ⟨sl, hp, nx⟩ ⟨killSl (some h) sl, dropHP h hp, nx⟩ := fun a w ⟨hv, hH, hk, hm, hpn, hS⟩ => by
  have hold : ∀ k ob, lk k (dropHP h hp) = some ob → k ≠ h ∧ ∃ o, lk k hp = some o ∧ ob = o.kill h := fun k ob hl => by
    rw [lk_dropHP] at hl
    split at hl
    · cases hl
    · rename_i hne
      obtain ⟨o, h1, h2⟩ := Option.map_eq_some_iff.1 hl
      exact ⟨hne, o, h1, h2.symm⟩
  have hL : ∀ k x, k ≠ h → LOf hv hp k = some x → LOf hv (dropHP h hp) k = some x := fun k x hne hx => by
    simp only [LOf, Option.map_eq_some_iff] at hx ⊢
    obtain ⟨ob, hob, rfl⟩ := hx
    refine ⟨ob.kill h, by rw [lk_dropHP, if_neg hne, hob]; rfl, ?_⟩
    unfold Ob.kill
    split <;> rfl
  have hF : ∀ b, FOf C.G hv hp w b → FOf C.G hv (dropHP h hp) w b ∧ w.heap[b]? = w.heap[b]? := fun b hb => ⟨⟨hb.1, fun k ob hl => by
    obtain ⟨_, o, ho, _⟩ := hold k ob hl
    exact hb.2 k o ho⟩, rfl⟩
  refine ⟨hv, ⟨fun k ob hl => ?_, fun k k' ob ob' hl hl' hne => ?_, fun k ob b hl hb => ?_, hH.keeps, hH.gnew⟩, fun k ob hl => ?_, hm, fun k ob hl hlt => ?_, hS.defers, hS.size, fun t d hl => ?_⟩
  · obtain ⟨hne, o, ho, rfl⟩ := hold k ob hl
    obtain ⟨us, h1, h2, h3⟩ := hH.obs k o ho
    unfold Ob.kill
    cases hd : o.deep with
    | false =>
      simp only [Bool.false_eq_true, if_false]
      refine ⟨us, h1, h2, fun i j x d hi hj => ?_⟩
      obtain ⟨u, hu, h4, hr⟩ := h3 i j x d hi hj
      have := RepO.killed' hL hF hr
      rw [hd] at this
      exact ⟨u, hu, h4, by rw [hd]; exact this⟩
    | true =>
      simp only [if_true]
      refine ⟨us, by simpa using h1, fun x hx => ?_, fun i j x d hi hj => ?_⟩
      · obtain ⟨y, hy, rfl⟩ := List.mem_map.1 hx
        simpa using h2 y hy
      · simp only [List.getElem?_map, Option.map_eq_some_iff] at hi
        obtain ⟨y, hy, rfl⟩ := hi
        simp only [List.getElem?_map, Option.map_eq_some_iff] at hj
        obtain ⟨e, he, rfl⟩ := hj
        obtain ⟨u, hu, h4, hr⟩ := h3 i j y e hy he
        have := RepO.killed' hL hF hr
        rw [hd] at this
        exact ⟨u, hu, h4, by simpa [hd] using this⟩
  · obtain ⟨_, o, ho, _⟩ := hold k ob hl
    obtain ⟨_, o', ho', _⟩ := hold k' ob' hl'
    exact hH.inj k k' o o' ho ho' hne
  · obtain ⟨_, o, ho, _⟩ := hold k ob hl
    exact hH.base k o b ho hb
  · obtain ⟨_, o, ho, _⟩ := hold k ob hl
    exact hk k o ho
  · obtain ⟨_, o, ho, _⟩ := hold k ob hl
    exact hpn k o ho hlt
  · obtain ⟨d0, h1, rfl⟩ := lk_killSl hl
    exact (hS.at_ t d0 h1).killed hL hF

theorem weak_nx {sl : List (Nat × D)} {hp : HP} {nx nx' : Nat} (hm : C.m ≤ nx') (h : hp.all (fun p => decide (p.1 < nx')) = true) : Weak C ⟨sl, hp, nx⟩ ⟨sl, hp, nx'⟩ := fun a w ⟨hv, hH, hk, _, hpn, hS⟩ =>
  ⟨hv, hH, fun k ob hl => by simpa using List.all_eq_true.1 h _ (lk_mem hl), hm, hpn, hS⟩

theorem oprel_astep (hT : TOk P T) {o : Oper} {ev : Operand → D} {hp : HP} {nx : Nat} {pre : Prop} {r : Res} (hs : astep T o.op ev hp nx = some (pre, r)) (hdead : r.dead = none) (hpre : pre) : OpRel P o ev hp nx r :=
  ⟨⟨newKeys_of (astep_new hs), hdead⟩, oprel_of_astep hT hs hpre⟩
theorem thenA_exit {next : St → Prop} {Q : Exit → St → Prop} {id : Nat} {st : St} (h : Q (.exit id) st) : thenA next Q (.exit id) st := h
theorem mask_nrm : (∀ (o : Oper) (c : Nat) (ds : List D) (i : Nat) (base : List (Nat × D)), maskC o c [] ds i base = base) ∧ (∀ (o : Oper) (c : Nat) (t : Tmp) (op : Op) (ty : TypeId) (pos : String) (af : Array Edge) (g : Option (Nat × Bool)) (l : List Oper) (ds : List D) (i : Nat) (base : List (Nat × D)),
    maskC o c ({ dst := some t, op := op, type := ty, pos := pos, after := af, guard := g } :: l) ds i base = if depOn { dst := some t, op := op, type := ty, pos := pos, after := af, guard := g } c = true then maskC o c l ds.tail (i + 1) base else (t, if depOn o i = true then ds.headD .any else .any) :: maskC o c l ds.tail (i + 1) base) ∧
    (∀ (o : Oper) (c : Nat) (op : Op) (ty : TypeId) (pos : String) (af : Array Edge) (g : Option (Nat × Bool)) (l : List Oper) (ds : List D) (i : Nat) (base : List (Nat × D)),
    maskC o c ({ dst := none, op := op, type := ty, pos := pos, after := af, guard := g } :: l) ds i base = maskC o c l ds.tail (i + 1) base) ∧ (∀ (d e : D) (l : List D), (d :: l).headD e = d) ∧ (∀ e : D, [].headD e = e) ∧ (∀ (d : D) (l : List D), (d :: l).tail = l) ∧ ([] : List D).tail = [] :=
  ⟨fun _ _ _ _ _ => rfl, fun _ _ _ _ _ _ _ _ _ _ _ _ => rfl, fun _ _ _ _ _ _ _ _ _ _ _ => rfl, fun _ _ _ => rfl, fun _ => rfl, fun _ _ => rfl, rfl⟩
theorem maxIf (x y : Int) : (if y > x then y else x) = max x y := by rw [Int.max_def]; split <;> split <;> omega
end Go.Proofs.YtpdkhlpmiblflaaGreat.Abs

/- Abs, part 20: what a row's reading of the arguments says: numbers and rows of numbers. -/
set_option linter.unusedVariables false
set_option linter.unusedSimpArgs false
namespace Go.Proofs.YtpdkhlpmiblflaaGreat.Abs
open Go Go.RowKit Go.ChangeShapes Go.WideShapes Go.ChangeAt
variable {P : Program}

def IntsOk : List IntKind → List Value → Prop
  | [], [] => True
  | k :: ks, c :: cs => (∃ n, c = .int k n ∧ (Lit.int k n).wf = true) ∧ IntsOk ks cs
  | _, _ => False

def intVs : List IntKind → List Int → List Value
  | k :: ks, n :: ns => .int k n :: intVs ks ns
  | _, _ => []
def WfAll : List IntKind → List Int → Prop
  | [], [] => True
  | k :: ks, n :: ns => (Lit.int k n).wf = true ∧ WfAll ks ns
  | _, _ => False
theorem intsOk_vs : ∀ {ks : List IntKind} {cs : List Value}, IntsOk ks cs → ∃ ns, WfAll ks ns ∧ cs = intVs ks ns
  | [], [], _ => ⟨[], trivial, rfl⟩
  | k :: ks, c :: cs, h => by
    obtain ⟨⟨n, rfl, hn⟩, h⟩ := h
    obtain ⟨ns, h1, rfl⟩ := intsOk_vs h
    exact ⟨n :: ns, ⟨hn, h1⟩, rfl⟩
  | [], _ :: _, h => h.elim
  | _ :: _, [], h => h.elim
theorem wfAll_length : ∀ {ks : List IntKind} {ns : List Int}, WfAll ks ns → ns.length = ks.length
  | [], [], _ => rfl
  | _ :: _, _ :: _, h => by simp [wfAll_length h.2]
  | [], _ :: _, h => h.elim
  | _ :: _, [], h => h.elim
theorem intVs_length : ∀ {ks : List IntKind} {ns : List Int}, ns.length = ks.length → (intVs ks ns).length = ks.length
  | [], [], _ => rfl
  | _ :: _, _ :: _, h => by simp [intVs, intVs_length (by simpa using h)]
  | [], _ :: _, h => by simp at h
  | _ :: _, [], h => by simp at h
theorem intVs_one : ∀ {ks : List IntKind} {ns : List Int}, ∀ v ∈ intVs ks ns, v.oneCell' = true
  | k :: ks, n :: ns, v, h => by
    simp only [intVs, List.mem_cons] at h
    rcases h with rfl | h
    · rfl
    · exact intVs_one v h
  | [], _, v, h => by simp [intVs] at h
  | _ :: _, [], v, h => by simp [intVs] at h
theorem intsOk_append : ∀ {ks ks' : List IntKind} {cs cs' : List Value}, IntsOk ks cs → IntsOk ks' cs' → IntsOk (ks ++ ks') (cs ++ cs')
  | [], _, [], _, _, h => h
  | _ :: ks, _, _ :: cs, _, h, h' => ⟨h.1, intsOk_append h.2 h'⟩
  | [], _, _ :: _, _, h, _ => h.elim
  | _ :: _, _, [], _, h, _ => h.elim

def FlatT (P : Program) (t : TypeId) (ks : List IntKind) : Prop := ∀ (H : Type) (enc : TypeId × Value → H) (w : World) (base : Nat) (spare : Nat → Bool) (held : Bool) (fuel : Nat) (cs : List Value) (x : DataW H × List MemPlace), DataW.trod enc P w base spare held fuel t cs = some x → IntsOk ks cs

theorem FlatT.int {t : TypeId} {k : IntKind} (h : P.underlying t = some (.int k)) : FlatT P t [k] := fun H enc w base spare held fuel cs x hx => by
  obtain ⟨n, rfl, _, hn⟩ := DataW.trod_int h hx
  exact ⟨⟨n, rfl, hn⟩, trivial⟩

def FieldsOk (P : Program) : Nat → List Field → List (List IntKind) → Prop
  | _, [], [] => True
  | off, f :: fs, ks :: kss => f.offset = off ∧ P.cellsOf f.type = ks.length ∧ FlatT P f.type ks ∧ FieldsOk P (off + ks.length) fs kss
  | _, _, _ => False

theorem fields_ints {H : Type} {enc : TypeId × Value → H} {w : World} {base : Nat} {spare : Nat → Bool} {held : Bool} {m : Nat} : ∀ (fs : List Field) (kss : List (List IntKind)) (off : Nat) (cs : List Value), FieldsOk P off fs kss → cs.length = off + kss.flatten.length →
    (∀ f ∈ fs, ∃ x, DataW.trod enc P w base spare held m f.type ((cs.drop f.offset).take (P.cellsOf f.type)) = some x) → IntsOk kss.flatten (cs.drop off)
  | [], [], off, cs, _, hl, _ => by
    have : cs.drop off = [] := by simp at hl; simp; omega
    rw [this]; trivial
  | f :: fs, ks :: kss, off, cs, h, hl, hx => by
    obtain ⟨h1, h2, h3, h4⟩ := h
    obtain ⟨x, hx0⟩ := hx f (by simp)
    have hi := h3 _ _ _ _ _ _ _ _ _ hx0
    rw [h1, h2] at hi
    have hr := fields_ints fs kss (off + ks.length) cs h4 (by rw [hl]; simp; omega) (fun f' hf' => hx f' (by simp [hf']))
    have e : cs.drop off = (cs.drop off).take ks.length ++ cs.drop (off + ks.length) := by
      rw [← List.drop_drop]
      exact (List.take_append_drop _ _).symm
    rw [e, List.flatten_cons]
    exact intsOk_append hi hr
  | [], _ :: _, _, _, h, _, _ => h.elim
  | _ :: _, [], _, _, h, _, _ => h.elim

theorem FlatT.struct {t : TypeId} {fs : Array Field} {kss : List (List IntKind)} (h : P.underlying t = some (.struct fs)) (hC : P.cellsOf t = kss.flatten.length) (hf : FieldsOk P 0 fs.toList kss) : FlatT P t kss.flatten := fun H enc w base spare held fuel cs x hx => by
  obtain ⟨xs, n, _, _, hl, hlen, hall⟩ := DataW.trod_struct h hx
  have := fields_ints (enc := enc) (w := w) (base := base) (spare := spare) (held := held) (m := n) fs.toList kss 0 cs hf (by rw [hl, hC]; simp) (fun f hm => by
    obtain ⟨i, hi⟩ := List.getElem?_of_mem hm
    have hi' : fs[i]? = some f := by simpa using hi
    have := hall i f hi'
    have hlt : i < xs.length := by rw [hlen]; exact (Array.getElem?_eq_some_iff.1 hi').1
    exact ⟨xs[i], by rw [this, List.getElem?_eq_getElem hlt]⟩)
  simpa using this

theorem array_ints {H : Type} {enc : TypeId × Value → H} {w : World} {base : Nat} {spare : Nat → Bool} {held : Bool} {m : Nat} {e : TypeId} {ks : List IntKind} (he : FlatT P e ks) : ∀ (n off : Nat) (cs : List Value), cs.length = (off + n) * ks.length →
    (∀ i, off ≤ i → i < off + n → ∃ x, DataW.trod enc P w base spare held m e ((cs.drop (i * ks.length)).take ks.length) = some x) → IntsOk (List.replicate n ks).flatten (cs.drop (off * ks.length))
  | 0, off, cs, hl, _ => by
    have : cs.drop (off * ks.length) = [] := by simp at hl; simp; omega
    rw [this]; trivial
  | n + 1, off, cs, hl, hx => by
    obtain ⟨x, hx0⟩ := hx off (Nat.le_refl _) (by omega)
    have hi := he _ _ _ _ _ _ _ _ _ hx0
    have hr := array_ints he n (off + 1) cs (by rw [hl]; congr 1; omega) (fun i h1 h2 => hx i (by omega) (by omega))
    have e : cs.drop (off * ks.length) = (cs.drop (off * ks.length)).take ks.length ++ cs.drop ((off + 1) * ks.length) := by
      rw [Nat.add_mul, Nat.one_mul, ← List.drop_drop]
      exact (List.take_append_drop _ _).symm
    rw [e, List.replicate_succ, List.flatten_cons]
    exact intsOk_append hi hr

theorem FlatT.array {t e : TypeId} {n : Nat} {ks : List IntKind} (h : P.underlying t = some (.array n e)) (he : FlatT P e ks) (hc : P.cellsOf e = ks.length) (hC : P.cellsOf t = n * ks.length) : FlatT P t (List.replicate n ks).flatten := fun H enc w base spare held fuel cs x hx => by
  obtain ⟨xs, m, _, _, hl, hlen, hall⟩ := DataW.trod_array h hx
  have := array_ints (enc := enc) (w := w) (base := base) (spare := spare) (held := held) (m := m) he n 0 cs (by rw [hl, hC]; simp) (fun i _ hi => by
    have := hall i (by omega)
    rw [hc] at this
    exact ⟨xs[i]'(by omega), by rw [this, List.getElem?_eq_getElem (by omega)]⟩)
  simpa using this

def rowD (ks : List IntKind) (ns : List Int) : List D := (intVs ks ns).map .val

theorem exists_list {α : Type} {p : Nat → α → Prop} : ∀ (n : Nat), (∀ i, i < n → ∃ y, p i y) → ∃ l : List α, l.length = n ∧ ∀ i, i < n → ∃ y, l[i]? = some y ∧ p i y
  | 0, _ => ⟨[], rfl, fun i h => by omega⟩
  | n + 1, h => by
    obtain ⟨l, h1, h2⟩ := exists_list n (fun i hi => h i (by omega))
    obtain ⟨y, hy⟩ := h n (by omega)
    refine ⟨l ++ [y], by simp [h1], fun i hi => ?_⟩
    by_cases e : i < n
    · obtain ⟨z, hz, hp⟩ := h2 i e
      exact ⟨z, by rw [List.getElem?_append_left (by omega)]; exact hz, hp⟩
    · have : i = n := by omega
      subst this
      exact ⟨y, by rw [List.getElem?_append_right (by omega)]; simp [h1], hy⟩

theorem read_rows_c {H : Type} {enc : TypeId × Value → H} {w : World} {spare : Nat → Bool} {held : Bool} {t e : TypeId} {ks : List IntKind} (ht : P.underlying t = some (.slice e)) (hf : FlatT P e ks) (hc : P.cellsOf e = ks.length) (h0 : 0 < ks.length) {fuel : Nat} {cs : List Value} {x : DataW H × List MemPlace}
    (h : DataW.trod enc P w 0 spare held fuel t cs = some x) : ∃ v, cs = [v] ∧ ∃ rows : List (List Int), (∀ ns ∈ rows, WfAll ks ns) ∧ rows.length ≤ maxLen ∧ ∀ F : Nat → Prop, (∀ b, b < w.heap.size → F b) → RepP w F (.sl ks.length (rows.map (rowD ks))) v := by
  rcases DataW.trod_slice ht h with ⟨rfl, _⟩ | ⟨a, len, cap, elems, rest, n, _, rfl, _, _, hlc, hcm, hlen, hel, _⟩
  · refine ⟨_, rfl, [], fun ns h => by simp at h, Nat.zero_le _, fun F _ => ?_⟩
    exact RepP.sl ks.length [] none 0 (fun _ _ => undef) (fun x hx => by simp at hx) (fun _ => ⟨rfl, rfl⟩) ⟨by simp, by simp⟩ (fun ad h => by cases h) (fun ad i j x d h => by cases h) (fun i j x d hi => by simp at hi)
  · have each : ∀ i, i < len → ∃ ns : List Int, WfAll ks ns ∧ ∀ j, j < ks.length → w.cell? (a.add (i * ks.length + j)) = (intVs ks ns)[j]? := fun i hi => by
      have h1 := hel i hi
      rw [List.getElem?_eq_getElem (by omega), Option.bind_eq_some_iff] at h1
      obtain ⟨cs', hcs, hx'⟩ := h1
      obtain ⟨ns, hw, rfl⟩ := intsOk_vs (hf _ _ _ _ _ _ _ _ _ hx')
      refine ⟨ns, hw, fun j hj => ?_⟩
      obtain ⟨hl, _, hcell⟩ := World.cells?_some hcs
      rw [hc] at hl hcell
      have := hcell j (by omega)
      rw [← this]
      congr 1
      unfold Addr.add
      split <;> split <;> split <;> simp_all <;> omega
    obtain ⟨rows, hrl, hrows⟩ := exists_list len each
    refine ⟨_, rfl, rows, fun ns hns => ?_, by omega, fun F hF => ?_⟩
    · obtain ⟨i, hi⟩ := List.getElem?_of_mem hns
      obtain ⟨ns', h1, h2, _⟩ := hrows i (by rw [← hrl]; exact (List.getElem?_eq_some_iff.1 hi).1)
      rw [hi] at h1; cases h1; exact h2
    · have hget : ∀ (i j : Nat) x d, (rows.map (rowD ks))[i]? = some x → x[j]? = some d → ∃ u, d = .val u ∧ u.oneCell' = true ∧ w.cell? (a.add (i * ks.length + j)) = some u ∧ i < len := fun i j x d hi hj => by
        rw [List.getElem?_map, Option.map_eq_some_iff] at hi
        obtain ⟨ns, hns, rfl⟩ := hi
        have hil : i < len := by rw [← hrl]; exact (List.getElem?_eq_some_iff.1 hns).1
        obtain ⟨ns', h1, h2, h3⟩ := hrows i hil
        rw [hns] at h1; cases h1
        unfold rowD at hj
        rw [List.getElem?_map, Option.map_eq_some_iff] at hj
        obtain ⟨u, hu, rfl⟩ := hj
        have hjl : j < ks.length := by have := (List.getElem?_eq_some_iff.1 hu).1; rw [intVs_length (wfAll_length h2)] at this; exact this
        exact ⟨u, rfl, intVs_one u (List.mem_of_getElem? hu), by rw [h3 j hjl, hu], hil⟩
      have hspot : rows ≠ [] → a.spot = none ∧ F a.block := fun hne => by
        cases rows with
        | nil => exact absurd rfl hne
        | cons r rs =>
          obtain ⟨ns', h1, h2, h3⟩ := hrows 0 (by rw [← hrl]; simp)
          have := h3 0 h0
          have hl := intVs_length (wfAll_length h2)
          rw [List.getElem?_eq_getElem (by omega)] at this
          simp only [Nat.zero_mul, Nat.zero_add, Addr.add, if_true] at this
          exact ⟨World.cell?_spot this, hF _ (block_lt_of_cell this)⟩
      have hadd : ∀ k, rows ≠ [] → a.add k = ⟨a.block, a.off + k, none⟩ := fun k hne => by
        have := (hspot hne).1
        unfold Addr.add
        split
        · rename_i e; subst e; cases a; simp_all
        · rfl
      have hne : ∀ (i : Nat) x, (rows.map (rowD ks))[i]? = some x → rows ≠ [] := fun i x hi e => by rw [e] at hi; simp at hi
      have := RepP.sl (w := w) (F := F) ks.length (rows.map (rowD ks)) (some a) cap (fun i j => (w.cell? ⟨a.block, a.off + (i * ks.length + j), none⟩).getD undef) (fun x hx => by
          obtain ⟨ns, hns, rfl⟩ := List.mem_map.1 hx
          obtain ⟨i, hi⟩ := List.getElem?_of_mem hns
          obtain ⟨ns', h1, h2, _⟩ := hrows i (by rw [← hrl]; exact (List.getElem?_eq_some_iff.1 hi).1)
          rw [hi] at h1; cases h1
          simp [rowD, intVs_length (wfAll_length h2)]) (fun h => by cases h) ⟨by simp; omega, hcm⟩ (fun ad e hne' => by
            cases e
            have hr : rows ≠ [] := fun e => hne' (by simp [e])
            exact ⟨(hspot hr).2, (hspot hr).1⟩) (fun ad i j x d e hi hj => by
            cases e
            obtain ⟨u, _, h1, h2, _⟩ := hget i j x d hi hj
            rw [hadd _ (hne i x hi)] at h2
            rw [h2]; exact ⟨rfl, h1⟩) (fun i j x d hi hj => by
            obtain ⟨u, rfl, h1, h2, _⟩ := hget i j x d hi hj
            rw [hadd _ (hne i x hi)] at h2
            rw [h2]; exact RepP.val u)
      rw [List.length_map, hrl] at this
      exact this

/-! ### The arguments of a law -/
def Reads (P : Program) (t : TypeId) (R : D → Prop) : Prop := ∀ (H : Type) (enc : TypeId × Value → H) (W : World) (base : Nat) (v : Value) (d : DataW H) (ps : List MemPlace), Value.okWide P W .any base t v → DataW.Trod enc P W 0 (fun _ => true) true t v d ps → ∃ D, R D ∧ ∀ (L : LF) (F : Nat → Prop), (∀ b, b < W.heap.size → F b) → RepA L W F D v
def ReadsAll (P : Program) : List TypeId → List (D → Prop) → Prop
  | [], [] => True
  | t :: ts, R :: Rs => Reads P t R ∧ ReadsAll P ts Rs
  | _, _ => False
def AllR : List (D → Prop) → List D → Prop
  | [], [] => True
  | R :: Rs, d :: ds => R d ∧ AllR Rs ds
  | _, _ => False

theorem reads_all {H : Type} {enc : TypeId × Value → H} {W : World} {base : Nat} : ∀ {ts : List TypeId} {Rs : List (D → Prop)} {vs : List Value} {ds : List (DataW H)} {ps : List MemPlace}, ReadsAll P ts Rs → DataW.TrodAll enc P W 0 (fun _ => true) true ts vs ds ps → (∀ (j : Nat) t v, ts[j]? = some t → vs[j]? = some v → Value.okWide P W .any base t v) →
    ∃ Ds, AllR Rs Ds ∧ ∀ (L : LF) (F : Nat → Prop), (∀ b, b < W.heap.size → F b) → RepAL L W F Ds vs
  | [], [], [], _, _, _, _, _ => ⟨[], trivial, fun _ _ _ => trivial⟩
  | t :: ts, R :: Rs, v :: vs, d :: ds, ps, hR, hA, hv => by
    obtain ⟨p, q, h1, h2, _⟩ := hA
    obtain ⟨D, hD, hrep⟩ := hR.1 H enc W base v d p (hv 0 t v rfl rfl) h1
    obtain ⟨Ds, hDs, hreps⟩ := reads_all hR.2 h2 (fun j t v ht hv' => hv (j + 1) t v (by simpa using ht) (by simpa using hv'))
    exact ⟨D :: Ds, ⟨hD, hDs⟩, fun L F hF => ⟨hrep L F hF, hreps L F hF⟩⟩
  | [], _ :: _, _, _, _, hR, _, _ => hR.elim
  | _ :: _, [], _, _, _, hR, _, _ => hR.elim
  | [], [], _ :: _, _, _, _, hA, _ => hA.elim
  | _ :: _, _ :: _, [], _, _, _, hA, _ => hA.elim
  | _ :: _, _ :: _, _ :: _, [], _, _, hA, _ => hA.elim

def RRows (ks : List IntKind) : D → Prop := fun D => ∃ rows : List (List Int), (∀ ns ∈ rows, WfAll ks ns) ∧ rows.length ≤ maxLen ∧ D = .sl ks.length (rows.map (rowD ks))
theorem reads_rows {t e : TypeId} {ks : List IntKind} (ht : P.underlying t = some (.slice e)) (hf : FlatT P e ks) (hc : P.cellsOf e = ks.length) (h0 : 0 < ks.length) : Reads P t (RRows ks) := fun H enc W base v d ps hok hT => by
  obtain ⟨a, len, cap, rfl⟩ := okWide_slice ht hok
  obtain ⟨fuel, hx⟩ := hT
  obtain ⟨v', hv, rows, h1, h2, h3⟩ := read_rows_c ht hf hc h0 hx
  have : v' = .slice a len cap := by simp [Value.cells] at hv; exact hv.symm
  subst this
  exact ⟨_, ⟨rows, h1, h2, rfl⟩, fun L F hF => h3 F hF⟩
theorem law_row {X : Type} {s : Spec X} {f : FuncId} (hF : FnOk P f s) (hobs : ∀ x, s.obs x = []) (hout : ∀ x, s.out x = []) (hnew : ∀ x, s.new x = []) (hres : ∀ x, s.res x = .val (.bool true)) {ts : List TypeId} {Rs : List (D → Prop)} (hR : ReadsAll P ts Rs) (hx : ∀ Ds, AllR Rs Ds → ∃ x, s.pre x ∧ s.args x = Ds)
    {H : Type} {enc : TypeId × Value → H} {W : World} {base : Nat} {args : Array Value} {ds : List (DataW H)} {ps : List MemPlace} (hA : DataW.TrodAll enc P W 0 (fun _ => true) true ts args.toList ds ps) (hv : ∀ (j : Nat) t v, ts[j]? = some t → args.toList[j]? = some v → Value.okWide P W .any base t v) (ht : TabAt [] W) :
    Calls P f args W (fun e w' => e = .returned (.bool true) ∧ Below W.heap.size W w') := by
  obtain ⟨Ds, h1, h2⟩ := reads_all hR hA hv
  obtain ⟨x, hp, rfl⟩ := hx Ds h1
  have := law_calls hF x hp (hobs x) (hout x) (hnew x) (hres x) W ht args.toList h2
  simpa using this

theorem len1 {α : Type} {l : List α} (h : l.length = 1) : ∃ a, l = [a] := by match l, h with | [a], _ => exact ⟨a, rfl⟩
theorem len2 {α : Type} {l : List α} (h : l.length = 2) : ∃ a b, l = [a, b] := by match l, h with | [a, b], _ => exact ⟨a, b, rfl⟩
theorem len3 {α : Type} {l : List α} (h : l.length = 3) : ∃ a b c, l = [a, b, c] := by match l, h with | [a, b, c], _ => exact ⟨a, b, c, rfl⟩
theorem readsAll_nil : ReadsAll P [] [] := trivial
theorem readsAll_cons {t : TypeId} {ts : List TypeId} {R : D → Prop} {Rs : List (D → Prop)} (h1 : Reads P t R) (h2 : ReadsAll P ts Rs) : ReadsAll P (t :: ts) (R :: Rs) := ⟨h1, h2⟩
theorem allR_nil {Ds : List D} (h : AllR [] Ds) : Ds = [] := by
  cases Ds with
  | nil => rfl
  | cons => exact h.elim
theorem allR_cons {R : D → Prop} {Rs : List (D → Prop)} {Ds : List D} (h : AllR (R :: Rs) Ds) : ∃ d ds, Ds = d :: ds ∧ R d ∧ AllR Rs ds := by
  cases Ds with
  | nil => exact h.elim
  | cons d ds => exact ⟨d, ds, rfl, h.1, h.2⟩
theorem trodAll_len {H : Type} {enc : TypeId × Value → H} {W : World} {base : Nat} {sp : Nat → Bool} {held : Bool} : ∀ {ts : List TypeId} {vs : List Value} {ds : List (DataW H)} {ps : List MemPlace}, DataW.TrodAll enc P W base sp held ts vs ds ps → ds.length = ts.length
  | [], [], [], _, _ => rfl
  | t :: ts, v :: vs, d :: ds, ps, h => by
    obtain ⟨p, q, _, h2, _⟩ := h
    simp [trodAll_len h2]
  | [], [], _ :: _, _, h => h.elim
  | [], _ :: _, _, _, h => h.elim
  | _ :: _, [], _, _, h => h.elim
  | _ :: _, _ :: _, [], _, h => h.elim
end Go.Proofs.YtpdkhlpmiblflaaGreat.Abs

/- Abs, part 21: elements of rows. -/
set_option linter.unusedVariables false
set_option linter.unusedSimpArgs false
namespace Go.Proofs.YtpdkhlpmiblflaaGreat.Abs
open Go Go.RowKit
variable {P : Program} {T : TT} {C : Ctx}

theorem astep_load_r {t : TypeId} {x : Operand} {ev : Operand → D} {hp : HP} {nx sz i off : Nat} {xs : List (List D)} {ti : TI} {row : List D} {d : D} (ha : ev x = .rptr sz xs i off) (hl : lk t T = some ti) (hx : xs[i]? = some row) (hr : readAt ti.aggB ti.size row off = some d) :
    astep T (.load t x) ev hp nx = some (True, { d := d }) := by simp [astep, stepLoad, ha, hl, hx, hr, q]
theorem astep_load_p {t : TypeId} {x : Operand} {ev : Operand → D} {hp : HP} {nx h i off : Nat} {ob : Ob} {ti : TI} {row : List D} {d : D} (ha : ev x = .ptr h i off) (hl : lk t T = some ti) (ho : lk h hp = some ob) (hx : ob.xs[i]? = some row) (hr : readAt ti.aggB ti.size row off = some d) :
    astep T (.load t x) ev hp nx = some (True, { d := d }) := by simp [astep, stepLoad, ha, hl, ho, hx, hr, q]
theorem astep_store_p {t : TypeId} {x y : Operand} {ev : Operand → D} {hp : HP} {nx h i off : Nat} {ob : Ob} {ti : TI} {row : List D} {d : D} (ha : ev x = .ptr h i off) (hy : ev y = d) (hl : lk t T = some ti) (ho : lk h hp = some ob) (hx : ob.xs[i]? = some row) :
    astep T (.store t x y) ev hp nx = some (cellsOk d = true ∧ (dcells d).length = ti.size ∧ (ti.aggB = false → ti.size = 1) ∧ off + ti.size ≤ row.length ∧ (ob.deep = true ∨ (dcells d).all hf = true), { d := .any, upd := [(h, { ob with xs := ob.xs.set i (putCells ti.aggB row off (dcells d)) })] }) := by
  simp [astep, stepStore, ha, hy, hl, ho, hx]

theorem map_get {α : Type} [Inhabited α] (f : α → List D) (xs : List α) (i : Nat) (h : i < xs.length) : (xs.map f)[i]? = some (f (xs.getD i default)) := by
  rw [List.getElem?_map, List.getElem?_eq_getElem h]
  simp [List.getD, h]

abbrev i64s (xs : List Int) : List (List D) := xs.map fun n => [.val (.int .i64 n)]
theorem i64s_get (xs : List Int) (i : Nat) (h : i < xs.length) : (i64s xs)[i]? = some [.val (.int .i64 (xs.getD i 0))] := map_get (fun n : Int => [D.val (.int .i64 n)]) xs i h

noncomputable def ask (p : Prop) : Bool := @decide p (Classical.propDecidable p)
theorem ask_true {p : Prop} (h : p) : ask p = true := by simp [ask, h]
theorem ask_false {p : Prop} (h : ¬ p) : ask p = false := by simp [ask, h]
theorem objs_nil {hp : HP} : Objs hp [] [] := trivial
theorem objs_cons {hp : HP} {k : Nat} {ks : List Nat} {o ob : Ob} {os : List Ob} (hl : lk k hp = some ob) (h1 : ob.ty = o.ty) (h2 : ob.sz = o.sz) (h3 : ob.xs = o.xs) (h4 : o.deep = false) (h5 : ob.deep = false ∨ ∀ x ∈ o.xs, x.all hf = true) (h : Objs hp ks os) : Objs hp (k :: ks) (o :: os) := ⟨⟨ob, hl, h1, h2, h3, h4, h5⟩, h⟩
def mkF (f : Fn) (fs cs : List D) : Option (List Value) → Option (List Value) → D
  | some us, some vs => .val (.func f us.toArray vs.toArray)
  | _, _ => .fn f fs cs
theorem mf_nrm : (∀ (f : Fn) (fs cs : List D), mkFn f fs cs = mkF f fs cs (allVals fs) (allVals cs)) ∧ (∀ (f : Fn) (fs cs : List D) (us vs : List Value), mkF f fs cs (some us) (some vs) = .val (.func f us.toArray vs.toArray)) ∧ (∀ (f : Fn) (fs cs : List D) (x : Option (List Value)), mkF f fs cs none x = .fn f fs cs) ∧ (∀ (f : Fn) (fs cs : List D) (us : List Value), mkF f fs cs (some us) none = .fn f fs cs) ∧
    (∀ l : List Operand, l.toArray.toList = l) ∧ (∀ (h i off : Nat) (ds : List D), allVals (.ptr h i off :: ds) = none) :=
  ⟨fun f fs cs => by unfold mkFn mkF; cases allVals fs <;> cases allVals cs <;> rfl, fun _ _ _ _ _ => rfl, fun _ _ _ x => by cases x <;> rfl, fun _ _ _ _ => rfl, fun _ => rfl, fun _ _ _ _ => rfl⟩

/-! ### Function values as arguments -/
section fnargs
variable {hp : HP} {ks : List Nat}
theorem argc_rptr {sz i off h : Nat} {xs : List (List D)} {ob : Ob} (hn : h ∉ ks) (hl : lk h hp = some ob) (hs : ob.sz = sz) (hx : ob.xs = xs) (hd : ob.deep = false ∨ ∀ x ∈ xs, x.all hf = true) : ArgC hp ks (.rptr sz xs i off) (.ptr h i off) := ⟨hn, rfl, rfl, ob, hl, hs, .inl ⟨hx, hd⟩⟩
def selfC : D → Bool
  | .any | .val _ | .nil | .sl _ _ | .rptr _ _ _ _ | .clo _ _ => true
  | _ => false
theorem argC_self {d : D} (h : selfC d = true) : ArgC hp ks d d := by
  cases d <;> simp only [selfC, Bool.false_eq_true] at h <;> simp [ArgC]
theorem argL_self : ∀ {ds : List D}, ds.all selfC = true → ArgL hp ks ds ds
  | [], _ => trivial
  | d :: ds, h => by
    simp only [List.all_cons, Bool.and_eq_true] at h
    exact ⟨argC_self h.1, argL_self h.2⟩
theorem argA_self {d : D} (h : selfC d = true) : ArgA hp ks d d := by
  cases d <;> simp only [selfC, Bool.false_eq_true] at h <;> simp [ArgA, ArgC]
theorem args_append : ∀ {ds es ds' es' : List D}, Args hp ks ds es → Args hp ks ds' es' → Args hp ks (ds ++ ds') (es ++ es')
  | [], [], _, _, _, h => h
  | _ :: _, _ :: _, _, _, h, h' => ⟨h.1, args_append h.2 h'⟩
  | [], _ :: _, _, _, h, _ => h.elim
  | _ :: _, [], _, _, h, _ => h.elim
theorem args_self : ∀ {ds : List D}, ds.all selfC = true → Args hp ks ds ds
  | [], _ => trivial
  | d :: ds, h => by
    simp only [List.all_cons, Bool.and_eq_true] at h
    exact ⟨argA_self h.1, args_self h.2⟩
end fnargs

def Spec.comap {X Y : Type} (s : Spec X) (g : Y → X) : Spec Y := ⟨fun y => s.args (g y), fun y => s.pre (g y), fun y => s.res (g y), fun y => s.new (g y), fun y => s.obs (g y), fun y => s.out (g y)⟩
theorem FnOk.comap {X Y : Type} {s : Spec X} {f : FuncId} (h : FnOk P f s) (g : Y → X) : FnOk P f (s.comap g) := ⟨h.1, fun y hy => h.2 (g y) hy⟩
end Go.Proofs.YtpdkhlpmiblflaaGreat.Abs

