import Derived.Test.YtihgdjflacccmaaAbsA
import Derived.ProofKit
import Derived.Lib.SmallJoins
/- Abs, part 10: all operations in one function; states behind an operation. -/
set_option linter.unusedVariables false
set_option linter.unusedSimpArgs false
namespace Go.Proofs.Ytihgdjflacccmaa.Abs
open Go Go.RowKit
variable {P : Program} {T : TT} {w0 : World} {S : List Nat} {G : Nat → Prop} {hv : Nat → Value} {hp : HP} {w : World}

/-- An operand's abstract value. -/
def evD (sl : List (Nat × D)) : Operand → D
  | .tmp t => (lk t sl).getD .any
  | .const v => cst v
  | .func f => .fn (.func f) [] []
  | .global _ => .any

theorem evD_ok {N : Nat} {L : LF} {F : Nat → Prop} {sl : List (Nat × D)} {a : Act} (h : SInv N L w F sl a) (x : Operand) : Rep L w F (evD sl x) (a.eval x) := by
  cases x with
  | tmp t =>
    simp only [evD, Act.eval]
    cases hl : lk t sl with
    | none => exact (RepP.any _ : RepP w F .any _)
    | some d => exact h.at_ t d hl
  | const v =>
    simp only [evD, Act.eval]
    have h2 := cst_rep (w := w) (F := F) v
    unfold cst at h2 ⊢
    split at h2 <;> exact h2
  | func f => exact ⟨[], [], rfl, trivial, trivial⟩
  | global g => exact (RepP.any _ : RepP w F .any _)

def cellD : D → Bool
  | .agg _ | .tup _ | .fn _ _ _ => false
  | _ => true

def astep (T : TT) (op : Op) (ev : Operand → D) (hp : HP) (h0 : Nat) : Option (Prop × Res) :=
  match op with
  | .move x | .assign x => q (ev x)
  | .pick c a b => match ev c with
    | .val (.bool t) => q (if t then ev a else ev b)
    | _ => none
  | .alloc t => stepAlloc T h0 t
  | .box t x => stepBox h0 t (ev x)
  | .build t parts => stepBuild T t (parts.toList.map fun p => (p.1, ev p.2))
  | .buildSlice t len parts => stepBuildSlice T h0 t len (parts.toList.map fun p => (p.1, ev p.2))
  | .load t a => stepLoad T t hp (ev a)
  | .store t a v => stepStore T t hp (ev a) (ev v)
  | .nilCheck x => match ev x with
    | .ptr h i off => q (.ptr h i off)
    | .rptr sz xs i off => q (.rptr sz xs i off)
    | _ => none
  | .binOp op t x y _ => stepBin T op t (ev x) (ev y)
  | .unOp op _ x => stepUn op (ev x)
  | .convert src dst x => match lk src T with
    | some _ => stepConv T dst (ev x)
    | none => none
  | .makeFunc f fs cs => some ((fs.toList.map ev).all cellD = true ∧ (cs.toList.map ev).all cellD = true, { d := .fn f (fs.toList.map ev) (cs.toList.map ev) })
  | .makeSlice t l c => stepMake T h0 t (ev l) (ev c)
  | .slice t x lo hi none => stepSlice T t hp (ev x) (lo.map ev) (hi.map ev)
  | .fieldAddr s x f => stepFieldAddr T s (ev x) f
  | .field s x f => stepField T s (ev x) f
  | .indexAddr t x ix => stepIndexAddr T t hp (ev x) (ev ix)
  | .index t x ix => stepIndex T t (ev x) (ev ix)
  | .extract x i => stepExtract (ev x) i
  | .call c => match c.callee, c.args.toList, c.argTypes.toList with
    | .builtin .len, [x], [t] => stepLen T t hp (ev x)
    | .builtin .append, [x, y], [t, t'] => if t = t' then stepAppend T h0 t hp (ev x) (ev y) else none
    | .builtin .max, [x, y], _ => stepMax (ev x) (ev y)
    | .builtin .min, [x, y], _ => stepMin (ev x) (ev y)
    | _, _, _ => none
  | _ => none

theorem repParts_of {ev : Operand → D} {a : Act} {L : LF} {F : Nat → Prop} (h : ∀ x, Rep L w F (ev x) (a.eval x)) : ∀ parts : List (Nat × Operand), RepParts L w F (parts.map fun p => (p.1, ev p.2)) (parts.map fun p => (p.1, a.eval p.2))
  | [] => trivial
  | (i, x) :: ps => ⟨rfl, h x, repParts_of h ps⟩

theorem cells_of {ev : Operand → D} {a : Act} {L : LF} {F : Nat → Prop} (h : ∀ x, Rep L w F (ev x) (a.eval x)) : ∀ xs : List Operand, (xs.map ev).all cellD = true → RepL L w F (xs.map ev) (xs.map a.eval)
  | [], _ => trivial
  | x :: xs, hc => by
    simp only [List.map_cons, List.all_cons, Bool.and_eq_true] at hc
    refine ⟨?_, cells_of h xs hc.2⟩
    have h1 := h x
    revert h1
    generalize ev x = d at hc
    intro h1
    cases d <;> first | exact h1 | (simp [cellD] at hc)

theorem optRep {ev : Operand → D} {a : Act} {L : LF} {F : Nat → Prop} (h : ∀ x, Rep L w F (ev x) (a.eval x)) (o : Option Operand) : match o.map ev, o.map a.eval with | none, none => True | some d, some v => Rep L w F d v | _, _ => False := by
  cases o with
  | none => trivial
  | some x => exact h x

/-- What an operation does that is no call of a Go function. -/
theorem astep_ok (hT : TOk P T) (hI : HInv w0 S G hv hp w) {h0 : Nat} (hfresh : lk h0 hp = none) {o : Oper} {a : Act} {ev : Operand → D} (hev : ∀ x, Rep (LOf hv hp) w (FOf G hv hp w) (ev x) (a.eval x)) {pre : Prop} {r : Res}
    (hs : astep T o.op ev hp h0 = some (pre, r)) (hpre : pre) : ∃ v hv' w', Done P o a w v w' ∧ Post w0 S G hv hp w r v hv' w' := by
  unfold astep at hs
  unfold Done
  split at hs
  · rename_i x ho; cases hs; exact ⟨_, hv, w, .inl (by simp [execOp, ho]), post_same hI (hev x)⟩
  · rename_i x ho; cases hs; exact ⟨_, hv, w, .inl (by simp [execOp, ho]), post_same hI (hev x)⟩
  · rename_i c x y ho
    split at hs
    · rename_i t hc
      cases hs
      have h1 := hev c
      rw [hc] at h1
      have h2 := rep_val h1
      refine ⟨if t then a.eval x else a.eval y, hv, w, .inl (by simp [execOp, ho, h2, asBool]), post_same hI ?_⟩
      cases t
      · exact hev y
      · exact hev x
    · cases hs
  · rename_i t ho
    obtain ⟨z, hv', w', hr, hP⟩ := stepAlloc_ok hT hI hfresh hs hpre
    exact ⟨z, hv', w', .inl (by simp [execOp, ho, hr]), hP⟩
  · rename_i t x ho
    obtain ⟨z, hv', w', hr, hP⟩ := stepBox_ok (P := P) hI hfresh (hev x) hs hpre
    exact ⟨z, hv', w', .inl (by simp [execOp, ho, hr]), hP⟩
  · rename_i t parts ho
    obtain ⟨z, hr, hP⟩ := stepBuild_ok (vparts := parts.map fun p => (p.1, a.eval p.2)) hT hI (by simpa using repParts_of hev parts.toList) hs hpre
    exact ⟨z, hv, w, .inl (by simp [execOp, ho, hr]), hP⟩
  · rename_i t len parts ho
    obtain ⟨z, hv', w', hr, hP⟩ := stepBuildSlice_ok (vparts := parts.map fun p => (p.1, a.eval p.2)) hT hI hfresh (by simpa using repParts_of hev parts.toList) hs hpre
    exact ⟨z, hv', w', .inl (by simp [execOp, ho, hr]), hP⟩
  · rename_i t x ho
    obtain ⟨z, hr, hP⟩ := stepLoad_ok hT hI (hev x) hs hpre
    exact ⟨z, hv, w, .inl (by simp [execOp, ho, hr]), hP⟩
  · rename_i t x y ho
    obtain ⟨hv', w', hr, hP⟩ := stepStore_ok hT hI (hev x) (hev y) hs hpre
    exact ⟨undef, hv', w', .inr ⟨by simp [execOp, ho, hr], rfl⟩, hP⟩
  · rename_i x ho
    have h1 := hev x
    split at hs
    · rename_i h i off he
      cases hs
      rw [he] at h1
      obtain ⟨g, m, cap, s, hl, e⟩ := h1
      refine ⟨a.eval x, hv, w, .inl (by simp [execOp, ho, e]), post_same hI ⟨g, m, cap, s, hl, e⟩⟩
    · rename_i sz xs i off he
      cases hs
      rw [he] at h1
      obtain ⟨ad, e, hr⟩ := h1
      refine ⟨a.eval x, hv, w, .inl (by simp [execOp, ho, e]), post_same hI ⟨ad, e, hr⟩⟩
    · cases hs
  · rename_i op t x y yt ho
    obtain ⟨z, hr, hP⟩ := stepBin_ok (ox := x) (oy := y) hT hI (hev x) (hev y) hs hpre
    refine ⟨z, hv, w, .inl ?_, hP⟩
    simp only [execOp, ho]
    rw [Sem.run_bind, hr]
    rfl
  · rename_i op t x ho
    obtain ⟨z, hr, hP⟩ := stepUn_ok (P := P) hI (hev x) hs hpre
    exact ⟨z, hv, w, .inl (by simp [execOp, ho, hr]), hP⟩
  · rename_i src dst x ho
    split at hs
    · rename_i ti hl
      obtain ⟨d, hd, _⟩ := TI.under (hT _ _ hl) rfl
      obtain ⟨z, hr, hP⟩ := stepConv_ok hT hI ⟨d, hd⟩ (hev x) hs hpre
      exact ⟨z, hv, w, .inl (by simp [execOp, ho, hr]), hP⟩
    · cases hs
  · rename_i f fs cs ho
    cases hs
    refine ⟨.func f (fs.map a.eval) (cs.map a.eval), hv, w, .inl (by simp [execOp, ho, Instr.makeFunc]), post_same hI ⟨fs.toList.map a.eval, cs.toList.map a.eval, by congr 1 <;> exact Array.ext' (by simp), cells_of hev _ hpre.1, cells_of hev _ hpre.2⟩⟩
  · rename_i t l c ho
    obtain ⟨z, hv', w', hr, hP⟩ := stepMake_ok hT hI hfresh (hev l) (hev c) hs hpre
    exact ⟨z, hv', w', .inl (by simp [execOp, ho, hr]), hP⟩
  · rename_i t x lo hi ho
    obtain ⟨z, hr, hP⟩ := stepSlice_ok hT hI (hev x) (optRep hev lo) (optRep hev hi) hs hpre
    exact ⟨z, hv, w, .inl (by simp [execOp, ho, hr]), hP⟩
  · rename_i s x f ho
    obtain ⟨z, hr, hP⟩ := stepFieldAddr_ok hT hI (hev x) hs hpre
    exact ⟨z, hv, w, .inl (by simp [execOp, ho, hr]), hP⟩
  · rename_i s x f ho
    obtain ⟨z, hr, hP⟩ := stepField_ok hT hI (hev x) hs hpre
    exact ⟨z, hv, w, .inl (by simp [execOp, ho, hr]), hP⟩
  · rename_i t x ix ho
    obtain ⟨z, hr, hP⟩ := stepIndexAddr_ok hT hI (hev x) (hev ix) hs hpre
    exact ⟨z, hv, w, .inl (by simp [execOp, ho, hr]), hP⟩
  · rename_i t x ix ho
    obtain ⟨z, hr, hP⟩ := stepIndex_ok hT hI (hev x) (hev ix) hs hpre
    exact ⟨z, hv, w, .inl (by simp [execOp, ho, hr]), hP⟩
  · rename_i x i ho
    obtain ⟨z, hr, hP⟩ := stepExtract_ok (P := P) hI (hev x) hs hpre
    exact ⟨z, hv, w, .inl (by simp [execOp, ho, hr]), hP⟩
  · rename_i c ho
    obtain ⟨callee, args, argTypes⟩ := c
    split at hs
    · rename_i x t hc ha ht
      simp only at hc ha ht
      obtain rfl : args = #[x] := Array.ext' ha
      obtain rfl : argTypes = #[t] := Array.ext' ht
      subst hc
      obtain ⟨z, hr, hP⟩ := stepLen_ok (ty := o.type) hT hI (hev x) hs hpre
      exact ⟨z, hv, w, .inl (by simp [execOp, ho, resolve, invoke, builtin, hr]), hP⟩
    · rename_i x y t t' hc ha ht
      simp only at hc ha ht
      obtain rfl : args = #[x, y] := Array.ext' ha
      obtain rfl : argTypes = #[t, t'] := Array.ext' ht
      subst hc
      split at hs
      · rename_i e
        subst e
        obtain ⟨z, hv', w', hr, hP⟩ := stepAppend_ok (ty := o.type) hT hI hfresh (hev x) (hev y) hs hpre
        exact ⟨z, hv', w', .inl (by simp [execOp, ho, resolve, invoke, builtin, hr]), hP⟩
      · cases hs
    · rename_i x y hc ha
      simp only at hc ha
      obtain rfl : args = #[x, y] := Array.ext' ha
      subst hc
      obtain ⟨z, hr, hP⟩ := stepMax_ok (P := P) (ts := argTypes) (t := o.type) hI (hev x) (hev y) hs hpre
      exact ⟨z, hv, w, .inl (by simp [execOp, ho, resolve, invoke, builtin, hr]), hP⟩
    · rename_i x y hc ha
      simp only at hc ha
      obtain rfl : args = #[x, y] := Array.ext' ha
      subst hc
      obtain ⟨z, hr, hP⟩ := stepMin_ok (P := P) (ts := argTypes) (t := o.type) hI (hev x) (hev y) hs hpre
      exact ⟨z, hv, w, .inl (by simp [execOp, ho, resolve, invoke, builtin, hr]), hP⟩
    · cases hs
  · cases hs
end Go.Proofs.Ytihgdjflacccmaa.Abs

/- Abs, part 11: states, regions in the order of the text, and the rules of code. -/
set_option linter.unusedVariables false
set_option linter.unusedSimpArgs false
namespace Go.Proofs.Ytihgdjflacccmaa.Abs
open Go Go.RowKit

def putSl (dst : Option Tmp) (d : D) (sl : List (Nat × D)) : List (Nat × D) := match dst with | some t => (t, d) :: sl | none => sl
def killSl (dead : Option Nat) (sl : List (Nat × D)) : List (Nat × D) := match dead with | some h => sl.map (fun p => (p.1, kill h p.2)) | none => sl
def St.app (st : St) (dst : Option Tmp) (r : Res) : St := ⟨putSl dst r.d (killSl r.dead st.sl), r.hpOf st.hp, st.nx + r.new.length⟩

/-- The keys of an operation's new objects are the next ones. -/
def NewKeys (nx : Nat) (new : List (Nat × Ob)) : Prop := ∀ p ∈ new, nx ≤ p.1 ∧ p.1 < nx + new.length

theorem lk_mem {α : Type} : ∀ {l : List (Nat × α)} {k : Nat} {v : α}, lk k l = some v → (k, v) ∈ l
  | (k', v') :: l, k, v, h => by
    rw [lk_cons] at h
    split at h
    · rename_i e; subst e; cases h; simp
    · exact List.mem_cons_of_mem _ (lk_mem h)
  | [], _, _, h => by simp [lk] at h

theorem lk_append {α : Type} : ∀ (l m : List (Nat × α)) (k : Nat), lk k (l ++ m) = (lk k l).or (lk k m)
  | [], m, k => by simp [lk]
  | (k', v) :: l, m, k => by
    simp only [List.cons_append, lk_cons]
    split
    · simp
    · exact lk_append l m k

theorem lk_updHP : ∀ (u : List (Nat × Ob)) (hp : HP) (k : Nat) (ob : Ob), lk k (updHP u hp) = some ob → ∃ ob', lk k hp = some ob'
  | [], hp, k, ob, h => ⟨ob, h⟩
  | (h, o) :: u, hp, k, ob, hh => by
    obtain ⟨ob', h1⟩ := lk_updHP u _ k ob hh
    rw [lk_hset] at h1
    by_cases e : k = h
    · subst e
      cases h2 : lk k hp with
      | none => simp [h2] at h1
      | some o2 => exact ⟨o2, rfl⟩
    · rw [if_neg e] at h1; exact ⟨ob', h1⟩

theorem keys_app {r : Res} {hp : HP} {nx : Nat} (hk : ∀ h ob, lk h hp = some ob → h < nx) (hn : NewKeys nx r.new) : ∀ h ob, lk h (r.hpOf hp) = some ob → h < nx + r.new.length := fun h ob hl => by
  unfold Res.hpOf at hl
  rw [lk_append] at hl
  cases hnew : lk h r.new with
  | some o => exact (hn _ (lk_mem hnew)).2
  | none =>
    rw [hnew] at hl
    simp only [Option.none_or] at hl
    obtain ⟨ob', h1⟩ := lk_updHP _ _ _ _ hl
    have : ∃ o, lk h hp = some o := by
      split at h1
      · rw [lk_killHP] at h1
        cases h2 : lk h hp with
        | none => simp [h2] at h1
        | some o => exact ⟨o, rfl⟩
      · exact ⟨_, h1⟩
    obtain ⟨o, h2⟩ := this
    have := hk h o h2
    omega

theorem old_key {r : Res} {hp : HP} {nx : Nat} (hn : NewKeys nx r.new) {h : Nat} {ob : Ob} (hl : lk h (r.hpOf hp) = some ob) (hlt : h < nx) : ∃ o, lk h hp = some o := by
  unfold Res.hpOf at hl
  rw [lk_append] at hl
  cases hnew : lk h r.new with
  | some o => have := (hn _ (lk_mem hnew)).1; simp at this; omega
  | none =>
    rw [hnew] at hl
    simp only [Option.none_or] at hl
    obtain ⟨ob', h1⟩ := lk_updHP _ _ _ _ hl
    split at h1
    · rw [lk_killHP] at h1
      cases h2 : lk h hp with
      | none => simp [h2] at h1
      | some o => exact ⟨o, rfl⟩
    · exact ⟨_, h1⟩

theorem lk_killSl {h : Nat} : ∀ {sl : List (Nat × D)} {t : Nat} {d : D}, lk t (sl.map (fun p => (p.1, kill h p.2))) = some d → ∃ d0, lk t sl = some d0 ∧ d = kill h d0
  | (t', d') :: sl, t, d, hl => by
    simp only [List.map_cons, lk_cons] at hl ⊢
    split at hl
    · rename_i e; cases hl; exact ⟨d', by simp [e], rfl⟩
    · rename_i e; simp only [e, if_false]; exact lk_killSl hl
  | [], t, d, hl => by simp [lk] at hl

theorem sinv_put {N : Nat} {L : LF} {w : World} {F : Nat → Prop} {sl : List (Nat × D)} {a : Act} (h : SInv N L w F sl a) {dst : Option Tmp} (hd : ∀ t, dst = some t → t < N) {d : D} {v : Value} (hr : Rep L w F d v) : SInv N L w F (putSl dst d sl) (a.put dst v) := by
  cases dst with
  | none => exact h
  | some t =>
    have ht := hd t rfl
    refine ⟨h.defers, by simpa [Act.put] using h.size, fun t' d' hl => ?_⟩
    simp only [putSl, lk_cons] at hl
    have hsz := h.size
    split at hl
    · rename_i e
      subst e
      cases hl
      have : (a.put (some t') v).tmps.getD t' undef = v := by
        simp [Act.put, Array.getD_eq_getD_getElem?, Array.getElem?_setIfInBounds, hsz, ht]
      rw [this]
      exact hr
    · rename_i e
      have : (a.put (some t) v).tmps.getD t' undef = a.tmps.getD t' undef := by
        simp [Act.put, Array.getD_eq_getD_getElem?, Array.getElem?_setIfInBounds, Ne.symm e]
      rw [this]
      exact h.at_ t' d' hl

variable {C : Ctx} {T : TT}

/-- What one operation does to a state, said for all worlds that the state stands for. -/
def OpRel (P : Program) (o : Oper) (ev : Operand → D) (hp : HP) (nx : Nat) (r : Res) : Prop :=
  (NewKeys nx r.new ∧ r.dead = none) ∧ ∀ (w0 : World) (S : List Nat) (G : Nat → Prop) (hv : Nat → Value) (a : Act) (w : World), HInv w0 S G hv hp w → (∀ h ob, lk h hp = some ob → h < nx) → (∀ x, Rep (LOf hv hp) w (FOf G hv hp w) (ev x) (a.eval x)) →
    ∀ (K : Act → World → Prop) (Q : Exit → Act → World → Prop), (∀ v hv' w', Post w0 S G hv hp w r v hv' w' → K (a.put o.dst v) w') → o.wp P a w K Q

/-- The objects that came in keep their blocks. -/
def deadOk (m : Nat) (r : Res) : Bool := match r.dead with | some h => decide (m ≤ h) | none => true
def aop (P : Program) (T : TT) (m : Nat) (o : Oper) (st : St) (K : St → Prop) : Prop :=
  match astep T o.op (evD st.sl) st.hp st.nx with
  | some (pre, r) => pre ∧ deadOk m r = true ∧ K (st.app o.dst r)
  | none => ∃ r, OpRel P o (evD st.sl) st.hp st.nx r ∧ K (st.app o.dst r)

theorem astep_new {op : Op} {ev : Operand → D} {hp : HP} {h0 : Nat} {pre : Prop} {r : Res} (h : astep T op ev hp h0 = some (pre, r)) : r.new = [] ∨ ∃ ob, r.new = [(h0, ob)] := by
  unfold astep stepAlloc stepBox stepBuild stepBuildSlice stepLoad stepStore stepBin binI binS binShift stepUn stepConv stepMake stepSlice stepFieldAddr stepField stepIndexAddr stepIndex stepExtract stepLen stepAppend stepMax stepMin q qp at h
  (repeat' split at h) <;> first | cases h; done | (cases h; first | exact .inl rfl | exact .inr ⟨_, rfl⟩)

theorem newKeys_of {h0 : Nat} {new : List (Nat × Ob)} (h : new = [] ∨ ∃ ob, new = [(h0, ob)]) : NewKeys h0 new := by
  rcases h with rfl | ⟨ob, rfl⟩
  · intro p hp; simp at hp
  · intro p hp; simp at hp; subst hp; simp

theorem oprel_of_astep {P : Program} (hT : TOk P T) {o : Oper} {ev : Operand → D} {hp : HP} {nx : Nat} {pre : Prop} {r : Res} (hs : astep T o.op ev hp nx = some (pre, r)) (hpre : pre) :
    ∀ (w0 : World) (S : List Nat) (G : Nat → Prop) (hv : Nat → Value) (a : Act) (w : World), HInv w0 S G hv hp w → (∀ h ob, lk h hp = some ob → h < nx) → (∀ x, Rep (LOf hv hp) w (FOf G hv hp w) (ev x) (a.eval x)) →
    ∀ (K : Act → World → Prop) (Q : Exit → Act → World → Prop), (∀ v hv' w', Post w0 S G hv hp w r v hv' w' → K (a.put o.dst v) w') → o.wp P a w K Q := by
  refine (fun w0 S G hv a w hI hk hev K Q hK => ?_)
  have hfresh : lk nx hp = none := by
    cases h : lk nx hp with
    | none => rfl
    | some ob => have := hk nx ob h; omega
  obtain ⟨v, hv', w', hdone, hP⟩ := astep_ok hT hI hfresh hev hs hpre
  unfold Oper.wp
  rcases hdone with h1 | ⟨h1, rfl⟩
  · rw [h1]; exact hK v hv' w' hP
  · rw [h1]; exact hK _ hv' w' hP

theorem inv_app {st : St} {a : Act} {w : World} {hv : Nat → Value} (hk : ∀ h ob, lk h st.hp = some ob → h < st.nx) (hm : C.m ≤ st.nx) (hpin : ∀ h ob, lk h st.hp = some ob → h < C.m → hv h = C.hv0 h)
    (hS : SInv C.N (LOf hv st.hp) w (FOf C.G hv st.hp w) st.sl a) {dst : Option Tmp} (hd : ∀ t, dst = some t → t < C.N) {r : Res} (hn : NewKeys st.nx r.new) (hdead : ∀ h, r.dead = some h → C.m ≤ h)
    {v : Value} {hv' : Nat → Value} {w' : World} (hP : Post C.w0 C.S C.G hv st.hp w r v hv' w') : Inv C (st.app dst r) (a.put dst v) w' := by
  refine ⟨hv', hP.inv, keys_app hk hn, Nat.le_trans hm (Nat.le_add_right _ _), fun h ob hl hlt => ?_, sinv_put ⟨hS.defers, hS.size, fun t d hl => ?_⟩ hd hP.rep⟩
  · obtain ⟨o, ho⟩ := old_key hn hl (by omega)
    rw [hP.same h o ho (fun e => by have := hdead h e; omega)]
    exact hpin h o ho hlt
  · have hold := hP.old
    unfold killSl at hl
    split at hl
    · rename_i h hdead
      obtain ⟨d0, h1, rfl⟩ := lk_killSl hl
      have := hold d0 _ (hS.at_ t d0 h1)
      simp only [Res.kills, hdead] at this
      exact this
    · rename_i hdead
      have := hold d _ (hS.at_ t d hl)
      simp only [Res.kills, hdead] at this
      exact this

/-- A guard's answer. -/
def guardD (ops : List Oper) (j : Nat) (sl : List (Nat × D)) : Option Bool :=
  match (ops[j]?).bind (·.dst) with
  | some t => match lk t sl with
    | some (.val (.bool b)) => some b
    | _ => none
  | none => none

/-- A region's operations, in the order of the text. -/
def areg (P : Program) (T : TT) (m : Nat) (ops : List Oper) : List Oper → St → (St → Prop) → Prop
  | [], st, K => K st
  | o :: l, st, K =>
    match o.guard with
    | none => aop P T m o st (fun st' => areg P T m ops l st' K)
    | some (j, want) =>
      match guardD ops j st.sl with
      | some b => (b = want → aop P T m o st (fun st' => areg P T m ops l st' K)) ∧ (b = !want → areg P T m ops l ⟨putSl o.dst .any st.sl, st.hp, st.nx⟩ K)
      | none => False

def dstsOk (N : Nat) (ops : List Oper) : Bool := ops.all fun o => match o.dst with | some t => decide (t < N) | none => true

theorem aop_wp {P : Program} {m : Nat} (hT : TOk P T) (hP : C.P = P) (hCm : C.m = m) {o : Oper} {st : St} {K : St → Prop} {a : Act} {w : World} (hI : Inv C st a w) (hd : ∀ t, o.dst = some t → t < C.N) (h : aop P T m o st K) {K' : Act → World → Prop} {Q : Exit → Act → World → Prop}
    (hK : ∀ st' a' w', K st' → Inv C st' a' w' → K' a' w') : o.wp P a w K' Q := by
  obtain ⟨hv, hH, hk, hm, hpin, hS⟩ := hI
  have hev := evD_ok hS
  unfold aop at h
  split at h
  · rename_i pre r hs
    exact oprel_of_astep hT hs h.1 C.w0 C.S C.G hv a w hH hk hev K' Q (fun v hv' w' hPost => hK _ _ _ h.2.2 (inv_app hk hm hpin hS hd (newKeys_of (astep_new hs)) (fun k hk => by
      have := h.2.1
      simp only [deadOk, hk, decide_eq_true_eq] at this
      omega) hPost))
  · obtain ⟨r, hr, hKr⟩ := h
    exact hr.2 C.w0 C.S C.G hv a w hH hk hev K' Q (fun v hv' w' hPost => hK _ _ _ hKr (inv_app hk hm hpin hS hd hr.1.1 (fun k hk => by rw [hr.1.2] at hk; cases hk) hPost))

theorem guardD_ok {ops : List Oper} {j : Nat} {sl : List (Nat × D)} {b : Bool} {N : Nat} {L : LF} {w : World} {F : Nat → Prop} {a : Act} (h : guardD ops j sl = some b) (hS : SInv N L w F sl a) (hN : ∀ t, (ops[j]?).bind (·.dst) = some t → t < N) : yielded ops.toArray a.tmps j = some b := by
  unfold guardD at h
  split at h
  · rename_i t ht
    split at h
    · rename_i b' hl
      cases h
      have h1 := rep_val (hS.at_ t _ hl)
      have hlt : t < a.tmps.size := by rw [hS.size]; exact hN t ht
      have h2 : a.tmps[t]? = some (.bool b) := by
        rw [Array.getD_eq_getD_getElem?, Array.getElem?_eq_getElem hlt] at h1
        rw [Array.getElem?_eq_getElem hlt]
        simpa using h1
      have ht' : (ops.toArray[j]?).bind (·.dst) = some t := by simpa using ht
      unfold yielded
      rw [ht']
      simp only [Option.bind_some, h2]
    · cases h
  · cases h

theorem areg_wp {P : Program} {m : Nat} (hT : TOk P T) (hP : C.P = P) (hCm : C.m = m) {ops : List Oper} (hd0 : dstsOk C.N ops = true) {Q : Exit → Act → World → Prop} : ∀ (l : List Oper) (st : St) (a : Act) (w : World) (K : St → Prop), (∀ o ∈ l, o ∈ ops) → Inv C st a w → areg P T m ops l st K →
    (∀ st' a' w', K st' → Inv C st' a' w' → Q .normal a' w') → wpList P ops.toArray Q l a w
  | [], st, a, w, K, _, hI, h, hK => hK st a w h hI
  | o :: l, st, a, w, K, hsub, hI, h, hK => by
    have hdst : ∀ o ∈ ops, ∀ t, o.dst = some t → t < C.N := fun o ho t ht => by
      have := List.all_eq_true.1 hd0 o ho
      simpa [ht] using this
    have hd := hdst o (hsub o (by simp))
    have ih := areg_wp hT hP hCm hd0 (Q := Q) l
    simp only [areg] at h
    refine wpList_step (fun K' hK' => ?_)
    cases hg : o.guard with
    | none =>
      rw [hg] at h
      simp only [Region.wanted, hg, if_true]
      exact aop_wp hT hP hCm hI hd h (fun st' a' w' h1 h2 => hK' _ _ (ih st' a' w' K (fun o ho => hsub o (by simp [ho])) h2 h1 hK))
    | some jw =>
      obtain ⟨j, want⟩ := jw
      rw [hg] at h
      simp only at h
      split at h
      · rename_i b hb
        obtain ⟨hv, hH, hk, hm, hpin, hS⟩ := hI
        have hy := guardD_ok hb hS (fun t ht => by
          cases hj : ops[j]? with
          | none => simp [hj] at ht
          | some oj => exact hdst oj (List.mem_of_getElem? hj) t (by simpa [hj] using ht))
        simp only [Region.wanted, hg, hy]
        by_cases hbw : b = want
        · subst hbw
          simp only [beq_self_eq_true, if_true]
          exact aop_wp hT hP hCm ⟨hv, hH, hk, hm, hpin, hS⟩ hd (h.1 rfl) (fun st' a' w' h1 h2 => hK' _ _ (ih st' a' w' K (fun o ho => hsub o (by simp [ho])) h2 h1 hK))
        · have hnb : b = !want := by cases b <;> cases want <;> simp_all
          have : (some b == some want) = false := by simpa using hbw
          rw [if_neg (by simpa using hbw)]
          exact hK' _ _ (ih ⟨putSl o.dst .any st.sl, st.hp, st.nx⟩ _ _ K (fun o ho => hsub o (by simp [ho])) ⟨hv, hH, hk, hm, hpin, sinv_put hS hd (d := .any) (v := undef) (RepP.any _ : RepP w (FOf C.G hv st.hp w) .any _)⟩ (h.2 hnb) hK)
      · exact h.elim

/-! ### Code -/
def awp (C : Ctx) (c : Code) (Q : Exit → St → Prop) (st : St) : Prop := ∀ a w, Inv C st a w → c.wp C.P (fun e a' w' => ∃ st', Q e st' ∧ Inv C st' a' w') a w

def thenA (next : St → Prop) (Q : Exit → St → Prop) : Exit → St → Prop
  | .normal, st => next st
  | e, st => Q e st
def blockA (id : Nat) (Q : Exit → St → Prop) : Exit → St → Prop
  | .exit id', st => if id' = id then Q .normal st else Q (.exit id') st
  | e, st => Q e st

variable {Q : Exit → St → Prop} {st : St}

theorem awp_mono {c : Code} {Q' : Exit → St → Prop} (h : awp C c Q st) (hq : ∀ e st, Q e st → Q' e st) : awp C c Q' st := fun a w hI =>
  wp_mono (h a w hI) (fun e a' w' ⟨st', h1, h2⟩ => ⟨st', hq _ _ h1, h2⟩)
theorem awp_skip (h : Q .normal st) : awp C .skip Q st := fun a w hI => wp_skip ⟨st, h, hI⟩
theorem awp_exit {id : Nat} (h : Q (.exit id) st) : awp C (.exit id) Q st := fun a w hI => wp_exit ⟨st, h, hI⟩
theorem awp_ret (h : Q .ret st) : awp C .ret Q st := fun a w hI => wp_ret ⟨st, h, hI⟩
theorem awp_seq {x y : Code} (h : awp C x (thenA (awp C y Q) Q) st) : awp C (.seq x y) Q st := fun a w hI => by
  refine wp_seq (wp_mono (h a w hI) (fun e a' w' ⟨st', h1, h2⟩ => ?_))
  cases e with
  | normal => exact h1 a' w' h2
  | _ => exact ⟨st', h1, h2⟩
theorem awp_cond {c : Operand} {x y : Code} {t : Bool} (hc : evD st.sl c = .val (.bool t)) (ht : t = true → awp C x Q st) (hf : t = false → awp C y Q st) : awp C (.cond c x y) Q st := fun a w hI => by
  obtain ⟨hv, hH, hk, hm, hpin, hS⟩ := hI
  have h1 := evD_ok hS c
  rw [hc] at h1
  refine wp_cond_split (rep_val h1) (fun e => ht e a w ⟨hv, hH, hk, hm, hpin, hS⟩) (fun e => hf e a w ⟨hv, hH, hk, hm, hpin, hS⟩)
theorem awp_block {id : Nat} {c : Code} (h : awp C c (blockA id Q) st) : awp C (.block id c) Q st := fun a w hI => by
  refine wp_block (wp_mono (h a w hI) (fun e a' w' ⟨st', h1, h2⟩ => ?_))
  cases e with
  | exit id' =>
    simp only [blockA] at h1
    simp only [Exit.inBlock]
    split
    · rename_i e; rw [if_pos e] at h1; exact ⟨st', h1, h2⟩
    · rename_i e; rw [if_neg e] at h1; exact ⟨st', h1, h2⟩
  | _ => exact ⟨st', h1, h2⟩
theorem awp_region {P : Program} {m N : Nat} (hT : TOk P T) (hP : C.P = P) (hCm : C.m = m) (hN : C.N = N) {id : Nat} {l : List Oper} (hd : dstsOk N l = true) (h : areg P T m l l st (Q .normal)) : awp C (.region id l.toArray false) Q st := fun a w hI => by
  subst hP
  exact wp_region_lit (areg_wp hT rfl hCm (hN ▸ hd) l st a w _ (fun o h => h) hI h (fun st' a' w' h1 h2 => ⟨st', h1, h2⟩))

/-- What a state says less of. -/
def Weak (C : Ctx) (st st' : St) : Prop := ∀ a w, Inv C st a w → Inv C st' a w
theorem Weak.refl (C : Ctx) (st : St) : Weak C st st := fun _ _ h => h
theorem awp_weak {c : Code} {st' : St} (hw : Weak C st st') (h : awp C c Q st') : awp C c Q st := fun a w hI => h a w (hw a w hI)

theorem least_exists {p : Nat → Prop} (h : ∃ n, p n) : ∃ n, p n ∧ ∀ m, p m → n ≤ m := by
  obtain ⟨n, hn⟩ := h
  induction n using Nat.strongRecOn with
  | _ n ih =>
    by_cases hm : ∃ m, m < n ∧ p m
    · obtain ⟨m, hlt, hpm⟩ := hm
      exact ih m hlt hpm
    · exact ⟨n, hn, fun m hpm => by
        rcases Nat.lt_or_ge m n with h | h
        · exact absurd ⟨m, h, hpm⟩ hm
        · exact h⟩

/-- A loop: what holds at every round's head, by how much is left. -/
theorem awp_loop {c : Code} (I : Nat → St → Prop) (n : Nat) (h0 : ∃ st', Weak C st st' ∧ I n st') (round : ∀ n st, I n st → awp C c (thenA (fun st' => ∃ m st'', m < n ∧ Weak C st' st'' ∧ I m st'') Q) st) : awp C (.loop c) Q st := fun a w hI => by
  obtain ⟨st0, hw0, hI0⟩ := h0
  let J : Act → World → Nat → Prop := fun a w n => ∃ st, I n st ∧ Inv C st a w
  have μ : ∀ a w, ∃ k : Nat, ∀ n, J a w n → (J a w k ∧ k ≤ n) := fun a w => by
    by_cases h : ∃ n, J a w n
    · obtain ⟨k, hk, hle⟩ := least_exists h
      exact ⟨k, fun n hn => ⟨hk, hle n hn⟩⟩
    · exact ⟨0, fun n hn => absurd ⟨n, hn⟩ h⟩
  refine wp_loop (fun a w => ∃ n, J a w n) (fun a w => Classical.choose (μ a w)) ⟨n, st0, hI0, hw0 a w hI⟩ (fun a w hJ => ?_)
  obtain ⟨n1, hn1⟩ := hJ
  have hk := Classical.choose_spec (μ a w)
  generalize hkd : Classical.choose (μ a w) = k at hk ⊢
  obtain ⟨st1, h1, h2⟩ := (hk n1 hn1).1
  refine wp_mono (round k st1 h1 a w h2) (fun e a' w' ⟨st', h3, h4⟩ => ?_)
  cases e with
  | normal =>
    obtain ⟨m, st'', hlt, hwk, hIm⟩ := h3
    have hJ' : J a' w' m := ⟨st'', hIm, hwk a' w' h4⟩
    exact ⟨⟨m, hJ'⟩, Nat.lt_of_le_of_lt ((Classical.choose_spec (μ a' w')) m hJ').2 hlt⟩
  | _ => exact ⟨st', h3, h4⟩
end Go.Proofs.Ytihgdjflacccmaa.Abs

/- Abs, part 12: contracts of functions, and how a call takes them. -/
set_option linter.unusedVariables false
set_option linter.unusedSimpArgs false
namespace Go.Proofs.Ytihgdjflacccmaa.Abs
open Go Go.RowKit

def numbered : Nat → List Ob → HP
  | _, [] => []
  | k, o :: l => (k, o) :: numbered (k + 1) l
def numD : Nat → List D → List (Nat × D)
  | _, [] => []
  | k, d :: l => (k, d) :: numD (k + 1) l

theorem lk_numbered : ∀ (l : List Ob) (k i : Nat), lk i (numbered k l) = if k ≤ i then l[i - k]? else none
  | [], k, i => by simp [numbered, lk]
  | o :: l, k, i => by
    simp only [numbered, lk_cons, lk_numbered l (k + 1) i]
    by_cases h : i = k
    · subst h; simp
    · rw [if_neg h]
      by_cases h2 : k + 1 ≤ i
      · rw [if_pos h2, if_pos (by omega), show i - k = (i - (k + 1)) + 1 by omega, List.getElem?_cons_succ]
      · rw [if_neg h2, if_neg (by omega)]
theorem lk_numD : ∀ (l : List D) (k i : Nat), lk i (numD k l) = if k ≤ i then l[i - k]? else none
  | [], k, i => by simp [numD, lk]
  | o :: l, k, i => by
    simp only [numD, lk_cons, lk_numD l (k + 1) i]
    by_cases h : i = k
    · subst h; simp
    · rw [if_neg h]
      by_cases h2 : k + 1 ≤ i
      · rw [if_pos h2, if_pos (by omega), show i - k = (i - (k + 1)) + 1 by omega, List.getElem?_cons_succ]
      · rw [if_neg h2, if_neg (by omega)]

/-- What a function does: its arguments (handles 0, 1, .. are the objects 'obs' that it may turn), what it asks, what becomes of these objects, its result, and the objects that it hands back (their handles go on behind those of 'obs'). -/
structure Spec (X : Type) where
  args : X → List D
  pre : X → Prop := fun _ => True
  res : X → D
  new : X → List Ob := fun _ => []
  obs : X → List Ob := fun _ => []
  out : X → List Ob := fun _ => []

def FnOk {X : Type} (P : Program) (f : FuncId) (s : Spec X) : Prop :=
  (∀ args w, (callFunc f args).run P w = .ok (.enter f args) w) ∧
  ∀ x, s.pre x → (s.out x).map Ob.sz = (s.obs x).map Ob.sz ∧ ∀ (w : World) (S : List Nat) (G : Nat → Prop) (hv : Nat → Value) (vs : List Value), (∀ b, w.heap.size ≤ b → G b) →
    HInv w S G hv (numbered 0 (s.obs x)) w → RepAL (LOf hv (numbered 0 (s.obs x))) w (FOf G hv (numbered 0 (s.obs x)) w) (s.args x) vs →
    Calls P f vs.toArray w (fun e w' => ∃ v hv', e = .returned v ∧ HInv w S G hv' (numbered 0 (s.out x ++ s.new x)) w' ∧ (∀ i, i < (s.obs x).length → hv' i = hv i) ∧
      Rep (LOf hv' (numbered 0 (s.out x ++ s.new x))) w' (FOf G hv' (numbered 0 (s.out x ++ s.new x)) w') (s.res x) v)

/-! ### Other handles for a value's handles -/
def renC (ks : List Nat) : D → Option D
  | .own i => (ks[i]?).map .own
  | .vw i lo n => (ks[i]?).map fun k => .vw k lo n
  | .cvw i a b c n => (ks[i]?).map fun k => .cvw k a b c n
  | .ptr i a b => (ks[i]?).map fun k => .ptr k a b
  | .agg _ | .tup _ | .fn _ _ _ => none
  | d => some d
def renCL (ks : List Nat) : List D → Option (List D)
  | [] => some []
  | d :: ds => match renC ks d, renCL ks ds with
    | some e, some es => some (e :: es)
    | _, _ => none
def renA (ks : List Nat) : D → Option D
  | .agg cs => (renCL ks cs).map .agg
  | .fn f fs cs => match renCL ks fs, renCL ks cs with
    | some es, some ds => some (.fn f es ds)
    | _, _ => none
  | d => renC ks d
def renAL (ks : List Nat) : List D → Option (List D)
  | [] => some []
  | d :: ds => match renA ks d, renAL ks ds with
    | some e, some es => some (e :: es)
    | _, _ => none
def ren (ks : List Nat) : D → Option D
  | .tup ds => (renAL ks ds).map .tup
  | d => renA ks d

section ren
variable {L L' : LF} {w : World} {F F' : Nat → Prop} {ks : List Nat}
/-- From the old handles to the new ones. -/
theorem renC_rep (hL : ∀ (i k : Nat) x, ks[i]? = some k → L i = some x → L' k = some x) (hF : ∀ b, F b → F' b) {d e : D} {v : Value} (h : renC ks d = some e) (hr : RepC L w F d v) : RepC L' w F' e v := by
  have hF' : ∀ b, F b → F' b ∧ w.heap[b]? = w.heap[b]? := fun b hb => ⟨hF b hb, rfl⟩
  cases d <;> simp only [renC, Option.map_eq_some_iff, reduceCtorEq, Option.some.injEq] at h
  case own i => obtain ⟨k, hk, rfl⟩ := h; obtain ⟨s, hs⟩ := hr; exact ⟨s, hL _ _ _ hk hs⟩
  case vw i lo n => obtain ⟨k, hk, rfl⟩ := h; obtain ⟨A, c, m, cap, s, a, e, hl, r⟩ := hr; exact ⟨A, c, m, cap, s, a, e, hL _ _ _ hk hl, r⟩
  case cvw i a b c n => obtain ⟨k, hk, rfl⟩ := h; obtain ⟨g, m, cap, s, c, hl, r⟩ := hr; exact ⟨g, m, cap, s, c, hL _ _ _ hk hl, r⟩
  case ptr i a b => obtain ⟨k, hk, rfl⟩ := h; obtain ⟨g, m, cap, s, hl, r⟩ := hr; exact ⟨g, m, cap, s, hL _ _ _ hk hl, r⟩
  case rptr => subst h; obtain ⟨ad, e, hrow⟩ := hr; exact ⟨ad, e, hrow.mono hF'⟩
  all_goals (subst h; exact RepP.mono hF' hr)
theorem renCL_rep (hL : ∀ (i k : Nat) x, ks[i]? = some k → L i = some x → L' k = some x) (hF : ∀ b, F b → F' b) : ∀ {ds es : List D} {vs : List Value}, renCL ks ds = some es → RepL L w F ds vs → RepL L' w F' es vs
  | [], es, [], h, _ => by simp [renCL] at h; subst h; trivial
  | d :: ds, es, v :: vs, h, hr => by
    simp only [renCL] at h
    split at h
    · rename_i e es' h1 h2
      cases h
      exact ⟨renC_rep hL hF h1 hr.1, renCL_rep hL hF h2 hr.2⟩
    · cases h
  | [], _, _ :: _, _, hr => hr.elim
  | _ :: _, _, [], _, hr => hr.elim
theorem renA_rep (hL : ∀ (i k : Nat) x, ks[i]? = some k → L i = some x → L' k = some x) (hF : ∀ b, F b → F' b) {d e : D} {v : Value} (h : renA ks d = some e) (hr : RepA L w F d v) : RepA L' w F' e v := by
  have one : ∀ d e, renC ks d = some e → RepC L w F d v → RepA L' w F' e v := fun d e h hr => by
    have := renC_rep hL hF h hr
    cases e <;> first | exact this | exact this.elim
  cases d
  case agg cs =>
    simp only [renA, Option.map_eq_some_iff] at h
    obtain ⟨es, h1, rfl⟩ := h
    obtain ⟨vs, e, hr, ho⟩ := hr
    exact ⟨vs, e, renCL_rep hL hF h1 hr, ho⟩
  case fn f fs cs =>
    simp only [renA] at h
    split at h
    · rename_i es ds h1 h2
      cases h
      obtain ⟨us, vs, e, hr1, hr2⟩ := hr
      exact ⟨us, vs, e, renCL_rep hL hF h1 hr1, renCL_rep hL hF h2 hr2⟩
    · cases h
  all_goals (simp only [renA] at h; exact one _ e h hr)
theorem renAL_rep (hL : ∀ (i k : Nat) x, ks[i]? = some k → L i = some x → L' k = some x) (hF : ∀ b, F b → F' b) : ∀ {ds es : List D} {vs : List Value}, renAL ks ds = some es → RepAL L w F ds vs → RepAL L' w F' es vs
  | [], es, [], h, _ => by simp [renAL] at h; subst h; trivial
  | d :: ds, es, v :: vs, h, hr => by
    simp only [renAL] at h
    split at h
    · rename_i e es' h1 h2
      cases h
      exact ⟨renA_rep hL hF h1 hr.1, renAL_rep hL hF h2 hr.2⟩
    · cases h
  | [], _, _ :: _, _, hr => hr.elim
  | _ :: _, _, [], _, hr => hr.elim
theorem ren_rep (hL : ∀ (i k : Nat) x, ks[i]? = some k → L i = some x → L' k = some x) (hF : ∀ b, F b → F' b) {d e : D} {v : Value} (h : ren ks d = some e) (hr : Rep L w F d v) : Rep L' w F' e v := by
  have one : ∀ d e, renA ks d = some e → RepA L w F d v → Rep L' w F' e v := fun d e h hr => repA_D (renA_rep hL hF h hr)
  cases d
  case tup ds =>
    simp only [ren, Option.map_eq_some_iff] at h
    obtain ⟨es, h1, rfl⟩ := h
    obtain ⟨vs, e, hr⟩ := hr
    exact ⟨vs, e, renAL_rep hL hF h1 hr⟩
  all_goals (simp only [ren] at h; exact one _ e h hr)
/-- .. and back. -/
theorem renC_back (hL : ∀ (i k : Nat) x, ks[i]? = some k → L k = some x → L' i = some x) (hF : ∀ b, F b → F' b) {d e : D} {v : Value} (h : renC ks d = some e) (hr : RepC L w F e v) : RepC L' w F' d v := by
  have hF' : ∀ b, F b → F' b ∧ w.heap[b]? = w.heap[b]? := fun b hb => ⟨hF b hb, rfl⟩
  cases d <;> simp only [renC, Option.map_eq_some_iff, reduceCtorEq, Option.some.injEq] at h
  case own i => obtain ⟨k, hk, rfl⟩ := h; obtain ⟨s, hs⟩ := hr; exact ⟨s, hL _ _ _ hk hs⟩
  case vw i lo n => obtain ⟨k, hk, rfl⟩ := h; obtain ⟨A, c, m, cap, s, a, e, hl, r⟩ := hr; exact ⟨A, c, m, cap, s, a, e, hL _ _ _ hk hl, r⟩
  case cvw i a b c n => obtain ⟨k, hk, rfl⟩ := h; obtain ⟨g, m, cap, s, c, hl, r⟩ := hr; exact ⟨g, m, cap, s, c, hL _ _ _ hk hl, r⟩
  case ptr i a b => obtain ⟨k, hk, rfl⟩ := h; obtain ⟨g, m, cap, s, hl, r⟩ := hr; exact ⟨g, m, cap, s, hL _ _ _ hk hl, r⟩
  case rptr => subst h; obtain ⟨ad, e, hrow⟩ := hr; exact ⟨ad, e, hrow.mono hF'⟩
  all_goals (subst h; exact RepP.mono hF' hr)
theorem renCL_back (hL : ∀ (i k : Nat) x, ks[i]? = some k → L k = some x → L' i = some x) (hF : ∀ b, F b → F' b) : ∀ {ds es : List D} {vs : List Value}, renCL ks ds = some es → RepL L w F es vs → RepL L' w F' ds vs
  | [], es, vs, h, hr => by simp [renCL] at h; subst h; cases vs with | nil => trivial | cons => exact hr.elim
  | d :: ds, es, vs, h, hr => by
    simp only [renCL] at h
    split at h
    · rename_i e es' h1 h2
      cases h
      cases vs with
      | nil => exact hr.elim
      | cons v vs => exact ⟨renC_back hL hF h1 hr.1, renCL_back hL hF h2 hr.2⟩
    · cases h
theorem renA_back (hL : ∀ (i k : Nat) x, ks[i]? = some k → L k = some x → L' i = some x) (hF : ∀ b, F b → F' b) {d e : D} {v : Value} (h : renA ks d = some e) (hr : RepA L w F e v) : RepA L' w F' d v := by
  have one : ∀ d e, renC ks d = some e → (∀ x, d ≠ .agg x) → (∀ x y z, d ≠ .fn x y z) → RepA L w F e v → RepA L' w F' d v := fun d e h h1 h2 hr => by
    have hr' : RepC L w F e v := by
      cases d <;> simp only [renC, Option.map_eq_some_iff, reduceCtorEq, Option.some.injEq] at h
      case own => obtain ⟨k, _, rfl⟩ := h; exact hr
      case vw => obtain ⟨k, _, rfl⟩ := h; exact hr
      case cvw => obtain ⟨k, _, rfl⟩ := h; exact hr
      case ptr => obtain ⟨k, _, rfl⟩ := h; exact hr
      all_goals (subst h; exact hr)
    have := renC_back hL hF h hr'
    cases d <;> first | exact this | exact this.elim
  cases d
  case agg cs =>
    simp only [renA, Option.map_eq_some_iff] at h
    obtain ⟨es, h1, rfl⟩ := h
    obtain ⟨vs, e, hr, ho⟩ := hr
    exact ⟨vs, e, renCL_back hL hF h1 hr, ho⟩
  case fn f fs cs =>
    simp only [renA] at h
    split at h
    · rename_i es ds h1 h2
      cases h
      obtain ⟨us, vs, e, hr1, hr2⟩ := hr
      exact ⟨us, vs, e, renCL_back hL hF h1 hr1, renCL_back hL hF h2 hr2⟩
    · cases h
  all_goals (simp only [renA] at h; exact one _ e h (fun _ => by simp) (fun _ _ _ => by simp) hr)
theorem renAL_back (hL : ∀ (i k : Nat) x, ks[i]? = some k → L k = some x → L' i = some x) (hF : ∀ b, F b → F' b) : ∀ {ds es : List D} {vs : List Value}, renAL ks ds = some es → RepAL L w F es vs → RepAL L' w F' ds vs
  | [], es, vs, h, hr => by simp [renAL] at h; subst h; cases vs with | nil => trivial | cons => exact hr.elim
  | d :: ds, es, vs, h, hr => by
    simp only [renAL] at h
    split at h
    · rename_i e es' h1 h2
      cases h
      cases vs with
      | nil => exact hr.elim
      | cons v vs => exact ⟨renA_back hL hF h1 hr.1, renAL_back hL hF h2 hr.2⟩
    · cases h
theorem ren_back (hL : ∀ (i k : Nat) x, ks[i]? = some k → L k = some x → L' i = some x) (hF : ∀ b, F b → F' b) {d e : D} {v : Value} (h : ren ks d = some e) (hr : Rep L w F e v) : Rep L' w F' d v := by
  have one : ∀ d e, renA ks d = some e → (∀ x, d ≠ .tup x) → Rep L w F e v → Rep L' w F' d v := fun d e h h1 hr => by
    have hr' : RepA L w F e v := by
      cases d
      case tup => exact absurd rfl (h1 _)
      case agg => simp only [renA, Option.map_eq_some_iff] at h; obtain ⟨es, _, rfl⟩ := h; exact hr
      case fn => 
        simp only [renA] at h
        split at h
        · cases h; exact hr
        · cases h
      all_goals simp only [renA, renC, Option.map_eq_some_iff, Option.some.injEq] at h
      case own => obtain ⟨k, _, rfl⟩ := h; exact hr
      case vw => obtain ⟨k, _, rfl⟩ := h; exact hr
      case cvw => obtain ⟨k, _, rfl⟩ := h; exact hr
      case ptr => obtain ⟨k, _, rfl⟩ := h; exact hr
      all_goals (subst h; exact hr)
    exact repA_D (renA_back hL hF h hr')
  cases d
  case tup ds =>
    simp only [ren, Option.map_eq_some_iff] at h
    obtain ⟨es, h1, rfl⟩ := h
    obtain ⟨vs, e, hr⟩ := hr
    exact ⟨vs, e, renAL_back hL hF h1 hr⟩
  all_goals (simp only [ren] at h; exact one _ e h (fun _ => by simp) hr)
end ren
end Go.Proofs.Ytihgdjflacccmaa.Abs

/- Abs, part 13: a contract out of a body. -/
set_option linter.unusedVariables false
set_option linter.unusedSimpArgs false
namespace Go.Proofs.Ytihgdjflacccmaa.Abs
open Go Go.RowKit
variable {P : Program} {T : TT} {w : World}

def resD (T : TT) (sl : List (Nat × D)) (hp : HP) : ResultVar → Option D
  | .tmp t => some (evD sl (.tmp t))
  | .cell a t => match stepLoad T t hp (evD sl (.tmp a)) with
    | some (_, r) => some r.d
    | none => none
def resDs (T : TT) (sl : List (Nat × D)) (hp : HP) : List ResultVar → Option (List D)
  | [] => some []
  | r :: rs => match resD T sl hp r, resDs T sl hp rs with
    | some d, some ds => some (d :: ds)
    | _, _ => none
def notTup : D → Bool
  | .tup _ => false
  | _ => true
def outD (T : TT) (sl : List (Nat × D)) (hp : HP) (rs : List ResultVar) : Option D :=
  match resDs T sl hp rs with
  | some [d] => some d
  | some ds => if ds.all notTup then some (.tup ds) else none
  | none => none

theorem stepLoad_true {T : TT} {t : TypeId} {hp : HP} {a : D} {pre : Prop} {r : Res} (h : stepLoad T t hp a = some (pre, r)) : pre := by
  unfold stepLoad q at h
  (repeat' split at h) <;> first | cases h; done | (cases h; trivial)

/-- An address is wanted where a result lies in memory. -/
theorem asAddr_of_load {T : TT} {t : TypeId} {hp : HP} {L : LF} {F : Nat → Prop} {a : D} {u : Value} {pr : Prop × Res} (h : stepLoad T t hp a = some pr) (hr : Rep L w F a u) : ∃ ad, u = .pointer (some ad) := by
  unfold stepLoad at h
  split at h
  · cases h
  split at h
  · obtain ⟨g, m, cap, s, _, rfl⟩ := hr; exact ⟨_, rfl⟩
  · obtain ⟨ad, rfl, _⟩ := hr; exact ⟨_, rfl⟩
  · cases h

theorem rep_A {L : LF} {F : Nat → Prop} {d : D} {v : Value} (h : Rep L w F d v) (hn : notTup d = true) : RepA L w F d v := by
  cases d <;> first | exact h | (simp [notTup] at hn)

def resV : ResultVar → Array Value → Sem Value
  | .tmp t, tmps => pure (tmps.getD t undef)
  | .cell a t, tmps => do loadVar t (← asAddr (tmps.getD a undef))

theorem resDs_ok (hT : TOk P T) {w0 : World} {S : List Nat} {G : Nat → Prop} {hv : Nat → Value} {hp : HP} {N : Nat} {sl : List (Nat × D)} {a : Act} (hI : HInv w0 S G hv hp w) (hS : SInv N (LOf hv hp) w (FOf G hv hp w) sl a) : ∀ (rs : List ResultVar) (ds : List D), resDs T sl hp rs = some ds →
    ∃ vs : List Value, (rs.mapM (fun r => resV r a.tmps)).run P w = .ok vs w ∧ (ds.length = vs.length) ∧ ∀ (j : Nat) d v, ds[j]? = some d → vs[j]? = some v → Rep (LOf hv hp) w (FOf G hv hp w) d v
  | [], ds, h => by simp [resDs] at h; subst h; exact ⟨[], rfl, rfl, fun j d v hd => by simp at hd⟩
  | r :: rs, ds, h => by
    simp only [resDs] at h
    split at h
    · rename_i d ds' h1 h2
      cases h
      obtain ⟨vs, hrun, hlen, hrep⟩ := resDs_ok hT hI hS rs ds' h2
      have hone : ∃ v, (resV r a.tmps).run P w = .ok v w ∧ Rep (LOf hv hp) w (FOf G hv hp w) d v := by
        cases r with
        | tmp t =>
          simp only [resD, Option.some.injEq] at h1
          subst h1
          exact ⟨_, rfl, evD_ok hS (.tmp t)⟩
        | cell ad t =>
          simp only [resD] at h1
          split at h1
          · rename_i pre r hl
            cases h1
            have hra := evD_ok hS (.tmp ad)
            obtain ⟨adr, hadr⟩ := asAddr_of_load hl hra
            obtain ⟨z, hz, hP⟩ := stepLoad_ok hT hI hra hl (stepLoad_true hl)
            have hnew : r.hpOf hp = hp := by
              unfold stepLoad q at hl
              (repeat' split at hl) <;> first | cases hl; done | (cases hl; rfl)
            have hr := hP.rep
            rw [hnew] at hr
            refine ⟨z, ?_, hr⟩
            simp only [Act.eval] at hadr hz
            rw [hadr] at hz
            simp only [Instr.loadAt, Instr.sureAddr, Sem.run_bind, Sem.run_pure, Result.andThen_ok] at hz
            simp only [resV, hadr, asAddr, Sem.run_bind, Sem.run_pure, Result.andThen_ok]
            exact hz
          · cases h1
      obtain ⟨v, hv1, hv2⟩ := hone
      refine ⟨v :: vs, ?_, by simp [hlen], fun j d' v' hd hv' => ?_⟩
      · rw [List.mapM_cons]
        simp [hv1, hrun]
      · cases j with
        | zero => simp at hd hv'; subst hd; subst hv'; exact hv2
        | succ j => exact hrep j d' v' (by simpa using hd) (by simpa using hv')
    · cases h

theorem repAL_of {L : LF} {F : Nat → Prop} : ∀ {ds : List D} {us : List Value}, ds.length = us.length → (∀ (j : Nat) d u, ds[j]? = some d → us[j]? = some u → RepA L w F d u) → RepAL L w F ds us
  | [], [], _, _ => trivial
  | d :: ds, u :: us, hl, h => ⟨h 0 d u rfl rfl, repAL_of (by simpa using hl) (fun j d u hd hu => h (j + 1) d u (by simpa using hd) (by simpa using hu))⟩
  | [], _ :: _, hl, _ => by simp at hl
  | _ :: _, [], hl, _ => by simp at hl

theorem outD_ok (hT : TOk P T) {w0 : World} {S : List Nat} {G : Nat → Prop} {hv : Nat → Value} {hp : HP} {N : Nat} {sl : List (Nat × D)} {a : Act} (hI : HInv w0 S G hv hp w) (hS : SInv N (LOf hv hp) w (FOf G hv hp w) sl a) {fn : Func} {d : D} (h : outD T sl hp fn.results.toList = some d) :
    ∃ v, (results fn a.tmps).run P w = .ok v w ∧ Rep (LOf hv hp) w (FOf G hv hp w) d v := by
  have hfun : results fn a.tmps = (do let vs ← fn.results.mapM (fun r => resV r a.tmps); pure (if h : vs.size = 1 then vs[0] else .tuple vs)) := by
    unfold results
    congr 1
    congr 1
    funext r
    cases r <;> rfl
  unfold outD at h
  split at h
  · rename_i d' hd
    cases h
    obtain ⟨vs, hrun, hlen, hrep⟩ := resDs_ok hT hI hS _ _ hd
    match vs, hlen with
    | [v], _ =>
      refine ⟨v, ?_, hrep 0 _ _ rfl rfl⟩
      rw [hfun, Array.mapM_eq_mapM_toList]
      simp [hrun]
  · rename_i ds hne hd
    split at h
    · rename_i hall
      cases h
      obtain ⟨vs, hrun, hlen, hrep⟩ := resDs_ok hT hI hS _ _ hd
      refine ⟨.tuple vs.toArray, ?_, ⟨vs, rfl, repAL_of hlen (fun j d u hd hu => rep_A (hrep j d u hd hu) (List.all_eq_true.1 hall d (List.mem_of_getElem? hd)))⟩⟩
      have hn1 : vs.length ≠ 1 := fun e => by
        rw [← hlen] at e
        match ds, e with
        | [x], _ => exact hne x rfl
      rw [hfun, Array.mapM_eq_mapM_toList]
      simp [hrun, hn1]
    · cases h
  · cases h

/-- An object as a contract tells it. -/
def Fits (o o' : Ob) : Prop := o.ty = o'.ty ∧ o.sz = o'.sz ∧ o.xs = o'.xs ∧ o'.deep = false ∧ (o.deep = false ∨ ∀ x ∈ o'.xs, x.all hf = true)
def Objs (hp : HP) : List Nat → List Ob → Prop
  | [], [] => True
  | k :: ks, o :: os => (∃ ob, lk k hp = some ob ∧ Fits ob o) ∧ Objs hp ks os
  | _, _ => False

theorem objs_get {hp : HP} : ∀ {ks : List Nat} {os : List Ob}, Objs hp ks os → ks.length = os.length ∧ ∀ (i : Nat) o, os[i]? = some o → ∃ k ob, ks[i]? = some k ∧ lk k hp = some ob ∧ Fits ob o
  | [], [], _ => ⟨rfl, fun i o h => by simp at h⟩
  | k :: ks, o :: os, h => by
    obtain ⟨h1, h2⟩ := objs_get h.2
    refine ⟨by simp [h1], fun i o' hi => ?_⟩
    cases i with
    | zero => simp at hi; subst hi; obtain ⟨ob, h3, h4⟩ := h.1; exact ⟨k, ob, rfl, h3, h4⟩
    | succ i => obtain ⟨k', ob, h3, h4⟩ := h2 i o' (by simpa using hi); exact ⟨k', ob, by simpa using h3, h4⟩
  | [], _ :: _, h => h.elim
  | _ :: _, [], h => h.elim

/-- How a function ends: its result and its objects, by the handles that they have then. -/
def Fin {X : Type} (T : TT) (rs : List ResultVar) (s : Spec X) (m : Nat) (x : X) (st : St) : Prop :=
  ∃ d ks, outD T st.sl st.hp rs = some d ∧ ren (List.range m ++ ks) (s.res x) = some d ∧ Objs st.hp (List.range m ++ ks) (s.out x ++ s.new x) ∧ (List.range m ++ ks).Nodup

def bodyA {X : Type} (T : TT) (rs : List ResultVar) (s : Spec X) (m : Nat) (x : X) : Exit → St → Prop
  | .normal, st | .ret, st => Fin T rs s m x st
  | _, _ => False

theorem repAL_length {L : LF} {F : Nat → Prop} : ∀ {ds : List D} {us : List Value}, RepAL L w F ds us → ds.length = us.length
  | [], [], _ => rfl
  | _ :: ds, _ :: us, h => by simp [repAL_length h.2]
  | [], _ :: _, h => h.elim
  | _ :: _, [], h => h.elim

/-- A contract out of a walk of the body. -/
theorem fn_ok {X : Type} {s : Spec X} {f : FuncId} {fn : Func} {c : Code} (n m : Nat) (hT : TOk P T) (hf : P.funcs[f]? = some fn) (hb : fn.body = some c) (hent : ∀ args w, (callFunc f args).run P w = .ok (.enter f args) w)
    (hargs : ∀ x, (s.args x).length = n) (hobs : ∀ x, (s.obs x).length = m) (hout : ∀ x, (s.out x).map Ob.sz = (s.obs x).map Ob.sz)
    (h : ∀ x, s.pre x → ∀ C : Ctx, C.P = P → C.N = n + (fn.ntmps - n) → C.m = m → (∀ b, C.w0.heap.size ≤ b → C.G b) → awp C c (bodyA T fn.results.toList s m x) ⟨numD 0 (s.args x), numbered 0 (s.obs x), m⟩) : FnOk P f s := by
  refine ⟨hent, fun x hx => ⟨hout x, fun w S G hv vs hG hI hA => ?_⟩⟩
  have hn : vs.length = n := by rw [← repAL_length hA, hargs]
  refine calls_of_wp hf hb ?_
  have hInv : Inv ⟨P, n + (fn.ntmps - n), w, S, G, m, hv⟩ ⟨numD 0 (s.args x), numbered 0 (s.obs x), m⟩ { tmps := vs.toArray ++ Array.replicate (fn.ntmps - vs.toArray.size) undef, defers := [] } w := by
    refine ⟨hv, hI, fun h ob hl => ?_, Nat.le_refl _, fun _ _ _ _ => rfl, ⟨rfl, by simp [hn], fun t d hl => ?_⟩⟩
    · rw [lk_numbered] at hl
      simp only [Nat.zero_le, if_true, Nat.sub_zero] at hl
      have := (List.getElem?_eq_some_iff.1 hl).1
      rw [hobs] at this
      exact this
    · rw [lk_numD] at hl
      simp only [Nat.zero_le, if_true, Nat.sub_zero] at hl
      obtain ⟨u, hu, hr⟩ := repAL_get hA t d hl
      have htl : t < vs.length := (List.getElem?_eq_some_iff.1 hu).1
      have : (vs.toArray ++ Array.replicate (fn.ntmps - vs.toArray.size) undef).getD t undef = u := by
        rw [Array.getD_eq_getD_getElem?, Array.getElem?_append_left (by simpa using htl)]
        simp [hu]
      rw [this]
      exact repA_D hr
  refine wp_mono (h x hx ⟨P, n + (fn.ntmps - n), w, S, G, m, hv⟩ rfl rfl rfl hG _ w hInv) (fun e a' w' ⟨st', h1, h2⟩ => ?_)
  obtain ⟨hv', hH, hk, hmn, hpin, hS⟩ := h2
  have fin : Fin T fn.results.toList s m x st' → a'.defers = [] ∧ ∃ v, (results fn a'.tmps).run P w' = .ok v w' ∧ ∃ v0 hv'', Ending.returned v = .returned v0 ∧ HInv w S G hv'' (numbered 0 (s.out x ++ s.new x)) w' ∧ (∀ i, i < (s.obs x).length → hv'' i = hv i) ∧
      Rep (LOf hv'' (numbered 0 (s.out x ++ s.new x))) w' (FOf G hv'' (numbered 0 (s.out x ++ s.new x)) w') (s.res x) v0 := fun ⟨d, ks0, hd, hren, hobj, hnd⟩ => by
    obtain ⟨v, hrun, hrep⟩ := outD_ok hT hH hS hd
    obtain ⟨ks, hks⟩ : ∃ ks, ks = List.range m ++ ks0 := ⟨_, rfl⟩
    rw [← hks] at hren hobj hnd
    obtain ⟨hkl, hget⟩ := objs_get hobj
    have hlk : ∀ i o, lk i (numbered 0 (s.out x ++ s.new x)) = some o → ∃ k ob, ks[i]? = some k ∧ lk k st'.hp = some ob ∧ Fits ob o := fun i o hi => by
      rw [lk_numbered] at hi
      simp only [Nat.zero_le, if_true, Nat.sub_zero] at hi
      exact hget i o hi
    have hgd : ∀ i k, ks[i]? = some k → ks.getD i 0 = k := fun i k h => by simp [List.getD, h]
    have hF : ∀ b, FOf G hv' st'.hp w' b → FOf G (fun i => hv' (ks.getD i 0)) (numbered 0 (s.out x ++ s.new x)) w' b := fun b hb => ⟨hb.1, fun i o hi => by
      obtain ⟨k, ob, hk, hob, _⟩ := hlk i o hi
      simp only [hgd i k hk]
      exact hb.2 k ob hob⟩
    have hL : ∀ (i k : Nat) y, ks[i]? = some k → LOf hv' st'.hp k = some y → LOf (fun i => hv' (ks.getD i 0)) (numbered 0 (s.out x ++ s.new x)) i = some y := fun i k y hk hy => by
      have hil : i < ks.length := (List.getElem?_eq_some_iff.1 hk).1
      have h3 : ∃ o, (s.out x ++ s.new x)[i]? = some o := ⟨_, List.getElem?_eq_getElem (by omega)⟩
      obtain ⟨o, h3⟩ := h3
      obtain ⟨k', ob, hk', hob, hfit⟩ := hget i o h3
      rw [hk] at hk'
      cases hk'
      rw [LOf_eq hob] at hy
      have h4 : lk i (numbered 0 (s.out x ++ s.new x)) = some o := by rw [lk_numbered]; simpa using h3
      rw [LOf_eq h4]
      cases hy
      simp only [hgd i k hk, hfit.2.1]
    refine ⟨hS.defers, v, hrun, v, fun i => hv' (ks.getD i 0), rfl, ⟨fun i o hi => ?_, fun i j o o' hi hj hne => ?_, fun i o b hi hb => ?_, hH.keeps⟩, fun i hi => ?_, ren_back hL hF hren hrep⟩
    · obtain ⟨k, ob, hk, hob, h4, h5, h6, h7, h8⟩ := hlk i o hi
      obtain ⟨us, ho, hg, hc⟩ := hH.obs k ob hob
      refine ⟨us, by rw [← h4, ← h5, ← h6, hgd i k hk]; exact ho, by rw [← h5, ← h6]; exact hg, fun a b y e ha hb => ?_⟩
      rw [← h6] at ha
      obtain ⟨u, hu, hone, hr⟩ := hc a b y e ha hb
      refine ⟨u, by rw [← h5]; exact hu, hone, ?_⟩
      have hp : RepP w' (FOf G hv' st'.hp w') e u := by
        rcases h8 with h8 | h8
        · simpa [RepO, h8] using hr
        · have := List.all_eq_true.1 (h8 y (by rw [← h6]; exact List.mem_of_getElem? ha)) e (List.mem_of_getElem? hb)
          exact repP_of_hf this hr.toC
      rw [h7]
      simp only [RepO, Bool.false_eq_true, if_false]
      exact hp.mono (fun b hb => ⟨hF b hb, rfl⟩)
    · obtain ⟨k, ob, hk, hob, _⟩ := hlk i o hi
      obtain ⟨k', ob', hk', hob', _⟩ := hlk j o' hj
      simp only [hgd i k hk, hgd j k' hk']
      refine hH.inj k k' ob ob' hob hob' (fun e => hne ?_)
      subst e
      exact (List.getElem?_inj (List.getElem?_eq_some_iff.1 hk).1 hnd).1 (hk.trans hk'.symm)
    · obtain ⟨k, ob, hk, hob, _⟩ := hlk i o hi
      simp only [hgd i k hk] at hb
      exact hH.base k ob b hob hb
    · rw [hobs] at hi
      have hki : ks[i]? = some i := by rw [hks, List.getElem?_append_left (by simpa using hi), List.getElem?_range hi]
      have h3 : ∃ o, (s.out x ++ s.new x)[i]? = some o := ⟨_, List.getElem?_eq_getElem (by have := (List.getElem?_eq_some_iff.1 hki).1; omega)⟩
      obtain ⟨o, h3⟩ := h3
      obtain ⟨k', ob, hk', hob, hfit⟩ := hget i o h3
      rw [hki] at hk'
      cases hk'
      simp only [hgd i i hki]
      exact hpin i ob hob hi
  cases e with
  | normal => exact fin h1
  | ret => exact fin h1
  | _ => exact h1.elim
end Go.Proofs.Ytihgdjflacccmaa.Abs

/- Abs, part 14: a call taken by its contract. -/
set_option linter.unusedVariables false
set_option linter.unusedSimpArgs false
namespace Go.Proofs.Ytihgdjflacccmaa.Abs
open Go Go.RowKit
variable {P : Program} {T : TT}

theorem ownsRow_same {w w' : World} {b0 : Nat} {e : TypeId} {sz n : Nat} {v : Value} {xs : List Value} (h : w.ownsRow b0 e sz v n xs) (hb : ∀ b, v.ownBlock = some b → w'.heap[b]? = w.heap[b]?) : w'.ownsRow b0 e sz v n xs := by
  refine ⟨h.1, ?_⟩
  rcases h.2 with h | ⟨g, cap, cur, rfl, h1, h2, h3⟩
  · exact .inl h
  · exact .inr ⟨g, cap, cur, rfl, h1, by rw [hb g rfl]; exact h2, h3⟩

/-! ### Arguments: what the caller holds, as the contract tells it -/
/-- One cell: formal, actual. 'ks': the caller's handles of the objects that are handed over. -/
def ArgC (hp : HP) (ks : List Nat) : D → D → Prop
  | .any, _ => True
  | .own i, .own h => ks[i]? = some h
  | .ptr i a b, .ptr h a' b' => ks[i]? = some h ∧ a = a' ∧ b = b'
  | .sl sz xs, .own h => h ∉ ks ∧ ∃ ob, lk h hp = some ob ∧ ob.deep = false ∧ ob.sz = sz ∧ ob.xs = xs
  | .sl sz xs, .vw h lo n => h ∉ ks ∧ ∃ ob, lk h hp = some ob ∧ ob.deep = false ∧ ob.sz = sz ∧ (ob.xs.drop lo).take n = xs
  | .sl sz xs, .cvw h i off es n => h ∉ ks ∧ sz = 1 ∧ es = 1 ∧ ∃ ob x, lk h hp = some ob ∧ ob.xs[i]? = some x ∧ x.all hf = true ∧ ((x.drop off).take n).map (fun d => [d]) = xs
  | .sl _ xs, .nil => xs = []
  | .sl sz xs, .sl sz' xs' => sz' = sz ∧ xs' = xs
  | .val v, d => d = .val v
  | .nil, d => d = .nil
  | _, _ => False
def ArgL (hp : HP) (ks : List Nat) : List D → List D → Prop
  | [], [] => True
  | d :: ds, e :: es => ArgC hp ks d e ∧ ArgL hp ks ds es
  | _, _ => False
def ArgA (hp : HP) (ks : List Nat) : D → D → Prop
  | .agg cs, .agg ds => ArgL hp ks cs ds
  | .fn f fs cs, .fn f' fs' cs' => f' = f ∧ ArgL hp ks fs fs' ∧ ArgL hp ks cs cs'
  | d, e => ArgC hp ks d e
def Args (hp : HP) (ks : List Nat) : List D → List D → Prop
  | [], [] => True
  | d :: ds, e :: es => ArgA hp ks d e ∧ Args hp ks ds es
  | _, _ => False

section args
variable {w0 : World} {S : List Nat} {G : Nat → Prop} {hv : Nat → Value} {hp : HP} {w : World} {ks : List Nat} {L' : LF} {F' : Nat → Prop}

theorem row_toP {L : LF} {F : Nat → Prop} {es : Nat} {rows : List (List D)} {v : Value} {deep : Bool} (hR : Row L w F es rows deep v) (hpure : deep = true → ∀ x ∈ rows, x.all hf = true) (hF : ∀ b, F b → F' b) (hown : ∀ ad n c, v = .slice (some ad) n c → rows ≠ [] → F' ad.block ∧ ad.spot = none) (hcap : ∀ A n c, v = .slice A n c → c ≤ maxLen) : RepP w F' (.sl es rows) v := by
  rcases hR.2 with ⟨rfl, rfl⟩ | ⟨ad, c, rfl, hc, hcell⟩
  · exact .sl es [] none 0 (fun _ _ => undef) (fun x hx => by simp at hx) (fun _ => ⟨rfl, rfl⟩) ⟨by simp, by simp⟩ (fun ad h => by cases h) (fun ad i j x d h => by cases h) (fun i j x d hi => by simp at hi)
  · obtain ⟨b, o, sp⟩ := ad
    have hex : ∀ i j x d, rows[i]? = some x → x[j]? = some d → w.cell? ⟨b, o + (i * es + j), none⟩ = some ((w.cell? ⟨b, o + (i * es + j), none⟩).getD undef) ∧ ((w.cell? ⟨b, o + (i * es + j), none⟩).getD undef).oneCell' = true ∧ RepP w F' d ((w.cell? ⟨b, o + (i * es + j), none⟩).getD undef) := fun i j x d hi hj => by
      have hne : rows ≠ [] := by rintro rfl; simp at hi
      obtain rfl : sp = none := (hown _ _ _ rfl hne).2
      obtain ⟨u, hu, h1, hr⟩ := hcell i j x d hi hj
      rw [addr_add] at hu
      rw [hu]
      refine ⟨rfl, h1, ?_⟩
      have : RepP w F d u := by
        cases hdp : deep
        · simpa [RepO, hdp] using hr
        · exact repP_of_hf (List.all_eq_true.1 (hpure hdp x (List.mem_of_getElem? hi)) d (List.mem_of_getElem? hj)) hr.toC
      exact this.mono (fun b hb => ⟨hF b hb, rfl⟩)
    exact .sl es rows (some ⟨b, o, sp⟩) c (fun i j => (w.cell? ⟨b, o + (i * es + j), none⟩).getD undef) hR.1 (fun h => by cases h) ⟨hc, hcap _ _ _ rfl⟩ (fun ad had hne => by cases had; exact hown _ _ _ rfl hne)
      (fun ad i j x d had hi hj => by cases had; exact ⟨(hex i j x d hi hj).1, (hex i j x d hi hj).2.1⟩) (fun i j x d hi hj => (hex i j x d hi hj).2.2)

variable (hI : HInv w0 S G hv hp w)
include hI

theorem own_cap {h : Nat} {ob : Ob} (hob : lk h hp = some ob) : ∀ A n c, hv h = .slice A n c → c ≤ maxLen := fun A n c e => by
  obtain ⟨vs, ho, _⟩ := hI.obs h ob hob
  rcases ho.2 with ⟨h1, _⟩ | ⟨g, cap, cur, h1, _, _, _, h2, _⟩
  · rw [h1] at e; cases e; simp
  · rw [h1] at e; cases e; exact h2

/-- What the callee may take for granted: all that is there stays, but for the blocks of the objects handed over. -/
theorem argC_ok (hL : ∀ (i h : Nat) ob, ks[i]? = some h → lk h hp = some ob → L' i = some (hv h, ob.sz)) (hF : ∀ b, b < w.heap.size → (∀ h, h ∈ ks → (hv h).ownBlock ≠ some b) → F' b) (hks : ∀ h ∈ ks, ∃ ob, lk h hp = some ob)
    {d e : D} {v : Value} (ha : ArgC hp ks d e) (hr : RepC (LOf hv hp) w (FOf G hv hp w) e v) : RepC L' w F' d v := by
  have hFF : ∀ b, FOf G hv hp w b → F' b := fun b hb => hF b hb.1.1 (fun h hm => by obtain ⟨ob, hob⟩ := hks h hm; exact hb.2 h ob hob)
  have hFF' : ∀ b, FOf G hv hp w b → F' b ∧ w.heap[b]? = w.heap[b]? := fun b hb => ⟨hFF b hb, rfl⟩
  have ownF : ∀ h ob b, lk h hp = some ob → h ∉ ks → (hv h).ownBlock = some b → F' b := fun h ob b hob hnm hb => by
    obtain ⟨vs, ho, _⟩ := hI.obs h ob hob
    refine hF b (ho.lt b hb).2 (fun h' hm hb' => ?_)
    obtain ⟨ob', hob'⟩ := hks h' hm
    rcases hI.inj h h' ob ob' hob hob' (fun e => hnm (e ▸ hm)) with h1 | h1
    · rw [h1] at hb; cases hb
    · exact h1 (hb.trans hb'.symm)
  cases d
  case any => exact .any v
  case val u =>
    simp only [ArgC] at ha
    subst ha
    exact RepP.mono hFF' hr
  case nil =>
    simp only [ArgC] at ha
    subst ha
    exact RepP.mono hFF' hr
  case own i =>
    cases e <;> simp only [ArgC] at ha
    obtain ⟨s, hs⟩ := hr
    simp only [LOf, Option.map_eq_some_iff, Prod.mk.injEq] at hs
    obtain ⟨ob, hob, rfl, rfl⟩ := hs
    exact ⟨_, hL _ _ ob ha hob⟩
  case ptr i a b =>
    cases e <;> simp only [ArgC] at ha
    obtain ⟨ha, rfl, rfl⟩ := ha
    obtain ⟨g, m, cap, s, hs, rfl⟩ := hr
    simp only [LOf, Option.map_eq_some_iff, Prod.mk.injEq] at hs
    obtain ⟨ob, hob, h1, rfl⟩ := hs
    exact ⟨g, m, cap, _, by rw [hL _ _ ob ha hob, h1], rfl⟩
  case sl sz xs =>
    cases e <;> simp only [ArgC] at ha
    case nil =>
      subst ha
      have hr : RepP w (FOf G hv hp w) .nil v := hr
      cases hr
      exact RepP.sl sz [] none 0 (fun _ _ => undef) (fun x hx => by simp at hx) (fun _ => ⟨rfl, rfl⟩) ⟨by simp, by simp⟩ (fun ad h => by cases h) (fun ad i j x d h => by cases h) (fun i j x d hi => by simp at hi)
    case sl sz' xs' =>
      obtain ⟨rfl, rfl⟩ := ha
      exact RepP.mono hFF' hr
    case own h =>
      obtain ⟨hnm, ob, hob, hdp, rfl, rfl⟩ := ha
      have hrow := rowOf_ok hI (x := .own h) (es := ob.sz) (pre := True) (rows := ob.xs) (deep := ob.deep) hr (by simp [rowOf, hob]) trivial
      obtain ⟨s, hs⟩ := hr
      rw [LOf_eq hob] at hs
      simp only [Option.some.injEq, Prod.mk.injEq] at hs
      obtain ⟨rfl, _⟩ := hs
      refine row_toP hrow (fun h => by rw [hdp] at h; cases h) hFF (fun ad n c he hne => ?_) (own_cap hI hob)
      refine ⟨ownF h ob ad.block hob hnm (by rw [he]; rfl), ?_⟩
      obtain ⟨g, cap, hg⟩ := own_form (hI.obs h ob hob) hne
      rw [hg] at he
      cases he
      rfl
    case vw h lo n =>
      obtain ⟨hnm, ob, hob, hdp, rfl, rfl⟩ := ha
      have hrow := rowOf_ok hI (x := .vw h lo n) (es := ob.sz) (pre := True) (rows := (ob.xs.drop lo).take n) (deep := ob.deep) hr (by simp [rowOf, hob]) trivial
      obtain ⟨A, c, m, cap, s, a, rfl, hs, hlo, hnc, hAc, hA⟩ := hr
      rw [LOf_eq hob] at hs
      simp only [Option.some.injEq, Prod.mk.injEq] at hs
      obtain ⟨hvh, rfl⟩ := hs
      refine row_toP hrow (fun h => by rw [hdp] at h; cases h) hFF (fun ad n' c' he hne => ?_) (fun A' n' c' he => by cases he; exact hnc.2)
      cases he
      have hpos : 0 < n := by
        rcases Nat.eq_zero_or_pos n with h0 | h0
        · subst h0; simp at hne
        · exact h0
      obtain ⟨g, rfl, h2⟩ := hA hpos
      cases h2
      exact ⟨ownF h ob g hob hnm (by rw [hvh]; rfl), rfl⟩
    case cvw h i off es n =>
      obtain ⟨hnm, rfl, rfl, ob, x, hob, hx, hall, rfl⟩ := ha
      have hrow := rowOf_ok hI (x := .cvw h i off 1 n) (es := 1) (pre := (1 = 1 ∧ 1 = 1)) (rows := ((x.drop off).take n).map fun d => [d]) (deep := ob.deep) hr (by simp [rowOf, hob, hx]) ⟨rfl, rfl⟩
      obtain ⟨g, m, cap, s, c, hs, hi, hoff, hnc, rfl⟩ := hr
      rw [LOf_eq hob] at hs
      simp only [Option.some.injEq, Prod.mk.injEq] at hs
      obtain ⟨hvh, rfl⟩ := hs
      refine row_toP hrow (fun _ y hy => ?_) hFF (fun ad n' c' he hne => ?_) (fun A' n' c' he => by cases he; exact hnc.2)
      · simp only [List.mem_map] at hy
        obtain ⟨d, hd, rfl⟩ := hy
        simp only [List.all_cons, List.all_nil, Bool.and_true]
        exact List.all_eq_true.1 hall d (List.mem_of_mem_drop (List.mem_of_mem_take hd))
      · cases he
        exact ⟨ownF h ob g hob hnm (by rw [hvh]; rfl), rfl⟩
  all_goals (cases e <;> simp only [ArgC] at ha)
end args

section args2
variable {w0 : World} {S : List Nat} {G : Nat → Prop} {hv : Nat → Value} {hp : HP} {w : World} {ks : List Nat} {L' : LF} {F' : Nat → Prop}
theorem argL_ok (hI : HInv w0 S G hv hp w) (hL : ∀ (i h : Nat) ob, ks[i]? = some h → lk h hp = some ob → L' i = some (hv h, ob.sz)) (hF : ∀ b, b < w.heap.size → (∀ h, h ∈ ks → (hv h).ownBlock ≠ some b) → F' b) (hks : ∀ h ∈ ks, ∃ ob, lk h hp = some ob) :
    ∀ {ds es : List D} {vs : List Value}, ArgL hp ks ds es → RepL (LOf hv hp) w (FOf G hv hp w) es vs → RepL L' w F' ds vs
  | [], [], vs, _, hr => by cases vs with | nil => trivial | cons => exact hr.elim
  | d :: ds, e :: es, vs, ha, hr => by
    cases vs with
    | nil => exact hr.elim
    | cons v vs => exact ⟨argC_ok hI hL hF hks ha.1 hr.1, argL_ok hI hL hF hks ha.2 hr.2⟩
  | [], _ :: _, _, ha, _ => ha.elim
  | _ :: _, [], _, ha, _ => ha.elim
theorem argA_ok (hI : HInv w0 S G hv hp w) (hL : ∀ (i h : Nat) ob, ks[i]? = some h → lk h hp = some ob → L' i = some (hv h, ob.sz)) (hF : ∀ b, b < w.heap.size → (∀ h, h ∈ ks → (hv h).ownBlock ≠ some b) → F' b) (hks : ∀ h ∈ ks, ∃ ob, lk h hp = some ob)
    {d e : D} {v : Value} (ha : ArgA hp ks d e) (hr : Rep (LOf hv hp) w (FOf G hv hp w) e v) : RepA L' w F' d v := by
  have one : ArgC hp ks d e → RepA L' w F' d v := fun ha => by
    have hr' : RepC (LOf hv hp) w (FOf G hv hp w) e v ∨ d = .any := by
      cases d <;> cases e <;> first | exact .inr rfl | exact .inl hr | exact ha.elim | (simp [ArgC] at ha)
    rcases hr' with hr' | rfl
    · have := argC_ok hI hL hF hks ha hr'
      cases d <;> first | exact this | exact this.elim
    · exact (RepP.any v : RepP w F' .any v)
  cases d
  case agg cs =>
    cases e <;> first | (exact ha.elim; done) | skip
    case agg ds =>
      obtain ⟨vs, e, hr, ho⟩ := hr
      exact ⟨vs, e, argL_ok hI hL hF hks ha hr, ho⟩
  case fn f fs cs =>
    cases e <;> first | (exact ha.elim; done) | skip
    case fn f' fs' cs' =>
      obtain ⟨rfl, h1, h2⟩ := ha
      obtain ⟨us, vs, e, hr1, hr2⟩ := hr
      exact ⟨us, vs, e, argL_ok hI hL hF hks h1 hr1, argL_ok hI hL hF hks h2 hr2⟩
  all_goals exact one ha
theorem args_ok (hI : HInv w0 S G hv hp w) (hL : ∀ (i h : Nat) ob, ks[i]? = some h → lk h hp = some ob → L' i = some (hv h, ob.sz)) (hF : ∀ b, b < w.heap.size → (∀ h, h ∈ ks → (hv h).ownBlock ≠ some b) → F' b) (hks : ∀ h ∈ ks, ∃ ob, lk h hp = some ob) :
    ∀ {ds es : List D} {vs : List Value}, Args hp ks ds es → es.length = vs.length → (∀ (j : Nat) e v, es[j]? = some e → vs[j]? = some v → Rep (LOf hv hp) w (FOf G hv hp w) e v) → RepAL L' w F' ds vs
  | [], [], vs, _, hl, _ => by cases vs with | nil => trivial | cons => simp at hl
  | d :: ds, e :: es, vs, ha, hl, hr => by
    cases vs with
    | nil => simp at hl
    | cons v vs => exact ⟨argA_ok hI hL hF hks ha.1 (hr 0 e v rfl rfl), args_ok hI hL hF hks ha.2 (by simpa using hl) (fun j e v he hv => hr (j + 1) e v (by simpa using he) (by simpa using hv))⟩
  | [], _ :: _, _, ha, _, _ => ha.elim
  | _ :: _, [], _, ha, _, _ => ha.elim
end args2

/-! ### Results that lead to no memory but their own objects -/
def flatC : D → Bool
  | .any | .val _ | .nil | .own _ | .vw _ _ _ | .cvw _ _ _ _ _ | .ptr _ _ _ => true
  | _ => false
def flatA : D → Bool
  | .agg cs => cs.all flatC
  | .fn _ fs cs => fs.all flatC && cs.all flatC
  | d => flatC d
def flatD : D → Bool
  | .tup ds => ds.all flatA
  | d => flatA d
def flatO (o : Ob) : Prop := ∀ x ∈ o.xs, ∀ d ∈ x, (match d with | .any | .val _ | .nil => true | _ => false) = true

section flat
variable {L : LF} {w w' : World} {F F' : Nat → Prop}
theorem flatC_rep {d : D} {v : Value} (h : flatC d = true) (hr : RepC L w F d v) : RepC L w F' d v := by
  cases d <;> simp only [flatC, Bool.false_eq_true] at h <;> first | exact hr | skip
  case any => exact .any v
  case val u => have hr : RepP w F (.val u) v := hr; cases hr; exact .val _
  case nil => have hr : RepP w F .nil v := hr; cases hr; exact .nil
theorem flatL_rep : ∀ {ds : List D} {vs : List Value}, ds.all flatC = true → RepL L w F ds vs → RepL L w F' ds vs
  | [], [], _, _ => trivial
  | d :: ds, v :: vs, h, hr => by
    simp only [List.all_cons, Bool.and_eq_true] at h
    exact ⟨flatC_rep h.1 hr.1, flatL_rep h.2 hr.2⟩
  | [], _ :: _, _, h => h.elim
  | _ :: _, [], _, h => h.elim
theorem flatA_rep {d : D} {v : Value} (h : flatA d = true) (hr : RepA L w F d v) : RepA L w F' d v := by
  cases d
  case agg cs => obtain ⟨vs, e, hr, ho⟩ := hr; exact ⟨vs, e, flatL_rep h hr, ho⟩
  case fn f fs cs =>
    simp only [flatA, Bool.and_eq_true] at h
    obtain ⟨us, vs, e, h1, h2⟩ := hr
    exact ⟨us, vs, e, flatL_rep h.1 h1, flatL_rep h.2 h2⟩
  case any => exact (RepP.any v : RepP w F' .any v)
  case tup cs => simp [flatA, flatC] at h
  all_goals (simp only [flatA] at h; exact flatC_rep (L := L) (w := w) (F := F) (F' := F') h hr)
theorem flatAL_rep : ∀ {ds : List D} {vs : List Value}, ds.all flatA = true → RepAL L w F ds vs → RepAL L w F' ds vs
  | [], [], _, _ => trivial
  | d :: ds, v :: vs, h, hr => by
    simp only [List.all_cons, Bool.and_eq_true] at h
    exact ⟨flatA_rep h.1 hr.1, flatAL_rep h.2 hr.2⟩
  | [], _ :: _, _, h => h.elim
  | _ :: _, [], _, h => h.elim
theorem flatD_rep {d : D} {v : Value} (h : flatD d = true) (hr : Rep L w F d v) : Rep L w F' d v := by
  cases d
  case tup ds => obtain ⟨vs, e, hr⟩ := hr; exact ⟨vs, e, flatAL_rep h hr⟩
  case any => exact (RepP.any v : RepP w F' .any v)
  all_goals (simp only [flatD] at h; exact flatA_rep (L := L) (w := w) (F := F) (F' := F') h hr)
theorem flat_cell {d : D} {v : Value} (h : (match d with | .any | .val _ | .nil => true | _ => false) = true) (hr : RepP w F d v) : RepP w' F' d v := by
  cases hr with
  | any v => exact .any v
  | val v => exact .val v
  | nil => exact .nil
  | sl => simp at h
end flat

def deepOf (hp : HP) (k : Nat) : Bool := match lk k hp with | some o => o.deep | none => false
def updOf (hp : HP) : List Nat → List Ob → List (Nat × Ob)
  | k :: ks, o :: os => (k, ⟨o.ty, o.sz, deepOf hp k, o.xs⟩) :: updOf hp ks os
  | _, _ => []

theorem lk_upd_out {hp0 : HP} : ∀ (ks : List Nat) (os : List Ob) (hp : HP) (h : Nat), h ∉ ks → lk h (updHP (updOf hp0 ks os) hp) = lk h hp
  | [], os, hp, h, _ => by simp [updOf, updHP]
  | k :: ks, [], hp, h, _ => by simp [updOf, updHP]
  | k :: ks, o :: os, hp, h, hn => by
    simp only [List.mem_cons, not_or] at hn
    simp only [updOf, updHP]
    rw [lk_upd_out ks os _ h hn.2, lk_hset, if_neg hn.1]

theorem lk_upd_in {hp0 : HP} : ∀ (ks : List Nat) (os : List Ob) (hp : HP) (i k : Nat) (o : Ob), ks.Nodup → ks[i]? = some k → os[i]? = some o → (∃ ob, lk k hp = some ob) → lk k (updHP (updOf hp0 ks os) hp) = some ⟨o.ty, o.sz, deepOf hp0 k, o.xs⟩
  | [], _, _, i, _, _, _, h, _, _ => by simp at h
  | k0 :: ks, [], _, i, _, _, _, _, h, _ => by simp at h
  | k0 :: ks, o0 :: os, hp, i, k, o, hnd, hk, ho, hex => by
    simp only [updOf, updHP]
    rw [List.nodup_cons] at hnd
    cases i with
    | zero =>
      simp at hk ho
      subst hk; subst ho
      obtain ⟨ob, hob⟩ := hex
      rw [lk_upd_out ks os _ _ hnd.1, lk_hset, if_pos rfl, hob]
      rfl
    | succ i =>
      have hk' : ks[i]? = some k := by simpa using hk
      refine lk_upd_in ks os _ i k o hnd.2 hk' (by simpa using ho) ?_
      obtain ⟨ob, hob⟩ := hex
      rw [lk_hset]
      by_cases e : k = k0
      · subst e; exact absurd (List.mem_of_getElem? hk') hnd.1
      · exact ⟨ob, by rw [if_neg e]; exact hob⟩

theorem callOp_wp {o : Oper} {cf : Operand} {args : Array Operand} {tys : Array TypeId} (ho : o.op = .call ⟨.value cf, args, tys⟩) {a : Act} {w : World} {f : FuncId} {us cs : Array Value} (hc : a.eval cf = .func (.func f) us cs) (hent : ∀ args w, (callFunc f args).run P w = .ok (.enter f args) w)
    {K : Act → World → Prop} {Q : Exit → Act → World → Prop} {R : Value → World → Prop} (hcall : Calls P f (us ++ args.map a.eval ++ cs) w (fun e w' => ∃ v, e = .returned v ∧ R v w')) (hK : ∀ v w', R v w' → K (a.put o.dst v) w') : o.wp P a w K Q := by
  unfold Oper.wp
  have : (execOp a.eval o).run P w = .ok (.enter f (us ++ args.map a.eval ++ cs)) w := by
    simp only [execOp, ho, resolve, hc, Deferred.ofValue, Sem.run_bind, Sem.run_pure, Result.andThen_ok, invoke]
    rw [hent]
  rw [this]
  exact hcall.mono (fun e w' ⟨v, he, hR⟩ => by subst he; exact hK v w' hR)
end Go.Proofs.Ytihgdjflacccmaa.Abs

/- Abs, part 15: the call rule. -/
set_option linter.unusedVariables false
set_option linter.unusedSimpArgs false
namespace Go.Proofs.Ytihgdjflacccmaa.Abs
open Go Go.RowKit
variable {P : Program} {T : TT}

theorem rep_list {L : LF} {w : World} {F : Nat → Prop} {ev : Operand → D} {a : Act} (h : ∀ x, Rep L w F (ev x) (a.eval x)) (xs : List Operand) : ∀ (j : Nat) e v, (xs.map ev)[j]? = some e → (xs.map a.eval)[j]? = some v → Rep L w F e v := fun j e v he hv => by
  rw [List.getElem?_map, Option.map_eq_some_iff] at he hv
  obtain ⟨x, hx, rfl⟩ := he
  obtain ⟨y, hy, rfl⟩ := hv
  rw [hx] at hy
  cases hy
  exact h x

theorem numbered_mem {k : Nat} {l : List Ob} {p : Nat × Ob} (h : p ∈ numbered k l) : k ≤ p.1 ∧ p.1 < k + l.length := by
  induction l generalizing k with
  | nil => simp [numbered] at h
  | cons o l ih =>
    simp only [numbered, List.mem_cons] at h
    rcases h with rfl | h
    · simp
    · have := ih h
      simp only [List.length_cons]
      omega
theorem numbered_length (k : Nat) (l : List Ob) : (numbered k l).length = l.length := by
  induction l generalizing k with
  | nil => rfl
  | cons o l ih => simp [numbered, ih]

/-- A call, by the callee's contract. 'ks': the caller's handles of the objects that the callee may turn. -/
theorem OpRel.call {X : Type} {s : Spec X} {f : FuncId} (hF : FnOk P f s) (x : X) (ks : List Nat) (hkn : ks.Nodup) {o : Oper} {cf : Operand} {args : Array Operand} {tys : Array TypeId} (ho : o.op = .call ⟨.value cf, args, tys⟩) {ev : Operand → D} {hp : HP} {nx : Nat}
    {first caps : List D} (hcf : ev cf = .fn (.func f) first caps) (hpre : s.pre x) (hargs : Args hp ks (s.args x) (first ++ args.toList.map ev ++ caps)) (hobs : Objs hp ks (s.obs x))
    {d : D} (hren : ren (ks ++ List.range' nx (s.new x).length) (s.res x) = some d) (hflat : flatD (s.res x) = true ∧ ∀ o ∈ s.out x ++ s.new x, flatO o) :
    OpRel P o ev hp nx { d, new := numbered nx (s.new x), upd := updOf hp ks (s.out x) } := by
  refine ⟨⟨fun p hp => by rw [numbered_length]; exact numbered_mem hp, rfl⟩, fun w0 S G hv a w hI hk hev K Q hK => ?_⟩
  obtain ⟨hent, hcon⟩ := hF
  obtain ⟨hos, hcall⟩ := hcon x hpre
  have hol : (s.out x).length = (s.obs x).length := by have := congrArg List.length hos; simpa using this
  obtain ⟨hkl, hget⟩ := objs_get hobs
  have hgd : ∀ i k, ks[i]? = some k → ks.getD i 0 = k := fun i k h => by simp [List.getD, h]
  have hkin : ∀ h ∈ ks, ∃ ob, lk h hp = some ob := fun h hm => by
    obtain ⟨i, hi⟩ := List.getElem?_of_mem hm
    have hil := (List.getElem?_eq_some_iff.1 hi).1
    obtain ⟨k, ob, h1, h2, _⟩ := hget i _ (List.getElem?_eq_getElem (by omega))
    rw [hi] at h1; cases h1; exact ⟨ob, h2⟩
  have hlk : ∀ i ob, lk i (numbered 0 (s.obs x)) = some ob → ∃ k ob', ks[i]? = some k ∧ lk k hp = some ob' ∧ Fits ob' ob := fun i ob hi => by
    rw [lk_numbered] at hi
    exact hget i ob (by simpa using hi)
  -- the callee's side
  have hFc : ∀ b, FOf G hv hp w b → FOf (fun _ => True) (fun i => hv (ks.getD i 0)) (numbered 0 (s.obs x)) w b := fun b hb => ⟨⟨hb.1.1, trivial⟩, fun i ob hi => by
    obtain ⟨k, ob', h1, h2, _⟩ := hlk i ob hi
    simp only [hgd i k h1]
    exact hb.2 k ob' h2⟩
  have hIc : HInv w (ks.filterMap fun k => (hv k).ownBlock) (fun _ => True) (fun i => hv (ks.getD i 0)) (numbered 0 (s.obs x)) w := by
    refine ⟨fun i ob hi => ?_, fun i j ob ob' hi hj hne => ?_, fun i ob b hi hb => ?_, Keeps.refl _ _⟩
    · obtain ⟨k, ob', h1, h2, h4, h5, h6, h7, h8⟩ := hlk i ob hi
      obtain ⟨us, ho, hg, hc⟩ := hI.obs k ob' h2
      refine ⟨us, by rw [← h4, ← h5, ← h6, hgd i k h1]; exact ho, by rw [← h5, ← h6]; exact hg, fun a b y e ha hb => ?_⟩
      rw [← h6] at ha
      obtain ⟨u, hu, hone, hr⟩ := hc a b y e ha hb
      refine ⟨u, by rw [← h5]; exact hu, hone, ?_⟩
      have hp' : RepP w (FOf G hv hp w) e u := by
        rcases h8 with h8 | h8
        · simpa [RepO, h8] using hr
        · exact repP_of_hf (List.all_eq_true.1 (h8 y (by rw [← h6]; exact List.mem_of_getElem? ha)) e (List.mem_of_getElem? hb)) hr.toC
      rw [h7]
      simp only [RepO, Bool.false_eq_true, if_false]
      exact hp'.mono (fun b hb => ⟨hFc b hb, rfl⟩)
    · obtain ⟨k, o1, h1, h2, _⟩ := hlk i ob hi
      obtain ⟨k', o2, h1', h2', _⟩ := hlk j ob' hj
      simp only [hgd i k h1, hgd j k' h1']
      refine hI.inj k k' o1 o2 h2 h2' (fun e => hne ?_)
      subst e
      exact (List.getElem?_inj (List.getElem?_eq_some_iff.1 h1).1 hkn).1 (h1.trans h1'.symm)
    · obtain ⟨k, o1, h1, h2, _⟩ := hlk i ob hi
      simp only [hgd i k h1] at hb
      exact .inr (List.mem_filterMap.2 ⟨k, List.mem_of_getElem? h1, hb⟩)
  have hev' := hev cf
  rw [hcf] at hev'
  obtain ⟨us, cs, hfv, hus, hcs⟩ := hev'
  have hLc : ∀ (i h : Nat) ob, ks[i]? = some h → lk h hp = some ob → LOf (fun i => hv (ks.getD i 0)) (numbered 0 (s.obs x)) i = some (hv h, ob.sz) := fun i h ob hi hob => by
    have hil := (List.getElem?_eq_some_iff.1 hi).1
    have h3 : ∃ o, (s.obs x)[i]? = some o := ⟨_, List.getElem?_eq_getElem (by omega)⟩
    obtain ⟨o', h3⟩ := h3
    obtain ⟨k, ob', h1, h2, hfit⟩ := hget i o' h3
    rw [hi] at h1; cases h1
    rw [hob] at h2; cases h2
    rw [LOf_eq (show lk i (numbered 0 (s.obs x)) = some o' by rw [lk_numbered]; simpa using h3), hgd i h hi, hfit.2.1]
  have hvs : us.toArray ++ args.map a.eval ++ cs.toArray = (us ++ args.toList.map a.eval ++ cs).toArray := by
    apply Array.ext'
    simp
  have hA : RepAL (LOf (fun i => hv (ks.getD i 0)) (numbered 0 (s.obs x))) w (FOf (fun _ => True) (fun i => hv (ks.getD i 0)) (numbered 0 (s.obs x)) w) (s.args x) (us ++ args.toList.map a.eval ++ cs) := by
    have hFa : ∀ b, b < w.heap.size → (∀ k ∈ ks, (hv k).ownBlock ≠ some b) → FOf (fun _ => True) (fun i => hv (ks.getD i 0)) (numbered 0 (s.obs x)) w b := fun b hb hn => ⟨⟨hb, trivial⟩, fun i ob hi => by
      obtain ⟨k, o1, h1, h2, _⟩ := hlk i ob hi
      simp only [hgd i k h1]
      exact hn k (List.mem_of_getElem? h1)⟩
    refine args_ok hI hLc hFa hkin hargs ?_ (fun j e v he hv' => ?_)
    · simp [repL_length hus, repL_length hcs]
    · have hl1 := repL_length hus
      have hl2 := repL_length hcs
      rw [List.append_assoc] at he hv'
      by_cases hj : j < us.length
      · rw [List.getElem?_append_left (by omega)] at he
        rw [List.getElem?_append_left hj] at hv'
        obtain ⟨u, hu, hr⟩ := repL_get hus j e he
        rw [hu] at hv'; cases hv'; exact repC_oneD hr
      · rw [List.getElem?_append_right (by omega)] at he hv'
        rw [hl1] at hv'
        by_cases hj2 : j - first.length < args.toList.length
        · rw [List.getElem?_append_left (by simpa using hj2)] at he hv'
          exact rep_list hev _ _ e v he hv'
        · rw [List.getElem?_append_right (by simpa using hj2)] at he hv'
          simp only [List.length_map] at he hv'
          obtain ⟨u, hu, hr⟩ := repL_get hcs _ e he
          rw [hu] at hv'; cases hv'; exact repC_oneD hr
  have hmain := hcall w _ (fun _ => True) _ _ (fun _ _ => trivial) hIc hA
  refine callOp_wp (R := fun v w' => ∃ hv1, HInv w (ks.filterMap fun k => (hv k).ownBlock) (fun _ => True) hv1 (numbered 0 (s.out x ++ s.new x)) w' ∧ (∀ i, i < (s.obs x).length → hv1 i = hv (ks.getD i 0)) ∧ Rep (LOf hv1 (numbered 0 (s.out x ++ s.new x))) w' (FOf (fun _ => True) hv1 (numbered 0 (s.out x ++ s.new x)) w') (s.res x) v) ho hfv hent (by rw [hvs]; exact hmain.mono (fun e w' ⟨v, hv1, he, h1, h2, h3⟩ => ⟨v, he, hv1, h1, h2, h3⟩)) (fun v w' ⟨hv1, hI1, hsame, hrep⟩ => ?_)
  clear hmain hcall
  -- back in the caller
  have hlen : (s.out x).length = ks.length := by omega
  have hnk : ∀ h ∈ ks, h < nx := fun h hm => by obtain ⟨ob, hob⟩ := hkin h hm; exact hk h ob hob
  obtain ⟨hv', hv'd⟩ : ∃ hv' : Nat → Value, hv' = fun h => if nx ≤ h then hv1 (ks.length + (h - nx)) else hv h := ⟨_, rfl⟩
  have hvlt : ∀ h, h < nx → hv' h = hv h := fun h hh => by rw [hv'd]; exact if_neg (by omega)
  have hvge : ∀ h, nx ≤ h → hv' h = hv1 (ks.length + (h - nx)) := fun h hh => by rw [hv'd]; exact if_pos hh
  have hhp : ({ d, new := numbered nx (s.new x), upd := updOf hp ks (s.out x) } : Res).hpOf hp = numbered nx (s.new x) ++ updHP (updOf hp ks (s.out x)) hp := rfl
  have hnew : ∀ h, nx ≤ h → lk h (numbered nx (s.new x) ++ updHP (updOf hp ks (s.out x)) hp) = (s.new x)[h - nx]? := fun h hh => by
    rw [lk_append, lk_numbered, if_pos hh]
    have : lk h (updHP (updOf hp ks (s.out x)) hp) = none := by
      cases h1 : lk h (updHP (updOf hp ks (s.out x)) hp) with
      | none => rfl
      | some ob =>
        obtain ⟨ob', h2⟩ := lk_updHP _ _ _ _ h1
        have := hk h ob' h2
        omega
    rw [this, Option.or_none]
  have hold : ∀ h, h < nx → lk h (numbered nx (s.new x) ++ updHP (updOf hp ks (s.out x)) hp) = lk h (updHP (updOf hp ks (s.out x)) hp) := fun h hh => by
    rw [lk_append, lk_numbered, if_neg (by omega), Option.none_or]
  -- what the callee's objects are called here
  have hin : ∀ i k, ks[i]? = some k → ∃ o', (s.out x)[i]? = some o' ∧ lk k (numbered nx (s.new x) ++ updHP (updOf hp ks (s.out x)) hp) = some ⟨o'.ty, o'.sz, deepOf hp k, o'.xs⟩ ∧ lk i (numbered 0 (s.out x ++ s.new x)) = some o' := fun i k hi => by
    have hil := (List.getElem?_eq_some_iff.1 hi).1
    have h3 : ∃ o, (s.out x)[i]? = some o := ⟨_, List.getElem?_eq_getElem (by omega)⟩
    obtain ⟨o', h3⟩ := h3
    have hm := List.mem_of_getElem? hi
    refine ⟨o', h3, ?_, ?_⟩
    · rw [hold k (hnk k hm)]
      exact lk_upd_in ks _ hp i k o' hkn hi h3 (hkin k hm)
    · rw [lk_numbered]
      simp only [Nat.zero_le, if_true, Nat.sub_zero]
      rw [List.getElem?_append_left (by omega)]
      exact h3
  have hnw : ∀ j o', (s.new x)[j]? = some o' → lk (ks.length + j) (numbered 0 (s.out x ++ s.new x)) = some o' := fun j o' hj => by
    rw [lk_numbered]
    simp only [Nat.zero_le, if_true, Nat.sub_zero]
    rw [List.getElem?_append_right (by omega)]
    rw [← hj]
    congr 1
    omega
  have hvin : ∀ i k, ks[i]? = some k → hv1 i = hv k := fun i k hi => by
    have hil := (List.getElem?_eq_some_iff.1 hi).1
    rw [hsame i (by omega)]
    simp only [hgd i k hi]
  have hkeepb : ∀ b, b < w.heap.size → (∀ k ∈ ks, (hv k).ownBlock ≠ some b) → w'.heap[b]? = w.heap[b]? := fun b hb hn => hI1.keeps.block b hb (fun hm => by
    obtain ⟨k, hkm, hkb⟩ := List.mem_filterMap.1 hm
    exact hn k hkm hkb)
  have hnewblk : ∀ j o', (s.new x)[j]? = some o' → ∀ b, (hv1 (ks.length + j)).ownBlock = some b → w.heap.size ≤ b := fun j o' hj b hb => by
    rcases hI1.base _ _ b (hnw j o' hj) hb with h1 | h1
    · exact h1
    · obtain ⟨k, hkm, hkb⟩ := List.mem_filterMap.1 h1
      obtain ⟨i, hi⟩ := List.getElem?_of_mem hkm
      obtain ⟨o2, h4, _, h5⟩ := hin i k hi
      have hil := (List.getElem?_eq_some_iff.1 hi).1
      rcases hI1.inj _ _ _ _ (hnw j o' hj) h5 (by omega) with h6 | h6
      · rw [h6] at hb; cases hb
      · exact absurd (hb.trans ((congrArg Value.ownBlock (hvin i k hi)).trans hkb).symm) h6
  have hL : ∀ h y, LOf hv hp h = some y → LOf hv' (numbered nx (s.new x) ++ updHP (updOf hp ks (s.out x)) hp) h = some y := fun h y hy => by
    simp only [LOf, Option.map_eq_some_iff] at hy
    obtain ⟨ob, hob, rfl⟩ := hy
    have hlt := hk h ob hob
    by_cases hm : h ∈ ks
    · obtain ⟨i, hi⟩ := List.getElem?_of_mem hm
      obtain ⟨o2, h4, h5, _⟩ := hin i h hi
      rw [LOf_eq h5, hvlt h hlt]
      have hil := (List.getElem?_eq_some_iff.1 hi).1
      have : o2.sz = ob.sz := by
        have h6 : ∃ o, (s.obs x)[i]? = some o := ⟨_, List.getElem?_eq_getElem (by omega)⟩
        obtain ⟨o3, h6⟩ := h6
        obtain ⟨k, ob', h7, h8, hfit⟩ := hget i o3 h6
        rw [hi] at h7; cases h7
        rw [hob] at h8; cases h8
        have h9 := congrArg (fun l => l[i]?) hos
        simp only [List.getElem?_map, h4, h6, Option.map_some, Option.some.injEq] at h9
        rw [h9, hfit.2.1]
      rw [this]
    · have h5 : lk h (numbered nx (s.new x) ++ updHP (updOf hp ks (s.out x)) hp) = some ob := by rw [hold h hlt, lk_upd_out ks _ hp h hm]; exact hob
      rw [LOf_eq h5, hvlt h hlt]
  -- every object here is one of the callee's, or one that it did not see
  have hcase : ∀ h ob, lk h (numbered nx (s.new x) ++ updHP (updOf hp ks (s.out x)) hp) = some ob →
      (∃ j o', h = nx + j ∧ (s.new x)[j]? = some o' ∧ ob = o') ∨ (∃ i, ∃ o' : Ob, ks[i]? = some h ∧ (s.out x)[i]? = some o' ∧ ob = ⟨o'.ty, o'.sz, deepOf hp h, o'.xs⟩) ∨ (h ∉ ks ∧ h < nx ∧ lk h hp = some ob) := fun h ob hl => by
    by_cases hge : nx ≤ h
    · rw [hnew h hge] at hl
      exact .inl ⟨h - nx, ob, by omega, hl, rfl⟩
    · by_cases hm : h ∈ ks
      · obtain ⟨i, hi⟩ := List.getElem?_of_mem hm
        obtain ⟨o2, h4, h5, _⟩ := hin i h hi
        rw [hl] at h5
        cases h5
        exact .inr (.inl ⟨i, o2, hi, h4, rfl⟩)
      · rw [hold h (by omega), lk_upd_out ks _ hp h hm] at hl
        exact .inr (.inr ⟨hm, by omega, hl⟩)
  have hF : ∀ b, FOf G hv hp w b → FOf G hv' (numbered nx (s.new x) ++ updHP (updOf hp ks (s.out x)) hp) w' b ∧ w'.heap[b]? = w.heap[b]? := fun b hb => by
    refine ⟨⟨⟨Nat.lt_of_lt_of_le hb.1.1 hI1.keeps.size, hb.1.2⟩, fun h ob hl => ?_⟩, hkeepb b hb.1.1 (fun k hm => by obtain ⟨ob, hob⟩ := hkin k hm; exact hb.2 k ob hob)⟩
    rcases hcase h ob hl with ⟨j, o', rfl, hj, _⟩ | ⟨i, o', hi, _, _⟩ | ⟨hm, hlt, hob⟩
    · rw [hvge _ (by omega), show nx + j - nx = j by omega]
      intro hb'
      have := hnewblk j o' hj b hb'
      have := hb.1.1
      omega
    · have hm := List.mem_of_getElem? hi
      rw [hvlt h (hnk h hm)]
      obtain ⟨ob', hob'⟩ := hkin h hm
      exact hb.2 h ob' hob'
    · rw [hvlt h hlt]
      exact hb.2 h ob hob
  have hblk : ∀ k ob, lk k hp = some ob → ∀ b, (hv k).ownBlock = some b → b < w.heap.size := fun k ob hob b hb => by
    obtain ⟨vs, ho, _⟩ := hI.obs k ob hob
    exact (ho.lt b hb).2
  refine hK v hv' w' ⟨⟨fun h ob hl => ?_, fun h h' ob ob' hl hl' hne => ?_, fun h ob b hl hb => ?_, ?_⟩, ?_, fun e u hr => hr.mono hL hF, fun h ob hob _ => hvlt h (hk h ob hob)⟩
  · -- the objects
    have toNew : ∀ (o' : Ob) (y : List D) (e : D) (u : Value) (F0 : Nat → Prop) (L0 : LF) (dp dp' : Bool), flatO o' → y ∈ o'.xs → e ∈ y → RepO dp L0 w' F0 e u →
        RepO dp' (LOf hv' (numbered nx (s.new x) ++ updHP (updOf hp ks (s.out x)) hp)) w' (FOf G hv' (numbered nx (s.new x) ++ updHP (updOf hp ks (s.out x)) hp) w') e u := fun o' y e u F0 L0 dp dp' hfl hy he hr => by
      have hfl := hfl y hy e he
      have hrC := hr.toC
      have hrP : RepP w' (fun _ => False) e u := by
        cases e <;> simp only [Bool.false_eq_true] at hfl <;> exact flat_cell (F := F0) (w := w') (by first | rfl | exact hfl) hrC
      have hrP' : RepP w' (FOf G hv' (numbered nx (s.new x) ++ updHP (updOf hp ks (s.out x)) hp) w') e u := hrP.mono (fun b hb => hb.elim)
      cases dp'
      · simpa [RepO] using hrP'
      · simpa [RepO] using hrP'.toC
    rcases hcase h ob hl with ⟨j, o', rfl, hj, rfl⟩ | ⟨i, o', hi, ho', rfl⟩ | ⟨hm, hlt, hob⟩
    · obtain ⟨us, h1, h2, h3⟩ := hI1.obs _ _ (hnw j _ hj)
      rw [hvge _ (by omega), show nx + j - nx = j by omega]
      refine ⟨us, h1, h2, fun a b y e ha hb => ?_⟩
      obtain ⟨u, hu, h4, hr⟩ := h3 a b y e ha hb
      exact ⟨u, hu, h4, toNew _ y e u _ _ _ _ (hflat.2 _ (List.mem_append_right _ (List.mem_of_getElem? hj))) (List.mem_of_getElem? ha) (List.mem_of_getElem? hb) hr⟩
    · obtain ⟨o2, h4, _, h5⟩ := hin i h hi
      rw [ho'] at h4
      cases h4
      obtain ⟨us, h1, h2, h3⟩ := hI1.obs _ _ h5
      rw [hvlt h (hnk h (List.mem_of_getElem? hi)), ← hvin i h hi]
      refine ⟨us, h1, h2, fun a b y e ha hb => ?_⟩
      obtain ⟨u, hu, h6, hr⟩ := h3 a b y e ha hb
      exact ⟨u, hu, h6, toNew _ y e u _ _ _ _ (hflat.2 _ (List.mem_append_left _ (List.mem_of_getElem? ho'))) (List.mem_of_getElem? ha) (List.mem_of_getElem? hb) hr⟩
    · obtain ⟨us, h1, h2, h3⟩ := hI.obs h ob hob
      rw [hvlt h hlt]
      refine ⟨us, ownsRow_same h1 (fun b hb => hkeepb b (hblk h ob hob b hb) (fun k hk' hkb => ?_)), h2, fun a b y e ha hb => ?_⟩
      · obtain ⟨ob', hob'⟩ := hkin k hk'
        rcases hI.inj h k ob ob' hob hob' (fun e => hm (e ▸ hk')) with h4 | h4
        · rw [h4] at hb; cases hb
        · exact h4 (hb.trans hkb.symm)
      · obtain ⟨u, hu, h6, hr⟩ := h3 a b y e ha hb
        exact ⟨u, hu, h6, RepO.obMono hr hL hF⟩
  · -- no two in one block
    rw [hhp] at hl hl'
    have old : ∀ h ob, h < nx → lk h (numbered nx (s.new x) ++ updHP (updOf hp ks (s.out x)) hp) = some ob → ∃ o, lk h hp = some o := fun h ob hlt hl => by
      rw [hold h hlt] at hl
      exact lk_updHP _ _ _ _ hl
    by_cases hge : nx ≤ h
    · rw [hnew h hge] at hl
      by_cases hge' : nx ≤ h'
      · rw [hnew h' hge'] at hl'
        rw [hvge h hge, hvge h' hge']
        exact hI1.inj _ _ _ _ (hnw _ _ hl) (hnw _ _ hl') (by omega)
      · obtain ⟨o2, ho2⟩ := old h' ob' (by omega) hl'
        rw [hvge h hge, hvlt h' (by omega)]
        cases hb : (hv1 (ks.length + (h - nx))).ownBlock with
        | none => exact .inl rfl
        | some b =>
          refine .inr fun e => ?_
          have := hnewblk _ _ hl b hb
          have := hblk h' o2 ho2 b e.symm
          omega
    · obtain ⟨o1, ho1⟩ := old h ob (by omega) hl
      by_cases hge' : nx ≤ h'
      · rw [hnew h' hge'] at hl'
        rw [hvge h' hge', hvlt h (by omega)]
        cases hb : (hv h).ownBlock with
        | none => exact .inl rfl
        | some b =>
          refine .inr fun e => ?_
          have := hnewblk _ _ hl' b e.symm
          have := hblk h o1 ho1 b hb
          omega
      · obtain ⟨o2, ho2⟩ := old h' ob' (by omega) hl'
        rw [hvlt h (by omega), hvlt h' (by omega)]
        exact hI.inj h h' o1 o2 ho1 ho2 hne
  · -- where they lie
    rw [hhp] at hl
    by_cases hge : nx ≤ h
    · rw [hnew h hge] at hl
      rw [hvge h hge] at hb
      exact .inl (Nat.le_trans hI.keeps.size (hnewblk _ _ hl b hb))
    · rw [hold h (by omega)] at hl
      obtain ⟨o1, ho1⟩ := lk_updHP _ _ _ _ hl
      rw [hvlt h (by omega)] at hb
      exact hI.base h o1 b ho1 hb
  · refine ⟨hI1.keeps.os.trans hI.keeps.os, hI1.keeps.tape.trans hI.keeps.tape, hI1.keeps.output.trans hI.keeps.output, Nat.le_trans hI.keeps.size hI1.keeps.size, fun k hk' hS => ?_⟩
    rw [hkeepb k (Nat.lt_of_lt_of_le hk' hI.keeps.size) (fun k' hm hb => ?_)]
    · exact hI.keeps.block k hk' hS
    · obtain ⟨o1, ho1⟩ := hkin k' hm
      rcases hI.base k' o1 k ho1 hb with h1 | h1
      · omega
      · exact hS h1
  · -- the result
    have h1 := flatD_rep (F' := fun _ => False) hflat.1 hrep
    refine ren_rep (fun i k y hi hy => ?_) (fun b hb => hb.elim) hren h1
    by_cases hil : i < ks.length
    · rw [List.getElem?_append_left hil] at hi
      obtain ⟨o2, h4, h5, h6⟩ := hin i k hi
      rw [LOf_eq h6] at hy
      show LOf hv' (numbered nx (s.new x) ++ updHP (updOf hp ks (s.out x)) hp) k = some y
      rw [LOf_eq h5, hvlt k (hnk k (List.mem_of_getElem? hi)), ← hvin i k hi]
      exact hy
    · rw [List.getElem?_append_right (by omega)] at hi
      have hjl := (List.getElem?_eq_some_iff.1 hi).1
      simp only [List.length_range'] at hjl
      rw [List.getElem?_range' (by omega)] at hi
      simp only [Nat.one_mul, Option.some.injEq] at hi
      subst hi
      have h3 : ∃ o, (s.new x)[i - ks.length]? = some o := ⟨_, List.getElem?_eq_getElem (by omega)⟩
      obtain ⟨o', h3⟩ := h3
      have h6 := hnw _ _ h3
      rw [show ks.length + (i - ks.length) = i by omega] at h6
      rw [LOf_eq h6] at hy
      show LOf hv' (numbered nx (s.new x) ++ updHP (updOf hp ks (s.out x)) hp) (nx + (i - ks.length)) = some y
      have h7 := hnew (nx + (i - ks.length)) (by omega)
      rw [show nx + (i - ks.length) - nx = i - ks.length by omega, h3] at h7
      rw [LOf_eq h7, hvge _ (by omega), show ks.length + (nx + (i - ks.length) - nx) = i by omega]
      exact hy
end Go.Proofs.Ytihgdjflacccmaa.Abs

/- Abs, part 16: the walk, step by step. -/
set_option linter.unusedVariables false
set_option linter.unusedSimpArgs false
namespace Go.Proofs.Ytihgdjflacccmaa.Abs
open Go Go.RowKit
variable {P : Program} {T : TT} {C : Ctx} {m : Nat} {ops l : List Oper} {o : Oper} {st st' : St} {K : St → Prop} {Q : Exit → St → Prop}

theorem areg_go {dst : Option Tmp} {op : Op} {ty : TypeId} {pos : String} {af : Array Edge} {pre : Prop} {r : Res} (hs : astep T op (evD st.sl) st.hp st.nx = some (pre, r)) (hd : deadOk m r = true) (hpre : pre) (hst : st.app dst r = st') (hK : areg P T m ops l st' K) : areg P T m ops ({ dst := dst, op := op, type := ty, pos := pos, after := af, guard := none } :: l) st K := by
  simp only [areg, aop, hs]
  exact ⟨hpre, hd, by rw [hst]; exact hK⟩
theorem areg_call {dst : Option Tmp} {op : Op} {ty : TypeId} {pos : String} {af : Array Edge} {r : Res} (hs : astep T op (evD st.sl) st.hp st.nx = none) (hr : OpRel P { dst := dst, op := op, type := ty, pos := pos, after := af, guard := none } (evD st.sl) st.hp st.nx r) (hst : st.app dst r = st') (hK : areg P T m ops l st' K) : areg P T m ops ({ dst := dst, op := op, type := ty, pos := pos, after := af, guard := none } :: l) st K := by
  simp only [areg, aop, hs]
  exact ⟨r, hr, by rw [hst]; exact hK⟩
/-- A guarded operation, the guard met. -/
theorem areg_yes {dst : Option Tmp} {op : Op} {ty : TypeId} {pos : String} {af : Array Edge} {j : Nat} {want b : Bool} (hg : guardD ops j st.sl = some b) (hb : b = want) (hK : aop P T m { dst := dst, op := op, type := ty, pos := pos, after := af, guard := some (j, want) } st (fun st' => areg P T m ops l st' K)) : areg P T m ops ({ dst := dst, op := op, type := ty, pos := pos, after := af, guard := some (j, want) } :: l) st K := by
  subst hb
  simp only [areg, hg]
  exact ⟨fun _ => hK, fun e => absurd e (by cases b <;> simp)⟩
theorem areg_no {dst : Option Tmp} {op : Op} {ty : TypeId} {pos : String} {af : Array Edge} {j : Nat} {want b : Bool} (hg : guardD ops j st.sl = some b) (hb : b = !want) (hK : areg P T m ops l ⟨putSl dst .any st.sl, st.hp, st.nx⟩ K) : areg P T m ops ({ dst := dst, op := op, type := ty, pos := pos, after := af, guard := some (j, want) } :: l) st K := by
  subst hb
  simp only [areg, hg]
  exact ⟨fun e => absurd e (by cases want <;> simp), fun _ => hK⟩
theorem areg_yes_go {dst : Option Tmp} {op : Op} {ty : TypeId} {pos : String} {af : Array Edge} {j : Nat} {want : Bool} {pre : Prop} {r : Res} (hg : guardD ops j st.sl = some want) (hs : astep T op (evD st.sl) st.hp st.nx = some (pre, r)) (hd : deadOk m r = true) (hpre : pre) (hst : st.app dst r = st') (hK : areg P T m ops l st' K) : areg P T m ops ({ dst := dst, op := op, type := ty, pos := pos, after := af, guard := some (j, want) } :: l) st K :=
  areg_yes hg rfl (by simp only [aop, hs]; exact ⟨hpre, hd, by rw [hst]; exact hK⟩)
theorem areg_yes_call {dst : Option Tmp} {op : Op} {ty : TypeId} {pos : String} {af : Array Edge} {j : Nat} {want : Bool} {r : Res} (hg : guardD ops j st.sl = some want) (hs : astep T op (evD st.sl) st.hp st.nx = none) (hr : OpRel P { dst := dst, op := op, type := ty, pos := pos, after := af, guard := some (j, want) } (evD st.sl) st.hp st.nx r) (hst : st.app dst r = st') (hK : areg P T m ops l st' K) : areg P T m ops ({ dst := dst, op := op, type := ty, pos := pos, after := af, guard := some (j, want) } :: l) st K :=
  areg_yes hg rfl (by simp only [aop, hs]; exact ⟨r, hr, by rw [hst]; exact hK⟩)
theorem areg_not {dst : Option Tmp} {op : Op} {ty : TypeId} {pos : String} {af : Array Edge} {j : Nat} {want b : Bool} (hg : guardD ops j st.sl = some b) (hb : (!want) = b) (hst : St.mk (putSl dst .any st.sl) st.hp st.nx = st') (hK : areg P T m ops l st' K) : areg P T m ops ({ dst := dst, op := op, type := ty, pos := pos, after := af, guard := some (j, want) } :: l) st K :=
  areg_no hg hb.symm (by rw [hst]; exact hK)
/-- Two ways, by a guard's answer. -/
theorem areg_split {j : Nat} {b : Bool} (hg : guardD ops j st.sl = some b) (ht : b = true → areg P T m ops l st K) (hf : b = false → areg P T m ops l st K) : areg P T m ops l st K := by
  cases b
  · exact hf rfl
  · exact ht rfl

/-! ### A guarded operation without two ways -/
def gd (b want : Bool) (d : D) : D := if b = want then d else .any
theorem gd_tt (d : D) : gd true true d = d := rfl
theorem gd_ff (d : D) : gd false false d = d := rfl
theorem gd_tf (d : D) : gd true false d = .any := rfl
theorem gd_ft (d : D) : gd false true d = .any := rfl
theorem pick_and (t x : Bool) : (if t = true then gd t true (.val (.bool x)) else .val (.bool false)) = .val (.bool (t && x)) := by cases t <;> rfl
theorem pick_or (t x : Bool) : (if t = true then .val (.bool true) else gd t false (.val (.bool x))) = .val (.bool (t || x)) := by cases t <;> rfl

theorem areg_gd {dst : Option Tmp} {op : Op} {ty : TypeId} {pos : String} {af : Array Edge} {j : Nat} {want b : Bool} {d : D} (hg : guardD ops j st.sl = some b) (hs : b = want → ∃ pre, astep T op (evD st.sl) st.hp st.nx = some (pre, { d := d }) ∧ pre)
    (hst : St.mk (putSl dst (gd b want d) st.sl) st.hp st.nx = st') (hK : areg P T m ops l st' K) : areg P T m ops ({ dst := dst, op := op, type := ty, pos := pos, after := af, guard := some (j, want) } :: l) st K := by
  by_cases hb : b = want
  · subst hb
    obtain ⟨pre, h1, h2⟩ := hs rfl
    refine areg_yes_go hg h1 rfl h2 ?_ hK
    rw [← hst]
    simp [St.app, killSl, Res.hpOf, updHP, gd]
  · have hb' : (!want) = b := by cases b <;> cases want <;> simp_all
    refine areg_not hg hb' ?_ hK
    rw [← hst]
    simp [gd, hb]
theorem areg_gd_call {dst : Option Tmp} {op : Op} {ty : TypeId} {pos : String} {af : Array Edge} {j : Nat} {want b : Bool} {d : D} (hg : guardD ops j st.sl = some b)
    (hs : b = want → astep T op (evD st.sl) st.hp st.nx = none ∧ ∃ r, OpRel P { dst := dst, op := op, type := ty, pos := pos, after := af, guard := some (j, want) } (evD st.sl) st.hp st.nx r ∧ r.d = d ∧ r.new = [] ∧ r.upd = [])
    (hst : St.mk (putSl dst (gd b want d) st.sl) st.hp st.nx = st') (hK : areg P T m ops l st' K) : areg P T m ops ({ dst := dst, op := op, type := ty, pos := pos, after := af, guard := some (j, want) } :: l) st K := by
  by_cases hb : b = want
  · subst hb
    obtain ⟨h1, r, h2, h3, h4, h5⟩ := hs rfl
    refine areg_yes_call hg h1 h2 ?_ hK
    rw [← hst]
    simp [St.app, killSl, Res.hpOf, updHP, gd, h2.1.2, h3, h4, h5]
  · have hb' : (!want) = b := by cases b <;> cases want <;> simp_all
    refine areg_not hg hb' ?_ hK
    rw [← hst]
    simp [gd, hb]

/-- A region in one line of a walk. -/
theorem awp_reg {N : Nat} {id : Nat} {ops : Array Oper} (hT : TOk P T) (hP : C.P = P) (hCm : C.m = m) (hN : C.N = N) (l : List Oper) (he : ops = l.toArray) (hd : dstsOk N l = true) (h : areg P T m l l st (Q .normal)) : awp C (.region id ops false) Q st := by
  subst he
  exact awp_region hT hP hCm hN hd h
theorem areg_end (h : K st) : areg P T m ops [] st K := h

/-- How a walk ends. -/
theorem fin_mk {X : Type} {rs : List ResultVar} {s : Spec X} {x : X} (ks : List Nat) {d d' : D} (hd : outD T st.sl st.hp rs = some d) (hr : ren (List.range m ++ ks) (s.res x) = some d') (he : d' = d) (ho : Objs st.hp (List.range m ++ ks) (s.out x ++ s.new x)) (hn : (List.range m ++ ks).Nodup) : Fin T rs s m x st :=
  ⟨d, ks, hd, he ▸ hr, ho, hn⟩

/-! ### The names of a walk's states, as one bundle of equations -/
theorem nrm : (∀ (st : St) (dst : Option Tmp) (r : Res), st.app dst r = ⟨putSl dst r.d (killSl r.dead st.sl), r.hpOf st.hp, st.nx + r.new.length⟩) ∧ (∀ (t : Tmp) (d : D) (sl : List (Nat × D)), putSl (some t) d sl = (t, d) :: sl) ∧ (∀ (d : D) (sl : List (Nat × D)), putSl none d sl = sl) ∧
    (∀ sl : List (Nat × D), killSl none sl = sl) ∧ (∀ (d : D) (hp : HP), Res.hpOf { d := d } hp = hp) ∧ (∀ (d : D) (new : List (Nat × Ob)) (hp : HP), Res.hpOf { d := d, new := new } hp = new ++ hp) ∧ (∀ (d : D) (new upd : List (Nat × Ob)) (hp : HP), Res.hpOf { d := d, new := new, upd := upd } hp = new ++ updHP upd hp) ∧
    (∀ hp : HP, updHP [] hp = hp) ∧ (∀ (h : Nat) (ob : Ob) (l : List (Nat × Ob)) (hp : HP), updHP ((h, ob) :: l) hp = updHP l (hset h ob hp)) ∧ (∀ (sl : List (Nat × D)) (t : Tmp), evD sl (.tmp t) = (lk t sl).getD .any) ∧ (∀ (sl : List (Nat × D)) (v : Value), evD sl (.const v) = cst v) ∧
    (∀ (k : IntKind) (n : Int), cst (.int k n) = .val (.int k n)) ∧ (∀ b : Bool, cst (.bool b) = .val (.bool b)) ∧ (∀ b : ByteArray, cst (.string b) = .val (.string b)) ∧ (∀ d : D, gd true true d = d) ∧ (∀ d : D, gd false false d = d) ∧ (∀ d : D, gd true false d = .any) ∧ (∀ d : D, gd false true d = .any) :=
  ⟨fun _ _ _ => rfl, fun _ _ _ => rfl, fun _ _ => rfl, fun _ => rfl, fun _ _ => rfl, fun _ _ _ => rfl, fun _ _ _ _ => rfl, fun _ => rfl, fun _ _ _ _ => rfl, fun _ _ => rfl, fun _ _ => rfl, fun _ _ => rfl, fun _ => rfl, fun _ => rfl, fun _ => rfl, fun _ => rfl, fun _ => rfl, fun _ => rfl⟩
theorem lk_nrm {α : Type} : (∀ (k : Nat) (v : α) (l : List (Nat × α)) (k' : Nat), lk k' ((k, v) :: l) = if k' = k then some v else lk k' l) ∧ (∀ v d : α, (some v).getD d = v) ∧ (∀ l : List α, [] ++ l = l) ∧ (∀ (x : α) (l m : List α), (x :: l) ++ m = x :: (l ++ m)) ∧ ([] : List α).length = 0 ∧ (∀ (x : α) (l : List α), (x :: l).length = l.length + 1) :=
  ⟨fun _ _ _ _ => rfl, fun _ _ => rfl, fun _ => rfl, fun _ _ _ => rfl, rfl, fun _ _ => rfl⟩
theorem blockA_hit {id : Nat} (h : Q .normal st) : blockA id Q (.exit id) st := by simp [blockA, h]
theorem blockA_miss {id id' : Nat} (hne : id' ≠ id) (h : Q (.exit id') st) : blockA id Q (.exit id') st := by simp [blockA, hne, h]
theorem wI64 {n : Int} (h1 : -9223372036854775808 ≤ n) (h2 : n ≤ 9223372036854775807) : IntKind.i64.wrap n = n := by
  simp only [IntKind.wrap, IntKind.bits, IntKind.signed]; simp; split <;> omega
theorem wI32 {n : Int} (h1 : -2147483648 ≤ n) (h2 : n ≤ 2147483647) : IntKind.i32.wrap n = n := by
  simp only [IntKind.wrap, IntKind.bits, IntKind.signed]; simp; split <;> omega
theorem wI16 {n : Int} (h1 : -32768 ≤ n) (h2 : n ≤ 32767) : IntKind.i16.wrap n = n := by
  simp only [IntKind.wrap, IntKind.bits, IntKind.signed]; simp; split <;> omega
theorem wI8 {n : Int} (h1 : -128 ≤ n) (h2 : n ≤ 127) : IntKind.i8.wrap n = n := by
  simp only [IntKind.wrap, IntKind.bits, IntKind.signed]; simp; split <;> omega
theorem wU8 {n : Int} (h1 : 0 ≤ n) (h2 : n ≤ 255) : IntKind.u8.wrap n = n := by
  simp only [IntKind.wrap, IntKind.bits, IntKind.signed]; simp; omega

def mkO (cs : List D) : Option (List Value) → D
  | some vs => .val (.agg vs.toArray)
  | none => .agg cs
theorem dc_nrm : (∀ l : List Value, dcells (.val (.agg l.toArray)) = l.map .val) ∧ (∀ cs : List D, dcells (.agg cs) = cs) ∧ (∀ (k : IntKind) (n : Int), dcells (.val (.int k n)) = [.val (.int k n)]) ∧ (∀ b : Bool, dcells (.val (.bool b)) = [.val (.bool b)]) ∧ (∀ b : ByteArray, dcells (.val (.string b)) = [.val (.string b)]) ∧
    dcells .nil = [.nil] ∧ dcells .any = [.any] ∧ (∀ h : Nat, dcells (.own h) = [.own h]) ∧ (∀ (sz : Nat) (xs : List (List D)), dcells (.sl sz xs) = [.sl sz xs]) ∧ (∀ h lo n : Nat, dcells (.vw h lo n) = [.vw h lo n]) ∧ (∀ h i off : Nat, dcells (.ptr h i off) = [.ptr h i off]) :=
  ⟨fun _ => rfl, fun _ => rfl, fun _ _ => rfl, fun _ => rfl, fun _ => rfl, rfl, rfl, fun _ => rfl, fun _ _ => rfl, fun _ _ _ => rfl, fun _ _ _ => rfl⟩
theorem mk_nrm : (∀ cs : List D, mkAgg cs = mkO cs (allVals cs)) ∧ allVals [] = some [] ∧ (∀ (v : Value) (ds : List D), allVals (.val v :: ds) = (allVals ds).map (v :: ·)) ∧ (∀ ds : List D, allVals (.nil :: ds) = none) ∧ (∀ ds : List D, allVals (.any :: ds) = none) ∧ (∀ (h : Nat) (ds : List D), allVals (.own h :: ds) = none) ∧
    (∀ (sz : Nat) (xs : List (List D)) (ds : List D), allVals (.sl sz xs :: ds) = none) ∧ (∀ (h lo n : Nat) (ds : List D), allVals (.vw h lo n :: ds) = none) ∧ (∀ (cs : List D) (vs : List Value), mkO cs (some vs) = .val (.agg vs.toArray)) ∧ (∀ cs : List D, mkO cs none = .agg cs) ∧ (∀ (f : List Value → List Value) (v : List Value), Option.map f (some v) = some (f v)) ∧ (∀ f : List Value → List Value, Option.map f none = none) :=
  ⟨fun cs => by unfold mkAgg mkO; cases allVals cs <;> rfl, rfl, fun _ _ => rfl, fun _ => rfl, fun _ => rfl, fun _ _ => rfl, fun _ _ _ => rfl, fun _ _ _ _ => rfl, fun _ _ => rfl, fun _ => rfl, fun _ _ => rfl, fun _ => rfl⟩
theorem ti_nrm : (∀ (x cs : List D) (off : Nat), putCells true x off cs = x.take off ++ cs ++ x.drop (off + cs.length)) ∧ (∀ (x : List D) (c : D) (off : Nat), putCells false x off [c] = x.set off c) ∧ (∀ (fs : List (Nat × TypeId)) (a b : Nat) (z : Value), TI.aggB ⟨.struct fs, a, b, z⟩ = true) ∧ (∀ (n : Nat) (e : TypeId) (a b : Nat) (z : Value), TI.aggB ⟨.arr n e, a, b, z⟩ = true) ∧
    (∀ (k : IntKind) (a b : Nat) (z : Value), TI.aggB ⟨.int k, a, b, z⟩ = false) ∧ (∀ (a b : Nat) (z : Value), TI.aggB ⟨.bool, a, b, z⟩ = false) ∧ (∀ (a b : Nat) (z : Value), TI.aggB ⟨.str, a, b, z⟩ = false) ∧ (∀ (e : TypeId) (a b : Nat) (z : Value), TI.aggB ⟨.slice e, a, b, z⟩ = false) ∧ (∀ (e : TypeId) (a b : Nat) (z : Value), TI.aggB ⟨.ptr e, a, b, z⟩ = false) ∧ (∀ (a b : Nat) (z : Value), TI.aggB ⟨.other, a, b, z⟩ = false) ∧
    (∀ (sh : Sh) (a b : Nat) (l : List Value), zeroD ⟨sh, a, b, .agg l.toArray⟩ = l.map cst) ∧ (∀ (sh : Sh) (a b : Nat) (k : IntKind) (n : Int), zeroD ⟨sh, a, b, .int k n⟩ = [.val (.int k n)]) ∧ (∀ (sh : Sh) (a b : Nat) (c : Bool), zeroD ⟨sh, a, b, .bool c⟩ = [.val (.bool c)]) ∧ (∀ (sh : Sh) (a b : Nat), zeroD ⟨sh, a, b, .slice none 0 0⟩ = [.nil]) ∧ (∀ (sh : Sh) (a b : Nat) (t : ByteArray), zeroD ⟨sh, a, b, .string t⟩ = [.val (.string t)]) ∧ cst (.slice none 0 0) = .nil :=
  ⟨fun _ _ _ => rfl, fun _ _ _ => rfl, fun _ _ _ _ => rfl, fun _ _ _ _ _ => rfl, fun _ _ _ _ => rfl, fun _ _ _ => rfl, fun _ _ _ => rfl, fun _ _ _ _ => rfl, fun _ _ _ _ => rfl, fun _ _ _ => rfl, fun _ _ _ _ => rfl, fun _ _ _ _ _ => rfl, fun _ _ _ _ => rfl, fun _ _ _ => rfl, fun _ _ _ _ => rfl, rfl⟩
theorem mp_nrm {α β : Type} : (∀ (f : α → β) (x : α) (l : List α), (x :: l).map f = f x :: l.map f) ∧ (∀ f : α → β, ([] : List α).map f = []) := ⟨fun _ _ _ => rfl, fun _ => rfl⟩
theorem ls_nrm {α : Type} : (∀ (n : Nat) (x : α) (l : List α), (x :: l).take (n + 1) = x :: l.take n) ∧ (∀ l : List α, l.take 0 = []) ∧ (∀ n : Nat, ([] : List α).take n = []) ∧ (∀ (n : Nat) (x : α) (l : List α), (x :: l).drop (n + 1) = l.drop n) ∧ (∀ l : List α, l.drop 0 = l) ∧ (∀ n : Nat, ([] : List α).drop n = []) ∧
    (∀ (x y : α) (l : List α), (x :: l).set 0 y = y :: l) ∧ (∀ (x y : α) (n : Nat) (l : List α), (x :: l).set (n + 1) y = x :: l.set n y) :=
  ⟨fun _ _ _ => rfl, fun _ => by simp, fun _ => by simp, fun _ _ _ => rfl, fun _ => rfl, fun _ => by simp, fun _ _ _ => rfl, fun _ _ _ _ => rfl⟩
theorem nb_nrm : (∀ k : Nat, numbered k [] = []) ∧ (∀ (k : Nat) (o : Ob) (l : List Ob), numbered k (o :: l) = (k, o) :: numbered (k + 1) l) ∧ (∀ (hp : HP) (os : List Ob), updOf hp [] os = []) ∧ (∀ (hp : HP) (k : Nat) (ks : List Nat) (o : Ob) (os : List Ob), updOf hp (k :: ks) (o :: os) = (k, ⟨o.ty, o.sz, deepOf hp k, o.xs⟩) :: updOf hp ks os) :=
  ⟨fun _ => rfl, fun _ _ _ => rfl, fun _ os => by cases os <;> rfl, fun _ _ _ _ _ => rfl⟩

/-! ### Arguments of a call -/
variable {hp : HP} {ks : List Nat}
theorem args_nil : Args hp ks [] [] := trivial
theorem args_cons {d e : D} {ds es : List D} (h1 : ArgA hp ks d e) (h2 : Args hp ks ds es) : Args hp ks (d :: ds) (e :: es) := ⟨h1, h2⟩
theorem argl_nil : ArgL hp ks [] [] := trivial
theorem argl_cons {d e : D} {ds es : List D} (h1 : ArgC hp ks d e) (h2 : ArgL hp ks ds es) : ArgL hp ks (d :: ds) (e :: es) := ⟨h1, h2⟩
theorem arga_agg {cs ds : List D} (h : ArgL hp ks cs ds) : ArgA hp ks (.agg cs) (.agg ds) := h
theorem arga_val {v : Value} : ArgA hp ks (.val v) (.val v) := rfl
theorem argc_val {v : Value} : ArgC hp ks (.val v) (.val v) := rfl
theorem arga_nil : ArgA hp ks .nil .nil := rfl
theorem argc_nil : ArgC hp ks .nil .nil := rfl
theorem arga_own {i h : Nat} (e : ks[i]? = some h) : ArgA hp ks (.own i) (.own h) := e
theorem argc_own {i h : Nat} (e : ks[i]? = some h) : ArgC hp ks (.own i) (.own h) := e
theorem argc_slown {sz h : Nat} {xs : List (List D)} {ob : Ob} (hn : h ∉ ks) (hl : lk h hp = some ob) (hd : ob.deep = false) (hs : ob.sz = sz) (hx : ob.xs = xs) : ArgC hp ks (.sl sz xs) (.own h) := ⟨hn, ob, hl, hd, hs, hx⟩
theorem arga_slown {sz h : Nat} {xs : List (List D)} {ob : Ob} (hn : h ∉ ks) (hl : lk h hp = some ob) (hd : ob.deep = false) (hs : ob.sz = sz) (hx : ob.xs = xs) : ArgA hp ks (.sl sz xs) (.own h) := ⟨hn, ob, hl, hd, hs, hx⟩
theorem argc_slsl {sz : Nat} {xs : List (List D)} : ArgC hp ks (.sl sz xs) (.sl sz xs) := ⟨rfl, rfl⟩
theorem arga_slsl {sz : Nat} {xs : List (List D)} : ArgA hp ks (.sl sz xs) (.sl sz xs) := ⟨rfl, rfl⟩
theorem argc_slnil {sz : Nat} : ArgC hp ks (.sl sz []) .nil := rfl
theorem arga_slnil {sz : Nat} : ArgA hp ks (.sl sz []) .nil := rfl

/-- A call with nothing but read arguments. -/
theorem OpRel.call' {P : Program} {X : Type} {s : Spec X} {f : FuncId} (hF : FnOk P f s) (x : X) (ks : List Nat) {o : Oper} {cf : Operand} {args : Array Operand} {tys : Array TypeId} {ev : Operand → D} {hp : HP} {nx : Nat}
    {first caps : List D} {d : D} {no : List Ob} (hkn : ks.Nodup) (ho : o.op = .call ⟨.value cf, args, tys⟩) (hcf : ev cf = .fn (.func f) first caps) (hargs : Args hp ks (s.args x) (first ++ args.toList.map ev ++ caps)) (hpre : s.pre x) (hobs : Objs hp ks (s.obs x))
    (hno : s.new x = no) (hren : ren (ks ++ List.range' nx no.length) (s.res x) = some d) (hflat : flatD (s.res x) = true) (hfo : ∀ o ∈ s.out x ++ s.new x, flatO o) :
    OpRel P o ev hp nx { d, new := numbered nx (s.new x), upd := updOf hp ks (s.out x) } :=
  OpRel.call hF x ks hkn ho hcf hpre hargs hobs (by rw [hno]; exact hren) ⟨hflat, hfo⟩
end Go.Proofs.Ytihgdjflacccmaa.Abs

/- Abs, part 17: from a contract to a row. -/
set_option linter.unusedVariables false
set_option linter.unusedSimpArgs false
namespace Go.Proofs.Ytihgdjflacccmaa.Abs
open Go Go.RowKit Go.ChangeShapes Go.WideShapes Go.ChangeAt
variable {P : Program}

theorem hinv_none (W : World) (G : Nat → Prop) (hv : Nat → Value) : HInv W [] G hv [] W := ⟨fun h ob hl => by simp [lk] at hl, fun h h' ob ob' hl => by simp [lk] at hl, fun h ob b hl => by simp [lk] at hl, Keeps.refl _ _⟩

theorem trodAll_keep {H : Type} {enc : TypeId × Value → H} (hl : laidOutB P = true) {W W' : World} (hb : Below W.heap.size W W') : ∀ {ts : List TypeId} {vs : List Value} {ds : List (DataW H)} {ps : List MemPlace}, ts.all (fun t => P.readableRec t && decide (t < P.types.size)) = true →
    DataW.TrodAll enc P W 0 (fun _ => true) true ts vs ds ps → DataW.TrodAll enc P W' 0 (fun b => decide (b < W.heap.size)) true ts vs ds ps
  | [], [], [], _, _, h => h
  | t :: ts, v :: vs, d :: ds, ps, ht, h => by
    have hlt := h.lt
    obtain ⟨p, q, h1, h2, rfl⟩ := h
    simp only [List.all_cons, Bool.and_eq_true, decide_eq_true_eq] at ht
    exact ⟨p, q, Below.trod hl ht.1.1 ht.1.2 h1 hb (fun x hx => hlt x (by simp [hx])), trodAll_keep hl hb (by simpa using ht.2) h2, rfl⟩
  | [], _ :: _, _, _, _, h => h.elim
  | [], [], _ :: _, _, _, h => h.elim
  | _ :: _, [], _, _, _, h => h.elim
  | _ :: _, _ :: _, [], _, _, h => h.elim

/-- What a law's contract says of a call from a world 'W' that nobody shares. -/
theorem law_calls {X : Type} {s : Spec X} {f : FuncId} (hF : FnOk P f s) (x : X) (hpre : s.pre x) (hobs : s.obs x = []) (hout : s.out x = []) (hnew : s.new x = []) (hres : s.res x = .val (.bool true)) (W : World) (vs : List Value)
    (hA : ∀ (L : LF) (F : Nat → Prop), (∀ b, b < W.heap.size → F b) → RepAL L W F (s.args x) vs) : Calls P f vs.toArray W (fun e w' => e = .returned (.bool true) ∧ Below W.heap.size W w') := by
  have h := (hF.2 x hpre).2 W [] (fun _ => True) (fun _ => undef) vs (fun _ _ => trivial)
  rw [hobs, hout, hnew, hres] at h
  refine (h (hinv_none _ _ _) (hA _ _ (fun b hb => ⟨⟨hb, trivial⟩, fun h ob hl => by simp [numbered, lk] at hl⟩))).mono (fun e w' ⟨v, hv', he, hI, _, hr⟩ => ?_)
  rw [rep_val hr] at he
  exact ⟨he, hI.keeps.below⟩
theorem repAL_nil {L : LF} {W : World} {F : Nat → Prop} : RepAL L W F [] [] := trivial
theorem repAL_cons {L : LF} {W : World} {F : Nat → Prop} {d : D} {v : Value} {ds : List D} {vs : List Value} (h1 : RepA L W F d v) (h2 : RepAL L W F ds vs) : RepAL L W F (d :: ds) (v :: vs) := ⟨h1, h2⟩
theorem repA_val {L : LF} {W : World} {F : Nat → Prop} (v : Value) : RepA L W F (.val v) v := (RepP.val v : RepP W F (.val v) v)
end Go.Proofs.Ytihgdjflacccmaa.Abs
