import Derived.WalkKit
import Derived.Maps.AppendAt
import Derived.Laws.OwnMore
import Derived.Laws.MakeOwn
import Derived.Laws.CopyRow
import Derived.Deep.Draws
import Derived.Orders
import Derived.Laws.StructEq
/- Abs, part 1: abstract values, local objects, and what they stand for in a world. -/
set_option linter.unusedVariables false
set_option linter.unusedSimpArgs false
namespace Go.Proofs.YtpdkhlpmiblflaaGreat.Abs
open Go Go.RowKit

inductive D where
  | any
  | val (v : Value)
  | nil
  | sl (sz : Nat) (xs : List (List D))
  | own (h : Nat)
  | vw (h lo n : Nat)
  | cvw (h i off es n : Nat)
  | ptr (h i off : Nat)
  | rptr (sz : Nat) (xs : List (List D)) (i off : Nat)
  | agg (cs : List D)
  | tup (ds : List D)
  | fn (f : Fn) (first caps : List D)
  | clo (f : Fn) (caps : List D)
  | mp (ob : Option Nat) (M : Obj → Prop)

structure Ob where
  ty : TypeId
  sz : Nat
  deep : Bool
  xs : List (List D)

abbrev HP := List (Nat × Ob)

def lk {α : Type} (k : Nat) : List (Nat × α) → Option α
  | [] => none
  | (k', v) :: l => if k = k' then some v else lk k l

def Grid {α : Type} (sz : Nat) (xs : List (List α)) : Prop := ∀ x ∈ xs, x.length = sz

inductive RepP (w : World) (F : Nat → Prop) : D → Value → Prop where
  | any (v : Value) : RepP w F .any v
  | val (v : Value) : RepP w F (.val v) v
  | nil : RepP w F .nil (.slice none 0 0)
  | sl (sz : Nat) (xs : List (List D)) (A : Option Addr) (c : Nat) (V : Nat → Nat → Value) (hg : Grid sz xs)
      (h0 : A = none → xs = [] ∧ c = 0) (hm : xs.length ≤ c ∧ c ≤ maxLen)
      (hF : ∀ ad, A = some ad → xs ≠ [] → F ad.block ∧ ad.spot = none)
      (hc : ∀ ad i j x d, A = some ad → xs[i]? = some x → x[j]? = some d → w.cell? ⟨ad.block, ad.off + (i * sz + j), none⟩ = some (V i j) ∧ (V i j).oneCell' = true)
      (hr : ∀ i j x d, xs[i]? = some x → x[j]? = some d → RepP w F d (V i j)) : RepP w F (.sl sz xs) (.slice A xs.length c)
  | clo (f : Fn) (cs : List D) (vs : List Value) (A : Nat → Addr) (V : Nat → Nat → Nat → Value) (hl : cs.length = vs.length)
      (hc : ∀ k d, cs[k]? = some d → ∃ sz xs i off, d = .rptr sz xs i off ∧ vs[k]? = some (.pointer (some ⟨(A k).block, (A k).off + (i * sz + off), none⟩)) ∧ Grid sz xs ∧ (A k).spot = none ∧ (xs ≠ [] → F (A k).block) ∧
        ∀ i j x e, xs[i]? = some x → x[j]? = some e → w.cell? ⟨(A k).block, (A k).off + (i * sz + j), none⟩ = some (V k i j) ∧ (V k i j).oneCell' = true)
      (hr : ∀ k sz xs i0 off i j x e, cs[k]? = some (.rptr sz xs i0 off) → xs[i]? = some x → x[j]? = some e → RepP w F e (V k i j)) : RepP w F (.clo f cs) (.func f #[] vs.toArray)
  | mp (ob : Option Nat) (M : Obj → Prop) (b : Nat) (o : Obj) (hob : ∀ c, ob = some c → c = b) (hF : F b) (hb : w.heap[b]? = some o) (ho : ∃ es n, o = .map es n) (hM : M o) : RepP w F (.mp ob M) (.map (some b))

def RowP (w : World) (F : Nat → Prop) (ad : Addr) (sz : Nat) (xs : List (List D)) : Prop :=
  Grid sz xs ∧ ad.spot = none ∧ (xs ≠ [] → F ad.block) ∧ ∀ i j x d, xs[i]? = some x → x[j]? = some d →
    ∃ v, w.cell? ⟨ad.block, ad.off + (i * sz + j), none⟩ = some v ∧ v.oneCell' = true ∧ RepP w F d v

abbrev LF := Nat → Option (Value × Nat)

def RepC (L : LF) (w : World) (F : Nat → Prop) : D → Value → Prop
  | .own h, v => ∃ s, L h = some (v, s)
  | .vw h lo n, v => ∃ A c m cap s a, v = .slice A n c ∧ L h = some (.slice a m cap, s) ∧ lo + n ≤ m ∧ (n ≤ c ∧ c ≤ maxLen ∧ c + lo = cap) ∧ (A = none → c = 0) ∧ (0 < c → ∃ g, a = some ⟨g, 0, none⟩ ∧ A = some ⟨g, lo * s, none⟩)
  | .cvw h i off es n, v => ∃ g m cap s c, L h = some (.slice (some ⟨g, 0, none⟩) m cap, s) ∧ i < m ∧ off + n * es ≤ s ∧ (n ≤ c ∧ c ≤ maxLen) ∧ v = .slice (some ⟨g, i * s + off, none⟩) n c
  | .ptr h i off, v => ∃ g m cap s, L h = some (.slice (some ⟨g, 0, none⟩) m cap, s) ∧ v = .pointer (some ⟨g, i * s + off, none⟩)
  | .rptr sz xs i off, v => ∃ ad, v = .pointer (some ⟨ad.block, ad.off + (i * sz + off), none⟩) ∧ RowP w F ad sz xs
  | .agg _, _ | .tup _, _ | .fn _ _ _, _ => False
  | d, v => RepP w F d v

def RepL (L : LF) (w : World) (F : Nat → Prop) : List D → List Value → Prop
  | [], [] => True
  | d :: ds, v :: vs => RepC L w F d v ∧ RepL L w F ds vs
  | _, _ => False

def RepA (L : LF) (w : World) (F : Nat → Prop) : D → Value → Prop
  | .agg cs, v => ∃ vs : List Value, v = .agg vs.toArray ∧ RepL L w F cs vs ∧ ∀ u ∈ vs, u.oneCell' = true
  | .fn f fs cs, v => ∃ us vs : List Value, v = .func f us.toArray vs.toArray ∧ RepL L w F fs us ∧ RepL L w F cs vs
  | d, v => RepC L w F d v

def RepAL (L : LF) (w : World) (F : Nat → Prop) : List D → List Value → Prop
  | [], [] => True
  | d :: ds, v :: vs => RepA L w F d v ∧ RepAL L w F ds vs
  | _, _ => False

def Rep (L : LF) (w : World) (F : Nat → Prop) : D → Value → Prop
  | .tup ds, v => ∃ vs : List Value, v = .tuple vs.toArray ∧ RepAL L w F ds vs
  | d, v => RepA L w F d v

section mono
variable {L L' : LF} {w w' : World} {F F' : Nat → Prop}

theorem cell_same {w w' : World} {b : Nat} (h : w'.heap[b]? = w.heap[b]?) (o : Nat) : w'.cell? ⟨b, o, none⟩ = w.cell? ⟨b, o, none⟩ := World.cell?_of_block (w := w) (a := ⟨b, o, none⟩) h

theorem RepP.mono {d : D} {v : Value} (hF : ∀ b, F b → F' b ∧ w'.heap[b]? = w.heap[b]?) (h : RepP w F d v) : RepP w' F' d v := by
  induction h with
  | any v => exact .any v
  | val v => exact .val v
  | nil => exact .nil
  | sl sz xs A c V hg h0 hm hF0 hc hr ih =>
    refine .sl sz xs A c V hg h0 hm (fun ad ha hx => ⟨(hF _ (hF0 ad ha hx).1).1, (hF0 ad ha hx).2⟩) (fun ad i j x d ha hi hj => ?_) ih
    have hne : xs ≠ [] := by rintro rfl; simp at hi
    have := hc ad i j x d ha hi hj
    exact ⟨(cell_same (hF _ (hF0 ad ha hne).1).2 _).trans this.1, this.2⟩
  | clo f cs vs A V hl hc hr ih =>
    refine .clo f cs vs A V hl (fun k d hd => ?_) ih
    obtain ⟨sz, xs, i, off, h1, h2, h3, h4, h5, h6⟩ := hc k d hd
    refine ⟨sz, xs, i, off, h1, h2, h3, h4, fun hx => (hF _ (h5 hx)).1, fun i j x e hi hj => ?_⟩
    have hne : xs ≠ [] := by rintro rfl; simp at hi
    have := h6 i j x e hi hj
    exact ⟨(cell_same (hF _ (h5 hne)).2 _).trans this.1, this.2⟩
  | mp ob M b o h0 h1 h2 h3 h4 => exact .mp ob M b o h0 (hF _ h1).1 ((hF _ h1).2.trans h2) h3 h4

theorem RowP.mono {ad : Addr} {sz : Nat} {xs : List (List D)} (hF : ∀ b, F b → F' b ∧ w'.heap[b]? = w.heap[b]?) (h : RowP w F ad sz xs) : RowP w' F' ad sz xs := by
  obtain ⟨h1, h2, h3, h4⟩ := h
  refine ⟨h1, h2, fun hx => (hF _ (h3 hx)).1, fun i j x d hi hj => ?_⟩
  obtain ⟨v, hv, ho, hr⟩ := h4 i j x d hi hj
  have hne : xs ≠ [] := by rintro rfl; simp at hi
  exact ⟨v, (cell_same (hF _ (h3 hne)).2 _).trans hv, ho, hr.mono hF⟩

theorem RepC.mono {d : D} {v : Value} (hL : ∀ h x, L h = some x → L' h = some x) (hF : ∀ b, F b → F' b ∧ w'.heap[b]? = w.heap[b]?) (h : RepC L w F d v) : RepC L' w' F' d v := by
  cases d <;> simp only [RepC] at h ⊢
  case own => obtain ⟨s, hs⟩ := h; exact ⟨s, hL _ _ hs⟩
  case vw =>
    obtain ⟨A, c, m, cap, s, a, e, hl, r⟩ := h
    exact ⟨A, c, m, cap, s, a, e, hL _ _ hl, r⟩
  case cvw =>
    obtain ⟨g, m, cap, s, c, hl, r⟩ := h
    exact ⟨g, m, cap, s, c, hL _ _ hl, r⟩
  case ptr =>
    obtain ⟨g, m, cap, s, hl, r⟩ := h
    exact ⟨g, m, cap, s, hL _ _ hl, r⟩
  case rptr =>
    obtain ⟨ad, e, hr⟩ := h
    exact ⟨ad, e, hr.mono hF⟩
  all_goals exact h.mono hF

theorem RepL.mono (hL : ∀ h x, L h = some x → L' h = some x) (hF : ∀ b, F b → F' b ∧ w'.heap[b]? = w.heap[b]?) : ∀ {ds : List D} {vs : List Value}, RepL L w F ds vs → RepL L' w' F' ds vs
  | [], [], _ => trivial
  | d :: ds, v :: vs, h => ⟨h.1.mono hL hF, RepL.mono hL hF h.2⟩
  | [], _ :: _, h => h.elim
  | _ :: _, [], h => h.elim

theorem RepA.mono {d : D} {v : Value} (hL : ∀ h x, L h = some x → L' h = some x) (hF : ∀ b, F b → F' b ∧ w'.heap[b]? = w.heap[b]?) (h : RepA L w F d v) : RepA L' w' F' d v := by
  cases d <;> simp only [RepA] at h ⊢
  case agg => obtain ⟨vs, e, hr, ho⟩ := h; exact ⟨vs, e, hr.mono hL hF, ho⟩
  case fn => obtain ⟨us, vs, e, hr1, hr⟩ := h; exact ⟨us, vs, e, hr1.mono hL hF, hr.mono hL hF⟩
  all_goals exact h.mono hL hF

theorem RepAL.mono (hL : ∀ h x, L h = some x → L' h = some x) (hF : ∀ b, F b → F' b ∧ w'.heap[b]? = w.heap[b]?) : ∀ {ds : List D} {vs : List Value}, RepAL L w F ds vs → RepAL L' w' F' ds vs
  | [], [], _ => trivial
  | d :: ds, v :: vs, h => ⟨h.1.mono hL hF, RepAL.mono hL hF h.2⟩
  | [], _ :: _, h => h.elim
  | _ :: _, [], h => h.elim

theorem Rep.mono {d : D} {v : Value} (hL : ∀ h x, L h = some x → L' h = some x) (hF : ∀ b, F b → F' b ∧ w'.heap[b]? = w.heap[b]?) (h : Rep L w F d v) : Rep L' w' F' d v := by
  cases d <;> simp only [Rep] at h ⊢
  case tup => obtain ⟨vs, e, hr⟩ := h; exact ⟨vs, e, hr.mono hL hF⟩
  all_goals exact h.mono hL hF
end mono

/-! ### What no longer says anything of handle h -/
def killC (h : Nat) : D → D
  | .own k => if k = h then .any else .own k
  | .vw k lo n => if k = h then .any else .vw k lo n
  | .cvw k i off es n => if k = h then .any else .cvw k i off es n
  | .ptr k i off => if k = h then .any else .ptr k i off
  | d => d
def kill (h : Nat) : D → D
  | .agg cs => .agg (cs.map (killC h))
  | .fn f fs cs => .fn f (fs.map (killC h)) (cs.map (killC h))
  | .tup _ => .any
  | d => killC h d

section kill
variable {L L' : LF} {w w' : World} {F F' : Nat → Prop}
theorem RepC.killed {h : Nat} {d : D} {v : Value} (hL : ∀ k x, k ≠ h → L k = some x → L' k = some x) (hF : ∀ b, F b → F' b ∧ w'.heap[b]? = w.heap[b]?) (hr : RepC L w F d v) : RepC L' w' F' (killC h d) v := by
  cases d <;> simp only [killC]
  case own k =>
    split
    · exact .any v
    · rename_i hne; obtain ⟨s, hs⟩ := hr; exact ⟨s, hL _ _ hne hs⟩
  case vw k lo n =>
    split
    · exact .any v
    · rename_i hne; obtain ⟨A, c, m, cap, s, a, e, hl, r⟩ := hr; exact ⟨A, c, m, cap, s, a, e, hL _ _ hne hl, r⟩
  case cvw k i off es n =>
    split
    · exact .any v
    · rename_i hne; obtain ⟨g, m, cap, s, c, hl, r⟩ := hr; exact ⟨g, m, cap, s, c, hL _ _ hne hl, r⟩
  case ptr k i off =>
    split
    · exact .any v
    · rename_i hne; obtain ⟨g, m, cap, s, hl, r⟩ := hr; exact ⟨g, m, cap, s, hL _ _ hne hl, r⟩
  case rptr => obtain ⟨ad, e, hrow⟩ := hr; exact ⟨ad, e, hrow.mono hF⟩
  case agg => exact hr.elim
  case tup => exact hr.elim
  case fn => exact hr.elim
  all_goals exact RepP.mono hF hr
theorem RepL.killed {h : Nat} (hL : ∀ k x, k ≠ h → L k = some x → L' k = some x) (hF : ∀ b, F b → F' b ∧ w'.heap[b]? = w.heap[b]?) : ∀ {ds : List D} {vs : List Value}, RepL L w F ds vs → RepL L' w' F' (ds.map (killC h)) vs
  | [], [], _ => trivial
  | d :: ds, v :: vs, hh => ⟨hh.1.killed hL hF, RepL.killed hL hF hh.2⟩
  | [], _ :: _, hh => hh.elim
  | _ :: _, [], hh => hh.elim
theorem Rep.killed {h : Nat} {d : D} {v : Value} (hL : ∀ k x, k ≠ h → L k = some x → L' k = some x) (hF : ∀ b, F b → F' b ∧ w'.heap[b]? = w.heap[b]?) (hr : Rep L w F d v) : Rep L' w' F' (kill h d) v := by
  cases d
  case agg cs => obtain ⟨vs, e, hr, ho⟩ := hr; exact ⟨vs, e, hr.killed hL hF, ho⟩
  case fn f fs cs => obtain ⟨us, vs, e, hr1, hr⟩ := hr; exact ⟨us, vs, e, hr1.killed hL hF, hr.killed hL hF⟩
  case tup => exact RepP.any v
  case own k => 
    have := RepC.killed (d := .own k) hL hF hr
    simp only [kill, killC] at this ⊢
    split <;> simp_all [Rep, RepA]
  case vw k lo n => 
    have := RepC.killed (d := .vw k lo n) hL hF hr
    simp only [kill, killC] at this ⊢
    split <;> simp_all [Rep, RepA]
  case cvw k i off es n => 
    have := RepC.killed (d := .cvw k i off es n) hL hF hr
    simp only [kill, killC] at this ⊢
    split <;> simp_all [Rep, RepA]
  case ptr k i off => 
    have := RepC.killed (d := .ptr k i off) hL hF hr
    simp only [kill, killC] at this ⊢
    split <;> simp_all [Rep, RepA]
  case any => exact RepP.any v
  case val x => exact RepP.mono hF (show RepP w F (.val x) v from hr)
  case nil => exact RepP.mono hF (show RepP w F .nil v from hr)
  case sl sz xs => exact RepP.mono hF (show RepP w F (.sl sz xs) v from hr)
  case rptr sz xs i off => exact RepC.killed (h := h) (d := .rptr sz xs i off) hL hF hr
  case clo f cs => exact RepP.mono hF (show RepP w F (.clo f cs) v from hr)
  case mp ob M => exact RepP.mono hF (show RepP w F (.mp ob M) v from hr)
end kill

/-! ### Closures over read-only rows -/
def rptrD : D → Bool
  | .rptr _ _ _ _ => true
  | _ => false
theorem repL_iff {L : LF} {w : World} {F : Nat → Prop} : ∀ {ds : List D} {vs : List Value}, RepL L w F ds vs ↔ ds.length = vs.length ∧ ∀ (k : Nat) d v, ds[k]? = some d → vs[k]? = some v → RepC L w F d v
  | [], [] => by simp [RepL]
  | [], v :: vs => by simp [RepL]
  | d :: ds, [] => by simp [RepL]
  | d :: ds, v :: vs => by
    simp only [RepL, List.length_cons, Nat.add_right_cancel_iff]
    rw [repL_iff (ds := ds) (vs := vs)]
    constructor
    · rintro ⟨h1, h2, h3⟩
      refine ⟨h2, fun k e u hk hu => ?_⟩
      cases k with
      | zero => simp at hk hu; subst hk; subst hu; exact h1
      | succ k => exact h3 k e u (by simpa using hk) (by simpa using hu)
    · rintro ⟨h1, h2⟩
      exact ⟨h2 0 d v rfl rfl, h1, fun k e u hk hu => h2 (k + 1) e u (by simpa using hk) (by simpa using hu)⟩
theorem clo_caps {L : LF} {w : World} {F : Nat → Prop} {f : Fn} {cs : List D} {v : Value} (h : RepP w F (.clo f cs) v) : ∃ vs : List Value, v = .func f #[] vs.toArray ∧ RepL L w F cs vs := by
  cases h with
  | clo f cs vs A V hl hc hr =>
    refine ⟨vs, rfl, repL_iff.2 ⟨hl, fun k d u hk hu => ?_⟩⟩
    obtain ⟨sz, xs, i, off, rfl, h2, h3, h4, h5, h6⟩ := hc k d hk
    rw [hu] at h2
    cases h2
    exact ⟨A k, rfl, h3, h4, h5, fun i j x e hi hj => ⟨V k i j, (h6 i j x e hi hj).1, (h6 i j x e hi hj).2, hr k sz xs _ off i j x e hk hi hj⟩⟩
def szOfD : D → Nat
  | .rptr sz _ _ _ => sz
  | _ => 0
def shiftOfD : D → Nat
  | .rptr sz _ i off => i * sz + off
  | _ => 0
theorem clo_mk {L : LF} {w : World} {F : Nat → Prop} {f : Fn} {cs : List D} {vs : List Value} (hall : cs.all rptrD = true) (h : RepL L w F cs vs) : RepP w F (.clo f cs) (.func f #[] vs.toArray) := by
  obtain ⟨hl, hg⟩ := repL_iff.1 h
  -- what lies at each
  have key : ∀ k d, cs[k]? = some d → ∃ (sz : Nat) (xs : List (List D)) (i off : Nat) (ad : Addr), d = D.rptr sz xs i off ∧ vs[k]? = some (Value.pointer (some ⟨ad.block, ad.off + (i * sz + off), none⟩)) ∧ RowP w F ad sz xs := fun k d hd => by
    have h1 := List.all_eq_true.1 hall d (List.mem_of_getElem? hd)
    have hk : k < vs.length := by rw [← hl]; exact (List.getElem?_eq_some_iff.1 hd).1
    have h2 := hg k d vs[k] hd (List.getElem?_eq_getElem hk)
    cases d <;> simp only [rptrD, Bool.false_eq_true] at h1
    obtain ⟨ad, e, hrow⟩ := h2
    exact ⟨_, _, _, _, ad, rfl, by rw [List.getElem?_eq_getElem hk, e], hrow⟩
  let A : Nat → Addr := fun k => match vs[k]?, cs[k]? with
    | some (.pointer (some ad)), some d => ⟨ad.block, ad.off - shiftOfD d, none⟩
    | _, _ => ⟨0, 0, none⟩
  let V : Nat → Nat → Nat → Value := fun k i j => match cs[k]? with
    | some d => (w.cell? ⟨(A k).block, (A k).off + (i * szOfD d + j), none⟩).getD undef
    | none => undef
  have hA : ∀ (k sz : Nat) (xs : List (List D)) (i off : Nat) (ad : Addr), cs[k]? = some (D.rptr sz xs i off) → vs[k]? = some (Value.pointer (some ⟨ad.block, ad.off + (i * sz + off), none⟩)) → ad.spot = none → A k = ad := fun k sz xs i off ad h1 h2 h3 => by
    show (match vs[k]?, cs[k]? with | some (.pointer (some ad)), some d => (⟨ad.block, ad.off - shiftOfD d, none⟩ : Addr) | _, _ => ⟨0, 0, none⟩) = ad
    rw [h2, h1]
    simp only [shiftOfD, Nat.add_sub_cancel]
    cases ad; simp only at h3; subst h3; rfl
  have hV : ∀ (k sz : Nat) (xs : List (List D)) (i off : Nat) (ad : Addr), cs[k]? = some (D.rptr sz xs i off) → A k = ad → ∀ (a j : Nat) (u : Value), w.cell? ⟨ad.block, ad.off + (a * sz + j), none⟩ = some u → V k a j = u := fun k sz xs i off ad h1 h2 a j u hu => by
    show (match cs[k]? with | some d => (w.cell? ⟨(A k).block, (A k).off + (a * szOfD d + j), none⟩).getD undef | none => undef) = u
    rw [h1, h2]
    simp only [szOfD, hu, Option.getD_some]
  refine .clo f cs vs A V hl (fun k d hd => ?_) (fun k sz xs i0 off i j x e hk hi hj => ?_)
  · obtain ⟨sz, xs, i, off, ad, rfl, h2, h3, h4, h5, h6⟩ := key k d hd
    have eA := hA k sz xs i off ad hd h2 h4
    refine ⟨sz, xs, i, off, rfl, by rw [eA]; exact h2, h3, by rw [eA]; exact h4, by rw [eA]; exact h5, fun a j x e ha hj => ?_⟩
    obtain ⟨u, hu, ho, _⟩ := h6 a j x e ha hj
    rw [hV k sz xs i off ad hd eA a j u hu, eA]
    exact ⟨hu, ho⟩
  · obtain ⟨sz', xs', i', off', ad, hd, h2, h3, h4, h5, h6⟩ := key k _ hk
    cases hd
    have eA := hA k sz xs i0 off ad hk h2 h4
    obtain ⟨u, hu, ho, hr⟩ := h6 i j x e hi hj
    rw [hV k sz xs i0 off ad hk eA i j u hu]
    exact hr
end Go.Proofs.YtpdkhlpmiblflaaGreat.Abs

/- Abs, part 2: states, the invariant that ties them to a world, and how it lives on. -/
set_option linter.unusedVariables false
set_option linter.unusedSimpArgs false
namespace Go.Proofs.YtpdkhlpmiblflaaGreat.Abs
open Go Go.RowKit

/-! ### Rows of one's own: as the guide's 'ownsRow', but the block may bear a mark behind its cells (as the bytes of a text do) -/
def markOk (n : Nat) (fz : Nat × Nat) : Prop := fz = (0, 0) ∨ n ≤ fz.1
def mkTy : TypeId := 1000003
def markAt (n : Nat) (e e' : TypeId) (fz : Nat × Nat) : Prop := (e' = e ∧ fz = (0, 0)) ∨ (e = mkTy ∧ markOk n fz)
theorem markAt.ok {n : Nat} {e e' : TypeId} {fz : Nat × Nat} (h : markAt n e e' fz) : markOk n fz := by
  rcases h with ⟨_, h⟩ | ⟨_, h⟩
  · exact .inl h
  · exact h
theorem markAt.plain {n : Nat} {e e' : TypeId} {fz : Nat × Nat} (h : markAt n e e' fz) (hne : e ≠ mkTy) : e' = e ∧ fz = (0, 0) := by
  rcases h with h | ⟨h, _⟩
  · exact h
  · exact absurd h hne
def oRow (w : World) (base : Nat) (e : TypeId) (size : Nat) (v : Value) (n : Nat) (xs : List Value) : Prop :=
  xs.length = n * size ∧
  ((v = .slice none 0 0 ∧ n = 0) ∨
   ∃ g cap cur, v = .slice (some ⟨g, 0, none⟩) n cap ∧ base ≤ g ∧ (∃ e' fz, w.heap[g]? = some (.cells cur e' fz) ∧ markAt cur.size e e' fz) ∧ n ≤ cap ∧ cap ≤ maxLen ∧ cur.size = cap * size ∧ cur.toList.take (n * size) = xs)
section oRow
variable {w : World} {base : Nat} {e : TypeId} {size : Nat} {v : Value} {n : Nat} {xs : List Value}
theorem oRow_nil (w : World) (base : Nat) (e : TypeId) (size : Nat) : oRow w base e size (.slice none 0 0) 0 [] := ⟨by simp, .inl ⟨rfl, rfl⟩⟩
theorem oRow_of (h : w.ownsRow base e size v n xs) : oRow w base e size v n xs := by
  refine ⟨h.1, ?_⟩
  rcases h.2 with h | ⟨g, cap, cur, h1, h2, h3, h4⟩
  · exact .inl h
  · exact .inr ⟨g, cap, cur, h1, h2, ⟨_, _, h3, .inl ⟨rfl, rfl⟩⟩, h4⟩
theorem oRow_lit (w : World) (cs : Array Value) (n : Nat) (hb : base ≤ w.heap.size) (hm : n ≤ maxLen) (hs : cs.size = n * size) :
    oRow (w.alloc (.cells cs e)) base e size (.slice (some ⟨w.heap.size, 0, none⟩) n n) n cs.toList := oRow_of (World.ownsRow_lit w cs n hb hm hs)
theorem oRow.lt (h : oRow w base e size v n xs) : ∀ k, v.ownBlock = some k → base ≤ k ∧ k < w.heap.size := fun k hk => by
  rcases h.2 with ⟨rfl, _⟩ | ⟨g, cap, cur, rfl, hb, ⟨e', fz, hg, _⟩, _⟩
  · simp [Value.ownBlock] at hk
  · simp [Value.ownBlock] at hk
    subst hk
    exact ⟨hb, (Array.getElem?_eq_some_iff.1 hg).1⟩
theorem oRow.kept {w' : World} {row : Option Nat} (h : oRow w base e size v n xs) (hg : w.grownBy w' row) (hne : v.ownBlock = none ∨ v.ownBlock ≠ row) : oRow w' base e size v n xs := by
  refine ⟨h.1, ?_⟩
  rcases h.2 with hn | ⟨g, cap, cur, rfl, hb, ⟨e', fz, hgg, hz⟩, rest⟩
  · exact .inl hn
  · refine .inr ⟨g, cap, cur, rfl, hb, ⟨e', fz, ?_, hz⟩, rest⟩
    rw [hg.block g (Array.getElem?_eq_some_iff.1 hgg).1 (by simpa [Value.ownBlock] using hne)]
    exact hgg
theorem cell_at_row {g j : Nat} {cur : Array Value} {fz : Nat × Nat} (hg : w.heap[g]? = some (.cells cur e fz)) : w.cell? ⟨g, j, none⟩ = cur[j]? := by simp [World.cell?, hg]
theorem oRow.cells (h : oRow w base e size v n xs) {g : Nat} (hg : v.ownBlock = some g) : ∀ j u, xs[j]? = some u → w.cell? ((⟨g, 0, none⟩ : Addr).add j) = some u := fun j u hu => by
  rcases h.2 with ⟨rfl, _⟩ | ⟨g', cap, cur, rfl, _, ⟨e', fz, hgg, _⟩, _, _, _, htake⟩
  · simp [Value.ownBlock] at hg
  · simp [Value.ownBlock] at hg
    subst hg
    have hadd : (⟨g', 0, none⟩ : Addr).add j = ⟨g', j, none⟩ := by unfold Addr.add; split <;> simp_all
    rw [hadd, cell_at_row hgg]
    rw [← htake, List.getElem?_take] at hu
    split at hu
    · simpa using hu
    · cases hu
theorem mark_free {g j : Nat} {cur : Array Value} {fz : Nat × Nat} (hg : w.heap[g]? = some (.cells cur e fz)) (hz : markOk cur.size fz) (hj : j < cur.size) : w.frozen? ⟨g, j, none⟩ = false := by
  obtain ⟨lo, hi⟩ := fz
  simp only [World.frozen?, hg]
  rcases hz with hz | hz
  · cases hz; simp
  · have : ¬ lo ≤ j := by simp only at hz; omega
    simp [this]
theorem oRow.cellAt {g cap : Nat} (h : oRow w base e size (.slice (some ⟨g, 0, none⟩) n cap) n xs) (j : Nat) (hj : j < n * size) : w.cell? ⟨g, j, none⟩ = xs[j]? := by
  rcases h.2 with ⟨h', _⟩ | ⟨g', cap', cur, h', _, ⟨e', fz, hg, _⟩, _, _, _, htake⟩
  · simp at h'
  · simp only [Value.slice.injEq, Option.some.injEq, Addr.mk.injEq, and_true, true_and] at h'
    obtain ⟨rfl, rfl⟩ := h'
    rw [cell_at_row hg, ← htake, List.getElem?_take, if_pos hj]
    simp
theorem oRow.frozenAt {g cap : Nat} (h : oRow w base e size (.slice (some ⟨g, 0, none⟩) n cap) n xs) (j : Nat) (hj : j < n * size) : w.frozen? ⟨g, j, none⟩ = false := by
  rcases h.2 with ⟨h', _⟩ | ⟨g', cap', cur, h', _, ⟨e', fz, hg, hz⟩, hnc, _, hcs, _⟩
  · simp at h'
  · simp only [Value.slice.injEq, Option.some.injEq, Addr.mk.injEq, and_true, true_and] at h'
    obtain ⟨rfl, rfl⟩ := h'
    have := Nat.mul_le_mul_right size hnc
    exact mark_free hg hz.ok (by omega)
theorem oRow.stored {g cap : Nat} (h : oRow w base e size (.slice (some ⟨g, 0, none⟩) n cap) n xs) (j : Nat) (u : Value) :
    oRow (w.setCell ⟨g, j, none⟩ u) base e size (.slice (some ⟨g, 0, none⟩) n cap) n (xs.set j u) ∧ w.grownBy (w.setCell ⟨g, j, none⟩ u) (some g) := by
  rcases h.2 with ⟨h', _⟩ | ⟨g', cap', cur, h', hb, ⟨e', fz, hg, hz⟩, hnc, hcm, hcs, htake⟩
  · simp at h'
  · simp only [Value.slice.injEq, Option.some.injEq, Addr.mk.injEq, and_true, true_and] at h'
    obtain ⟨rfl, rfl⟩ := h'
    have hlt := (Array.getElem?_eq_some_iff.1 hg).1
    have hv := (Array.getElem?_eq_some_iff.1 hg).2
    refine ⟨⟨by simpa using h.1, .inr ⟨g, cap, cur.setIfInBounds j u, rfl, hb, ⟨e', fz, ?_, by simpa using hz⟩, hnc, hcm, by simpa using hcs, ?_⟩⟩,
      ⟨rfl, rfl, rfl, by simp [World.setCell], fun k _ hk => heap_setCell_other w ⟨g, j, none⟩ k u (fun e => hk (by simp [e]))⟩⟩
    · simp [World.setCell, Array.getElem?_modify, hg]
    · rw [Array.toList_setIfInBounds, ← htake, List.take_set]
variable {P : Program}
theorem run_storeCells_fz (P : Program) (g o : Nat) (t : TypeId) (fz : Nat × Nat) : ∀ (vs : List Value) (i : Nat) (cur : Array Value) (w : World), w.heap[g]? = some (.cells cur t fz) → markOk cur.size fz → o + i + vs.length ≤ cur.size → (∀ v ∈ vs, v.oneCell' = true) →
    (storeCells ⟨g, o, none⟩ vs i).run P w = .ok () (w.setRow g (cur.toList.take (o + i) ++ vs ++ cur.toList.drop (o + i + vs.length)).toArray)
  | [], i, cur, w, hg, _, _, _ => by
    simp only [storeCells, List.append_nil, List.length_nil, Nat.add_zero, List.take_append_drop, Array.toArray_toList]
    rw [setRow_self w g cur t fz hg]
    rfl
  | v :: rest, i, cur, w, hg, hz, hl, h1 => by
    have hi : o + i < cur.size := by simp at hl; omega
    have hadd : (⟨g, o, none⟩ : Addr).add i = ⟨g, o + i, none⟩ := by unfold Addr.add; split <;> simp_all
    have hst : (store ((⟨g, o, none⟩ : Addr).add i) v).run P w = .ok () (w.setRow g (cur.setIfInBounds (o + i) v)) := by
      rw [hadd, run_store P w _ v _ (h1 v (by simp)), cell_at_row hg, Array.getElem?_eq_getElem hi]
      simp [mark_free hg hz hi, setCell_eq_setRow w g (o + i) cur t fz v hg]
    have ih := run_storeCells_fz P g o t fz rest (i + 1) (cur.setIfInBounds (o + i) v) (w.setRow g (cur.setIfInBounds (o + i) v)) (setRow_heap w g cur _ t _ hg) (by simpa using hz) (by simp at hl ⊢; omega) (fun x hx => h1 x (by simp [hx]))
    simp only [storeCells, Sem.run_bind, hst, Result.andThen_ok, ih, setRow_setRow]
    congr 3
    have e := list_seg_step cur.toList (o + i) v rest (by simp at hl ⊢; omega)
    simpa [Array.toList_setIfInBounds, Nat.add_assoc] using e
theorem run_append_oNone (w : World) (base : Nat) (t ty e : TypeId) (i : TypeInfo) (size : Nat) (ht : P.underlying t = some (.slice e)) (hi : P.info? e = some i) (v : Value) (n : Nat) (xs : List Value) (hown : oRow w base e size v n xs) :
    (Builtin.append_ #[t, t] ty #[v, .slice none 0 0]).run P w = .ok v w := by
  rcases hown.2 with ⟨rfl, rfl⟩ | ⟨g, cap, cur, rfl, _, _, hnc, _⟩
  · simp [Builtin.append_, run_underlying ht, sizeOf, typeInfo, hi, Builtin.lenOf, Builtin.firstCells]
  · simp [Builtin.append_, run_underlying ht, sizeOf, typeInfo, hi, Builtin.lenOf, Builtin.firstCells, hnc, storeCells]
theorem run_append_roomF (w : World) (t ty e : TypeId) (i : TypeInfo) (ht : P.underlying t = some (.slice e)) (hi : P.info? e = some i) (g o sLen sCap : Nat) (cur : Array Value) (e' : TypeId) (fz : Nat × Nat) (hg : w.heap[g]? = some (.cells cur e' fz)) (hz : markOk cur.size fz)
    (a : Addr) (m c : Nat) (news : List Value) (hl : news.length = m * i.size) (hnews : ∀ j u, news[j]? = some u → w.cell? (a.add j) = some u) (h1 : ∀ u ∈ news, u.oneCell' = true)
    (hroom : sLen + m ≤ sCap) (hfit : o + sLen * i.size + news.length ≤ cur.size) :
    (Builtin.append_ #[t, t] ty #[.slice (some ⟨g, o, none⟩) sLen sCap, .slice (some a) m c]).run P w =
      .ok (.slice (some ⟨g, o, none⟩) (sLen + m) sCap) (w.setRow g (cur.toList.take (o + sLen * i.size) ++ news ++ cur.toList.drop (o + sLen * i.size + news.length)).toArray) := by
  have hf := run_firstCells_some (P := P) w i.size m a m c news hl hnews
  have hst := run_storeCells_fz P g (o + sLen * i.size) e' fz news 0 cur w hg hz (by simpa using hfit) h1
  simp only [Nat.add_zero] at hst
  have hadd : (⟨g, o, none⟩ : Addr).add (sLen * i.size) = ⟨g, o + sLen * i.size, none⟩ := by unfold Addr.add; split <;> simp_all
  simp [Builtin.append_, run_underlying ht, sizeOf, typeInfo, hi, Builtin.lenOf, hroom, hf, hadd, hst]
theorem run_append_oAt (w : World) (base : Nat) (t ty e : TypeId) (i : TypeInfo) (z : Value) (size bytes : Nat) (ht : P.underlying t = some (.slice e)) (hi : P.info? e = some i) (hz : i.zero = some z)
    (hsize : i.size = size) (hby : i.bytes = bytes) (hzs : z.cells.size = size) (hsz : 0 < size) (v : Value) (n : Nat) (xs : List Value) (hown : oRow w base e size v n xs)
    (a : Addr) (m c : Nat) (news : List Value) (hl : news.length = m * size) (hnews : ∀ j u, news[j]? = some u → w.cell? (a.add j) = some u) (h1 : ∀ u ∈ news, u.oneCell' = true)
    (h63 : n + m ≤ maxLen) (hbytes : (n + m) * bytes ≤ 140737488355328) (hbase : base ≤ w.heap.size) :
    ∃ v' w', (Builtin.append_ #[t, t] ty #[v, .slice (some a) m c]).run P w = .ok v' w' ∧ oRow w' base e size v' (n + m) (xs ++ news) ∧ w.grownBy w' v.ownBlock ∧
      (v' = .slice none 0 0 ↔ v = .slice none 0 0 ∧ m = 0) ∧ (v'.ownBlock = v.ownBlock ∨ v'.ownBlock = some w.heap.size) := by
  have hlen : (xs ++ news).length = (n + m) * size := by rw [List.length_append, hown.1, hl, Nat.add_mul]
  rcases hown.2 with ⟨rfl, rfl⟩ | ⟨g, cap, cur, rfl, hbg, ⟨e', fz, hg, hmk⟩, hnc, hcm, hcs, htake⟩
  · have hx : xs = [] := List.eq_nil_of_length_eq_zero (by simpa using hown.1)
    subst hx
    obtain ⟨v', w', r1, r2, r3⟩ := run_append_own_at (P := P) w base t ty e i z size bytes ht hi hz hsize hby hzs hsz (.slice none 0 0) 0 [] (World.ownsRow_nil _ _ _ _) a m c news hl hnews h1 h63 hbytes hbase
    exact ⟨v', w', r1, oRow_of r2, r3⟩
  · subst hsize
    subst hby
    by_cases hroom : n + m ≤ cap
    · have hfit : 0 + n * i.size + news.length ≤ cur.size := by rw [hl, hcs, Nat.zero_add, ← Nat.add_mul]; exact Nat.mul_le_mul_right _ hroom
      have hr := run_append_roomF (P := P) w t ty e i ht hi g 0 n cap cur e' fz hg hmk.ok a m c news hl hnews h1 hroom hfit
      simp only [Nat.zero_add] at hr hfit
      have hsz2 : (cur.toList.take (n * i.size) ++ news ++ cur.toList.drop (n * i.size + news.length)).toArray.size = cur.size := by
        simp only [List.size_toArray, List.length_append, List.length_take, List.length_drop, Array.length_toList]
        omega
      refine ⟨_, _, hr, ⟨hlen, .inr ⟨g, cap, _, rfl, hbg, ⟨e', fz, setRow_heap w g cur _ e' _ hg, by rw [hsz2]; exact hmk⟩, hroom, hcm, by rw [hsz2]; exact hcs, ?_⟩⟩, ⟨rfl, rfl, rfl, by simp, fun k hk hne => setRow_other w g k _ (fun e => hne (by simp [Value.ownBlock, e]))⟩, by simp, Or.inl rfl⟩
      rw [htake, ← hlen]
      exact List.take_left
    · have holds : ∀ j u, xs[j]? = some u → w.cell? ((⟨g, 0, none⟩ : Addr).add j) = some u := hown.cells (g := g) rfl
      have hge := grownCap_ge w (n + m) cap e
      have hcm2 : grownCap w (n + m) cap e ≤ maxLen := grownCap_le_maxLen w (n + m) cap e h63
      have hr := run_append_grow (P := P) w t ty e i z ht hi hz ⟨g, 0, none⟩ n cap xs hown.1 holds a m c news hl hnews (by omega) (by simp only [maxLen] at h63; omega) (growslice_fits (by omega) hbytes)
      refine ⟨_, _, hr, oRow_of ⟨hlen, .inr ⟨w.heap.size, _, _, rfl, hbase, heap_alloc_new w.drew _, hge, hcm2, ?_, ?_⟩⟩, ⟨rfl, rfl, rfl, by simp, fun k hk _ => by simp [World.drew, World.alloc, Array.getElem?_push_lt hk, Array.getElem?_eq_getElem hk, -World.alloc_eq, -World.drew_eq]⟩, by simp, Or.inr rfl⟩
      · simp only [Array.size_append, List.size_toArray, size_zeroCells, hzs, hown.1, hl, ← Nat.add_mul]
        congr 1
        omega
      · simp only [Array.toList_append, List.append_assoc]
        rw [← List.append_assoc, ← hlen]
        exact List.take_left
end oRow

structure St where
  sl : List (Nat × D)
  hp : HP
  nx : Nat

def tabs : List (Nat × (Obj → Prop)) := []
def TabAt (S : List Nat) (w0 : World) : Prop := ∀ p ∈ tabs, p.1 < w0.heap.size ∧ p.1 ∉ S ∧ ∃ o, w0.heap[p.1]? = some o ∧ p.2 o
structure Keeps (S : List Nat) (w0 w : World) : Prop where
  os : w.os = w0.os
  tape : w.tape = w0.tape
  output : w.output = w0.output
  size : w0.heap.size ≤ w.heap.size
  block : ∀ k, k < w0.heap.size → k ∉ S → w.heap[k]? = w0.heap[k]?
  tab : TabAt S w0

theorem TabAt.nil {S : List Nat} {w : World} (h : TabAt S w) : TabAt [] w := fun p hp => ⟨(h p hp).1, by simp, (h p hp).2.2⟩
theorem Keeps.later {S S' : List Nat} {w0 w : World} (h : Keeps S w0 w) (hS : ∀ b ∈ S', w0.heap.size ≤ b ∨ b ∈ S) : TabAt S' w := fun p hp => by
  obtain ⟨h1, h2, o, h3, h4⟩ := h.tab p hp
  refine ⟨Nat.lt_of_lt_of_le h1 h.size, fun hm => ?_, o, by rw [h.block _ h1 h2]; exact h3, h4⟩
  rcases hS _ hm with h5 | h5
  · omega
  · exact h2 h5
theorem Keeps.refl (S : List Nat) (w : World) (h : TabAt S w) : Keeps S w w := ⟨rfl, rfl, rfl, Nat.le_refl _, fun _ _ _ => rfl, h⟩
theorem Keeps.below {w0 w : World} (h : Keeps [] w0 w) : Below w0.heap.size w0 w := ⟨h.os, h.tape, h.output, h.size, fun k hk => h.block k hk (by simp)⟩
def LOf (hv : Nat → Value) (hp : HP) : LF := fun h => (lk h hp).map fun ob => (hv h, ob.sz)
def FOf (G : Nat → Prop) (hv : Nat → Value) (hp : HP) (w : World) : Nat → Prop := fun b => (b < w.heap.size ∧ G b) ∧ ∀ h ob, lk h hp = some ob → (hv h).ownBlock ≠ some b

def RepO (deep : Bool) (L : LF) (w : World) (F : Nat → Prop) (d : D) (v : Value) : Prop := if deep then RepC L w F d v else RepP w F d v
theorem RepO.obMono {deep : Bool} {L L' : LF} {w w' : World} {F F' : Nat → Prop} {d : D} {v : Value} (h : RepO deep L w F d v) (hL : ∀ h x, L h = some x → L' h = some x) (hF : ∀ b, F b → F' b ∧ w'.heap[b]? = w.heap[b]?) : RepO deep L' w' F' d v := by
  cases deep
  · exact RepP.mono (d := d) hF (by simpa [RepO] using h)
  · exact RepC.mono hL hF (by simpa [RepO] using h)
theorem RepP.toC {L : LF} {w : World} {F : Nat → Prop} {d : D} {v : Value} (h : RepP w F d v) : RepC L w F d v := by
  cases h with
  | any v => exact .any v
  | val v => exact .val v
  | nil => exact .nil
  | sl sz xs A c V hg h0 hm hF0 hc hr => exact RepP.sl sz xs A c V hg h0 hm hF0 hc hr
  | clo f cs vs A V hl hc hr => exact RepP.clo f cs vs A V hl hc hr
  | mp ob M b o h0 h1 h2 h3 h4 => exact RepP.mp ob M b o h0 h1 h2 h3 h4
theorem RepO.toC {deep : Bool} {L : LF} {w : World} {F : Nat → Prop} {d : D} {v : Value} (h : RepO deep L w F d v) : RepC L w F d v := by
  cases deep
  · exact RepP.toC (by simpa [RepO] using h)
  · simpa [RepO] using h

def ObRep (L : LF) (w : World) (F : Nat → Prop) (ob : Ob) (v : Value) : Prop :=
  ∃ vs : List Value, oRow w 0 ob.ty ob.sz v ob.xs.length vs ∧ Grid ob.sz ob.xs ∧ ∀ (i j : Nat) (x : List D) (d : D), ob.xs[i]? = some x → x[j]? = some d → ∃ u, vs[i * ob.sz + j]? = some u ∧ u.oneCell' = true ∧ RepO ob.deep L w F d u

structure HInv (w0 : World) (S : List Nat) (G : Nat → Prop) (hv : Nat → Value) (hp : HP) (w : World) : Prop where
  obs : ∀ h ob, lk h hp = some ob → ObRep (LOf hv hp) w (FOf G hv hp w) ob (hv h)
  inj : ∀ h h' ob ob', lk h hp = some ob → lk h' hp = some ob' → h ≠ h' → (hv h).ownBlock = none ∨ (hv h).ownBlock ≠ (hv h').ownBlock
  base : ∀ h ob b, lk h hp = some ob → (hv h).ownBlock = some b → w0.heap.size ≤ b ∨ b ∈ S
  keeps : Keeps S w0 w
  gnew : ∀ b, w.heap.size ≤ b → G b

structure SInv (N : Nat) (L : LF) (w : World) (F : Nat → Prop) (sl : List (Nat × D)) (a : Act) : Prop where
  defers : a.defers = []
  size : a.tmps.size = N
  at_ : ∀ t d, lk t sl = some d → Rep L w F d (a.tmps.getD t undef)

structure Ctx where
  P : Program
  N : Nat
  w0 : World
  S : List Nat
  G : Nat → Prop
  m : Nat
  hv0 : Nat → Value

def Inv (C : Ctx) (st : St) (a : Act) (w : World) : Prop :=
  ∃ hv, HInv C.w0 C.S C.G hv st.hp w ∧ (∀ h ob, lk h st.hp = some ob → h < st.nx) ∧ C.m ≤ st.nx ∧ (∀ h ob, lk h st.hp = some ob → h < C.m → hv h = C.hv0 h) ∧ SInv C.N (LOf hv st.hp) w (FOf C.G hv st.hp w) st.sl a

theorem SInv.mono {N : Nat} {L L' : LF} {w w' : World} {F F' : Nat → Prop} {sl : List (Nat × D)} {a : Act} (hL : ∀ h x, L h = some x → L' h = some x) (hF : ∀ b, F b → F' b ∧ w'.heap[b]? = w.heap[b]?)
    (h : SInv N L w F sl a) : SInv N L' w' F' sl a := ⟨h.defers, h.size, fun t d ht => (h.at_ t d ht).mono hL hF⟩

/-! ### New objects -/
theorem lk_cons {α : Type} (k k' : Nat) (v : α) (l : List (Nat × α)) : lk k ((k', v) :: l) = if k = k' then some v else lk k l := rfl

theorem HInv.alloc {w0 : World} {S : List Nat} {G : Nat → Prop} {hv : Nat → Value} {hp : HP} {w : World} (hI : HInv w0 S G hv hp w) {h0 : Nat} (hfresh : lk h0 hp = none) {ob : Ob} {v : Value} {w' : World}
    (hb : Below w.heap.size w w') (hnew : ∀ b, v.ownBlock = some b → w.heap.size ≤ b)
    (hob : ObRep (LOf (fun h => if h = h0 then v else hv h) ((h0, ob) :: hp)) w' (FOf G (fun h => if h = h0 then v else hv h) ((h0, ob) :: hp) w') ob v) :
    HInv w0 S G (fun h => if h = h0 then v else hv h) ((h0, ob) :: hp) w' ∧
      (∀ h x, LOf hv hp h = some x → LOf (fun h => if h = h0 then v else hv h) ((h0, ob) :: hp) h = some x) ∧
      (∀ b, FOf G hv hp w b → FOf G (fun h => if h = h0 then v else hv h) ((h0, ob) :: hp) w' b ∧ w'.heap[b]? = w.heap[b]?) := by
  have hne : ∀ h ob', lk h hp = some ob' → h ≠ h0 := fun h ob' hl e => by rw [e, hfresh] at hl; cases hl
  have hL : ∀ h x, LOf hv hp h = some x → LOf (fun h => if h = h0 then v else hv h) ((h0, ob) :: hp) h = some x := fun h x hx => by
    simp only [LOf, Option.map_eq_some_iff] at hx ⊢
    obtain ⟨ob', hl, rfl⟩ := hx
    have := hne _ _ hl
    exact ⟨ob', by rw [lk_cons, if_neg this]; exact hl, by simp [this]⟩
  have hF : ∀ b, FOf G hv hp w b → FOf G (fun h => if h = h0 then v else hv h) ((h0, ob) :: hp) w' b ∧ w'.heap[b]? = w.heap[b]? := fun b hb' => by
    refine ⟨⟨⟨Nat.lt_of_lt_of_le hb'.1.1 hb.size, hb'.1.2⟩, fun h ob' hl => ?_⟩, hb.block b hb'.1.1⟩
    by_cases e : h = h0
    · subst e
      simp only [if_true]
      intro hv0
      have := hnew b hv0
      have := hb'.1.1
      omega
    · rw [lk_cons, if_neg e] at hl
      simp only [e, if_false]
      exact hb'.2 h ob' hl
  refine ⟨⟨fun h ob' hl => ?_, fun h h' ob1 ob2 hl hl' hhh => ?_, fun h ob' b hl hvb => ?_, ?_, fun b hbb => hI.gnew b (Nat.le_trans hb.size hbb)⟩, hL, hF⟩
  · by_cases e : h = h0
    · subst e
      rw [lk_cons, if_pos rfl] at hl
      cases hl
      simpa using hob
    · rw [lk_cons, if_neg e] at hl
      obtain ⟨vs, ho, hg, hc⟩ := hI.obs h ob' hl
      refine ⟨vs, by simp only [e, if_false]; exact ho.kept (grown_of_below' hb) (by cases (hv h).ownBlock <;> simp), hg, fun i j x d hi hj => ?_⟩
      obtain ⟨u, hu, ho1, hr⟩ := hc i j x d hi hj
      exact ⟨u, hu, ho1, RepO.obMono hr hL hF⟩
  · by_cases e : h = h0
    · subst e
      by_cases e' : h' = h
      · exact absurd e'.symm hhh
      · rw [lk_cons, if_neg e'] at hl'
        simp only [if_true, e', if_false]
        cases hvb : v.ownBlock with
        | none => exact .inl rfl
        | some b =>
          refine .inr fun heq => ?_
          have h1 := hnew b hvb
          obtain ⟨vs, ho, _⟩ := hI.obs h' ob2 hl'
          have := (ho.lt b heq.symm).2
          omega
    · rw [lk_cons, if_neg e] at hl
      by_cases e' : h' = h0
      · subst e'
        simp only [e, if_false, if_true]
        cases hvb : (hv h).ownBlock with
        | none => exact .inl rfl
        | some b =>
          refine .inr fun heq => ?_
          have h1 := hnew b heq.symm
          obtain ⟨vs, ho, _⟩ := hI.obs h ob1 hl
          have := (ho.lt b hvb).2
          omega
      · rw [lk_cons, if_neg e'] at hl'
        simp only [e, e', if_false]
        exact hI.inj h h' ob1 ob2 hl hl' hhh
  · by_cases e : h = h0
    · subst e
      simp only [if_true] at hvb
      exact .inl (Nat.le_trans hI.keeps.size (hnew b hvb))
    · rw [lk_cons, if_neg e] at hl
      simp only [e, if_false] at hvb
      exact hI.base h ob' b hl hvb
  · exact ⟨hb.os.trans hI.keeps.os, hb.tape.trans hI.keeps.tape, hb.output.trans hI.keeps.output, Nat.le_trans hI.keeps.size hb.size, fun k hk hS => (hb.block k (Nat.lt_of_lt_of_le hk hI.keeps.size)).trans (hI.keeps.block k hk hS), hI.keeps.tab⟩
where
  grown_of_below' {w w1 : World} (h : Below w.heap.size w w1) : w.grownBy w1 none := ⟨h.os, h.tape, h.output, h.size, fun i hi _ => h.block i hi⟩

theorem HInv.below {w0 : World} {S : List Nat} {G : Nat → Prop} {hv : Nat → Value} {hp : HP} {w : World} (hI : HInv w0 S G hv hp w) {w' : World} (hb : Below w.heap.size w w') :
    HInv w0 S G hv hp w' ∧ (∀ b, FOf G hv hp w b → FOf G hv hp w' b ∧ w'.heap[b]? = w.heap[b]?) := by
  have hF : ∀ b, FOf G hv hp w b → FOf G hv hp w' b ∧ w'.heap[b]? = w.heap[b]? := fun b hb' => ⟨⟨⟨Nat.lt_of_lt_of_le hb'.1.1 hb.size, hb'.1.2⟩, hb'.2⟩, hb.block b hb'.1.1⟩
  refine ⟨⟨fun h ob hl => ?_, hI.inj, hI.base, ⟨hb.os.trans hI.keeps.os, hb.tape.trans hI.keeps.tape, hb.output.trans hI.keeps.output, Nat.le_trans hI.keeps.size hb.size, fun k hk hS => (hb.block k (Nat.lt_of_lt_of_le hk hI.keeps.size)).trans (hI.keeps.block k hk hS), hI.keeps.tab⟩, fun b hbb => hI.gnew b (Nat.le_trans hb.size hbb)⟩, hF⟩
  obtain ⟨vs, ho, hg, hc⟩ := hI.obs h ob hl
  refine ⟨vs, ho.kept (⟨hb.os, hb.tape, hb.output, hb.size, fun i hi _ => hb.block i hi⟩ : w.grownBy w' none) (by cases (hv h).ownBlock <;> simp), hg, fun i j x d hi hj => ?_⟩
  obtain ⟨u, hu, ho1, hr⟩ := hc i j x d hi hj
  exact ⟨u, hu, ho1, RepO.obMono hr (fun _ _ h => h) hF⟩

/-! ### Objects that change: 'hset' puts another object in a handle's place -/
def hset (h : Nat) (ob : Ob) : HP → HP
  | [] => []
  | (k, o) :: l => if h = k then (k, ob) :: l else (k, o) :: hset h ob l

theorem lk_hset {h : Nat} {ob : Ob} : ∀ {hp : HP} {k : Nat}, lk k (hset h ob hp) = if k = h then (lk h hp).map (fun _ => ob) else lk k hp
  | [], k => by simp [hset, lk]
  | (k0, o) :: l, k => by
    simp only [hset]
    by_cases e : h = k0
    · subst e
      simp only [if_true, lk_cons]
      by_cases e' : k = h
      · simp [e']
      · simp [e']
    · simp only [e, if_false, lk_cons]
      by_cases e' : k = k0
      · subst e'
        simp [Ne.symm e]
      · simp only [e', if_false]
        rw [lk_hset (hp := l)]

theorem LOf_hset {hv : Nat → Value} {hp : HP} {h : Nat} {ob ob' : Ob} (hl : lk h hp = some ob) (hs : ob'.sz = ob.sz) : LOf hv (hset h ob' hp) = LOf hv hp := by
  funext k
  simp only [LOf, lk_hset]
  by_cases e : k = h
  · subst e; simp [hl, hs]
  · simp [e]

theorem FOf_hset {G : Nat → Prop} {hv : Nat → Value} {hp : HP} {h : Nat} {ob ob' : Ob} {w w' : World} (hl : lk h hp = some ob) (hsz : w.heap.size = w'.heap.size) : FOf G hv (hset h ob' hp) w' = FOf G hv hp w := by
  funext b
  simp only [FOf, lk_hset, hsz, eq_iff_iff]
  refine and_congr_right fun _ => ⟨fun hh k o hk => ?_, fun hh k o hk => ?_⟩
  · by_cases e : k = h
    · subst e; exact hh k ob' (by simp [hl])
    · exact hh k o (by simp [e, hk])
  · by_cases e : k = h
    · subst e; exact hh k ob hl
    · rw [if_neg e] at hk; exact hh k o hk

theorem HInv.write {w0 : World} {S : List Nat} {G : Nat → Prop} {hv : Nat → Value} {hp : HP} {w : World} (hI : HInv w0 S G hv hp w) {h : Nat} {ob ob' : Ob} (hl : lk h hp = some ob) (hs : ob'.sz = ob.sz) {b : Nat} (hbk : (hv h).ownBlock = some b) {w' : World}
    (hg : w.grownBy w' (some b)) (hsz : w.heap.size = w'.heap.size)
    (hob : ObRep (LOf hv hp) w' (FOf G hv hp w) ob' (hv h)) :
    HInv w0 S G hv (hset h ob' hp) w' ∧ LOf hv (hset h ob' hp) = LOf hv hp ∧ (∀ c, FOf G hv hp w c → FOf G hv (hset h ob' hp) w' c ∧ w'.heap[c]? = w.heap[c]?) := by
  have eL := LOf_hset (hv := hv) hl hs
  have eF := FOf_hset (G := G) (hv := hv) (ob' := ob') hl hsz
  have hF : ∀ c, FOf G hv hp w c → FOf G hv (hset h ob' hp) w' c ∧ w'.heap[c]? = w.heap[c]? := fun c hc =>
    ⟨by rw [eF]; exact hc, hg.block c hc.1.1 (fun e => hc.2 h ob hl (hbk.trans e.symm))⟩
  refine ⟨⟨fun k o hk => ?_, fun k k' o o' hk hk' hne => ?_, fun k o c hk hc => ?_, ?_, fun b hbb => hI.gnew b (by rw [hsz]; exact hbb)⟩, eL, hF⟩
  · rw [eL, eF]
    rw [lk_hset] at hk
    by_cases e : k = h
    · subst e
      rw [if_pos rfl, hl] at hk
      cases hk
      exact hob
    · rw [if_neg e] at hk
      obtain ⟨vs, ho, hgr, hc⟩ := hI.obs k o hk
      refine ⟨vs, ho.kept hg ?_, hgr, fun i j x d hi hj => ?_⟩
      · rcases hI.inj k h o ob hk hl e with h1 | h1
        · exact .inl h1
        · exact .inr (fun e2 => h1 (e2.trans hbk.symm))
      · obtain ⟨u, hu, ho1, hr⟩ := hc i j x d hi hj
        exact ⟨u, hu, ho1, RepO.obMono hr (fun _ _ h => h) (fun c hc => ⟨hc, (hF c hc).2⟩)⟩
  · rw [lk_hset] at hk hk'
    have hk2 : ∃ o, lk k hp = some o := by by_cases e : k = h; exact ⟨ob, e ▸ hl⟩; exact ⟨o, by rw [if_neg e] at hk; exact hk⟩
    have hk2' : ∃ o, lk k' hp = some o := by by_cases e : k' = h; exact ⟨ob, e ▸ hl⟩; exact ⟨o', by rw [if_neg e] at hk'; exact hk'⟩
    obtain ⟨o1, h1⟩ := hk2
    obtain ⟨o2, h2⟩ := hk2'
    exact hI.inj k k' o1 o2 h1 h2 hne
  · rw [lk_hset] at hk
    have hk2 : ∃ o, lk k hp = some o := by by_cases e : k = h; exact ⟨ob, e ▸ hl⟩; exact ⟨o, by rw [if_neg e] at hk; exact hk⟩
    obtain ⟨o1, h1⟩ := hk2
    exact hI.base k o1 c h1 hc
  · refine ⟨hg.os.trans hI.keeps.os, hg.tape.trans hI.keeps.tape, hg.output.trans hI.keeps.output, Nat.le_trans hI.keeps.size hg.size, fun k hk hS => ?_, hI.keeps.tab⟩
    rw [hg.block k (Nat.lt_of_lt_of_le hk hI.keeps.size) ?_]
    · exact hI.keeps.block k hk hS
    · intro e
      cases e
      rcases hI.base h ob _ hl hbk with h1 | h1
      · omega
      · exact hS h1
end Go.Proofs.YtpdkhlpmiblflaaGreat.Abs

/- Abs, part 3: what one operation does: a function on abstract values, and its soundness. -/
set_option linter.unusedVariables false
set_option linter.unusedSimpArgs false
namespace Go.Proofs.YtpdkhlpmiblflaaGreat.Abs
open Go Go.RowKit

/-! ### The table of types -/
inductive Sh where
  | other
  | int (k : IntKind)
  | bool
  | str
  | slice (e : TypeId)
  | arr (n : Nat) (e : TypeId)
  | struct (fs : List (Nat × TypeId))
  | ptr (e : TypeId)

def shOf : TypeDesc → Sh
  | .int k => .int k
  | .bool => .bool
  | .string => .str
  | .slice e => .slice e
  | .array n e => .arr n e
  | .struct fs => .struct (fs.toList.map fun f => (f.offset, f.type))
  | .pointer e => .ptr e
  | _ => .other

structure TI where
  sh : Sh
  size : Nat
  bytes : Nat
  zero : Value

abbrev TT := List (Nat × TI)

def TI.ok (P : Program) (t : TypeId) (ti : TI) : Prop :=
  (P.underlying t).map shOf = some ti.sh ∧ (P.info? t).map (fun i => (i.size, i.bytes, i.zero)) = some (ti.size, ti.bytes, some ti.zero) ∧ ti.zero.cells.size = ti.size

def TOk (P : Program) (T : TT) : Prop := ∀ t ti, lk t T = some ti → ti.ok P t

theorem TOk.nil (P : Program) : TOk P [] := fun t ti h => by simp [lk] at h
theorem TOk.cons {P : Program} {T : TT} {t : TypeId} {ti : TI} (h : ti.ok P t) (hT : TOk P T) : TOk P ((t, ti) :: T) := fun u ui hu => by
  rw [lk_cons] at hu
  split at hu
  · rename_i e; subst e; cases hu; exact h
  · exact hT u ui hu

section
variable {P : Program} {t : TypeId} {ti : TI} (h : ti.ok P t)
include h
theorem TI.info : ∃ i, P.info? t = some i ∧ i.size = ti.size ∧ i.bytes = ti.bytes ∧ i.zero = some ti.zero := by
  obtain ⟨_, h2, _⟩ := h
  cases hi : P.info? t with
  | none => simp [hi] at h2
  | some i => simp [hi] at h2; exact ⟨i, rfl, h2.1, h2.2.1, h2.2.2⟩
theorem TI.run_size (w : World) : (sizeOf t).run P w = .ok ti.size w := by
  obtain ⟨i, hi, hs, _⟩ := TI.info h
  simp [sizeOf, typeInfo, hi, hs]
theorem TI.run_zero (w : World) : (zeroValue t).run P w = .ok ti.zero w := by
  obtain ⟨i, hi, _, _, hz⟩ := TI.info h
  simp [zeroValue, typeInfo, hi, hz]
theorem TI.under {s : Sh} (e : ti.sh = s) : ∃ d, P.underlying t = some d ∧ shOf d = s := by
  obtain ⟨h1, _, _⟩ := h
  cases hd : P.underlying t with
  | none => simp [hd] at h1
  | some d => simp [hd] at h1; exact ⟨d, rfl, h1.trans e⟩
theorem TI.under_int {k : IntKind} (e : ti.sh = .int k) : P.underlying t = some (.int k) := by
  obtain ⟨d, hd, hs⟩ := TI.under h e; cases d <;> simp [shOf] at hs; subst hs; exact hd
theorem TI.under_bool (e : ti.sh = .bool) : P.underlying t = some .bool := by
  obtain ⟨d, hd, hs⟩ := TI.under h e; cases d <;> simp [shOf] at hs; exact hd
theorem TI.under_str (e : ti.sh = .str) : P.underlying t = some .string := by
  obtain ⟨d, hd, hs⟩ := TI.under h e; cases d <;> simp [shOf] at hs; exact hd
theorem TI.under_slice {u : TypeId} (e : ti.sh = .slice u) : P.underlying t = some (.slice u) := by
  obtain ⟨d, hd, hs⟩ := TI.under h e; cases d <;> simp [shOf] at hs; subst hs; exact hd
theorem TI.under_arr {n : Nat} {u : TypeId} (e : ti.sh = .arr n u) : P.underlying t = some (.array n u) := by
  obtain ⟨d, hd, hs⟩ := TI.under h e; cases d <;> simp [shOf] at hs; obtain ⟨rfl, rfl⟩ := hs; exact hd
theorem TI.under_struct {fs : List (Nat × TypeId)} (e : ti.sh = .struct fs) : ∃ fields, P.underlying t = some (.struct fields) ∧ fields.toList.map (fun f => (f.offset, f.type)) = fs := by
  obtain ⟨d, hd, hs⟩ := TI.under h e; cases d <;> simp [shOf] at hs; exact ⟨_, hd, hs⟩
end

def TI.aggB (ti : TI) : Bool := match ti.sh with | .struct _ | .arr _ _ => true | _ => false

theorem TI.run_aggB {P : Program} {t : TypeId} {ti : TI} (h : ti.ok P t) (w : World) : (Go.isAgg t).run P w = .ok ti.aggB w := by
  obtain ⟨d, hd, hs⟩ := TI.under h rfl
  simp only [Go.isAgg, TI.aggB, ← hs]
  cases d <;> simp [Go.underlying, hd, shOf]

/-! ### What an operation comes to -/
structure Res where
  d : D
  new : List (Nat × Ob) := []
  upd : List (Nat × Ob) := []
  dead : Option Nat := none

def Ob.kill (h : Nat) (o : Ob) : Ob := if o.deep then { o with xs := o.xs.map (·.map (killC h)) } else o
def killHP (h : Nat) (hp : HP) : HP := hp.map fun p => (p.1, p.2.kill h)
def Res.kills (r : Res) (d : D) : D := match r.dead with | some h => kill h d | none => d
def updHP : List (Nat × Ob) → HP → HP
  | [], hp => hp
  | (h, ob) :: l, hp => updHP l (hset h ob hp)
def Res.hpOf (r : Res) (hp : HP) : HP := r.new ++ updHP r.upd (match r.dead with | some h => killHP h hp | none => hp)

def q (d : D) : Option (Prop × Res) := some (True, { d })
def qp (pre : Prop) (d : D) : Option (Prop × Res) := some (pre, { d })

structure Post (w0 : World) (S : List Nat) (G : Nat → Prop) (hv : Nat → Value) (hp : HP) (w : World) (r : Res) (v : Value) (hv' : Nat → Value) (w' : World) : Prop where
  inv : HInv w0 S G hv' (r.hpOf hp) w'
  rep : Rep (LOf hv' (r.hpOf hp)) w' (FOf G hv' (r.hpOf hp) w') r.d v
  old : ∀ d u, Rep (LOf hv hp) w (FOf G hv hp w) d u → Rep (LOf hv' (r.hpOf hp)) w' (FOf G hv' (r.hpOf hp) w') (r.kills d) u
  same : ∀ h ob, lk h hp = some ob → r.dead ≠ some h → hv' h = hv h

def Done (P : Program) (o : Oper) (a : Act) (w : World) (v : Value) (w' : World) : Prop :=
  (execOp a.eval o).run P w = .ok (.value v) w' ∨ ((execOp a.eval o).run P w = .ok .skip w' ∧ v = undef)

theorem post_same {w0 : World} {S : List Nat} {G : Nat → Prop} {hv : Nat → Value} {hp : HP} {w : World} (hI : HInv w0 S G hv hp w) {d : D} {v : Value} (h : Rep (LOf hv hp) w (FOf G hv hp w) d v) :
    Post w0 S G hv hp w { d } v hv w := ⟨hI, h, fun _ _ h => h, fun _ _ _ _ => rfl⟩

/-! ### Numbers, bools, texts -/
def binI (op : BinOp) (k : IntKind) (a b : Int) : Option (Prop × Res) :=
  match op with
  | .add => q (.val (.int k (k.wrap (a + b))))
  | .sub => q (.val (.int k (k.wrap (a - b))))
  | .mul => q (.val (.int k (k.wrap (a * b))))
  | .quo => qp (b ≠ 0) (.val (.int k (k.wrap (a.tdiv b))))
  | .rem => qp (b ≠ 0) (.val (.int k (a.tmod b)))
  | .and => q (.val (.int k (k.wrap (BitVec.ofInt k.bits a &&& BitVec.ofInt k.bits b).toNat)))
  | .or => q (.val (.int k (k.wrap (BitVec.ofInt k.bits a ||| BitVec.ofInt k.bits b).toNat)))
  | .xor => q (.val (.int k (k.wrap (BitVec.ofInt k.bits a ^^^ BitVec.ofInt k.bits b).toNat)))
  | .eql => q (.val (.bool (a == b)))
  | .neq => q (.val (.bool (a != b)))
  | .lss => q (.val (.bool (decide (a < b))))
  | .leq => q (.val (.bool (decide (a ≤ b))))
  | .gtr => q (.val (.bool (decide (a > b))))
  | .geq => q (.val (.bool (decide (a ≥ b))))
  | _ => none

def binShift (op : BinOp) (k : IntKind) (a b : Int) : Option (Prop × Res) :=
  match op with
  | .shl => qp (0 ≤ b) (.val (.int k (k.wrap (a * 2 ^ (min b.toNat k.bits)))))
  | .shr => qp (0 ≤ b) (.val (.int k (a.fdiv (2 ^ (min b.toNat k.bits)))))
  | _ => none

def binS (op : BinOp) (x y : ByteArray) : Option (Prop × Res) :=
  match op with
  | .add => qp (x.size + y.size ≤ 9223372036854775807) (.val (.string (x ++ y)))
  | .eql => q (.val (.bool (x.toList == y.toList)))
  | .neq => q (.val (.bool (!(x.toList == y.toList))))
  | .lss => q (.val (.bool (Op.bytesLess x.toList y.toList)))
  | .leq => q (.val (.bool (Op.bytesLess x.toList y.toList || x.toList == y.toList)))
  | .gtr => q (.val (.bool (!(Op.bytesLess x.toList y.toList || x.toList == y.toList))))
  | .geq => q (.val (.bool (!(Op.bytesLess x.toList y.toList))))
  | _ => none

def isShift : BinOp → Bool
  | .shl | .shr => true
  | _ => false

def stepBin (T : TT) (op : BinOp) (t : TypeId) (x y : D) : Option (Prop × Res) :=
  match x, y with
  | .val (.int k a), .val (.int k' b) => if isShift op then binShift op k a b else if k = k' then binI op k a b else none
  | .val (.string a), .val (.string b) => binS op a b
  | .val (.bool a), .val (.bool b) =>
    match (lk t T).map (fun ti : TI => ti.sh), op with
    | some .bool, .eql => q (.val (.bool (a == b)))
    | some .bool, .neq => q (.val (.bool (!(a == b))))
    | _, _ => none
  | _, _ => none

theorem rep_val {L : LF} {w : World} {F : Nat → Prop} {v u : Value} (h : Rep L w F (.val v) u) : u = v := by
  have h : RepP w F (.val v) u := h
  cases h; rfl

theorem rep_mk {L : LF} {w : World} {F : Nat → Prop} (v : Value) : Rep L w F (.val v) v := (RepP.val v : RepP w F (.val v) v)

variable {P : Program} {T : TT} {w0 : World} {S : List Nat} {G : Nat → Prop} {hv : Nat → Value} {hp : HP} {w : World}

theorem stepBin_ok (hT : TOk P T) (hI : HInv w0 S G hv hp w) {op : BinOp} {t : TypeId} {ox oy : Operand} {x y : D} {pre : Prop} {r : Res} {u v : Value} (hx : Rep (LOf hv hp) w (FOf G hv hp w) x u) (hy : Rep (LOf hv hp) w (FOf G hv hp w) y v)
    (hs : stepBin T op t x y = some (pre, r)) (hpre : pre) : ∃ z, ((do eqGuard op t ox oy u v; binOp op t u v : Sem Value)).run P w = .ok z w ∧ Post w0 S G hv hp w r z hv w := by
  unfold stepBin at hs
  split at hs
  · obtain rfl := rep_val hx
    obtain rfl := rep_val hy
    split at hs
    · cases op <;> simp only [binShift, qp, reduceCtorEq, Option.some.injEq, Prod.mk.injEq] at hs
      all_goals
        obtain ⟨rfl, rfl⟩ := hs
        refine ⟨_, ?_, post_same hI (rep_mk _)⟩
        simp [eqGuard, binOp, Op.shift, Int.not_lt.2 hpre]
    · split at hs
      · rename_i hk
        subst hk
        cases op <;> simp only [binI, q, qp, reduceCtorEq, Option.some.injEq, Prod.mk.injEq] at hs <;> (try exact absurd rfl ‹¬ isShift _ = true›)
        all_goals
          obtain ⟨rfl, rfl⟩ := hs
          refine ⟨_, ?_, post_same hI (rep_mk _)⟩
          first
            | (simp [eqGuard, binOp, Op.intArith, Op.intBits, Op.intCmp]; done)
            | (simp [eqGuard, binOp, Op.intDiv, hpre]; done)
      · cases hs
  · rename_i a b
    obtain rfl := rep_val hx
    obtain rfl := rep_val hy
    cases op <;> simp only [binS, q, qp, reduceCtorEq, Option.some.injEq, Prod.mk.injEq] at hs
    all_goals
      obtain ⟨rfl, rfl⟩ := hs
      refine ⟨_, ?_, post_same hI (rep_mk _)⟩
    case add =>
      have h64 : IntKind.i64.max = 9223372036854775807 := by decide
      have hm : ¬ (((a.size + b.size : Nat) : Int) > IntKind.i64.max) := by rw [h64]; omega
      simp only [eqGuard, binOp, Op.stringOp, if_neg hm]
      rfl
    all_goals (simp [eqGuard, binOp, Op.stringOp]; done)
  · obtain rfl := rep_val hx
    obtain rfl := rep_val hy
    split at hs
    all_goals first | cases hs | skip
    all_goals
      rename_i hb
      simp only [Option.map_eq_some_iff] at hb
      obtain ⟨ti, hl, hsh⟩ := hb
      have hu := TI.under_bool (hT _ _ hl) hsh
      refine ⟨_, ?_, post_same hI (rep_mk _)⟩
      simp [eqGuard, binOp, run_equal_bool w t _ _ hu]
  · cases hs

def stepUn (op : UnOp) (x : D) : Option (Prop × Res) :=
  match op, x with
  | .neg, .val (.int k n) => q (.val (.int k (k.wrap (0 - n))))
  | .not, .val (.bool b) => q (.val (.bool (!b)))
  | _, _ => none

theorem stepUn_ok (hI : HInv w0 S G hv hp w) {op : UnOp} {x : D} {pre : Prop} {r : Res} {u : Value} (hx : Rep (LOf hv hp) w (FOf G hv hp w) x u)
    (hs : stepUn op x = some (pre, r)) (hpre : pre) : ∃ z, (Op.unary op u).run P w = .ok z w ∧ Post w0 S G hv hp w r z hv w := by
  unfold stepUn at hs
  split at hs
  · obtain rfl := rep_val hx
    cases hs
    exact ⟨_, by simp [Op.unary, Op.intArith], post_same hI (rep_mk _)⟩
  · obtain rfl := rep_val hx
    cases hs
    exact ⟨_, by simp [Op.unary], post_same hI (rep_mk _)⟩
  · cases hs

def stepConv (T : TT) (dst : TypeId) (x : D) : Option (Prop × Res) :=
  match (lk dst T).map (fun ti : TI => ti.sh), x with
  | some (.int k), .val (.int _ n) => q (.val (.int k (k.wrap n)))
  | some .str, .val (.string s) => q (.val (.string s))
  | _, _ => none

theorem stepConv_ok (hT : TOk P T) (hI : HInv w0 S G hv hp w) {src dst : TypeId} {x : D} {pre : Prop} {r : Res} {u : Value} (hsrc : ∃ d, P.underlying src = some d) (hx : Rep (LOf hv hp) w (FOf G hv hp w) x u)
    (hs : stepConv T dst x = some (pre, r)) (hpre : pre) : ∃ z, (convert src dst u).run P w = .ok z w ∧ Post w0 S G hv hp w r z hv w := by
  obtain ⟨ds, hds⟩ := hsrc
  unfold stepConv at hs
  split at hs
  · obtain rfl := rep_val hx
    rename_i hb
    simp only [Option.map_eq_some_iff] at hb
    obtain ⟨ti, hl, hsh⟩ := hb
    have hu := TI.under_int (hT _ _ hl) hsh
    cases hs
    exact ⟨_, by simp [convert, underlying, hds, hu, Conv.intToInt], post_same hI (rep_mk _)⟩
  · obtain rfl := rep_val hx
    rename_i hb
    simp only [Option.map_eq_some_iff] at hb
    obtain ⟨ti, hl, hsh⟩ := hb
    have hu := TI.under_str (hT _ _ hl) hsh
    cases hs
    refine ⟨_, ?_, post_same hI (rep_mk _)⟩
    cases ds <;> simp [convert, underlying, hds, hu]
  · cases hs

/-! ### Addresses -/
def nthField (T : TT) (s : TypeId) (f : Nat) : Option (Nat × TypeId) :=
  match (lk s T).map (fun ti : TI => ti.sh) with
  | some (.struct fs) => fs[f]?
  | _ => none
def szOf (T : TT) (t : TypeId) : Option Nat := (lk t T).map (fun ti : TI => ti.size)

def stepFieldAddr (T : TT) (s : TypeId) (x : D) (f : Nat) : Option (Prop × Res) :=
  match nthField T s f with
  | none => none
  | some (o, ty) =>
    match szOf T ty with
    | some (_ + 1) =>
      match x with
      | .ptr h i off => q (.ptr h i (off + o))
      | .rptr sz xs i off => q (.rptr sz xs i (off + o))
      | _ => none
    | _ => none

theorem addr_add (g n m : Nat) : (⟨g, n, none⟩ : Addr).add m = ⟨g, n + m, none⟩ := by unfold Addr.add; split <;> simp_all

theorem szOf_run (hT : TOk P T) {t : TypeId} {n : Nat} (h : szOf T t = some n) (w : World) : (sizeOf t).run P w = .ok n w := by
  simp only [szOf, Option.map_eq_some_iff] at h
  obtain ⟨ti, hl, rfl⟩ := h
  exact TI.run_size (hT _ _ hl) w

theorem nthField_ok (hT : TOk P T) {s : TypeId} {f o : Nat} {ty : TypeId} (h : nthField T s f = some (o, ty)) : ∃ fields fd, P.underlying s = some (.struct fields) ∧ fields[f]? = some fd ∧ fd.offset = o ∧ fd.type = ty := by
  unfold nthField at h
  split at h
  · rename_i fs hb
    simp only [Option.map_eq_some_iff] at hb
    obtain ⟨ti, hl, hsh⟩ := hb
    obtain ⟨fields, hu, hm⟩ := TI.under_struct (hT _ _ hl) hsh
    subst hm
    simp only [List.getElem?_map, Option.map_eq_some_iff, Prod.mk.injEq] at h
    obtain ⟨fd, hfd, h1, h2⟩ := h
    exact ⟨fields, fd, hu, by simpa using hfd, h1, h2⟩
  · cases h

theorem stepFieldAddr_ok (hT : TOk P T) (hI : HInv w0 S G hv hp w) {s : TypeId} {f : Nat} {x : D} {pre : Prop} {r : Res} {u : Value} (hx : Rep (LOf hv hp) w (FOf G hv hp w) x u)
    (hs : stepFieldAddr T s x f = some (pre, r)) (hpre : pre) : ∃ z, (Instr.fieldAt s u f).run P w = .ok z w ∧ Post w0 S G hv hp w r z hv w := by
  unfold stepFieldAddr at hs
  split at hs
  · cases hs
  rename_i o ty hf
  obtain ⟨fields, fd, hu, hfd, rfl, rfl⟩ := nthField_ok hT hf
  split at hs
  · rename_i n hsz
    have hrun := szOf_run hT hsz w
    split at hs
    · rename_i h i off
      cases hs
      obtain ⟨g, m, cap, s1, hl, rfl⟩ := hx
      refine ⟨_, by simp [Instr.fieldAt, underlying, hu, hfd, Instr.sureAddr, fieldPlace, hrun]; rfl, post_same hI ?_⟩
      exact ⟨g, m, cap, s1, hl, by rw [addr_add, Nat.add_assoc]⟩
    · rename_i sz xs i off
      cases hs
      obtain ⟨ad, rfl, hrow⟩ := hx
      refine ⟨_, by simp [Instr.fieldAt, underlying, hu, hfd, Instr.sureAddr, fieldPlace, hrun]; rfl, post_same hI ?_⟩
      exact ⟨ad, by rw [addr_add]; simp [Nat.add_assoc], hrow⟩
    · cases hs
  · cases hs

def stepIndexAddr (T : TT) (t : TypeId) (hp : HP) (x ix : D) : Option (Prop × Res) :=
  match ix with
  | .val (.int _ i) =>
    match (lk t T).map (fun ti : TI => ti.sh) with
    | some (.slice e) =>
      match szOf T e with
      | none => none
      | some es =>
        match x with
        | .sl sz xs => qp (sz = es ∧ 0 ≤ i ∧ i < xs.length) (.rptr sz xs i.toNat 0)
        | .own h =>
          match lk h hp with
          | some ob => qp (ob.sz = es ∧ 0 ≤ i ∧ i < ob.xs.length) (.ptr h i.toNat 0)
          | none => none
        | .vw h lo n =>
          match lk h hp with
          | some ob => qp (ob.sz = es ∧ 0 ≤ i ∧ i < n) (.ptr h (lo + i.toNat) 0)
          | none => none
        | .cvw h j off es' n => qp (es' = es ∧ 0 ≤ i ∧ i < n) (.ptr h j (off + i.toNat * es))
        | _ => none
    | some (.arr n e) =>
      match szOf T e with
      | none => none
      | some es =>
        match x with
        | .ptr h j off => qp (0 ≤ i ∧ i < n) (.ptr h j (off + i.toNat * es))
        | .rptr sz xs j off => qp (0 ≤ i ∧ i < n) (.rptr sz xs j (off + i.toNat * es))
        | _ => none
    | _ => none
  | _ => none

theorem own_form {ob : Ob} {v : Value} {L : LF} {F : Nat → Prop} (h : ObRep L w F ob v) (hne : ob.xs ≠ []) : ∃ g cap, v = .slice (some ⟨g, 0, none⟩) ob.xs.length cap := by
  obtain ⟨vs, ho, _⟩ := h
  rcases ho.2 with ⟨_, h0⟩ | ⟨g, cap, cur, hv, _⟩
  · exact absurd (List.eq_nil_of_length_eq_zero h0) hne
  · exact ⟨g, cap, hv⟩

theorem stepIndexAddr_ok (hT : TOk P T) (hI : HInv w0 S G hv hp w) {t : TypeId} {x ix : D} {pre : Prop} {r : Res} {u v : Value} (hx : Rep (LOf hv hp) w (FOf G hv hp w) x u) (hix : Rep (LOf hv hp) w (FOf G hv hp w) ix v)
    (hs : stepIndexAddr T t hp x ix = some (pre, r)) (hpre : pre) : ∃ z, (Instr.indexAt t u v).run P w = .ok z w ∧ Post w0 S G hv hp w r z hv w := by
  unfold stepIndexAddr at hs
  split at hs
  case h_2 => cases hs
  rename_i k i
  obtain rfl := rep_val hix
  split at hs
  · rename_i e hb
    simp only [Option.map_eq_some_iff] at hb
    obtain ⟨ti, hl, hsh⟩ := hb
    have hu := TI.under_slice (hT _ _ hl) hsh
    split at hs
    · cases hs
    rename_i es hsz
    have hrun := szOf_run hT hsz w
    split at hs
    · rename_i sz xs
      cases hs
      obtain ⟨rfl, h0, h1⟩ := hpre
      have hx : RepP w (FOf G hv hp w) (.sl sz xs) u := hx
      cases hx with
      | sl _ _ A c V hg hA hm hF hc hr =>
        have hne : xs ≠ [] := by rintro rfl; simp at h1; omega
        cases A with
        | none => exact absurd (hA rfl).1 hne
        | some ad =>
          refine ⟨_, by simp [Instr.indexAt, asIntOf, underlying, hu, h0, h1, hrun]; rfl, post_same hI ?_⟩
          obtain ⟨b, o, sp⟩ := ad
          have hsp : sp = none := (hF _ rfl hne).2
          subst hsp
          exact ⟨⟨b, o, none⟩, by rw [addr_add]; simp, hg, rfl, fun h => (hF _ rfl hne).1, fun i' j x d hi hj => ⟨V i' j, (hc _ i' j x d rfl hi hj).1, (hc _ i' j x d rfl hi hj).2, hr i' j x d hi hj⟩⟩
    · rename_i h
      split at hs
      · rename_i ob hob
        cases hs
        obtain ⟨rfl, h0, h1⟩ := hpre
        have hx : ∃ s, LOf hv hp h = some (u, s) := hx
        obtain ⟨s, hs⟩ := hx
        have hne : ob.xs ≠ [] := by intro h; rw [h] at h1; simp at h1; omega
        obtain ⟨g, cap, hvh⟩ := own_form (hI.obs h ob hob) hne
        have hLh : LOf hv hp h = some (hv h, ob.sz) := by simp [LOf, hob]
        rw [hLh] at hs
        simp only [Option.some.injEq, Prod.mk.injEq] at hs
        obtain ⟨rfl, rfl⟩ := hs
        rw [hvh]
        refine ⟨_, by simp [Instr.indexAt, asIntOf, underlying, hu, h0, h1, hrun]; rfl, post_same hI ?_⟩
        exact ⟨g, _, cap, ob.sz, by rw [hLh, hvh], by rw [addr_add]; simp⟩
      · cases hs
    · rename_i h lo n
      split at hs
      · rename_i ob hob
        cases hs
        obtain ⟨rfl, h0, h1⟩ := hpre
        obtain ⟨A, c, m, cap, s, a, rfl, hLh, hlo, hnc, _, hA⟩ := hx
        obtain ⟨g, rfl, rfl⟩ := hA (by omega)
        have hs : s = ob.sz := by
          have : LOf hv hp h = some (hv h, ob.sz) := by simp [LOf, hob]
          rw [this] at hLh; simp at hLh; exact hLh.2.symm
        subst hs
        refine ⟨_, by simp [Instr.indexAt, asIntOf, underlying, hu, h0, h1, hrun]; rfl, post_same hI ?_⟩
        exact ⟨g, _, cap, _, hLh, by rw [addr_add]; simp [Nat.add_mul]⟩
      · cases hs
    · rename_i h j off es' n
      cases hs
      obtain ⟨rfl, h0, h1⟩ := hpre
      obtain ⟨g, m, cap, s, c, hLh, hj, hoff, _, rfl⟩ := hx
      refine ⟨_, by simp [Instr.indexAt, asIntOf, underlying, hu, h0, h1, hrun]; rfl, post_same hI ?_⟩
      exact ⟨g, m, cap, s, hLh, by rw [addr_add]; simp [Nat.add_assoc]⟩
    · cases hs
  · rename_i n e hb
    simp only [Option.map_eq_some_iff] at hb
    obtain ⟨ti, hl, hsh⟩ := hb
    have hu := TI.under_arr (hT _ _ hl) hsh
    split at hs
    · cases hs
    rename_i es hsz
    have hrun := szOf_run hT hsz w
    split at hs
    · rename_i h j off
      cases hs
      obtain ⟨h0, h1⟩ := hpre
      obtain ⟨g, m, cap, s, hLh, rfl⟩ := hx
      refine ⟨_, by simp [Instr.indexAt, asIntOf, underlying, hu, h0, h1, hrun, Instr.sureAddr]; rfl, post_same hI ?_⟩
      exact ⟨g, m, cap, s, hLh, by rw [addr_add]; simp [Nat.add_assoc]⟩
    · rename_i sz xs j off
      cases hs
      obtain ⟨h0, h1⟩ := hpre
      obtain ⟨ad, rfl, hrow⟩ := hx
      refine ⟨_, by simp [Instr.indexAt, asIntOf, underlying, hu, h0, h1, hrun, Instr.sureAddr]; rfl, post_same hI ?_⟩
      exact ⟨ad, by rw [addr_add]; simp [Nat.add_assoc], hrow⟩
    · cases hs
  · cases hs
end Go.Proofs.YtpdkhlpmiblflaaGreat.Abs

/- Abs, part 4: loads, stores, new objects. -/
set_option linter.unusedVariables false
set_option linter.unusedSimpArgs false
namespace Go.Proofs.YtpdkhlpmiblflaaGreat.Abs
open Go Go.RowKit
variable {P : Program} {T : TT} {w0 : World} {S : List Nat} {G : Nat → Prop} {hv : Nat → Value} {hp : HP} {w : World}

def allVals : List D → Option (List Value)
  | [] => some []
  | .val v :: ds => (allVals ds).map (v :: ·)
  | _ :: _ => none
def mkAgg (cs : List D) : D := match allVals cs with | some vs => .val (.agg vs.toArray) | none => .agg cs

theorem allVals_rep {L : LF} {F : Nat → Prop} : ∀ {ds : List D} {us vs : List Value}, allVals ds = some vs → RepL L w F ds us → us = vs
  | [], [], vs, h, _ => by simp [allVals] at h; exact h.symm
  | .val v :: ds, u :: us, vs, h, hr => by
    simp only [allVals, Option.map_eq_some_iff] at h
    obtain ⟨vs', h', rfl⟩ := h
    have h1 : RepP w F (.val v) u := hr.1
    cases h1
    rw [allVals_rep h' hr.2]
  | [], _ :: _, _, _, hr => hr.elim
  | .val _ :: _, [], _, _, hr => hr.elim
  | .any :: _, _, _, h, _ | .nil :: _, _, _, h, _ | .sl _ _ :: _, _, _, h, _ | .own _ :: _, _, _, h, _ | .vw _ _ _ :: _, _, _, h, _ | .cvw _ _ _ _ _ :: _, _, _, h, _ | .ptr _ _ _ :: _, _, _, h, _
  | .rptr _ _ _ _ :: _, _, _, h, _ | .agg _ :: _, _, _, h, _ | .tup _ :: _, _, _, h, _ | .fn _ _ _ :: _, _, _, h, _ => by simp [allVals] at h

theorem mkAgg_rep {L : LF} {F : Nat → Prop} {cs : List D} {us : List Value} (h : RepL L w F cs us) (h1 : ∀ u ∈ us, u.oneCell' = true) : Rep L w F (mkAgg cs) (.agg us.toArray) := by
  unfold mkAgg
  split
  · rename_i vs hvs
    rw [allVals_rep hvs h]
    exact rep_mk _
  · exact ⟨us, rfl, h, h1⟩

theorem repL_length {L : LF} {F : Nat → Prop} : ∀ {ds : List D} {us : List Value}, RepL L w F ds us → us.length = ds.length
  | [], [], _ => rfl
  | _ :: ds, _ :: us, h => by simp [repL_length h.2]
  | [], _ :: _, h => h.elim
  | _ :: _, [], h => h.elim

theorem repL_get {L : LF} {F : Nat → Prop} : ∀ {ds : List D} {us : List Value}, RepL L w F ds us → ∀ (j : Nat) d, ds[j]? = some d → ∃ u, us[j]? = some u ∧ RepC L w F d u
  | d :: ds, u :: us, h, 0, e, hj => by simp at hj; subst hj; exact ⟨u, rfl, h.1⟩
  | d :: ds, u :: us, h, j + 1, e, hj => by simpa using repL_get h.2 j e (by simpa using hj)
  | [], [], _, j, e, hj => by simp at hj
  | [], _ :: _, h, _, _, _ => h.elim
  | _ :: _, [], h, _, _, _ => h.elim

theorem repL_of {L : LF} {F : Nat → Prop} : ∀ {ds : List D} {us : List Value}, us.length = ds.length → (∀ (j : Nat) d u, ds[j]? = some d → us[j]? = some u → RepC L w F d u) → RepL L w F ds us
  | [], [], _, _ => trivial
  | d :: ds, u :: us, hl, h => ⟨h 0 d u rfl rfl, repL_of (by simpa using hl) (fun j d u hd hu => h (j + 1) d u (by simpa using hd) (by simpa using hu))⟩
  | [], _ :: _, hl, _ => by simp at hl
  | _ :: _, [], hl, _ => by simp at hl

def dcells : D → List D
  | .val (.agg cs) => cs.toList.map .val
  | .agg cs => cs
  | d => [d]

def readAt (agg : Bool) (n : Nat) (x : List D) (off : Nat) : Option D :=
  if agg then (if off + n ≤ x.length then some (mkAgg ((x.drop off).take n)) else none) else x[off]?

def stepLoad (T : TT) (t : TypeId) (hp : HP) (a : D) : Option (Prop × Res) :=
  match lk t T with
  | none => none
  | some ti =>
    match a with
    | .ptr h i off =>
      match lk h hp with
      | none => none
      | some ob =>
        match ob.xs[i]? with
        | none => none
        | some x =>
          match readAt ti.aggB ti.size x off with
          | some d => q d
          | none => none
    | .rptr _ xs i off =>
      match xs[i]? with
      | none => none
      | some x =>
        match readAt ti.aggB ti.size x off with
        | some d => q d
        | none => none
    | _ => none

theorem run_loadVar_at (hT : TOk P T) {t : TypeId} {ti : TI} (hl : lk t T = some ti) {L : LF} {F : Nat → Prop} {x : List D} {off : Nat} {d : D} {b o : Nat} (hr : readAt ti.aggB ti.size x off = some d)
    (hc : ∀ j d, x[j]? = some d → ∃ v, w.cell? ⟨b, o + j, none⟩ = some v ∧ v.oneCell' = true ∧ RepC L w F d v) : ∃ z, (loadVar t ⟨b, o + off, none⟩).run P w = .ok z w ∧ Rep L w F d z := by
  have hagg := TI.run_aggB (hT _ _ hl) w
  have hsz := TI.run_size (hT _ _ hl) w
  unfold readAt at hr
  split at hr
  · rename_i ha
    split at hr
    · rename_i hle
      cases hr
      have hex : ∃ us : List Value, us.length = ((x.drop off).take ti.size).length ∧ (∀ (j : Nat) d u, ((x.drop off).take ti.size)[j]? = some d → us[j]? = some u → RepC L w F d u) ∧
          (∀ u ∈ us, u.oneCell' = true) ∧ ∀ j u, us[j]? = some u → w.cell? ((⟨b, o + off, none⟩ : Addr).add j) = some u := by
        refine ⟨(List.range ti.size).map fun j => (w.cell? ⟨b, o + off + j, none⟩).getD undef, by simp; omega, fun j d u hd hu => ?_, fun u hu => ?_, fun j u hu => ?_⟩
        · simp only [List.getElem?_map, Option.map_eq_some_iff] at hu
          obtain ⟨j', hj', rfl⟩ := hu
          obtain ⟨hjl, rfl⟩ := List.getElem?_eq_some_iff.1 hj'
          simp only [List.length_range] at hjl
          rw [List.getElem?_take, if_pos hjl, List.getElem?_drop] at hd
          obtain ⟨v, hv, _, hrep⟩ := hc (off + j) d hd
          simp only [List.getElem_range, Nat.add_assoc, hv, Option.getD_some]
          exact hrep
        · simp only [List.mem_map, List.mem_range] at hu
          obtain ⟨j, hj, rfl⟩ := hu
          obtain ⟨v, hv, h1, _⟩ := hc (off + j) (x[off + j]'(by omega)) (List.getElem?_eq_getElem _)
          simp only [Nat.add_assoc, hv, Option.getD_some]
          exact h1
        · simp only [List.getElem?_map, Option.map_eq_some_iff] at hu
          obtain ⟨j', hj', rfl⟩ := hu
          obtain ⟨hjl, rfl⟩ := List.getElem?_eq_some_iff.1 hj'
          simp only [List.length_range] at hjl
          obtain ⟨v, hv, h1, _⟩ := hc (off + j) (x[off + j]'(by omega)) (List.getElem?_eq_getElem _)
          rw [addr_add]
          simp only [List.getElem_range, Nat.add_assoc, hv, Option.getD_some]
      obtain ⟨us, hlen, hrep, h1, hcell⟩ := hex
      have hlen' : us.length = ti.size := by rw [hlen]; simp; omega
      have hload := run_loadCells_list (P := P) w ⟨b, o + off, none⟩ us hcell
      rw [hlen'] at hload
      refine ⟨.agg us.toArray, by simp [loadVar, hagg, ha, hsz, hload], mkAgg_rep (repL_of hlen hrep) h1⟩
    · cases hr
  · rename_i ha
    obtain ⟨v, hv, h1, hrep⟩ := hc off d hr
    refine ⟨v, by simp [loadVar, hagg, ha, hv], ?_⟩
    cases d <;> first | exact hrep | exact hrep.elim

theorem RowP.cells {L : LF} {F : Nat → Prop} {ad : Addr} {sz : Nat} {xs : List (List D)} (h : RowP w F ad sz xs) {i : Nat} {x : List D} (hx : xs[i]? = some x) :
    ∀ j d, x[j]? = some d → ∃ v, w.cell? ⟨ad.block, ad.off + i * sz + j, none⟩ = some v ∧ v.oneCell' = true ∧ RepC L w F d v := fun j d hj => by
  obtain ⟨v, hv, h1, hr⟩ := h.2.2.2 i j x d hx hj
  exact ⟨v, by rw [Nat.add_assoc]; exact hv, h1, hr.toC⟩

theorem ObRep.cells {L : LF} {F : Nat → Prop} {ob : Ob} {g m cap : Nat} (h : ObRep L w F ob (.slice (some ⟨g, 0, none⟩) m cap)) {i : Nat} {x : List D} (hx : ob.xs[i]? = some x) :
    ∀ j d, x[j]? = some d → ∃ v, w.cell? ⟨g, i * ob.sz + j, none⟩ = some v ∧ v.oneCell' = true ∧ RepC L w F d v := fun j d hj => by
  obtain ⟨vs, ho, hg, hc⟩ := h
  have hxl : x.length = ob.sz := hg x (List.mem_of_getElem? hx)
  have hjl : j < ob.sz := by rw [← hxl]; exact (List.getElem?_eq_some_iff.1 hj).1
  obtain ⟨u, hu, h1, hr⟩ := hc i j x d hx hj
  have hil : i < ob.xs.length := (List.getElem?_eq_some_iff.1 hx).1
  have hm : m = ob.xs.length := by
    rcases ho.2 with ⟨h', _⟩ | ⟨g', cap', cur, h', _⟩
    · simp at h'
    · simp at h'; exact h'.2.1
  subst hm
  refine ⟨u, ?_, h1, hr.toC⟩
  rw [ho.cellAt (i * ob.sz + j) (by
    have := Nat.mul_le_mul_right ob.sz hil
    rw [Nat.succ_mul] at this
    omega)]
  exact hu

theorem LOf_eq {h : Nat} {ob : Ob} (hl : lk h hp = some ob) : LOf hv hp h = some (hv h, ob.sz) := by simp [LOf, hl]

theorem stepLoad_ok (hT : TOk P T) (hI : HInv w0 S G hv hp w) {t : TypeId} {a : D} {pre : Prop} {r : Res} {u : Value} (ha : Rep (LOf hv hp) w (FOf G hv hp w) a u)
    (hs : stepLoad T t hp a = some (pre, r)) (hpre : pre) : ∃ z, (Instr.loadAt t u).run P w = .ok z w ∧ Post w0 S G hv hp w r z hv w := by
  unfold stepLoad at hs
  split at hs
  · cases hs
  rename_i ti hl
  split at hs
  · rename_i h i off
    split at hs
    · cases hs
    rename_i ob hob
    split at hs
    · cases hs
    rename_i x hx
    split at hs
    · rename_i d hd
      cases hs
      obtain ⟨g, m, cap, s, hLh, rfl⟩ := ha
      rw [LOf_eq hob] at hLh
      simp only [Option.some.injEq, Prod.mk.injEq] at hLh
      obtain ⟨hvh, rfl⟩ := hLh
      have hobr := hI.obs h ob hob
      rw [hvh] at hobr
      obtain ⟨z, hz, hrep⟩ := run_loadVar_at hT hl hd (hobr.cells hx)
      exact ⟨z, by simp [Instr.loadAt, Instr.sureAddr, hz], post_same hI hrep⟩
    · cases hs
  · rename_i sz xs i off
    split at hs
    · cases hs
    rename_i x hx
    split at hs
    · rename_i d hd
      cases hs
      obtain ⟨ad, rfl, hrow⟩ := ha
      obtain ⟨z, hz, hrep⟩ := run_loadVar_at (L := LOf hv hp) hT hl hd (hrow.cells hx)
      exact ⟨z, by rw [← Nat.add_assoc]; simp [Instr.loadAt, Instr.sureAddr, hz], post_same hI hrep⟩
    · cases hs
  · cases hs

/-! ### Stores -/
def setMany {α : Type} : List α → Nat → List α → List α
  | xs, _, [] => xs
  | xs, p, v :: vs => setMany (xs.set p v) (p + 1) vs

theorem setMany_length {α : Type} : ∀ (vs : List α) (xs : List α) (p : Nat), (setMany xs p vs).length = xs.length
  | [], _, _ => rfl
  | v :: vs, xs, p => by simp [setMany, setMany_length vs]

theorem setMany_get {α : Type} : ∀ (vs : List α) (xs : List α) (p j : Nat), p + vs.length ≤ xs.length → (setMany xs p vs)[j]? = if p ≤ j ∧ j < p + vs.length then vs[j - p]? else xs[j]?
  | [], xs, p, j, _ => by simp [setMany]; omega
  | v :: vs, xs, p, j, h => by
    rw [setMany, setMany_get vs _ _ j (by simpa [Nat.add_assoc, Nat.add_comm 1] using h)]
    simp only [List.length_cons] at h ⊢
    by_cases h1 : p + 1 ≤ j ∧ j < p + 1 + vs.length
    · rw [if_pos h1, if_pos (by omega)]
      rw [show j - p = (j - (p + 1)) + 1 by omega, List.getElem?_cons_succ]
    · rw [if_neg h1]
      by_cases h2 : j = p
      · subst h2
        rw [if_pos (by omega)]
        simp [List.getElem?_set_self (show j < xs.length by omega)]
      · rw [if_neg (by omega), List.getElem?_set_ne (by omega)]

theorem run_storeCells_own {ty : TypeId} {sz g n cap : Nat} : ∀ (vs : List Value) (k p : Nat) (w : World) (xs : List Value), oRow w 0 ty sz (.slice (some ⟨g, 0, none⟩) n cap) n xs → p + k + vs.length ≤ n * sz → (∀ v ∈ vs, v.oneCell' = true) →
    ∃ w', (storeCells ⟨g, p, none⟩ vs k).run P w = .ok () w' ∧ oRow w' 0 ty sz (.slice (some ⟨g, 0, none⟩) n cap) n (setMany xs (p + k) vs) ∧ w.grownBy w' (some g) ∧ w.heap.size = w'.heap.size
  | [], k, p, w, xs, h, _, _ => ⟨w, by simp [storeCells], h, ⟨rfl, rfl, rfl, Nat.le_refl _, fun _ _ _ => rfl⟩, rfl⟩
  | v :: vs, k, p, w, xs, h, hp, h1 => by
    simp only [List.length_cons] at hp
    have hxl := h.1
    have hcell : w.cell? ⟨g, p + k, none⟩ = some (xs[p + k]'(by omega)) := by rw [h.cellAt (p + k) (by omega)]; exact List.getElem?_eq_getElem _
    have hst := h.stored (p + k) v
    obtain ⟨w', hr, ho, hg, hz⟩ := run_storeCells_own vs (k + 1) p _ _ hst.1 (by omega) (fun u hu => h1 u (by simp [hu]))
    refine ⟨w', ?_, ho, ⟨hg.os.trans hst.2.os, hg.tape.trans hst.2.tape, hg.output.trans hst.2.output, Nat.le_trans hst.2.size hg.size, fun j hj hne => (hg.block j (Nat.lt_of_lt_of_le hj hst.2.size) hne).trans (hst.2.block j hj hne)⟩, by rw [← hz]; simp [World.setCell]⟩
    simp only [storeCells, Sem.run_bind, addr_add, run_store P w _ v .plain (h1 v (by simp)), hcell, h.frozenAt (p + k) (by omega), Bool.false_eq_true, if_false, Result.andThen_ok]
    exact hr

def cellsOk : D → Bool
  | .val (.agg cs) => cs.toList.all fun c => c.oneCell'
  | .val v => v.oneCell'
  | .any | .tup _ | .fn _ _ _ => false
  | _ => true
def hf : D → Bool
  | .any | .val _ | .nil | .sl _ _ | .clo _ _ => true
  | _ => false

theorem repP_of_hf {L : LF} {F : Nat → Prop} {d : D} {v : Value} (h : hf d = true) (hr : RepC L w F d v) : RepP w F d v := by
  cases d <;> simp [hf] at h <;> exact hr

theorem vals_rep {L : LF} {F : Nat → Prop} : ∀ cs : List Value, RepL L w F (cs.map .val) cs
  | [] => trivial
  | c :: cs => ⟨(RepP.val c : RepP w F (.val c) c), vals_rep cs⟩

theorem dcells_rep {L : LF} {F : Nat → Prop} {d : D} {v : Value} (hL : ∀ h v s, L h = some (v, s) → v.oneCell' = true) (h : Rep L w F d v) (hok : cellsOk d = true) :
    RepL L w F (dcells d) v.cells.toList ∧ ∀ u ∈ v.cells.toList, u.oneCell' = true := by
  cases d <;> (try simp only [cellsOk, Bool.false_eq_true] at hok)
  case agg cs =>
    obtain ⟨us, rfl, hr, ho⟩ := h
    exact ⟨by simpa [Value.cells, dcells] using hr, by simpa [Value.cells] using ho⟩
  case val u =>
    obtain rfl := rep_val h
    cases v <;> simp only [cellsOk, Value.oneCell', Bool.false_eq_true] at hok
    case agg cs => exact ⟨by simpa [Value.cells, dcells] using vals_rep _, fun c hc => List.all_eq_true.1 (show (cs.toList.all fun c => c.oneCell') = true from hok) c hc⟩
    all_goals exact ⟨⟨(RepP.val _ : RepP w F _ _), trivial⟩, by simp [Value.cells, Value.oneCell']⟩
  case nil =>
    have h : RepP w F .nil v := h
    cases h
    exact ⟨⟨(RepP.nil : RepP w F .nil _), trivial⟩, by simp [Value.cells, Value.oneCell']⟩
  case sl sz xs =>
    have h : RepP w F (.sl sz xs) v := h
    have h' := h
    cases h
    exact ⟨⟨h', trivial⟩, by simp [Value.cells, Value.oneCell']⟩
  case own k =>
    obtain ⟨s, hs⟩ := h
    have h1 := hL _ _ _ hs
    cases v <;> simp [Value.oneCell'] at h1 <;> exact ⟨⟨⟨s, hs⟩, trivial⟩, by simp [Value.cells, Value.oneCell']⟩
  case vw k lo n =>
    have h' := h
    obtain ⟨A, c, m, cap, s, a, rfl, r⟩ := h
    exact ⟨⟨h', trivial⟩, by simp [Value.cells, Value.oneCell']⟩
  case cvw k i off es n =>
    have h' := h
    obtain ⟨g, m, cap, s, c, hl, h1, h2, _, rfl⟩ := h
    exact ⟨⟨h', trivial⟩, by simp [Value.cells, Value.oneCell']⟩
  case ptr k i off =>
    have h' := h
    obtain ⟨g, m, cap, s, hl, rfl⟩ := h
    exact ⟨⟨h', trivial⟩, by simp [Value.cells, Value.oneCell']⟩
  case rptr sz xs i off =>
    have h' := h
    obtain ⟨ad, rfl, r⟩ := h
    exact ⟨⟨h', trivial⟩, by simp [Value.cells, Value.oneCell']⟩
  case clo f cs =>
    have h' : RepP w F (.clo f cs) v := h
    obtain ⟨vs, rfl, _⟩ := clo_caps (L := L) h'
    exact ⟨⟨h', trivial⟩, by simp [Value.cells, Value.oneCell']⟩
  case mp ob M =>
    have h' : RepP w F (.mp ob M) v := h
    have h2 := h'
    cases h2
    exact ⟨⟨h', trivial⟩, by simp [Value.cells, Value.oneCell']⟩

theorem oRow_oneCell {ty : TypeId} {sz n : Nat} {v : Value} {xs : List Value} (h : oRow w 0 ty sz v n xs) : v.oneCell' = true := by
  rcases h.2 with ⟨rfl, _⟩ | ⟨g, cap, cur, rfl, _⟩ <;> rfl

theorem LOf_oneCell (hI : HInv w0 S G hv hp w) : ∀ h v s, LOf hv hp h = some (v, s) → v.oneCell' = true := fun h v s hl => by
  simp only [LOf, Option.map_eq_some_iff, Prod.mk.injEq] at hl
  obtain ⟨ob, hob, rfl, _⟩ := hl
  obtain ⟨vs, ho, _⟩ := hI.obs h ob hob
  exact oRow_oneCell ho

def putCells (agg : Bool) (x : List D) (off : Nat) (cs : List D) : List D :=
  if agg then x.take off ++ cs ++ x.drop (off + cs.length) else match cs with | [c] => x.set off c | _ => x

def stepStore (T : TT) (t : TypeId) (hp : HP) (a v : D) : Option (Prop × Res) :=
  match lk t T with
  | none => none
  | some ti =>
    match a with
    | .ptr h i off =>
      match lk h hp with
      | none => none
      | some ob =>
        match ob.xs[i]? with
        | none => none
        | some x => some (cellsOk v = true ∧ (dcells v).length = ti.size ∧ (ti.aggB = false → ti.size = 1) ∧ off + ti.size ≤ x.length ∧ (ob.deep = true ∨ (dcells v).all hf = true),
            { d := .any, upd := [(h, { ob with xs := ob.xs.set i (putCells ti.aggB x off (dcells v)) })] })
    | _ => none

theorem putCells_get {agg : Bool} {x cs : List D} {off : Nat} (hs : agg = false → cs.length = 1) (hle : off + cs.length ≤ x.length) (j : Nat) :
    (putCells agg x off cs).length = x.length ∧ (putCells agg x off cs)[j]? = if off ≤ j ∧ j < off + cs.length then cs[j - off]? else x[j]? := by
  unfold putCells
  cases agg
  · simp only [Bool.false_eq_true, if_false]
    have := hs rfl
    match cs, this with
    | [c], _ =>
      simp only [List.length_set, List.length_cons, List.length_nil, Nat.zero_add, true_and]
      simp only [List.length_cons, List.length_nil] at hle
      by_cases h : j = off
      · subst h
        simp [List.getElem?_set_self (show j < x.length by omega)]
      · rw [List.getElem?_set_ne (by omega), if_neg (by omega)]
  · simp only [if_true]
    refine ⟨by simp; omega, ?_⟩
    by_cases h1 : j < off
    · rw [List.append_assoc, List.getElem?_append_left (by simp; omega), List.getElem?_take, if_pos h1, if_neg (by omega)]
    · by_cases h2 : j < off + cs.length
      · rw [if_pos (by omega), List.getElem?_append_left (by simp; omega), List.getElem?_append_right (by simp; omega)]
        simp only [List.length_take]
        rw [show min off x.length = off by omega]
      · rw [if_neg (by omega), List.getElem?_append_right (by simp; omega), List.getElem?_drop]
        simp only [List.length_append, List.length_take]
        congr 1
        omega

theorem stepStore_ok (hT : TOk P T) (hI : HInv w0 S G hv hp w) {t : TypeId} {a d : D} {pre : Prop} {r : Res} {u v : Value} (ha : Rep (LOf hv hp) w (FOf G hv hp w) a u) (hd : Rep (LOf hv hp) w (FOf G hv hp w) d v)
    (hs : stepStore T t hp a d = some (pre, r)) (hpre : pre) : ∃ hv' w', (Instr.storeAt t u v).run P w = .ok () w' ∧ Post w0 S G hv hp w r undef hv' w' := by
  unfold stepStore at hs
  split at hs
  · cases hs
  rename_i ti hl
  split at hs
  case h_2 => cases hs
  rename_i h i off
  split at hs
  · cases hs
  rename_i ob hob
  split at hs
  · cases hs
  rename_i x hx
  cases hs
  obtain ⟨hok, hlen, hsc, hle, hdeep⟩ := hpre
  obtain ⟨g, m, cap, s, hLh, rfl⟩ := ha
  have hLh' := hLh
  rw [LOf_eq hob] at hLh
  simp only [Option.some.injEq, Prod.mk.injEq] at hLh
  obtain ⟨hvh, rfl⟩ := hLh
  obtain ⟨hcs, hone⟩ := dcells_rep (LOf_oneCell hI) hd hok
  have hclen := repL_length hcs
  have hobr := hI.obs h ob hob
  obtain ⟨vs, ho, hg, hc⟩ := hobr
  rw [hvh] at ho
  have hm : m = ob.xs.length := by
    rcases ho.2 with ⟨h', _⟩ | ⟨g', cap', cur, h', _⟩
    · simp at h'
    · simp at h'; exact h'.2.1
  subst hm
  have hil : i < ob.xs.length := (List.getElem?_eq_some_iff.1 hx).1
  have hxl : x.length = ob.sz := hg x (List.mem_of_getElem? hx)
  have hmul : i * ob.sz + ob.sz ≤ ob.xs.length * ob.sz := by
    have := Nat.mul_le_mul_right ob.sz hil
    rw [Nat.succ_mul] at this
    exact this
  have hvl : vs.length = ob.xs.length * ob.sz := ho.1
  have hsz := TI.run_size (hT _ _ hl) w
  obtain ⟨w', hrun, ho', hgr, hz⟩ := run_storeCells_own (P := P) v.cells.toList 0 (i * ob.sz + off) w vs ho (by rw [hclen]; omega) hone
  have hpc := fun j => putCells_get (agg := ti.aggB) (x := x) (cs := dcells d) (off := off) (fun e => by rw [hlen]; exact hsc e) (by omega) j
  have hnew : ObRep (LOf hv hp) w' (FOf G hv hp w) { ob with xs := ob.xs.set i (putCells ti.aggB x off (dcells d)) } (hv h) := by
    refine ⟨setMany vs (i * ob.sz + off) v.cells.toList, by simpa [hvh] using ho', fun y hy => ?_, fun i' j y e hi' hj => ?_⟩
    · rcases List.mem_or_eq_of_mem_set hy with hy | rfl
      · exact hg y hy
      · rw [(hpc 0).1, hxl]
    · have hF : ∀ c, FOf G hv hp w c → FOf G hv hp w c ∧ w'.heap[c]? = w.heap[c]? := fun c hcF => ⟨hcF, hgr.block c hcF.1.1 (fun e => hcF.2 h ob hob (by rw [hvh]; simp [Value.ownBlock, Option.some.inj e]))⟩
      by_cases e1 : i' = i
      · subst e1
        rw [List.getElem?_set_self hil] at hi'
        cases hi'
        rw [(hpc j).2] at hj
        have hjl : j < ob.sz := by
          by_cases h3 : off ≤ j ∧ j < off + (dcells d).length
          · omega
          · rw [if_neg h3] at hj; rw [← hxl]; exact (List.getElem?_eq_some_iff.1 hj).1
        show ∃ u, (setMany vs (i' * ob.sz + off) v.cells.toList)[i' * ob.sz + j]? = some u ∧ u.oneCell' = true ∧ RepO ob.deep _ w' _ e u
        rw [setMany_get _ _ _ _ (by rw [hclen]; omega)]
        by_cases h3 : off ≤ j ∧ j < off + (dcells d).length
        · rw [if_pos h3] at hj
          obtain ⟨u, hu, hr⟩ := repL_get hcs _ _ hj
          rw [if_pos (by omega), show i' * ob.sz + j - (i' * ob.sz + off) = j - off by omega]
          refine ⟨u, hu, hone u (List.mem_of_getElem? hu), ?_⟩
          rcases hdeep with h4 | h4
          · exact RepO.obMono (by rw [h4]; exact hr) (fun _ _ h => h) hF
          · have : hf e = true := List.all_eq_true.1 h4 e (List.mem_of_getElem? hj)
            cases hdp : ob.deep
            · exact RepO.obMono (L := LOf hv hp) (by simpa [RepO] using repP_of_hf this hr) (fun _ _ h => h) hF
            · exact RepO.obMono (L := LOf hv hp) (by simpa [RepO] using hr) (fun _ _ h => h) hF
        · rw [if_neg h3] at hj
          rw [if_neg (by omega)]
          obtain ⟨u, hu, h1, hr⟩ := hc i' j x e hx hj
          exact ⟨u, hu, h1, RepO.obMono hr (fun _ _ h => h) hF⟩
      · rw [List.getElem?_set_ne (Ne.symm e1)] at hi'
        have hyl : y.length = ob.sz := hg y (List.mem_of_getElem? hi')
        have hjl : j < ob.sz := by rw [← hyl]; exact (List.getElem?_eq_some_iff.1 hj).1
        show ∃ u, (setMany vs (i * ob.sz + off) v.cells.toList)[i' * ob.sz + j]? = some u ∧ u.oneCell' = true ∧ RepO ob.deep _ w' _ e u
        rw [setMany_get _ _ _ _ (by rw [hclen]; omega), if_neg (by
          rcases Nat.lt_or_gt_of_ne e1 with h3 | h3
          · have := Nat.mul_le_mul_right ob.sz h3
            rw [Nat.succ_mul] at this
            omega
          · have := Nat.mul_le_mul_right ob.sz h3
            rw [Nat.succ_mul] at this
            omega)]
        obtain ⟨u, hu, h1, hr⟩ := hc i' j y e hi' hj
        exact ⟨u, hu, h1, RepO.obMono hr (fun _ _ h => h) hF⟩
  obtain ⟨hI', hL', hF'⟩ := hI.write hob (ob' := { ob with xs := ob.xs.set i (putCells ti.aggB x off (dcells d)) }) rfl (b := g) (by rw [hvh]; rfl) hgr hz hnew
  have hcz : v.cells.size = ti.size := by rw [← hlen, ← hclen]; simp
  refine ⟨hv, w', by simp [Instr.storeAt, Instr.sureAddr, storeVar, hsz, hcz, hrun], ⟨hI', (RepP.any _ : RepP w' _ .any _), fun e u hr => ?_, fun _ _ _ _ => rfl⟩⟩
  show Rep _ _ _ e u
  rw [show ({ d := D.any, upd := [(h, { ob with xs := ob.xs.set i (putCells ti.aggB x off (dcells d)) })] } : Res).hpOf hp = hset h { ob with xs := ob.xs.set i (putCells ti.aggB x off (dcells d)) } hp from rfl, hL']
  exact hr.mono (fun _ _ h => h) hF'
end Go.Proofs.YtpdkhlpmiblflaaGreat.Abs

/- Abs, part 5: new objects, slices, fields, lengths. -/
set_option linter.unusedVariables false
set_option linter.unusedSimpArgs false
namespace Go.Proofs.YtpdkhlpmiblflaaGreat.Abs
open Go Go.RowKit
variable {P : Program} {T : TT} {w0 : World} {S : List Nat} {G : Nat → Prop} {hv : Nat → Value} {hp : HP} {w : World}

theorem below_refl_alloc (w : World) (o : Obj) : Below w.heap.size w (w.alloc o) := (Below.refl _ _).alloc (Nat.le_refl _) o

theorem repC_oneD {L : LF} {F : Nat → Prop} {d : D} {v : Value} (h : RepC L w F d v) : Rep L w F d v := by
  cases d <;> first | exact h | exact h.elim

theorem post_new (hI : HInv w0 S G hv hp w) {h0 : Nat} (hfresh : lk h0 hp = none) (ob : Ob) (vs : List Value) (hlen : vs.length = ob.xs.length * ob.sz) (hg : Grid ob.sz ob.xs) (hml : ob.xs.length ≤ maxLen)
    (hc : ∀ i j x d, ob.xs[i]? = some x → x[j]? = some d → ∃ u, vs[i * ob.sz + j]? = some u ∧ u.oneCell' = true ∧ RepO ob.deep (LOf hv hp) w (FOf G hv hp w) d u)
    (d : D) (v : Value) (hd : (d = .own h0 ∧ v = .slice (some ⟨w.heap.size, 0, none⟩) ob.xs.length ob.xs.length) ∨ (d = .ptr h0 0 0 ∧ v = .pointer (some ⟨w.heap.size, 0, none⟩))) :
    ∃ hv', Post w0 S G hv hp w { d, new := [(h0, ob)] } v hv' (w.alloc (.cells vs.toArray ob.ty)) := by
  have hb := below_refl_alloc w (.cells vs.toArray ob.ty)
  have hown : oRow (w.alloc (.cells vs.toArray ob.ty)) 0 ob.ty ob.sz (.slice (some ⟨w.heap.size, 0, none⟩) ob.xs.length ob.xs.length) ob.xs.length vs :=
    oRow_lit w vs.toArray ob.xs.length (Nat.zero_le _) hml (by simpa using hlen)
  have hv0 : ∀ b, (Value.slice (some ⟨w.heap.size, 0, none⟩) ob.xs.length ob.xs.length).ownBlock = some b → w.heap.size ≤ b := fun b hb => by simp [Value.ownBlock] at hb; omega
  have hL : ∀ h x, LOf hv hp h = some x → LOf (fun h => if h = h0 then Value.slice (some ⟨w.heap.size, 0, none⟩) ob.xs.length ob.xs.length else hv h) ((h0, ob) :: hp) h = some x := fun h x hx => by
    simp only [LOf, Option.map_eq_some_iff] at hx ⊢
    obtain ⟨ob', hl, rfl⟩ := hx
    have hne : h ≠ h0 := fun e => by rw [e, hfresh] at hl; cases hl
    exact ⟨ob', by rw [lk_cons, if_neg hne]; exact hl, by simp [hne]⟩
  have hF : ∀ b, FOf G hv hp w b → FOf G (fun h => if h = h0 then Value.slice (some ⟨w.heap.size, 0, none⟩) ob.xs.length ob.xs.length else hv h) ((h0, ob) :: hp) (w.alloc (.cells vs.toArray ob.ty)) b ∧ (w.alloc (.cells vs.toArray ob.ty)).heap[b]? = w.heap[b]? := fun b hb' => by
    refine ⟨⟨⟨Nat.lt_of_lt_of_le hb'.1.1 hb.size, hb'.1.2⟩, fun h ob' hl => ?_⟩, hb.block b hb'.1.1⟩
    by_cases e : h = h0
    · subst e
      simp only [if_true, Value.ownBlock]
      intro e; have := Option.some.inj e; have := hb'.1.1; omega
    · rw [lk_cons, if_neg e] at hl
      simp only [e, if_false]
      exact hb'.2 h ob' hl
  obtain ⟨hI', _, _⟩ := hI.alloc hfresh (ob := ob) hb hv0 ⟨vs, hown, hg, fun i j x d hi hj => by
    obtain ⟨u, hu, h1, hr⟩ := hc i j x d hi hj
    exact ⟨u, hu, h1, RepO.obMono hr hL hF⟩⟩
  refine ⟨_, hI', ?_, fun d u hr => hr.mono hL hF, fun h ob' hl _ => if_neg (fun e => by rw [e, hfresh] at hl; cases hl)⟩
  rcases hd with ⟨rfl, rfl⟩ | ⟨rfl, rfl⟩
  · exact ⟨ob.sz, by simp [Res.hpOf, LOf, lk_cons]⟩
  · exact ⟨w.heap.size, ob.xs.length, ob.xs.length, ob.sz, by simp [Res.hpOf, LOf, lk_cons], by simp⟩

def cst : Value → D
  | .slice none 0 0 => .nil
  | v => .val v

theorem cst_rep {F : Nat → Prop} (v : Value) : RepP w F (cst v) v := by
  unfold cst
  split
  · exact .nil
  · exact .val v

def zeroD (ti : TI) : List D := ti.zero.cells.toList.map cst

/-! ### new boxes -/
def stepAlloc (T : TT) (h0 : Nat) (t : TypeId) : Option (Prop × Res) :=
  match lk t T with
  | none => none
  | some ti => some (ti.zero.cells.toList.all (fun c => c.oneCell') = true, { d := .ptr h0 0 0, new := [(h0, ⟨t, ti.size, true, [zeroD ti]⟩)] })

theorem stepAlloc_ok (hT : TOk P T) (hI : HInv w0 S G hv hp w) {h0 : Nat} (hfresh : lk h0 hp = none) {t : TypeId} {pre : Prop} {r : Res}
    (hs : stepAlloc T h0 t = some (pre, r)) (hpre : pre) : ∃ z hv' w', (Instr.alloc t true (.tuple #[])).run P w = .ok z w' ∧ Post w0 S G hv hp w r z hv' w' := by
  unfold stepAlloc at hs
  split at hs
  · cases hs
  rename_i ti hl
  cases hs
  have hz := TI.run_zero (hT _ _ hl) w
  have hsz : ti.zero.cells.toList.length = ti.size := by have := (hT _ _ hl).2.2; simpa using this
  obtain ⟨hv', hP⟩ := post_new hI hfresh ⟨t, ti.size, true, [zeroD ti]⟩ ti.zero.cells.toList (by simpa using hsz) (fun x hx => by simp at hx; subst hx; simpa [zeroD] using hsz) (by simp [maxLen])
    (fun i j x d hi hj => by
      match i, hi with
      | 0, hi =>
        simp at hi; subst hi
        simp only [zeroD, List.getElem?_map, Option.map_eq_some_iff] at hj
        obtain ⟨u, hu, rfl⟩ := hj
        exact ⟨u, by simpa using hu, List.all_eq_true.1 hpre u (List.mem_of_getElem? hu), by simpa [RepO] using (cst_rep u).toC⟩
      | i + 1, hi => simp at hi) (.ptr h0 0 0) _ (.inr ⟨rfl, rfl⟩)
  refine ⟨_, hv', _, ?_, hP⟩
  simp [Instr.alloc, hz, newVar, newRow, newObj]
  rfl

def stepBox (h0 : Nat) (t : TypeId) (d : D) : Option (Prop × Res) :=
  some (cellsOk d = true, { d := .ptr h0 0 0, new := [(h0, ⟨t, (dcells d).length, true, [dcells d]⟩)] })

theorem stepBox_ok (hI : HInv w0 S G hv hp w) {h0 : Nat} (hfresh : lk h0 hp = none) {t : TypeId} {d : D} {v : Value} {pre : Prop} {r : Res} (hd : Rep (LOf hv hp) w (FOf G hv hp w) d v)
    (hs : stepBox h0 t d = some (pre, r)) (hpre : pre) : ∃ z hv' w', (Instr.box t v).run P w = .ok z w' ∧ Post w0 S G hv hp w r z hv' w' := by
  cases hs
  obtain ⟨hcs, hone⟩ := dcells_rep (LOf_oneCell hI) hd hpre
  have hlen := repL_length hcs
  obtain ⟨hv', hP⟩ := post_new hI hfresh ⟨t, (dcells d).length, true, [dcells d]⟩ v.cells.toList (by simpa using hlen) (fun x hx => by simp at hx; subst hx; rfl) (by simp [maxLen])
    (fun i j x e hi hj => by
      match i, hi with
      | 0, hi =>
        simp at hi; subst hi
        obtain ⟨u, hu, hr⟩ := repL_get hcs j e hj
        exact ⟨u, by simpa using hu, hone u (List.mem_of_getElem? hu), by simpa [RepO] using hr⟩
      | i + 1, hi => simp at hi) (.ptr h0 0 0) _ (.inr ⟨rfl, rfl⟩)
  refine ⟨_, hv', _, ?_, hP⟩
  simp [Instr.box, newVar, newRow, newObj]
  rfl

/-! ### slices of strings and rows -/
def bnd (x : Option D) (dflt : Int) : Option Int :=
  match x with
  | none => some dflt
  | some (.val (.int _ i)) => some i
  | some _ => none

theorem bnd_some {L : LF} {F : Nat → Prop} {x : Option D} {o : Option Value} {n i : Int} (hr : match x, o with | none, none => True | some d, some v => Rep L w F d v | _, _ => False) (h : bnd x n = some i) :
    (x = none ∧ o = none ∧ i = n) ∨ ∃ k, o = some (.int k i) := by
  unfold bnd at h
  split at h
  · cases o with
    | none => cases h; exact .inl ⟨rfl, rfl, rfl⟩
    | some v => exact hr.elim
  · rename_i k i'
    cases o with
    | none => exact hr.elim
    | some v =>
      obtain rfl := rep_val hr
      cases h
      exact .inr ⟨_, rfl⟩
  · cases h

theorem run_bounds {L : LF} {F : Nat → Prop} {isSlice : Bool} {len cap : Nat} {lo hi : Option D} {l h : Int} {vlo vhi : Option Value}
    (hlo : match lo, vlo with | none, none => True | some d, some v => Rep L w F d v | _, _ => False) (hhi : match hi, vhi with | none, none => True | some d, some v => Rep L w F d v | _, _ => False)
    (el : bnd lo 0 = some l) (eh : bnd hi len = some h) (h0 : 0 ≤ l) (h1 : l ≤ h) (h2 : h ≤ (cap : Int)) (h3 : len ≤ cap) :
    (Instr.sliceBounds isSlice len cap vlo vhi none).run P w = .ok (l.toNat, h.toNat, cap) w := by
  have hh0 : 0 ≤ h := Int.le_trans h0 h1
  rcases bnd_some hhi eh with ⟨_, rfl, rfl⟩ | ⟨k, rfl⟩ <;> rcases bnd_some hlo el with ⟨_, rfl, rfl⟩ | ⟨k', rfl⟩
  · simp [Instr.sliceBounds]
  · simp [Instr.sliceBounds, Instr.sliceBound, asIntOf, h0, h1]
  · simp [Instr.sliceBounds, Instr.sliceBound, asIntOf, hh0, h2]
  · have : l ≤ (h.toNat : Int) := by omega
    simp [Instr.sliceBounds, Instr.sliceBound, asIntOf, h0, hh0, h2, this]
    intro hlt
    omega

def stepSlice (T : TT) (t : TypeId) (hp : HP) (x : D) (lo hi : Option D) : Option (Prop × Res) :=
  match x with
  | .val (.string s) =>
    match (lk t T).map (fun ti : TI => ti.sh), bnd lo 0, bnd hi s.size with
    | some .str, some l, some h => qp (0 ≤ l ∧ l ≤ h ∧ h ≤ s.size) (.val (.string (s.extract l.toNat h.toNat)))
    | _, _, _ => none
  | .sl sz xs =>
    match (lk t T).map (fun ti : TI => ti.sh), bnd lo 0, bnd hi xs.length with
    | some (.slice e), some l, some h =>
      match szOf T e with
      | some es => qp (sz = es ∧ 0 ≤ l ∧ l ≤ h ∧ h ≤ xs.length) (.sl sz ((xs.drop l.toNat).take (h.toNat - l.toNat)))
      | none => none
    | _, _, _ => none
  | .own k =>
    match lk k hp with
    | none => none
    | some ob =>
      match (lk t T).map (fun ti : TI => ti.sh), bnd lo 0, bnd hi ob.xs.length with
      | some (.slice e), some l, some h =>
        match szOf T e with
        | some es => qp (ob.sz = es ∧ 0 ≤ l ∧ l ≤ h ∧ h ≤ ob.xs.length) (.vw k l.toNat (h.toNat - l.toNat))
        | none => none
      | _, _, _ => none
  | .vw k b n =>
    match lk k hp with
    | none => none
    | some ob =>
      match (lk t T).map (fun ti : TI => ti.sh), bnd lo 0, bnd hi n with
      | some (.slice e), some l, some h =>
        match szOf T e with
        | some es => qp (ob.sz = es ∧ 0 ≤ l ∧ l ≤ h ∧ (h ≤ n ∨ b + h ≤ ob.xs.length)) (.vw k (b + l.toNat) (h.toNat - l.toNat))
        | none => none
      | _, _, _ => none
  | .ptr k i off =>
    match lk k hp with
    | none => none
    | some ob =>
      match (lk t T).map (fun ti : TI => ti.sh) with
      | some (.arr n e) =>
        match szOf T e, bnd lo 0, bnd hi n with
        | some es, some l, some h => qp (0 ≤ l ∧ l ≤ h ∧ h ≤ n ∧ l < n ∧ n ≤ 9223372036854775807 ∧ i < ob.xs.length ∧ off + n * es ≤ ob.sz) (.cvw k i (off + l.toNat * es) es (h.toNat - l.toNat))
        | _, _, _ => none
      | _ => none
  | _ => none

theorem stepSlice_ok (hT : TOk P T) (hI : HInv w0 S G hv hp w) {t : TypeId} {x : D} {lo hi : Option D} {u : Value} {vlo vhi : Option Value} {pre : Prop} {r : Res} (hx : Rep (LOf hv hp) w (FOf G hv hp w) x u)
    (hlo : match lo, vlo with | none, none => True | some d, some v => Rep (LOf hv hp) w (FOf G hv hp w) d v | _, _ => False) (hhi : match hi, vhi with | none, none => True | some d, some v => Rep (LOf hv hp) w (FOf G hv hp w) d v | _, _ => False)
    (hs : stepSlice T t hp x lo hi = some (pre, r)) (hpre : pre) : ∃ z, (Instr.sliceAt t u vlo vhi none).run P w = .ok z w ∧ Post w0 S G hv hp w r z hv w := by
  unfold stepSlice at hs
  split at hs
  · -- a string
    rename_i s
    obtain rfl := rep_val hx
    split at hs
    case h_2 => cases hs
    rename_i l h hsh el eh
    simp only [Option.map_eq_some_iff] at hsh
    obtain ⟨ti, hl, hsh⟩ := hsh
    have hu := TI.under_str (hT _ _ hl) hsh
    cases hs
    obtain ⟨h0, h1, h2⟩ := hpre
    have hb := run_bounds (P := P) (isSlice := false) (len := s.size) (cap := s.size) hlo hhi el eh h0 h1 h2 (Nat.le_refl _)
    exact ⟨_, by simp [Instr.sliceAt, Instr.slice, underlying, hu, hb], post_same hI (rep_mk _)⟩
  · -- a read-only row
    rename_i sz xs
    split at hs
    case h_2 => cases hs
    rename_i e l h hsh el eh
    simp only [Option.map_eq_some_iff] at hsh
    obtain ⟨ti, hl, hsh⟩ := hsh
    have hu := TI.under_slice (hT _ _ hl) hsh
    split at hs
    case h_2 => cases hs
    rename_i es hsz
    have hrun := szOf_run hT hsz w
    cases hs
    obtain ⟨rfl, h0, h1, h2⟩ := hpre
    have hx : RepP w (FOf G hv hp w) (.sl sz xs) u := hx
    cases hx with
    | sl _ _ A c V hg hA hm hF hc hr =>
      have hb := run_bounds (P := P) (isSlice := true) (len := xs.length) (cap := c) hlo hhi el eh h0 h1 (by omega) hm.1
      have hlen : ((xs.drop l.toNat).take (h.toNat - l.toNat)).length = h.toNat - l.toNat := by simp; omega
      have hget : ∀ (i : Nat) x, ((xs.drop l.toNat).take (h.toNat - l.toNat))[i]? = some x → xs[l.toNat + i]? = some x ∧ i < h.toNat - l.toNat := fun i x hi => by
        have hil : i < h.toNat - l.toNat := by rw [← hlen]; exact (List.getElem?_eq_some_iff.1 hi).1
        rw [List.getElem?_take, if_pos hil, List.getElem?_drop] at hi
        exact ⟨hi, hil⟩
      refine ⟨_, by simp [Instr.sliceAt, Instr.slice, underlying, hu, hb, hrun]; rfl, post_same hI ?_⟩
      have hgoal : ∀ A', (h.toNat - l.toNat ≠ 0 → ∃ ad, A = some ad ∧ A' = some ⟨ad.block, ad.off + l.toNat * sz, none⟩) → (A' = none → h.toNat - l.toNat = 0 ∧ c = l.toNat) → RepP w (FOf G hv hp w) (.sl sz ((xs.drop l.toNat).take (h.toNat - l.toNat))) (.slice A' (h.toNat - l.toNat) (c - l.toNat)) := fun A' hA' hA0 => by
        rw [show Value.slice A' (h.toNat - l.toNat) (c - l.toNat) = Value.slice A' ((xs.drop l.toNat).take (h.toNat - l.toNat)).length (c - l.toNat) by rw [hlen]]
        refine .sl sz _ A' _ (fun i j => V (l.toNat + i) j) (fun y hy => hg y (List.mem_of_mem_drop (List.mem_of_mem_take hy))) (fun e => ⟨List.eq_nil_of_length_eq_zero (by rw [hlen]; exact (hA0 e).1), by rw [(hA0 e).2]; omega⟩) ⟨by rw [hlen]; omega, by omega⟩ (fun ad hadd hne => ?_) (fun ad i j y d hadd hi hj => ?_) (fun i j y d hi hj => ?_)
        · have hn0 : h.toNat - l.toNat ≠ 0 := fun e => hne (List.eq_nil_of_length_eq_zero (by rw [hlen]; exact e))
          obtain ⟨ad0, h3, h4⟩ := hA' hn0
          rw [h4] at hadd
          cases hadd
          exact ⟨(hF ad0 h3 (by intro e; rw [e] at hne; simp at hne)).1, rfl⟩
        · obtain ⟨h5, h6⟩ := hget i y hi
          obtain ⟨ad0, h3, h4⟩ := hA' (by omega)
          rw [h4] at hadd
          cases hadd
          have := hc ad0 _ j y d h3 h5 hj
          refine ⟨?_, this.2⟩
          rw [← this.1]
          simp only [Nat.add_mul]
          congr 2
          omega
        · obtain ⟨h5, h6⟩ := hget i y hi
          exact hr _ j y d h5 hj
      by_cases hcl : c = l.toNat
      · rw [if_pos hcl]
        refine hgoal A (fun hne => ?_) (fun e => ⟨?_, hcl⟩)
        · omega
        · omega
      · rw [if_neg hcl]
        cases A with
        | none =>
          have := hA rfl
          omega
        | some ad =>
          refine hgoal _ (fun hne => ⟨ad, rfl, ?_⟩) (fun e => by simp at e)
          have hne' : xs ≠ [] := by rintro rfl; simp at h2; omega
          obtain ⟨b, o, sp⟩ := ad
          obtain rfl : sp = none := (hF _ rfl hne').2
          simp [addr_add]
  · -- a whole local row
    rename_i k
    split at hs
    · cases hs
    rename_i ob hob
    split at hs
    case h_2 => cases hs
    rename_i e l h hsh el eh
    simp only [Option.map_eq_some_iff] at hsh
    obtain ⟨ti, hl, hsh⟩ := hsh
    have hu := TI.under_slice (hT _ _ hl) hsh
    split at hs
    case h_2 => cases hs
    rename_i es hsz
    have hrun := szOf_run hT hsz w
    cases hs
    obtain ⟨rfl, h0, h1, h2⟩ := hpre
    obtain ⟨s, hLh⟩ := hx
    rw [LOf_eq hob] at hLh
    simp only [Option.some.injEq, Prod.mk.injEq] at hLh
    obtain ⟨rfl, rfl⟩ := hLh
    obtain ⟨vs, ho, hg, hc⟩ := hI.obs k ob hob
    rcases ho.2 with ⟨hvn, hn0⟩ | ⟨g, cap, cur, hvs, _, _, hnc, hcm, _⟩
    · rw [hn0] at h2 eh
      have hb := run_bounds (P := P) (isSlice := true) (len := 0) (cap := 0) hlo hhi el (by rw [hn0] at *; exact eh) h0 h1 (by omega) (Nat.le_refl _)
      rw [hvn]
      refine ⟨_, by simp [Instr.sliceAt, Instr.slice, underlying, hu, hb, hrun]; rfl, post_same hI ?_⟩
      exact ⟨none, 0, 0, 0, ob.sz, none, rfl, by rw [LOf_eq hob, hvn], by omega, ⟨by omega, by simp [maxLen], by omega⟩, fun _ => rfl, fun h => by omega⟩
    · have hb := run_bounds (P := P) (isSlice := true) (len := ob.xs.length) (cap := cap) hlo hhi el eh h0 h1 (by omega) hnc
      rw [hvs]
      refine ⟨_, by simp [Instr.sliceAt, Instr.slice, underlying, hu, hb, hrun]; rfl, post_same hI ?_⟩
      refine ⟨_, _, ob.xs.length, cap, ob.sz, _, rfl, by rw [LOf_eq hob, hvs], by omega, ⟨by omega, by omega, by omega⟩, fun e => by (split at e <;> simp at e), fun hpos => ⟨g, rfl, ?_⟩⟩
      rw [if_neg (by omega)]
      simp [addr_add]
  · -- a part of a local row
    rename_i k b n
    split at hs
    · cases hs
    rename_i ob hob
    split at hs
    case h_2 => cases hs
    rename_i e l h hsh el eh
    simp only [Option.map_eq_some_iff] at hsh
    obtain ⟨ti, hl, hsh⟩ := hsh
    have hu := TI.under_slice (hT _ _ hl) hsh
    split at hs
    case h_2 => cases hs
    rename_i es hsz
    have hrun := szOf_run hT hsz w
    cases hs
    obtain ⟨rfl, h0, h1, h2⟩ := hpre
    obtain ⟨A, c, m, cap, s, a, rfl, hLh, hlo', hnc, hAc, hA⟩ := hx
    have hs' := hLh
    rw [LOf_eq hob] at hs'
    simp only [Option.some.injEq, Prod.mk.injEq] at hs'
    obtain ⟨hvk, rfl⟩ := hs'
    have hmc : m = ob.xs.length ∧ m ≤ cap := by
      obtain ⟨vs, ho, _, _⟩ := hI.obs k ob hob
      rw [hvk] at ho
      rcases ho.2 with ⟨h5, h6⟩ | ⟨g, cap', cur, h5, _, _, h6, _⟩
      · simp only [Value.slice.injEq] at h5; omega
      · simp only [Value.slice.injEq] at h5; omega
    have hbh : (b : Int) + h ≤ m := by rcases h2 with h2 | h2 <;> omega
    have hb := run_bounds (P := P) (isSlice := true) (len := n) (cap := c) hlo hhi el eh h0 h1 (by omega) hnc.1
    refine ⟨_, by simp [Instr.sliceAt, Instr.slice, underlying, hu, hb, hrun]; rfl, post_same hI ?_⟩
    refine ⟨_, _, m, cap, ob.sz, a, rfl, hLh, by omega, ⟨by omega, by omega, by omega⟩, fun e => ?_, fun hpos => ?_⟩
    · have : A = none := by split at e; exact e; simpa using e
      rw [hAc this]; omega
    obtain ⟨g, ha, rfl⟩ := hA (by omega)
    refine ⟨g, ha, ?_⟩
    rw [if_neg (by omega)]
    simp [addr_add, Nat.add_mul]
  · -- an array's address
    rename_i k i off
    split at hs
    · cases hs
    rename_i ob hob
    split at hs
    case h_2 => cases hs
    rename_i n e hsh
    simp only [Option.map_eq_some_iff] at hsh
    obtain ⟨ti, hl, hsh⟩ := hsh
    have hu := TI.under_arr (hT _ _ hl) hsh
    split at hs
    case h_2 => cases hs
    rename_i es l h hsz el eh
    have hrun := szOf_run hT hsz w
    cases hs
    obtain ⟨h0, h1, h2, h3, h63, hi, hfit⟩ := hpre
    obtain ⟨g, m, cap, s, hLh, rfl⟩ := hx
    have hs' := hLh
    rw [LOf_eq hob] at hs'
    simp only [Option.some.injEq, Prod.mk.injEq] at hs'
    obtain ⟨hvk, rfl⟩ := hs'
    have hm : m = ob.xs.length := by
      obtain ⟨vs, ho, _⟩ := hI.obs k ob hob
      rw [hvk] at ho
      rcases ho.2 with ⟨h', _⟩ | ⟨g', cap', cur, h', _⟩
      · simp at h'
      · simp at h'; exact h'.2.1
    have hb := run_bounds (P := P) (isSlice := false) (len := n) (cap := n) hlo hhi el eh h0 h1 h2 (Nat.le_refl _)
    refine ⟨_, by simp [Instr.sliceAt, Instr.sureAddr, underlying, hu, hb, hrun]; rfl, post_same hI ?_⟩
    refine ⟨g, m, cap, ob.sz, n - l.toNat, hLh, by omega, ?_, ⟨by omega, by simp only [maxLen]; omega⟩, ?_⟩
    · have : l.toNat * es + (h.toNat - l.toNat) * es ≤ n * es := by
        rw [← Nat.add_mul]
        exact Nat.mul_le_mul_right _ (by omega)
      omega
    · rw [if_neg (by omega)]
      simp [addr_add, Nat.add_assoc]
  · cases hs
end Go.Proofs.YtpdkhlpmiblflaaGreat.Abs

/- Abs, part 6: rows as sources, append, make, literals, parts of values. -/
set_option linter.unusedVariables false
set_option linter.unusedSimpArgs false
namespace Go.Proofs.YtpdkhlpmiblflaaGreat.Abs
open Go Go.RowKit
variable {P : Program} {T : TT} {w0 : World} {S : List Nat} {G : Nat → Prop} {hv : Nat → Value} {hp : HP} {w : World}

def rowOf (hp : HP) (es : Nat) (x : D) : Option (Prop × List (List D) × Bool) :=
  match x with
  | .nil => some (True, [], false)
  | .sl sz xs => some (sz = es, xs, false)
  | .own k => match lk k hp with
    | some ob => some (ob.sz = es, ob.xs, ob.deep)
    | none => none
  | .vw k lo n => match lk k hp with
    | some ob => some (ob.sz = es, (ob.xs.drop lo).take n, ob.deep)
    | none => none
  | .cvw k i off es' n => match lk k hp with
    | some ob => match ob.xs[i]? with
      | some x => some (es' = 1 ∧ es = 1, ((x.drop off).take n).map fun d => [d], ob.deep)
      | none => none
    | none => none
  | _ => none

def Row (L : LF) (w : World) (F : Nat → Prop) (es : Nat) (rows : List (List D)) (deep : Bool) (v : Value) : Prop :=
  Grid es rows ∧ ((v = .slice none 0 0 ∧ rows = []) ∨ ∃ ad c, v = .slice (some ad) rows.length c ∧ rows.length ≤ c ∧
    ∀ i j x d, rows[i]? = some x → x[j]? = some d → ∃ u, w.cell? (ad.add (i * es + j)) = some u ∧ u.oneCell' = true ∧ RepO deep L w F d u)

theorem own_row {L : LF} {F : Nat → Prop} {ob : Ob} {v : Value} (h : ObRep L w F ob v) : Row L w F ob.sz ob.xs ob.deep v := by
  obtain ⟨vs, ho, hg, hc⟩ := h
  refine ⟨hg, ?_⟩
  rcases ho.2 with ⟨rfl, h0⟩ | ⟨g, cap, cur, rfl, _, _, hnc, _⟩
  · exact .inl ⟨rfl, List.eq_nil_of_length_eq_zero h0⟩
  · refine .inr ⟨⟨g, 0, none⟩, cap, rfl, hnc, fun i j x d hi hj => ?_⟩
    obtain ⟨u, hu, h1, hr⟩ := hc i j x d hi hj
    refine ⟨u, ?_, h1, hr⟩
    have hxl : x.length = ob.sz := hg x (List.mem_of_getElem? hi)
    have hjl : j < ob.sz := by rw [← hxl]; exact (List.getElem?_eq_some_iff.1 hj).1
    have hil : i < ob.xs.length := (List.getElem?_eq_some_iff.1 hi).1
    have := Nat.mul_le_mul_right ob.sz hil
    rw [Nat.succ_mul] at this
    rw [addr_add, Nat.zero_add, ho.cellAt _ (by omega)]
    exact hu

theorem rowOf_ok (hI : HInv w0 S G hv hp w) {es : Nat} {x : D} {v : Value} {pre : Prop} {rows : List (List D)} {deep : Bool} (hx : Rep (LOf hv hp) w (FOf G hv hp w) x v) (h : rowOf hp es x = some (pre, rows, deep)) (hpre : pre) :
    Row (LOf hv hp) w (FOf G hv hp w) es rows deep v := by
  unfold rowOf at h
  split at h
  · cases h
    have hx : RepP w (FOf G hv hp w) .nil v := hx
    cases hx
    exact ⟨fun x hx => by simp at hx, .inl ⟨rfl, rfl⟩⟩
  · cases h
    subst hpre
    have hx : RepP w (FOf G hv hp w) (.sl _ _) v := hx
    cases hx with
    | sl _ _ A c V hg hA hm hF hc hr =>
      refine ⟨hg, ?_⟩
      cases A with
      | none => obtain ⟨h1, h2⟩ := hA rfl; subst h1; subst h2; exact .inl ⟨rfl, rfl⟩
      | some ad =>
        refine .inr ⟨ad, c, rfl, hm.1, fun i j x d hi hj => ⟨V i j, ?_, (hc ad i j x d rfl hi hj).2, by simpa [RepO] using hr i j x d hi hj⟩⟩
        have hne : rows ≠ [] := by rintro rfl; simp at hi
        obtain ⟨b, o, sp⟩ := ad
        obtain rfl : sp = none := (hF _ rfl hne).2
        rw [addr_add]
        exact (hc _ i j x d rfl hi hj).1
  · rename_i k
    split at h
    · rename_i ob hob
      cases h
      subst hpre
      obtain ⟨s, hL⟩ := hx
      rw [LOf_eq hob] at hL
      simp only [Option.some.injEq, Prod.mk.injEq] at hL
      obtain ⟨rfl, _⟩ := hL
      exact own_row (hI.obs k ob hob)
    · cases h
  · rename_i k lo n
    split at h
    · rename_i ob hob
      cases h
      subst hpre
      obtain ⟨A, c, m, cap, s, a, rfl, hL, hlo, hnc, hAc, hA⟩ := hx
      rw [LOf_eq hob] at hL
      simp only [Option.some.injEq, Prod.mk.injEq] at hL
      obtain ⟨hvk, rfl⟩ := hL
      have hrow := own_row (hI.obs k ob hob)
      rw [hvk] at hrow
      have hml : m = ob.xs.length := by
        rcases hrow.2 with ⟨h1, h2⟩ | ⟨ad, c', h1, _⟩
        · simp at h1; rw [h2]; exact h1.2.1
        · simp at h1; exact h1.2.1
      subst hml
      have hlen : ((ob.xs.drop lo).take n).length = n := by simp; omega
      refine ⟨fun y hy => hrow.1 y (List.mem_of_mem_drop (List.mem_of_mem_take hy)), ?_⟩
      cases A with
      | none =>
        by_cases hn : 0 < n
        · obtain ⟨g, _, h2⟩ := hA (by omega); cases h2
        · have : n = 0 := by omega
          subst this
          rw [hAc rfl]
          exact .inl ⟨rfl, by simp⟩
      | some ad =>
        refine .inr ⟨ad, c, by rw [hlen], by rw [hlen]; exact hnc.1, fun i j x d hi hj => ?_⟩
        have hil : i < n := by rw [← hlen]; exact (List.getElem?_eq_some_iff.1 hi).1
        obtain ⟨g, rfl, h2⟩ := hA (by omega)
        cases h2
        rw [List.getElem?_take, if_pos hil, List.getElem?_drop] at hi
        rcases hrow.2 with ⟨h1, _⟩ | ⟨ad', c', h1, _, hc⟩
        · simp at h1
        · simp at h1
          obtain ⟨rfl, rfl⟩ := h1
          obtain ⟨u, hu, h3, hr⟩ := hc (lo + i) j x d hi hj
          refine ⟨u, ?_, h3, hr⟩
          rw [addr_add] at hu ⊢
          rw [← hu, Nat.add_mul]
          congr 2
          omega
    · cases h
  · rename_i k i off es' n
    split at h
    · rename_i ob hob
      split at h
      · rename_i y hy
        cases h
        obtain ⟨rfl, rfl⟩ := hpre
        obtain ⟨g, m, cap, s, c, hL, hi, hoff, hnc, rfl⟩ := hx
        rw [LOf_eq hob] at hL
        simp only [Option.some.injEq, Prod.mk.injEq] at hL
        obtain ⟨hvk, rfl⟩ := hL
        have hobr := hI.obs k ob hob
        have hyl : y.length = ob.sz := by obtain ⟨vs, _, hg, _⟩ := hobr; exact hg y (List.mem_of_getElem? hy)
        rw [hvk] at hobr
        have hcell := hobr.cells hy
        have hlen : (((y.drop off).take n).map fun d => [d]).length = n := by simp; omega
        refine ⟨fun z hz => by simp only [List.mem_map] at hz; obtain ⟨d, _, rfl⟩ := hz; rfl, .inr ⟨_, c, by rw [hlen], by rw [hlen]; exact hnc.1, fun i' j x d hi' hj => ?_⟩⟩
        have hil : i' < n := by rw [← hlen]; exact (List.getElem?_eq_some_iff.1 hi').1
        rw [List.getElem?_map, List.getElem?_take, if_pos hil, List.getElem?_drop, Option.map_eq_some_iff] at hi'
        obtain ⟨d', hd', rfl⟩ := hi'
        match j, hj with
        | 0, hj =>
          simp at hj; subst hj
          obtain ⟨vs, ho, hg, hc⟩ := hI.obs k ob hob
          obtain ⟨u, hu, h1, hr⟩ := hc i (off + i') y d' hy hd'
          refine ⟨u, ?_, h1, hr⟩
          rw [hvk] at ho
          have hil' : i < ob.xs.length := (List.getElem?_eq_some_iff.1 hy).1
          have := Nat.mul_le_mul_right ob.sz hil'
          rw [Nat.succ_mul] at this
          have hm : m = ob.xs.length := by
            rcases ho.2 with ⟨h', _⟩ | ⟨g', cap', cur, h', _⟩
            · simp at h'
            · simp at h'; exact h'.2.1
          subst hm
          rw [addr_add, ho.cellAt _ (by omega)]
          rw [← hu]
          congr 1
          omega
        | j + 1, hj => simp at hj
      · cases h
    · cases h
  · cases h
end Go.Proofs.YtpdkhlpmiblflaaGreat.Abs

/- Abs, part 7: append, make, literals, lengths, parts of values. -/
set_option linter.unusedVariables false
set_option linter.unusedSimpArgs false
namespace Go.Proofs.YtpdkhlpmiblflaaGreat.Abs
open Go Go.RowKit
variable {P : Program} {T : TT} {w0 : World} {S : List Nat} {G : Nat → Prop} {hv : Nat → Value} {hp : HP} {w : World}

theorem lk_killHP {h : Nat} : ∀ {hp : HP} {k : Nat}, lk k (killHP h hp) = (lk k hp).map (Ob.kill h)
  | [], k => rfl
  | (k0, o) :: l, k => by
    simp only [killHP, List.map_cons, lk_cons]
    split
    · rfl
    · exact lk_killHP (hp := l)

theorem kill_sz (h : Nat) (o : Ob) : (o.kill h).sz = o.sz := by unfold Ob.kill; split <;> rfl
theorem kill_ty (h : Nat) (o : Ob) : (o.kill h).ty = o.ty := by unfold Ob.kill; split <;> rfl
theorem kill_deep (h : Nat) (o : Ob) : (o.kill h).deep = o.deep := by unfold Ob.kill; split <;> rfl
theorem kill_len (h : Nat) (o : Ob) : (o.kill h).xs.length = o.xs.length := by unfold Ob.kill; split <;> simp

def Ob.app (o : Ob) (rows : List (List D)) : Ob := ⟨o.ty, o.sz, o.deep, o.xs ++ rows⟩

theorem HInv.regrow (hI : HInv w0 S G hv hp w) {h : Nat} {ob ob' : Ob} (hl : lk h hp = some ob) (hs : ob'.sz = ob.sz) {v' : Value} {w' : World} (hg : w.grownBy w' (hv h).ownBlock)
    (hb' : v'.ownBlock = (hv h).ownBlock ∨ v'.ownBlock = some w.heap.size)
    (hob : ObRep (LOf (fun k => if k = h then v' else hv k) (hset h ob' (killHP h hp))) w' (FOf G (fun k => if k = h then v' else hv k) (hset h ob' (killHP h hp)) w') ob' v') :
    HInv w0 S G (fun k => if k = h then v' else hv k) (hset h ob' (killHP h hp)) w' ∧
      (∀ k x, k ≠ h → LOf hv hp k = some x → LOf (fun k => if k = h then v' else hv k) (hset h ob' (killHP h hp)) k = some x) ∧
      (∀ b, FOf G hv hp w b → FOf G (fun k => if k = h then v' else hv k) (hset h ob' (killHP h hp)) w' b ∧ w'.heap[b]? = w.heap[b]?) := by
  have hlk : ∀ k, lk k (hset h ob' (killHP h hp)) = if k = h then some ob' else (lk k hp).map (Ob.kill h) := fun k => by
    rw [lk_hset]
    split
    · simp [lk_killHP, hl]
    · exact lk_killHP
  have hL : ∀ k x, k ≠ h → LOf hv hp k = some x → LOf (fun k => if k = h then v' else hv k) (hset h ob' (killHP h hp)) k = some x := fun k x hne hx => by
    simp only [LOf, hlk, if_neg hne] at hx ⊢
    cases hk : lk k hp with
    | none => simp [hk] at hx
    | some o => simp [hk, kill_sz] at hx ⊢; exact hx
  have hF : ∀ b, FOf G hv hp w b → FOf G (fun k => if k = h then v' else hv k) (hset h ob' (killHP h hp)) w' b ∧ w'.heap[b]? = w.heap[b]? := fun b hb => by
    refine ⟨⟨⟨Nat.lt_of_lt_of_le hb.1.1 hg.size, hb.1.2⟩, fun k o hk => ?_⟩, hg.block b hb.1.1 (fun e => hb.2 h ob hl e.symm)⟩
    rw [hlk] at hk
    by_cases e : k = h
    · subst e
      simp only [if_true]
      rcases hb' with h1 | h1
      · rw [h1]; exact hb.2 k ob hl
      · rw [h1]; intro e; have := Option.some.inj e; have := hb.1.1; omega
    · simp only [if_neg e] at hk ⊢
      cases hk2 : lk k hp with
      | none => simp [hk2] at hk
      | some o2 => exact hb.2 k o2 hk2
  refine ⟨⟨fun k o hk => ?_, fun k k' o o' hk hk' hne => ?_, fun k o b hk hkb => ?_, ?_, fun b hbb => hI.gnew b (Nat.le_trans hg.size hbb)⟩, hL, hF⟩
  · rw [hlk] at hk
    by_cases e : k = h
    · subst e
      simp only [if_true] at hk ⊢
      cases hk
      exact hob
    · simp only [if_neg e] at hk ⊢
      cases hk2 : lk k hp with
      | none => simp [hk2] at hk
      | some o2 =>
        simp only [hk2, Option.map_some, Option.some.injEq] at hk
        subst hk
        obtain ⟨vs, ho, hgr, hc⟩ := hI.obs k o2 hk2
        refine ⟨vs, ?_, ?_, ?_⟩
        · rw [kill_ty, kill_sz, kill_len]
          refine ho.kept hg ?_
          exact hI.inj k h o2 ob hk2 hl e
        · rw [kill_sz]
          unfold Ob.kill
          split
          · intro x hx
            simp only [List.mem_map] at hx
            obtain ⟨y, hy, rfl⟩ := hx
            simpa using hgr y hy
          · exact hgr
        · intro i j x d hi hj
          rw [kill_sz]
          cases hd : o2.deep
          · have : (o2.kill h) = o2 := by unfold Ob.kill; rw [hd]; rfl
            rw [this] at hi ⊢
            obtain ⟨u, hu, h1, hr⟩ := hc i j x d hi hj
            refine ⟨u, hu, h1, ?_⟩
            simp only [RepO, hd, Bool.false_eq_true, if_false] at hr ⊢
            exact hr.mono hF
          · have hkx : (o2.kill h).xs = o2.xs.map (·.map (killC h)) := by unfold Ob.kill; rw [hd]; rfl
            rw [hkx, List.getElem?_map, Option.map_eq_some_iff] at hi
            obtain ⟨y, hy, rfl⟩ := hi
            rw [List.getElem?_map, Option.map_eq_some_iff] at hj
            obtain ⟨d0, hd0, rfl⟩ := hj
            obtain ⟨u, hu, h1, hr⟩ := hc i j y d0 hy hd0
            refine ⟨u, hu, h1, ?_⟩
            simp only [RepO, kill_deep, hd, if_true] at hr ⊢
            exact hr.killed hL hF
  · have conv : ∀ k o, lk k (hset h ob' (killHP h hp)) = some o → ∃ o2, lk k hp = some o2 := fun k o hk => by
      rw [hlk] at hk
      by_cases e : k = h
      · exact ⟨ob, e ▸ hl⟩
      · rw [if_neg e] at hk
        cases hk2 : lk k hp with
        | none => simp [hk2] at hk
        | some o2 => exact ⟨o2, rfl⟩
    obtain ⟨o1, h1⟩ := conv k o hk
    obtain ⟨o2, h2⟩ := conv k' o' hk'
    have new_lt : ∀ k o b, lk k hp = some o → (hv k).ownBlock = some b → b < w.heap.size := fun k o b hk hb => by
      obtain ⟨vs, ho, _⟩ := hI.obs k o hk
      exact (ho.lt b hb).2
    by_cases e : k = h
    · subst e
      have e' : k' ≠ k := Ne.symm hne
      simp only [if_true, if_neg e']
      rcases hb' with h3 | h3
      · rw [h3]; exact hI.inj k k' o1 o2 h1 h2 hne
      · rw [h3]
        refine .inr fun e4 => ?_
        have := new_lt k' o2 _ h2 e4.symm
        omega
    · simp only [if_neg e]
      by_cases e' : k' = h
      · subst e'
        simp only [if_true]
        rcases hb' with h3 | h3
        · rw [h3]; exact hI.inj k k' o1 o2 h1 h2 hne
        · rw [h3]
          cases hkb : (hv k).ownBlock with
          | none => exact .inl rfl
          | some b =>
            refine .inr fun e4 => ?_
            have := new_lt k o1 _ h1 hkb
            have := Option.some.inj e4
            omega
      · simp only [if_neg e']
        exact hI.inj k k' o1 o2 h1 h2 hne
  · rw [hlk] at hk
    by_cases e : k = h
    · subst e
      simp only [if_true] at hkb
      rcases hb' with h3 | h3
      · exact hI.base k ob b hl (h3 ▸ hkb)
      · rw [h3] at hkb
        cases hkb
        exact .inl hI.keeps.size
    · simp only [if_neg e] at hk hkb
      cases hk2 : lk k hp with
      | none => simp [hk2] at hk
      | some o2 => exact hI.base k o2 b hk2 hkb
  · refine ⟨hg.os.trans hI.keeps.os, hg.tape.trans hI.keeps.tape, hg.output.trans hI.keeps.output, Nat.le_trans hI.keeps.size hg.size, fun k hk hS => ?_, hI.keeps.tab⟩
    rw [hg.block k (Nat.lt_of_lt_of_le hk hI.keeps.size) ?_]
    · exact hI.keeps.block k hk hS
    · intro e
      rcases hI.base h ob k hl e.symm with h1 | h1
      · omega
      · exact hS h1

theorem row_cells {L : LF} {F : Nat → Prop} {es : Nat} {rows : List (List D)} {deep : Bool} {ad : Addr} (hg : Grid es rows)
    (hc : ∀ i j x d, rows[i]? = some x → x[j]? = some d → ∃ u, w.cell? (ad.add (i * es + j)) = some u ∧ u.oneCell' = true ∧ RepO deep L w F d u) :
    ∃ news : List Value, news.length = rows.length * es ∧ (∀ j u, news[j]? = some u → w.cell? (ad.add j) = some u) ∧ (∀ u ∈ news, u.oneCell' = true) ∧
      ∀ i j x d, rows[i]? = some x → x[j]? = some d → ∃ u, news[i * es + j]? = some u ∧ u.oneCell' = true ∧ RepO deep L w F d u := by
  have split_ : ∀ p, p < rows.length * es → ∃ u, w.cell? (ad.add p) = some u ∧ u.oneCell' = true := fun p hp => by
    have hes : 0 < es := by rcases Nat.eq_zero_or_pos es with h | h; subst h; omega; exact h
    have h1 : p / es < rows.length := (Nat.div_lt_iff_lt_mul hes).2 hp
    have h2 := Nat.mod_lt p hes
    have hx := hg _ (List.getElem_mem h1)
    obtain ⟨u, hu, h3, _⟩ := hc (p / es) (p % es) _ _ (List.getElem?_eq_getElem h1) (List.getElem?_eq_getElem (by rw [hx]; exact h2))
    rw [Nat.div_add_mod' p es] at hu
    exact ⟨u, hu, h3⟩
  refine ⟨(List.range (rows.length * es)).map fun p => (w.cell? (ad.add p)).getD undef, by simp, fun j u hj => ?_, fun u hu => ?_, fun i j x d hi hj => ?_⟩
  · simp only [List.getElem?_map, Option.map_eq_some_iff] at hj
    obtain ⟨j', hj', rfl⟩ := hj
    obtain ⟨hjl, rfl⟩ := List.getElem?_eq_some_iff.1 hj'
    simp only [List.length_range] at hjl
    obtain ⟨u, hu, _⟩ := split_ j hjl
    simp [hu]
  · simp only [List.mem_map, List.mem_range] at hu
    obtain ⟨j, hj, rfl⟩ := hu
    obtain ⟨u, hu, h1⟩ := split_ j hj
    simp [hu, h1]
  · obtain ⟨u, hu, h1, hr⟩ := hc i j x d hi hj
    have hxl : x.length = es := hg x (List.mem_of_getElem? hi)
    have hjl : j < es := by rw [← hxl]; exact (List.getElem?_eq_some_iff.1 hj).1
    have hil : i < rows.length := (List.getElem?_eq_some_iff.1 hi).1
    have := Nat.mul_le_mul_right es hil
    rw [Nat.succ_mul] at this
    refine ⟨u, ?_, h1, hr⟩
    rw [List.getElem?_map, List.getElem?_range (by omega)]
    simp [hu]

theorem append_get {es : Nat} {xs rows : List (List D)} {vs news : List Value} (hv1 : vs.length = xs.length * es) (i j : Nat) (x : List D) (hi : (xs ++ rows)[i]? = some x) :
    (xs[i]? = some x ∧ (i * es + j < xs.length * es → (vs ++ news)[i * es + j]? = vs[i * es + j]?)) ∨ (∃ i', i = xs.length + i' ∧ rows[i']? = some x ∧ (vs ++ news)[i * es + j]? = news[i' * es + j]?) := by
  by_cases h : i < xs.length
  · rw [List.getElem?_append_left h] at hi
    exact .inl ⟨hi, fun hlt => List.getElem?_append_left (by omega)⟩
  · rw [List.getElem?_append_right (by omega)] at hi
    refine .inr ⟨i - xs.length, by omega, hi, ?_⟩
    have : i * es = xs.length * es + (i - xs.length) * es := by rw [← Nat.add_mul]; congr 1; omega
    rw [List.getElem?_append_right (by omega)]
    congr 1
    omega

def stepAppend (T : TT) (h0 : Nat) (t : TypeId) (hp : HP) (x y : D) : Option (Prop × Res) :=
  match (lk t T).map (fun ti : TI => ti.sh) with
  | some (.slice e) =>
    match lk e T with
    | none => none
    | some te =>
      match rowOf hp te.size y with
      | none => none
      | some (pre, rows, deep) =>
        match x with
        | .nil => some (pre ∧ 0 < te.size ∧ rows.length * te.bytes ≤ 140737488355328 ∧ rows.length ≤ 9223372036854775807, { d := .own h0, new := [(h0, ⟨e, te.size, deep, rows⟩)] })
        | .own h =>
          match lk h hp with
          | none => none
          | some ob => some (pre ∧ ob.ty = e ∧ ob.sz = te.size ∧ 0 < te.size ∧ (deep = true → ob.deep = true ∧ y ≠ .own h ∧ False) ∧ (ob.xs.length + rows.length) * te.bytes ≤ 140737488355328 ∧ ob.xs.length + rows.length ≤ 9223372036854775807,
              { d := .own h, upd := [(h, ((ob.kill h).app rows))], dead := some h })
        | _ => none
  | _ => none

theorem stepAppend_ok (hT : TOk P T) (hI : HInv w0 S G hv hp w) {h0 : Nat} (hfresh : lk h0 hp = none) {t ty : TypeId} {x y : D} {u v : Value} {pre : Prop} {r : Res} (hx : Rep (LOf hv hp) w (FOf G hv hp w) x u) (hy : Rep (LOf hv hp) w (FOf G hv hp w) y v)
    (hs : stepAppend T h0 t hp x y = some (pre, r)) (hpre : pre) : ∃ z hv' w', (Builtin.append_ #[t, t] ty #[u, v]).run P w = .ok z w' ∧ Post w0 S G hv hp w r z hv' w' := by
  unfold stepAppend at hs
  split at hs
  case h_2 => cases hs
  rename_i e hsh
  simp only [Option.map_eq_some_iff] at hsh
  obtain ⟨ti, hl, hsh⟩ := hsh
  have hu := TI.under_slice (hT _ _ hl) hsh
  split at hs
  · cases hs
  rename_i te hle
  obtain ⟨i, hi, his, hib, hiz⟩ := TI.info (hT _ _ hle)
  have hzs := (hT _ _ hle).2.2
  split at hs
  · cases hs
  rename_i prow rows deep hrow
  split at hs
  · -- nil
    cases hs
    obtain ⟨hp1, hsz, hby, h63⟩ := hpre
    have hx : RepP w (FOf G hv hp w) .nil u := hx
    cases hx
    have hR := rowOf_ok hI hy hrow hp1
    have hown : oRow w 0 e te.size (.slice none 0 0) 0 [] := oRow_nil _ _ _ _
    rcases hR.2 with ⟨rfl, rfl⟩ | ⟨ad, c, rfl, hnc, hc⟩
    · have hrun := run_append_oNone (P := P) w 0 t ty e i te.size hu hi (.slice none 0 0) 0 [] hown
      obtain ⟨hI', hL', hF'⟩ := hI.alloc hfresh (ob := ⟨e, te.size, deep, []⟩) (v := .slice none 0 0) (w' := w) (Below.refl _ _) (fun b hb => by simp [Value.ownBlock] at hb)
        ⟨[], oRow_nil _ _ _ _, fun x hx => by simp at hx, fun i j x d hi hj => by simp at hi⟩
      exact ⟨_, _, w, hrun, ⟨hI', ⟨te.size, by simp [Res.hpOf, LOf, lk_cons]⟩, fun d u hr => hr.mono hL' hF', fun h ob' hl _ => if_neg (fun e => by rw [e, hfresh] at hl; cases hl)⟩⟩
    · obtain ⟨news, hnl, hncell, hn1, hnr⟩ := row_cells hR.1 hc
      obtain ⟨v', w', hrun, ho', hgr, hnil, hblk⟩ := run_append_oAt (P := P) w 0 t ty e i te.zero te.size te.bytes hu hi hiz his hib hzs hsz (.slice none 0 0) 0 [] hown ad rows.length c news hnl hncell hn1 (by simpa [maxLen] using h63) (by simpa using hby) (Nat.zero_le _)
      have hb : Below w.heap.size w w' := ⟨hgr.os, hgr.tape, hgr.output, hgr.size, fun k hk => hgr.block k hk (by simp [Value.ownBlock])⟩
      rw [Nat.zero_add, List.nil_append] at ho'
      have hL : ∀ h x, LOf hv hp h = some x → LOf (fun h => if h = h0 then v' else hv h) ((h0, ⟨e, te.size, deep, rows⟩) :: hp) h = some x := fun h x hx => by
        simp only [LOf, Option.map_eq_some_iff] at hx ⊢
        obtain ⟨ob', hl, rfl⟩ := hx
        have hne : h ≠ h0 := fun e => by rw [e, hfresh] at hl; cases hl
        exact ⟨ob', by rw [lk_cons, if_neg hne]; exact hl, by simp [hne]⟩
      have hnew : ∀ b, v'.ownBlock = some b → w.heap.size ≤ b := fun b hb => by
        rcases hblk with h1 | h1
        · rw [h1] at hb; simp [Value.ownBlock] at hb
        · rw [h1] at hb; cases hb; exact Nat.le_refl _
      have hF : ∀ b, FOf G hv hp w b → FOf G (fun h => if h = h0 then v' else hv h) ((h0, ⟨e, te.size, deep, rows⟩) :: hp) w' b ∧ w'.heap[b]? = w.heap[b]? := fun b hb' => by
        refine ⟨⟨⟨Nat.lt_of_lt_of_le hb'.1.1 hb.size, hb'.1.2⟩, fun h ob' hl => ?_⟩, hb.block b hb'.1.1⟩
        by_cases e : h = h0
        · subst e
          simp only [if_true]
          intro e; have := hnew _ e; have := hb'.1.1; omega
        · rw [lk_cons, if_neg e] at hl
          simp only [e, if_false]
          exact hb'.2 h ob' hl
      obtain ⟨hI', hL', hF'⟩ := hI.alloc hfresh (ob := ⟨e, te.size, deep, rows⟩) (v := v') hb hnew
        ⟨news, ho', hR.1, fun i j x d hi hj => by
          obtain ⟨u, hu, h1, hr⟩ := hnr i j x d hi hj
          exact ⟨u, hu, h1, RepO.obMono hr hL hF⟩⟩
      exact ⟨_, _, w', hrun, ⟨hI', ⟨te.size, by simp [Res.hpOf, LOf, lk_cons]⟩, fun d u hr => hr.mono hL' hF', fun h ob' hl _ => if_neg (fun e => by rw [e, hfresh] at hl; cases hl)⟩⟩
  · -- a row of our own
    rename_i h
    split at hs
    · cases hs
    rename_i ob hob
    cases hs
    obtain ⟨hp1, rfl, hse, hsz, hdp, hby, h63⟩ := hpre
    obtain ⟨s, hLh⟩ := hx
    rw [LOf_eq hob] at hLh
    simp only [Option.some.injEq, Prod.mk.injEq] at hLh
    obtain ⟨rfl, rfl⟩ := hLh
    have hR := rowOf_ok hI hy hrow hp1
    have hdeep : deep = false := by cases deep; rfl; exact absurd (hdp rfl).2.2 id
    subst hdeep
    obtain ⟨vs, hown, hg, hcv⟩ := hI.obs h ob hob
    have key : ∀ (v' : Value) (w' : World) (news : List Value), news.length = rows.length * te.size → oRow w' 0 ob.ty te.size v' (ob.xs.length + rows.length) (vs ++ news) → w.grownBy w' (hv h).ownBlock → (v'.ownBlock = (hv h).ownBlock ∨ v'.ownBlock = some w.heap.size) →
        (∀ i j x d, rows[i]? = some x → x[j]? = some d → ∃ u, news[i * te.size + j]? = some u ∧ u.oneCell' = true ∧ RepO false (LOf hv hp) w (FOf G hv hp w) d u) →
        ∃ hv', Post w0 S G hv hp w { d := .own h, upd := [(h, ((ob.kill h).app rows))], dead := some h } v' hv' w' := fun v' w' news hnl ho' hgr hblk hnr => by
      have hlk : ∀ k, lk k (hset h ((ob.kill h).app rows) (killHP h hp)) = if k = h then some ((ob.kill h).app rows) else (lk k hp).map (Ob.kill h) := fun k => by
        rw [lk_hset]
        split
        · simp [lk_killHP, hob]
        · exact lk_killHP
      have hL : ∀ k x, k ≠ h → LOf hv hp k = some x → LOf (fun k => if k = h then v' else hv k) (hset h ((ob.kill h).app rows) (killHP h hp)) k = some x := fun k x hne hx => by
        simp only [LOf, hlk, if_neg hne] at hx ⊢
        cases hk : lk k hp with
        | none => simp [hk] at hx
        | some o => simp [hk, kill_sz] at hx ⊢; exact hx
      have hF : ∀ b, FOf G hv hp w b → FOf G (fun k => if k = h then v' else hv k) (hset h ((ob.kill h).app rows) (killHP h hp)) w' b ∧ w'.heap[b]? = w.heap[b]? := fun b hb => by
        refine ⟨⟨⟨Nat.lt_of_lt_of_le hb.1.1 hgr.size, hb.1.2⟩, fun k o hk => ?_⟩, hgr.block b hb.1.1 (fun e => hb.2 h ob hob e.symm)⟩
        rw [hlk] at hk
        by_cases e : k = h
        · subst e
          simp only [if_true]
          rcases hblk with h1 | h1
          · rw [h1]; exact hb.2 k ob hob
          · rw [h1]; intro e; have := Option.some.inj e; have := hb.1.1; omega
        · simp only [if_neg e] at hk ⊢
          cases hk2 : lk k hp with
          | none => simp [hk2] at hk
          | some o2 => exact hb.2 k o2 hk2
      obtain ⟨hI', hL', hF'⟩ := hI.regrow hob (ob' := ((ob.kill h).app rows)) (by simp [Ob.app, kill_sz]) (v' := v') hgr hblk (by
        refine ⟨vs ++ news, ?_, ?_, fun i j x d hi hj => ?_⟩
        · simpa [Ob.app, kill_ty, kill_sz, kill_len, hse] using ho'
        · intro x hx
          simp only [Ob.app, List.mem_append] at hx
          show x.length = (ob.kill h).sz
          rw [kill_sz]
          rcases hx with hx | hx
          · unfold Ob.kill at hx
            split at hx
            · simp only [List.mem_map] at hx
              obtain ⟨y, hy, rfl⟩ := hx
              simpa using hg y hy
            · exact hg x hx
          · rw [hse]; exact hR.1 x hx
        · show ∃ u, (vs ++ news)[i * (ob.kill h).sz + j]? = some u ∧ u.oneCell' = true ∧ RepO (ob.kill h).deep _ w' _ d u
          rw [kill_sz, kill_deep]
          have hvl : vs.length = (ob.kill h).xs.length * ob.sz := by rw [kill_len]; exact hown.1
          rcases append_get (news := news) hvl i j x hi with ⟨h1, h2⟩ | ⟨i', rfl, h1, h2⟩
          · cases hdp : ob.deep
            · have : (ob.kill h) = ob := by unfold Ob.kill; rw [hdp]; rfl
              rw [this] at h1 h2
              obtain ⟨u, hu, h3, hr⟩ := hcv i j x d h1 hj
              have hlt : i * ob.sz + j < ob.xs.length * ob.sz := by rw [← hown.1]; exact (List.getElem?_eq_some_iff.1 hu).1
              refine ⟨u, (h2 hlt).trans hu, h3, ?_⟩
              simp only [RepO, hdp, Bool.false_eq_true, if_false] at hr ⊢
              exact hr.mono hF
            · have hkx : (ob.kill h).xs = ob.xs.map (·.map (killC h)) := by unfold Ob.kill; rw [hdp]; rfl
              rw [hkx] at h1 h2
              rw [List.getElem?_map, Option.map_eq_some_iff] at h1
              obtain ⟨y, hy, rfl⟩ := h1
              rw [List.getElem?_map, Option.map_eq_some_iff] at hj
              obtain ⟨d0, hd0, rfl⟩ := hj
              obtain ⟨u, hu, h3, hr⟩ := hcv i j y d0 hy hd0
              have hlt : i * ob.sz + j < ob.xs.length * ob.sz := by rw [← hown.1]; exact (List.getElem?_eq_some_iff.1 hu).1
              refine ⟨u, (h2 (by simpa using hlt)).trans hu, h3, ?_⟩
              simp only [RepO, hdp, if_true] at hr ⊢
              exact hr.killed hL hF
          · obtain ⟨u, hu, h3, hr⟩ := hnr i' j x d h1 hj
            rw [← hse] at hu
            refine ⟨u, h2.trans hu, h3, ?_⟩
            simp only [RepO, Bool.false_eq_true, if_false] at hr
            cases hdp : ob.deep
            · simp only [RepO, Bool.false_eq_true, if_false]; exact hr.mono hF
            · simp only [RepO, if_true]; exact (hr.mono hF).toC)
      refine ⟨_, hI', ⟨ob.sz, ?_⟩, fun d u hr => hr.killed hL' hF', fun k o hk hne => if_neg (fun e => hne (by rw [e]))⟩
      exact (LOf_eq (hv := fun k => if k = h then v' else hv k) (hp := hset h ((ob.kill h).app rows) (killHP h hp)) (ob := (ob.kill h).app rows) (by rw [hlk, if_pos rfl])).trans (by simp [Ob.app, kill_sz])
    rw [hse] at hown
    rcases hR.2 with ⟨rfl, rfl⟩ | ⟨ad, c, rfl, hnc, hc⟩
    · have hrun := run_append_oNone (P := P) w 0 t ty ob.ty i te.size hu hi (hv h) _ vs hown
      obtain ⟨hv', hP⟩ := key (hv h) w [] (by simp) (by simpa using hown) ⟨rfl, rfl, rfl, Nat.le_refl _, fun _ _ _ => rfl⟩ (.inl rfl) (fun i j x d hi hj => by simp at hi)
      exact ⟨_, hv', w, hrun, hP⟩
    · obtain ⟨news, hnl, hncell, hn1, hnr⟩ := row_cells hR.1 hc
      obtain ⟨v', w', hrun, ho', hgr, hnil, hblk⟩ := run_append_oAt (P := P) w 0 t ty ob.ty i te.zero te.size te.bytes hu hi hiz his hib hzs hsz (hv h) ob.xs.length vs hown ad rows.length c news hnl hncell hn1 (by simpa [maxLen] using h63) (by simpa using hby) (Nat.zero_le _)
      obtain ⟨hv', hP⟩ := key v' w' news hnl ho' hgr hblk hnr
      exact ⟨_, hv', w', hrun, hP⟩
  · cases hs
end Go.Proofs.YtpdkhlpmiblflaaGreat.Abs

/- Abs, part 8: parts of values, lengths, literals, make; and all operations in one function. -/
set_option linter.unusedVariables false
set_option linter.unusedSimpArgs false
namespace Go.Proofs.YtpdkhlpmiblflaaGreat.Abs
open Go Go.RowKit
variable {P : Program} {T : TT} {w0 : World} {S : List Nat} {G : Nat → Prop} {hv : Nat → Value} {hp : HP} {w : World}

theorem allVals_vals : ∀ cs : List Value, allVals (cs.map .val) = some cs
  | [] => rfl
  | c :: cs => by simp [allVals, allVals_vals cs]
theorem mkAgg_vals (cs : List Value) : mkAgg (cs.map .val) = .val (.agg cs.toArray) := by simp [mkAgg, allVals_vals]

def acells : D → Option (List D)
  | .val (.agg cs) => some (cs.toList.map .val)
  | .agg cs => some cs
  | _ => none

theorem acells_ok {L : LF} {F : Nat → Prop} {x : D} {ds : List D} {v : Value} (hx : Rep L w F x v) (h : acells x = some ds) : ∃ cs : Array Value, v = .agg cs ∧ RepL L w F ds cs.toList ∧ ((∃ vs : List Value, ds = vs.map .val) ∨ ∀ u ∈ cs.toList, u.oneCell' = true) := by
  unfold acells at h
  split at h
  · cases h
    obtain rfl := rep_val hx
    exact ⟨_, rfl, vals_rep _, .inl ⟨_, rfl⟩⟩
  · cases h
    obtain ⟨us, rfl, hrep, h1⟩ := hx
    exact ⟨_, rfl, by simpa using hrep, .inr (by simpa using h1)⟩
  · cases h

theorem run_part (hT : TOk P T) {t : TypeId} {ti : TI} (hl : lk t T = some ti) {L : LF} {F : Nat → Prop} {ds : List D} {d : D} {cs : Array Value} {off : Nat} (hrep : RepL L w F ds cs.toList)
    (hor : (∃ vs : List Value, ds = vs.map .val) ∨ ∀ u ∈ cs.toList, u.oneCell' = true) (hrd : readAt ti.aggB ti.size ds off = some d) :
    ∃ z, (part t cs off).run P w = .ok z w ∧ Rep L w F d z := by
  have hagg := TI.run_aggB (hT _ _ hl) w
  have hsz := TI.run_size (hT _ _ hl) w
  have hlen := repL_length hrep
  unfold readAt at hrd
  split at hrd
  · rename_i ha
    split at hrd
    · rename_i hle
      cases hrd
      refine ⟨.agg (cs.extract off (off + ti.size)), by simp [part, hagg, ha, hsz], ?_⟩
      have e : cs.extract off (off + ti.size) = ((cs.toList.drop off).take ti.size).toArray := by
        apply Array.ext'
        simp [Array.toList_extract, List.extract]
      rw [e]
      rcases hor with ⟨vs, rfl⟩ | h1
      · rw [← List.map_drop, ← List.map_take, mkAgg_vals]
        rw [allVals_rep (allVals_vals vs) hrep]
        exact rep_mk _
      · refine mkAgg_rep (repL_of (by simp [hlen]) (fun j d u hd hu => ?_)) (fun u hu => h1 u (List.mem_of_mem_drop (List.mem_of_mem_take hu)))
        have hjl : j < ti.size := by
          have := (List.getElem?_eq_some_iff.1 hd).1
          simp at this
          omega
        rw [List.getElem?_take, if_pos hjl, List.getElem?_drop] at hd hu
        obtain ⟨u', hu', hr'⟩ := repL_get hrep _ _ hd
        rw [hu'] at hu
        cases hu
        exact hr'
    · cases hrd
  · rename_i ha
    obtain ⟨u, hu, hr'⟩ := repL_get hrep _ _ hrd
    refine ⟨u, ?_, repC_oneD hr'⟩
    have : cs[off]? = some u := by simpa using hu
    simp [part, hagg, ha, this]

def stepField (T : TT) (t : TypeId) (x : D) (f : Nat) : Option (Prop × Res) :=
  match nthField T t f, acells x with
  | some (o, ty), some ds =>
    match lk ty T with
    | some ti => match readAt ti.aggB ti.size ds o with
      | some d => q d
      | none => none
    | none => none
  | _, _ => none

theorem stepField_ok (hT : TOk P T) (hI : HInv w0 S G hv hp w) {t : TypeId} {f : Nat} {x : D} {pre : Prop} {r : Res} {u : Value} (hx : Rep (LOf hv hp) w (FOf G hv hp w) x u)
    (hs : stepField T t x f = some (pre, r)) (hpre : pre) : ∃ z, (Instr.field t u f).run P w = .ok z w ∧ Post w0 S G hv hp w r z hv w := by
  unfold stepField at hs
  split at hs
  · rename_i o ty ds hf ha
    obtain ⟨fields, fd, hu, hfd, rfl, rfl⟩ := nthField_ok hT hf
    obtain ⟨cs, rfl, hrep, hor⟩ := acells_ok hx ha
    split at hs
    · rename_i ti hl
      split at hs
      · rename_i d hd
        cases hs
        obtain ⟨z, hz, hr⟩ := run_part hT hl hrep hor hd
        exact ⟨z, by simp [Instr.field, underlying, hu, hfd, asAgg, hz], post_same hI hr⟩
      · cases hs
    · cases hs
  · cases hs

def stepIndex (T : TT) (t : TypeId) (x ix : D) : Option (Prop × Res) :=
  match ix with
  | .val (.int _ i) =>
    match (lk t T).map (fun ti : TI => ti.sh) with
    | some .str =>
      match x with
      | .val (.string s) => qp (0 ≤ i ∧ i < s.size) (.val (.int .u8 ((s.data.toList.getD i.toNat 0).toNat : Int)))
      | _ => none
    | some (.arr n e) =>
      match lk e T, acells x with
      | some ti, some ds => match readAt ti.aggB ti.size ds (i.toNat * ti.size) with
        | some d => qp (0 ≤ i ∧ i < n) d
        | none => none
      | _, _ => none
    | _ => none
  | _ => none

theorem stepIndex_ok (hT : TOk P T) (hI : HInv w0 S G hv hp w) {t : TypeId} {x ix : D} {pre : Prop} {r : Res} {u v : Value} (hx : Rep (LOf hv hp) w (FOf G hv hp w) x u) (hix : Rep (LOf hv hp) w (FOf G hv hp w) ix v)
    (hs : stepIndex T t x ix = some (pre, r)) (hpre : pre) : ∃ z, (Instr.index t u v).run P w = .ok z w ∧ Post w0 S G hv hp w r z hv w := by
  unfold stepIndex at hs
  split at hs
  case h_2 => cases hs
  rename_i k i
  obtain rfl := rep_val hix
  split at hs
  · rename_i hb
    simp only [Option.map_eq_some_iff] at hb
    obtain ⟨ti, hl, hsh⟩ := hb
    have hu := TI.under_str (hT _ _ hl) hsh
    split at hs
    · rename_i s
      cases hs
      obtain rfl := rep_val hx
      obtain ⟨h0, h1⟩ := hpre
      have hlt : i.toNat < s.size := by omega
      have e : s[i.toNat]? = some (s.data.toList.getD i.toNat 0) := by
        have h2 : i.toNat < s.data.toList.length := by rw [Array.length_toList]; exact hlt
        have e2 : s.data.toList.getD i.toNat 0 = s.data.toList[i.toNat]'h2 := by simp only [List.getD, List.getElem?_eq_getElem h2, Option.getD_some]
        rw [getElem?_pos s i.toNat hlt, e2]
        rfl
      exact ⟨_, by simp [Instr.index, asIntOf, underlying, hu, h0, e], post_same hI (rep_mk _)⟩
    · cases hs
  · rename_i n e hb
    simp only [Option.map_eq_some_iff] at hb
    obtain ⟨ti0, hl0, hsh⟩ := hb
    have hu := TI.under_arr (hT _ _ hl0) hsh
    split at hs
    · rename_i ti ds hl ha
      obtain ⟨cs, rfl, hrep, hor⟩ := acells_ok hx ha
      have hsz := TI.run_size (hT _ _ hl) w
      split at hs
      · rename_i d hd
        cases hs
        obtain ⟨h0, h1⟩ := hpre
        obtain ⟨z, hz, hr⟩ := run_part hT hl hrep hor hd
        exact ⟨z, by simp [Instr.index, asIntOf, underlying, hu, h0, h1, hsz, hz], post_same hI hr⟩
      · cases hs
    · cases hs
  · cases hs

def stepLen (T : TT) (t : TypeId) (hp : HP) (x : D) : Option (Prop × Res) :=
  match (lk t T).map (fun ti : TI => ti.sh) with
  | some .str => match x with
    | .val (.string s) => q (.val (.int .i64 s.size))
    | _ => none
  | some (.arr n _) => q (.val (.int .i64 n))
  | some (.slice _) => match x with
    | .nil => q (.val (.int .i64 0))
    | .sl _ xs => q (.val (.int .i64 xs.length))
    | .own h => match lk h hp with
      | some ob => q (.val (.int .i64 ob.xs.length))
      | none => none
    | .vw _ _ n => q (.val (.int .i64 n))
    | .cvw _ _ _ _ n => q (.val (.int .i64 n))
    | _ => none
  | _ => none

theorem stepLen_ok (hT : TOk P T) (hI : HInv w0 S G hv hp w) {t ty : TypeId} {x : D} {pre : Prop} {r : Res} {u : Value} (hx : Rep (LOf hv hp) w (FOf G hv hp w) x u)
    (hs : stepLen T t hp x = some (pre, r)) (hpre : pre) : ∃ z, (Builtin.len_ #[t] ty #[u]).run P w = .ok z w ∧ Post w0 S G hv hp w r z hv w := by
  unfold stepLen at hs
  split at hs
  · rename_i hb
    simp only [Option.map_eq_some_iff] at hb
    obtain ⟨ti, hl, hsh⟩ := hb
    have hu := TI.under_str (hT _ _ hl) hsh
    split at hs
    · cases hs
      obtain rfl := rep_val hx
      exact ⟨_, by simp [Builtin.len_, underlying, hu, goInt], post_same hI (rep_mk _)⟩
    · cases hs
  · rename_i n e hb
    simp only [Option.map_eq_some_iff] at hb
    obtain ⟨ti, hl, hsh⟩ := hb
    have hu := TI.under_arr (hT _ _ hl) hsh
    cases hs
    exact ⟨_, by simp [Builtin.len_, underlying, hu, goInt], post_same hI (rep_mk _)⟩
  · rename_i e hb
    simp only [Option.map_eq_some_iff] at hb
    obtain ⟨ti, hl, hsh⟩ := hb
    have hu := TI.under_slice (hT _ _ hl) hsh
    have fin : ∀ (A : Option Addr) (n c : Nat), ∃ z, (Builtin.len_ #[t] ty #[.slice A n c]).run P w = .ok z w ∧ Post w0 S G hv hp w { d := .val (.int .i64 n) } z hv w := fun A n c =>
      ⟨_, by simp [Builtin.len_, underlying, hu, goInt], post_same hI (rep_mk _)⟩
    split at hs
    · cases hs
      have hx : RepP w (FOf G hv hp w) .nil u := hx
      cases hx
      exact fin _ 0 _
    · cases hs
      have hx : RepP w (FOf G hv hp w) (.sl _ _) u := hx
      cases hx
      exact fin _ _ _
    · rename_i h
      split at hs
      · rename_i ob hob
        cases hs
        obtain ⟨s, hL⟩ := hx
        rw [LOf_eq hob] at hL
        simp only [Option.some.injEq, Prod.mk.injEq] at hL
        obtain ⟨rfl, _⟩ := hL
        obtain ⟨vs, ho, _⟩ := hI.obs h ob hob
        rcases ho.2 with ⟨h1, h2⟩ | ⟨g, cap, cur, h1, _⟩
        · rw [h1, h2]; exact fin _ 0 _
        · rw [h1]; exact fin _ _ _
      · cases hs
    · cases hs
      obtain ⟨A, c, m, cap, s, a, rfl, _⟩ := hx
      exact fin _ _ _
    · cases hs
      obtain ⟨g, m, cap, s, c, _, _, _, _, rfl⟩ := hx
      exact fin _ _ _
    · cases hs
  · cases hs

def stepExtract (x : D) (i : Nat) : Option (Prop × Res) :=
  match x with
  | .tup ds => match ds[i]? with
    | some d => q d
    | none => none
  | _ => none

theorem repAL_get {L : LF} {F : Nat → Prop} : ∀ {ds : List D} {us : List Value}, RepAL L w F ds us → ∀ (j : Nat) d, ds[j]? = some d → ∃ u, us[j]? = some u ∧ RepA L w F d u
  | d :: ds, u :: us, h, 0, e, hj => by simp at hj; subst hj; exact ⟨u, rfl, h.1⟩
  | d :: ds, u :: us, h, j + 1, e, hj => by simpa using repAL_get h.2 j e (by simpa using hj)
  | [], [], _, j, e, hj => by simp at hj
  | [], _ :: _, h, _, _, _ => h.elim
  | _ :: _, [], h, _, _, _ => h.elim

theorem repA_D {L : LF} {F : Nat → Prop} {d : D} {v : Value} (h : RepA L w F d v) : Rep L w F d v := by
  cases d <;> first | exact h | exact h.elim

theorem stepExtract_ok (hI : HInv w0 S G hv hp w) {x : D} {i : Nat} {pre : Prop} {r : Res} {u : Value} (hx : Rep (LOf hv hp) w (FOf G hv hp w) x u)
    (hs : stepExtract x i = some (pre, r)) (hpre : pre) : ∃ z, (Instr.extract u i).run P w = .ok z w ∧ Post w0 S G hv hp w r z hv w := by
  unfold stepExtract at hs
  split at hs
  · split at hs
    · rename_i d hd
      cases hs
      obtain ⟨vs, rfl, hr⟩ := hx
      obtain ⟨u, hu, hr'⟩ := repAL_get hr i d hd
      exact ⟨u, by simp [Instr.extract, hu], post_same hI (repA_D hr')⟩
    · cases hs
  · cases hs
end Go.Proofs.YtpdkhlpmiblflaaGreat.Abs

/- Abs, part 9: literals and make; all operations in one function. -/
set_option linter.unusedVariables false
set_option linter.unusedSimpArgs false
namespace Go.Proofs.YtpdkhlpmiblflaaGreat.Abs
open Go Go.RowKit
variable {P : Program} {T : TT} {w0 : World} {S : List Nat} {G : Nat → Prop} {hv : Nat → Value} {hp : HP} {w : World}

theorem foldl_put (off : Nat) : ∀ (l : List Value) (k : Nat) (cells : Array Value), ((l.zipIdx k).foldl (fun (cs : Array Value) (p : Value × Nat) => cs.setIfInBounds (off + p.2) p.1) cells).toList = setMany cells.toList (off + k) l
  | [], k, cells => rfl
  | v :: l, k, cells => by
    simp only [List.zipIdx_cons, List.foldl_cons]
    rw [foldl_put off l (k + 1)]
    simp [setMany, Nat.add_assoc]

theorem fill_cons {place : Nat → Option (Nat × Nat)} {cells : Array Value} {i off size : Nat} {v : Value} {rest : List (Nat × Value)} (hpl : place i = some (off, size)) (hs : v.cells.size = size) (hle : off + size ≤ cells.size) :
    ∃ cells' : Array Value, Instr.fill place cells ((i, v) :: rest) = Instr.fill place cells' rest ∧ cells'.toList = setMany cells.toList off v.cells.toList := by
  refine ⟨v.cells.zipIdx.foldl (fun cs (c, j) => cs.setIfInBounds (off + j) c) cells, ?_, ?_⟩
  · simp only [Instr.fill, hpl]
    rw [if_neg (by simp [hs]; omega)]
  · have := foldl_put off v.cells.toList 0 cells
    rw [Nat.add_zero] at this
    rw [← this, ← Array.toList_zipIdx, Array.foldl_toList]

def fillD (place : Nat → Option (Nat × Nat)) : List D → List (Nat × D) → Option (List D)
  | cells, [] => some cells
  | cells, (i, d) :: rest =>
    match place i with
    | some (off, size) => if (dcells d).length = size ∧ off + size ≤ cells.length ∧ cellsOk d = true then fillD place (setMany cells off (dcells d)) rest else none
    | none => none

def RepParts (L : LF) (w : World) (F : Nat → Prop) : List (Nat × D) → List (Nat × Value) → Prop
  | [], [] => True
  | (i, d) :: ps, (j, v) :: qs => i = j ∧ Rep L w F d v ∧ RepParts L w F ps qs
  | _, _ => False

theorem fillD_ok {L : LF} {F : Nat → Prop} (hL : ∀ h v s, L h = some (v, s) → v.oneCell' = true) {place : Nat → Option (Nat × Nat)} : ∀ {parts : List (Nat × D)} {vparts : List (Nat × Value)} {cells : List D} {vcells : Array Value} {out : List D},
    RepParts L w F parts vparts → RepL L w F cells vcells.toList → (∀ u ∈ vcells.toList, u.oneCell' = true) → fillD place cells parts = some out →
    ∃ vout : Array Value, Instr.fill place vcells vparts = some vout ∧ RepL L w F out vout.toList ∧ (∀ u ∈ vout.toList, u.oneCell' = true)
  | [], [], cells, vcells, out, _, hc, h1, h => by
    simp only [fillD, Option.some.injEq] at h
    subst h
    exact ⟨vcells, rfl, hc, h1⟩
  | (i, d) :: ps, (j, v) :: qs, cells, vcells, out, hp, hc, h1, h => by
    obtain ⟨rfl, hd, hp⟩ := hp
    simp only [fillD] at h
    split at h
    · rename_i off size hpl
      split at h
      · rename_i hcond
        obtain ⟨hsz, hle, hok⟩ := hcond
        obtain ⟨hdc, hone⟩ := dcells_rep hL hd hok
        have hlen := repL_length hdc
        have hclen := repL_length hc
        have hcs : vcells.size = cells.length := by simpa using hclen
        obtain ⟨vcells', hf, hl⟩ := fill_cons (place := place) (cells := vcells) (v := v) (rest := qs) hpl (by rw [← hsz, ← hlen]; simp) (by omega)
        rw [hf]
        refine fillD_ok hL hp ?_ ?_ h
        · rw [hl]
          refine repL_of (by rw [setMany_length, setMany_length]; exact hclen) (fun j e u he hu => ?_)
          rw [setMany_get _ _ _ _ (by omega)] at he
          rw [setMany_get _ _ _ _ (by omega)] at hu
          rw [hlen] at hu
          split at he
          · rename_i hin
            rw [if_pos hin] at hu
            obtain ⟨u', hu', hr⟩ := repL_get hdc _ _ he
            rw [hu'] at hu; cases hu; exact hr
          · rename_i hin
            rw [if_neg hin] at hu
            obtain ⟨u', hu', hr⟩ := repL_get hc _ _ he
            rw [hu'] at hu; cases hu; exact hr
        · rw [hl]
          intro u hu
          obtain ⟨j, hj⟩ := List.getElem?_of_mem hu
          rw [setMany_get _ _ _ _ (by omega)] at hj
          split at hj
          · exact hone u (List.mem_of_getElem? hj)
          · exact h1 u (List.mem_of_getElem? hj)
      · cases h
    · cases h
  | [], _ :: _, _, _, _, h, _, _, _ => h.elim
  | _ :: _, [], _, _, _, h, _, _, _ => h.elim

def placesOf (T : TT) : List (Nat × TypeId) → Option (List (Nat × Nat))
  | [] => some []
  | (o, t) :: fs => match szOf T t, placesOf T fs with
    | some s, some ps => some ((o, s) :: ps)
    | _, _ => none

theorem placesOf_ok (hT : TOk P T) : ∀ (fields : List Field) (ps : List (Nat × Nat)), placesOf T (fields.map fun f => (f.offset, f.type)) = some ps →
    (fields.mapM (fun f => Prod.mk f.offset <$> sizeOf f.type : Field → Sem (Nat × Nat))).run P w = .ok ps w
  | [], ps, h => by simp [placesOf] at h; subst h; rfl
  | f :: fs, ps, h => by
    simp only [List.map_cons, placesOf] at h
    split at h
    · rename_i s ps' hs hps
      cases h
      have ih := placesOf_ok hT fs ps' hps
      simp [List.mapM_cons, szOf_run hT hs w, ih]
    · cases h

def stepBuild (T : TT) (t : TypeId) (parts : List (Nat × D)) : Option (Prop × Res) :=
  match lk t T with
  | none => none
  | some ti =>
    match ti.sh with
    | .struct fs =>
      match placesOf T fs with
      | none => none
      | some ps => match fillD (fun i => ps[i]?) (zeroD ti) parts with
        | some out => some (ti.zero.cells.toList.all (fun c => c.oneCell') = true, { d := mkAgg out })
        | none => none
    | .arr n e =>
      match szOf T e with
      | none => none
      | some es => match fillD (fun i => some (i * es, es)) (zeroD ti) parts with
        | some out => some (ti.zero.cells.toList.all (fun c => c.oneCell') = true, { d := mkAgg out })
        | none => none
    | _ => none

theorem zeroD_rep {L : LF} {F : Nat → Prop} (ti : TI) : RepL L w F (zeroD ti) ti.zero.cells.toList := by
  unfold zeroD
  induction ti.zero.cells.toList with
  | nil => trivial
  | cons c cs ih => exact ⟨(cst_rep c).toC, ih⟩

theorem stepBuild_ok (hT : TOk P T) (hI : HInv w0 S G hv hp w) {t : TypeId} {parts : List (Nat × D)} {vparts : Array (Nat × Value)} {pre : Prop} {r : Res} (hp' : RepParts (LOf hv hp) w (FOf G hv hp w) parts vparts.toList)
    (hs : stepBuild T t parts = some (pre, r)) (hpre : pre) : ∃ z, (Instr.build t vparts).run P w = .ok z w ∧ Post w0 S G hv hp w r z hv w := by
  unfold stepBuild at hs
  split at hs
  · cases hs
  rename_i ti hl
  have hz := TI.run_zero (hT _ _ hl) w
  split at hs
  · rename_i fs hsh
    obtain ⟨fields, hu, hm⟩ := TI.under_struct (hT _ _ hl) hsh
    split at hs
    · cases hs
    rename_i ps hps
    split at hs
    · rename_i out hout
      cases hs
      have hplaces : (fields.mapM (fun f => Prod.mk f.offset <$> sizeOf f.type : Field → Sem (Nat × Nat))).run P w = .ok ps.toArray w := by
        rw [Array.mapM_eq_mapM_toList]
        have := placesOf_ok (w := w) hT fields.toList ps (by rw [hm]; exact hps)
        simp [this]
      obtain ⟨vout, hf, hr, h1⟩ := fillD_ok (LOf_oneCell hI) hp' (zeroD_rep (w := w) ti) (fun u hu => List.all_eq_true.1 hpre u hu) hout
      refine ⟨.agg vout, by simp [Instr.build, hz, underlying, hu, hplaces, hf], post_same hI (by have := mkAgg_rep hr h1; simpa using this)⟩
    · cases hs
  · rename_i n e hsh
    have hu := TI.under_arr (hT _ _ hl) hsh
    split at hs
    · cases hs
    rename_i es hsz
    have hrun := szOf_run hT hsz w
    split at hs
    · rename_i out hout
      cases hs
      obtain ⟨vout, hf, hr, h1⟩ := fillD_ok (LOf_oneCell hI) hp' (zeroD_rep (w := w) ti) (fun u hu => List.all_eq_true.1 hpre u hu) hout
      refine ⟨.agg vout, by simp [Instr.build, hz, underlying, hu, hrun, hf], post_same hI (by have := mkAgg_rep hr h1; simpa using this)⟩
    · cases hs
  · cases hs

/-! ### Slices made out of their elements, and by make -/
def stepBuildSlice (T : TT) (h0 : Nat) (t : TypeId) (len : Nat) (parts : List (Nat × D)) : Option (Prop × Res) :=
  match (lk t T).map (fun ti : TI => ti.sh) with
  | some (.slice e) =>
    match lk e T with
    | none => none
    | some te =>
      some (parts.map (·.1) = List.range len ∧ (∀ p ∈ parts, (dcells p.2).length = te.size ∧ cellsOk p.2 = true) ∧ len * te.size ≤ 16777216 ∧ len ≤ 9223372036854775807,
        { d := .own h0, new := [(h0, ⟨e, te.size, !(parts.all fun p => (dcells p.2).all hf), parts.map fun p => dcells p.2⟩)] })
  | _ => none

theorem fill_rows {L : LF} {F : Nat → Prop} (hL : ∀ h v s, L h = some (v, s) → v.oneCell' = true) {es : Nat} : ∀ (parts : List (Nat × D)) (vparts : List (Nat × Value)) (k : Nat) (cells : Array Value), RepParts L w F parts vparts →
    parts.map (·.1) = List.range' k parts.length → (∀ p ∈ parts, (dcells p.2).length = es ∧ cellsOk p.2 = true) → (k + parts.length) * es ≤ cells.size →
    ∃ vout : Array Value, Instr.fill (fun i => some (i * es, es)) cells vparts = some vout ∧ vout.size = cells.size ∧ (∀ j, j < k * es → vout[j]? = cells[j]?) ∧
      ∀ i j p d, parts[i]? = some p → (dcells p.2)[j]? = some d → ∃ u, vout[(k + i) * es + j]? = some u ∧ u.oneCell' = true ∧ RepC L w F d u
  | [], [], k, cells, _, _, _, _ => ⟨cells, rfl, rfl, fun _ _ => rfl, fun i j p d hi => by simp at hi⟩
  | (i0, d0) :: ps, (j0, v0) :: qs, k, cells, hp, hr, hs, hle => by
    obtain ⟨rfl, hd, hp⟩ := hp
    simp only [List.map_cons, List.length_cons, List.range'_succ, List.cons.injEq] at hr
    obtain ⟨rfl, hr⟩ := hr
    have h0 := hs (i0, d0) (by simp)
    obtain ⟨hdc, hone⟩ := dcells_rep hL hd h0.2
    have hlen := repL_length hdc
    have h01 : (dcells d0).length = es := h0.1
    simp only [List.length_cons] at hle
    have hmul : (i0 + 1) * es ≤ (i0 + (ps.length + 1)) * es := Nat.mul_le_mul_right _ (by omega)
    rw [Nat.succ_mul] at hmul
    obtain ⟨cells', hf, hl⟩ := fill_cons (place := fun i => some (i * es, es)) (cells := cells) (i := i0) (v := v0) (rest := qs) rfl (by rw [← h01, ← hlen]; simp) (by omega)
    have hsz' : cells'.size = cells.size := by
      have := congrArg List.length hl
      rw [setMany_length] at this
      simpa using this
    obtain ⟨vout, hf2, hsz2, hlo, hrep⟩ := fill_rows hL ps qs (i0 + 1) cells' hp hr (fun p hp => hs p (by simp [hp])) (by rw [hsz']; rw [show i0 + 1 + ps.length = i0 + (ps.length + 1) by omega]; exact hle)
    have hget : ∀ j, cells'[j]? = if i0 * es ≤ j ∧ j < i0 * es + v0.cells.toList.length then v0.cells.toList[j - i0 * es]? else cells[j]? := fun j => by
      have h1 : cells'[j]? = cells'.toList[j]? := by simp
      rw [h1, hl, setMany_get _ _ _ _ (by simp only [Array.length_toList] at hlen ⊢; omega)]
      simp
    refine ⟨vout, by rw [hf, hf2], by rw [hsz2, hsz'], fun j hj => ?_, fun i j p d hi hj => ?_⟩
    · rw [hlo j (by rw [Nat.succ_mul]; omega), hget j, if_neg (by omega)]
    · match i, hi with
      | 0, hi =>
        simp at hi; subst hi
        have hjl : j < es := by rw [← h0.1]; exact (List.getElem?_eq_some_iff.1 hj).1
        obtain ⟨u, hu, hr'⟩ := repL_get hdc j d hj
        refine ⟨u, ?_, hone u (List.mem_of_getElem? hu), hr'⟩
        rw [Nat.add_zero, hlo _ (by rw [Nat.succ_mul]; omega), hget, if_pos (by omega)]
        rw [show i0 * es + j - i0 * es = j by omega]
        exact hu
      | i + 1, hi =>
        obtain ⟨u, hu, h1, hr'⟩ := hrep i j p d (by simpa using hi) hj
        exact ⟨u, by rw [show i0 + (i + 1) = i0 + 1 + i by omega]; exact hu, h1, hr'⟩
  | [], _ :: _, _, _, h, _, _, _ => h.elim
  | _ :: _, [], _, _, h, _, _, _ => h.elim

theorem stepBuildSlice_ok (hT : TOk P T) (hI : HInv w0 S G hv hp w) {h0 : Nat} (hfresh : lk h0 hp = none) {t : TypeId} {len : Nat} {parts : List (Nat × D)} {vparts : Array (Nat × Value)} {pre : Prop} {r : Res}
    (hp' : RepParts (LOf hv hp) w (FOf G hv hp w) parts vparts.toList) (hs : stepBuildSlice T h0 t len parts = some (pre, r)) (hpre : pre) :
    ∃ z hv' w', (Instr.buildSlice t len vparts).run P w = .ok z w' ∧ Post w0 S G hv hp w r z hv' w' := by
  unfold stepBuildSlice at hs
  split at hs
  case h_2 => cases hs
  rename_i e hsh
  simp only [Option.map_eq_some_iff] at hsh
  obtain ⟨ti, hl, hsh⟩ := hsh
  have hu := TI.under_slice (hT _ _ hl) hsh
  split at hs
  · cases hs
  rename_i te hle
  cases hs
  obtain ⟨hidx, hcs, hlim, h63⟩ := hpre
  have hsz := TI.run_size (hT _ _ hle) w
  have hz := TI.run_zero (hT _ _ hle) w
  have hplen : parts.length = len := by have := congrArg List.length hidx; simpa using this
  have hidx' : parts.map (·.1) = List.range' 0 parts.length := by rw [hidx, hplen, List.range_eq_range']
  have hgrid : Grid te.size (parts.map fun p => dcells p.2) := fun x hx => by
    simp only [List.mem_map] at hx
    obtain ⟨p, hp, rfl⟩ := hx
    exact (hcs p hp).1
  have hlim' : ¬ (16777216 < len * te.size) := by omega
  have main : ∀ cells0 : Array Value, cells0.size = len * te.size → (∀ vout : Array Value, Instr.fill (fun i => some (i * te.size, te.size)) cells0 vparts.toList = some vout →
      (Instr.buildSlice t len vparts).run P w = .ok (.slice (some ⟨w.heap.size, 0, none⟩) len len) (w.alloc (.cells vout e))) →
      ∃ z hv' w', (Instr.buildSlice t len vparts).run P w = .ok z w' ∧ Post w0 S G hv hp w { d := .own h0, new := [(h0, ⟨e, te.size, !(parts.all fun p => (dcells p.2).all Abs.hf), parts.map fun p => dcells p.2⟩)] } z hv' w' := fun cells0 hsz0 hrun => by
    obtain ⟨vout, hf, hvs, _, hrep⟩ := fill_rows (LOf_oneCell hI) parts vparts.toList 0 cells0 hp' hidx' hcs (by rw [hsz0]; simp [hplen])
    obtain ⟨hv', hP⟩ := post_new hI hfresh ⟨e, te.size, !(parts.all fun p => (dcells p.2).all Abs.hf), parts.map fun p => dcells p.2⟩ vout.toList (by simp [hvs, hsz0, hplen]) hgrid (by simpa [hplen, maxLen] using h63)
      (fun i j x d hi hj => by
        rw [List.getElem?_map, Option.map_eq_some_iff] at hi
        obtain ⟨p, hp, rfl⟩ := hi
        obtain ⟨u, hu, h1, hr⟩ := hrep i j p d hp hj
        refine ⟨u, by simpa using hu, h1, ?_⟩
        cases hall : (parts.all fun p => (dcells p.2).all Abs.hf)
        · simpa [RepO] using hr
        · have h2 := List.all_eq_true.1 hall p (List.mem_of_getElem? hp)
          have h3 := List.all_eq_true.1 h2 d (List.mem_of_getElem? hj)
          simpa [RepO] using repP_of_hf h3 hr) (.own h0) _ (.inl ⟨rfl, rfl⟩)
    refine ⟨_, hv', _, ?_, hP⟩
    rw [hrun vout hf]
    simp [hplen]
  by_cases hz0 : len * te.size = 0
  · refine main ((Array.range (len * te.size)).map fun _ => default) (by simp) (fun vout hf => ?_)
    simp only [Instr.buildSlice, Sem.run_bind, run_underlying hu, Result.andThen_ok, hsz]
    simp [hz0] at hf ⊢
    simp [hf, newRow, newObj]
    rfl
  · refine main ((Array.range (len * te.size)).map (te.zero.cells[· % te.zero.cells.size]!)) (by simp) (fun vout hf => ?_)
    simp only [Instr.buildSlice, Sem.run_bind, run_underlying hu, Result.andThen_ok, hsz]
    simp [hz0, hlim', hz, newRow, newObj, hf]
    rfl

def stepMake (T : TT) (h0 : Nat) (t : TypeId) (l c : D) : Option (Prop × Res) :=
  match (lk t T).map (fun ti : TI => ti.sh), l, c with
  | some (.slice e), .val (.int _ n), .val (.int _ m) =>
    match lk e T with
    | none => none
    | some te => some (m = n ∧ 0 ≤ n ∧ te.bytes * n.toNat ≤ 281474976710656 ∧ n.toNat ≤ 9223372036854775807 ∧ 0 < te.size ∧ te.zero.cells.toList.all (fun c => c.oneCell') = true,
        { d := .own h0, new := [(h0, ⟨e, te.size, false, List.replicate n.toNat (zeroD te)⟩)] })
  | _, _, _ => none

theorem stepMake_ok (hT : TOk P T) (hI : HInv w0 S G hv hp w) {h0 : Nat} (hfresh : lk h0 hp = none) {t : TypeId} {l c : D} {u v : Value} {pre : Prop} {r : Res} (hl' : Rep (LOf hv hp) w (FOf G hv hp w) l u) (hc' : Rep (LOf hv hp) w (FOf G hv hp w) c v)
    (hs : stepMake T h0 t l c = some (pre, r)) (hpre : pre) : ∃ z hv' w', (Instr.makeSlice t u v).run P w = .ok z w' ∧ Post w0 S G hv hp w r z hv' w' := by
  unfold stepMake at hs
  split at hs
  case h_2 => cases hs
  rename_i e k n k' m hsh
  obtain rfl := rep_val hl'
  obtain rfl := rep_val hc'
  simp only [Option.map_eq_some_iff] at hsh
  obtain ⟨ti, hl, hsh⟩ := hsh
  have hu := TI.under_slice (hT _ _ hl) hsh
  split at hs
  · cases hs
  rename_i te hle
  cases hs
  obtain ⟨rfl, h0n, hby, h63, hpos, hone⟩ := hpre
  obtain ⟨i, hi, his, hib, hiz⟩ := TI.info (hT _ _ hle)
  have hzs := (hT _ _ hle).2.2
  have e2 : (te.bytes : Int) * m ≤ 281474976710656 := by
    have e3 : ((te.bytes * m.toNat : Nat) : Int) = (te.bytes : Int) * m := by rw [Int.natCast_mul, Int.toNat_of_nonneg h0n]
    rw [← e3]
    exact Int.ofNat_le.2 hby
  have hrun := run_make (P := P) w t e i te.zero hu hi hiz k k' m m h0n (Int.le_refl _) (by rw [hib]; exact e2) (by omega)
  have hml : (madeCells te.zero.cells (m.toNat * i.size)).toList.length = m.toNat * te.size := by rw [his]; simp [madeCells]
  have hzl : (zeroD te).length = te.size := by simpa [zeroD] using hzs
  obtain ⟨hv', hP⟩ := post_new hI hfresh ⟨e, te.size, false, List.replicate m.toNat (zeroD te)⟩ (madeCells te.zero.cells (m.toNat * i.size)).toList (by simpa using hml) (fun x hx => by rw [List.eq_of_mem_replicate hx]; exact hzl) (by simpa [maxLen] using h63)
    (fun a j x d hi' hj => by
      rw [List.getElem?_replicate] at hi'
      split at hi'
      · rename_i ha
        cases hi'
        have hjl : j < te.size := by rw [← hzl]; exact (List.getElem?_eq_some_iff.1 hj).1
        obtain ⟨u, hu, hr⟩ := repL_get (zeroD_rep (w := w) (L := LOf hv hp) (F := FOf G hv hp w) te) j d hj
        have hmul := Nat.mul_le_mul_right te.size ha
        rw [Nat.succ_mul] at hmul
        refine ⟨u, ?_, List.all_eq_true.1 hone u (List.mem_of_getElem? hu), ?_⟩
        · rw [his]
          simp only [madeCells, Array.toList_map, Array.toList_range, List.getElem?_map]
          rw [List.getElem?_range (by omega)]
          simp only [Option.map_some, Option.some.injEq]
          have e1 : (a * te.size + j) % te.zero.cells.size = j := by
            rw [hzs, Nat.mul_add_mod_self_right, Nat.mod_eq_of_lt hjl]
          rw [e1]
          have hju : j < te.zero.cells.size := by omega
          have : te.zero.cells[j]? = some u := by simpa using hu
          rw [Array.getElem!_eq_getD, Array.getD_eq_getD_getElem?, this]
          rfl
        · have hj' : d = cst u := by
            have hju : te.zero.cells.toList[j]? = some u := hu
            simp only [zeroD, List.getElem?_map, hju, Option.map_some, Option.some.injEq] at hj
            exact hj.symm
          subst hj'
          simpa [RepO] using cst_rep u
      · cases hi') (.own h0) _ (.inl ⟨rfl, rfl⟩)
  exact ⟨_, hv', _, hrun.trans (by simp), hP⟩

def stepMax (x y : D) : Option (Prop × Res) :=
  match x, y with
  | .val (.int k a), .val (.int _ b) => q (.val (.int k (if b > a then b else a)))
  | _, _ => none
def stepMin (x y : D) : Option (Prop × Res) :=
  match x, y with
  | .val (.int k a), .val (.int _ b) => q (.val (.int k (if b < a then b else a)))
  | _, _ => none
theorem stepMax_ok (hI : HInv w0 S G hv hp w) {x y : D} {ts : Array TypeId} {t : TypeId} {u v : Value} {pre : Prop} {r : Res} (hx : Rep (LOf hv hp) w (FOf G hv hp w) x u) (hy : Rep (LOf hv hp) w (FOf G hv hp w) y v)
    (hs : stepMax x y = some (pre, r)) (hpre : pre) : ∃ z, (Builtin.max_ ts t #[u, v]).run P w = .ok z w ∧ Post w0 S G hv hp w r z hv w := by
  unfold stepMax at hs
  split at hs
  · obtain rfl := rep_val hx
    obtain rfl := rep_val hy
    cases hs
    exact ⟨_, by simp [Builtin.max_, Builtin.max2], post_same hI (rep_mk _)⟩
  · cases hs
theorem stepMin_ok (hI : HInv w0 S G hv hp w) {x y : D} {ts : Array TypeId} {t : TypeId} {u v : Value} {pre : Prop} {r : Res} (hx : Rep (LOf hv hp) w (FOf G hv hp w) x u) (hy : Rep (LOf hv hp) w (FOf G hv hp w) y v)
    (hs : stepMin x y = some (pre, r)) (hpre : pre) : ∃ z, (Builtin.min_ ts t #[u, v]).run P w = .ok z w ∧ Post w0 S G hv hp w r z hv w := by
  unfold stepMin at hs
  split at hs
  · obtain rfl := rep_val hx
    obtain rfl := rep_val hy
    cases hs
    exact ⟨_, by simp [Builtin.min_, Builtin.min2], post_same hI (rep_mk _)⟩
  · cases hs
end Go.Proofs.YtpdkhlpmiblflaaGreat.Abs

