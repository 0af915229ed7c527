import Derived.Test.YtpdkhlpmiblflaaGreatAbsD
import Derived.Maps.OwnSet
import Derived.Maps.Views
import Derived.Lib.ConvBytes
import Derived.Maps.AppendAt
/- Abs, part 60: maps from texts to whole numbers that a function makes and turns; texts to bytes. -/
set_option linter.unusedVariables false
set_option linter.unusedSimpArgs false
namespace Go.Proofs.YtpdkhlpmiblflaaGreat.Abs
open Go Go.RowKit
variable {P : Program} {T : TT} {C : Ctx}

def MapS (P : Program) (k e : TypeId) (f : ByteArray → Option Int) (n : Nat) (o : Obj) : Prop :=
  ∃ D : DataW Unit, (∀ (w : World) (b : Nat), w.heap[b]? = some o → w.ownsMap P k (plainElem P e) b n D) ∧ (∃ es c, o = .map es c) ∧
    ∀ s : ByteArray, Maps.has D (.string s.data.toList) = (f s).isSome ∧ D.atKey (.string s.data.toList) (.lit (.int .i64 0)) = .lit (.int .i64 ((f s).getD 0))

theorem MapS.of {k e : TypeId} {f : ByteArray → Option Int} {n b : Nat} {w : World} {o : Obj} {D : DataW Unit} (h : w.ownsMap P k (plainElem P e) b n D) (hb : w.heap[b]? = some o) (hf : ∀ s : ByteArray, Maps.has D (.string s.data.toList) = (f s).isSome ∧ D.atKey (.string s.data.toList) (.lit (.int .i64 0)) = .lit (.int .i64 ((f s).getD 0))) :
    MapS P k e f n o := by
  obtain ⟨es, clock, hb', F, hs, hD⟩ := h
  rw [hb] at hb'
  cases hb'
  exact ⟨D, fun w' b' hb2 => ⟨es, clock, hb2, F, hs, hD⟩, ⟨_, _, rfl⟩, hf⟩
theorem MapS.mono {k e : TypeId} {f : ByteArray → Option Int} {n n' : Nat} {o : Obj} (h : MapS P k e f n o) (hn : n ≤ n') : MapS P k e f n' o := by
  obtain ⟨D, h1, h2, h3⟩ := h
  exact ⟨D, fun w b hb => (h1 w b hb).mono hn, h2, h3⟩

def staysD : D → Bool
  | .any | .val _ | .nil | .own _ | .vw _ _ _ | .cvw _ _ _ _ _ | .ptr _ _ _ => true
  | _ => false
def updM (b : Nat) (M : Obj → Prop) : D → D
  | .mp (some c) M0 => if c = b then .mp (some b) M else .any
  | d => if staysD d then d else .any
theorem stays_C {L : LF} {w w' : World} {F F' : Nat → Prop} {d : D} {v : Value} (h : staysD d = true) (hr : RepC L w F d v) : RepC L w' F' d v := by
  cases d <;> simp only [staysD, Bool.false_eq_true] at h
  case any => exact .any v
  case val u => have hr : RepP w F (.val u) v := hr; cases hr; exact RepP.val _
  case nil => have hr : RepP w F .nil v := hr; cases hr; exact RepP.nil
  all_goals exact hr
theorem stays_P {w w' : World} {F F' : Nat → Prop} {d : D} {v : Value} (h : staysD d = true) (hr : RepP w F d v) : RepP w' F' d v := by
  cases d <;> simp only [staysD, Bool.false_eq_true] at h
  case any => exact .any v
  case val u => cases hr; exact RepP.val _
  case nil => cases hr; exact RepP.nil
  all_goals cases hr
theorem stays_Rep {L : LF} {w w' : World} {F F' : Nat → Prop} {d : D} {v : Value} (h : staysD d = true) (hr : Rep L w F d v) : Rep L w' F' d v := by
  cases d <;> simp only [staysD, Bool.false_eq_true] at h
  case any => exact stays_C (L := L) (d := .any) rfl hr
  case val u => exact stays_C (L := L) (d := .val u) rfl hr
  case nil => exact stays_C (L := L) (d := .nil) rfl hr
  all_goals exact hr
theorem updM_Rep {L : LF} {w w' : World} {F F' : Nat → Prop} {b : Nat} {M : Obj → Prop} {o : Obj} (hF : F' b) (hb : w'.heap[b]? = some o) (ho : ∃ es n, o = .map es n) (hM : M o) {d : D} {v : Value} (hr : Rep L w F d v) : Rep L w' F' (updM b M d) v := by
  have dflt : ∀ d : D, Rep L w F d v → Rep L w' F' (if staysD d then d else .any) v := fun d hr => by
    by_cases h : staysD d = true
    · rw [if_pos h]; exact stays_Rep h hr
    · rw [if_neg h]; exact RepP.any v
  cases d
  case mp ob M0 =>
    cases ob with
    | none => exact dflt _ hr
    | some c =>
      simp only [updM]
      by_cases h : c = b
      · subst h
        rw [if_pos rfl]
        have hr : RepP w F (.mp (some c) M0) v := hr
        cases hr with
        | mp _ _ b' o' hob hF' hb' ho' hM' =>
          obtain rfl := hob c rfl
          exact RepP.mp (some c) M c o (fun x hx => (Option.some.inj hx).symm ▸ rfl) hF hb ho hM
      · rw [if_neg h]; exact RepP.any v
  all_goals exact dflt _ hr

theorem sreg_makemap {N : Nat} (hP : C.P = P) (hN : C.N = N) {ops l : List Oper} {t : Nat} {ty tt : TypeId} {p : String} {af : Array Edge} {sl : List (Nat × D)} {hp : HP} {nx : Nat} {K : St → Prop} (k e : TypeId) (ht : t < N)
    (hK : ∀ b, C.w0.heap.size ≤ b → SReg C ops l ⟨putSl (some t) (.mp (some b) (MapS P k e (fun _ => none) 0)) sl, hp, nx⟩ K) : SReg C ops ({ dst := some t, op := .makeMap tt none, type := ty, pos := p, after := af, guard := none } :: l) ⟨sl, hp, nx⟩ K := fun Q a w hI hQ => by
  subst hP
  obtain ⟨hv, hH, hk, hm, hpin, hS⟩ := hI
  simp only at hH hk hm hpin hS
  refine wpList_step (fun K1 hK1 => ?_)
  simp only [Region.wanted, if_true]
  unfold Oper.wp
  rw [show (execOp a.eval { dst := some t, op := .makeMap tt none, type := ty, pos := p, after := af, guard := none }).run C.P w = .ok (.value (.map (some w.heap.size))) (w.alloc (.map #[] 0)) by simp [execOp, run_makeMap]]
  have hb := below_refl_alloc w (.map #[] 0)
  obtain ⟨hI', hF⟩ := hH.below hb
  have hnew : (w.alloc (.map #[] 0)).heap[w.heap.size]? = some (.map #[] 0) := (MapKept.heap_alloc w _).1
  refine hK1 _ _ (hK w.heap.size hH.keeps.size Q _ _ ⟨hv, hI', hk, hm, hpin, sinv_put (hS.mono (fun _ _ h => h) hF) (fun u hu => by rw [← Option.some.inj hu, hN]; exact ht) ?_⟩ hQ)
  refine (RepP.mp (some w.heap.size) _ w.heap.size (.map #[] 0) (fun c hc => (Option.some.inj hc).symm) ⟨⟨(Array.getElem?_eq_some_iff.1 hnew).1, hH.gnew _ (Nat.le_refl _)⟩, fun h ob hl hb2 => ?_⟩ hnew ⟨_, _, rfl⟩ (MapS.of (World.ownsMap_made w C.P k _) hnew (fun s => ⟨rfl, rfl⟩)))
  obtain ⟨vs, ho, _⟩ := hH.obs h ob hl
  have := (ho.lt _ hb2).2
  omega

theorem lk_map_updM {b : Nat} {M : Obj → Prop} : ∀ {sl : List (Nat × D)} {i : Nat} {d : D}, lk i (sl.map (fun q => (q.1, updM b M q.2))) = some d → ∃ d0, lk i sl = some d0 ∧ d = updM b M d0
  | [], i, d, h => by simp [lk] at h
  | (j, d1) :: l, i, d, h => by
    simp only [List.map_cons, lk_cons] at h ⊢
    split at h
    · rename_i e; subst e; cases h; exact ⟨d1, by simp, rfl⟩
    · rename_i e; rw [if_neg e]; exact lk_map_updM h
theorem wp_mapupd (hP : C.P = P) {t k e ty : TypeId} {m x v : Operand} {p : String} {af : Array Edge} {op : Op} {sl : List (Nat × D)} {hp : HP} {nx : Nat} (hop : op = .mapUpdate t m x v ∨ op = .insert t m x v)
    (hk : P.underlying k = some .string) (ht : P.underlying t = some (.map k e)) (he : P.underlying e = some (.int .i64)) {b n : Nat} {f : ByteArray → Option Int} {s : ByteArray} {z : Int} (hm : evD sl m = .mp (some b) (MapS P k e f n)) (hx : evD sl x = .val (.string s)) (hv : evD sl v = .val (.int .i64 z))
    (hz : (Lit.int .i64 z).wf = true) (hn : n < maxLen) (hsl : s.size ≤ maxLen) (hb : C.w0.heap.size ≤ b) (hst : ∀ q ∈ hp, ∀ y ∈ q.2.xs, ∀ d ∈ y, staysD d = true)
    {a : Act} {w : World} (hI : Inv C ⟨sl, hp, nx⟩ a w) {K1 : Act → World → Prop} {Q1 : Exit → Act → World → Prop}
    (hK1 : ∀ w', Inv C ⟨sl.map (fun q => (q.1, updM b (MapS P k e (fun u => if u = s then some z else f u) (n + 1)) q.2)), hp, nx⟩ (a.put none undef) w' → K1 (a.put none undef) w') :
    ({ dst := none, op := op, type := ty, pos := p, after := af, guard := none } : Oper).wp P a w K1 Q1 := by
  subst hP
  obtain ⟨hv', hH, hkk, hmm, hpin, hS⟩ := hI
  simp only at hH hkk hmm hpin hS
  have e1 := evD_ok hS m
  rw [hm] at e1
  have e1 : RepP w _ (.mp (some b) (MapS C.P k e f n)) (a.eval m) := e1
  have e2 := evD_ok hS x
  rw [hx] at e2
  have e2 := rep_val e2
  have e3 := evD_ok hS v
  rw [hv] at e3
  have e3 := rep_val e3
  generalize hem : a.eval m = vm at e1
  cases e1 with
  | mp _ _ b' o hob hF hheap ho hM =>
    obtain rfl := hob b rfl
    obtain ⟨D, hown, _, hf⟩ := hM
    have K0 := Maps.string_keyed hk
    have hown := hown w _ hheap
    have hkey : keyOf C.P k (.string s) = some (.string s.data.toList) := by simp [keyOf, hk, mapKey, hsl]
    obtain ⟨w', hrun, hown', hgr⟩ := hown.update K0 ht hn hkey (plainElem_int he hz)
    unfold Oper.wp
    rw [show (execOp a.eval { dst := none, op := op, type := ty, pos := p, after := af, guard := none }).run C.P w = .ok .skip w' by
      rcases hop with rfl | rfl <;> simp [execOp, hem, e2, e3, hrun, Result.andThen]]
    obtain ⟨es', c', hb', -⟩ := id hown'
    have hM' : MapS C.P k e (fun u => if u = s then some z else f u) (n + 1) (.map es' c') := MapS.of hown' hb' (fun u => by
      have hi : Maps.IsMap D := hown.isMap
      have hkl : WideAt.IsKeyLit (.string s.data.toList) := trivial
      by_cases e : u = s
      · subst e
        rw [if_pos rfl, Maps.has_put_same hi hkl, Maps.atKey_put_same hi hkl]
        exact ⟨rfl, rfl⟩
      · have hne : Lit.string u.data.toList ≠ .string s.data.toList := fun h => e (by
          have h2 := Lit.string.inj h
          cases u; cases s
          simpa using h2)
        rw [if_neg e, Maps.has_put_other hne, Maps.atKey_put_other hne]
        exact hf u)
    have hnb : ∀ h ob, lk h hp = some ob → (hv' h).ownBlock ≠ some b := hF.2
    refine hK1 _ ⟨hv', ⟨fun h ob hl => ?_, hH.inj, hH.base, ⟨hgr.os.trans hH.keeps.os, hgr.tape.trans hH.keeps.tape, hgr.output.trans hH.keeps.output, Nat.le_trans hH.keeps.size hgr.size, fun j hj hS' => ?_, hH.keeps.tab⟩, fun j hj => hH.gnew j (Nat.le_trans hgr.size hj)⟩, hkk, hmm, hpin, ⟨hS.defers, hS.size, fun i d hl => ?_⟩⟩
    · obtain ⟨vs, ho2, hg, hc⟩ := hH.obs h ob hl
      refine ⟨vs, ho2.kept hgr (.inr (hnb h ob hl)), hg, fun i j y d hi hj => ?_⟩
      obtain ⟨u, hu, h1, hr⟩ := hc i j y d hi hj
      refine ⟨u, hu, h1, ?_⟩
      have hd := hst (h, ob) (lk_mem hl) y (List.mem_of_getElem? hi) d (List.mem_of_getElem? hj)
      unfold RepO at hr ⊢
      split at hr
      · rename_i hdp; rw [if_pos hdp]; exact stays_C hd hr
      · rename_i hdp; rw [if_neg hdp]; exact stays_P hd hr
    · exact (hgr.block j (Nat.lt_of_lt_of_le hj hH.keeps.size) (fun e => by cases e; omega)).trans (hH.keeps.block j hj hS')
    · obtain ⟨d0, hl0, rfl⟩ := lk_map_updM hl
      exact updM_Rep (F' := FOf C.G hv' hp w') ⟨⟨Nat.lt_of_lt_of_le hF.1.1 hgr.size, hF.1.2⟩, hF.2⟩ hb' ⟨_, _, rfl⟩ hM' (hS.at_ i d0 hl0)
theorem sreg_mapupd (hP : C.P = P) {ops l : List Oper} {t k e ty : TypeId} {m x v : Operand} {p : String} {af : Array Edge} {op : Op} {sl : List (Nat × D)} {hp : HP} {nx : Nat} {K : St → Prop} (hop : op = .mapUpdate t m x v ∨ op = .insert t m x v)
    (hk : P.underlying k = some .string) (ht : P.underlying t = some (.map k e)) (he : P.underlying e = some (.int .i64)) {b n : Nat} {f : ByteArray → Option Int} {s : ByteArray} {z : Int} (hm : evD sl m = .mp (some b) (MapS P k e f n)) (hx : evD sl x = .val (.string s)) (hv : evD sl v = .val (.int .i64 z))
    (hz : (Lit.int .i64 z).wf = true) (hn : n < maxLen) (hsl : s.size ≤ maxLen) (hb : C.w0.heap.size ≤ b) (hst : ∀ q ∈ hp, ∀ y ∈ q.2.xs, ∀ d ∈ y, staysD d = true)
    (hK : SReg C ops l ⟨sl.map (fun q => (q.1, updM b (MapS P k e (fun u => if u = s then some z else f u) (n + 1)) q.2)), hp, nx⟩ K) : SReg C ops ({ dst := none, op := op, type := ty, pos := p, after := af, guard := none } :: l) ⟨sl, hp, nx⟩ K := fun Q a w hI hQ => by
  refine wpList_step (fun K1 hK1 => ?_)
  simp only [Region.wanted, if_true]
  have hI2 := hI
  subst hP
  exact wp_mapupd rfl hop hk ht he hm hx hv hz hn hsl hb hst hI2 (fun w' h => hK1 _ _ (hK Q _ _ h hQ))
theorem anyS_mapupd (hP : C.P = P) {ops : List Oper} {t k e ty : TypeId} {m x v : Operand} {p : String} {af : Array Edge} {op : Op} {sl : List (Nat × D)} {hp : HP} {nx fuel i : Nat} {listed : Array Bool} {K : St → Prop} (ho : ops[i]? = some { dst := none, op := op, type := ty, pos := p, after := af, guard := none }) (hr : readyL ops listed = [i]) (hend : readyL ops (listed.setIfInBounds i true) = []) (hop : op = .mapUpdate t m x v ∨ op = .insert t m x v)
    (hk : P.underlying k = some .string) (ht : P.underlying t = some (.map k e)) (he : P.underlying e = some (.int .i64)) {b n : Nat} {f : ByteArray → Option Int} {s : ByteArray} {z : Int} (hm : evD sl m = .mp (some b) (MapS P k e f n)) (hx : evD sl x = .val (.string s)) (hv : evD sl v = .val (.int .i64 z))
    (hz : (Lit.int .i64 z).wf = true) (hn : n < maxLen) (hsl : s.size ≤ maxLen) (hb : C.w0.heap.size ≤ b) (hst : ∀ q ∈ hp, ∀ y ∈ q.2.xs, ∀ d ∈ y, staysD d = true)
    (hK : K ⟨sl.map (fun q => (q.1, updM b (MapS P k e (fun u => if u = s then some z else f u) (n + 1)) q.2)), hp, nx⟩) : AnyS C ops K (fuel + 1) listed ⟨sl, hp, nx⟩ := fun a w hI => by
  subst hP
  rw [← ready_list] at hr
  refine ⟨fun h0 => (by rw [h0] at hr; cases hr), fun j hj => ?_⟩
  rw [hr] at hj
  obtain rfl := List.mem_singleton.1 hj
  unfold wpOp
  rw [show ops.toArray[j]? = some _ by simpa using ho]
  simp only [Region.wanted, if_true]
  exact .inl (wp_mapupd rfl hop hk ht he hm hx hv hz hn hsl hb hst hI (fun w' h => anyS_done hend hK _ _ h))

section look
variable {k e t : TypeId} (hk : P.underlying k = some .string) (ht : P.underlying t = some (.map k e)) (he : P.underlying e = some (.int .i64)) (hz : ∀ w : World, (zeroValue e).run P w = .ok (.int .i64 0) w)
include hk ht he hz
theorem oprel_lookup {o : Oper} {m x : Operand} (ho : o.op = .lookup t m x false) {ev : Operand → D} {hp : HP} {nx n : Nat} {ob : Option Nat} {f : ByteArray → Option Int} {s : ByteArray} (hm : ev m = .mp ob (MapS P k e f n)) (hx : ev x = .val (.string s)) (hsl : s.size ≤ maxLen) :
    OpRel P o ev hp nx { d := .val (.int .i64 ((f s).getD 0)) } := by
  refine ⟨⟨fun p hp => by simp at hp, rfl⟩, fun w0 S G hv a w hI hkk hev K Q hK => ?_⟩
  have e1 := hev m
  rw [hm] at e1
  have e1 : RepP w _ (.mp ob (MapS P k e f n)) (a.eval m) := e1
  have e2 := hev x
  rw [hx] at e2
  have e2 := rep_val e2
  generalize hem : a.eval m = vm at e1
  cases e1 with
  | mp _ _ b o' hob hF hheap ho' hM =>
    obtain ⟨D, hown, _, hf⟩ := hM
    have hown := hown w _ hheap
    have hkey : keyOf P k (.string s) = some (.string s.data.toList) := by simp [keyOf, hk, mapKey, hsl]
    obtain ⟨c, hrun, hat, _⟩ := hown.lookup_int (Maps.string_keyed hk) ht he (hz w) hkey
    have hc : (f s).getD 0 = c := by
      have h := (hf s).2
      rw [hat] at h
      injection h with h; injection h with h h2; exact h2.symm
    unfold Oper.wp
    rw [show (execOp a.eval o).run P w = .ok (.value (.int .i64 ((f s).getD 0))) w by simp [execOp, ho, hem, e2, hrun, hc]]
    exact hK _ hv w (post_same hI (rep_mk _))
theorem oprel_lookup_ok {o : Oper} {m x : Operand} (ho : o.op = .lookup t m x true) {ev : Operand → D} {hp : HP} {nx n : Nat} {ob : Option Nat} {f : ByteArray → Option Int} {s : ByteArray} (hm : ev m = .mp ob (MapS P k e f n)) (hx : ev x = .val (.string s)) (hsl : s.size ≤ maxLen) :
    OpRel P o ev hp nx { d := .tup [.val (.int .i64 ((f s).getD 0)), .val (.bool (f s).isSome)] } := by
  refine ⟨⟨fun p hp => by simp at hp, rfl⟩, fun w0 S G hv a w hI hkk hev K Q hK => ?_⟩
  have e1 := hev m
  rw [hm] at e1
  have e1 : RepP w _ (.mp ob (MapS P k e f n)) (a.eval m) := e1
  have e2 := hev x
  rw [hx] at e2
  have e2 := rep_val e2
  generalize hem : a.eval m = vm at e1
  cases e1 with
  | mp _ _ b o' hob hF hheap ho' hM =>
    obtain ⟨D, hown, _, hf⟩ := hM
    have hown := hown w _ hheap
    have hkey : keyOf P k (.string s) = some (.string s.data.toList) := by simp [keyOf, hk, mapKey, hsl]
    obtain ⟨v, ps, hrun, hv'⟩ := hown.look_ok (Maps.string_keyed hk) ht (hz w) (plainElem_int he (by decide)) hkey
    obtain ⟨c, rfl, hc2, _⟩ := plainElem_int_inv he hv'
    have hc : (f s).getD 0 = c := by
      have h := (hf s).2
      rw [(Prod.mk.inj hc2).1] at h
      injection h with h; injection h with h h2; exact h2.symm
    unfold Oper.wp
    rw [show (execOp a.eval o).run P w = .ok (.value (.tuple #[.int .i64 ((f s).getD 0), .bool (f s).isSome])) w by simp [execOp, ho, hem, e2, hrun, hc, (hf s).1]]
    exact hK _ hv w (post_same hI ⟨[.int .i64 ((f s).getD 0), .bool (f s).isSome], rfl, (RepP.val _ : RepP w (FOf G hv hp w) _ _), (RepP.val _ : RepP w (FOf G hv hp w) _ _), trivial⟩)
end look

theorem weak_mp {t : Nat} {ob : Option Nat} {M M' : Obj → Prop} {sl : List (Nat × D)} {hp : HP} {nx : Nat} (ht : lk t sl = some (.mp ob M)) (hM : ∀ o, M o → M' o) : Weak C ⟨sl, hp, nx⟩ ⟨(t, .mp none M') :: sl, hp, nx⟩ := fun a w ⟨hv, hH, hk, hm, hpn, hS⟩ => by
  refine ⟨hv, hH, hk, hm, hpn, hS.defers, hS.size, fun i d hl => ?_⟩
  simp only [lk_cons] at hl
  split at hl
  · rename_i e; subst e; cases hl
    have h : RepP w (FOf C.G hv hp w) (.mp ob M) (a.tmps.getD i undef) := hS.at_ i _ ht
    generalize a.tmps.getD i undef = v at h
    cases h with
    | mp _ _ b o hob hF hb ho h => exact RepP.mp none M' b o (fun c hc => by cases hc) hF hb ho (hM o h)
  · exact hS.at_ i d hl

theorem oprel_s2b (hT : TOk P T) {o : Oper} {src dst e : TypeId} {x : Operand} (ho : o.op = .convert src dst x) {ev : Operand → D} {hp : HP} {nx : Nat} (ns : List Int) (hx : ev x = .val (.string (strOfNums ns))) (hb : ∀ n ∈ ns, 0 ≤ n ∧ n ≤ 255) (hlen : ns.length ≤ 1048576)
    (hsrc : (lk src T).map (fun ti : TI => ti.sh) = some .str) (hdst : (lk dst T).map (fun ti : TI => ti.sh) = some (.slice e)) (he : (lk e T).map (fun ti : TI => ti.sh) = some (.int .u8)) :
    OpRel P o ev hp nx { d := .sl 1 (ints .u8 ns) } := by
  refine ⟨⟨fun p hp => by simp at hp, rfl⟩, fun w0 S G hv a w hI hkk hev K Q hK => ?_⟩
  have e1 := hev x
  rw [hx] at e1
  have e1 := rep_val e1
  obtain ⟨t1, hl1, hs1⟩ := Option.map_eq_some_iff.1 hsrc
  have hu1 := TI.under_str (hT _ _ hl1) hs1
  obtain ⟨t2, hl2, hs2⟩ := Option.map_eq_some_iff.1 hdst
  have hu2 := TI.under_slice (hT _ _ hl2) hs2
  obtain ⟨t3, hl3, hs3⟩ := Option.map_eq_some_iff.1 he
  have hu3 := TI.under_int (hT _ _ hl3) hs3
  unfold Oper.wp
  rw [show (execOp a.eval o).run P w = .ok (.value (.slice (some ⟨w.heap.size, 0, none⟩) (strOfNums ns).size (grownCap w (strOfNums ns).size 0 e))) (Lib.bytesWorld w e (strOfNums ns)) by simp [execOp, ho, e1, Lib.run_convert_string_bytes w src dst e _ hu1 hu2 hu3]]
  have hbel : Below w.heap.size w (Lib.bytesWorld w e (strOfNums ns)) := ⟨rfl, rfl, rfl, by rw [Lib.bytesWorld_size]; omega, fun j hj => Lib.bytesWorld_at_old w e _ j hj⟩
  obtain ⟨hI', hF⟩ := hI.below hbel
  have hsz := strOfNums_size ns
  refine hK _ hv _ ⟨hI', ?_, fun d u hr => hr.mono (fun _ _ h => h) hF, fun _ _ _ _ => rfl⟩
  show RepP _ _ (.sl 1 (ints .u8 ns)) _
  have hge := grownCap_ge w (strOfNums ns).size 0 e
  have hle : grownCap w (strOfNums ns).size 0 e ≤ maxLen := grownCap_le_maxLen w _ 0 e (by rw [hsz]; simp only [maxLen]; omega)
  rw [hsz] at hge hle ⊢
  have hli : (ints .u8 ns).length = ns.length := by simp
  rw [← hli]
  refine RepP.sl 1 (ints .u8 ns) (some ⟨w.heap.size, 0, none⟩) _ (fun i j => .int .u8 (ns.getD i 0)) (fun y hy => by obtain ⟨n, _, rfl⟩ := List.mem_map.1 hy; rfl) (fun h => by cases h) ⟨by rw [hli]; exact hge, by rw [hli]; exact hle⟩ (fun ad ha _ => by
    cases ha
    refine ⟨⟨⟨by rw [Lib.bytesWorld_size]; exact Nat.lt_succ_self _, hI.gnew _ (Nat.le_refl _)⟩, fun h ob hl hb2 => ?_⟩, rfl⟩
    obtain ⟨vs, ho2, _⟩ := hI.obs h ob hl
    exact absurd (ho2.lt _ hb2).2 (Nat.lt_irrefl _)) (fun ad i j y d ha hi hj => ?_) (fun i j y d hi hj => ?_)
  · cases ha
    have hil : i < ns.length := by have := (List.getElem?_eq_some_iff.1 hi).1; simpa using this
    rw [ints_get .u8 ns i hil] at hi
    cases hi
    have hj0 : j = 0 := by
      cases j with
      | zero => rfl
      | succ j => simp at hj
    subst hj0
    refine ⟨?_, rfl⟩
    have := Lib.bytesWorld_cell w e (strOfNums ns) i (by rw [hsz]; exact hil)
    simp only [Nat.mul_one, Nat.add_zero, Nat.zero_add]
    rw [this]
    have hm := hb _ (getD_mem' (d := 0) hil)
    rw [strOfNums_data]
    congr 2
    have e2 : (ns.map fun n => UInt8.ofNat n.toNat).getD i 0 = UInt8.ofNat (ns.getD i 0).toNat := by simp [List.getD, hil]
    rw [e2, UInt8.toNat_ofNat']
    omega
  · have hil : i < ns.length := by have := (List.getElem?_eq_some_iff.1 hi).1; simpa using this
    rw [ints_get .u8 ns i hil] at hi
    cases hi
    have hj0 : j = 0 := by
      cases j with
      | zero => rfl
      | succ j => simp at hj
    subst hj0
    simp at hj
    subst hj
    exact RepP.val _

theorem oprel_b2sA (hT : TOk P T) {o : Oper} {src dst e : TypeId} {x : Operand} (ho : o.op = .convert src dst x) {ev : Operand → D} {hp : HP} {nx k : Nat} {ob : Ob} (ns : List Int)
    (hx : ev x = .own k) (hob : lk k hp = some ob) (hxs : ob.xs = ns.map fun n => [.val (.int .u8 n)]) (hsz : ob.sz = 1)
    (hsrc : (lk src T).map (fun ti : TI => ti.sh) = some (.slice e)) (he : (lk e T).map (fun ti : TI => ti.sh) = some (.int .u8)) (hdst : (lk dst T).map (fun ti : TI => ti.sh) = some .str) :
    OpRel P o ev hp nx { d := .val (.string (strOfNums ns)) } := by
  by_cases hn : ns = []
  · subst hn
    refine ⟨⟨fun p hp => by simp at hp, rfl⟩, fun w0 S G hv a w hI hk hev K Q hK => ?_⟩
    have e1 := hev x
    rw [hx] at e1
    obtain ⟨s1, hL1⟩ := e1
    rw [LOf_eq hob] at hL1
    simp only [Option.some.injEq, Prod.mk.injEq] at hL1
    obtain ⟨hv1, -⟩ := hL1
    obtain ⟨t1, hl1, hs1⟩ := Option.map_eq_some_iff.1 hsrc
    have hu1 := TI.under_slice (hT _ _ hl1) hs1
    obtain ⟨t2, hl2, hs2⟩ := Option.map_eq_some_iff.1 he
    have hu2 := TI.under_int (hT _ _ hl2) hs2
    obtain ⟨t3, hl3, hs3⟩ := Option.map_eq_some_iff.1 hdst
    have hu3 := TI.under_str (hT _ _ hl3) hs3
    obtain ⟨vs, hown, hg, hc⟩ := hI.obs k ob hob
    have hlen : ob.xs.length = 0 := by rw [hxs]; rfl
    have hrun : (execOp a.eval o).run P w = .ok (.value (.string (strOfNums []))) w := by
      obtain ⟨dst', op, type, pos, after, guard⟩ := o
      simp only at ho
      subst ho
      rw [hv1] at hown
      rcases hown.2 with ⟨h5, _⟩ | ⟨g, cap, cur, h5, _⟩
      · simp [execOp, h5, convert, run_underlying hu1, run_underlying hu2, run_underlying hu3, Conv.bytesToString]
        rfl
      · have h1 := run_convert_bytes_arg w src e hu1 hu2 g 0 0 cap [] rfl (fun i hi => absurd hi (Nat.not_lt_zero _)) dst hu3
        rw [hlen] at h5
        simp only [execOp, Sem.run_bind, h5, h1]
        rfl
    unfold Oper.wp
    rw [hrun]
    exact hK _ hv w (post_same hI (rep_mk _))
  · exact oprel_b2s hT ho ns hx hob hxs hn hsz hsrc he hdst

theorem oprel_s2bO (hT : TOk P T) {o : Oper} {src dst e : TypeId} {x : Operand} (ho : o.op = .convert src dst x) {ev : Operand → D} {hp : HP} {nx : Nat} (ns : List Int) (hx : ev x = .val (.string (strOfNums ns))) (hb : ∀ n ∈ ns, 0 ≤ n ∧ n ≤ 255) (hlen : ns.length ≤ 1048576)
    (hsrc : (lk src T).map (fun ti : TI => ti.sh) = some .str) (hdst : (lk dst T).map (fun ti : TI => ti.sh) = some (.slice e)) (he : (lk e T).map (fun ti : TI => ti.sh) = some (.int .u8)) :
    OpRel P o ev hp nx { d := .own nx, new := [(nx, ⟨mkTy, 1, false, ints .u8 ns⟩)] } := by
  refine ⟨⟨fun p hp => by simp at hp; subst hp; simp, rfl⟩, fun w0 S G hv a w hI hkk hev K Q hK => ?_⟩
  have e1 := hev x
  rw [hx] at e1
  have e1 := rep_val e1
  obtain ⟨t1, hl1, hs1⟩ := Option.map_eq_some_iff.1 hsrc
  have hu1 := TI.under_str (hT _ _ hl1) hs1
  obtain ⟨t2, hl2, hs2⟩ := Option.map_eq_some_iff.1 hdst
  have hu2 := TI.under_slice (hT _ _ hl2) hs2
  obtain ⟨t3, hl3, hs3⟩ := Option.map_eq_some_iff.1 he
  have hu3 := TI.under_int (hT _ _ hl3) hs3
  have hfresh : lk nx hp = none := by
    cases h : lk nx hp with
    | none => rfl
    | some ob => exact absurd (hkk nx ob h) (Nat.lt_irrefl _)
  have hsz := strOfNums_size ns
  have hge := grownCap_ge w (strOfNums ns).size 0 e
  have hle : grownCap w (strOfNums ns).size 0 e ≤ maxLen := grownCap_le_maxLen w _ 0 e (by rw [hsz]; simp only [maxLen]; omega)
  unfold Oper.wp
  rw [show (execOp a.eval o).run P w = .ok (.value (.slice (some ⟨w.heap.size, 0, none⟩) (strOfNums ns).size (grownCap w (strOfNums ns).size 0 e))) (Lib.bytesWorld w e (strOfNums ns)) by simp [execOp, ho, e1, Lib.run_convert_string_bytes w src dst e _ hu1 hu2 hu3]]
  have hbel : Below w.heap.size w (Lib.bytesWorld w e (strOfNums ns)) := ⟨rfl, rfl, rfl, by rw [Lib.bytesWorld_size]; omega, fun j hj => Lib.bytesWorld_at_old w e _ j hj⟩
  have hcells : (strOfNums ns).data.toList.map (fun b => Value.int .u8 (b.toNat : Int)) = ns.map (Value.int .u8) := by
    rw [strOfNums_data, List.map_map]
    apply List.map_congr_left
    intro n hn
    have := hb n hn
    simp only [Function.comp, UInt8.toNat_ofNat']
    congr 1
    omega
  have hcs : (Lib.bytesCells w e (strOfNums ns)).size = grownCap w (strOfNums ns).size 0 e := by
    simp only [Lib.bytesCells, Array.size_append, Array.size_map, Array.size_replicate]
    have : (strOfNums ns).data.size = (strOfNums ns).size := rfl
    omega
  have htake : (Lib.bytesCells w e (strOfNums ns)).toList.take (ns.length * 1) = ns.map (Value.int .u8) := by
    simp only [Lib.bytesCells, Array.toList_append, Array.toList_map, hcells, Nat.mul_one]
    rw [List.take_append_of_le_length (by simp), List.take_of_length_le (by simp)]
  obtain ⟨hI', hL', hF'⟩ := hI.alloc hfresh (ob := ⟨mkTy, 1, false, ints .u8 ns⟩) (v := .slice (some ⟨w.heap.size, 0, none⟩) (strOfNums ns).size (grownCap w (strOfNums ns).size 0 e)) hbel (fun b hb2 => by simp [Value.ownBlock] at hb2; omega)
    ⟨ns.map (Value.int .u8), ⟨by simp, .inr ⟨w.heap.size, _, _, by rw [hsz]; simp, Nat.zero_le _, ⟨e, _, Lib.bytesWorld_at_new w e _, .inr ⟨rfl, .inr (Nat.le_refl _)⟩⟩, by simp only [List.length_map]; rw [← hsz]; exact hge, hle, by rw [hcs, Nat.mul_one], by simpa using htake⟩⟩,
      fun y hy => by obtain ⟨n, _, rfl⟩ := List.mem_map.1 hy; rfl, fun i j y d hi hj => by
        have hil : i < ns.length := by have := (List.getElem?_eq_some_iff.1 hi).1; simpa using this
        have hi : (ints .u8 ns)[i]? = some y := hi
        rw [ints_get .u8 ns i hil] at hi
        cases hi
        have hj0 : j = 0 := by
          cases j with
          | zero => rfl
          | succ j => simp at hj
        subst hj0
        simp at hj
        subst hj
        exact ⟨.int .u8 (ns.getD i 0), by simp [List.getD, hil], rfl, RepP.val _⟩⟩
  refine hK _ _ _ ⟨hI', ⟨1, ?_⟩, fun d u hr => hr.mono hL' hF', fun h ob hl _ => if_neg (fun e => by rw [e, hfresh] at hl; cases hl)⟩
  simp [Res.hpOf, updHP, LOf, lk_cons]
theorem weak_own_vw {C : Ctx} {t h : Nat} {sl : List (Nat × D)} {hp : HP} {nx : Nat} {ob : Ob} (ht : lk t sl = some (.own h)) (hl : lk h hp = some ob) : Weak C ⟨sl, hp, nx⟩ ⟨(t, .vw h 0 ob.xs.length) :: sl, hp, nx⟩ := fun a w ⟨hv, hH, hk, hm, hpn, hS⟩ => by
  refine ⟨hv, hH, hk, hm, hpn, hS.defers, hS.size, fun t' d hd => ?_⟩
  rw [lk_cons] at hd
  split at hd
  · rename_i e
    subst e
    cases hd
    have h1 := hS.at_ _ _ ht
    obtain ⟨s, hL⟩ := h1
    have hL' := hL
    rw [LOf_eq hl] at hL'
    simp only [Option.some.injEq, Prod.mk.injEq] at hL'
    obtain ⟨hvk, rfl⟩ := hL'
    obtain ⟨vs, hown, _, _⟩ := hH.obs h ob hl
    rcases hown.2 with ⟨hx, h0⟩ | ⟨g, cap, cur, hvs, _, _, hc1, hc2, _⟩
    · exact ⟨none, 0, 0, 0, ob.sz, none, by rw [← hvk, hx, h0], by show LOf hv hp h = _; rw [LOf_eq hl, hx], by omega, ⟨by omega, Nat.zero_le _, by omega⟩, fun _ => rfl, fun h => absurd h (by omega)⟩
    · exact ⟨some ⟨g, 0, none⟩, cap, ob.xs.length, cap, ob.sz, some ⟨g, 0, none⟩, by rw [← hvk, hvs], by show LOf hv hp h = _; rw [LOf_eq hl, hvs], by omega, ⟨hc1, hc2, by omega⟩, (fun h => by cases h), fun _ => ⟨g, rfl, by simp⟩⟩
  · exact hS.at_ t' d hd
end Go.Proofs.YtpdkhlpmiblflaaGreat.Abs

/- Abs, part 61: append onto what is left of a slice whose head was cut off. -/
set_option linter.unusedVariables false
set_option linter.unusedSimpArgs false
namespace Go.Proofs.YtpdkhlpmiblflaaGreat.Abs
open Go Go.RowKit
variable {P : Program} {T : TT} {C : Ctx}

theorem run_append_view (w : World) (t ty e : TypeId) (i : TypeInfo) (z : Value) (size bytes : Nat) (ht : P.underlying t = some (.slice e)) (hi : P.info? e = some i) (hz : i.zero = some z)
    (hsize : i.size = size) (hby : i.bytes = bytes) (hzs : z.cells.size = size) (hsz : 0 < size) (g m cap : Nat) (xs : List Value) (hown : oRow w 0 e size (.slice (some ⟨g, 0, none⟩) m cap) m xs)
    (A : Option Addr) (lo n c : Nat) (hlo : lo + n = m) (hc : c + lo = cap) (hA0 : A = none → c = 0) (hA : 0 < c → A = some ⟨g, lo * size, none⟩) (hnc : n ≤ c)
    (ad : Addr) (k cc : Nat) (hk : 0 < k) (news : List Value) (hl : news.length = k * size) (hnews : ∀ j u, news[j]? = some u → w.cell? (ad.add j) = some u) (h1 : ∀ u ∈ news, u.oneCell' = true)
    (h63 : n + k ≤ maxLen) (hbytes : (n + k) * bytes ≤ 140737488355328) :
    ∃ v' w', (Builtin.append_ #[t, t] ty #[.slice A n c, .slice (some ad) k cc]).run P w = .ok v' w' ∧
      ((v' = .slice A (n + k) c ∧ n + k ≤ c ∧ oRow w' 0 e size (.slice (some ⟨g, 0, none⟩) (m + k) cap) (m + k) (xs ++ news) ∧ w.grownBy w' (some g)) ∨
       (∃ c', v' = .slice (some ⟨w.heap.size, 0, none⟩) (n + k) c' ∧ n + k ≤ c' ∧ c' ≤ maxLen ∧ oRow w' 0 e size v' (n + k) (xs.drop (lo * size) ++ news) ∧ w.grownBy w' (some g))) := by
  subst hsize
  subst hby
  have hsmall : n + k ≤ 9223372036854775807 := by simp only [maxLen] at h63; omega
  have hxl : xs.length = m * i.size := hown.1
  rcases hown.2 with ⟨h, _⟩ | ⟨g', cap', cur, hv, hbg, ⟨e', fz, hg, hmk⟩, hnm, hcm, hcs, htake⟩
  · cases h
  simp only [Value.slice.injEq, Option.some.injEq, Addr.mk.injEq] at hv
  obtain ⟨⟨rfl, -⟩, -, rfl⟩ := hv
  have hdl : (xs.drop (lo * i.size)).length = n * i.size := by
    rw [List.length_drop, hxl, ← hlo, Nat.add_mul]; omega
  have hlen : (xs.drop (lo * i.size) ++ news).length = (n + k) * i.size := by rw [List.length_append, hdl, hl, Nat.add_mul]
  have grown : ∀ (old : Nat),
      oRow (w.drew.alloc (.cells ((xs.drop (lo * i.size)).toArray ++ news.toArray ++ Builtin.zeroCells z.cells (grownCap w (n + k) old e - (n + k))) e)) 0 e i.size
        (.slice (some ⟨w.heap.size, 0, none⟩) (n + k) (grownCap w (n + k) old e)) (n + k) (xs.drop (lo * i.size) ++ news) ∧
      w.grownBy (w.drew.alloc (.cells ((xs.drop (lo * i.size)).toArray ++ news.toArray ++ Builtin.zeroCells z.cells (grownCap w (n + k) old e - (n + k))) e)) (some g) := by
    intro old
    have hge := grownCap_ge w (n + k) old e
    have hcm2 : grownCap w (n + k) old e ≤ maxLen := grownCap_le_maxLen w (n + k) old e h63
    refine ⟨oRow_of ⟨hlen, .inr ⟨w.heap.size, _, _, rfl, Nat.zero_le _, heap_alloc_new w.drew _, hge, hcm2, ?_, ?_⟩⟩, ⟨rfl, rfl, rfl, by simp, fun j hj _ => by simp [World.drew, World.alloc, Array.getElem?_push_lt hj, Array.getElem?_eq_getElem hj, -World.alloc_eq, -World.drew_eq]⟩⟩
    · simp only [Array.size_append, List.size_toArray, size_zeroCells, hzs, hdl, hl, ← Nat.add_mul]
      congr 1
      omega
    · simp only [Array.toList_append, List.append_assoc]
      rw [← List.append_assoc, ← hlen]
      exact List.take_left
  by_cases hroom : n + k ≤ c
  · have hA' := hA (by omega)
    subst hA'
    have hfit : m * i.size + news.length ≤ cur.size := by rw [hl, hcs, ← Nat.add_mul]; exact Nat.mul_le_mul_right _ (by omega)
    have hoff : lo * i.size + n * i.size = m * i.size := by rw [← Nat.add_mul, hlo]
    have hsz2 : (cur.toList.take (m * i.size) ++ news ++ cur.toList.drop (m * i.size + news.length)).toArray.size = cur.size := by
      simp only [List.size_toArray, List.length_append, List.length_take, List.length_drop, Array.length_toList]
      omega
    refine ⟨.slice (some ⟨g, lo * i.size, none⟩) (n + k) c, w.setRow g (cur.toList.take (m * i.size) ++ news ++ cur.toList.drop (m * i.size + news.length)).toArray, ?_, .inl ⟨rfl, hroom, ⟨by rw [List.length_append, hxl, hl, Nat.add_mul], .inr ⟨g, _, _, rfl, hbg, ⟨e', fz, setRow_heap w g cur _ e' _ hg, by rw [hsz2]; exact hmk⟩, by omega, hcm, by rw [hsz2]; exact hcs, ?_⟩⟩, ⟨rfl, rfl, rfl, by simp, fun k hk hne => setRow_other w g k _ (fun e => hne (by rw [e]))⟩⟩⟩
    · have hr := run_append_roomF (P := P) w t ty e i ht hi g (lo * i.size) n c cur e' fz hg hmk.ok ad k cc news hl hnews h1 hroom (by rw [hoff]; exact hfit)
      rw [hoff] at hr
      exact hr
    · rw [htake]
      have : (xs ++ news).length = (m + k) * i.size := by rw [List.length_append, hxl, hl, Nat.add_mul]
      rw [← this]
      exact List.take_left
  · cases A with
    | none =>
      have hc0 := hA0 rfl
      have hn0 : n = 0 := by omega
      subst hn0
      subst hc0
      have hr := run_append_nil (P := P) w t ty e i z ht hi hz ad k cc news hl hnews hk (by omega) (by have hb := hbytes; simp only [Nat.zero_add] at hb; omega)
      have hgr := grown 0
      have hd0 : xs.drop (lo * i.size) = [] := List.eq_nil_of_length_eq_zero (by rw [hdl]; omega)
      rw [hd0] at hgr ⊢
      simp only [Nat.zero_add, List.nil_append, Array.empty_append] at hgr ⊢
      exact ⟨_, _, hr, .inr ⟨_, rfl, grownCap_ge w k 0 e, grownCap_le_maxLen w k 0 e (by simpa using h63), hgr.1, hgr.2⟩⟩
    | some b =>
      have holds : ∀ j u, (xs.drop (lo * i.size))[j]? = some u → w.cell? (b.add j) = some u := fun j u hj => by
        have hjl : j < n * i.size := by rw [← hdl]; exact (List.getElem?_eq_some_iff.1 hj).1
        have hn0 : 0 < n := by
          rcases Nat.eq_zero_or_pos n with h | h
          · subst h; simp at hjl
          · exact h
        cases hA (by omega)
        rw [addr_add, hown.cellAt (lo * i.size + j) (by rw [← hlo, Nat.add_mul]; omega)]
        rw [List.getElem?_drop] at hj
        exact hj
      have hr := run_append_grow (P := P) w t ty e i z ht hi hz b n c (xs.drop (lo * i.size)) hdl holds ad k cc news hl hnews (by omega) (by omega) (growslice_fits (by omega) hbytes)
      have hgr := grown c
      exact ⟨_, _, hr, .inr ⟨_, rfl, grownCap_ge w (n + k) c e, grownCap_le_maxLen w (n + k) c e h63, hgr.1, hgr.2⟩⟩

theorem sreg_appview (hT : TOk P T) (hP : C.P = P) {N : Nat} (hN : C.N = N) {ops l : List Oper} {t1 : Tmp} {x1 x2 : Operand} {t ty : TypeId} {p1 : String} {af1 : Array Edge} {sl : List (Nat × D)} {hp : HP} {nx : Nat} {K : St → Prop}
    (ht1 : t1 < N) {h lo n : Nat} {ob : Ob} {rows : List (List D)} {prow : Prop} {te : TI}
    (hx1 : evD sl x1 = .vw h lo n) (hob : lk h hp = some ob) (hdp : ob.deep = false) (hty : (lk t T).map (fun ti : TI => ti.sh) = some (.slice ob.ty)) (hte : lk ob.ty T = some te) (hsz : ob.sz = te.size) (hpos : 0 < te.size) (hrow : rowOf hp te.size (evD sl x2) = some (prow, rows, false)) (hprow : prow)
    (hrn : rows ≠ []) (hln : lo + n = ob.xs.length) (hne : ob.xs ≠ []) (hmh : C.m ≤ h) (h63 : n + rows.length ≤ 9223372036854775807) (hby : (n + rows.length) * te.bytes ≤ 140737488355328)
    (hK : ∀ (lo' : Nat) (xs' : List (List D)), xs'.drop lo' = ob.xs.drop lo ++ rows → lo' + (n + rows.length) = xs'.length → xs' ≠ [] → (∀ y ∈ xs', y ∈ ob.xs ∨ y ∈ rows) →
      SReg C ops l ((⟨sl, hp, nx⟩ : St).app (some t1) { d := .vw h lo' (n + rows.length), upd := [(h, ⟨ob.ty, ob.sz, false, xs'⟩)], dead := some h }) K) :
    SReg C ops ({ dst := some t1, op := .call ⟨.builtin .append, #[x1, x2], #[t, t]⟩, type := ty, pos := p1, after := af1, guard := none } :: l) ⟨sl, hp, nx⟩ K := fun Q a w hI hQ => by
  subst hP
  obtain ⟨hv, hH, hk, hm, hpin, hS⟩ := hI
  simp only at hH hk hm hpin hS
  have hev := evD_ok hS
  have hx1' := hev x1
  rw [hx1] at hx1'
  obtain ⟨A, c, m, cap, s1, a0, ea, hL1, hlo, hcc, hA0, hA⟩ := hx1'
  rw [LOf_eq hob] at hL1
  simp only [Option.some.injEq, Prod.mk.injEq] at hL1
  obtain ⟨hvh, rfl⟩ := hL1
  have hR := rowOf_ok hH (hev x2) hrow hprow
  obtain ⟨vs, hown, hg, hcv⟩ := hH.obs h ob hob
  obtain ⟨g, cap', hvf⟩ := own_form (hH.obs h ob hob) hne
  rw [hvf] at hvh
  simp only [Value.slice.injEq] at hvh
  obtain ⟨rfl, rfl, rfl⟩ := hvh
  rw [hvf] at hown
  obtain ⟨ti, hl, hsh⟩ := Option.map_eq_some_iff.1 hty
  have hu := TI.under_slice (hT _ _ hl) hsh
  obtain ⟨i, hi, his, hib, hiz⟩ := TI.info (hT _ _ hte)
  have hzs := (hT _ _ hte).2.2
  rcases hR.2 with ⟨_, hr0⟩ | ⟨ad, cc, hn, hnc, hc⟩
  · exact absurd hr0 hrn
  obtain ⟨news, hnl, hncell, hn1, hnr⟩ := row_cells hR.1 hc
  rw [hsz] at hown
  obtain ⟨v', w', hrun, hcase⟩ := run_append_view (P := C.P) w t ty ob.ty i te.zero te.size te.bytes hu hi hiz his hib hzs hpos g ob.xs.length cap' vs hown A lo n c hln hcc.2.2 hA0
    (fun h0 => by
      obtain ⟨g2, h1, h2⟩ := hA h0
      simp only [Option.some.injEq, Addr.mk.injEq, and_true] at h1
      subst h1
      rw [h2, hsz]) hcc.1 ad rows.length cc (List.length_pos_iff.2 hrn) news hnl hncell hn1 (by simpa [maxLen] using h63) hby
  -- the row that goes on, whichever it is
  have key : ∀ (lo' : Nat) (xs' : List (List D)) (vs' : List Value) (vh : Value) (capn : Nat), xs'.drop lo' = ob.xs.drop lo ++ rows → lo' + (n + rows.length) = xs'.length → oRow w' 0 ob.ty te.size vh xs'.length vs' → w.grownBy w' (some g) → (vh.ownBlock = some g ∨ vh.ownBlock = some w.heap.size) → Grid te.size xs' →
      (∀ (i j : Nat) (x : List D) (d : D), xs'[i]? = some x → x[j]? = some d → ∃ u, vs'[i * te.size + j]? = some u ∧ u.oneCell' = true ∧ RepP w (FOf C.G hv hp w) d u) → (∃ A' c' b', v' = .slice A' (n + rows.length) c' ∧ vh = .slice (some ⟨b', 0, none⟩) xs'.length capn ∧ n + rows.length ≤ c' ∧ c' ≤ maxLen ∧ c' + lo' = capn ∧ A' = some ⟨b', lo' * te.size, none⟩) →
      ∃ hv', Post C.w0 C.S C.G hv hp w { d := .vw h lo' (n + rows.length), upd := [(h, ⟨ob.ty, ob.sz, false, xs'⟩)], dead := some h } v' hv' w' := fun lo' xs' vs' vh capn _ hlen ho' hgr hblk hgrid hcells hform => by
    have hbk : (hv h).ownBlock = some g := by rw [hvf]; rfl
    have hlk : ∀ k, lk k (hset h ⟨ob.ty, ob.sz, false, xs'⟩ (killHP h hp)) = if k = h then some ⟨ob.ty, ob.sz, false, xs'⟩ else (lk k hp).map (Ob.kill h) := fun k => by
      rw [lk_hset]
      split
      · simp [lk_killHP, hob]
      · exact lk_killHP
    have hF : ∀ b, FOf C.G hv hp w b → FOf C.G (fun k => if k = h then vh else hv k) (hset h ⟨ob.ty, ob.sz, false, xs'⟩ (killHP h hp)) w' b ∧ w'.heap[b]? = w.heap[b]? := fun b hb => by
      refine ⟨⟨⟨Nat.lt_of_lt_of_le hb.1.1 hgr.size, hb.1.2⟩, fun k o hk => ?_⟩, hgr.block b hb.1.1 (fun e => hb.2 h ob hob (by rw [hbk, e]))⟩
      rw [hlk] at hk
      by_cases e : k = h
      · subst e
        simp only [if_true]
        rcases hblk with h1 | h1
        · rw [h1]; intro e2; exact hb.2 k ob hob (by rw [hbk]; exact e2)
        · rw [h1]; intro e2; have := Option.some.inj e2; have := hb.1.1; omega
      · simp only [if_neg e] at hk ⊢
        cases hk2 : lk k hp with
        | none => simp [hk2] at hk
        | some o2 => exact hb.2 k o2 hk2
    obtain ⟨hI', hL', hF'⟩ := hH.regrow hob (ob' := ⟨ob.ty, ob.sz, false, xs'⟩) rfl (v' := vh) (by rw [hbk]; exact hgr) (by rw [hbk]; exact hblk) (by
      refine ⟨vs', by rw [hsz]; exact ho', by rw [hsz]; exact hgrid, fun i j x d hi hj => ?_⟩
      obtain ⟨u, hu, h1, hr⟩ := hcells i j x d hi hj
      refine ⟨u, by rw [← hsz] at hu; exact hu, h1, ?_⟩
      simp only [RepO, Bool.false_eq_true, if_false]
      exact hr.mono hF)
    refine ⟨_, hI', ?_, fun d u hr => hr.killed hL' hF', fun k o hk hne => if_neg (fun e => hne (by rw [e]))⟩
    obtain ⟨A', c', b', rfl, rfl, h1, h2, h3, h4⟩ := hform
    refine ⟨A', c', xs'.length, capn, ob.sz, some ⟨b', 0, none⟩, rfl, ?_, by omega, ⟨h1, h2, h3⟩, (fun e => by rw [h4] at e; cases e), (fun _ => ⟨b', rfl, by rw [hsz]; exact h4⟩)⟩
    exact (LOf_eq (hv := fun k => if k = h then Value.slice (some ⟨b', 0, none⟩) xs'.length capn else hv k) (hp := hset h ⟨ob.ty, ob.sz, false, xs'⟩ (killHP h hp)) (ob := ⟨ob.ty, ob.sz, false, xs'⟩) (by rw [hlk, if_pos rfl])).trans (by simp)
  have hcv' : ∀ (i j : Nat) (x : List D) (d : D), ob.xs[i]? = some x → x[j]? = some d → ∃ u, vs[i * te.size + j]? = some u ∧ u.oneCell' = true ∧ RepP w (FOf C.G hv hp w) d u := fun i j x d hi hj => by
    obtain ⟨u, hu, h1, hr⟩ := hcv i j x d hi hj
    simp only [RepO, hdp, Bool.false_eq_true, if_false] at hr
    exact ⟨u, by rw [← hsz]; exact hu, h1, hr⟩
  have hgrid0 : Grid te.size ob.xs := by rw [← hsz]; exact hg
  -- both ways to the same
  have both : ∀ (xa : List (List D)) (va : List Value), va.length = xa.length * te.size → Grid te.size xa → (∀ (i j : Nat) (x : List D) (d : D), xa[i]? = some x → x[j]? = some d → ∃ u, va[i * te.size + j]? = some u ∧ u.oneCell' = true ∧ RepP w (FOf C.G hv hp w) d u) →
      Grid te.size (xa ++ rows) ∧ ∀ (i j : Nat) (x : List D) (d : D), (xa ++ rows)[i]? = some x → x[j]? = some d → ∃ u, (va ++ news)[i * te.size + j]? = some u ∧ u.oneCell' = true ∧ RepP w (FOf C.G hv hp w) d u := fun xa va hvl hga hca => by
    refine ⟨fun x hx => ?_, fun i j x d hi hj => ?_⟩
    · rcases List.mem_append.1 hx with hx | hx
      · exact hga x hx
      · exact hR.1 x hx
    · rcases append_get (news := news) hvl i j x hi with ⟨h1, h2⟩ | ⟨i', rfl, h1, h2⟩
      · obtain ⟨u, hu, h3, hr⟩ := hca i j x d h1 hj
        exact ⟨u, (h2 (by rw [← hvl]; exact (List.getElem?_eq_some_iff.1 hu).1)).trans hu, h3, hr⟩
      · obtain ⟨u, hu, h3, hr⟩ := hnr i' j x d h1 hj
        simp only [RepO, Bool.false_eq_true, if_false] at hr
        exact ⟨u, h2.trans hu, h3, hr⟩
  have hvl : vs.length = ob.xs.length * te.size := hown.1
  have fin : ∀ (lo' : Nat) (xs' : List (List D)), xs'.drop lo' = ob.xs.drop lo ++ rows → lo' + (n + rows.length) = xs'.length → (∀ y ∈ xs', y ∈ ob.xs ∨ y ∈ rows) → (∃ hv', Post C.w0 C.S C.G hv hp w { d := .vw h lo' (n + rows.length), upd := [(h, ⟨ob.ty, ob.sz, false, xs'⟩)], dead := some h } v' hv' w') →
      wpList C.P ops.toArray Q ({ dst := some t1, op := .call ⟨.builtin .append, #[x1, x2], #[t, t]⟩, type := ty, pos := p1, after := af1, guard := none } :: l) a w := fun lo' xs' h1 h2 h3 ⟨hv', hPost⟩ => by
    refine wpList_step (fun K1 hK1 => ?_)
    simp only [Region.wanted, if_true]
    unfold Oper.wp
    rw [show (execOp a.eval { dst := some t1, op := .call ⟨.builtin .append, #[x1, x2], #[t, t]⟩, type := ty, pos := p1, after := af1, guard := none }).run C.P w = .ok (.value v') w' by simp [execOp, resolve, invoke, builtin, ea, hn, hrun]]
    refine hK1 _ _ (hK lo' xs' h1 h2 (fun e => hrn (List.append_eq_nil_iff.1 (by rw [← h1, e]; simp)).2) h3 Q _ _ ?_ hQ)
    exact inv_app (st := ⟨sl, hp, nx⟩) hk hm hpin hS (fun u hu => by rw [← Option.some.inj hu, hN]; exact ht1) (fun p hp => by simp at hp) (fun k hk => by rw [← Option.some.inj hk]; exact hmh) hPost
  rcases hcase with ⟨rfl, hroom, ho', hgr⟩ | ⟨c', rfl, h1, h2, ho', hgr⟩
  · obtain ⟨b1, b2⟩ := both ob.xs vs hvl hgrid0 hcv'
    have hd : (ob.xs ++ rows).drop lo = ob.xs.drop lo ++ rows := List.drop_append_of_le_length (by omega)
    refine fin lo (ob.xs ++ rows) hd (by rw [List.length_append]; omega) (fun y hy => List.mem_append.1 hy) (key lo (ob.xs ++ rows) (vs ++ news) (.slice (some ⟨g, 0, none⟩) (ob.xs.length + rows.length) cap') cap' hd (by rw [List.length_append]; omega) (by rw [List.length_append]; exact ho') hgr (.inl rfl) b1 b2 ?_)
    have hrl := List.length_pos_iff.2 hrn
    obtain ⟨g2, e1, e2⟩ := hA (by omega)
    simp only [Option.some.injEq, Addr.mk.injEq, and_true] at e1
    subst e1
    exact ⟨A, c, g, rfl, by rw [List.length_append], hroom, hcc.2.1, hcc.2.2, by rw [e2, hsz]⟩
  · obtain ⟨b1, b2⟩ := both (ob.xs.drop lo) (vs.drop (lo * te.size)) (by rw [List.length_drop, List.length_drop, hvl, Nat.sub_mul]) (fun x hx => hgrid0 x (List.mem_of_mem_drop hx)) (fun i j x d hi hj => by
      rw [List.getElem?_drop] at hi
      obtain ⟨u, hu, h3, h4⟩ := hcv' (lo + i) j x d hi hj
      exact ⟨u, by rw [List.getElem?_drop, ← hu]; congr 1; rw [Nat.add_mul]; omega, h3, h4⟩)
    have hl2 : (ob.xs.drop lo ++ rows).length = n + rows.length := by rw [List.length_append, List.length_drop]; omega
    refine fin 0 (ob.xs.drop lo ++ rows) (by simp) (by rw [hl2]; omega) (fun y hy => (List.mem_append.1 hy).imp_left (fun h => List.mem_of_mem_drop h)) (key 0 (ob.xs.drop lo ++ rows) (vs.drop (lo * te.size) ++ news) (.slice (some ⟨w.heap.size, 0, none⟩) (n + rows.length) c') c' (by simp) (by rw [hl2]; omega) (by rw [hl2]; exact ho') hgr (.inr rfl) b1 b2 ?_)
    exact ⟨_, c', w.heap.size, rfl, by rw [hl2], h1, h2, by omega, by simp⟩
end Go.Proofs.YtpdkhlpmiblflaaGreat.Abs

