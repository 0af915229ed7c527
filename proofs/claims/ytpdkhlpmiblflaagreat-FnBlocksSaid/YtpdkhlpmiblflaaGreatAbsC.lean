import Derived.Test.YtpdkhlpmiblflaaGreatAbsB
import Derived.Lib.SliceRun
import Derived.Lib.Overlaps
import Derived.Laws.Externs
import Derived.Laws.BytesArg
import Derived.Lib.Join
/- Abs, part 22: rows of several kinds; steps that find their own proofs. -/
set_option linter.unusedVariables false
set_option linter.unusedSimpArgs false
namespace Go.Proofs.YtpdkhlpmiblflaaGreat.Abs
open Go Go.RowKit
variable {P : Program} {T : TT} {C : Ctx}

/-! ### Rows -/
abbrev ints (k : IntKind) (xs : List Int) : List (List D) := xs.map fun n => [.val (.int k n)]
theorem ints_get (k : IntKind) (xs : List Int) (i : Nat) (h : i < xs.length) : (ints k xs)[i]? = some [.val (.int k (xs.getD i 0))] := map_get (fun n : Int => [D.val (.int k n)]) xs i h
abbrev boolD (xs : List Bool) : List (List D) := xs.map fun b => [.val (.bool b)]
theorem boolD_get (xs : List Bool) (i : Nat) (h : i < xs.length) : (boolD xs)[i]? = some [.val (.bool (xs.getD i false))] := map_get (fun b : Bool => [D.val (.bool b)]) xs i h
abbrev i64ss (xs : List (List Int)) : List (List D) := xs.map fun x => [.sl 1 (i64s x)]
theorem i64ss_get (xs : List (List Int)) (i : Nat) (h : i < xs.length) : (i64ss xs)[i]? = some [.sl 1 (i64s (xs.getD i []))] := map_get (fun x : List Int => [D.sl 1 (i64s x)]) xs i h

structure Bk where
  cls : Int
  m0 : Int
  m1 : Int
  m2 : Int
  vol : Int
  wide : Int
  high : Int
  weight : Int
def bk0 : Bk := ⟨0, 0, 0, 0, 0, 0, 0, 0⟩
instance : Inhabited Bk := ⟨bk0⟩
theorem Bk.same {a b : Bk} (h1 : a.cls = b.cls) (h2 : a.m0 = b.m0) (h3 : a.m1 = b.m1) (h4 : a.m2 = b.m2) (h5 : a.vol = b.vol) (h6 : a.wide = b.wide) (h7 : a.high = b.high) (h8 : a.weight = b.weight) : a = b := by
  cases a; cases b; simp_all
abbrev isI16 (n : Int) : Prop := -32768 ≤ n ∧ n ≤ 32767
abbrev isU8 (n : Int) : Prop := 0 ≤ n ∧ n ≤ 255
abbrev isBk (b : Bk) : Prop := isI16 b.cls ∧ isU8 b.m0 ∧ isU8 b.m1 ∧ isU8 b.m2 ∧ isI16 b.vol ∧ isI16 b.wide ∧ isI16 b.high ∧ isI16 b.weight
abbrev bkRow (b : Bk) : List D := [.val (.int .i16 b.cls), .val (.int .u8 b.m0), .val (.int .u8 b.m1), .val (.int .u8 b.m2), .val (.int .i16 b.vol), .val (.int .i16 b.wide), .val (.int .i16 b.high), .val (.int .i16 b.weight)]
abbrev bkD (b : Bk) : D := .val (.agg #[.int .i16 b.cls, .int .u8 b.m0, .int .u8 b.m1, .int .u8 b.m2, .int .i16 b.vol, .int .i16 b.wide, .int .i16 b.high, .int .i16 b.weight])
abbrev bks (xs : List Bk) : List (List D) := xs.map bkRow
theorem bks_get (xs : List Bk) (i : Nat) (h : i < xs.length) : (bks xs)[i]? = some (bkRow (xs.getD i bk0)) := map_get bkRow xs i h
abbrev Pl := Int × Bk
def pl0 : Pl := (0, bk0)
abbrev plRow (p : Pl) : List D := [.val (.int .i16 p.1), .val (.int .i16 p.2.cls), .val (.int .u8 p.2.m0), .val (.int .u8 p.2.m1), .val (.int .u8 p.2.m2), .val (.int .i16 p.2.vol), .val (.int .i16 p.2.wide), .val (.int .i16 p.2.high), .val (.int .i16 p.2.weight)]
abbrev pls (xs : List Pl) : List (List D) := xs.map plRow
theorem pls_get (xs : List Pl) (i : Nat) (h : i < xs.length) : (pls xs)[i]? = some (plRow (xs.getD i pl0)) := map_get plRow xs i h
theorem getD_mem' {α : Type} {xs : List α} {i : Nat} {d : α} (h : i < xs.length) : xs.getD i d ∈ xs := by
  rw [show xs.getD i d = xs[i] by simp [List.getD, h]]; exact List.getElem_mem h
theorem list_ext' {α : Type} {d : α} {xs ys : List α} (hl : xs.length = ys.length) (h : ∀ j, j < xs.length → xs.getD j d = ys.getD j d) : xs = ys := by
  apply List.ext_getElem hl
  intro i h1 h2
  have := h i h1
  simpa [List.getD, h1, h2] using this
theorem map_set {α : Type} (f : α → List D) (xs : List α) (i : Nat) (v : α) : (xs.map f).set i (f v) = (xs.set i v).map f := by simp
theorem bks_set (xs : List Bk) (i : Nat) (v : Bk) : bks (xs.set i v) = (bks xs).set i (bkRow v) := by simp
theorem set_get {α : Type} {xs : List α} {i : Nat} {x : α} (h : i < xs.length) : (xs.set i x)[i]? = some x := by simp [h]
theorem map_rep {α : Type} (f : α → List D) (n : Nat) (v : α) : List.replicate n (f v) = (List.replicate n v).map f := by simp

/-! ### Function values -/
def Does (P : Program) {α : Type} (enc : α → List D) (dom : α → Prop) (r : α → D) (fn : D) : Prop :=
  ∃ (f : FuncId) (first caps : List D) (s : Spec α), fnParts fn = some (.func f, first, caps) ∧ first.all selfC = true ∧ caps.all selfC = true ∧ FnOk P f s ∧ (∀ x, s.args x = first ++ enc x ++ caps) ∧ (∀ x, dom x → s.pre x) ∧ (∀ x, s.obs x = []) ∧ (∀ x, s.out x = []) ∧ (∀ x, s.new x = []) ∧ ∀ x, s.res x = r x
theorem OpRel.does {α : Type} {enc : α → List D} {dom : α → Prop} {r : α → D} {fn : D} (h : Does P enc dom r fn) (x : α) (hx : dom x) {o : Oper} {cf : Operand} {args : Array Operand} {tys : Array TypeId} (ho : o.op = .call ⟨.value cf, args, tys⟩) {ev : Operand → D} {hp : HP} {nx : Nat} (hcf : ev cf = fn) (hy : args.toList.map ev = enc x) (hself : (enc x).all selfC = true) {d : D} (hren : ren [] (r x) = some d) (hflat : flatD (r x) = true) :
    OpRel P o ev hp nx { d := d } := by
  obtain ⟨f, first, caps, s, h1, h2, h3, h4, h5, h6, h7, h8, h9, h10⟩ := h
  have hargs : Args hp [] (s.args x) (first ++ args.toList.map ev ++ caps) := by
    rw [h5]
    exact args_append (args_append (args_self h2) (by rw [hy]; exact args_self hself)) (args_self h3)
  have := OpRel.call (hp := hp) (nx := nx) (d := d) h4 x [] (by simp) ho (by rw [hcf]; exact h1) (h6 x hx) hargs (by rw [h7]; trivial) (by rw [h10, h9]; exact hren) ⟨by rw [h10]; exact hflat, by rw [h8, h9]; intro o ho; simp at ho⟩
  rw [h8, h9] at this
  simpa [numbered, updOf] using this
theorem arga_does {α : Type} {enc : α → List D} {dom : α → Prop} {r : α → D} {fn : D} {hp : HP} {ks : List Nat} (h : Does P enc dom r fn) : ArgA hp ks fn fn := by
  obtain ⟨f, first, caps, s, h1, h2, h3, _⟩ := h
  unfold fnParts at h1
  split at h1
  · cases h1
    exact ⟨rfl, argL_self h2, argL_self h3⟩
  · cases h1; simp [ArgA, ArgC]
  · simp [ArgA, ArgC]
  · cases h1
theorem arga_fnval {hp : HP} {ks : List Nat} {f : Fn} : ArgA hp ks (.val (.func f #[] #[])) (.fn f [] []) := ⟨rfl, rfl, rfl⟩
theorem arga_clo {hp : HP} {ks : List Nat} {f : Fn} {cs cs' : List D} (h : ArgL hp ks cs cs') (hr : cs.all rptrD = true) : ArgA hp ks (.clo f cs) (.fn f [] cs') := ⟨rfl, rfl, hr, h⟩
theorem arga_slcvw {hp : HP} {ks : List Nat} {h i off n : Nat} {ob : Ob} {x : List D} {xs : List (List D)} (hn : h ∉ ks) (hl : lk h hp = some ob) (hx : ob.xs[i]? = some x) (ha : x.all hf = true) (e : ((x.drop off).take n).map (fun d => [d]) = xs) : ArgA hp ks (.sl 1 xs) (.cvw h i off 1 n) := ⟨hn, rfl, rfl, ob, x, hl, hx, ha, e⟩
def fnCell : D → Bool
  | .val (.func _ _ _) | .clo _ _ => true
  | _ => false
theorem fnCell_ok {d : D} (h : fnCell d = true) : dcells d = [d] ∧ cellsOk d = true ∧ hf d = true ∧ selfC d = true := by
  unfold fnCell at h
  split at h
  · exact ⟨rfl, rfl, rfl, rfl⟩
  · exact ⟨rfl, rfl, rfl, rfl⟩
  · cases h

theorem fm_nil {α : Type} {q : α → Prop} : ∀ p ∈ ([] : List α), q p := fun p h => by simp at h
theorem fm_cons {α : Type} {q : α → Prop} {a : α} {l : List α} (h : q a) (k : ∀ p ∈ l, q p) : ∀ p ∈ a :: l, q p := fun p hp => by
  rcases List.mem_cons.1 hp with rfl | hp
  · exact h
  · exact k p hp
theorem flatO_map {α : Type} (f : α → List D) (h : ∀ a, ∀ d ∈ f a, (match d with | .any | .val _ | .nil => true | _ => false) = true) (ty : TypeId) (sz : Nat) (dp : Bool) (xs : List α) : flatO ⟨ty, sz, dp, xs.map f⟩ := fun x hx d hd => by
  obtain ⟨a, _, rfl⟩ := List.mem_map.1 hx
  exact h a d hd
theorem flat_i64s (ty : TypeId) (sz : Nat) (dp : Bool) (xs : List Int) : flatO ⟨ty, sz, dp, i64s xs⟩ := flatO_map _ (fun a d hd => by simp at hd; subst hd; rfl) _ _ _ _
theorem flat_ints (k : IntKind) (ty : TypeId) (sz : Nat) (dp : Bool) (xs : List Int) : flatO ⟨ty, sz, dp, ints k xs⟩ := flatO_map _ (fun a d hd => by simp at hd; subst hd; rfl) _ _ _ _
theorem flat_boolD (ty : TypeId) (sz : Nat) (dp : Bool) (xs : List Bool) : flatO ⟨ty, sz, dp, boolD xs⟩ := flatO_map _ (fun a d hd => by simp at hd; subst hd; rfl) _ _ _ _
theorem flat_bks (ty : TypeId) (sz : Nat) (dp : Bool) (xs : List Bk) : flatO ⟨ty, sz, dp, bks xs⟩ := flatO_map bkRow (fun a d hd => by simp [bkRow] at hd; rcases hd with rfl | rfl | rfl | rfl | rfl | rfl | rfl | rfl <;> rfl) _ _ _ _
theorem flat_pls (ty : TypeId) (sz : Nat) (dp : Bool) (xs : List Pl) : flatO ⟨ty, sz, dp, pls xs⟩ := flatO_map plRow (fun a d hd => by simp [plRow] at hd; rcases hd with rfl | rfl | rfl | rfl | rfl | rfl | rfl | rfl | rfl <;> rfl) _ _ _ _
/-! ### Steps that find their own proofs -/
theorem xn1 : ([] : List Nat).length = 0 := rfl
theorem xn2 : ([] : List Nat).length = 0 := rfl
section steps
variable {m : Nat} {ops l : List Oper} {st st' : St} {K : St → Prop} {Q : Exit → St → Prop} {dst : Option Tmp} {op : Op} {ty : TypeId} {pos : String} {af : Array Edge}
theorem g1 {pre : Prop} {r : Res} (hK : areg P T m ops l st' K) (hs : astep T op (evD st.sl) st.hp st.nx = some (pre, r) := by first | rfl | exact astep_load_r (by rfl) (by rfl) (by first | assumption | exact i64s_get _ _ (by omega) | exact bks_get _ _ (by omega) | exact pls_get _ _ (by omega) | exact ints_get _ _ _ (by omega) | exact boolD_get _ _ (by omega) | exact i64ss_get _ _ (by omega) | exact set_get (by first | omega | (simp only [List.length_map, List.length_set]; omega))) (by rfl) | exact astep_load_p (by rfl) (by rfl) (by rfl) (by first | assumption | exact i64s_get _ _ (by omega) | exact bks_get _ _ (by omega) | exact pls_get _ _ (by omega) | exact ints_get _ _ _ (by omega) | exact boolD_get _ _ (by omega) | exact i64ss_get _ _ (by omega) | exact set_get (by first | omega | (simp only [List.length_map, List.length_set]; omega))) (by rfl) | exact astep_store_p (by rfl) (by rfl) (by rfl) (by rfl) (by first | assumption | exact i64s_get _ _ (by omega) | exact bks_get _ _ (by omega) | exact pls_get _ _ (by omega) | exact ints_get _ _ _ (by omega) | exact boolD_get _ _ (by omega) | exact i64ss_get _ _ (by omega) | exact set_get (by first | omega | (simp only [List.length_map, List.length_set]; omega)))) (hd : deadOk m r = true := by rfl) (hpre : pre := by first | trivial | rfl | exact ⟨rfl, rfl⟩ | exact ⟨rfl, rfl, fun _ => rfl, Nat.le_of_ble_eq_true rfl, .inl rfl⟩ | exact ⟨rfl, rfl, fun h => (nomatch h), Nat.le_of_ble_eq_true rfl, .inl rfl⟩ | exact ⟨rfl, rfl, fun _ => rfl, Nat.le_of_ble_eq_true rfl, .inr rfl⟩ | exact ⟨rfl, rfl, fun h => (nomatch h), Nat.le_of_ble_eq_true rfl, .inr rfl⟩ | omega | exact ⟨rfl, by (repeat (first | exact fm_nil | refine fm_cons ⟨rfl, rfl⟩ ?_)), Nat.le_of_ble_eq_true rfl, Nat.le_of_ble_eq_true rfl⟩ | (refine ⟨?_, ?_, ?_, ?_, ?_, ?_, ?_⟩ <;> first | omega | exact Nat.le_of_ble_eq_true rfl) | exact ⟨rfl, by omega, by (try simp only [List.length_map, List.length_set]); omega⟩ | exact ⟨rfl, by omega, by simp only [Int.toNat_natCast]; omega, by omega, Nat.le_of_ble_eq_true rfl, rfl⟩)
    (hst : st.app dst r = st' := by simp +decide (disch := omega) only [nrm, lk_nrm, dc_nrm, mk_nrm, mf_nrm, ti_nrm, ls_nrm, mp_nrm, nb_nrm, hset, pick_and, pick_or, ↓reduceIte, Nat.reduceAdd, wI64, wI32, wI16, wI8, wU8, List.length_map, Int.toNat_natCast, xn1, xn2]; rfl) : areg P T m ops ({ dst := dst, op := op, type := ty, pos := pos, after := af, guard := none } :: l) st K := areg_go hs hd hpre hst hK
theorem gc1 {r : Res} (hK : areg P T m ops l st' K) (hr : OpRel P { dst := dst, op := op, type := ty, pos := pos, after := af, guard := none } (evD st.sl) st.hp st.nx r) (hs : astep T op (evD st.sl) st.hp st.nx = none := by rfl)
    (hst : st.app dst r = st' := by simp +decide (disch := omega) only [nrm, lk_nrm, dc_nrm, mk_nrm, mf_nrm, ti_nrm, ls_nrm, mp_nrm, nb_nrm, hset, pick_and, pick_or, ↓reduceIte, Nat.reduceAdd, wI64, wI32, wI16, wI8, wU8, List.length_map, Int.toNat_natCast, xn1, xn2]; rfl) : areg P T m ops ({ dst := dst, op := op, type := ty, pos := pos, after := af, guard := none } :: l) st K := areg_call hs hr hst hK
theorem gn1 {j : Nat} {want b : Bool} (hK : areg P T m ops l st' K) (hg : guardD ops j st.sl = some b := by rfl) (hb : (!want) = b := by rfl) (hst : St.mk (putSl dst (.val undef) st.sl) st.hp st.nx = st' := by simp +decide (disch := omega) only [nrm, lk_nrm, dc_nrm, mk_nrm, mf_nrm, ti_nrm, ls_nrm, mp_nrm, nb_nrm, hset, pick_and, pick_or, ↓reduceIte, Nat.reduceAdd, wI64, wI32, wI16, wI8, wU8, List.length_map, Int.toNat_natCast, xn1, xn2]; rfl) : areg P T m ops ({ dst := dst, op := op, type := ty, pos := pos, after := af, guard := some (j, want) } :: l) st K := areg_not hg hb hst hK
theorem gu1 {j : Nat} {want : Bool} (hK : areg P T m ops l st' K) (hg : guardD ops j st.sl = none := by rfl) (hu : guardU ops j st.sl = true := by rfl) (hst : St.mk (putSl dst (.val undef) st.sl) st.hp st.nx = st' := by simp +decide (disch := omega) only [nrm, lk_nrm, dc_nrm, mk_nrm, mf_nrm, ti_nrm, ls_nrm, mp_nrm, nb_nrm, hset, pick_and, pick_or, ↓reduceIte, Nat.reduceAdd, wI64, wI32, wI16, wI8, wU8, List.length_map, Int.toNat_natCast, xn1, xn2]; rfl) : areg P T m ops ({ dst := dst, op := op, type := ty, pos := pos, after := af, guard := some (j, want) } :: l) st K := by
  simp only [areg, hg]
  exact ⟨hu, by rw [hst]; exact hK⟩
theorem gg1 {j : Nat} {want b : Bool} {d : D} (hK : areg P T m ops l st' K) (hg : guardD ops j st.sl = some b := by rfl) (hs : b = want → ∃ pre, astep T op (evD st.sl) st.hp st.nx = some (pre, { d := d }) ∧ pre := by intro hb; simp +decide only [hb, gd_tt, gd_ff, beq_self_eq_true, Bool.true_and, beq_true]; exact ⟨_, by first | rfl | exact astep_load_r (by rfl) (by rfl) (by first | assumption | exact i64s_get _ _ (by omega) | exact bks_get _ _ (by omega) | exact pls_get _ _ (by omega) | exact ints_get _ _ _ (by omega) | exact boolD_get _ _ (by omega) | exact i64ss_get _ _ (by omega) | exact set_get (by first | omega | (simp only [List.length_map, List.length_set]; omega))) (by rfl) | exact astep_load_p (by rfl) (by rfl) (by rfl) (by first | assumption | exact i64s_get _ _ (by omega) | exact bks_get _ _ (by omega) | exact pls_get _ _ (by omega) | exact ints_get _ _ _ (by omega) | exact boolD_get _ _ (by omega) | exact i64ss_get _ _ (by omega) | exact set_get (by first | omega | (simp only [List.length_map, List.length_set]; omega))) (by rfl) | exact astep_store_p (by rfl) (by rfl) (by rfl) (by rfl) (by first | assumption | exact i64s_get _ _ (by omega) | exact bks_get _ _ (by omega) | exact pls_get _ _ (by omega) | exact ints_get _ _ _ (by omega) | exact boolD_get _ _ (by omega) | exact i64ss_get _ _ (by omega) | exact set_get (by first | omega | (simp only [List.length_map, List.length_set]; omega))), by first | trivial | rfl | exact ⟨rfl, rfl⟩ | exact ⟨rfl, rfl, fun _ => rfl, Nat.le_of_ble_eq_true rfl, .inl rfl⟩ | exact ⟨rfl, rfl, fun h => (nomatch h), Nat.le_of_ble_eq_true rfl, .inl rfl⟩ | exact ⟨rfl, rfl, fun _ => rfl, Nat.le_of_ble_eq_true rfl, .inr rfl⟩ | exact ⟨rfl, rfl, fun h => (nomatch h), Nat.le_of_ble_eq_true rfl, .inr rfl⟩ | omega | exact ⟨rfl, by (repeat (first | exact fm_nil | refine fm_cons ⟨rfl, rfl⟩ ?_)), Nat.le_of_ble_eq_true rfl, Nat.le_of_ble_eq_true rfl⟩ | (refine ⟨?_, ?_, ?_, ?_, ?_, ?_, ?_⟩ <;> first | omega | exact Nat.le_of_ble_eq_true rfl) | exact ⟨rfl, by omega, by (try simp only [List.length_map, List.length_set]); omega⟩ | exact ⟨rfl, by omega, by simp only [Int.toNat_natCast]; omega, by omega, Nat.le_of_ble_eq_true rfl, rfl⟩⟩)
    (hst : St.mk (putSl dst (gd b want d) st.sl) st.hp st.nx = st' := by simp +decide (disch := omega) only [nrm, lk_nrm, dc_nrm, mk_nrm, mf_nrm, ti_nrm, ls_nrm, mp_nrm, nb_nrm, hset, pick_and, pick_or, ↓reduceIte, Nat.reduceAdd, wI64, wI32, wI16, wI8, wU8, List.length_map, Int.toNat_natCast, xn1, xn2]; rfl) : areg P T m ops ({ dst := dst, op := op, type := ty, pos := pos, after := af, guard := some (j, want) } :: l) st K := areg_gd hg hs hst hK
theorem ggc1 {j : Nat} {want b : Bool} {d : D} (hK : areg P T m ops l st' K) (hg : guardD ops j st.sl = some b := by rfl)
    (hs : b = want → astep T op (evD st.sl) st.hp st.nx = none ∧ ∃ r, OpRel P { dst := dst, op := op, type := ty, pos := pos, after := af, guard := some (j, want) } (evD st.sl) st.hp st.nx r ∧ r.d = d ∧ r.new = [] ∧ r.upd = []) (hst : St.mk (putSl dst (gd b want d) st.sl) st.hp st.nx = st' := by simp +decide (disch := omega) only [nrm, lk_nrm, dc_nrm, mk_nrm, mf_nrm, ti_nrm, ls_nrm, mp_nrm, nb_nrm, hset, pick_and, pick_or, ↓reduceIte, Nat.reduceAdd, wI64, wI32, wI16, wI8, wU8, List.length_map, Int.toNat_natCast, xn1, xn2]; rfl) : areg P T m ops ({ dst := dst, op := op, type := ty, pos := pos, after := af, guard := some (j, want) } :: l) st K := areg_gd_call hg hs hst hK
theorem call1 {X : Type} {s : Spec X} {f : FuncId} (hF : FnOk P f s) (x : X) (ks : List Nat) {o : Oper} {cf : Operand} {args : Array Operand} {tys : Array TypeId} {ev : Operand → D} {hp : HP} {nx : Nat}
    {first caps : List D} {d : D} {no : List Ob} (hkn : ks.Nodup := by decide) (ho : o.op = .call ⟨.value cf, args, tys⟩ := by rfl) (hcf : fnParts (ev cf) = some (.func f, first, caps) := by rfl)
    (hargs : Args hp ks (s.args x) (first ++ args.toList.map ev ++ caps) := by
    (try dsimp only)
    repeat (refine args_cons (by first | exact arga_val | exact arga_slsl | exact arga_fnval | exact arga_nil | exact arga_slown (by simp) rfl rfl rfl rfl | exact arga_own rfl | exact arga_slnil | exact arga_slcvw (by simp) rfl rfl (by simp [hf]) rfl | exact argc_rptr (by simp) rfl rfl rfl (.inr (by first | (simp [hf]; done) | simp only [List.mem_singleton, forall_eq, List.all_cons, List.all_nil, Bool.and_true, *])) | exact argA_self rfl | exact arga_clo (argl_cons (by first | exact argc_rptr (by simp) rfl rfl rfl (.inr (by first | (simp [hf]; done) | simp only [List.mem_singleton, forall_eq, List.all_cons, List.all_nil, Bool.and_true, *])) | exact argC_self rfl) (argl_nil)) (by rfl) | exact arga_clo (argl_cons (by first | exact argc_rptr (by simp) rfl rfl rfl (.inr (by first | (simp [hf]; done) | simp only [List.mem_singleton, forall_eq, List.all_cons, List.all_nil, Bool.and_true, *])) | exact argC_self rfl) (argl_cons (by first | exact argc_rptr (by simp) rfl rfl rfl (.inr (by first | (simp [hf]; done) | simp only [List.mem_singleton, forall_eq, List.all_cons, List.all_nil, Bool.and_true, *])) | exact argC_self rfl) (argl_nil))) (by rfl) | exact arga_clo (argl_cons (by first | exact argc_rptr (by simp) rfl rfl rfl (.inr (by first | (simp [hf]; done) | simp only [List.mem_singleton, forall_eq, List.all_cons, List.all_nil, Bool.and_true, *])) | exact argC_self rfl) (argl_cons (by first | exact argc_rptr (by simp) rfl rfl rfl (.inr (by first | (simp [hf]; done) | simp only [List.mem_singleton, forall_eq, List.all_cons, List.all_nil, Bool.and_true, *])) | exact argC_self rfl) (argl_cons (by first | exact argc_rptr (by simp) rfl rfl rfl (.inr (by first | (simp [hf]; done) | simp only [List.mem_singleton, forall_eq, List.all_cons, List.all_nil, Bool.and_true, *])) | exact argC_self rfl) (argl_nil)))) (by rfl) | exact arga_agg (by (repeat (refine argl_cons (by first | exact argc_val | exact argc_slsl | exact argc_nil | exact argc_slown (by simp) rfl rfl rfl rfl | exact argc_own rfl | exact argc_slnil) ?_)); exact argl_nil)) ?_)
    exact args_nil) (hpre : s.pre x := by first | trivial | assumption | omega | exact ⟨by first | trivial | assumption | omega, by first | trivial | assumption | omega⟩ | exact ⟨by first | trivial | assumption | omega, by first | trivial | assumption | omega, by first | trivial | assumption | omega⟩) (hobs : Objs hp ks (s.obs x) := by first | trivial | exact objs_cons rfl rfl rfl rfl rfl (.inl rfl) objs_nil)
    (hno : s.new x = no := by rfl) (hren : ren (ks ++ List.range' nx no.length) (s.res x) = some d := by rfl) (hflat : flatD (s.res x) = true := by rfl) (hfo : ∀ o ∈ s.out x ++ s.new x, flatO o := by first | ((repeat (first | exact fm_nil | refine fm_cons (by first | exact flat_i64s _ _ _ _ | exact flat_bks _ _ _ _ | exact flat_pls _ _ _ _ | exact flat_ints _ _ _ _ _ | exact flat_boolD _ _ _ _ | (simp [hf, flatO]; done)) ?_)); done) | (intro o h; first | cases h; done | (simp at h; (try subst h); simp [hf, flatO]; done) | (simp at h; rcases h with rfl | rfl <;> simp [hf, flatO]; done) | (simp at h; rcases h with rfl | rfl | rfl <;> simp [hf, flatO]))) :
    OpRel P o ev hp nx { d, new := numbered nx (s.new x), upd := updOf hp ks (s.out x) } := OpRel.call' hF x ks hkn ho hcf hargs hpre hobs hno hren hflat hfo
theorem r1 {N : Nat} {id : Nat} {ops : Array Oper} (hT : TOk P T) (hP : C.P = P) (hCm : C.m = m) (hN : C.N = N) {l : List Oper} (h : areg P T m l l st (Q .normal)) (he : ops = l.toArray := by rfl) (hd : dstsOk N l = true := by rfl) : awp C (.region id ops false) Q st := awp_reg hT hP hCm hN l he hd h
end steps
section draws
variable {ops : List Oper} {base sl : List (Nat × D)} {rd eh hp : HP} {pins : List Nat} {i nx : Nat} {l : List Oper} {done : List D} {K : St → Prop} {dst : Option Tmp} {op : Op} {ty : TypeId} {pos : String} {af : Array Edge}
theorem d1 (hT : TOk P T) {pre : Prop} {d : D} {done' : List D} {sl' : List (Nat × D)} (h : DReg P ops base rd eh pins (i + 1) l done' hp nx sl' K) (hpin : pins.contains i = false := by rfl) (hf : freeOp op = true := by rfl)
    (hs : astep T op (evD (maskSl { dst := dst, op := op, type := ty, pos := pos, after := af, guard := none } ops done 0 base)) rd 0 = some (pre, { d := d }) := by first | rfl | exact astep_load_r (by rfl) (by rfl) (by first | assumption | exact i64s_get _ _ (by omega) | exact bks_get _ _ (by omega) | exact pls_get _ _ (by omega) | exact ints_get _ _ _ (by omega) | exact boolD_get _ _ (by omega) | exact i64ss_get _ _ (by omega) | exact set_get (by first | omega | (simp only [List.length_map, List.length_set]; omega))) (by rfl) | exact astep_load_p (by rfl) (by rfl) (by rfl) (by first | assumption | exact i64s_get _ _ (by omega) | exact bks_get _ _ (by omega) | exact pls_get _ _ (by omega) | exact ints_get _ _ _ (by omega) | exact boolD_get _ _ (by omega) | exact i64ss_get _ _ (by omega) | exact set_get (by first | omega | (simp only [List.length_map, List.length_set]; omega))) (by rfl) | exact astep_store_p (by rfl) (by rfl) (by rfl) (by rfl) (by first | assumption | exact i64s_get _ _ (by omega) | exact bks_get _ _ (by omega) | exact pls_get _ _ (by omega) | exact ints_get _ _ _ (by omega) | exact boolD_get _ _ (by omega) | exact i64ss_get _ _ (by omega) | exact set_get (by first | omega | (simp only [List.length_map, List.length_set]; omega)))) (hpre : pre := by first | trivial | rfl | exact ⟨rfl, rfl⟩ | exact ⟨rfl, rfl, fun _ => rfl, Nat.le_of_ble_eq_true rfl, .inl rfl⟩ | exact ⟨rfl, rfl, fun h => (nomatch h), Nat.le_of_ble_eq_true rfl, .inl rfl⟩ | exact ⟨rfl, rfl, fun _ => rfl, Nat.le_of_ble_eq_true rfl, .inr rfl⟩ | exact ⟨rfl, rfl, fun h => (nomatch h), Nat.le_of_ble_eq_true rfl, .inr rfl⟩ | omega | exact ⟨rfl, by (repeat (first | exact fm_nil | refine fm_cons ⟨rfl, rfl⟩ ?_)), Nat.le_of_ble_eq_true rfl, Nat.le_of_ble_eq_true rfl⟩ | (refine ⟨?_, ?_, ?_, ?_, ?_, ?_, ?_⟩ <;> first | omega | exact Nat.le_of_ble_eq_true rfl) | exact ⟨rfl, by omega, by (try simp only [List.length_map, List.length_set]); omega⟩ | exact ⟨rfl, by omega, by simp only [Int.toNat_natCast]; omega, by omega, Nat.le_of_ble_eq_true rfl, rfl⟩) (hdn : done ++ [d] = done' := by simp +decide (disch := omega) only [nrm, lk_nrm, dc_nrm, mk_nrm, mf_nrm, ti_nrm, ls_nrm, mp_nrm, nb_nrm, hset, pick_and, pick_or, ↓reduceIte, Nat.reduceAdd, wI64, wI32, wI16, wI8, wU8, List.length_map, Int.toNat_natCast, xn1, xn2, mask_nrm]; rfl) (hsl : putSl dst d sl = sl' := by simp +decide (disch := omega) only [nrm, lk_nrm, dc_nrm, mk_nrm, mf_nrm, ti_nrm, ls_nrm, mp_nrm, nb_nrm, hset, pick_and, pick_or, ↓reduceIte, Nat.reduceAdd, wI64, wI32, wI16, wI8, wU8, List.length_map, Int.toNat_natCast, xn1, xn2, mask_nrm]; rfl) : DReg P ops base rd eh pins i ({ dst := dst, op := op, type := ty, pos := pos, after := af, guard := none } :: l) done hp nx sl K := dreg_free hT hpin hf hs hpre hdn hsl h
theorem dx1 (hT : TOk P T) {pre : Prop} {d : D} {done' : List D} {sl' : List (Nat × D)} (h : DReg P ops base rd eh pins (i + 1) l done' hp nx sl' K) (hear : earB ops pins i = true := by rfl) (hpin : pins.contains i = false := by rfl) (hf : freeOp op = true := by rfl)
    (hs : astep T op (evD (maskSl { dst := dst, op := op, type := ty, pos := pos, after := af, guard := none } ops done 0 base)) eh 0 = some (pre, { d := d }) := by first | rfl | exact astep_load_r (by rfl) (by rfl) (by first | assumption | exact i64s_get _ _ (by omega) | exact bks_get _ _ (by omega) | exact pls_get _ _ (by omega) | exact ints_get _ _ _ (by omega) | exact boolD_get _ _ (by omega) | exact i64ss_get _ _ (by omega) | exact set_get (by first | omega | (simp only [List.length_map, List.length_set]; omega))) (by rfl) | exact astep_load_p (by rfl) (by rfl) (by rfl) (by first | assumption | exact i64s_get _ _ (by omega) | exact bks_get _ _ (by omega) | exact pls_get _ _ (by omega) | exact ints_get _ _ _ (by omega) | exact boolD_get _ _ (by omega) | exact i64ss_get _ _ (by omega) | exact set_get (by first | omega | (simp only [List.length_map, List.length_set]; omega))) (by rfl) | exact astep_store_p (by rfl) (by rfl) (by rfl) (by rfl) (by first | assumption | exact i64s_get _ _ (by omega) | exact bks_get _ _ (by omega) | exact pls_get _ _ (by omega) | exact ints_get _ _ _ (by omega) | exact boolD_get _ _ (by omega) | exact i64ss_get _ _ (by omega) | exact set_get (by first | omega | (simp only [List.length_map, List.length_set]; omega)))) (hpre : pre := by first | trivial | rfl | exact ⟨rfl, rfl⟩ | exact ⟨rfl, rfl, fun _ => rfl, Nat.le_of_ble_eq_true rfl, .inl rfl⟩ | exact ⟨rfl, rfl, fun h => (nomatch h), Nat.le_of_ble_eq_true rfl, .inl rfl⟩ | exact ⟨rfl, rfl, fun _ => rfl, Nat.le_of_ble_eq_true rfl, .inr rfl⟩ | exact ⟨rfl, rfl, fun h => (nomatch h), Nat.le_of_ble_eq_true rfl, .inr rfl⟩ | omega | exact ⟨rfl, by (repeat (first | exact fm_nil | refine fm_cons ⟨rfl, rfl⟩ ?_)), Nat.le_of_ble_eq_true rfl, Nat.le_of_ble_eq_true rfl⟩ | (refine ⟨?_, ?_, ?_, ?_, ?_, ?_, ?_⟩ <;> first | omega | exact Nat.le_of_ble_eq_true rfl) | exact ⟨rfl, by omega, by (try simp only [List.length_map, List.length_set]); omega⟩ | exact ⟨rfl, by omega, by simp only [Int.toNat_natCast]; omega, by omega, Nat.le_of_ble_eq_true rfl, rfl⟩) (hdn : done ++ [d] = done' := by simp +decide (disch := omega) only [nrm, lk_nrm, dc_nrm, mk_nrm, mf_nrm, ti_nrm, ls_nrm, mp_nrm, nb_nrm, hset, pick_and, pick_or, ↓reduceIte, Nat.reduceAdd, wI64, wI32, wI16, wI8, wU8, List.length_map, Int.toNat_natCast, xn1, xn2, mask_nrm]; rfl) (hsl : putSl dst d sl = sl' := by simp +decide (disch := omega) only [nrm, lk_nrm, dc_nrm, mk_nrm, mf_nrm, ti_nrm, ls_nrm, mp_nrm, nb_nrm, hset, pick_and, pick_or, ↓reduceIte, Nat.reduceAdd, wI64, wI32, wI16, wI8, wU8, List.length_map, Int.toNat_natCast, xn1, xn2, mask_nrm]; rfl) : DReg P ops base rd eh pins i ({ dst := dst, op := op, type := ty, pos := pos, after := af, guard := none } :: l) done hp nx sl K := by
  subst hdn; subst hsl
  exact dreg_cons (it := ⟨_, false, true, { d := d }, true⟩) ⟨hpin.symm, fun _ => hear⟩ ⟨rfl, fun _ h => by simp at h, fun _ _ => ⟨rfl, freeOk_of_astep hT hf hs hpre⟩, fun h => by simp at h⟩ h
theorem dg1 (hT : TOk P T) {g : Nat} {want b : Bool} {d : D} {done' : List D} {sl' : List (Nat × D)} (h : DReg P ops base rd eh pins (i + 1) l done' hp nx sl' K) (hpin : pins.contains i = false := by rfl) (hf : freeOp op = true := by rfl)
    (hdep : depOn { dst := dst, op := op, type := ty, pos := pos, after := af, guard := some (g, want) } g = true := by rfl) (hg : guardD ops g (maskSl { dst := dst, op := op, type := ty, pos := pos, after := af, guard := some (g, want) } ops done 0 base) = some b := by rfl)
    (hs : b = want → ∃ pre, astep T op (evD (maskSl { dst := dst, op := op, type := ty, pos := pos, after := af, guard := some (g, want) } ops done 0 base)) rd 0 = some (pre, { d := d }) ∧ pre := by intro hb; simp +decide only [hb, gd_tt, gd_ff, beq_self_eq_true, Bool.true_and, beq_true]; exact ⟨_, by first | rfl | exact astep_load_r (by rfl) (by rfl) (by first | assumption | exact i64s_get _ _ (by omega) | exact bks_get _ _ (by omega) | exact pls_get _ _ (by omega) | exact ints_get _ _ _ (by omega) | exact boolD_get _ _ (by omega) | exact i64ss_get _ _ (by omega) | exact set_get (by first | omega | (simp only [List.length_map, List.length_set]; omega))) (by rfl) | exact astep_load_p (by rfl) (by rfl) (by rfl) (by first | assumption | exact i64s_get _ _ (by omega) | exact bks_get _ _ (by omega) | exact pls_get _ _ (by omega) | exact ints_get _ _ _ (by omega) | exact boolD_get _ _ (by omega) | exact i64ss_get _ _ (by omega) | exact set_get (by first | omega | (simp only [List.length_map, List.length_set]; omega))) (by rfl) | exact astep_store_p (by rfl) (by rfl) (by rfl) (by rfl) (by first | assumption | exact i64s_get _ _ (by omega) | exact bks_get _ _ (by omega) | exact pls_get _ _ (by omega) | exact ints_get _ _ _ (by omega) | exact boolD_get _ _ (by omega) | exact i64ss_get _ _ (by omega) | exact set_get (by first | omega | (simp only [List.length_map, List.length_set]; omega))), by first | trivial | rfl | exact ⟨rfl, rfl⟩ | exact ⟨rfl, rfl, fun _ => rfl, Nat.le_of_ble_eq_true rfl, .inl rfl⟩ | exact ⟨rfl, rfl, fun h => (nomatch h), Nat.le_of_ble_eq_true rfl, .inl rfl⟩ | exact ⟨rfl, rfl, fun _ => rfl, Nat.le_of_ble_eq_true rfl, .inr rfl⟩ | exact ⟨rfl, rfl, fun h => (nomatch h), Nat.le_of_ble_eq_true rfl, .inr rfl⟩ | omega | exact ⟨rfl, by (repeat (first | exact fm_nil | refine fm_cons ⟨rfl, rfl⟩ ?_)), Nat.le_of_ble_eq_true rfl, Nat.le_of_ble_eq_true rfl⟩ | (refine ⟨?_, ?_, ?_, ?_, ?_, ?_, ?_⟩ <;> first | omega | exact Nat.le_of_ble_eq_true rfl) | exact ⟨rfl, by omega, by (try simp only [List.length_map, List.length_set]); omega⟩ | exact ⟨rfl, by omega, by simp only [Int.toNat_natCast]; omega, by omega, Nat.le_of_ble_eq_true rfl, rfl⟩⟩) (hdn : done ++ [gd b want d] = done' := by simp +decide (disch := omega) only [nrm, lk_nrm, dc_nrm, mk_nrm, mf_nrm, ti_nrm, ls_nrm, mp_nrm, nb_nrm, hset, pick_and, pick_or, ↓reduceIte, Nat.reduceAdd, wI64, wI32, wI16, wI8, wU8, List.length_map, Int.toNat_natCast, xn1, xn2, mask_nrm]; rfl) (hsl : putSl dst (gd b want d) sl = sl' := by simp +decide (disch := omega) only [nrm, lk_nrm, dc_nrm, mk_nrm, mf_nrm, ti_nrm, ls_nrm, mp_nrm, nb_nrm, hset, pick_and, pick_or, ↓reduceIte, Nat.reduceAdd, wI64, wI32, wI16, wI8, wU8, List.length_map, Int.toNat_natCast, xn1, xn2, mask_nrm]; rfl) : DReg P ops base rd eh pins i ({ dst := dst, op := op, type := ty, pos := pos, after := af, guard := some (g, want) } :: l) done hp nx sl K := dreg_gfree hT hpin hf hdep hg hs hdn hsl h
theorem dgg1 (hT : TOk P T) {g : Nat} {want b e w : Bool} {d : D} {done' : List D} {sl' : List (Nat × D)} (h : DReg P ops base rd eh pins (i + 1) l done' hp nx sl' K) (hpin : pins.contains i = false := by rfl) (hf : freeOp op = true := by rfl)
    (hdep : depOn { dst := dst, op := op, type := ty, pos := pos, after := af, guard := some (g, want) } g = true := by rfl) (hg : gslot ops g (maskSl { dst := dst, op := op, type := ty, pos := pos, after := af, guard := some (g, want) } ops done 0 base) = some (gd e w (.val (.bool b))) := by rfl)
    (hs : e = w → b = want → ∃ pre, astep T op (evD (maskSl { dst := dst, op := op, type := ty, pos := pos, after := af, guard := some (g, want) } ops done 0 base)) rd 0 = some (pre, { d := d }) ∧ pre := by intro he hb; simp +decide only [he, hb, gd_tt, gd_ff, beq_self_eq_true, Bool.true_and, beq_true]; exact ⟨_, by first | rfl | exact astep_load_r (by rfl) (by rfl) (by first | assumption | exact i64s_get _ _ (by omega) | exact bks_get _ _ (by omega) | exact pls_get _ _ (by omega) | exact ints_get _ _ _ (by omega) | exact boolD_get _ _ (by omega) | exact i64ss_get _ _ (by omega) | exact set_get (by first | omega | (simp only [List.length_map, List.length_set]; omega))) (by rfl) | exact astep_load_p (by rfl) (by rfl) (by rfl) (by first | assumption | exact i64s_get _ _ (by omega) | exact bks_get _ _ (by omega) | exact pls_get _ _ (by omega) | exact ints_get _ _ _ (by omega) | exact boolD_get _ _ (by omega) | exact i64ss_get _ _ (by omega) | exact set_get (by first | omega | (simp only [List.length_map, List.length_set]; omega))) (by rfl) | exact astep_store_p (by rfl) (by rfl) (by rfl) (by rfl) (by first | assumption | exact i64s_get _ _ (by omega) | exact bks_get _ _ (by omega) | exact pls_get _ _ (by omega) | exact ints_get _ _ _ (by omega) | exact boolD_get _ _ (by omega) | exact i64ss_get _ _ (by omega) | exact set_get (by first | omega | (simp only [List.length_map, List.length_set]; omega))), by first | trivial | rfl | exact ⟨rfl, rfl⟩ | exact ⟨rfl, rfl, fun _ => rfl, Nat.le_of_ble_eq_true rfl, .inl rfl⟩ | exact ⟨rfl, rfl, fun h => (nomatch h), Nat.le_of_ble_eq_true rfl, .inl rfl⟩ | exact ⟨rfl, rfl, fun _ => rfl, Nat.le_of_ble_eq_true rfl, .inr rfl⟩ | exact ⟨rfl, rfl, fun h => (nomatch h), Nat.le_of_ble_eq_true rfl, .inr rfl⟩ | omega | exact ⟨rfl, by (repeat (first | exact fm_nil | refine fm_cons ⟨rfl, rfl⟩ ?_)), Nat.le_of_ble_eq_true rfl, Nat.le_of_ble_eq_true rfl⟩ | (refine ⟨?_, ?_, ?_, ?_, ?_, ?_, ?_⟩ <;> first | omega | exact Nat.le_of_ble_eq_true rfl) | exact ⟨rfl, by omega, by (try simp only [List.length_map, List.length_set]); omega⟩ | exact ⟨rfl, by omega, by simp only [Int.toNat_natCast]; omega, by omega, Nat.le_of_ble_eq_true rfl, rfl⟩⟩) (hdn : done ++ [gd ((e == w) && (b == want)) true d] = done' := by simp +decide (disch := omega) only [nrm, lk_nrm, dc_nrm, mk_nrm, mf_nrm, ti_nrm, ls_nrm, mp_nrm, nb_nrm, hset, pick_and, pick_or, ↓reduceIte, Nat.reduceAdd, wI64, wI32, wI16, wI8, wU8, List.length_map, Int.toNat_natCast, xn1, xn2, mask_nrm]; rfl) (hsl : putSl dst (gd ((e == w) && (b == want)) true d) sl = sl' := by simp +decide (disch := omega) only [nrm, lk_nrm, dc_nrm, mk_nrm, mf_nrm, ti_nrm, ls_nrm, mp_nrm, nb_nrm, hset, pick_and, pick_or, ↓reduceIte, Nat.reduceAdd, wI64, wI32, wI16, wI8, wU8, List.length_map, Int.toNat_natCast, xn1, xn2, mask_nrm]; rfl) : DReg P ops base rd eh pins i ({ dst := dst, op := op, type := ty, pos := pos, after := af, guard := some (g, want) } :: l) done hp nx sl K := dreg_gfree2 hT hpin hf hdep hg hs hdn hsl h
theorem dp1 {r : Res} {done' : List D} {sl' : List (Nat × D)} {hp' : HP} {nx' : Nat} (h : DReg P ops base rd eh pins (i + 1) l done' hp' nx' sl' K) (hr : OpRel P { dst := dst, op := op, type := ty, pos := pos, after := af, guard := none } (evD (maskSl { dst := dst, op := op, type := ty, pos := pos, after := af, guard := none } ops done 0 base)) hp nx r) (hpin : pins.contains i = true := by rfl) (hu : ∀ p ∈ r.upd, lk p.1 rd = none := by simp [updOf, rdOf, lk])
    (hdn : done ++ [r.d] = done' := by simp +decide (disch := omega) only [nrm, lk_nrm, dc_nrm, mk_nrm, mf_nrm, ti_nrm, ls_nrm, mp_nrm, nb_nrm, hset, pick_and, pick_or, ↓reduceIte, Nat.reduceAdd, wI64, wI32, wI16, wI8, wU8, List.length_map, Int.toNat_natCast, xn1, xn2, mask_nrm]; rfl) (hhp : r.hpOf hp = hp' := by simp +decide (disch := omega) only [nrm, lk_nrm, dc_nrm, mk_nrm, mf_nrm, ti_nrm, ls_nrm, mp_nrm, nb_nrm, hset, pick_and, pick_or, ↓reduceIte, Nat.reduceAdd, wI64, wI32, wI16, wI8, wU8, List.length_map, Int.toNat_natCast, xn1, xn2, mask_nrm]; try rfl) (hnx : nx + r.new.length = nx' := by simp +decide (disch := omega) only [nrm, lk_nrm, dc_nrm, mk_nrm, mf_nrm, ti_nrm, ls_nrm, mp_nrm, nb_nrm, hset, pick_and, pick_or, ↓reduceIte, Nat.reduceAdd, wI64, wI32, wI16, wI8, wU8, List.length_map, Int.toNat_natCast, xn1, xn2, mask_nrm]; try rfl) (hsl : putSl dst r.d sl = sl' := by simp +decide (disch := omega) only [nrm, lk_nrm, dc_nrm, mk_nrm, mf_nrm, ti_nrm, ls_nrm, mp_nrm, nb_nrm, hset, pick_and, pick_or, ↓reduceIte, Nat.reduceAdd, wI64, wI32, wI16, wI8, wU8, List.length_map, Int.toNat_natCast, xn1, xn2, mask_nrm]; rfl) : DReg P ops base rd eh pins i ({ dst := dst, op := op, type := ty, pos := pos, after := af, guard := none } :: l) done hp nx sl K := dreg_pin hpin hr hu hdn hhp hnx hsl h
theorem dgp1 {g : Nat} {want b : Bool} {d : D} {done' : List D} {sl' : List (Nat × D)} (h : DReg P ops base rd eh pins (i + 1) l done' hp nx sl' K) (hpin : pins.contains i = true := by rfl)
    (hdep : depOn { dst := dst, op := op, type := ty, pos := pos, after := af, guard := some (g, want) } g = true := by rfl) (hg : guardD ops g (maskSl { dst := dst, op := op, type := ty, pos := pos, after := af, guard := some (g, want) } ops done 0 base) = some b := by rfl)
    (hr : b = want → ∃ r, OpRel P { dst := dst, op := op, type := ty, pos := pos, after := af, guard := some (g, want) } (evD (maskSl { dst := dst, op := op, type := ty, pos := pos, after := af, guard := some (g, want) } ops done 0 base)) hp nx r ∧ r.d = d ∧ r.new = [] ∧ r.upd = []) (hdn : done ++ [gd b want d] = done' := by simp +decide (disch := omega) only [nrm, lk_nrm, dc_nrm, mk_nrm, mf_nrm, ti_nrm, ls_nrm, mp_nrm, nb_nrm, hset, pick_and, pick_or, ↓reduceIte, Nat.reduceAdd, wI64, wI32, wI16, wI8, wU8, List.length_map, Int.toNat_natCast, xn1, xn2, mask_nrm]; rfl) (hsl : putSl dst (gd b want d) sl = sl' := by simp +decide (disch := omega) only [nrm, lk_nrm, dc_nrm, mk_nrm, mf_nrm, ti_nrm, ls_nrm, mp_nrm, nb_nrm, hset, pick_and, pick_or, ↓reduceIte, Nat.reduceAdd, wI64, wI32, wI16, wI8, wU8, List.length_map, Int.toNat_natCast, xn1, xn2, mask_nrm]; rfl) : DReg P ops base rd eh pins i ({ dst := dst, op := op, type := ty, pos := pos, after := af, guard := some (g, want) } :: l) done hp nx sl K := dreg_gpin hpin hdep hg hr hdn hsl h
end draws
end Go.Proofs.YtpdkhlpmiblflaaGreat.Abs

/- Abs, part 23: nil slices as objects of no elements; weakenings one after another. -/
set_option linter.unusedVariables false
set_option linter.unusedSimpArgs false
namespace Go.Proofs.YtpdkhlpmiblflaaGreat.Abs
open Go Go.RowKit
variable {P : Program} {T : TT} {C : Ctx}

theorem Weak.rfl' {a : St} : Weak C a a := fun _ _ h => h

theorem weak_nil (t : Nat) (ty : TypeId) (sz : Nat) {sl : List (Nat × D)} {hp : HP} {nx : Nat} (ht : lk t sl = some .nil) : Weak C ⟨sl, hp, nx⟩ ⟨(t, .own nx) :: sl, (nx, ⟨ty, sz, false, []⟩) :: hp, nx + 1⟩ := fun a w ⟨hv, hH, hk, hm, hpn, hS⟩ => by
  have hfresh : lk nx hp = none := by
    cases h : lk nx hp with
    | none => rfl
    | some ob => have := hk nx ob h; simp at this
  obtain ⟨hI, hL, hF⟩ := hH.alloc (h0 := nx) hfresh (ob := ⟨ty, sz, false, []⟩) (v := .slice none 0 0) (w' := w) (Below.refl _ w) (fun b hb => by cases hb)
    ⟨[], ⟨by simp, .inl ⟨rfl, rfl⟩⟩, fun x hx => by simp at hx, fun i j x d hi => by simp at hi⟩
  refine ⟨_, hI, fun h ob hl => ?_, Nat.le_succ_of_le hm, fun h ob hl hlt => ?_, hS.defers, hS.size, fun t' d hl => ?_⟩
  · simp only at hl ⊢
    rw [lk_cons] at hl
    split at hl
    · rename_i e; subst e; exact Nat.lt_succ_self _
    · exact Nat.lt_succ_of_lt (hk h ob hl)
  · simp only at hl
    rw [lk_cons] at hl
    have hne : h ≠ nx := fun e => by subst e; simp only at hm; omega
    rw [if_neg hne] at hl
    simp only [hne, if_false]
    exact hpn h ob hl hlt
  · rw [lk_cons] at hl
    split at hl
    · rename_i e
      subst e
      cases hl
      have h1 : RepP w (FOf C.G hv hp w) .nil (a.tmps.getD t' undef) := hS.at_ t' _ ht
      refine ⟨sz, ?_⟩
      simp only [LOf, lk_cons, if_true, Option.map_some]
      generalize a.tmps.getD t' undef = u at h1
      cases h1
      rfl
    · exact (hS.at_ t' d hl).mono hL hF

/-! ### append -/
theorem kl_nrm : (∀ (h t : Nat) (d : D) (sl : List (Nat × D)), killSl (some h) ((t, d) :: sl) = (t, kill h d) :: killSl (some h) sl) ∧ (∀ h : Nat, killSl (some h) [] = []) ∧ (∀ (h : Nat) (v : Value), kill h (.val v) = .val v) ∧ (∀ h : Nat, kill h .nil = .nil) ∧ (∀ h : Nat, kill h .any = .any) ∧ (∀ (h sz : Nat) (xs : List (List D)), kill h (.sl sz xs) = .sl sz xs) ∧
    (∀ (h sz i off : Nat) (xs : List (List D)), kill h (.rptr sz xs i off) = .rptr sz xs i off) ∧ (∀ (h : Nat) (f : Fn) (cs : List D), kill h (.clo f cs) = .clo f cs) ∧ (∀ h k : Nat, kill h (.own k) = if k = h then .any else .own k) ∧ (∀ h k i off : Nat, kill h (.ptr k i off) = if k = h then .any else .ptr k i off) ∧ (∀ h k lo n : Nat, kill h (.vw k lo n) = if k = h then .any else .vw k lo n) ∧
    (∀ h k i off es n : Nat, kill h (.cvw k i off es n) = if k = h then .any else .cvw k i off es n) ∧ (∀ (h : Nat) (cs : List D), kill h (.agg cs) = .agg (cs.map (killC h))) ∧ (∀ (h : Nat) (ds : List D), kill h (.tup ds) = .any) ∧ (∀ (h : Nat) (f : Fn) (fs cs : List D), kill h (.fn f fs cs) = .fn f (fs.map (killC h)) (cs.map (killC h))) ∧
    (∀ (h : Nat) (v : Value), killC h (.val v) = .val v) ∧ (∀ h : Nat, killC h .nil = .nil) ∧ (∀ h : Nat, killC h .any = .any) ∧ (∀ (h sz : Nat) (xs : List (List D)), killC h (.sl sz xs) = .sl sz xs) ∧ (∀ (h sz i off : Nat) (xs : List (List D)), killC h (.rptr sz xs i off) = .rptr sz xs i off) ∧ (∀ h k : Nat, killC h (.own k) = if k = h then .any else .own k) ∧ (∀ h k i off : Nat, killC h (.ptr k i off) = if k = h then .any else .ptr k i off) ∧
    (∀ h k lo n : Nat, killC h (.vw k lo n) = if k = h then .any else .vw k lo n) ∧ (∀ (h : Nat) (b w : Bool) (d : D), kill h (gd b w d) = gd b w (kill h d)) ∧ (∀ (h : Nat) (ty : TypeId) (sz : Nat) (xs : List (List D)), Ob.kill h ⟨ty, sz, false, xs⟩ = ⟨ty, sz, false, xs⟩) ∧ (∀ (h : Nat) (ty : TypeId) (sz : Nat) (xs : List (List D)), Ob.kill h ⟨ty, sz, true, xs⟩ = ⟨ty, sz, true, xs.map (·.map (killC h))⟩) ∧
    (∀ (ty : TypeId) (sz : Nat) (dp : Bool) (xs rows : List (List D)), Ob.app ⟨ty, sz, dp, xs⟩ rows = ⟨ty, sz, dp, xs ++ rows⟩) ∧ (∀ (h k : Nat) (o : Ob) (hp : HP), killHP h ((k, o) :: hp) = (k, o.kill h) :: killHP h hp) ∧ (∀ h : Nat, killHP h [] = []) ∧ (∀ (d : D) (upd : List (Nat × Ob)) (h : Nat) (hp : HP), Res.hpOf { d := d, upd := upd, dead := some h } hp = updHP upd (killHP h hp)) :=
  ⟨fun _ _ _ _ => rfl, fun _ => rfl, fun _ _ => rfl, fun _ => rfl, fun _ => rfl, fun _ _ _ => rfl, fun _ _ _ _ _ => rfl, fun _ _ _ => rfl, fun _ _ => rfl, fun _ _ _ _ => rfl, fun _ _ _ _ => rfl, fun _ _ _ _ _ _ => rfl, fun _ _ => rfl, fun _ _ => rfl, fun _ _ _ _ => rfl,
    fun _ _ => rfl, fun _ => rfl, fun _ => rfl, fun _ _ _ => rfl, fun _ _ _ _ _ => rfl, fun _ _ => rfl, fun _ _ _ _ => rfl, fun _ _ _ _ => rfl, fun h b w d => by cases b <;> cases w <;> rfl, fun _ _ _ _ => rfl, fun _ _ _ _ => rfl, fun _ _ _ _ _ => rfl, fun _ _ _ _ => rfl, fun _ => rfl, fun _ _ _ _ => rfl⟩
section
variable {m : Nat} {ops l : List Oper} {st st' : St} {K : St → Prop} {dst : Option Tmp} {op : Op} {ty : TypeId} {pos : String} {af : Array Edge}
theorem ga1 {pre : Prop} {r : Res} (hK : areg P T m ops l st' K) (hs : astep T op (evD st.sl) st.hp st.nx = some (pre, r) := by rfl) (hd : deadOk m r = true := by rfl)
    (hpre : pre := by refine ⟨?_, ?_, ?_, ?_, ?_, ?_, ?_⟩ <;> first | trivial | rfl | exact Nat.le_of_ble_eq_true rfl | (intro h; cases h; done) | (simp only [List.length_map, List.length_append, List.length_cons, List.length_nil]; omega))
    (hst : st.app dst r = st' := by simp +decide (disch := omega) only [nrm, lk_nrm, dc_nrm, mk_nrm, mf_nrm, ti_nrm, ls_nrm, mp_nrm, nb_nrm, hset, pick_and, pick_or, ↓reduceIte, Nat.reduceAdd, wI64, wI32, wI16, wI8, wU8, List.length_map, Int.toNat_natCast, kl_nrm]; rfl) : areg P T m ops ({ dst := dst, op := op, type := ty, pos := pos, after := af, guard := none } :: l) st K := areg_go hs hd hpre hst hK
end

/-! ### Guards whose answer is known -/
section
variable {m : Nat} {ops l : List Oper} {st st' : St} {K : St → Prop} {dst : Option Tmp} {op : Op} {ty : TypeId} {pos : String} {af : Array Edge}
theorem gy1 {j : Nat} {want : Bool} {pre : Prop} {r : Res} (hK : areg P T m ops l st' K) (hg : guardD ops j st.sl = some want := by rfl) (hs : astep T op (evD st.sl) st.hp st.nx = some (pre, r) := by first | rfl | exact astep_load_r (by rfl) (by rfl) (by first | assumption | exact i64s_get _ _ (by omega) | exact bks_get _ _ (by omega) | exact pls_get _ _ (by omega) | exact ints_get _ _ _ (by omega) | exact boolD_get _ _ (by omega) | exact i64ss_get _ _ (by omega) | exact set_get (by first | omega | (simp only [List.length_map, List.length_set]; omega))) (by rfl) | exact astep_load_p (by rfl) (by rfl) (by rfl) (by first | assumption | exact i64s_get _ _ (by omega) | exact bks_get _ _ (by omega) | exact pls_get _ _ (by omega) | exact ints_get _ _ _ (by omega) | exact boolD_get _ _ (by omega) | exact i64ss_get _ _ (by omega) | exact set_get (by first | omega | (simp only [List.length_map, List.length_set]; omega))) (by rfl) | exact astep_store_p (by rfl) (by rfl) (by rfl) (by rfl) (by first | assumption | exact i64s_get _ _ (by omega) | exact bks_get _ _ (by omega) | exact pls_get _ _ (by omega) | exact ints_get _ _ _ (by omega) | exact boolD_get _ _ (by omega) | exact i64ss_get _ _ (by omega) | exact set_get (by first | omega | (simp only [List.length_map, List.length_set]; omega)))) (hd : deadOk m r = true := by rfl) (hpre : pre := by first | trivial | rfl | exact ⟨rfl, rfl⟩ | exact ⟨rfl, rfl, fun _ => rfl, Nat.le_of_ble_eq_true rfl, .inl rfl⟩ | exact ⟨rfl, rfl, fun h => (nomatch h), Nat.le_of_ble_eq_true rfl, .inl rfl⟩ | exact ⟨rfl, rfl, fun _ => rfl, Nat.le_of_ble_eq_true rfl, .inr rfl⟩ | exact ⟨rfl, rfl, fun h => (nomatch h), Nat.le_of_ble_eq_true rfl, .inr rfl⟩ | omega | exact ⟨rfl, by repeat (first | exact fm_nil | refine fm_cons ⟨rfl, rfl⟩ ?_), Nat.le_of_ble_eq_true rfl, Nat.le_of_ble_eq_true rfl⟩ | (refine ⟨?_, ?_, ?_, ?_, ?_, ?_, ?_⟩ <;> first | omega | exact Nat.le_of_ble_eq_true rfl) | exact ⟨rfl, by omega, by (try simp only [List.length_map, List.length_set]); omega⟩ | exact ⟨rfl, by omega, by simp only [Int.toNat_natCast]; omega, by omega, Nat.le_of_ble_eq_true rfl, rfl⟩)
    (hst : st.app dst r = st' := by simp +decide (disch := omega) only [nrm, lk_nrm, dc_nrm, mk_nrm, mf_nrm, ti_nrm, ls_nrm, mp_nrm, nb_nrm, hset, pick_and, pick_or, ↓reduceIte, Nat.reduceAdd, wI64, wI32, wI16, wI8, wU8, List.length_map, Int.toNat_natCast, xn1, xn2]; rfl) : areg P T m ops ({ dst := dst, op := op, type := ty, pos := pos, after := af, guard := some (j, want) } :: l) st K := areg_yes_go hg hs hd hpre hst hK
theorem gyc1 {j : Nat} {want : Bool} {r : Res} (hK : areg P T m ops l st' K) (hr : OpRel P { dst := dst, op := op, type := ty, pos := pos, after := af, guard := some (j, want) } (evD st.sl) st.hp st.nx r) (hg : guardD ops j st.sl = some want := by rfl) (hs : astep T op (evD st.sl) st.hp st.nx = none := by rfl)
    (hst : st.app dst r = st' := by simp +decide (disch := omega) only [nrm, lk_nrm, dc_nrm, mk_nrm, mf_nrm, ti_nrm, ls_nrm, mp_nrm, nb_nrm, hset, pick_and, pick_or, ↓reduceIte, Nat.reduceAdd, wI64, wI32, wI16, wI8, wU8, List.length_map, Int.toNat_natCast, xn1, xn2]; rfl) : areg P T m ops ({ dst := dst, op := op, type := ty, pos := pos, after := af, guard := some (j, want) } :: l) st K := areg_yes_call hg hs hr hst hK
end
section
variable {ops : List Oper} {base sl : List (Nat × D)} {rd eh hp : HP} {pins : List Nat} {i nx : Nat} {l : List Oper} {done : List D} {K : St → Prop} {dst : Option Tmp} {op : Op} {ty : TypeId} {pos : String} {af : Array Edge}
theorem dgp2 {g : Nat} {want b e w : Bool} {d : D} {done' : List D} {sl' : List (Nat × D)} (h : DReg P ops base rd eh pins (i + 1) l done' hp nx sl' K) (hpin : pins.contains i = true := by rfl)
    (hdep : depOn { dst := dst, op := op, type := ty, pos := pos, after := af, guard := some (g, want) } g = true := by rfl) (hg : gslot ops g (maskSl { dst := dst, op := op, type := ty, pos := pos, after := af, guard := some (g, want) } ops done 0 base) = some (gd e w (.val (.bool b))) := by rfl)
    (hr : e = w → b = want → ∃ r, OpRel P { dst := dst, op := op, type := ty, pos := pos, after := af, guard := some (g, want) } (evD (maskSl { dst := dst, op := op, type := ty, pos := pos, after := af, guard := some (g, want) } ops done 0 base)) hp nx r ∧ r.d = d ∧ r.new = [] ∧ r.upd = [])
    (hdn : done ++ [gd ((e == w) && (b == want)) true d] = done' := by simp +decide (disch := omega) only [nrm, lk_nrm, dc_nrm, mk_nrm, mf_nrm, ti_nrm, ls_nrm, mp_nrm, nb_nrm, hset, pick_and, pick_or, ↓reduceIte, Nat.reduceAdd, wI64, wI32, wI16, wI8, wU8, List.length_map, Int.toNat_natCast, xn1, xn2, mask_nrm]; rfl) (hsl : putSl dst (gd ((e == w) && (b == want)) true d) sl = sl' := by simp +decide (disch := omega) only [nrm, lk_nrm, dc_nrm, mk_nrm, mf_nrm, ti_nrm, ls_nrm, mp_nrm, nb_nrm, hset, pick_and, pick_or, ↓reduceIte, Nat.reduceAdd, wI64, wI32, wI16, wI8, wU8, List.length_map, Int.toNat_natCast, xn1, xn2, mask_nrm]; rfl) : DReg P ops base rd eh pins i ({ dst := dst, op := op, type := ty, pos := pos, after := af, guard := some (g, want) } :: l) done hp nx sl K := by
  by_cases he : e = w
  · subst he
    have e1 : gd e e (.val (.bool b)) = .val (.bool b) := by simp [gd]
    rw [e1] at hg
    have e2 : gd ((e == e) && (b == want)) true d = gd b want d := by cases b <;> cases want <;> simp [gd]
    rw [e2] at hdn hsl
    exact dreg_gpin hpin hdep (gslot_D hg) (hr rfl) hdn hsl h
  · have e1 : gd e w (.val (.bool b)) = .val undef := by simp [gd, he]
    rw [e1] at hg
    have e2 : gd ((e == w) && (b == want)) true d = .val undef := by simp [gd, he]
    rw [e2] at hdn hsl
    subst hdn; subst hsl
    exact dreg_cons (it := ⟨_, true, false, { d := .val undef }, false⟩) ⟨hpin.symm, fun h => Bool.noConfusion h⟩ ⟨⟨hdep, .inr ⟨gslot_U hg, rfl⟩⟩, fun h => by simp at h, fun h => by simp at h, fun _ => rfl⟩ h
end
end Go.Proofs.YtpdkhlpmiblflaaGreat.Abs

/- Abs, part 24: arrays of booleans whose cells are looked at by a number that is not known. -/
set_option linter.unusedVariables false
set_option linter.unusedSimpArgs false
namespace Go.Proofs.YtpdkhlpmiblflaaGreat.Abs
open Go Go.RowKit
variable {P : Program} {T : TT} {C : Ctx}
section
variable {m : Nat} {ops l : List Oper} {st st' : St} {K : St → Prop} {dst : Option Tmp} {op : Op} {ty : TypeId} {pos : String} {af : Array Edge}
end
end Go.Proofs.YtpdkhlpmiblflaaGreat.Abs

/- Abs, part 25: == of structs and arrays of integers. -/
set_option linter.unusedVariables false
set_option linter.unusedSimpArgs false
namespace Go.Proofs.YtpdkhlpmiblflaaGreat.Abs
open Go Go.RowKit
variable {P : Program} {T : TT} {C : Ctx}
def vOf (ag : Bool) (ks : List IntKind) (ns : List Int) : Value := if ag then .agg (intVs ks ns).toArray else (intVs ks ns).headD undef
def EqT (P : Program) (n : Nat) (t : TypeId) (ag : Bool) (ks : List IntKind) : Prop :=
  (∀ w, (Go.isAgg t).run P w = .ok ag w) ∧ (∀ w, (sizeOf t).run P w = .ok ks.length w) ∧ (ag = false → ks.length = 1) ∧ ∀ (w : World) (d : Nat) (xs ys : List Int), xs.length = ks.length → ys.length = ks.length → (Op.equalIn (d + n) t (vOf ag ks xs) (vOf ag ks ys)).run P w = .ok (decide (xs = ys)) w
theorem eqT_int {t : TypeId} {k : IntKind} {ti : TI} {n : Nat} (hT : TOk P T) (hl : lk t T = some ti) (hs : ti.sh = .int k) (h1 : ti.size = 1) : EqT P (n + 1) t false [k] := by
  refine ⟨fun w => ?_, fun w => ?_, fun _ => rfl, fun w d xs ys hx hy => ?_⟩
  · have := TI.run_aggB (hT _ _ hl) w
    rw [this]; simp [TI.aggB, hs]
  · have := TI.run_size (hT _ _ hl) w
    rw [this, h1]; rfl
  · obtain ⟨a, rfl⟩ := len1 hx
    obtain ⟨b, rfl⟩ := len1 hy
    have hu := TI.under_int (hT _ _ hl) hs
    rw [show d + (n + 1) = (d + n) + 1 by omega]
    have := run_equalIn_int (P := P) w (d + n) t k k a b hu
    simp only [vOf, Bool.false_eq_true, if_false, intVs, List.headD_cons]
    rw [this]
    congr 1
    rw [Bool.eq_iff_iff]
    simp
theorem intVs_app : ∀ {ks ks' : List IntKind} {xs ys : List Int}, xs.length = ks.length → intVs (ks ++ ks') (xs ++ ys) = intVs ks xs ++ intVs ks' ys
  | [], _, [], _, _ => rfl
  | k :: ks, ks', x :: xs, ys, h => by
    have := intVs_app (ks := ks) (ks' := ks') (xs := xs) (ys := ys) (by simpa using h)
    simp only [List.cons_append, intVs]
    rw [this]
  | [], _, _ :: _, _, h => by simp at h
  | _ :: _, _, [], _, h => by simp at h
theorem part_flat {t : TypeId} {ag : Bool} {ks : List IntKind} {n : Nat} (h : EqT P n t ag ks) {pre post : List Value} {xs : List Int} (hx : xs.length = ks.length) {off : Nat} (ho : pre.length = off) (w : World) : (part t (pre ++ (intVs ks xs ++ post)).toArray off).run P w = .ok (vOf ag ks xs) w := by
  obtain ⟨h1, h2, h3, _⟩ := h
  subst ho
  have hlen := intVs_length hx
  unfold part
  cases ag with
  | true =>
    simp only [Sem.run_bind, h1, Result.andThen_ok, if_true, h2, Sem.run_pure, vOf]
    congr 2
    apply Array.ext'
    simp [List.extract, hlen]
  | false =>
    have hk := h3 rfl
    have hc : (pre ++ (intVs ks xs ++ post)).toArray[pre.length]? = some (vOf false ks xs) := by
      have : ∃ v, intVs ks xs = [v] := len1 (hlen.trans hk)
      obtain ⟨v, hv⟩ := this
      simp [vOf, hv]
    simp only [Sem.run_bind, h1, Result.andThen_ok, Bool.false_eq_true, if_false, hc, Sem.run_pure]
def FldsOk (P : Program) (n : Nat) : Nat → List Field → List (List IntKind) → Prop
  | _, [], [] => True
  | off, f :: fs, ks :: kss => f.name ≠ "_" ∧ f.offset = off ∧ (∃ ag, EqT P n f.type ag ks) ∧ FldsOk P n (off + ks.length) fs kss
  | _, _, _ => False
theorem eqFields_ok {n d : Nat} (w : World) : ∀ (fs : List Field) (kss : List (List IntKind)) (off : Nat), FldsOk P n off fs kss → ∀ (pa pb : List Value) (xs ys : List Int), pa.length = off → pb.length = off → xs.length = kss.flatten.length → ys.length = kss.flatten.length →
    (Op.eqFields (d + n) (pa ++ intVs kss.flatten xs).toArray (pb ++ intVs kss.flatten ys).toArray fs).run P w = .ok (decide (xs = ys)) w
  | [], [], off, _, pa, pb, xs, ys, _, _, hx, hy => by
    have hx : xs = [] := by simpa using hx
    have hy : ys = [] := by simpa using hy
    subst hx; subst hy
    simp [Op.eqFields]
  | f :: fs, ks :: kss, off, ⟨hn, ho, ⟨ag, hE⟩, hf⟩, pa, pb, xs, ys, ha, hb, hx, hy => by
    simp only [List.flatten_cons, List.length_append] at hx hy
    obtain ⟨x1, x2, rfl, hx1⟩ : ∃ x1 x2, xs = x1 ++ x2 ∧ x1.length = ks.length := ⟨xs.take ks.length, xs.drop ks.length, by simp, by simp; omega⟩
    obtain ⟨y1, y2, rfl, hy1⟩ : ∃ y1 y2, ys = y1 ++ y2 ∧ y1.length = ks.length := ⟨ys.take ks.length, ys.drop ks.length, by simp, by simp; omega⟩
    simp only [List.length_append] at hx hy
    have ih := eqFields_ok (d := d) w fs kss _ hf (pa ++ intVs ks x1) (pb ++ intVs ks y1) x2 y2 (by rw [List.length_append, intVs_length hx1, ha]) (by rw [List.length_append, intVs_length hy1, hb]) (by omega) (by omega)
    simp only [List.flatten_cons]
    rw [intVs_app hx1, intVs_app hy1]
    rw [List.append_assoc, List.append_assoc] at ih
    simp only [Op.eqFields]
    rw [if_pos hn]
    rw [Sem.run_bind, ho, part_flat hE hx1 ha w, Result.andThen_ok, Sem.run_bind, part_flat hE hy1 hb w, Result.andThen_ok, Sem.run_bind, hE.2.2.2 w d x1 y1 hx1 hy1, Result.andThen_ok]
    by_cases e : x1 = y1
    · subst e
      simp only [decide_true, Bool.not_true, Bool.false_eq_true, if_false]
      rw [ih]
      congr 1
      rw [Bool.eq_iff_iff]
      simp
    · have : ¬ x1 ++ x2 = y1 ++ y2 := fun h => e (List.append_inj_left h (by omega))
      simp [e, this]
  | [], _ :: _, _, h, _, _, _, _, _, _, _, _ => h.elim
  | _ :: _, [], _, h, _, _, _, _, _, _, _, _ => h.elim
theorem eqT_struct {t : TypeId} {n : Nat} {kss : List (List IntKind)} {ti : TI} (hT : TOk P T) (hl : lk t T = some ti) (hu : P.underlying t = some (.struct (P.fieldsOf t))) (hst : P.stoodInHeld t = false) (hf : FldsOk P n 0 (P.fieldsOf t).toList kss) (hs : ti.size = kss.flatten.length) (hg : ti.aggB = true) : EqT P (n + 1) t true kss.flatten := by
  refine ⟨fun w => ?_, fun w => ?_, fun h => (by cases h), fun w d xs ys hx hy => ?_⟩
  · rw [TI.run_aggB (hT _ _ hl) w, hg]
  · rw [TI.run_size (hT _ _ hl) w, hs]
  · rw [show d + (n + 1) = (d + n) + 1 by omega]
    simp only [vOf, if_true]
    rw [run_equalIn_struct w (d + n) t _ _ hu hst]
    have := eqFields_ok (P := P) (n := n) (d := d) w (P.fieldsOf t).toList kss 0 hf [] [] xs ys rfl rfl hx hy
    simpa using this
theorem eqT_arr3 {t e : TypeId} {k : IntKind} {n : Nat} {ti : TI} (hT : TOk P T) (hl : lk t T = some ti) (hs : ti.sh = .arr 3 e) (hz : ti.size = 3) (h : EqT P n e false [k]) : EqT P (n + 1) t true [k, k, k] := by
  refine ⟨fun w => ?_, fun w => ?_, fun h => (by cases h), fun w d xs ys hx hy => ?_⟩
  · rw [TI.run_aggB (hT _ _ hl) w]; simp [TI.aggB, hs]
  · rw [TI.run_size (hT _ _ hl) w, hz]; rfl
  · obtain ⟨a0, a1, a2, rfl⟩ := len3 hx
    obtain ⟨b0, b1, b2, rfl⟩ := len3 hy
    have hu := TI.under_arr (hT _ _ hl) hs
    rw [show d + (n + 1) = (d + n) + 1 by omega]
    have hp : ∀ (pre post : List Value) (v : Int) (off : Nat), pre.length = off → (part e (pre ++ ([Value.int k v] ++ post)).toArray off).run P w = .ok (.int k v) w := fun pre post v off ho => part_flat h (xs := [v]) rfl ho w
    have hq : ∀ a b : Int, (Op.equalIn (d + n) e (.int k a) (.int k b)).run P w = .ok (decide (a = b)) w := fun a b => by
      have := h.2.2.2 w d [a] [b] rfl rfl
      simpa [vOf, intVs] using this
    have p0 := fun v0 v1 v2 => hp [] [.int k v1, .int k v2] v0 0 rfl
    have p1 := fun v0 v1 v2 => hp [.int k v0] [.int k v2] v1 1 rfl
    have p2 := fun v0 v1 v2 => hp [.int k v0, .int k v1] [] v2 2 rfl
    simp only [List.nil_append, List.cons_append, List.append_nil] at p0 p1 p2
    have hsz := h.2.1 w
    simp only [vOf, if_true, intVs, Op.equalIn, Sem.run_bind, run_underlying hu, Result.andThen_ok, hsz, List.length_cons, List.length_nil]
    rw [Std.Legacy.Range.forIn_eq_forIn_range']
    simp [Std.Legacy.Range.size, List.range', p0, p1, p2, hq]
    by_cases e0 : a0 = b0 <;> by_cases e1 : a1 = b1 <;> by_cases e2 : a2 = b2 <;> simp [e0, e1, e2, p0, p1, p2, hq]

theorem oprel_neS {n : Nat} {t : TypeId} {ks : List IntKind} (hE : EqT P n t true ks) (hn : n ≤ 10000) (hm : P.eqGuardType P.depth t = false) {o : Oper} {x y : Operand} {yt : TypeId} (ho : o.op = .binOp .neq t x y yt) {ev : Operand → D} {hp : HP} {nx : Nat} {xs ys : List Int}
    (hx : ev x = .val (.agg (intVs ks xs).toArray)) (hy : ev y = .val (.agg (intVs ks ys).toArray)) (lx : xs.length = ks.length) (ly : ys.length = ks.length) : OpRel P o ev hp nx { d := .val (.bool (!decide (xs = ys))) } := by
  refine ⟨⟨fun p hp => by simp at hp, rfl⟩, fun w0 S G hv a w hI hk hev K Q hK => ?_⟩
  have h1 := hev x
  rw [hx] at h1
  have h1 := rep_val h1
  have h2 := hev y
  rw [hy] at h2
  have h2 := rep_val h2
  have he := hE.2.2.2 w (10000 - n) xs ys lx ly
  rw [show 10000 - n + n = 10000 by omega] at he
  simp only [vOf, if_true] at he
  have hr : ((do eqGuard .neq t x y (a.eval x) (a.eval y); binOp .neq t (a.eval x) (a.eval y) : Sem Value)).run P w = .ok (.bool (!decide (xs = ys))) w := by
    rw [h1, h2, Sem.run_bind, run_eqGuard_agg w .neq t x y _ _ hm, Result.andThen_ok, run_neq_struct, he]
    rfl
  have hex : (execOp a.eval o).run P w = .ok (.value (.bool (!decide (xs = ys)))) w := by
    simp only [execOp, ho]
    rw [Sem.run_bind, hr]
    rfl
  unfold Oper.wp
  rw [hex]
  exact hK _ hv w (post_same hI (rep_mk _))
section
variable {ops : List Oper} {base sl : List (Nat × D)} {rd eh hp : HP} {pins : List Nat} {i nx : Nat} {l : List Oper} {done : List D} {K : St → Prop} {dst : Option Tmp} {op : Op} {ty : TypeId} {pos : String} {af : Array Edge}
theorem dfr {d : D} {done' : List D} {sl' : List (Nat × D)} (h : DReg P ops base rd eh pins (i + 1) l done' hp nx sl' K) (hf : ∀ (hp : HP) (nx : Nat), OpRel P { dst := dst, op := op, type := ty, pos := pos, after := af, guard := none } (evD (maskSl { dst := dst, op := op, type := ty, pos := pos, after := af, guard := none } ops done 0 base)) hp nx { d := d }) (hpin : pins.contains i = false := by rfl)
    (hdn : done ++ [d] = done' := by simp +decide (disch := omega) only [nrm, lk_nrm, dc_nrm, mk_nrm, mf_nrm, ti_nrm, ls_nrm, mp_nrm, nb_nrm, hset, pick_and, pick_or, ↓reduceIte, Nat.reduceAdd, wI64, wI32, wI16, wI8, wU8, List.length_map, Int.toNat_natCast, xn1, xn2, mask_nrm]; rfl) (hsl : putSl dst d sl = sl' := by simp +decide (disch := omega) only [nrm, lk_nrm, dc_nrm, mk_nrm, mf_nrm, ti_nrm, ls_nrm, mp_nrm, nb_nrm, hset, pick_and, pick_or, ↓reduceIte, Nat.reduceAdd, wI64, wI32, wI16, wI8, wU8, List.length_map, Int.toNat_natCast, xn1, xn2, mask_nrm]; rfl) : DReg P ops base rd eh pins i ({ dst := dst, op := op, type := ty, pos := pos, after := af, guard := none } :: l) done hp nx sl K := by
  subst hdn; subst hsl
  exact dreg_cons (it := ⟨_, false, true, { d := d }, false⟩) ⟨hpin.symm, fun h => Bool.noConfusion h⟩ ⟨rfl, fun _ h => by simp at h, fun _ _ => ⟨rfl, fun hp nx _ => hf hp nx⟩, fun h => by simp at h⟩ h
end
end Go.Proofs.YtpdkhlpmiblflaaGreat.Abs

/- Abs, part 26: regions that draw their order up to a point, and go on in the text's order behind it. -/
set_option linter.unusedVariables false
set_option linter.unusedSimpArgs false
namespace Go.Proofs.YtpdkhlpmiblflaaGreat.Abs
open Go Go.RowKit
variable {P : Program} {T : TT} {C : Ctx}

theorem any_of_JB {P : Program} (hP : C.P = P) {its : List It} {B : List Oper} {base : List (Nat × D)} {rd eh hp0 : HP} {nx0 : Nat} (hD : DrawOk C.N its) (hT : Tr P (its.map (·.o)) base rd eh its [] hp0 nx0) (hrd : ∀ h ob, lk h rd = some ob → lk h hp0 = some ob ∧ h < nx0) (heh : ∀ h ob, lk h eh = some ob → lk h hp0 = some ob) {Q : Exit → Act → World → Prop}
    (hcov : ∀ listed : Array Bool, (∀ (i : Nat) (it : It), its[i]? = some it → listed.getD i true = true → ∀ k, depOn it.o k = true → listed.getD k true = true) → (∀ k, its.length ≤ k → k < its.length + B.length → listed.getD k true = false) → listed.size = its.length + B.length → ∀ j, j ∈ Region.ready .any (its.map (·.o) ++ B).toArray listed → its.length ≤ j → ∀ i, i < its.length → listed.getD i true = true)
    (hQ : ∀ (fuel : Nat) (listed : Array Bool) a w, listed.size = its.length + B.length → (∀ i, i < its.length → listed.getD i true = true) → (∀ k, its.length ≤ k → k < its.length + B.length → listed.getD k true = false) → B.length ≤ fuel → Inv C ⟨finSl its base, (stAt its its.length hp0 nx0).1, (stAt its its.length hp0 nx0).2⟩ a w → wpAny P .any (its.map (·.o) ++ B).toArray Q fuel listed a w) : ∀ (fuel : Nat) (listed : Array Bool) (a : Act) (w : World) (n : Nat) (hv : Nat → Value), listed.size = its.length + B.length → (∀ k, its.length ≤ k → k < its.length + B.length → listed.getD k true = false) → (listed.toList.take its.length).count false + B.length ≤ fuel →
    J C its base hp0 nx0 n hv listed a w → wpAny P .any (its.map (·.o) ++ B).toArray Q fuel listed a w := by
  have hops : ∀ j : Nat, j < its.length → (its.map (fun i : It => i.o) ++ B).toArray[j]? = (its[j]?).map (fun i : It => i.o) := fun j hj => by
    simp [List.getElem?_append_left, hj]
  have hquiet : ∀ (i : Nat) (it : It), its[i]? = some it → it.pin = false → it.r = { d := it.r.d } := fun i it hi hp => by
    obtain ⟨_, _, h3, h4⟩ := tr_get its _ _ _ hT i it hi
    cases hon : it.on with
    | true => exact (h3 hon hp).1
    | false => rw [h4 hon]
  -- all is listed: the end
  have fin : ∀ (listed : Array Bool) (a : Act) (w : World) (n : Nat) (hv : Nat → Value), J C its base hp0 nx0 n hv listed a w → (∀ i, i < its.length → listed.getD i true = true) → Inv C ⟨finSl its base, (stAt its its.length hp0 nx0).1, (stAt its its.length hp0 nx0).2⟩ a w := fun listed a w n hv hJ hall => by
    have e : stAt its its.length hp0 nx0 = stAt its n hp0 nx0 := by
      by_cases hn : n ≤ its.length
      · have := stAt_le its hp0 nx0 n (its.length - n) (fun i it hi h1 h2 => by
          refine hquiet i it hi ?_
          cases h : it.pin with
          | false => rfl
          | true => have := (hJ.pins i it hi h).1 (hall i (List.getElem?_eq_some_iff.1 hi).1); omega)
        rwa [show n + (its.length - n) = its.length by omega] at this
      · have := stAt_le its hp0 nx0 its.length (n - its.length) (fun i it hi h1 h2 => by have := (List.getElem?_eq_some_iff.1 hi).1; omega)
        rw [show its.length + (n - its.length) = n by omega] at this
        exact this.symm
    refine ⟨hv, by rw [e]; exact hJ.inv, by rw [e]; exact hJ.keys, by rw [e]; exact hJ.cm, by rw [e]; exact hJ.pinned, hJ.defers, hJ.size, fun t d hl => ?_⟩
    rw [e]
    rcases lk_finSl its base t d hl with ⟨i, it, h1, h2, h3⟩ | ⟨h1, h2⟩
    · rw [h3]; exact hJ.got i it t h1 h2 (hall i (List.getElem?_eq_some_iff.1 h1).1)
    · exact hJ.bas t d h1 (fun i it hi hd => absurd hd (h2 it (List.mem_of_getElem? hi)))
  -- nothing is ready: all is listed
  have done : ∀ (listed : Array Bool), Region.ready .any (its.map (·.o) ++ B).toArray listed = [] → listed.size = its.length + B.length → ∀ i, i < its.length → listed.getD i true = true := fun listed hr hsz i => by
    induction i using Nat.strongRecOn with
    | _ i ih =>
      intro hi
      cases hl : listed.getD i true with
      | true => rfl
      | false =>
        exfalso
        have hit : ∃ it, its[i]? = some it := ⟨_, List.getElem?_eq_getElem hi⟩
        obtain ⟨it, hit⟩ := hit
        have : i ∈ Region.ready .any (its.map (·.o) ++ B).toArray listed := mem_ready.2 ⟨hl, it.o, by rw [hops i hi, hit]; rfl, fun e he hb => by
          have hb1 := List.all_eq_true.1 hD.back i (by simpa using hi)
          simp only [List.getElem?_map, hit, Option.map_some] at hb1
          have := List.all_eq_true.1 hb1 e (by simpa using he)
          simp only [hb, Bool.not_true, Bool.false_or, decide_eq_true_eq] at this
          have h2 := ih e.on this (by omega)
          rw [Array.getD_eq_getD_getElem?, Array.getElem?_eq_getElem (by omega)] at h2 ⊢
          simpa using h2⟩
        rw [hr] at this
        cases this
  intro fuel
  induction fuel with
  | zero =>
    intro listed a w n hv hsz hBu hc hJ
    refine hQ 0 listed a w hsz (fun i hi => ?_) hBu (by omega) (fin listed a w n hv hJ (fun i hi => ?_))
    all_goals
      have h0 : (listed.toList.take its.length).count false = 0 := by omega
      have hi' : i < listed.size := by omega
      rw [Array.getD_eq_getD_getElem?, Array.getElem?_eq_getElem hi']
      have : listed[i] ∈ listed.toList.take its.length := List.mem_take_iff_getElem.2 ⟨i, by simp; omega, by simp⟩
      cases hb : listed[i] with
      | true => rfl
      | false => rw [hb] at this; exact absurd this (List.count_eq_zero.1 h0)
  | succ fuel ih =>
    intro listed a w n hv hsz hBu hc hJ
    by_cases hall : ∀ i, i < its.length → listed.getD i true = true
    · exact hQ _ listed a w hsz hall hBu (by omega) (fin listed a w n hv hJ hall)
    refine ⟨fun hr => absurd (done listed hr hsz) hall, fun j hj => ?_⟩
    have hjlt : j < its.length := by
      rcases Nat.lt_or_ge j its.length with h | h
      · exact h
      · exact absurd (hcov listed hJ.closed hBu hsz j hj h) hall
    obtain ⟨hun, o, ho, hdeps⟩ := mem_ready.1 hj
    rw [hops j hjlt] at ho
    obtain ⟨it, hit, rfl⟩ := Option.map_eq_some_iff.1 ho
    have hjl := (List.getElem?_eq_some_iff.1 hit).1
    obtain ⟨hguard, hpin, hfree, hoff⟩ := tr_get its _ _ _ hT j it hit
    simp only [List.nil_append] at hguard hpin hfree
    have hdep : ∀ i, depOn it.o i = true → listed.getD i true = true ∧ i < j := fun i hi => by
      obtain ⟨e, he, hb⟩ := List.any_eq_true.1 hi
      have he : e ∈ it.o.after := by simpa using he
      simp only [Bool.and_eq_true, beq_iff_eq] at hb
      have h1 := hdeps e he hb.2
      rw [hb.1] at h1
      have hb1 := List.all_eq_true.1 hD.back j (by simpa using hjl)
      simp only [List.getElem?_map, hit, Option.map_some] at hb1
      have := List.all_eq_true.1 hb1 e (by simpa using he)
      simp only [hb.2, Bool.not_true, Bool.false_or, decide_eq_true_eq, hb.1] at this
      refine ⟨?_, this⟩
      rw [Array.getD_eq_getD_getElem?, Array.getElem?_eq_getElem (by omega)] at h1 ⊢
      simpa using h1
    have hstar : ∀ (m : Nat) (o : Oper) (k : Nat), (∀ k, depOn o k = true → listed.getD k true = true) → depStar (its.map (·.o)) m o k = true → listed.getD k true = true := by
      intro m
      induction m with
      | zero => intro o k ho hk; exact ho k hk
      | succ m ihm =>
        intro o k ho hk
        simp only [depStar, Bool.or_eq_true] at hk
        rcases hk with hk | hk
        · exact ho k hk
        · obtain ⟨e, he, hk⟩ := List.any_eq_true.1 hk
          simp only [Bool.and_eq_true] at hk
          obtain ⟨hb, hk⟩ := hk
          have hl := ho e.on (List.any_eq_true.2 ⟨e, he, by simp [hb]⟩)
          rw [List.getElem?_map] at hk
          cases hi : its[e.on]? with
          | none => simp [hi] at hk
          | some it' =>
            simp only [hi, Option.map_some] at hk
            exact ihm it'.o k (hJ.closed e.on it' hi hl) hk
    have hdN : ∀ t, it.o.dst = some t → t < C.N := fun t ht => by
      have := List.all_eq_true.1 hD.dsts it.o (List.mem_map.2 ⟨it, List.mem_of_getElem? hit, rfl⟩)
      simpa [ht] using this
    have hlow : it.pin = true → n ≤ j ∧ ∀ i it', its[i]? = some it' → it'.pin = true → i < j → i < n := fun hp => by
      refine ⟨?_, fun i it' hi hp' hlt => ?_⟩
      · rcases Nat.lt_or_ge j n with h | h
        · have := (hJ.pins j it hit hp).2 h
          rw [hun] at this; cases this
        · exact h
      · obtain ⟨k, ik, hk, hkp, h1, h2, h3⟩ := hD.chain i j it' it hi hit hp' hp hlt
        have := (hJ.pins k ik hk hkp).1 (hstar 2 it.o k (fun k hk => (hdep k hk).1) h3)
        omega
    have hcount : ((listed.setIfInBounds j true).toList.take its.length).count false + B.length ≤ fuel := by
      have h1 : (listed.toList.take its.length)[j]? = some false := by
        rw [Array.getD_eq_getD_getElem?, Array.getElem?_eq_getElem (by omega)] at hun
        simp at hun
        rw [List.getElem?_take, if_pos hjl]
        simp [hun, show j < listed.size by omega]
      have := count_set h1
      rw [Array.toList_setIfInBounds, List.take_set]
      omega
    have hsz' : (listed.setIfInBounds j true).size = its.length + B.length := by simpa using hsz
    have hBu' : ∀ k, its.length ≤ k → k < its.length + B.length → (listed.setIfInBounds j true).getD k true = false := fun k h1 h2 => by
      rw [listed_set (show k ≠ j by omega)]; exact hBu k h1 h2
    -- what it may look at
    have hS : SInv C.N (LOf hv (stAt its n hp0 nx0).1) w (FOf C.G hv (stAt its n hp0 nx0).1 w) (maskSl it.o (its.map (·.o)) ((its.take j).map (·.r.d)) 0 base) a := by
      refine ⟨hJ.defers, hJ.size, fun t d hl => ?_⟩
      rcases lk_mask _ _ _ _ _ hl with ⟨i, oi, h1, h2, h3⟩ | ⟨h1, h2⟩
      · rcases h3 with ⟨h3, h4⟩ | h3
        · rw [Nat.zero_add] at h3
          obtain ⟨hls, hlt⟩ := hdep i h3
          rw [List.getElem?_map] at h1
          obtain ⟨ii, hii, rfl⟩ := Option.map_eq_some_iff.1 h1
          have : d = ii.r.d := by
            rw [h4]
            simp [List.getD, List.getElem?_map, List.getElem?_take, hlt, hii]
          rw [this]
          exact hJ.got i ii t hii h2 hls
        · rw [h3]; exact (RepP.any _ : RepP w _ .any _)
      · refine hJ.bas t d h1 (fun i it' hi' hd' => ?_)
        have hdep' := h2 it'.o (List.mem_map.2 ⟨it', List.mem_of_getElem? hi', rfl⟩) hd'
        have hlen : ((its.take j).map (·.r.d)).length = j := by simp; omega
        rw [hlen] at hdep'
        cases hb : listed.getD i true with
        | false => rfl
        | true => have := hJ.closed i it' hi' hb j hdep'; rw [hun] at this; cases this
    have hev := evD_ok hS
    -- it is carried out: its state
    have next : ∀ v hv' w', (NewKeys (stAt its n hp0 nx0).2 it.r.new) → it.r.dead = none → Post C.w0 C.S C.G hv (stAt its n hp0 nx0).1 w it.r v hv' w' → wpAny P .any (its.map (·.o) ++ B).toArray Q fuel (listed.setIfInBounds j true) (a.put it.o.dst v) w' := fun v hv' w' hnk hdead hP => by
      obtain ⟨n', _, hJ'⟩ := hJ.step hit hun hD.apart hdN hlow hquiet hnk hdead (fun k hk => (hdep k hk).1) hP
      exact ih _ _ _ n' hv' hsz' hBu' hcount hJ'
    unfold wpOp
    rw [hops j hjlt, hit]
    simp only [Option.map_some]
    have hyl : ∀ g, depOn it.o g = true → yielded (its.map (·.o) ++ B).toArray a.tmps g = yielded (its.map (·.o)).toArray a.tmps g := fun g hg => by
      have hlt := (hdep g hg).2
      unfold yielded
      rw [show (its.map (·.o) ++ B).toArray[g]? = (its.map (·.o)).toArray[g]? by simp [List.getElem?_append_left, show g < its.length by omega]]
    have hwant : Region.wanted it.o (yielded (its.map (·.o) ++ B).toArray a.tmps) = it.on := by
      unfold Region.wanted
      split at hguard
      · rename_i hg; rw [hg]; simp [hguard]
      · rename_i g want hg
        rw [hg]
        simp only
        have hN : ∀ t, ((its.map (fun i : It => i.o))[g]?).bind (·.dst) = some t → t < C.N := fun t ht => by
          rw [List.getElem?_map] at ht
          cases hgi : its[g]? with
          | none => simp [hgi] at ht
          | some ig =>
            have := List.all_eq_true.1 hD.dsts ig.o (List.mem_map.2 ⟨ig, List.mem_of_getElem? hgi, rfl⟩)
            simp [hgi] at ht
            simpa [ht] using this
        rcases hguard.2 with ⟨b, hb2, hb3⟩ | ⟨hb2, hb3⟩
        · have hy := guardD_ok hb2 hS hN
          rw [hyl g hguard.1, hy, hb3]
          cases b <;> cases want <;> rfl
        · have hy := guardU_ok hb2 hS hN
          rw [hyl g hguard.1, hy, hb3]
          rfl
    rw [hwant]
    cases hon : it.on with
    | false =>
      simp only [Bool.false_eq_true, if_false]
      have hr := hoff hon
      refine next undef hv w ?_ (by rw [hr]) ?_
      · rw [hr]; intro p hp; simp at hp
      · rw [hr]; exact post_same hJ.inv (RepP.val _ : RepP w _ (.val undef) _)
    | true =>
      simp only [if_true]
      refine .inl ?_
      cases hp : it.pin with
      | true =>
        obtain ⟨hrel, _⟩ := hpin hon hp
        have e1 : stAt its j hp0 nx0 = stAt its n hp0 nx0 := by
          obtain ⟨hnj, hall⟩ := hlow hp
          have := stAt_le its hp0 nx0 n (j - n) (fun i it' hi h1 h2 => by
            refine hquiet i it' hi ?_
            cases h : it'.pin with
            | false => rfl
            | true => have := hall i it' hi h (by omega); omega)
          rwa [show n + (j - n) = j by omega] at this
        rw [e1] at hrel
        exact hrel.2 C.w0 C.S C.G hv a w hJ.inv hJ.keys hev _ _ (fun v hv' w' hP' => next v hv' w' hrel.1.1 hrel.1.2 hP')
      | false =>
        obtain ⟨hq, hfr⟩ := hfree hon hp
        have hrel := hfr (stAt its n hp0 nx0).1 (stAt its n hp0 nx0).2 (fun h ob hl => by
          cases he : it.early with
          | false =>
            simp only [he, Bool.false_eq_true, if_false] at hl
            exact (stAt_rd its [] hp0 nx0 n hT hrd h ob hl).1
          | true =>
            simp only [he, if_true] at hl
            have e0 : stAt its n hp0 nx0 = (hp0, nx0) := by
              have := stAt_le its hp0 nx0 0 n (fun i it' hi _ hlt => hquiet i it' hi (by
                cases h : it'.pin with
                | false => rfl
                | true =>
                  exfalso
                  have hl1 := (hJ.pins i it' hi h).2 (by omega)
                  have := hstar 2 it'.o j (hJ.closed i it' hi hl1) (hD.early j it hit he i it' hi h)
                  rw [hun] at this; cases this))
              rw [Nat.zero_add] at this
              rw [this]; cases its <;> rfl
            rw [e0]; exact heh h ob hl)
        rw [← hq] at hrel
        exact hrel.2 C.w0 C.S C.G hv a w hJ.inv hJ.keys hev _ _ (fun v hv' w' hP' => next v hv' w' hrel.1.1 hrel.1.2 hP')


def covB (ops : List Oper) (n : Nat) : Bool := (List.range n).all fun i => (List.range (n + 1)).any fun k => decide (i < k) && (match ops[k]? with | some o => depOn o i | none => false)
def seqB (ops : List Oper) (n : Nat) : Bool := (List.range ops.length).all fun j => decide (j ≤ n) || (match ops[j]? with | some o => depOn o (j - 1) | none => false)

theorem ready_dep {ops : List Oper} {listed : Array Bool} {j : Nat} {o : Oper} (hb : backB ops = true) (hs : listed.size = ops.length) (hj : j ∈ Region.ready .any ops.toArray listed) (ho : ops[j]? = some o) : listed.getD j true = false ∧ ∀ k, depOn o k = true → listed.getD k true = true ∧ k < j := by
  obtain ⟨hun, o', ho', hdeps⟩ := mem_ready.1 hj
  have : o' = o := by simpa [ho] using ho'.symm
  subst this
  refine ⟨hun, fun k hk => ?_⟩
  have hjl : j < ops.length := (List.getElem?_eq_some_iff.1 ho).1
  obtain ⟨e, he, hb2⟩ := List.any_eq_true.1 hk
  have he : e ∈ o'.after := by simpa using he
  simp only [Bool.and_eq_true, beq_iff_eq] at hb2
  have h1 := hdeps e he hb2.2
  rw [hb2.1] at h1
  have hb1 := List.all_eq_true.1 hb j (by simpa using hjl)
  simp only [ho] at hb1
  have := List.all_eq_true.1 hb1 e (by simpa using he)
  simp only [hb2.2, Bool.not_true, Bool.false_or, decide_eq_true_eq, hb2.1] at this
  refine ⟨?_, this⟩
  rw [Array.getD_eq_getD_getElem?, Array.getElem?_eq_getElem (by omega)] at h1 ⊢
  simpa using h1

theorem any_seq {P : Program} {m : Nat} (hT : TOk P T) (hP : C.P = P) (hCm : C.m = m) {ops : List Oper} {n : Nat} (hd0 : dstsOk C.N ops = true) (hb : backB ops = true) (hsq : seqB ops n = true) {Q : Exit → Act → World → Prop} : ∀ (l : List Oper) (pre : List Oper) (st : St) (fuel : Nat) (listed : Array Bool) (a : Act) (w : World) (K : St → Prop), ops = pre ++ l → n ≤ pre.length → listed.size = ops.length → (∀ i, i < pre.length → listed.getD i true = true) → (∀ k, pre.length ≤ k → k < ops.length → listed.getD k true = false) → l.length ≤ fuel → Inv C st a w → areg P T m ops l st K →
    (∀ st' a' w', K st' → Inv C st' a' w' → Q .normal a' w') → wpAny P .any ops.toArray Q fuel listed a w
  | [], pre, st, fuel, listed, a, w, K, he, hn, hs, h1, h2, hf, hI, h, hK => by
    have hno : ∀ j, j ∉ Region.ready .any ops.toArray listed := fun j hj => by
      obtain ⟨hun, o, ho, _⟩ := mem_ready.1 hj
      have hlt : j < pre.length := by have := (Array.getElem?_eq_some_iff.1 ho).1; rw [he] at this; simpa using this
      rw [h1 j hlt] at hun
      cases hun
    have hq : Q .normal a w := hK st a w h hI
    cases fuel with
    | zero => exact ⟨List.eq_nil_iff_forall_not_mem.2 hno, hq⟩
    | succ f => exact ⟨fun _ => hq, fun j hj => absurd hj (hno j)⟩
  | o :: l, pre, st, fuel, listed, a, w, K, he, hn, hs, h1, h2, hf, hI, h, hK => by
    obtain ⟨f, rfl⟩ : ∃ f, fuel = f + 1 := ⟨fuel - 1, by simp at hf; omega⟩
    have hlen : pre.length < ops.length := by rw [he]; simp
    have hoj : ops[pre.length]? = some o := by rw [he]; simp
    have hrdy : pre.length ∈ Region.ready .any ops.toArray listed := mem_ready.2 ⟨h2 _ (Nat.le_refl _) hlen, o, by simpa using hoj, fun e hea hbd => by
      have hb1 := List.all_eq_true.1 hb pre.length (by simpa using hlen)
      simp only [hoj] at hb1
      have := List.all_eq_true.1 hb1 e (by simpa using hea)
      simp only [hbd, Bool.not_true, Bool.false_or, decide_eq_true_eq] at this
      have h3 := h1 e.on this
      rw [Array.getD_eq_getD_getElem?, Array.getElem?_eq_getElem (by omega)] at h3 ⊢
      simpa using h3⟩
    refine ⟨fun hr => absurd hrdy (by rw [hr]; simp), fun j hj => ?_⟩
    have hjeq : j = pre.length := by
      obtain ⟨hun, o', ho', _⟩ := mem_ready.1 hj
      have hjl : j < ops.length := by have := (Array.getElem?_eq_some_iff.1 ho').1; simpa using this
      have ho2 : ops[j]? = some o' := by simpa using ho'
      rcases Nat.lt_trichotomy j pre.length with hlt | hlt | hlt
      · rw [h1 j hlt] at hun; cases hun
      · exact hlt
      · exfalso
        have := List.all_eq_true.1 hsq j (by simpa using hjl)
        simp only [ho2, Bool.or_eq_true, decide_eq_true_eq] at this
        rcases this with h3 | h3
        · omega
        · have h4 := ((ready_dep hb hs hj ho2).2 _ h3).1
          rw [h2 (j - 1) (by omega) (by omega)] at h4
          cases h4
    subst hjeq
    have hdst : ∀ o ∈ ops, ∀ t, o.dst = some t → t < C.N := fun o ho t ht => by
      have := List.all_eq_true.1 hd0 o ho
      simpa [ht] using this
    have hd := hdst o (by rw [he]; simp)
    have ih : ∀ (st' : St) (a' : Act) (w' : World), Inv C st' a' w' → areg P T m ops l st' K → wpAny P .any ops.toArray Q f (listed.setIfInBounds pre.length true) a' w' := fun st' a' w' hI' h' =>
      any_seq hT hP hCm hd0 hb hsq l (pre ++ [o]) st' f (listed.setIfInBounds pre.length true) a' w' K (by rw [he]; simp) (by simp; omega) (by simpa using hs) (fun i hi => by
        by_cases e : i = pre.length
        · subst e; exact listed_set_same
        · rw [listed_set e]; exact h1 i (by simp at hi; omega)) (fun k hk hk2 => by
        simp at hk
        rw [listed_set (by omega)]; exact h2 k (by omega) hk2) (by simp at hf; omega) hI' h' hK
    simp only [areg] at h
    unfold wpOp
    rw [show ops.toArray[pre.length]? = some o by simpa using hoj]
    simp only
    cases hg : o.guard with
    | none =>
      rw [hg] at h
      simp only [Region.wanted, hg, if_true]
      exact .inl (aop_wp hT hP hCm hI hd h (fun st' a' w' h1 h2 => ih st' a' w' h2 h1))
    | some jw =>
      obtain ⟨j, want⟩ := jw
      rw [hg] at h
      simp only at h
      split at h
      · rename_i b hb
        obtain ⟨hv, hH, hk, hm, hpin, hS⟩ := hI
        have hy := guardD_ok hb hS (fun t ht => by
          cases hj : ops[j]? with
          | none => simp [hj] at ht
          | some oj => exact hdst oj (List.mem_of_getElem? hj) t (by simpa [hj] using ht))
        simp only [Region.wanted, hg, hy]
        by_cases hbw : b = want
        · subst hbw
          simp only [beq_self_eq_true, if_true]
          exact .inl (aop_wp hT hP hCm ⟨hv, hH, hk, hm, hpin, hS⟩ hd (h.1 rfl) (fun st' a' w' h1 h2 => ih st' a' w' h2 h1))
        · have hnb : b = !want := by cases b <;> cases want <;> simp_all
          rw [if_neg (by simpa using hbw)]
          exact ih ⟨putSl o.dst (.val undef) st.sl, st.hp, st.nx⟩ _ _ ⟨hv, hH, hk, hm, hpin, sinv_put hS hd (d := .val undef) (v := undef) (RepP.val _ : RepP w (FOf C.G hv st.hp w) (.val undef) _)⟩ (h.2 hnb)
      · obtain ⟨hv, hH, hk, hm, hpin, hS⟩ := hI
        have hy := guardU_ok h.1 hS (fun t ht => by
          cases hj : ops[j]? with
          | none => simp [hj] at ht
          | some oj => exact hdst oj (List.mem_of_getElem? hj) t (by simpa [hj] using ht))
        simp only [Region.wanted, hg, hy]
        rw [if_neg (by simp)]
        exact ih ⟨putSl o.dst (.val undef) st.sl, st.hp, st.nx⟩ _ _ ⟨hv, hH, hk, hm, hpin, sinv_put hS hd (d := .val undef) (v := undef) (RepP.val _ : RepP w (FOf C.G hv st.hp w) (.val undef) _)⟩ h.2

theorem awp_drawS {m N : Nat} {id : Nat} {opsA : Array Oper} {st : St} {Q : Exit → St → Prop} (hT : TOk P T) (hP : C.P = P) (hCm : C.m = m) (hN : C.N = N) (hmix : P.follows .mixedOrders = true) (keys pins : List Nat) (n : Nat) (l : List Oper) {lA lB : List Oper} (he : opsA = l.toArray) (hlA : l.take n = lA) (hlB0 : l.drop n = lB)
    (hd : (dstsOk N l && backB l && backB (l.take n) && dstsApart (l.take n) && chainB (l.take n) pins && covB l n && seqB l n && decide (n ≤ l.length)) = true)
    (h : DReg P lA st.sl (rdOf keys st.hp) st.hp pins 0 lA [] st.hp st.nx st.sl (fun st' => areg P T m l lB st' (Q .normal))) : awp C (.region id opsA true) Q st := fun a w hI => by
  subst he; subst hP; subst hlA; subst hlB0
  simp only [Bool.and_eq_true, decide_eq_true_eq] at hd
  obtain ⟨⟨⟨⟨⟨⟨⟨hd0, hbk⟩, hbA⟩, hap⟩, hch⟩, hcv⟩, hsq⟩, hnl⟩ := hd
  obtain ⟨its, h1, h2, h3, h4⟩ := h
  have hln : its.length = n := by have := congrArg List.length h1; simp at this; omega
  have hlB : (l.drop n).length = l.length - n := by simp
  have hsplit : its.map (·.o) ++ l.drop n = l := by rw [h1]; exact List.take_append_drop n l
  refine wp_region_any hmix ?_
  have hI' := inv_drawn hI (w.drawn + 1)
  obtain ⟨hv, hH, hk, hm', hpin, hS⟩ := hI'
  have hear : ∀ (j : Nat) (it : It), its[j]? = some it → it.early = true → ∀ (i : Nat) (it' : It), its[i]? = some it' → it'.pin = true → depStar (its.map (·.o)) 2 it'.o j = true := fun j it hj he i it' hi hp => by
    have h5 := (h3 j it hj).2 he
    have h6 := (h3 i it' hi).1
    rw [hp] at h6
    rw [Nat.zero_add] at h5 h6
    have h7 := List.all_eq_true.1 h5 i (by simpa using h6.symm)
    rw [← h1] at h7
    simpa [hi] using h7
  have hD : DrawOk C.N its := ⟨by rw [h1]; exact hbA, by rw [h1]; exact hap, by
      rw [h1, hN]
      exact List.all_eq_true.2 (fun o ho => List.all_eq_true.1 hd0 o (List.mem_of_mem_take ho)), fun i j it it' hi hj hp hp' hlt => by
    have e1 := (h3 i it hi).1
    have e2 := (h3 j it' hj).1
    rw [hp, Nat.zero_add] at e1
    rw [hp', Nat.zero_add] at e2
    obtain ⟨k, hk, h5, h6, h7⟩ := chain_ok pins hch i j it'.o (by simpa using e1.symm) (by simpa using e2.symm) hlt (by rw [← h1]; simp [hj])
    rw [← h1] at h7
    have hkl : k < its.length := by have := (List.getElem?_eq_some_iff.1 hj).1; omega
    refine ⟨k, its[k], List.getElem?_eq_getElem hkl, ?_, h5, h6, h7⟩
    rw [(h3 k _ (List.getElem?_eq_getElem hkl)).1, Nat.zero_add]
    simpa using hk, hear⟩
  have hsz : (Array.replicate l.toArray.size false).size = its.length + (l.drop n).length := by rw [hln, hlB]; simp; omega
  have hun : ∀ i, i < l.length → (Array.replicate l.toArray.size false).getD i true = false := fun i hi => by
    simp [Array.getD_eq_getD_getElem?, hi]
  have hcov : ∀ listed : Array Bool, (∀ (i : Nat) (it : It), its[i]? = some it → listed.getD i true = true → ∀ k, depOn it.o k = true → listed.getD k true = true) → (∀ k, its.length ≤ k → k < its.length + (l.drop n).length → listed.getD k true = false) → listed.size = its.length + (l.drop n).length → ∀ j, j ∈ Region.ready .any (its.map (·.o) ++ l.drop n).toArray listed → its.length ≤ j → ∀ i, i < its.length → listed.getD i true = true := by
    intro listed hcl hBu hs j hj hjn
    rw [hsplit] at hj
    have hs' : listed.size = l.length := by rw [hs, hln, hlB]; omega
    obtain ⟨_, o, ho, _⟩ := mem_ready.1 hj
    have ho2 : l[j]? = some o := by simpa using ho
    have hjl : j < l.length := (List.getElem?_eq_some_iff.1 ho2).1
    have hjeq : j = n := by
      rcases Nat.lt_or_ge n j with hlt | hge
      · exfalso
        have := List.all_eq_true.1 hsq j (by simpa using hjl)
        simp only [ho2, Bool.or_eq_true, decide_eq_true_eq] at this
        rcases this with h5 | h5
        · omega
        · have h6 := ((ready_dep hbk hs' hj ho2).2 _ h5).1
          rw [hBu (j - 1) (by omega) (by omega)] at h6
          cases h6
      · omega
    have key : ∀ d i, i < n → n - i ≤ d → listed.getD i true = true := by
      intro d
      induction d with
      | zero => intro i hi hle; omega
      | succ d ih =>
        intro i hi hle
        have hc := List.all_eq_true.1 hcv i (by simpa using hi)
        obtain ⟨k, hk, hkd⟩ := List.any_eq_true.1 hc
        simp only [List.mem_range] at hk
        simp only [Bool.and_eq_true, decide_eq_true_eq] at hkd
        obtain ⟨hik, hkd⟩ := hkd
        cases hlk : l[k]? with
        | none => rw [hlk] at hkd; cases hkd
        | some ok =>
          rw [hlk] at hkd
          simp only at hkd
          by_cases hkn : k = n
          · subst hkn
            subst hjeq
            rw [ho2] at hlk; cases hlk
            exact ((ready_dep hbk hs' hj ho2).2 _ hkd).1
          · have hlt : k < n := by omega
            have hit : ∃ it, its[k]? = some it := ⟨_, List.getElem?_eq_getElem (by omega)⟩
            obtain ⟨it, hit⟩ := hit
            have hok : it.o = ok := by
              have e1 : (its.map (·.o))[k]? = some it.o := by simp [hit]
              rw [h1, List.getElem?_take, if_pos hlt, hlk] at e1
              exact (Option.some.inj e1).symm
            exact hcl k it hit (ih k hlt (by omega)) i (by rw [hok]; exact hkd)
    intro i hi
    exact key n i (by omega) (by omega)
  have := any_of_JB (C := C) rfl hD (B := l.drop n) (by rw [h1]; exact h2) (fun h ob hl => ⟨lk_rdOf hl, hk h ob (lk_rdOf hl)⟩) (fun h ob hl => hl) (Q := fun e a' w' => ∃ st', Q e st' ∧ Inv C st' a' w') hcov (fun fuel listed a w hs hA hB hf hI => by
    rw [hsplit]
    refine any_seq hT rfl hCm (ops := l) (n := n) (by rw [hN]; exact hd0) hbk hsq (l.drop n) (l.take n) _ fuel listed a w (Q .normal) (List.take_append_drop n l).symm (by simp; omega) (by rw [hs, hln, hlB]; omega) (fun i hi => hA i (by simp at hi; omega)) (fun k hk hk2 => hB k (by simp at hk; omega) (by omega)) hf hI h4 (fun st' a' w' hq hi => ⟨st', hq, hi⟩)) l.toArray.size (Array.replicate l.toArray.size false) a { w with drawn := w.drawn + 1 } 0 hv hsz
  rw [hsplit] at this
  refine this (fun k _ hk => hun k (by omega)) ?_ ?_
  · have : ((Array.replicate l.toArray.size false).toList.take its.length).count false ≤ its.length := Nat.le_trans List.count_le_length (by simp; omega)
    rw [hlB]
    simp at this ⊢
    omega
  have e0 : stAt its 0 st.hp st.nx = (st.hp, st.nx) := by cases its <;> rfl
  refine ⟨fun i it hi _ => ?_, fun i it hi hls => ?_, by rw [e0]; exact hH, by rw [e0]; exact hk, by rw [e0]; exact hm', by rw [e0]; exact hpin, hS.defers, hS.size, ?_, fun i it t hi _ hls => ?_⟩
  · have hi2 := (List.getElem?_eq_some_iff.1 hi).1
    rw [hun i (by omega)]; simp
  · have hi2 := (List.getElem?_eq_some_iff.1 hi).1
    rw [hun i (by omega)] at hls; cases hls
  · rw [e0]; exact fun t d hl _ => hS.at_ t d hl
  · have hi2 := (List.getElem?_eq_some_iff.1 hi).1
    rw [hun i (by omega)] at hls; cases hls
/-! ### A nil slice in a cell of an object -/
theorem HInv.redesc {w0 : World} {S : List Nat} {G : Nat → Prop} {hv : Nat → Value} {hp : HP} {w : World} (hI : HInv w0 S G hv hp w) {h : Nat} {ob ob' : Ob} (hl : lk h hp = some ob) (hs : ob'.sz = ob.sz) (hob : ObRep (LOf hv hp) w (FOf G hv hp w) ob' (hv h)) :
    HInv w0 S G hv (hset h ob' hp) w ∧ LOf hv (hset h ob' hp) = LOf hv hp ∧ FOf G hv (hset h ob' hp) w = FOf G hv hp w := by
  have eL := LOf_hset (hv := hv) hl hs
  have eF := FOf_hset (G := G) (hv := hv) (ob' := ob') (w' := w) hl rfl
  have old : ∀ k o, lk k (hset h ob' hp) = some o → ∃ o', lk k hp = some o' := fun k o hk => by
    rw [lk_hset] at hk
    by_cases e : k = h
    · exact ⟨ob, e ▸ hl⟩
    · exact ⟨o, by rw [if_neg e] at hk; exact hk⟩
  refine ⟨⟨fun k o hk => ?_, fun k k' o o' hk hk' hne => ?_, fun k o b hk hb => ?_, hI.keeps, hI.gnew⟩, eL, eF⟩
  · rw [eL, eF]
    rw [lk_hset] at hk
    by_cases e : k = h
    · subst e
      rw [if_pos rfl, hl] at hk
      cases hk
      exact hob
    · rw [if_neg e] at hk
      exact hI.obs k o hk
  · obtain ⟨o1, h1⟩ := old k o hk
    obtain ⟨o2, h2⟩ := old k' o' hk'
    exact hI.inj k k' o1 o2 h1 h2 hne
  · obtain ⟨o1, h1⟩ := old k o hk
    exact hI.base k o1 b h1 hb

end Go.Proofs.YtpdkhlpmiblflaaGreat.Abs

/- Abs, part 27: f(append(x, ..)) where x lives on: the old row is still as it was. -/
set_option linter.unusedVariables false
set_option linter.unusedSimpArgs false
namespace Go.Proofs.YtpdkhlpmiblflaaGreat.Abs
open Go Go.RowKit
variable {P : Program} {T : TT} {C : Ctx}

def SReg (C : Ctx) (ops l : List Oper) (st : St) (K : St → Prop) : Prop := ∀ (Q : Exit → Act → World → Prop) (a : Act) (w : World), Inv C st a w → (∀ st' a' w', K st' → Inv C st' a' w' → Q .normal a' w') → wpList C.P ops.toArray Q l a w
theorem sreg_areg {m N : Nat} (hT : TOk P T) (hP : C.P = P) (hCm : C.m = m) (hN : C.N = N) {ops l : List Oper} (hd : dstsOk N ops = true) (hsub : ∀ o ∈ l, o ∈ ops) {st : St} {K : St → Prop} (h : areg P T m ops l st K) : SReg C ops l st K := fun Q a w hI hK => by
  subst hP
  exact areg_wp hT rfl hCm (by rw [hN]; exact hd) l st a w K hsub hI h hK
theorem sreg_step {m N : Nat} (hT : TOk P T) (hP : C.P = P) (hCm : C.m = m) (hN : C.N = N) {ops l : List Oper} {o : Oper} (hd : dstsOk N ops = true) (hsub : o ∈ ops) (hg : o.guard = none) {st st' : St} {K : St → Prop} (h : aop P T m o st (· = st')) (hK : SReg C ops l st' K) : SReg C ops (o :: l) st K := fun Q a w hI hQ => by
  subst hP
  refine wpList_step (fun K' hK' => ?_)
  simp only [Region.wanted, hg, if_true]
  refine aop_wp hT rfl hCm hI (fun t ht => ?_) h (fun st'' a' w' h1 h2 => hK' _ _ (by subst h1; exact hK Q a' w' h2 hQ))
  have := List.all_eq_true.1 hd o hsub
  rw [hN]
  simpa [ht] using this
theorem awp_sreg {id : Nat} {opsA : Array Oper} {l : List Oper} {st : St} {Q : Exit → St → Prop} (he : opsA = l.toArray) (h : SReg C l l st (Q .normal)) : awp C (.region id opsA false) Q st := fun a w hI => by
  subst he
  exact wp_region_list (h _ a w hI (fun st' a' w' h1 h2 => ⟨st', h1, h2⟩))

theorem aop_go {m : Nat} {st st' : St} {dst : Option Tmp} {op : Op} {ty : TypeId} {pos : String} {af : Array Edge} {pre : Prop} {r : Res} (hs : astep T op (evD st.sl) st.hp st.nx = some (pre, r)) (hd : deadOk m r = true) (hpre : pre) (hst : st.app dst r = st') : aop P T m { dst := dst, op := op, type := ty, pos := pos, after := af, guard := none } st (· = st') := by
  simp only [aop, hs]
  exact ⟨hpre, hd, hst⟩
theorem sg1 {m N : Nat} (hT : TOk P T) (hP : C.P = P) (hCm : C.m = m) (hN : C.N = N) {ops l : List Oper} {st st' : St} {K : St → Prop} {dst : Option Tmp} {op : Op} {ty : TypeId} {pos : String} {af : Array Edge} {pre : Prop} {r : Res} (hK : SReg C ops l st' K) (hd : dstsOk N ops = true := by rfl) (hsub : { dst := dst, op := op, type := ty, pos := pos, after := af, guard := none } ∈ ops := by repeat (first | exact List.Mem.head _ | apply List.Mem.tail))
    (hs : astep T op (evD st.sl) st.hp st.nx = some (pre, r) := by rfl) (hdead : deadOk m r = true := by rfl) (hpre : pre := by first | trivial | exact ⟨rfl, by (repeat (first | exact fm_nil | refine fm_cons ⟨rfl, rfl⟩ ?_)), Nat.le_of_ble_eq_true rfl, Nat.le_of_ble_eq_true rfl⟩)
    (hst : st.app dst r = st' := by simp +decide (disch := omega) only [nrm, lk_nrm, dc_nrm, mk_nrm, mf_nrm, ti_nrm, ls_nrm, mp_nrm, nb_nrm, hset, pick_and, pick_or, ↓reduceIte, Nat.reduceAdd, wI64, wI32, wI16, wI8, wU8, List.length_map, Int.toNat_natCast, xn1, xn2]; rfl) : SReg C ops ({ dst := dst, op := op, type := ty, pos := pos, after := af, guard := none } :: l) st K :=
  sreg_step hT hP hCm hN hd hsub rfl (aop_go hs hdead hpre hst) hK
theorem sreg_rest {m N : Nat} (hT : TOk P T) (hP : C.P = P) (hCm : C.m = m) (hN : C.N = N) {ops l : List Oper} {st : St} {K : St → Prop} (h : areg P T m ops l st K) (hd : dstsOk N ops = true := by rfl) (hsub : ∀ o ∈ l, o ∈ ops := by intro o ho; repeat (first | exact ho | apply List.Mem.tail)) : SReg C ops l st K :=
  sreg_areg hT hP hCm hN hd hsub h
end Go.Proofs.YtpdkhlpmiblflaaGreat.Abs

/- Abs, part 28: regions that draw their order, and lay boxes at any time of it. -/
set_option linter.unusedVariables false
set_option linter.unusedSimpArgs false
namespace Go.Proofs.YtpdkhlpmiblflaaGreat.Abs
open Go Go.RowKit
variable {P : Program} {T : TT} {C : Ctx}

section
variable {ops : List Oper} {base sl : List (Nat × D)} {rd eh hp : HP} {pins : List Nat} {i nx : Nat} {l : List Oper} {done : List D} {K : St → Prop} {dst : Option Tmp} {ty : TypeId} {t : TypeId} {pos : String} {af : Array Edge}
end
end Go.Proofs.YtpdkhlpmiblflaaGreat.Abs

/- Abs, part 29: a small region in any order, each order by itself; what only moves goes first. -/
set_option linter.unusedVariables false
set_option linter.unusedSimpArgs false
namespace Go.Proofs.YtpdkhlpmiblflaaGreat.Abs
open Go Go.RowKit
variable {P : Program} {T : TT} {C : Ctx}

def readyL (ops : List Oper) (listed : Array Bool) : List Nat := (List.range ops.length).filter fun i => !listed.getD i true && (match ops[i]? with | some o => o.after.toList.all (fun e => !Region.binds .any e || listed.getD e.on false) | none => false)
theorem ready_list (ops : List Oper) (listed : Array Bool) : Region.ready .any ops.toArray listed = readyL ops listed := by
  unfold Region.ready readyL
  rw [List.size_toArray]
  refine List.filter_congr (fun i _ => ?_)
  rw [List.getElem?_toArray]
  cases ops[i]? with
  | none => rfl
  | some o => simp only [Option.map_some, Option.getD_some, Array.all_toList]

def AnyS (C : Ctx) (ops : List Oper) (K : St → Prop) (fuel : Nat) (listed : Array Bool) (st : St) : Prop :=
  ∀ a w, Inv C st a w → wpAny C.P .any ops.toArray (fun e a' w' => ∃ st', (e = .normal ∧ K st') ∧ Inv C st' a' w') fuel listed a w

theorem anyS_done {ops : List Oper} {K : St → Prop} {fuel : Nat} {listed : Array Bool} {st : St} (hr : readyL ops listed = []) (hK : K st) : AnyS C ops K fuel listed st := fun a w hI => by
  rw [← ready_list] at hr
  have hq : ∃ st', ((Exit.normal : Exit) = .normal ∧ K st') ∧ Inv C st' a w := ⟨st, ⟨rfl, hK⟩, hI⟩
  cases fuel with
  | zero => exact ⟨hr, hq⟩
  | succ f => exact ⟨fun _ => hq, fun j hj => by rw [hr] at hj; cases hj⟩

def AnyAll (P : Program) (C : Ctx) (T : TT) (m : Nat) (ops : List Oper) (K : St → Prop) (fuel : Nat) (listed : Array Bool) (st : St) : List Nat → Prop
  | [] => True
  | i :: rs => (∃ o, ops[i]? = some o ∧ o.guard = none ∧ areg P T m ops [o] st (fun st' => AnyS C ops K fuel (listed.setIfInBounds i true) st')) ∧ AnyAll P C T m ops K fuel listed st rs

theorem AnyAll.mem {m : Nat} {ops : List Oper} {K : St → Prop} {fuel : Nat} {listed : Array Bool} {st : St} : ∀ {rs : List Nat}, AnyAll P C T m ops K fuel listed st rs → ∀ i ∈ rs, ∃ o, ops[i]? = some o ∧ o.guard = none ∧ areg P T m ops [o] st (fun st' => AnyS C ops K fuel (listed.setIfInBounds i true) st')
  | r :: rs, h, i, hi => by
    rcases List.mem_cons.1 hi with rfl | hi
    · exact h.1
    · exact AnyAll.mem h.2 i hi

theorem anyS_cons {m N : Nat} (hT : TOk P T) (hP : C.P = P) (hCm : C.m = m) (hN : C.N = N) {ops : List Oper} {K : St → Prop} {fuel : Nat} {listed : Array Bool} {st : St} (hd : dstsOk N ops = true) (rs : List Nat) (hr : readyL ops listed = rs) (hne : rs.isEmpty = false) (h : AnyAll P C T m ops K fuel listed st rs) : AnyS C ops K (fuel + 1) listed st := fun a w hI => by
  subst hP
  rw [← ready_list] at hr
  refine ⟨fun h0 => ?_, fun i hi => ?_⟩
  · rw [h0] at hr; subst hr; simp at hne
  · rw [hr] at hi
    obtain ⟨o, ho, hg, hA⟩ := h.mem i hi
    have hdo : ∀ t, o.dst = some t → t < C.N := fun t ht => by
      have := List.all_eq_true.1 hd o (List.mem_of_getElem? ho)
      rw [hN]
      simpa [ht] using this
    unfold wpOp
    rw [show ops.toArray[i]? = some o by simpa using ho]
    simp only [Region.wanted, hg, if_true]
    simp only [areg, hg] at hA
    exact .inl (aop_wp hT rfl hCm hI hdo hA (fun st' a' w' h1 h2 => h1 a' w' h2))

def floatB (ops : List Oper) (i : Nat) : Bool := (List.range ops.length).all fun j => decide (j = i) || (match ops[i]?, ops[j]? with | some oi, some oj => depOn oj i || oi.apart ops.toArray oj | _, _ => true)
def noSelB (ops : List Oper) : Bool := ops.all fun o => match o.op with | .select .. => false | _ => true

theorem anyS_float {m N : Nat} (hT : TOk P T) (hP : C.P = P) (hCm : C.m = m) (hN : C.N = N) {ops : List Oper} {K : St → Prop} {fuel : Nat} {listed : Array Bool} {st : St} (hd : dstsOk N ops = true) (i : Nat) {o : Oper} {x : Operand} (ho : ops[i]? = some o) (hop : o.op = .move x) (hg : o.guard = none)
    (hrd : (readyL ops listed).contains i = true) (hfl : floatB ops i = true) (hns : noSelB ops = true) (h : areg P T m ops [o] st (fun st' => AnyS C ops K fuel (listed.setIfInBounds i true) st')) : AnyS C ops K (fuel + 1) listed st := fun a w hI => by
  subst hP
  have hdo : ∀ t, o.dst = some t → t < C.N := fun t ht => by
    have := List.all_eq_true.1 hd o (List.mem_of_getElem? ho)
    rw [hN]
    simpa [ht] using this
  have hrun : ∀ w, (execOp a.eval o).run C.P w = .ok (.value (a.eval x)) w := fun w => by
    obtain ⟨dst, op, type, pos, after, guard⟩ := o
    simp only at hop
    subst hop
    simp [execOp]
  simp only [areg, hg] at h
  have h1 : o.wp C.P a w (fun a' w' => wpAny C.P .any ops.toArray (fun e a' w' => ∃ st', (e = .normal ∧ K st') ∧ Inv C st' a' w') fuel (listed.setIfInBounds i true) a' w') (fun _ _ _ => False) := aop_wp hT rfl hCm hI hdo h (fun st' a' w' h1 h2 => h1 a' w' h2)
  unfold Oper.wp at h1
  rw [hrun w] at h1
  simp only [Oper.upon] at h1
  have hmem : i ∈ Region.ready .any ops.toArray listed := by rw [ready_list]; simpa using hrd
  refine wpAny_first (i := i) (oi := o) (v := a.eval x) (by simpa using ho) (fun j oj cs b hj e => ?_) (fun c a w hq => ?_) fuel listed a w (fun j oj hj hji hun hno => ?_) hmem (.inl ⟨by simp [Region.wanted, hg], hrun⟩) h1
  · have hj2 : ops[j]? = some oj := by simpa using hj
    have := List.all_eq_true.1 hns oj (List.mem_of_getElem? hj2)
    simp [e] at this
  · obtain ⟨st', ⟨h, _⟩, _⟩ := hq
    cases h
  · have hj2 : ops[j]? = some oj := by simpa using hj
    have hjl := (List.getElem?_eq_some_iff.1 hj2).1
    have := List.all_eq_true.1 hfl j (by simpa using hjl)
    simp only [ho, hj2, Bool.or_eq_true, decide_eq_true_eq] at this
    rcases this with h2 | h2 | h2
    · exact absurd h2 hji
    · exfalso
      obtain ⟨e, he, hb⟩ := List.any_eq_true.1 h2
      simp only [Bool.and_eq_true, beq_iff_eq] at hb
      exact hno e (by simpa using he) hb.2 hb.1
    · exact h2

theorem awp_any {id : Nat} {opsA : Array Oper} {st : St} {Q : Exit → St → Prop} (hP : C.P = P) (hmix : P.follows .mixedOrders = true) (l : List Oper) (he : opsA = l.toArray) (n : Nat) (hn : l.length = n) (h : AnyS C l (Q .normal) n (Array.replicate n false) st) : awp C (.region id opsA true) Q st := by
  subst he; subst hP; subst hn
  refine awp_mono (Q := fun e st => e = .normal ∧ Q .normal st) (fun a w hI => ?_) (fun e st h => by obtain ⟨rfl, h⟩ := h; exact h)
  refine wp_region_any hmix ?_
  have := h a _ (inv_drawn hI (w.drawn + 1))
  simpa using this
end Go.Proofs.YtpdkhlpmiblflaaGreat.Abs

/- Abs, part 30: whether a slice that is read only is nil. -/
set_option linter.unusedVariables false
set_option linter.unusedSimpArgs false
namespace Go.Proofs.YtpdkhlpmiblflaaGreat.Abs
open Go Go.RowKit
variable {P : Program} {T : TT} {C : Ctx}

theorem sreg_nilcmp {N : Nat} (hT : TOk P T) (hP : C.P = P) (hN : C.N = N) {ops l : List Oper} {t : Tmp} {x : Operand} {ty ty2 tb : TypeId} {pos : String} {af : Array Edge} {sl : List (Nat × D)} {hp : HP} {nx : Nat} {K : St → Prop} {sz n' c' : Nat} {rows : List (List D)} {e : TypeId}
    (ht : t < N) (hx : evD sl x = .sl sz rows) (hty : (lk ty T).map (fun ti : TI => ti.sh) = some (.slice e))
    (hK : ∀ b : Bool, (b = true → rows = []) → SReg C ops l ⟨(t, .val (.bool b)) :: sl, hp, nx⟩ K) :
    SReg C ops ({ dst := some t, op := .binOp .eql ty x (.const (.slice none n' c')) ty2, type := tb, pos := pos, after := af, guard := none } :: l) ⟨sl, hp, nx⟩ K := fun Q a w hI hQ => by
  subst hP
  obtain ⟨hv, hH, hk, hm, hpin, hS⟩ := hI
  simp only at hH hk hm hpin hS
  have hx' := evD_ok hS x
  rw [hx] at hx'
  obtain ⟨ti, hl, hsh⟩ := Option.map_eq_some_iff.1 hty
  have hu := TI.under_slice (hT _ _ hl) hsh
  have hval : ∃ A n c, a.eval x = .slice A n c ∧ (A = none → rows = []) := by
    have hx2 : RepP w (FOf C.G hv hp w) (.sl sz rows) (a.eval x) := hx'
    generalize a.eval x = u at hx2
    cases hx2 with
    | sl _ _ A c V hg h0 hm hF hc hr => exact ⟨A, _, c, rfl, fun h => (h0 h).1⟩
  obtain ⟨A, n, c, he, hnil⟩ := hval
  refine wpList_step (fun K1 hK1 => ?_)
  simp only [Region.wanted, if_true]
  unfold Oper.wp
  have hrun : (execOp a.eval { dst := some t, op := .binOp .eql ty x (.const (.slice none n' c')) ty2, type := tb, pos := pos, after := af, guard := none }).run C.P w = .ok (.value (.bool A.isNone)) w := by
    have h1 := Lib.run_eql_slice_nil (P := C.P) w ty e A n c n' c' hu
    have hc : a.eval (.const (.slice none n' c')) = .slice none n' c' := rfl
    simp only [execOp]
    rw [he, hc]
    simp [eqGuard, h1]
  rw [hrun]
  refine hK1 _ _ ?_
  refine hK A.isNone (fun h => hnil (by simpa using h)) Q _ w ⟨hv, hH, hk, hm, hpin, ?_⟩ hQ
  exact sinv_put hS (dst := some t) (fun t' h => by cases h; rw [hN]; exact ht) (d := .val (.bool A.isNone)) (v := .bool A.isNone) (RepP.val _ : RepP w (FOf C.G hv hp w) (.val (.bool A.isNone)) _)
end Go.Proofs.YtpdkhlpmiblflaaGreat.Abs

/- Abs, part 31: some rows of a local object are written over, in place. -/
set_option linter.unusedVariables false
set_option linter.unusedSimpArgs false
namespace Go.Proofs.YtpdkhlpmiblflaaGreat.Abs
open Go Go.RowKit
variable {P : Program} {T : TT} {C : Ctx}

def splice {α : Type} (l : List α) (p : Nat) (m : List α) : List α := l.take p ++ m ++ l.drop (p + m.length)
theorem splice_len {α : Type} {l : List α} {p : Nat} {m : List α} (h : p + m.length ≤ l.length) : (splice l p m).length = l.length := by
  simp [splice]; omega
theorem splice_get {α : Type} {l : List α} {p : Nat} {m : List α} (h : p + m.length ≤ l.length) (k : Nat) : (splice l p m)[k]? = if k < p then l[k]? else if k < p + m.length then m[k - p]? else l[k]? := by
  unfold splice
  have hp : (l.take p).length = p := by simp; omega
  by_cases h1 : k < p
  · rw [if_pos h1, List.getElem?_append_left (by simp; omega), List.getElem?_append_left (by rw [hp]; exact h1), List.getElem?_take, if_pos h1]
  · rw [if_neg h1]
    by_cases h2 : k < p + m.length
    · rw [if_pos h2, List.getElem?_append_left (by rw [List.length_append, hp]; exact h2), List.getElem?_append_right (by rw [hp]; omega), hp]
    · rw [if_neg h2, List.getElem?_append_right (by rw [List.length_append, hp]; omega), List.length_append, hp, List.getElem?_drop]
      congr 1
      omega

theorem row_lt {i p s j : Nat} (h : i < p) (hj : j < s) : i * s + j < p * s := by
  have h1 : (i + 1) * s ≤ p * s := Nat.mul_le_mul_right s h
  rw [Nat.add_mul] at h1
  omega
theorem row_ge {i p s j : Nat} (h : p ≤ i) : p * s ≤ i * s + j := Nat.le_trans (Nat.mul_le_mul_right s h) (Nat.le_add_right _ _)

theorem row_write {w0 : World} {S : List Nat} {G : Nat → Prop} {hv : Nat → Value} {hp : HP} {w : World} (hI : HInv w0 S G hv hp w) {h : Nat} {ob : Ob} (hl : lk h hp = some ob) (hdp : ob.deep = false) {p : Nat} {rows : List (List D)} {news : List Value}
    (hgr : Grid ob.sz rows) (hnl : news.length = rows.length * ob.sz) (hnr : ∀ i j x d, rows[i]? = some x → x[j]? = some d → ∃ u, news[i * ob.sz + j]? = some u ∧ u.oneCell' = true ∧ RepP w (FOf G hv hp w) d u)
    (hfit : p + rows.length ≤ ob.xs.length) {g cap : Nat} {cur : Array Value} (hvs : hv h = .slice (some ⟨g, 0, none⟩) ob.xs.length cap) {e' : TypeId} {fz : Nat × Nat} (hg : w.heap[g]? = some (.cells cur e' fz)) (hmk : markAt cur.size ob.ty e' fz) (hnc : ob.xs.length ≤ cap) (hcm : cap ≤ maxLen) (hcs : cur.size = cap * ob.sz) :
    p * ob.sz + news.length ≤ cur.size ∧
    HInv w0 S G hv (hset h ⟨ob.ty, ob.sz, false, splice ob.xs p rows⟩ hp) (w.setRow g (cur.toList.take (p * ob.sz) ++ news ++ cur.toList.drop (p * ob.sz + news.length)).toArray) ∧
    LOf hv (hset h ⟨ob.ty, ob.sz, false, splice ob.xs p rows⟩ hp) = LOf hv hp ∧
    (∀ c, FOf G hv hp w c → FOf G hv (hset h ⟨ob.ty, ob.sz, false, splice ob.xs p rows⟩ hp) (w.setRow g (cur.toList.take (p * ob.sz) ++ news ++ cur.toList.drop (p * ob.sz + news.length)).toArray) c ∧ (w.setRow g (cur.toList.take (p * ob.sz) ++ news ++ cur.toList.drop (p * ob.sz + news.length)).toArray).heap[c]? = w.heap[c]?) := by
  have hfitc : p * ob.sz + news.length ≤ ob.xs.length * ob.sz := by
    rw [hnl, ← Nat.add_mul]; exact Nat.mul_le_mul_right _ hfit
  have hxc : ob.xs.length * ob.sz ≤ cur.size := by rw [hcs]; exact Nat.mul_le_mul_right _ hnc
  have hfit2 : p * ob.sz + news.length ≤ cur.toList.length := by simp; omega
  refine ⟨by omega, ?_⟩
  show HInv w0 S G hv _ (w.setRow g (splice cur.toList (p * ob.sz) news).toArray) ∧ _ ∧ (∀ c, FOf G hv hp w c → FOf G hv _ (w.setRow g (splice cur.toList (p * ob.sz) news).toArray) c ∧ (w.setRow g (splice cur.toList (p * ob.sz) news).toArray).heap[c]? = w.heap[c]?)
  obtain ⟨vs, ho, hgr0, hc⟩ := hI.obs h ob hl
  have hvl : vs = cur.toList.take (ob.xs.length * ob.sz) := by
    rcases ho.2 with ⟨h1, _⟩ | ⟨g', cap', cur', h1, _, ⟨e2', fz', h2, _⟩, _, _, _, h3⟩
    · rw [hvs] at h1; cases h1
    · rw [hvs] at h1
      cases h1
      rw [hg] at h2
      cases h2
      exact h3.symm
  have hbg : g < w.heap.size := (Array.getElem?_eq_some_iff.1 hg).1
  have hgrown : w.grownBy (w.setRow g (splice cur.toList (p * ob.sz) news).toArray) (some g) := ⟨rfl, rfl, rfl, by simp [World.setRow], fun k hk hne => by
    have hkg : g ≠ k := fun e => hne (by rw [e])
    simp [World.setRow, Array.getElem?_modify, hkg]⟩
  have hsize : w.heap.size = (w.setRow g (splice cur.toList (p * ob.sz) news).toArray).heap.size := by simp [World.setRow]
  have hFF : ∀ b, FOf G hv hp w b → FOf G hv hp w b ∧ (w.setRow g (splice cur.toList (p * ob.sz) news).toArray).heap[b]? = w.heap[b]? := fun b hb => ⟨hb, hgrown.block b hb.1.1 (fun e => hb.2 h ob hl (by rw [hvs]; exact e.symm))⟩
  exact HInv.write (ob' := ⟨ob.ty, ob.sz, false, splice ob.xs p rows⟩) hI hl rfl (b := g) (by rw [hvs]; rfl) hgrown hsize (by
    refine ⟨splice vs (p * ob.sz) news, ⟨?_, .inr ⟨g, cap, (splice cur.toList (p * ob.sz) news).toArray, ?_, Nat.zero_le _, ⟨e', fz, setRow_heap w g cur _ e' _ hg, by rw [List.size_toArray, splice_len hfit2, Array.length_toList]; exact hmk⟩, ?_, hcm, ?_, ?_⟩⟩, fun x hx => ?_, fun i j x d hi hj => ?_⟩
    · rw [splice_len (by rw [ho.1]; exact hfitc), ho.1]
      show _ = (splice ob.xs p rows).length * ob.sz
      rw [splice_len hfit]
    · show hv h = .slice (some ⟨g, 0, none⟩) (splice ob.xs p rows).length cap
      rw [splice_len hfit]; exact hvs
    · show (splice ob.xs p rows).length ≤ cap
      rw [splice_len hfit]; exact hnc
    · show (splice cur.toList (p * ob.sz) news).toArray.size = cap * ob.sz
      rw [List.size_toArray, splice_len hfit2, Array.length_toList, hcs]
    · show (splice cur.toList (p * ob.sz) news).take ((splice ob.xs p rows).length * ob.sz) = splice vs (p * ob.sz) news
      rw [splice_len hfit]
      apply List.ext_getElem?
      intro k
      rw [List.getElem?_take, splice_get hfit2, splice_get (by rw [ho.1]; exact hfitc), hvl]
      simp only [List.getElem?_take]
      by_cases hk : k < ob.xs.length * ob.sz
      · simp only [hk, if_true]
      · simp only [hk, if_false]
        rw [if_neg (by omega), if_neg (by omega)]
    · have hx : x ∈ splice ob.xs p rows := hx
      simp only [splice, List.mem_append] at hx
      rcases hx with (hx | hx) | hx
      · exact hgr0 x (List.mem_of_mem_take hx)
      · exact hgr x hx
      · exact hgr0 x (List.mem_of_mem_drop hx)
    · have hi : (splice ob.xs p rows)[i]? = some x := hi
      rw [splice_get hfit] at hi
      show ∃ u, (splice vs (p * ob.sz) news)[i * ob.sz + j]? = some u ∧ u.oneCell' = true ∧ RepO false _ _ _ d u
      rw [splice_get (by rw [ho.1]; exact hfitc)]
      have old : ob.xs[i]? = some x → ∃ u, vs[i * ob.sz + j]? = some u ∧ u.oneCell' = true ∧ RepO false (LOf hv hp) (w.setRow g (splice cur.toList (p * ob.sz) news).toArray) (FOf G hv hp w) d u := fun hi => by
        obtain ⟨u, hu, h1, hr⟩ := hc i j x d hi hj
        rw [hdp] at hr
        exact ⟨u, hu, h1, RepO.obMono hr (fun _ _ h => h) hFF⟩
      by_cases h1 : i < p
      · rw [if_pos h1] at hi
        have hjs : j < ob.sz := by rw [← hgr0 x (List.mem_of_getElem? hi)]; exact (List.getElem?_eq_some_iff.1 hj).1
        rw [if_pos (row_lt h1 hjs)]
        exact old hi
      · rw [if_neg h1] at hi
        have hge : ¬ i * ob.sz + j < p * ob.sz := by have := row_ge (s := ob.sz) (j := j) (show p ≤ i by omega); omega
        rw [if_neg hge]
        by_cases h2 : i < p + rows.length
        · rw [if_pos h2] at hi
          have hjs : j < ob.sz := by rw [← hgr x (List.mem_of_getElem? hi)]; exact (List.getElem?_eq_some_iff.1 hj).1
          have hlt := row_lt (p := p + rows.length) h2 hjs
          rw [Nat.add_mul, ← hnl] at hlt
          rw [if_pos hlt]
          obtain ⟨u, hu, h3, hr⟩ := hnr (i - p) j x d hi hj
          refine ⟨u, ?_, h3, RepO.obMono (deep := false) hr (fun _ _ h => h) hFF⟩
          rw [← hu]
          congr 1
          have : i * ob.sz = p * ob.sz + (i - p) * ob.sz := by rw [← Nat.add_mul]; congr 1; omega
          omega
        · rw [if_neg h2] at hi
          have hge2 : ¬ i * ob.sz + j < p * ob.sz + news.length := by
            have := row_ge (s := ob.sz) (j := j) (show p + rows.length ≤ i by omega)
            rw [Nat.add_mul, ← hnl] at this
            omega
          rw [if_neg hge2]
          exact old hi)
theorem vw_open {w0 : World} {S : List Nat} {G : Nat → Prop} {hv : Nat → Value} {hp : HP} {w : World} (hI : HInv w0 S G hv hp w) {k lo n : Nat} {v : Value} (h : Rep (LOf hv hp) w (FOf G hv hp w) (.vw k lo n) v) {ob : Ob} (hob : lk k hp = some ob) (hn : 0 < n) :
    ∃ g cap cur c, v = .slice (some ⟨g, lo * ob.sz, none⟩) n c ∧ n ≤ c ∧ lo + n ≤ ob.xs.length ∧ hv k = .slice (some ⟨g, 0, none⟩) ob.xs.length cap ∧ (∃ e' fz, w.heap[g]? = some (.cells cur e' fz) ∧ markAt cur.size ob.ty e' fz) ∧ ob.xs.length ≤ cap ∧ cap ≤ maxLen ∧ cur.size = cap * ob.sz := by
  obtain ⟨A, c, m, cap, s, aa, rfl, hL, hlo, hnc, hAc, hA⟩ := h
  rw [LOf_eq hob] at hL
  simp only [Option.some.injEq, Prod.mk.injEq] at hL
  obtain ⟨hvk, rfl⟩ := hL
  obtain ⟨vs, hown, _, _⟩ := hI.obs k ob hob
  obtain ⟨g, haa, rfl⟩ := hA (by omega)
  rcases hown.2 with ⟨h1, h0⟩ | ⟨g', cap', cur, hvs, _, hg, hncap, hcm, hcs, _⟩
  · rw [hvk] at h1
    simp only [Value.slice.injEq] at h1
    omega
  · have e := hvs
    rw [hvk] at e
    simp only [Value.slice.injEq] at e
    obtain ⟨e1, e2, e3⟩ := e
    rw [haa] at e1
    cases e1
    exact ⟨g, cap', cur, c, rfl, hnc.1, by omega, hvs, hg, hncap, hcm, hcs⟩

theorem splice_nil {α : Type} (l : List α) (p : Nat) : splice l p [] = l := by simp [splice]

theorem oprel_app_vw (hT : TOk P T) {o : Oper} {x1 x2 : Operand} {t : TypeId} (ho : o.op = .call ⟨.builtin .append, #[x1, x2], #[t, t]⟩) {ev : Operand → D} {hp : HP} {nx k n : Nat} {ob : Ob} {te : TI} {prow : Prop} {rows : List (List D)}
    (hx1 : ev x1 = .vw k 0 n) (hob : lk k hp = some ob) (hdp : ob.deep = false) (hty : (lk t T).map (fun ti : TI => ti.sh) = some (.slice ob.ty)) (hte : lk ob.ty T = some te) (hsz : ob.sz = te.size) (hrow : rowOf hp te.size (ev x2) = some (prow, rows, false)) (hprow : prow)
    (hfit : n + rows.length ≤ ob.xs.length) (hne : 0 < ob.xs.length) : OpRel P o ev hp nx { d := .vw k 0 (n + rows.length), upd := [(k, ⟨ob.ty, ob.sz, false, splice ob.xs n rows⟩)] } := by
  refine ⟨⟨fun p hp => by simp at hp, rfl⟩, fun w0 S G hv a w hI hk hev K Q hK => ?_⟩
  have h1 := hev x1
  rw [hx1] at h1
  obtain ⟨A, c, m, cap, s, aa, he, hL, hlo, hnc, hAc, hA⟩ := h1
  rw [LOf_eq hob] at hL
  simp only [Option.some.injEq, Prod.mk.injEq] at hL
  obtain ⟨hvk, hs⟩ := hL
  obtain ⟨vs, hown, hg0, hc0⟩ := hI.obs k ob hob
  obtain ⟨ti, hl, hsh⟩ := Option.map_eq_some_iff.1 hty
  have hu := TI.under_slice (hT _ _ hl) hsh
  obtain ⟨i, hi, his, hib, hiz⟩ := TI.info (hT _ _ hte)
  rcases hown.2 with ⟨_, h0⟩ | ⟨g, cap', cur, hvs, _, ⟨e', fz, hg, hmk⟩, hncap, hcm, hcs, htake⟩
  · omega
  have hcap : cap' = cap ∧ aa = some ⟨g, 0, none⟩ := by
    rw [hvk] at hvs
    simp only [Value.slice.injEq] at hvs
    exact ⟨hvs.2.2.symm, hvs.1⟩
  obtain ⟨rfl, haa⟩ := hcap
  have hcc : c = cap' := by omega
  subst hcc
  obtain ⟨g', hg', hA'⟩ := hA (by omega)
  rw [haa] at hg'
  cases hg'
  rw [Nat.zero_mul] at hA'
  subst hA'
  have hR := rowOf_ok hI (hev x2) hrow hprow
  have hexec : ∀ v' w', (Builtin.append_ #[t, t] o.type #[a.eval x1, a.eval x2]).run P w = .ok v' w' → (execOp a.eval o).run P w = .ok (.value v') w' := fun v' w' h => by
    obtain ⟨dst, op, type, pos, after, guard⟩ := o
    simp only at ho h
    subst ho
    simp [execOp, resolve, invoke, builtin, h]
  rcases hR.2 with ⟨hn2, hr0⟩ | ⟨ad, c2, hv2, hnc2, hcells⟩
  · subst hr0
    have hrun : (Builtin.append_ #[t, t] o.type #[a.eval x1, a.eval x2]).run P w = .ok (.slice (some ⟨g, 0, none⟩) n c) w := by
      rw [he, hn2]
      simp [Builtin.append_, run_underlying hu, sizeOf, typeInfo, hi, Builtin.lenOf, Builtin.firstCells, hnc.1, storeCells]
    have hobe : (⟨ob.ty, ob.sz, false, splice ob.xs n []⟩ : Ob) = ob := by rw [splice_nil, ← hdp]
    obtain ⟨hI2, eL, eF⟩ := hI.redesc (ob' := ⟨ob.ty, ob.sz, false, splice ob.xs n []⟩) hob rfl (by rw [hobe]; exact hI.obs k ob hob)
    unfold Oper.wp
    rw [hexec _ _ hrun]
    refine hK _ hv w ⟨hI2, ?_, fun d u hr => ?_, fun _ _ _ _ => rfl⟩
    · show RepC (LOf hv (hset k ⟨ob.ty, ob.sz, false, splice ob.xs n []⟩ hp)) w (FOf G hv (hset k ⟨ob.ty, ob.sz, false, splice ob.xs n []⟩ hp) w) (.vw k 0 (n + 0)) (.slice (some ⟨g, 0, none⟩) n c)
      rw [eL]
      exact ⟨_, _, m, c, s, aa, rfl, by rw [LOf_eq hob, hvk, hs], by simp; omega, ⟨by simp; omega, hnc.2.1, hnc.2.2⟩, fun e => (by cases e), fun _ => ⟨g, haa, by rw [Nat.zero_mul]⟩⟩
    · show Rep (LOf hv (hset k _ hp)) w (FOf G hv (hset k _ hp) w) d u
      rw [eL, eF]; exact hr
  · obtain ⟨news, hnl, hncell, hn1, hnr⟩ := row_cells hR.1 hcells
    have hm : m = ob.xs.length := by
      rw [hvk] at hvs
      simp only [Value.slice.injEq] at hvs
      exact hvs.2.1
    obtain ⟨hf, hI2, eL, hF⟩ := row_write hI hob hdp (p := n) (rows := rows) (news := news) (fun x hx => by rw [hsz]; exact hR.1 x hx) (by rw [hsz]; exact hnl) (fun i' j x d h1 h2 => by
      rw [hsz]
      obtain ⟨u, hu1, hu2, hu3⟩ := hnr i' j x d h1 h2
      exact ⟨u, hu1, hu2, by simpa [RepO] using hu3⟩) hfit hvs hg hmk hncap hcm hcs
    have hrun := run_append_roomF (P := P) w t o.type ob.ty i hu hi g 0 n c cur e' fz hg hmk.ok ad rows.length c2 news (by rw [his]; exact hnl) hncell hn1 (by omega) (by rw [his, ← hsz, Nat.zero_add]; exact hf)
    simp only [Nat.zero_add] at hrun
    rw [his, ← hsz] at hrun
    unfold Oper.wp
    rw [hexec _ _ (by rw [he, hv2]; exact hrun)]
    refine hK _ hv _ ⟨hI2, ?_, fun d u hr => ?_, fun _ _ _ _ => rfl⟩
    · show RepC (LOf hv (hset k ⟨ob.ty, ob.sz, false, splice ob.xs n rows⟩ hp)) (w.setRow g (cur.toList.take (n * ob.sz) ++ news ++ cur.toList.drop (n * ob.sz + news.length)).toArray) (FOf G hv (hset k ⟨ob.ty, ob.sz, false, splice ob.xs n rows⟩ hp) (w.setRow g (cur.toList.take (n * ob.sz) ++ news ++ cur.toList.drop (n * ob.sz + news.length)).toArray)) (.vw k 0 (n + rows.length)) (.slice (some ⟨g, 0, none⟩) (n + rows.length) c)
      rw [eL]
      exact ⟨_, _, m, c, s, aa, rfl, by rw [LOf_eq hob, hvk, hs], by omega, ⟨by omega, hnc.2.1, hnc.2.2⟩, fun e => (by cases e), fun _ => ⟨g, haa, by rw [Nat.zero_mul]⟩⟩
    · exact hr.mono (fun _ _ h => by show LOf hv (hset k _ hp) _ = _; rw [eL]; exact h) hF

theorem zero_get {z : Array Value} {n i j : Nat} (hi : i < n) (hj : j < z.size) : (Builtin.zeroCells z n).toList[i * z.size + j]? = some z[j] := by
  have hlt := row_lt (s := z.size) hi hj
  have hmod : (i * z.size + j) % z.size = j := by rw [Nat.mul_comm, Nat.mul_add_mod]; exact Nat.mod_eq_of_lt hj
  simp [Builtin.zeroCells, hlt, hmod, hj]

theorem oprel_clear_vw (hT : TOk P T) {o : Oper} {x1 : Operand} {t : TypeId} (ho : o.op = .call ⟨.builtin .clear, #[x1], #[t]⟩) {ev : Operand → D} {hp : HP} {nx k lo n : Nat} {ob : Ob} {te : TI} {zrow : List D}
    (hx1 : ev x1 = .vw k lo n) (hob : lk k hp = some ob) (hdp : ob.deep = false) (hty : (lk t T).map (fun ti : TI => ti.sh) = some (.slice ob.ty)) (hte : lk ob.ty T = some te) (hsz : ob.sz = te.size) (hn : 0 < n)
    (hz : te.zero.cells.toList.map D.val = zrow) (hz1 : te.zero.cells.toList.all (fun c => c.oneCell') = true) :
    OpRel P o ev hp nx { d := .any, upd := [(k, ⟨ob.ty, ob.sz, false, splice ob.xs lo (List.replicate n zrow)⟩)] } := by
  subst hz
  refine ⟨⟨fun p hp => by simp at hp, rfl⟩, fun w0 S G hv a w hI hk hev K Q hK => ?_⟩
  have h1 := hev x1
  rw [hx1] at h1
  obtain ⟨g, cap, cur, c, he, hnc, hlo, hvs, ⟨e', fz, hg, hmk⟩, hncap, hcm, hcs⟩ := vw_open hI h1 hob hn
  obtain ⟨ti, hl, hsh⟩ := Option.map_eq_some_iff.1 hty
  have hu := TI.under_slice (hT _ _ hl) hsh
  have hzr := TI.run_zero (P := P) (hT _ _ hte)
  have hzs : te.zero.cells.size = ob.sz := by rw [hsz]; exact (hT _ _ hte).2.2
  have hcl : (Builtin.zeroCells te.zero.cells n).toList.length = n * ob.sz := by rw [Array.length_toList, size_zeroCells, hzs]
  have hone : ∀ u ∈ (Builtin.zeroCells te.zero.cells n).toList, u.oneCell' = true := fun u hu => by
    obtain ⟨q, hq, rfl⟩ := List.getElem_of_mem hu
    have hq' := hq
    rw [hcl] at hq'
    have hsp : 0 < ob.sz := by
      rcases Nat.eq_zero_or_pos ob.sz with e | e
      · rw [e] at hq'; omega
      · exact e
    have hqm : q % ob.sz < te.zero.cells.size := by rw [hzs]; exact Nat.mod_lt _ hsp
    have hqd : q / ob.sz < n := by rw [Nat.div_lt_iff_lt_mul hsp]; exact hq'
    have h3 := zero_get (z := te.zero.cells) hqd hqm
    rw [hzs, show q / ob.sz * ob.sz + q % ob.sz = q by rw [Nat.mul_comm]; exact Nat.div_add_mod q ob.sz, List.getElem?_eq_getElem hq] at h3
    rw [Option.some.inj h3]
    exact List.all_eq_true.1 hz1 _ (by simp)
  obtain ⟨hf, hI2, eL, hF⟩ := row_write hI hob hdp (p := lo) (rows := List.replicate n (te.zero.cells.toList.map D.val)) (news := (Builtin.zeroCells te.zero.cells n).toList) (fun x hx => by rw [List.eq_of_mem_replicate hx, List.length_map, Array.length_toList, hzs]) (by rw [hcl, List.length_replicate]) (fun i j x d hi hj => by
    have hin : i < n := by have := (List.getElem?_eq_some_iff.1 hi).1; simpa using this
    have hx : x = te.zero.cells.toList.map D.val := List.eq_of_mem_replicate (List.mem_of_getElem? hi)
    subst hx
    have hjl : j < te.zero.cells.size := by have := (List.getElem?_eq_some_iff.1 hj).1; simpa using this
    have hd : d = .val te.zero.cells[j] := by simpa [hjl] using hj.symm
    subst hd
    refine ⟨te.zero.cells[j], ?_, List.all_eq_true.1 hz1 _ (by simp), RepP.val _⟩
    have := zero_get (z := te.zero.cells) hin hjl
    rwa [hzs] at this) (by rw [List.length_replicate]; exact hlo) hvs hg hmk hncap hcm hcs
  have hst := run_storeCells_fz P g (lo * ob.sz) e' fz (Builtin.zeroCells te.zero.cells n).toList 0 cur w hg hmk.ok (by rw [Nat.add_zero]; exact hf) hone
  simp only [Nat.add_zero] at hst
  have hrun : (Builtin.clear_ #[t] o.type #[a.eval x1]).run P w = .ok (.tuple #[]) (w.setRow g (cur.toList.take (lo * ob.sz) ++ (Builtin.zeroCells te.zero.cells n).toList ++ cur.toList.drop (lo * ob.sz + (Builtin.zeroCells te.zero.cells n).toList.length)).toArray) := by
    rw [he]
    obtain ⟨n', rfl⟩ : ∃ n', n = n' + 1 := ⟨n - 1, by omega⟩
    simp [Builtin.clear_, run_underlying hu, hzr]
    simp only [hst]
    simp
  have hexec : (execOp a.eval o).run P w = .ok (.value (.tuple #[])) (w.setRow g (cur.toList.take (lo * ob.sz) ++ (Builtin.zeroCells te.zero.cells n).toList ++ cur.toList.drop (lo * ob.sz + (Builtin.zeroCells te.zero.cells n).toList.length)).toArray) := by
    obtain ⟨dst, op, type, pos, after, guard⟩ := o
    simp only at ho hrun
    subst ho
    simp [execOp, resolve, invoke, builtin, hrun]
  unfold Oper.wp
  rw [hexec]
  refine hK _ hv _ ⟨hI2, (RepP.any _ : RepP _ _ .any _), fun d u hr => ?_, fun _ _ _ _ => rfl⟩
  exact hr.mono (fun _ _ h => by show LOf hv (hset k _ hp) _ = _; rw [eL]; exact h) hF

theorem oprel_copy_vw (hT : TOk P T) {o : Oper} {x1 x2 : Operand} {t t2 : TypeId} (ho : o.op = .call ⟨.builtin .copy, #[x1, x2], #[t, t2]⟩) {ev : Operand → D} {hp : HP} {nx k lo n q : Nat} {ob : Ob} {te : TI} {prow : Prop} {rows : List (List D)}
    (hx1 : ev x1 = .vw k lo n) (hob : lk k hp = some ob) (hdp : ob.deep = false) (hty : (lk t T).map (fun ti : TI => ti.sh) = some (.slice ob.ty)) (hte : lk ob.ty T = some te) (hsz : ob.sz = te.size) (hrow : rowOf hp te.size (ev x2) = some (prow, rows, false)) (hprow : prow)
    (hn : 0 < n) (hr0 : 0 < rows.length) (hq : q = min rows.length n) : OpRel P o ev hp nx { d := .val (.int .i64 (q : Nat)), upd := [(k, ⟨ob.ty, ob.sz, false, splice ob.xs lo (rows.take q)⟩)] } := by
  refine ⟨⟨fun p hp => by simp at hp, rfl⟩, fun w0 S G hv a w hI hk hev K Q hK => ?_⟩
  have h1 := hev x1
  rw [hx1] at h1
  obtain ⟨g, cap, cur, c, he, hnc, hlo, hvs, ⟨e', fz, hg, hmk⟩, hncap, hcm, hcs⟩ := vw_open hI h1 hob hn
  obtain ⟨ti, hl, hsh⟩ := Option.map_eq_some_iff.1 hty
  have hu := TI.under_slice (hT _ _ hl) hsh
  obtain ⟨i, hi, his, hib, hiz⟩ := TI.info (hT _ _ hte)
  have hR := rowOf_ok hI (hev x2) hrow hprow
  rcases hR.2 with ⟨_, h0⟩ | ⟨ad, c2, hv2, hnc2, hcells⟩
  · rw [h0] at hr0; simp at hr0
  obtain ⟨news, hnl, hncell, hn1, hnr⟩ := row_cells hR.1 hcells
  have hql : q ≤ rows.length := by omega
  have hqs : q * ob.sz ≤ news.length := by rw [hnl, hsz]; exact Nat.mul_le_mul_right _ hql
  have htl : (news.take (q * ob.sz)).length = q * ob.sz := by rw [List.length_take]; omega
  have hrl : (rows.take q).length = q := by rw [List.length_take]; omega
  have hone : ∀ u ∈ news.take (q * ob.sz), u.oneCell' = true := fun u hu => hn1 u (List.mem_of_mem_take hu)
  obtain ⟨hf, hI2, eL, hF⟩ := row_write hI hob hdp (p := lo) (rows := rows.take q) (news := news.take (q * ob.sz)) (fun x hx => by rw [hsz]; exact hR.1 x (List.mem_of_mem_take hx)) (by rw [htl, hrl]) (fun i' j x d h2 h3 => by
    have hiq : i' < q := by have := (List.getElem?_eq_some_iff.1 h2).1; rw [hrl] at this; exact this
    rw [List.getElem?_take, if_pos hiq] at h2
    obtain ⟨u, hu1, hu2, hu3⟩ := hnr i' j x d h2 h3
    have hjs : j < ob.sz := by rw [hsz, ← hR.1 x (List.mem_of_getElem? h2)]; exact (List.getElem?_eq_some_iff.1 h3).1
    rw [← hsz] at hu1
    exact ⟨u, by rw [List.getElem?_take, if_pos (row_lt hiq hjs)]; exact hu1, hu2, by simpa [RepO] using hu3⟩) (by rw [hrl]; omega) hvs hg hmk hncap hcm hcs
  have hst := run_storeCells_fz P g (lo * ob.sz) e' fz (news.take (q * ob.sz)) 0 cur w hg hmk.ok (by rw [Nat.add_zero]; exact hf) hone
  simp only [Nat.add_zero] at hst
  have hfc := run_firstCells_some (P := P) w te.size q ad rows.length c2 (news.take (q * ob.sz)) (by rw [htl, hsz]) (fun j v hj => by
    rw [List.getElem?_take] at hj
    split at hj
    · exact hncell j v hj
    · cases hj)
  have hrun : (Builtin.copy_ #[t, t2] o.type #[a.eval x1, a.eval x2]).run P w = .ok (.int .i64 (q : Nat)) (w.setRow g (cur.toList.take (lo * ob.sz) ++ news.take (q * ob.sz) ++ cur.toList.drop (lo * ob.sz + (news.take (q * ob.sz)).length)).toArray) := by
    rw [he, hv2]
    have hmin : Nat.min rows.length n = q := hq.symm
    simp [Builtin.copy_, run_underlying hu, Builtin.lenOf, sizeOf, typeInfo, hi, his, hmin, hfc, hst, goInt]
  have hexec : (execOp a.eval o).run P w = .ok (.value (.int .i64 (q : Nat))) (w.setRow g (cur.toList.take (lo * ob.sz) ++ news.take (q * ob.sz) ++ cur.toList.drop (lo * ob.sz + (news.take (q * ob.sz)).length)).toArray) := by
    obtain ⟨dst, op, type, pos, after, guard⟩ := o
    simp only at ho hrun
    subst ho
    simp [execOp, resolve, invoke, builtin, hrun]
  unfold Oper.wp
  rw [hexec]
  refine hK _ hv _ ⟨hI2, rep_mk _, fun d u hr => ?_, fun _ _ _ _ => rfl⟩
  exact hr.mono (fun _ _ h => by show LOf hv (hset k _ hp) _ = _; rw [eL]; exact h) hF
end Go.Proofs.YtpdkhlpmiblflaaGreat.Abs

/- Abs, part 32: capacity of a part of a local row; rows that do not overlap; a part that is the whole. -/
set_option linter.unusedVariables false
set_option linter.unusedSimpArgs false
namespace Go.Proofs.YtpdkhlpmiblflaaGreat.Abs
open Go Go.RowKit
variable {P : Program} {T : TT} {C : Ctx}

theorem weak_vw_own {t h n : Nat} {sl : List (Nat × D)} {hp : HP} {nx : Nat} {ob : Ob} (ht : lk t sl = some (.vw h 0 n)) (hl : lk h hp = some ob) (hn : n = ob.xs.length) (h0 : 0 < n) : Weak C ⟨sl, hp, nx⟩ ⟨(t, .own h) :: sl, hp, nx⟩ := fun a w ⟨hv, hH, hk, hm, hpn, hS⟩ => by
  refine ⟨hv, hH, hk, hm, hpn, hS.defers, hS.size, fun t' d hd => ?_⟩
  rw [lk_cons] at hd
  split at hd
  · rename_i e
    subst e
    cases hd
    have h1 := hS.at_ _ _ ht
    obtain ⟨A, c, m, cap, s, aa, he, hL, hlo, hnc, hAc, hA⟩ := h1
    obtain ⟨g, haa, hA'⟩ := hA (by omega)
    rw [Nat.zero_mul] at hA'
    have hL' := hL
    rw [LOf_eq hl] at hL'
    simp only [Option.some.injEq, Prod.mk.injEq] at hL'
    obtain ⟨hvk, rfl⟩ := hL'
    obtain ⟨vs, hown, _, _⟩ := hH.obs h ob hl
    have hmn : m = n := by
      rcases hown.2 with ⟨h1, h0'⟩ | ⟨g', cap', cur, hvs, _⟩
      · omega
      · rw [hvk] at hvs
        simp only [Value.slice.injEq] at hvs
        omega
    refine ⟨ob.sz, ?_⟩
    show LOf hv hp h = some (_, ob.sz)
    rw [LOf_eq hl, hvk, he, haa, hA', hmn, show c = cap by omega]
  · exact hS.at_ t' d hd

theorem sreg_cap {N : Nat} (hT : TOk P T) (hP : C.P = P) (hN : C.N = N) {ops l : List Oper} {t : Tmp} {x : Operand} {ty tb : TypeId} {pos : String} {af : Array Edge} {sl : List (Nat × D)} {hp : HP} {nx : Nat} {K : St → Prop} {k lo n : Nat} {ob : Ob} {e : TypeId}
    (ht : t < N) (hx : evD sl x = .vw k lo n) (hob : lk k hp = some ob) (hty : (lk ty T).map (fun ti : TI => ti.sh) = some (.slice e))
    (hK : ∀ c : Nat, ob.xs.length ≤ lo + c → c ≤ 9223372036854775807 → SReg C ops l ⟨(t, .val (.int .i64 (c : Nat))) :: sl, hp, nx⟩ K) :
    SReg C ops ({ dst := some t, op := .call ⟨.builtin .cap, #[x], #[ty]⟩, type := tb, pos := pos, after := af, guard := none } :: l) ⟨sl, hp, nx⟩ K := fun Q a w hI hQ => by
  subst hP
  obtain ⟨hv, hH, hk, hm, hpin, hS⟩ := hI
  simp only at hH hk hm hpin hS
  have hx' := evD_ok hS x
  rw [hx] at hx'
  obtain ⟨ti, hl, hsh⟩ := Option.map_eq_some_iff.1 hty
  have hu := TI.under_slice (hT _ _ hl) hsh
  obtain ⟨A, c, m, cap, s, aa, he, hL, hlo, hnc, hAc, hA⟩ := hx'
  rw [LOf_eq hob] at hL
  simp only [Option.some.injEq, Prod.mk.injEq] at hL
  obtain ⟨hvk, rfl⟩ := hL
  obtain ⟨vs, hown, _, _⟩ := hH.obs k ob hob
  have hmc : ob.xs.length ≤ cap := by
    rcases hown.2 with ⟨h1, h0'⟩ | ⟨g', cap', cur, hvs, _, _, h2, _⟩
    · omega
    · rw [hvk] at hvs
      simp only [Value.slice.injEq] at hvs
      omega
  refine wpList_step (fun K1 hK1 => ?_)
  simp only [Region.wanted, if_true]
  unfold Oper.wp
  have hrun : (execOp a.eval { dst := some t, op := .call ⟨.builtin .cap, #[x], #[ty]⟩, type := tb, pos := pos, after := af, guard := none }).run C.P w = .ok (.value (.int .i64 (c : Nat))) w := by
    simp [execOp, resolve, invoke, builtin, Builtin.cap_, run_underlying hu, he, goInt]
  rw [hrun]
  refine hK1 _ _ ?_
  refine hK c (by omega) (by have := hnc.2.1; simp [maxLen] at this; omega) Q _ w ⟨hv, hH, hk, hm, hpin, ?_⟩ hQ
  exact sinv_put hS (dst := some t) (fun t' h => by cases h; rw [hN]; exact ht) (d := .val (.int .i64 (c : Nat))) (v := .int .i64 (c : Nat)) (RepP.val _ : RepP w (FOf C.G hv hp w) (.val (.int .i64 (c : Nat))) _)

theorem oprel_overlaps (hT : TOk P T) {o : Oper} {x1 x2 : Operand} {f : FuncId} {tys : Array TypeId} {tS tR : TypeId} (ho : o.op = .call ⟨.value (.func f), #[x1, x2], tys⟩)
    (hov : ∀ (args : Array Value) (w : World), (callFunc f args).run P w = ((Extern.SlicesOverlaps.overlaps #[tS, tS] #[tR] args).run P w).andThen fun v w' => .ok (.value v) w')
    {ev : Operand → D} {hp : HP} {nx h1 h2 lo n : Nat} {ob1 ob2 : Ob} {te : TI} (hx1 : ev x1 = .own h1) (hx2 : ev x2 = .vw h2 lo n) (hl1 : lk h1 hp = some ob1) (hl2 : lk h2 hp = some ob2) (hne : h1 ≠ h2) (hn1 : 0 < ob1.xs.length) (hn : 0 < n)
    (hty : (lk tS T).map (fun ti : TI => ti.sh) = some (.slice ob2.ty)) (hte : lk ob2.ty T = some te) (hsz : ob2.sz = te.size) (hpos : 0 < te.size) (hty1 : ob1.ty ≠ mkTy := by exact Nat.ne_of_beq_eq_false rfl) (hty2 : ob2.ty ≠ mkTy := by exact Nat.ne_of_beq_eq_false rfl) : OpRel P o ev hp nx { d := .val (.bool false) } := by
  refine ⟨⟨fun p hp => by simp at hp, rfl⟩, fun w0 S G hv a w hI hk hev K Q hK => ?_⟩
  have e1 := hev x1
  rw [hx1] at e1
  obtain ⟨s1, hL1⟩ := e1
  rw [LOf_eq hl1] at hL1
  simp only [Option.some.injEq, Prod.mk.injEq] at hL1
  obtain ⟨hv1, -⟩ := hL1
  have e2 := hev x2
  rw [hx2] at e2
  obtain ⟨g2, cap2, cur2, c2, he2, hnc2, hlo2, hvs2, ⟨e2', fz2, hg2, hmk2⟩, hncap2, _, hcs2⟩ := vw_open hI e2 hl2 hn
  obtain ⟨vs1, hown1, _, _⟩ := hI.obs h1 ob1 hl1
  rcases hown1.2 with ⟨_, h0⟩ | ⟨g1, cap1, cur1, hvs1, _, ⟨e1', fz1, hg1, hmk1⟩, hncap1, _, hcs1, _⟩
  · omega
  have hgne : g1 ≠ g2 := fun e => by
    rcases hI.inj h1 h2 ob1 ob2 hl1 hl2 hne with h3 | h3
    · rw [hvs1] at h3; cases h3
    · exact h3 (by rw [hvs1, hvs2, e]; rfl)
  obtain ⟨ti, hl, hsh⟩ := Option.map_eq_some_iff.1 hty
  have hu := TI.under_slice (hT _ _ hl) hsh
  obtain ⟨i, hi, his, hib, hiz⟩ := TI.info (hT _ _ hte)
  have hfz1 := hmk1.plain hty1
  have hfz2 := hmk2.plain hty2
  rw [hfz1.1, hfz1.2] at hg1
  rw [hfz2.1, hfz2.2] at hg2
  have hk2 : cur2.size ≠ 0 := by
    rw [hcs2]
    have : 0 < cap2 * ob2.sz := Nat.mul_pos (by omega) (by omega)
    omega
  have hex := Lib.run_overlaps_apart (P := P) w tS tR ob2.ty hu te.size (fun w => by simp [sizeOf, typeInfo, hi, his]) ⟨g1, 0, none⟩ ⟨g2, lo * ob2.sz, none⟩ ob1.xs.length cap1 n c2 hgne ob1.ty ob2.ty cur1.size cur2.size
    (by simp [World.shape?, hg1]) (by simp [World.shape?, hg2]) hk2 (by simp [World.frozen?, hg1]) (by simp [World.frozen?, hg1])
  have hcall : (callFunc f #[a.eval x1, a.eval x2]).run P w = .ok (.value (.bool false)) w := by
    rw [hov, ← hv1, hvs1, he2, hex]
    rfl
  have hexec : (execOp a.eval o).run P w = .ok (.value (.bool false)) w := by
    obtain ⟨dst, op, type, pos, after, guard⟩ := o
    simp only at ho
    subst ho
    have hc : a.eval (.func f) = .func (.func f) #[] #[] := rfl
    simp only [execOp, resolve, hc, Deferred.ofValue, Sem.run_bind, Sem.run_pure, Result.andThen_ok, invoke]
    simpa using hcall
  unfold Oper.wp
  rw [hexec]
  exact hK _ hv w (post_same hI (rep_mk _))

theorem oprel_slice3 (hT : TOk P T) {o : Oper} {x lo hi mx : Operand} {t : TypeId} (ho : o.op = .slice t x (some lo) (some hi) (some mx)) {ev : Operand → D} {hp : HP} {nx k : Nat} {l h m : Int} {ob : Ob} {te : TI}
    (hx : ev x = .own k) (hlo : ev lo = .val (.int .i64 l)) (hhi : ev hi = .val (.int .i64 h)) (hmx : ev mx = .val (.int .i64 m)) (hob : lk k hp = some ob) (hty : (lk t T).map (fun ti : TI => ti.sh) = some (.slice ob.ty)) (hte : lk ob.ty T = some te)
    (h0 : 0 ≤ l) (h1 : l ≤ h) (h2 : h ≤ m) (h3 : m ≤ ob.xs.length) : OpRel P o ev hp nx { d := .any } := by
  refine ⟨⟨fun p hp => by simp at hp, rfl⟩, fun w0 S G hv a w hI hk hev K Q hK => ?_⟩
  have e1 := hev x
  rw [hx] at e1
  obtain ⟨s1, hL1⟩ := e1
  rw [LOf_eq hob] at hL1
  simp only [Option.some.injEq, Prod.mk.injEq] at hL1
  obtain ⟨hv1, -⟩ := hL1
  have vlo := hev lo
  rw [hlo] at vlo
  have vlo := rep_val vlo
  have vhi := hev hi
  rw [hhi] at vhi
  have vhi := rep_val vhi
  have vmx := hev mx
  rw [hmx] at vmx
  have vmx := rep_val vmx
  obtain ⟨ti, hl, hsh⟩ := Option.map_eq_some_iff.1 hty
  have hu := TI.under_slice (hT _ _ hl) hsh
  obtain ⟨i, hi', his, hib, hiz⟩ := TI.info (hT _ _ hte)
  obtain ⟨vs, hown, _, _⟩ := hI.obs k ob hob
  have hval : ∃ aa n cap, a.eval x = .slice aa n cap ∧ ob.xs.length ≤ cap := by
    rw [← hv1]
    rcases hown.2 with ⟨h5, h6⟩ | ⟨g, cap, cur, h5, _, _, h6, _⟩
    · exact ⟨_, _, _, h5, by omega⟩
    · exact ⟨_, _, _, h5, h6⟩
  obtain ⟨aa, n, cap, he, hcap⟩ := hval
  have hm0 : 0 ≤ m ∧ m ≤ (cap : Int) := ⟨by omega, by omega⟩
  have hh0 : 0 ≤ h ∧ h ≤ m := ⟨by omega, h2⟩
  have hrun : ∃ v, (execOp a.eval o).run P w = .ok (.value v) w := by
    obtain ⟨dst, op, type, pos, after, guard⟩ := o
    simp only at ho
    subst ho
    refine ⟨.slice (if m.toNat = l.toNat then aa else aa.map (·.add (l.toNat * i.size))) (h.toNat - l.toNat) (m.toNat - l.toNat), ?_⟩
    simp [execOp, Instr.sliceAt, Instr.slice, underlying, hu, he, vlo, vhi, vmx, Instr.sliceBounds, Instr.sliceBound, asIntOf, hm0, hh0.1, h0, h1, sizeOf, typeInfo, hi', show h ≤ max m 0 by omega, show l ≤ max h 0 by omega]
  obtain ⟨v, hrun⟩ := hrun
  unfold Oper.wp
  rw [hrun]
  exact hK _ hv w (post_same hI (RepP.any _ : RepP _ _ .any _))
end Go.Proofs.YtpdkhlpmiblflaaGreat.Abs

/- Abs, part 33: a contract in other words; two handles change their places. -/
set_option linter.unusedVariables false
set_option linter.unusedSimpArgs false
namespace Go.Proofs.YtpdkhlpmiblflaaGreat.Abs
open Go Go.RowKit
variable {P : Program} {T : TT} {C : Ctx}
theorem FnOk.sub {X Y : Type} {s : Spec X} {s' : Spec Y} {f : FuncId} (h : FnOk P f s) (g : ∀ y, s'.pre y → ∃ x, s.pre x ∧ s.args x = s'.args y ∧ s.obs x = s'.obs y ∧ s.out x = s'.out y ∧ s.new x = s'.new y ∧ s.res x = s'.res y) : FnOk P f s' := by
  refine ⟨h.1, fun y hy => ?_⟩
  obtain ⟨x, hp, ha, ho, hu, hn, hr⟩ := g y hy
  have := h.2 x hp
  rw [ha, ho, hu, hn, hr] at this
  exact this

/-! ### Two handles change their places -/
section sw
variable {L L' : LF} {w : World} {F F' : Nat → Prop} {a b : Nat}
end sw
end Go.Proofs.YtpdkhlpmiblflaaGreat.Abs

/- Abs, part 34: the order in which objects are told does not matter. -/
set_option linter.unusedVariables false
set_option linter.unusedSimpArgs false
namespace Go.Proofs.YtpdkhlpmiblflaaGreat.Abs
open Go Go.RowKit
variable {P : Program} {T : TT} {C : Ctx}
end Go.Proofs.YtpdkhlpmiblflaaGreat.Abs

/- Abs, part 35: a local object is no longer written to: its row is read only from here on; functions that take no objects; calls that hand back rows of rows. -/
set_option linter.unusedVariables false
set_option linter.unusedSimpArgs false
namespace Go.Proofs.YtpdkhlpmiblflaaGreat.Abs
open Go Go.RowKit
variable {P : Program} {T : TT} {C : Ctx}

/-! ### Freezing -/
def frzC (h sz : Nat) (ys : List (List D)) : D → D
  | .own k => if k = h then .sl sz ys else .own k
  | d => killC h d
def frz (h sz : Nat) (ys : List (List D)) : D → D
  | .agg cs => .agg (cs.map (frzC h sz ys))
  | .fn f fs cs => .fn f (fs.map (frzC h sz ys)) (cs.map (frzC h sz ys))
  | .tup _ => .any
  | d => frzC h sz ys d
def frzO (h sz : Nat) (ys : List (List D)) (o : Ob) : Ob := if o.deep then { o with xs := o.xs.map (·.map (frzC h sz ys)) } else o
def frzHP (h sz : Nat) (ys : List (List D)) : HP → HP
  | [] => []
  | (k, o) :: l => if k = h then frzHP h sz ys l else (k, frzO h sz ys o) :: frzHP h sz ys l
def frzSl (h sz : Nat) (ys : List (List D)) : List (Nat × D) → List (Nat × D)
  | [] => []
  | (t, d) :: l => (t, frz h sz ys d) :: frzSl h sz ys l
theorem lk_frzHP {h sz : Nat} {ys : List (List D)} : ∀ {hp : HP} {k : Nat}, lk k (frzHP h sz ys hp) = if k = h then none else (lk k hp).map (frzO h sz ys)
  | [], k => by simp [frzHP, lk]
  | (k0, o) :: l, k => by
    simp only [frzHP]
    by_cases e : k0 = h
    · rw [if_pos e, lk_frzHP, lk_cons]
      by_cases e2 : k = h
      · simp [e2]
      · rw [if_neg e2, if_neg e2, if_neg (fun h' => e2 (h'.trans e))]
    · rw [if_neg e, lk_cons, lk_cons, lk_frzHP]
      by_cases e2 : k = k0
      · subst e2; simp [e]
      · rw [if_neg e2, if_neg e2]
theorem lk_frzSl {h sz : Nat} {ys : List (List D)} : ∀ {sl : List (Nat × D)} {t : Nat}, lk t (frzSl h sz ys sl) = (lk t sl).map (frz h sz ys)
  | [], t => rfl
  | (t0, d) :: l, t => by
    simp only [frzSl, lk_cons]
    split
    · rfl
    · exact lk_frzSl
section frz
variable {L L' : LF} {w : World} {F F' : Nat → Prop} {h sz : Nat} {ys : List (List D)}
theorem RepC.frozen (hL : ∀ k x, k ≠ h → L k = some x → L' k = some x) (hF : ∀ b, F b → F' b ∧ w.heap[b]? = w.heap[b]?) (hown : ∀ v s, L h = some (v, s) → RepP w F' (.sl sz ys) v) {d : D} {v : Value} (hr : RepC L w F d v) : RepC L' w F' (frzC h sz ys d) v := by
  cases d
  case own k =>
    simp only [frzC]
    obtain ⟨s, hs⟩ := hr
    split
    · rename_i e; subst e; exact hown v s hs
    · rename_i e; exact ⟨s, hL _ _ e hs⟩
  all_goals exact RepC.killed hL hF hr
theorem RepL.frozen (hL : ∀ k x, k ≠ h → L k = some x → L' k = some x) (hF : ∀ b, F b → F' b ∧ w.heap[b]? = w.heap[b]?) (hown : ∀ v s, L h = some (v, s) → RepP w F' (.sl sz ys) v) : ∀ {ds : List D} {vs : List Value}, RepL L w F ds vs → RepL L' w F' (ds.map (frzC h sz ys)) vs
  | [], [], _ => trivial
  | d :: ds, v :: vs, hh => ⟨hh.1.frozen hL hF hown, RepL.frozen hL hF hown hh.2⟩
  | [], _ :: _, hh => hh.elim
  | _ :: _, [], hh => hh.elim
theorem frz_rep (hL : ∀ k x, k ≠ h → L k = some x → L' k = some x) (hF : ∀ b, F b → F' b ∧ w.heap[b]? = w.heap[b]?) (hown : ∀ v s, L h = some (v, s) → RepP w F' (.sl sz ys) v) {d : D} {v : Value} (hr : Rep L w F d v) : Rep L' w F' (frz h sz ys d) v := by
  have one : ∀ d, RepC L w F d v → Rep L' w F' (frzC h sz ys d) v := fun d hr => repC_oneD (hr.frozen hL hF hown)
  cases d
  case agg cs => obtain ⟨vs, e, hr, ho⟩ := hr; exact ⟨vs, e, hr.frozen hL hF hown, ho⟩
  case fn f fs cs => obtain ⟨us, vs, e, hr1, hr⟩ := hr; exact ⟨us, vs, e, hr1.frozen hL hF hown, hr.frozen hL hF hown⟩
  case tup => exact (RepP.any v : RepP w F' .any v)
  all_goals (simp only [frz]; exact one _ hr)
end frz
theorem frzO_sz (h sz : Nat) (ys : List (List D)) (o : Ob) : (frzO h sz ys o).sz = o.sz := by unfold frzO; split <;> rfl
theorem weak_frz (h : Nat) {sl : List (Nat × D)} {hp : HP} {nx : Nat} {ob : Ob} (hS0 : C.S = []) (hG : ∀ b, C.w0.heap.size ≤ b → C.G b) (hl : lk h hp = some ob) (hd : ob.deep = false ∨ ∀ x ∈ ob.xs, x.all hf = true) : Weak C ⟨sl, hp, nx⟩ ⟨frzSl h ob.sz ob.xs sl, frzHP h ob.sz ob.xs hp, nx⟩ := fun a w ⟨hv, hH, hk, hm, hpn, hS⟩ => by
  have hold : ∀ k o, lk k (frzHP h ob.sz ob.xs hp) = some o → k ≠ h ∧ ∃ o0, lk k hp = some o0 ∧ o = frzO h ob.sz ob.xs o0 := fun k o hlk => by
    rw [lk_frzHP] at hlk
    split at hlk
    · cases hlk
    · rename_i hne
      obtain ⟨o0, h1, h2⟩ := Option.map_eq_some_iff.1 hlk
      exact ⟨hne, o0, h1, h2.symm⟩
  have hL : ∀ k x, k ≠ h → LOf hv hp k = some x → LOf hv (frzHP h ob.sz ob.xs hp) k = some x := fun k x hne hx => by
    simp only [LOf, Option.map_eq_some_iff] at hx ⊢
    obtain ⟨o, ho, rfl⟩ := hx
    exact ⟨frzO h ob.sz ob.xs o, by rw [lk_frzHP, if_neg hne, ho]; rfl, by rw [frzO_sz]⟩
  have hF : ∀ b, FOf C.G hv hp w b → FOf C.G hv (frzHP h ob.sz ob.xs hp) w b ∧ w.heap[b]? = w.heap[b]? := fun b hb => ⟨⟨hb.1, fun k o hlk => by
    obtain ⟨_, o0, ho, _⟩ := hold k o hlk
    exact hb.2 k o0 ho⟩, rfl⟩
  have hown : ∀ v s, LOf hv hp h = some (v, s) → RepP w (FOf C.G hv (frzHP h ob.sz ob.xs hp) w) (.sl ob.sz ob.xs) v := fun v s hvs => by
    rw [LOf_eq hl] at hvs
    simp only [Option.some.injEq, Prod.mk.injEq] at hvs
    obtain ⟨rfl, _⟩ := hvs
    have hrow := own_row (hH.obs h ob hl)
    refine row_toP hrow (fun hdp x hx => ?_) (fun b hb => (hF b hb).1) (fun ad n c he hne => ?_) (own_cap hH hl)
    · rcases hd with h1 | h1
      · rw [hdp] at h1; cases h1
      · exact h1 x hx
    · obtain ⟨vs, ho, _⟩ := hH.obs h ob hl
      obtain ⟨g, cap, hg⟩ := own_form (hH.obs h ob hl) hne
      rw [hg] at he
      cases he
      have hob : (hv h).ownBlock = some g := by rw [hg]; rfl
      refine ⟨⟨⟨(ho.lt g hob).2, hG g ?_⟩, fun k o hlk hkb => ?_⟩, rfl⟩
      · rcases hH.base h ob g hl hob with h1 | h1
        · exact h1
        · rw [hS0] at h1; simp at h1
      · obtain ⟨hne2, o0, ho0, _⟩ := hold k o hlk
        rcases hH.inj k h o0 ob ho0 hl hne2 with h1 | h1
        · rw [h1] at hkb; cases hkb
        · exact h1 (hkb.trans hob.symm)
  refine ⟨hv, ⟨fun k o hlk => ?_, fun k k' o o' hlk hlk' hne => ?_, fun k o b hlk hb => ?_, hH.keeps, hH.gnew⟩, fun k o hlk => ?_, hm, fun k o hlk hlt => ?_, hS.defers, hS.size, fun t d hlk => ?_⟩
  · obtain ⟨hne, o0, ho, rfl⟩ := hold k o hlk
    obtain ⟨us, h1, h2, h3⟩ := hH.obs k o0 ho
    unfold frzO
    cases hdp : o0.deep with
    | false =>
      simp only [Bool.false_eq_true, if_false]
      refine ⟨us, h1, h2, fun i j x d hi hj => ?_⟩
      obtain ⟨u, hu, h4, hr⟩ := h3 i j x d hi hj
      refine ⟨u, hu, h4, ?_⟩
      rw [hdp] at hr ⊢
      simp only [RepO, Bool.false_eq_true, if_false] at hr ⊢
      exact hr.mono hF
    | true =>
      simp only [if_true]
      refine ⟨us, by simpa using h1, fun x hx => ?_, fun i j x d hi hj => ?_⟩
      · obtain ⟨y, hy, rfl⟩ := List.mem_map.1 hx
        simpa using h2 y hy
      · simp only [List.getElem?_map, Option.map_eq_some_iff] at hi
        obtain ⟨y, hy, rfl⟩ := hi
        simp only [List.getElem?_map, Option.map_eq_some_iff] at hj
        obtain ⟨e, he, rfl⟩ := hj
        obtain ⟨u, hu, h4, hr⟩ := h3 i j y e hy he
        refine ⟨u, hu, h4, ?_⟩
        simp only [RepO, hdp, if_true] at hr ⊢
        exact hr.frozen hL hF hown
  · obtain ⟨_, o0, ho, _⟩ := hold k o hlk
    obtain ⟨_, o1, ho', _⟩ := hold k' o' hlk'
    exact hH.inj k k' o0 o1 ho ho' hne
  · obtain ⟨_, o0, ho, _⟩ := hold k o hlk
    exact hH.base k o0 b ho hb
  · obtain ⟨_, o0, ho, _⟩ := hold k o hlk
    exact hk k o0 ho
  · obtain ⟨_, o0, ho, _⟩ := hold k o hlk
    exact hpn k o0 ho hlt
  · rw [lk_frzSl] at hlk
    obtain ⟨d0, h1, rfl⟩ := Option.map_eq_some_iff.1 hlk
    exact frz_rep hL hF hown (hS.at_ t d0 h1)
/-! ### Functions that take no objects -/
theorem hinv_S {w0 : World} {S : List Nat} {G : Nat → Prop} {hv : Nat → Value} {hp : HP} {w : World} (h : HInv w0 [] G hv hp w) (ht : TabAt S w0) : HInv w0 S G hv hp w := by
  refine ⟨h.obs, h.inj, fun k o b hl hb => ?_, ⟨h.keeps.os, h.keeps.tape, h.keeps.output, h.keeps.size, fun k hk _ => h.keeps.block k hk (by simp), ht⟩, h.gnew⟩
  rcases h.base k o b hl hb with h1 | h1
  · exact .inl h1
  · simp at h1
theorem fn_ok_S {X : Type} {s : Spec X} {f : FuncId} {fn : Func} {c : Code} (n m : Nat) (hT : TOk P T) (hf : P.funcs[f]? = some fn) (hb : fn.body = some c) (hent : ∀ args w, (callFunc f args).run P w = .ok (.enter f args) w)
    (hargs : ∀ x, (s.args x).length = n) (hobs : ∀ x, (s.obs x).length = m) (hout : ∀ x, (s.out x).map Ob.sz = (s.obs x).map Ob.sz)
    (h : ∀ x, s.pre x → ∀ C : Ctx, C.P = P → C.N = n + (fn.ntmps - n) → C.m = m → (∀ b, C.w0.heap.size ≤ b → C.G b) → C.S = [] → awp C c (bodyA T fn.results.toList s m x) ⟨numD 0 (s.args x), numbered 0 (s.obs x), m⟩) : ∀ x, s.pre x → ∀ (w : World) (G : Nat → Prop) (hv : Nat → Value) (vs : List Value), (∀ b, w.heap.size ≤ b → G b) →
    HInv w [] G hv (numbered 0 (s.obs x)) w → RepAL (LOf hv (numbered 0 (s.obs x))) w (FOf G hv (numbered 0 (s.obs x)) w) (s.args x) vs →
    Calls P f vs.toArray w (fun e w' => ∃ v hv', e = .returned v ∧ HInv w [] G hv' (numbered 0 (s.out x ++ s.new x)) w' ∧ (∀ i, i < (s.obs x).length → hv' i = hv i) ∧
      Rep (LOf hv' (numbered 0 (s.out x ++ s.new x))) w' (FOf G hv' (numbered 0 (s.out x ++ s.new x)) w') (s.res x) v) := by
  intro x hx w G hv vs hG hI hA
  have hn : vs.length = n := by rw [← repAL_length hA, hargs]
  refine calls_of_wp hf hb ?_
  have hInv : Inv ⟨P, n + (fn.ntmps - n), w, [], G, m, hv⟩ ⟨numD 0 (s.args x), numbered 0 (s.obs x), m⟩ { tmps := vs.toArray ++ Array.replicate (fn.ntmps - vs.toArray.size) undef, defers := [] } w := by
    refine ⟨hv, hI, fun h ob hl => ?_, Nat.le_refl _, fun _ _ _ _ => rfl, ⟨rfl, by simp [hn], fun t d hl => ?_⟩⟩
    · rw [lk_numbered] at hl
      simp only [Nat.zero_le, if_true, Nat.sub_zero] at hl
      have := (List.getElem?_eq_some_iff.1 hl).1
      rw [hobs] at this
      exact this
    · rw [lk_numD] at hl
      simp only [Nat.zero_le, if_true, Nat.sub_zero] at hl
      obtain ⟨u, hu, hr⟩ := repAL_get hA t d hl
      have htl : t < vs.length := (List.getElem?_eq_some_iff.1 hu).1
      have : (vs.toArray ++ Array.replicate (fn.ntmps - vs.toArray.size) undef).getD t undef = u := by
        rw [Array.getD_eq_getD_getElem?, Array.getElem?_append_left (by simpa using htl)]
        simp [hu]
      rw [this]
      exact repA_D hr
  refine wp_mono (h x hx ⟨P, n + (fn.ntmps - n), w, [], G, m, hv⟩ rfl rfl rfl hG rfl _ w hInv) (fun e a' w' ⟨st', h1, h2⟩ => ?_)
  obtain ⟨hv', hH, hk, hmn, hpin, hS⟩ := h2
  have fin : Fin T fn.results.toList s m x st' → a'.defers = [] ∧ ∃ v, (results fn a'.tmps).run P w' = .ok v w' ∧ ∃ v0 hv'', Ending.returned v = .returned v0 ∧ HInv w [] G hv'' (numbered 0 (s.out x ++ s.new x)) w' ∧ (∀ i, i < (s.obs x).length → hv'' i = hv i) ∧
      Rep (LOf hv'' (numbered 0 (s.out x ++ s.new x))) w' (FOf G hv'' (numbered 0 (s.out x ++ s.new x)) w') (s.res x) v0 := fun ⟨d, ks0, hd, hren, hobj, hnd⟩ => by
    obtain ⟨v, hrun, hrep⟩ := outD_ok hT hH hS hd
    obtain ⟨ks, hks⟩ : ∃ ks, ks = List.range m ++ ks0 := ⟨_, rfl⟩
    rw [← hks] at hren hobj hnd
    obtain ⟨hkl, hget⟩ := objs_get hobj
    have hlk : ∀ i o, lk i (numbered 0 (s.out x ++ s.new x)) = some o → ∃ k ob, ks[i]? = some k ∧ lk k st'.hp = some ob ∧ Fits ob o := fun i o hi => by
      rw [lk_numbered] at hi
      simp only [Nat.zero_le, if_true, Nat.sub_zero] at hi
      exact hget i o hi
    have hgd : ∀ i k, ks[i]? = some k → ks.getD i 0 = k := fun i k h => by simp [List.getD, h]
    have hF : ∀ b, FOf G hv' st'.hp w' b → FOf G (fun i => hv' (ks.getD i 0)) (numbered 0 (s.out x ++ s.new x)) w' b := fun b hb => ⟨hb.1, fun i o hi => by
      obtain ⟨k, ob, hk, hob, _⟩ := hlk i o hi
      simp only [hgd i k hk]
      exact hb.2 k ob hob⟩
    have hL : ∀ (i k : Nat) y, ks[i]? = some k → LOf hv' st'.hp k = some y → LOf (fun i => hv' (ks.getD i 0)) (numbered 0 (s.out x ++ s.new x)) i = some y := fun i k y hk hy => by
      have hil : i < ks.length := (List.getElem?_eq_some_iff.1 hk).1
      have h3 : ∃ o, (s.out x ++ s.new x)[i]? = some o := ⟨_, List.getElem?_eq_getElem (by omega)⟩
      obtain ⟨o, h3⟩ := h3
      obtain ⟨k', ob, hk', hob, hfit⟩ := hget i o h3
      rw [hk] at hk'
      cases hk'
      rw [LOf_eq hob] at hy
      have h4 : lk i (numbered 0 (s.out x ++ s.new x)) = some o := by rw [lk_numbered]; simpa using h3
      rw [LOf_eq h4]
      cases hy
      simp only [hgd i k hk, hfit.2.1]
    refine ⟨hS.defers, v, hrun, v, fun i => hv' (ks.getD i 0), rfl, ⟨fun i o hi => ?_, fun i j o o' hi hj hne => ?_, fun i o b hi hb => ?_, hH.keeps, hH.gnew⟩, fun i hi => ?_, ren_back hL hF hren hrep⟩
    · obtain ⟨k, ob, hk, hob, h4, h5, h6, h7, h8⟩ := hlk i o hi
      obtain ⟨us, ho, hg, hc⟩ := hH.obs k ob hob
      refine ⟨us, by rw [← h4, ← h5, ← h6, hgd i k hk]; exact ho, by rw [← h5, ← h6]; exact hg, fun a b y e ha hb => ?_⟩
      rw [← h6] at ha
      obtain ⟨u, hu, hone, hr⟩ := hc a b y e ha hb
      refine ⟨u, by rw [← h5]; exact hu, hone, ?_⟩
      have hp : RepP w' (FOf G hv' st'.hp w') e u := by
        rcases h8 with h8 | h8
        · simpa [RepO, h8] using hr
        · have := List.all_eq_true.1 (h8 y (by rw [← h6]; exact List.mem_of_getElem? ha)) e (List.mem_of_getElem? hb)
          exact repP_of_hf this hr.toC
      rw [h7]
      simp only [RepO, Bool.false_eq_true, if_false]
      exact hp.mono (fun b hb => ⟨hF b hb, rfl⟩)
    · obtain ⟨k, ob, hk, hob, _⟩ := hlk i o hi
      obtain ⟨k', ob', hk', hob', _⟩ := hlk j o' hj
      simp only [hgd i k hk, hgd j k' hk']
      refine hH.inj k k' ob ob' hob hob' (fun e => hne ?_)
      subst e
      exact (List.getElem?_inj (List.getElem?_eq_some_iff.1 hk).1 hnd).1 (hk.trans hk'.symm)
    · obtain ⟨k, ob, hk, hob, _⟩ := hlk i o hi
      simp only [hgd i k hk] at hb
      exact hH.base k ob b hob hb
    · rw [hobs] at hi
      have hki : ks[i]? = some i := by rw [hks, List.getElem?_append_left (by simpa using hi), List.getElem?_range hi]
      have h3 : ∃ o, (s.out x ++ s.new x)[i]? = some o := ⟨_, List.getElem?_eq_getElem (by have := (List.getElem?_eq_some_iff.1 hki).1; omega)⟩
      obtain ⟨o, h3⟩ := h3
      obtain ⟨k', ob, hk', hob, hfit⟩ := hget i o h3
      rw [hki] at hk'
      cases hk'
      simp only [hgd i i hki]
      exact hpin i ob hob hi
  cases e with
  | normal => exact fin h1
  | ret => exact fin h1
  | _ => exact h1.elim
theorem fn_ok0 {X : Type} {s : Spec X} {f : FuncId} {fn : Func} {c : Code} (n : Nat) (hT : TOk P T) (hf : P.funcs[f]? = some fn) (hb : fn.body = some c) (hent : ∀ args w, (callFunc f args).run P w = .ok (.enter f args) w)
    (hargs : ∀ x, (s.args x).length = n) (hobs : ∀ x, s.obs x = []) (hout : ∀ x, s.out x = [])
    (h : ∀ x, s.pre x → ∀ C : Ctx, C.P = P → C.N = n + (fn.ntmps - n) → C.m = 0 → (∀ b, C.w0.heap.size ≤ b → C.G b) → C.S = [] → awp C c (bodyA T fn.results.toList s 0 x) ⟨numD 0 (s.args x), numbered 0 (s.obs x), 0⟩) : FnOk P f s := by
  refine ⟨hent, fun x hx => ⟨by rw [hobs, hout], fun w S G hv vs hG hI hA => ?_⟩⟩
  have hI0 : HInv w [] G hv (numbered 0 (s.obs x)) w := by
    have ht := hI.keeps.tab.nil
    rw [hobs]
    exact hinv_none _ _ _ ht hG
  exact (fn_ok_S n 0 hT hf hb hent hargs (fun x => by rw [hobs]; rfl) (fun x => by rw [hobs, hout]) h x hx w G hv vs hG hI0 hA).mono (fun e w' ⟨v, hv', he, h1, h2, h3⟩ => ⟨v, hv', he, hinv_S h1 hI.keeps.tab, h2, h3⟩)

/-! ### Calls that hand back rows of rows -/
theorem sreg_weak {ops l : List Oper} {st st' : St} {K : St → Prop} (h : Weak C st st') (hK : SReg C ops l st' K) : SReg C ops l st K := fun Q a w hI hQ => hK Q a w (h a w hI) hQ
end Go.Proofs.YtpdkhlpmiblflaaGreat.Abs

/- Abs, part 36: in a drawn region, what does not look at memory goes first. -/
set_option linter.unusedVariables false
set_option linter.unusedSimpArgs false
namespace Go.Proofs.YtpdkhlpmiblflaaGreat.Abs
open Go Go.RowKit
variable {P : Program} {T : TT} {C : Ctx}

def floatU (ops : List Oper) (listed : Array Bool) (i : Nat) : Bool := (List.range ops.length).all fun j => decide (j = i) || (listed.getD j true || (match ops[i]?, ops[j]? with | some oi, some oj => depOn oj i || oi.apart ops.toArray oj | _, _ => true))
theorem anyS_floatP {m N : Nat} (hT : TOk P T) (hP : C.P = P) (hCm : C.m = m) (hN : C.N = N) {ops : List Oper} {K : St → Prop} {fuel : Nat} {listed : Array Bool} {st : St} (hd : dstsOk N ops = true) (i : Nat) {o : Oper} (ho : ops[i]? = some o) (hg : o.guard = none)
    (hrun0 : ∀ a w, Inv C st a w → ∃ v, ∀ w', (execOp a.eval o).run P w' = .ok (.value v) w')
    (hrd : (readyL ops listed).contains i = true) (hfl : floatU ops listed i = true) (hns : noSelB ops = true) (h : areg P T m ops [o] st (fun st' => AnyS C ops K fuel (listed.setIfInBounds i true) st')) : AnyS C ops K (fuel + 1) listed st := fun a w hI => by
  subst hP
  have hdo : ∀ t, o.dst = some t → t < C.N := fun t ht => by
    have := List.all_eq_true.1 hd o (List.mem_of_getElem? ho)
    rw [hN]
    simpa [ht] using this
  obtain ⟨v, hrun⟩ := hrun0 a w hI
  simp only [areg, hg] at h
  have h1 : o.wp C.P a w (fun a' w' => wpAny C.P .any ops.toArray (fun e a' w' => ∃ st', (e = .normal ∧ K st') ∧ Inv C st' a' w') fuel (listed.setIfInBounds i true) a' w') (fun _ _ _ => False) := aop_wp hT rfl hCm hI hdo h (fun st' a' w' h1 h2 => h1 a' w' h2)
  unfold Oper.wp at h1
  rw [hrun w] at h1
  simp only [Oper.upon] at h1
  have hmem : i ∈ Region.ready .any ops.toArray listed := by rw [ready_list]; simpa using hrd
  refine wpAny_first (i := i) (oi := o) (v := v) (by simpa using ho) (fun j oj cs b hj e => ?_) (fun c a w hq => ?_) fuel listed a w (fun j oj hj hji hun hno => ?_) hmem (.inl ⟨by simp [Region.wanted, hg], hrun⟩) h1
  · have hj2 : ops[j]? = some oj := by simpa using hj
    have := List.all_eq_true.1 hns oj (List.mem_of_getElem? hj2)
    simp [e] at this
  · obtain ⟨st', ⟨h, _⟩, _⟩ := hq
    cases h
  · have hj2 : ops[j]? = some oj := by simpa using hj
    have hjl := (List.getElem?_eq_some_iff.1 hj2).1
    have := List.all_eq_true.1 hfl j (by simpa using hjl)
    simp only [ho, hj2, Bool.or_eq_true, decide_eq_true_eq] at this
    rcases this with h2 | h2 | h2 | h2
    · exact absurd h2 hji
    · rw [hun] at h2; cases h2
    · exfalso
      obtain ⟨e, he, hb⟩ := List.any_eq_true.1 h2
      simp only [Bool.and_eq_true, beq_iff_eq] at hb
      exact hno e (by simpa using he) hb.2 hb.1
    · exact h2

def pureEv (sl : List (Nat × D)) (x : Operand) : D := match evD sl x with | .val v => .val v | _ => .any
def valC : D → Option Value
  | .val v => some v
  | .nil => some (.slice none 0 0)
  | _ => none
def valsC : List D → Option (List Value)
  | [] => some []
  | d :: ds => match valC d, valsC ds with
    | some v, some vs => some (v :: vs)
    | _, _ => none
def valOf : D → Option Value
  | .agg cs => (valsC cs).map fun vs => .agg vs.toArray
  | d => valC d
theorem valC_rep {L : LF} {w : World} {F : Nat → Prop} {d : D} {v u : Value} (h : valC d = some v) (hr : RepC L w F d u) : u = v := by
  cases d <;> simp only [valC, reduceCtorEq, Option.some.injEq] at h
  case val x => subst h; have hr : RepP w F (.val x) u := hr; cases hr; rfl
  case nil => subst h; have hr : RepP w F .nil u := hr; cases hr; rfl
theorem valsC_rep {L : LF} {w : World} {F : Nat → Prop} : ∀ {ds : List D} {vs us : List Value}, valsC ds = some vs → RepL L w F ds us → us = vs
  | [], vs, [], h, _ => by simp only [valsC, Option.some.injEq] at h; exact h
  | d :: ds, vs, u :: us, h, hr => by
    simp only [valsC] at h
    split at h
    · rename_i v vs' h1 h2
      cases h
      rw [valC_rep h1 hr.1, valsC_rep h2 hr.2]
    · cases h
  | [], _, _ :: _, _, hr => hr.elim
  | _ :: _, _, [], _, hr => hr.elim
theorem valOf_rep {L : LF} {w : World} {F : Nat → Prop} {d : D} {v u : Value} (h : valOf d = some v) (hr : Rep L w F d u) : u = v := by
  cases d
  case agg cs =>
    simp only [valOf, Option.map_eq_some_iff] at h
    obtain ⟨vs, h1, rfl⟩ := h
    obtain ⟨us, rfl, h2, _⟩ := hr
    rw [valsC_rep h1 h2]
  case tup => simp [valOf, valC] at h
  case fn => simp [valOf, valC] at h
  all_goals (simp only [valOf] at h; exact valC_rep (L := L) (w := w) (F := F) h hr)
def pureB : Op → Bool
  | .build _ _ | .binOp _ _ _ _ _ | .unOp _ _ _ | .convert _ _ _ => true
  | _ => false
section
variable {w0 : World} {S : List Nat} {G : Nat → Prop} {hv : Nat → Value} {hp : HP} {w : World}
theorem stepBin_run (hT : TOk P T) {op : BinOp} {t : TypeId} {ox oy : Operand} {x y : D} {pre : Prop} {r : Res} {u v : Value} (hx : Rep (LOf hv hp) w (FOf G hv hp w) x u) (hy : Rep (LOf hv hp) w (FOf G hv hp w) y v)
    (hs : stepBin T op t x y = some (pre, r)) (hpre : pre) : ∃ z, ((do eqGuard op t ox oy u v; binOp op t u v : Sem Value)).run P w = .ok z w ∧ Rep (LOf hv hp) w (FOf G hv hp w) r.d z := by
  unfold stepBin at hs
  split at hs
  · obtain rfl := rep_val hx
    obtain rfl := rep_val hy
    split at hs
    · cases op <;> simp only [binShift, qp, reduceCtorEq, Option.some.injEq, Prod.mk.injEq] at hs
      all_goals
        obtain ⟨rfl, rfl⟩ := hs
        refine ⟨_, ?_, (rep_mk _)⟩
        simp [eqGuard, binOp, Op.shift, Int.not_lt.2 hpre]
    · split at hs
      · rename_i hk
        subst hk
        cases op <;> simp only [binI, q, qp, reduceCtorEq, Option.some.injEq, Prod.mk.injEq] at hs <;> (try exact absurd rfl ‹¬ isShift _ = true›)
        all_goals
          obtain ⟨rfl, rfl⟩ := hs
          refine ⟨_, ?_, (rep_mk _)⟩
          first
            | (simp [eqGuard, binOp, Op.intArith, Op.intBits, Op.intCmp]; done)
            | (simp [eqGuard, binOp, Op.intDiv, hpre]; done)
      · cases hs
  · rename_i a b
    obtain rfl := rep_val hx
    obtain rfl := rep_val hy
    cases op <;> simp only [binS, q, qp, reduceCtorEq, Option.some.injEq, Prod.mk.injEq] at hs
    all_goals
      obtain ⟨rfl, rfl⟩ := hs
      refine ⟨_, ?_, (rep_mk _)⟩
    case add =>
      have h64 : IntKind.i64.max = 9223372036854775807 := by decide
      have hm : ¬ (((a.size + b.size : Nat) : Int) > IntKind.i64.max) := by rw [h64]; omega
      simp only [eqGuard, binOp, Op.stringOp, if_neg hm]
      rfl
    all_goals (simp [eqGuard, binOp, Op.stringOp]; done)
  · obtain rfl := rep_val hx
    obtain rfl := rep_val hy
    split at hs
    all_goals first | cases hs | skip
    all_goals
      rename_i hb
      simp only [Option.map_eq_some_iff] at hb
      obtain ⟨ti, hl, hsh⟩ := hb
      have hu := TI.under_bool (hT _ _ hl) hsh
      refine ⟨_, ?_, (rep_mk _)⟩
      simp [eqGuard, binOp, run_equal_bool w t _ _ hu]
  · cases hs

theorem stepUn_run {op : UnOp} {x : D} {pre : Prop} {r : Res} {u : Value} (hx : Rep (LOf hv hp) w (FOf G hv hp w) x u)
    (hs : stepUn op x = some (pre, r)) (hpre : pre) : ∃ z, (Op.unary op u).run P w = .ok z w ∧ Rep (LOf hv hp) w (FOf G hv hp w) r.d z := by
  unfold stepUn at hs
  split at hs
  · obtain rfl := rep_val hx
    cases hs
    exact ⟨_, by simp [Op.unary, Op.intArith], (rep_mk _)⟩
  · obtain rfl := rep_val hx
    cases hs
    exact ⟨_, by simp [Op.unary], (rep_mk _)⟩
  · cases hs

theorem stepConv_run (hT : TOk P T) {src dst : TypeId} {x : D} {pre : Prop} {r : Res} {u : Value} (hsrc : ∃ d, P.underlying src = some d) (hx : Rep (LOf hv hp) w (FOf G hv hp w) x u)
    (hs : stepConv T dst x = some (pre, r)) (hpre : pre) : ∃ z, (convert src dst u).run P w = .ok z w ∧ Rep (LOf hv hp) w (FOf G hv hp w) r.d z := by
  obtain ⟨ds, hds⟩ := hsrc
  unfold stepConv at hs
  split at hs
  · obtain rfl := rep_val hx
    rename_i hb
    simp only [Option.map_eq_some_iff] at hb
    obtain ⟨ti, hl, hsh⟩ := hb
    have hu := TI.under_int (hT _ _ hl) hsh
    cases hs
    exact ⟨_, by simp [convert, underlying, hds, hu, Conv.intToInt], (rep_mk _)⟩
  · obtain rfl := rep_val hx
    rename_i hb
    simp only [Option.map_eq_some_iff] at hb
    obtain ⟨ti, hl, hsh⟩ := hb
    have hu := TI.under_str (hT _ _ hl) hsh
    cases hs
    refine ⟨_, ?_, (rep_mk _)⟩
    cases ds <;> simp [convert, underlying, hds, hu]
  · cases hs

theorem stepBuild_run (hT : TOk P T) (hL0 : ∀ h v s, LOf hv hp h = some (v, s) → v.oneCell' = true) {t : TypeId} {parts : List (Nat × D)} {vparts : Array (Nat × Value)} {pre : Prop} {r : Res} (hp' : RepParts (LOf hv hp) w (FOf G hv hp w) parts vparts.toList)
    (hs : stepBuild T t parts = some (pre, r)) (hpre : pre) : ∃ z, (Instr.build t vparts).run P w = .ok z w ∧ Rep (LOf hv hp) w (FOf G hv hp w) r.d z := by
  unfold stepBuild at hs
  split at hs
  · cases hs
  rename_i ti hl
  have hz := TI.run_zero (hT _ _ hl) w
  split at hs
  · rename_i fs hsh
    obtain ⟨fields, hu, hm⟩ := TI.under_struct (hT _ _ hl) hsh
    split at hs
    · cases hs
    rename_i ps hps
    split at hs
    · rename_i out hout
      cases hs
      have hplaces : (fields.mapM (fun f => Prod.mk f.offset <$> sizeOf f.type : Field → Sem (Nat × Nat))).run P w = .ok ps.toArray w := by
        rw [Array.mapM_eq_mapM_toList]
        have := placesOf_ok (w := w) hT fields.toList ps (by rw [hm]; exact hps)
        simp [this]
      obtain ⟨vout, hf, hr, h1⟩ := fillD_ok hL0 hp' (zeroD_rep (w := w) ti) (fun u hu => List.all_eq_true.1 hpre u hu) hout
      refine ⟨.agg vout, by simp [Instr.build, hz, underlying, hu, hplaces, hf], (by have := mkAgg_rep hr h1; simpa using this)⟩
    · cases hs
  · rename_i n e hsh
    have hu := TI.under_arr (hT _ _ hl) hsh
    split at hs
    · cases hs
    rename_i es hsz
    have hrun := szOf_run hT hsz w
    split at hs
    · rename_i out hout
      cases hs
      obtain ⟨vout, hf, hr, h1⟩ := fillD_ok hL0 hp' (zeroD_rep (w := w) ti) (fun u hu => List.all_eq_true.1 hpre u hu) hout
      refine ⟨.agg vout, by simp [Instr.build, hz, underlying, hu, hrun, hf], (by have := mkAgg_rep hr h1; simpa using this)⟩
    · cases hs
  · cases hs

end
theorem pure_run (hT : TOk P T) {o : Oper} {sl : List (Nat × D)} {pre : Prop} {d : D} {v : Value} (hs : astep T o.op (pureEv sl) [] 0 = some (pre, { d := d })) (hval : valOf d = some v) (hpre : pre) (hk : pureB o.op = true) {a : Act} (hev : ∀ x u, evD sl x = .val u → a.eval x = u) (w : World) : (execOp a.eval o).run P w = .ok (.value v) w := by
  have hr : ∀ x, Rep (LOf (fun _ => undef) []) w (FOf (fun _ => True) (fun _ => undef) [] w) (pureEv sl x) (a.eval x) := fun x => by
    unfold pureEv
    split
    · rename_i u hu
      rw [hev x u hu]
      exact rep_mk _
    · exact (RepP.any _ : RepP _ _ .any _)
  unfold astep at hs
  split at hs <;> rename_i ho <;> (try (rw [ho] at hk; simp [pureB] at hk; done)) <;> (try (cases hs; done))
  · rename_i t parts
    obtain ⟨z, hz, hP⟩ := stepBuild_run (hv := fun _ => undef) (hp := []) (G := fun _ => True) (vparts := parts.map fun p => (p.1, a.eval p.2)) hT (fun h v s hl => by simp [LOf, lk] at hl) (by simpa using repParts_of hr parts.toList) hs hpre
    have hzv : z = v := valOf_rep hval hP
    subst hzv
    simp [execOp, ho, hz]
  · rename_i op t x y yt
    obtain ⟨z, hz, hP⟩ := stepBin_run (hv := fun _ => undef) (hp := []) (G := fun _ => True) (ox := x) (oy := y) hT (hr x) (hr y) hs hpre
    have hzv : z = v := valOf_rep hval hP
    subst hzv
    simp only [execOp, ho]
    rw [Sem.run_bind, hz]
    rfl
  · rename_i op t x
    obtain ⟨z, hz, hP⟩ := stepUn_run (hv := fun _ => undef) (hp := []) (G := fun _ => True) (P := P) (hr x) hs hpre
    have hzv : z = v := valOf_rep hval hP
    subst hzv
    simp [execOp, ho, hz]
  · rename_i src dst x
    split at hs
    · rename_i ti hsrc
      obtain ⟨z, hz, hP⟩ := stepConv_run (hv := fun _ => undef) (hp := []) (G := fun _ => True) (src := src) hT (by obtain ⟨d, hd, _⟩ := TI.under (hT _ _ hsrc) rfl; exact ⟨d, hd⟩) (hr x) hs hpre
      have hzv : z = v := valOf_rep hval hP
      subst hzv
      simp [execOp, ho, hz]
    · cases hs
theorem anyS_floatV {m N : Nat} (hT : TOk P T) (hP : C.P = P) (hCm : C.m = m) (hN : C.N = N) {ops : List Oper} {K : St → Prop} {fuel : Nat} {listed : Array Bool} {sl : List (Nat × D)} {hp : HP} {nx : Nat} (hd : dstsOk N ops = true) (i : Nat) {o : Oper} (ho : ops[i]? = some o) (hg : o.guard = none) {pre : Prop} {d : D} {v : Value}
    (hs : astep T o.op (pureEv sl) [] 0 = some (pre, { d := d })) (hval : valOf d = some v) (hpre : pre) (hk : pureB o.op = true)
    (hrd : (readyL ops listed).contains i = true) (hfl : floatU ops listed i = true) (hns : noSelB ops = true) (h : areg P T m ops [o] ⟨sl, hp, nx⟩ (fun st' => AnyS C ops K fuel (listed.setIfInBounds i true) st')) : AnyS C ops K (fuel + 1) listed ⟨sl, hp, nx⟩ :=
  anyS_floatP hT hP hCm hN hd i ho hg (fun a w ⟨hv, hH, hk2, hm, hpn, hS⟩ => ⟨v, fun w' => pure_run hT hs hval hpre hk (fun x u hx => by
    have h1 := evD_ok hS x
    rw [show evD (St.mk sl hp nx).sl x = .val u from hx] at h1
    exact rep_val h1) w'⟩) hrd hfl hns h
end Go.Proofs.YtpdkhlpmiblflaaGreat.Abs

/- Abs, part 37: texts: bytes turned to a text, the library's functions on texts by their contracts. -/
set_option linter.unusedVariables false
set_option linter.unusedSimpArgs false
namespace Go.Proofs.YtpdkhlpmiblflaaGreat.Abs
open Go Go.RowKit
variable {P : Program} {T : TT} {C : Ctx}

theorem repO_val {deep : Bool} {L : LF} {w : World} {F : Nat → Prop} {v u : Value} (h : RepO deep L w F (.val v) u) : u = v := by
  unfold RepO at h
  split at h
  · exact (show RepP w F (.val v) u from h) |> fun h => by cases h; rfl
  · cases h; rfl
theorem oprel_b2s (hT : TOk P T) {o : Oper} {src dst e : TypeId} {x : Operand} (ho : o.op = .convert src dst x) {ev : Operand → D} {hp : HP} {nx k : Nat} {ob : Ob} (ns : List Int)
    (hx : ev x = .own k) (hob : lk k hp = some ob) (hxs : ob.xs = ns.map fun n => [.val (.int .u8 n)]) (hn : ns ≠ []) (hsz : ob.sz = 1)
    (hsrc : (lk src T).map (fun ti : TI => ti.sh) = some (.slice e)) (he : (lk e T).map (fun ti : TI => ti.sh) = some (.int .u8)) (hdst : (lk dst T).map (fun ti : TI => ti.sh) = some .str) :
    OpRel P o ev hp nx { d := .val (.string (strOfNums ns)) } := by
  refine ⟨⟨fun p hp => by simp at hp, rfl⟩, fun w0 S G hv a w hI hk hev K Q hK => ?_⟩
  have e1 := hev x
  rw [hx] at e1
  obtain ⟨s1, hL1⟩ := e1
  rw [LOf_eq hob] at hL1
  simp only [Option.some.injEq, Prod.mk.injEq] at hL1
  obtain ⟨hv1, -⟩ := hL1
  obtain ⟨t1, hl1, hs1⟩ := Option.map_eq_some_iff.1 hsrc
  have hu1 := TI.under_slice (hT _ _ hl1) hs1
  obtain ⟨t2, hl2, hs2⟩ := Option.map_eq_some_iff.1 he
  have hu2 := TI.under_int (hT _ _ hl2) hs2
  obtain ⟨t3, hl3, hs3⟩ := Option.map_eq_some_iff.1 hdst
  have hu3 := TI.under_str (hT _ _ hl3) hs3
  obtain ⟨vs, hown, hg, hc⟩ := hI.obs k ob hob
  have hlen : ob.xs.length = ns.length := by rw [hxs, List.length_map]
  have hpos : 0 < ns.length := List.length_pos_iff.2 hn
  have hval : ∃ b cap, a.eval x = .slice (some ⟨b, 0, none⟩) ns.length cap ∧ ∀ i, i < ns.length → w.cell? ⟨b, 0 + i, none⟩ = some (.int .u8 (ns.getD i 0)) := by
    rw [← hv1]
    rcases hown.2 with ⟨_, h6⟩ | ⟨g, cap, cur, h5, _⟩
    · omega
    · refine ⟨g, cap, by rw [h5, hlen], fun i hi => ?_⟩
      have hrow : ob.xs[i]? = some [.val (.int .u8 (ns.getD i 0))] := by rw [hxs]; simp [List.getD, hi]
      obtain ⟨u, hu, _, hr⟩ := hc i 0 _ _ hrow rfl
      rw [h5] at hown
      rw [Nat.zero_add, hown.cellAt i (by rw [hsz, hlen]; omega)]
      rw [hsz, Nat.mul_one, Nat.add_zero] at hu
      rw [hu, repO_val hr]
  obtain ⟨b, cap, he1, hcell⟩ := hval
  have hrun : (execOp a.eval o).run P w = .ok (.value (.string (strOfNums ns))) w := by
    obtain ⟨dst', op, type, pos, after, guard⟩ := o
    simp only at ho
    subst ho
    have h1 := run_convert_bytes_arg w src e hu1 hu2 b 0 ns.length cap ns rfl hcell dst hu3
    simp only [execOp, Sem.run_bind, he1, h1]
    rfl
  unfold Oper.wp
  rw [hrun]
  exact hK _ hv w (post_same hI (rep_mk _))

end Go.Proofs.YtpdkhlpmiblflaaGreat.Abs

