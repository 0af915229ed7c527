import Derived.Test.YthdgihkffcmkiaaAbsB
import Derived.Lib.SliceRun
import Derived.Lib.Overlaps
import Derived.Laws.Externs
import Derived.Laws.BytesArg
import Derived.Lib.Join
/- Abs, part 22: rows of several kinds; steps that find their own proofs. -/
set_option linter.unusedVariables false
set_option linter.unusedSimpArgs false
namespace Go.Proofs.Ythdgihkffcmkiaa.Abs
open Go Go.RowKit
variable {P : Program} {T : TT} {C : Ctx}

/-! ### Rows -/
abbrev ints (k : IntKind) (xs : List Int) : List (List D) := xs.map fun n => [.val (.int k n)]
theorem ints_get (k : IntKind) (xs : List Int) (i : Nat) (h : i < xs.length) : (ints k xs)[i]? = some [.val (.int k (xs.getD i 0))] := map_get (fun n : Int => [D.val (.int k n)]) xs i h
abbrev boolD (xs : List Bool) : List (List D) := xs.map fun b => [.val (.bool b)]
theorem boolD_get (xs : List Bool) (i : Nat) (h : i < xs.length) : (boolD xs)[i]? = some [.val (.bool (xs.getD i false))] := map_get (fun b : Bool => [D.val (.bool b)]) xs i h
abbrev i64ss (xs : List (List Int)) : List (List D) := xs.map fun x => [.sl 1 (i64s x)]
theorem i64ss_get (xs : List (List Int)) (i : Nat) (h : i < xs.length) : (i64ss xs)[i]? = some [.sl 1 (i64s (xs.getD i []))] := map_get (fun x : List Int => [D.sl 1 (i64s x)]) xs i h

structure Bk where
  cls : Int
  m0 : Int
  m1 : Int
  m2 : Int
  vol : Int
  wide : Int
  high : Int
  weight : Int
def bk0 : Bk := ⟨0, 0, 0, 0, 0, 0, 0, 0⟩
instance : Inhabited Bk := ⟨bk0⟩
theorem Bk.same {a b : Bk} (h1 : a.cls = b.cls) (h2 : a.m0 = b.m0) (h3 : a.m1 = b.m1) (h4 : a.m2 = b.m2) (h5 : a.vol = b.vol) (h6 : a.wide = b.wide) (h7 : a.high = b.high) (h8 : a.weight = b.weight) : a = b := by
  cases a; cases b; simp_all
abbrev isI16 (n : Int) : Prop := -32768 ≤ n ∧ n ≤ 32767
abbrev isU8 (n : Int) : Prop := 0 ≤ n ∧ n ≤ 255
abbrev isBk (b : Bk) : Prop := isI16 b.cls ∧ isU8 b.m0 ∧ isU8 b.m1 ∧ isU8 b.m2 ∧ isI16 b.vol ∧ isI16 b.wide ∧ isI16 b.high ∧ isI16 b.weight
abbrev bkRow (b : Bk) : List D := [.val (.int .i16 b.cls), .val (.int .u8 b.m0), .val (.int .u8 b.m1), .val (.int .u8 b.m2), .val (.int .i16 b.vol), .val (.int .i16 b.wide), .val (.int .i16 b.high), .val (.int .i16 b.weight)]
abbrev bkD (b : Bk) : D := .val (.agg #[.int .i16 b.cls, .int .u8 b.m0, .int .u8 b.m1, .int .u8 b.m2, .int .i16 b.vol, .int .i16 b.wide, .int .i16 b.high, .int .i16 b.weight])
abbrev bks (xs : List Bk) : List (List D) := xs.map bkRow
theorem bks_get (xs : List Bk) (i : Nat) (h : i < xs.length) : (bks xs)[i]? = some (bkRow (xs.getD i bk0)) := map_get bkRow xs i h
abbrev Pl := Int × Bk
def pl0 : Pl := (0, bk0)
abbrev plRow (p : Pl) : List D := [.val (.int .i16 p.1), .val (.int .i16 p.2.cls), .val (.int .u8 p.2.m0), .val (.int .u8 p.2.m1), .val (.int .u8 p.2.m2), .val (.int .i16 p.2.vol), .val (.int .i16 p.2.wide), .val (.int .i16 p.2.high), .val (.int .i16 p.2.weight)]
abbrev pls (xs : List Pl) : List (List D) := xs.map plRow
theorem pls_get (xs : List Pl) (i : Nat) (h : i < xs.length) : (pls xs)[i]? = some (plRow (xs.getD i pl0)) := map_get plRow xs i h
theorem getD_mem' {α : Type} {xs : List α} {i : Nat} {d : α} (h : i < xs.length) : xs.getD i d ∈ xs := by
  rw [show xs.getD i d = xs[i] by simp [List.getD, h]]; exact List.getElem_mem h
theorem list_ext' {α : Type} {d : α} {xs ys : List α} (hl : xs.length = ys.length) (h : ∀ j, j < xs.length → xs.getD j d = ys.getD j d) : xs = ys := by
  apply List.ext_getElem hl
  intro i h1 h2
  have := h i h1
  simpa [List.getD, h1, h2] using this
theorem map_set {α : Type} (f : α → List D) (xs : List α) (i : Nat) (v : α) : (xs.map f).set i (f v) = (xs.set i v).map f := by simp
theorem bks_set (xs : List Bk) (i : Nat) (v : Bk) : bks (xs.set i v) = (bks xs).set i (bkRow v) := by simp
theorem set_get {α : Type} {xs : List α} {i : Nat} {x : α} (h : i < xs.length) : (xs.set i x)[i]? = some x := by simp [h]
/-! ### Function values -/
def Does (P : Program) {α : Type} (enc : α → List D) (dom : α → Prop) (r : α → D) (fn : D) : Prop :=
  ∃ (f : FuncId) (first caps : List D) (s : Spec α), fnParts fn = some (.func f, first, caps) ∧ first.all selfC = true ∧ caps.all selfC = true ∧ FnOk P f s ∧ (∀ x, s.args x = first ++ enc x ++ caps) ∧ (∀ x, dom x → s.pre x) ∧ (∀ x, s.obs x = []) ∧ (∀ x, s.out x = []) ∧ (∀ x, s.new x = []) ∧ ∀ x, s.res x = r x
theorem OpRel.does {α : Type} {enc : α → List D} {dom : α → Prop} {r : α → D} {fn : D} (h : Does P enc dom r fn) (x : α) (hx : dom x) {o : Oper} {cf : Operand} {args : Array Operand} {tys : Array TypeId} (ho : o.op = .call ⟨.value cf, args, tys⟩) {ev : Operand → D} {hp : HP} {nx : Nat} (hcf : ev cf = fn) (hy : args.toList.map ev = enc x) (hself : (enc x).all selfC = true) {d : D} (hren : ren [] (r x) = some d) (hflat : flatD (r x) = true) :
    OpRel P o ev hp nx { d := d } := by
  obtain ⟨f, first, caps, s, h1, h2, h3, h4, h5, h6, h7, h8, h9, h10⟩ := h
  have hargs : Args hp [] (s.args x) (first ++ args.toList.map ev ++ caps) := by
    rw [h5]
    exact args_append (args_append (args_self h2) (by rw [hy]; exact args_self hself)) (args_self h3)
  have := OpRel.call (hp := hp) (nx := nx) (d := d) h4 x [] (by simp) ho (by rw [hcf]; exact h1) (h6 x hx) hargs (by rw [h7]; trivial) (by rw [h10, h9]; exact hren) ⟨by rw [h10]; exact hflat, by rw [h8, h9]; intro o ho; simp at ho⟩
  rw [h8, h9] at this
  simpa [numbered, updOf] using this
theorem arga_does {α : Type} {enc : α → List D} {dom : α → Prop} {r : α → D} {fn : D} {hp : HP} {ks : List Nat} (h : Does P enc dom r fn) : ArgA hp ks fn fn := by
  obtain ⟨f, first, caps, s, h1, h2, h3, _⟩ := h
  unfold fnParts at h1
  split at h1
  · cases h1
    exact ⟨rfl, argL_self h2, argL_self h3⟩
  · cases h1; simp [ArgA, ArgC]
  · simp [ArgA, ArgC]
  · cases h1
theorem arga_fnval {hp : HP} {ks : List Nat} {f : Fn} : ArgA hp ks (.val (.func f #[] #[])) (.fn f [] []) := ⟨rfl, rfl, rfl⟩
theorem arga_clo {hp : HP} {ks : List Nat} {f : Fn} {cs cs' : List D} (h : ArgL hp ks cs cs') (hr : cs.all rptrD = true) : ArgA hp ks (.clo f cs) (.fn f [] cs') := ⟨rfl, rfl, hr, h⟩
theorem arga_slcvw {hp : HP} {ks : List Nat} {h i off n : Nat} {ob : Ob} {x : List D} {xs : List (List D)} (hn : h ∉ ks) (hl : lk h hp = some ob) (hx : ob.xs[i]? = some x) (ha : x.all hf = true) (e : ((x.drop off).take n).map (fun d => [d]) = xs) : ArgA hp ks (.sl 1 xs) (.cvw h i off 1 n) := ⟨hn, rfl, rfl, ob, x, hl, hx, ha, e⟩
def fnCell : D → Bool
  | .val (.func _ _ _) | .clo _ _ => true
  | _ => false
theorem fnCell_ok {d : D} (h : fnCell d = true) : dcells d = [d] ∧ cellsOk d = true ∧ hf d = true ∧ selfC d = true := by
  unfold fnCell at h
  split at h
  · exact ⟨rfl, rfl, rfl, rfl⟩
  · exact ⟨rfl, rfl, rfl, rfl⟩
  · cases h

theorem fm_nil {α : Type} {q : α → Prop} : ∀ p ∈ ([] : List α), q p := fun p h => by simp at h
theorem fm_cons {α : Type} {q : α → Prop} {a : α} {l : List α} (h : q a) (k : ∀ p ∈ l, q p) : ∀ p ∈ a :: l, q p := fun p hp => by
  rcases List.mem_cons.1 hp with rfl | hp
  · exact h
  · exact k p hp
theorem flatO_map {α : Type} (f : α → List D) (h : ∀ a, ∀ d ∈ f a, (match d with | .any | .val _ | .nil => true | _ => false) = true) (ty : TypeId) (sz : Nat) (dp : Bool) (xs : List α) : flatO ⟨ty, sz, dp, xs.map f⟩ := fun x hx d hd => by
  obtain ⟨a, _, rfl⟩ := List.mem_map.1 hx
  exact h a d hd
theorem flat_i64s (ty : TypeId) (sz : Nat) (dp : Bool) (xs : List Int) : flatO ⟨ty, sz, dp, i64s xs⟩ := flatO_map _ (fun a d hd => by simp at hd; subst hd; rfl) _ _ _ _
theorem flat_ints (k : IntKind) (ty : TypeId) (sz : Nat) (dp : Bool) (xs : List Int) : flatO ⟨ty, sz, dp, ints k xs⟩ := flatO_map _ (fun a d hd => by simp at hd; subst hd; rfl) _ _ _ _
theorem flat_boolD (ty : TypeId) (sz : Nat) (dp : Bool) (xs : List Bool) : flatO ⟨ty, sz, dp, boolD xs⟩ := flatO_map _ (fun a d hd => by simp at hd; subst hd; rfl) _ _ _ _
theorem flat_bks (ty : TypeId) (sz : Nat) (dp : Bool) (xs : List Bk) : flatO ⟨ty, sz, dp, bks xs⟩ := flatO_map bkRow (fun a d hd => by simp [bkRow] at hd; rcases hd with rfl | rfl | rfl | rfl | rfl | rfl | rfl | rfl <;> rfl) _ _ _ _
theorem flat_pls (ty : TypeId) (sz : Nat) (dp : Bool) (xs : List Pl) : flatO ⟨ty, sz, dp, pls xs⟩ := flatO_map plRow (fun a d hd => by simp [plRow] at hd; rcases hd with rfl | rfl | rfl | rfl | rfl | rfl | rfl | rfl | rfl <;> rfl) _ _ _ _
/-! ### Steps that find their own proofs -/
section steps
variable {m : Nat} {ops l : List Oper} {st st' : St} {K : St → Prop} {Q : Exit → St → Prop} {dst : Option Tmp} {op : Op} {ty : TypeId} {pos : String} {af : Array Edge}
theorem g1 {pre : Prop} {r : Res} (hK : areg P T m ops l st' K) (hs : astep T op (evD st.sl) st.hp st.nx = some (pre, r) := by first | rfl | exact astep_load_r (by rfl) (by rfl) (by first | assumption | exact i64s_get _ _ (by omega) | exact bks_get _ _ (by omega) | exact pls_get _ _ (by omega) | exact ints_get _ _ _ (by omega) | exact boolD_get _ _ (by omega) | exact i64ss_get _ _ (by omega) | exact set_get (by first | omega | (simp only [List.length_map, List.length_set]; omega))) (by rfl) | exact astep_load_p (by rfl) (by rfl) (by rfl) (by first | assumption | exact i64s_get _ _ (by omega) | exact bks_get _ _ (by omega) | exact pls_get _ _ (by omega) | exact ints_get _ _ _ (by omega) | exact boolD_get _ _ (by omega) | exact i64ss_get _ _ (by omega) | exact set_get (by first | omega | (simp only [List.length_map, List.length_set]; omega))) (by rfl) | exact astep_store_p (by rfl) (by rfl) (by rfl) (by rfl) (by first | assumption | exact i64s_get _ _ (by omega) | exact bks_get _ _ (by omega) | exact pls_get _ _ (by omega) | exact ints_get _ _ _ (by omega) | exact boolD_get _ _ (by omega) | exact i64ss_get _ _ (by omega) | exact set_get (by first | omega | (simp only [List.length_map, List.length_set]; omega)))) (hd : deadOk m r = true := by rfl) (hpre : pre := by first | trivial | rfl | exact ⟨rfl, rfl⟩ | exact ⟨rfl, rfl, fun _ => rfl, Nat.le_of_ble_eq_true rfl, .inl rfl⟩ | exact ⟨rfl, rfl, fun h => (nomatch h), Nat.le_of_ble_eq_true rfl, .inl rfl⟩ | exact ⟨rfl, rfl, fun _ => rfl, Nat.le_of_ble_eq_true rfl, .inr rfl⟩ | exact ⟨rfl, rfl, fun h => (nomatch h), Nat.le_of_ble_eq_true rfl, .inr rfl⟩ | omega | exact ⟨rfl, by (repeat (first | exact fm_nil | refine fm_cons ⟨rfl, rfl⟩ ?_)), Nat.le_of_ble_eq_true rfl, Nat.le_of_ble_eq_true rfl⟩ | (refine ⟨?_, ?_, ?_, ?_, ?_, ?_, ?_⟩ <;> first | omega | exact Nat.le_of_ble_eq_true rfl) | exact ⟨rfl, by omega, by (try simp only [List.length_map, List.length_set]); omega⟩ | exact ⟨rfl, by omega, by simp only [Int.toNat_natCast]; omega, by omega, Nat.le_of_ble_eq_true rfl, rfl⟩)
    (hst : st.app dst r = st' := by simp +decide (disch := omega) only [nrm, lk_nrm, dc_nrm, mk_nrm, mf_nrm, ti_nrm, ls_nrm, mp_nrm, nb_nrm, hset, pick_and, pick_or, ↓reduceIte, Nat.reduceAdd, wI64, wI32, wI16, wI8, wU8, List.length_map, Int.toNat_natCast]; rfl) : areg P T m ops ({ dst := dst, op := op, type := ty, pos := pos, after := af, guard := none } :: l) st K := areg_go hs hd hpre hst hK
theorem gc1 {r : Res} (hK : areg P T m ops l st' K) (hr : OpRel P { dst := dst, op := op, type := ty, pos := pos, after := af, guard := none } (evD st.sl) st.hp st.nx r) (hs : astep T op (evD st.sl) st.hp st.nx = none := by rfl)
    (hst : st.app dst r = st' := by simp +decide (disch := omega) only [nrm, lk_nrm, dc_nrm, mk_nrm, mf_nrm, ti_nrm, ls_nrm, mp_nrm, nb_nrm, hset, pick_and, pick_or, ↓reduceIte, Nat.reduceAdd, wI64, wI32, wI16, wI8, wU8, List.length_map, Int.toNat_natCast]; rfl) : areg P T m ops ({ dst := dst, op := op, type := ty, pos := pos, after := af, guard := none } :: l) st K := areg_call hs hr hst hK
theorem gg1 {j : Nat} {want b : Bool} {d : D} (hK : areg P T m ops l st' K) (hg : guardD ops j st.sl = some b := by rfl) (hs : b = want → ∃ pre, astep T op (evD st.sl) st.hp st.nx = some (pre, { d := d }) ∧ pre := by intro hb; simp +decide only [hb, gd_tt, gd_ff, beq_self_eq_true, Bool.true_and, beq_true]; exact ⟨_, by first | rfl | exact astep_load_r (by rfl) (by rfl) (by first | assumption | exact i64s_get _ _ (by omega) | exact bks_get _ _ (by omega) | exact pls_get _ _ (by omega) | exact ints_get _ _ _ (by omega) | exact boolD_get _ _ (by omega) | exact i64ss_get _ _ (by omega) | exact set_get (by first | omega | (simp only [List.length_map, List.length_set]; omega))) (by rfl) | exact astep_load_p (by rfl) (by rfl) (by rfl) (by first | assumption | exact i64s_get _ _ (by omega) | exact bks_get _ _ (by omega) | exact pls_get _ _ (by omega) | exact ints_get _ _ _ (by omega) | exact boolD_get _ _ (by omega) | exact i64ss_get _ _ (by omega) | exact set_get (by first | omega | (simp only [List.length_map, List.length_set]; omega))) (by rfl) | exact astep_store_p (by rfl) (by rfl) (by rfl) (by rfl) (by first | assumption | exact i64s_get _ _ (by omega) | exact bks_get _ _ (by omega) | exact pls_get _ _ (by omega) | exact ints_get _ _ _ (by omega) | exact boolD_get _ _ (by omega) | exact i64ss_get _ _ (by omega) | exact set_get (by first | omega | (simp only [List.length_map, List.length_set]; omega))), by first | trivial | rfl | exact ⟨rfl, rfl⟩ | exact ⟨rfl, rfl, fun _ => rfl, Nat.le_of_ble_eq_true rfl, .inl rfl⟩ | exact ⟨rfl, rfl, fun h => (nomatch h), Nat.le_of_ble_eq_true rfl, .inl rfl⟩ | exact ⟨rfl, rfl, fun _ => rfl, Nat.le_of_ble_eq_true rfl, .inr rfl⟩ | exact ⟨rfl, rfl, fun h => (nomatch h), Nat.le_of_ble_eq_true rfl, .inr rfl⟩ | omega | exact ⟨rfl, by (repeat (first | exact fm_nil | refine fm_cons ⟨rfl, rfl⟩ ?_)), Nat.le_of_ble_eq_true rfl, Nat.le_of_ble_eq_true rfl⟩ | (refine ⟨?_, ?_, ?_, ?_, ?_, ?_, ?_⟩ <;> first | omega | exact Nat.le_of_ble_eq_true rfl) | exact ⟨rfl, by omega, by (try simp only [List.length_map, List.length_set]); omega⟩ | exact ⟨rfl, by omega, by simp only [Int.toNat_natCast]; omega, by omega, Nat.le_of_ble_eq_true rfl, rfl⟩⟩)
    (hst : St.mk (putSl dst (gd b want d) st.sl) st.hp st.nx = st' := by simp +decide (disch := omega) only [nrm, lk_nrm, dc_nrm, mk_nrm, mf_nrm, ti_nrm, ls_nrm, mp_nrm, nb_nrm, hset, pick_and, pick_or, ↓reduceIte, Nat.reduceAdd, wI64, wI32, wI16, wI8, wU8, List.length_map, Int.toNat_natCast]; rfl) : areg P T m ops ({ dst := dst, op := op, type := ty, pos := pos, after := af, guard := some (j, want) } :: l) st K := areg_gd hg hs hst hK
theorem ggc1 {j : Nat} {want b : Bool} {d : D} (hK : areg P T m ops l st' K) (hg : guardD ops j st.sl = some b := by rfl)
    (hs : b = want → astep T op (evD st.sl) st.hp st.nx = none ∧ ∃ r, OpRel P { dst := dst, op := op, type := ty, pos := pos, after := af, guard := some (j, want) } (evD st.sl) st.hp st.nx r ∧ r.d = d ∧ r.new = [] ∧ r.upd = []) (hst : St.mk (putSl dst (gd b want d) st.sl) st.hp st.nx = st' := by simp +decide (disch := omega) only [nrm, lk_nrm, dc_nrm, mk_nrm, mf_nrm, ti_nrm, ls_nrm, mp_nrm, nb_nrm, hset, pick_and, pick_or, ↓reduceIte, Nat.reduceAdd, wI64, wI32, wI16, wI8, wU8, List.length_map, Int.toNat_natCast]; rfl) : areg P T m ops ({ dst := dst, op := op, type := ty, pos := pos, after := af, guard := some (j, want) } :: l) st K := areg_gd_call hg hs hst hK
theorem call1 {X : Type} {s : Spec X} {f : FuncId} (hF : FnOk P f s) (x : X) (ks : List Nat) {o : Oper} {cf : Operand} {args : Array Operand} {tys : Array TypeId} {ev : Operand → D} {hp : HP} {nx : Nat}
    {first caps : List D} {d : D} {no : List Ob} (hkn : ks.Nodup := by decide) (ho : o.op = .call ⟨.value cf, args, tys⟩ := by rfl) (hcf : fnParts (ev cf) = some (.func f, first, caps) := by rfl)
    (hargs : Args hp ks (s.args x) (first ++ args.toList.map ev ++ caps) := by
    (try dsimp only)
    repeat (refine args_cons (by first | exact arga_val | exact arga_slsl | exact arga_fnval | exact arga_nil | exact arga_slown (by simp) rfl rfl rfl rfl | exact arga_own rfl | exact arga_slnil | exact arga_slcvw (by simp) rfl rfl (by simp [hf]) rfl | exact argc_rptr (by simp) rfl rfl rfl (.inr (by first | (simp [hf]; done) | simp only [List.mem_singleton, forall_eq, List.all_cons, List.all_nil, Bool.and_true, *])) | exact argA_self rfl | exact arga_clo (argl_cons (by first | exact argc_rptr (by simp) rfl rfl rfl (.inr (by first | (simp [hf]; done) | simp only [List.mem_singleton, forall_eq, List.all_cons, List.all_nil, Bool.and_true, *])) | exact argC_self rfl) (argl_nil)) (by rfl) | exact arga_clo (argl_cons (by first | exact argc_rptr (by simp) rfl rfl rfl (.inr (by first | (simp [hf]; done) | simp only [List.mem_singleton, forall_eq, List.all_cons, List.all_nil, Bool.and_true, *])) | exact argC_self rfl) (argl_cons (by first | exact argc_rptr (by simp) rfl rfl rfl (.inr (by first | (simp [hf]; done) | simp only [List.mem_singleton, forall_eq, List.all_cons, List.all_nil, Bool.and_true, *])) | exact argC_self rfl) (argl_nil))) (by rfl) | exact arga_clo (argl_cons (by first | exact argc_rptr (by simp) rfl rfl rfl (.inr (by first | (simp [hf]; done) | simp only [List.mem_singleton, forall_eq, List.all_cons, List.all_nil, Bool.and_true, *])) | exact argC_self rfl) (argl_cons (by first | exact argc_rptr (by simp) rfl rfl rfl (.inr (by first | (simp [hf]; done) | simp only [List.mem_singleton, forall_eq, List.all_cons, List.all_nil, Bool.and_true, *])) | exact argC_self rfl) (argl_cons (by first | exact argc_rptr (by simp) rfl rfl rfl (.inr (by first | (simp [hf]; done) | simp only [List.mem_singleton, forall_eq, List.all_cons, List.all_nil, Bool.and_true, *])) | exact argC_self rfl) (argl_nil)))) (by rfl) | exact arga_agg (by (repeat (refine argl_cons (by first | exact argc_val | exact argc_slsl | exact argc_nil | exact argc_slown (by simp) rfl rfl rfl rfl | exact argc_own rfl | exact argc_slnil) ?_)); exact argl_nil)) ?_)
    exact args_nil) (hpre : s.pre x := by first | trivial | assumption | omega | exact ⟨by first | trivial | assumption | omega, by first | trivial | assumption | omega⟩ | exact ⟨by first | trivial | assumption | omega, by first | trivial | assumption | omega, by first | trivial | assumption | omega⟩) (hobs : Objs hp ks (s.obs x) := by first | trivial | exact objs_cons rfl rfl rfl rfl rfl (.inl rfl) objs_nil)
    (hno : s.new x = no := by rfl) (hren : ren (ks ++ List.range' nx no.length) (s.res x) = some d := by rfl) (hflat : flatD (s.res x) = true := by rfl) (hfo : ∀ o ∈ s.out x ++ s.new x, flatO o := by first | ((repeat (first | exact fm_nil | refine fm_cons (by first | exact flat_i64s _ _ _ _ | exact flat_bks _ _ _ _ | exact flat_pls _ _ _ _ | exact flat_ints _ _ _ _ _ | exact flat_boolD _ _ _ _ | (simp [hf, flatO]; done)) ?_)); done) | (intro o h; first | cases h; done | (simp at h; (try subst h); simp [hf, flatO]; done) | (simp at h; rcases h with rfl | rfl <;> simp [hf, flatO]; done) | (simp at h; rcases h with rfl | rfl | rfl <;> simp [hf, flatO]))) :
    OpRel P o ev hp nx { d, new := numbered nx (s.new x), upd := updOf hp ks (s.out x) } := OpRel.call' hF x ks hkn ho hcf hargs hpre hobs hno hren hflat hfo
theorem r1 {N : Nat} {id : Nat} {ops : Array Oper} (hT : TOk P T) (hP : C.P = P) (hCm : C.m = m) (hN : C.N = N) {l : List Oper} (h : areg P T m l l st (Q .normal)) (he : ops = l.toArray := by rfl) (hd : dstsOk N l = true := by rfl) : awp C (.region id ops false) Q st := awp_reg hT hP hCm hN l he hd h
end steps
section draws
variable {ops : List Oper} {base sl : List (Nat × D)} {rd eh hp : HP} {pins : List Nat} {i nx : Nat} {l : List Oper} {done : List D} {K : St → Prop} {dst : Option Tmp} {op : Op} {ty : TypeId} {pos : String} {af : Array Edge}
theorem d1 (hT : TOk P T) {pre : Prop} {d : D} {done' : List D} {sl' : List (Nat × D)} (h : DReg P ops base rd eh pins (i + 1) l done' hp nx sl' K) (hpin : pins.contains i = false := by rfl) (hf : freeOp op = true := by rfl)
    (hs : astep T op (evD (maskSl { dst := dst, op := op, type := ty, pos := pos, after := af, guard := none } ops done 0 base)) rd 0 = some (pre, { d := d }) := by first | rfl | exact astep_load_r (by rfl) (by rfl) (by first | assumption | exact i64s_get _ _ (by omega) | exact bks_get _ _ (by omega) | exact pls_get _ _ (by omega) | exact ints_get _ _ _ (by omega) | exact boolD_get _ _ (by omega) | exact i64ss_get _ _ (by omega) | exact set_get (by first | omega | (simp only [List.length_map, List.length_set]; omega))) (by rfl) | exact astep_load_p (by rfl) (by rfl) (by rfl) (by first | assumption | exact i64s_get _ _ (by omega) | exact bks_get _ _ (by omega) | exact pls_get _ _ (by omega) | exact ints_get _ _ _ (by omega) | exact boolD_get _ _ (by omega) | exact i64ss_get _ _ (by omega) | exact set_get (by first | omega | (simp only [List.length_map, List.length_set]; omega))) (by rfl) | exact astep_store_p (by rfl) (by rfl) (by rfl) (by rfl) (by first | assumption | exact i64s_get _ _ (by omega) | exact bks_get _ _ (by omega) | exact pls_get _ _ (by omega) | exact ints_get _ _ _ (by omega) | exact boolD_get _ _ (by omega) | exact i64ss_get _ _ (by omega) | exact set_get (by first | omega | (simp only [List.length_map, List.length_set]; omega)))) (hpre : pre := by first | trivial | rfl | exact ⟨rfl, rfl⟩ | exact ⟨rfl, rfl, fun _ => rfl, Nat.le_of_ble_eq_true rfl, .inl rfl⟩ | exact ⟨rfl, rfl, fun h => (nomatch h), Nat.le_of_ble_eq_true rfl, .inl rfl⟩ | exact ⟨rfl, rfl, fun _ => rfl, Nat.le_of_ble_eq_true rfl, .inr rfl⟩ | exact ⟨rfl, rfl, fun h => (nomatch h), Nat.le_of_ble_eq_true rfl, .inr rfl⟩ | omega | exact ⟨rfl, by (repeat (first | exact fm_nil | refine fm_cons ⟨rfl, rfl⟩ ?_)), Nat.le_of_ble_eq_true rfl, Nat.le_of_ble_eq_true rfl⟩ | (refine ⟨?_, ?_, ?_, ?_, ?_, ?_, ?_⟩ <;> first | omega | exact Nat.le_of_ble_eq_true rfl) | exact ⟨rfl, by omega, by (try simp only [List.length_map, List.length_set]); omega⟩ | exact ⟨rfl, by omega, by simp only [Int.toNat_natCast]; omega, by omega, Nat.le_of_ble_eq_true rfl, rfl⟩) (hdn : done ++ [d] = done' := by simp +decide (disch := omega) only [nrm, lk_nrm, dc_nrm, mk_nrm, mf_nrm, ti_nrm, ls_nrm, mp_nrm, nb_nrm, hset, pick_and, pick_or, ↓reduceIte, Nat.reduceAdd, wI64, wI32, wI16, wI8, wU8, List.length_map, Int.toNat_natCast, mask_nrm]; rfl) (hsl : putSl dst d sl = sl' := by simp +decide (disch := omega) only [nrm, lk_nrm, dc_nrm, mk_nrm, mf_nrm, ti_nrm, ls_nrm, mp_nrm, nb_nrm, hset, pick_and, pick_or, ↓reduceIte, Nat.reduceAdd, wI64, wI32, wI16, wI8, wU8, List.length_map, Int.toNat_natCast, mask_nrm]; rfl) : DReg P ops base rd eh pins i ({ dst := dst, op := op, type := ty, pos := pos, after := af, guard := none } :: l) done hp nx sl K := dreg_free hT hpin hf hs hpre hdn hsl h
theorem dx1 (hT : TOk P T) {pre : Prop} {d : D} {done' : List D} {sl' : List (Nat × D)} (h : DReg P ops base rd eh pins (i + 1) l done' hp nx sl' K) (hear : earB ops pins i = true := by rfl) (hpin : pins.contains i = false := by rfl) (hf : freeOp op = true := by rfl)
    (hs : astep T op (evD (maskSl { dst := dst, op := op, type := ty, pos := pos, after := af, guard := none } ops done 0 base)) eh 0 = some (pre, { d := d }) := by first | rfl | exact astep_load_r (by rfl) (by rfl) (by first | assumption | exact i64s_get _ _ (by omega) | exact bks_get _ _ (by omega) | exact pls_get _ _ (by omega) | exact ints_get _ _ _ (by omega) | exact boolD_get _ _ (by omega) | exact i64ss_get _ _ (by omega) | exact set_get (by first | omega | (simp only [List.length_map, List.length_set]; omega))) (by rfl) | exact astep_load_p (by rfl) (by rfl) (by rfl) (by first | assumption | exact i64s_get _ _ (by omega) | exact bks_get _ _ (by omega) | exact pls_get _ _ (by omega) | exact ints_get _ _ _ (by omega) | exact boolD_get _ _ (by omega) | exact i64ss_get _ _ (by omega) | exact set_get (by first | omega | (simp only [List.length_map, List.length_set]; omega))) (by rfl) | exact astep_store_p (by rfl) (by rfl) (by rfl) (by rfl) (by first | assumption | exact i64s_get _ _ (by omega) | exact bks_get _ _ (by omega) | exact pls_get _ _ (by omega) | exact ints_get _ _ _ (by omega) | exact boolD_get _ _ (by omega) | exact i64ss_get _ _ (by omega) | exact set_get (by first | omega | (simp only [List.length_map, List.length_set]; omega)))) (hpre : pre := by first | trivial | rfl | exact ⟨rfl, rfl⟩ | exact ⟨rfl, rfl, fun _ => rfl, Nat.le_of_ble_eq_true rfl, .inl rfl⟩ | exact ⟨rfl, rfl, fun h => (nomatch h), Nat.le_of_ble_eq_true rfl, .inl rfl⟩ | exact ⟨rfl, rfl, fun _ => rfl, Nat.le_of_ble_eq_true rfl, .inr rfl⟩ | exact ⟨rfl, rfl, fun h => (nomatch h), Nat.le_of_ble_eq_true rfl, .inr rfl⟩ | omega | exact ⟨rfl, by (repeat (first | exact fm_nil | refine fm_cons ⟨rfl, rfl⟩ ?_)), Nat.le_of_ble_eq_true rfl, Nat.le_of_ble_eq_true rfl⟩ | (refine ⟨?_, ?_, ?_, ?_, ?_, ?_, ?_⟩ <;> first | omega | exact Nat.le_of_ble_eq_true rfl) | exact ⟨rfl, by omega, by (try simp only [List.length_map, List.length_set]); omega⟩ | exact ⟨rfl, by omega, by simp only [Int.toNat_natCast]; omega, by omega, Nat.le_of_ble_eq_true rfl, rfl⟩) (hdn : done ++ [d] = done' := by simp +decide (disch := omega) only [nrm, lk_nrm, dc_nrm, mk_nrm, mf_nrm, ti_nrm, ls_nrm, mp_nrm, nb_nrm, hset, pick_and, pick_or, ↓reduceIte, Nat.reduceAdd, wI64, wI32, wI16, wI8, wU8, List.length_map, Int.toNat_natCast, mask_nrm]; rfl) (hsl : putSl dst d sl = sl' := by simp +decide (disch := omega) only [nrm, lk_nrm, dc_nrm, mk_nrm, mf_nrm, ti_nrm, ls_nrm, mp_nrm, nb_nrm, hset, pick_and, pick_or, ↓reduceIte, Nat.reduceAdd, wI64, wI32, wI16, wI8, wU8, List.length_map, Int.toNat_natCast, mask_nrm]; rfl) : DReg P ops base rd eh pins i ({ dst := dst, op := op, type := ty, pos := pos, after := af, guard := none } :: l) done hp nx sl K := by
  subst hdn; subst hsl
  exact dreg_cons (it := ⟨_, false, true, { d := d }, true⟩) ⟨hpin.symm, fun _ => hear⟩ ⟨rfl, fun _ h => by simp at h, fun _ _ => ⟨rfl, freeOk_of_astep hT hf hs hpre⟩, fun h => by simp at h⟩ h
theorem dg1 (hT : TOk P T) {g : Nat} {want b : Bool} {d : D} {done' : List D} {sl' : List (Nat × D)} (h : DReg P ops base rd eh pins (i + 1) l done' hp nx sl' K) (hpin : pins.contains i = false := by rfl) (hf : freeOp op = true := by rfl)
    (hdep : depOn { dst := dst, op := op, type := ty, pos := pos, after := af, guard := some (g, want) } g = true := by rfl) (hg : guardD ops g (maskSl { dst := dst, op := op, type := ty, pos := pos, after := af, guard := some (g, want) } ops done 0 base) = some b := by rfl)
    (hs : b = want → ∃ pre, astep T op (evD (maskSl { dst := dst, op := op, type := ty, pos := pos, after := af, guard := some (g, want) } ops done 0 base)) rd 0 = some (pre, { d := d }) ∧ pre := by intro hb; simp +decide only [hb, gd_tt, gd_ff, beq_self_eq_true, Bool.true_and, beq_true]; exact ⟨_, by first | rfl | exact astep_load_r (by rfl) (by rfl) (by first | assumption | exact i64s_get _ _ (by omega) | exact bks_get _ _ (by omega) | exact pls_get _ _ (by omega) | exact ints_get _ _ _ (by omega) | exact boolD_get _ _ (by omega) | exact i64ss_get _ _ (by omega) | exact set_get (by first | omega | (simp only [List.length_map, List.length_set]; omega))) (by rfl) | exact astep_load_p (by rfl) (by rfl) (by rfl) (by first | assumption | exact i64s_get _ _ (by omega) | exact bks_get _ _ (by omega) | exact pls_get _ _ (by omega) | exact ints_get _ _ _ (by omega) | exact boolD_get _ _ (by omega) | exact i64ss_get _ _ (by omega) | exact set_get (by first | omega | (simp only [List.length_map, List.length_set]; omega))) (by rfl) | exact astep_store_p (by rfl) (by rfl) (by rfl) (by rfl) (by first | assumption | exact i64s_get _ _ (by omega) | exact bks_get _ _ (by omega) | exact pls_get _ _ (by omega) | exact ints_get _ _ _ (by omega) | exact boolD_get _ _ (by omega) | exact i64ss_get _ _ (by omega) | exact set_get (by first | omega | (simp only [List.length_map, List.length_set]; omega))), by first | trivial | rfl | exact ⟨rfl, rfl⟩ | exact ⟨rfl, rfl, fun _ => rfl, Nat.le_of_ble_eq_true rfl, .inl rfl⟩ | exact ⟨rfl, rfl, fun h => (nomatch h), Nat.le_of_ble_eq_true rfl, .inl rfl⟩ | exact ⟨rfl, rfl, fun _ => rfl, Nat.le_of_ble_eq_true rfl, .inr rfl⟩ | exact ⟨rfl, rfl, fun h => (nomatch h), Nat.le_of_ble_eq_true rfl, .inr rfl⟩ | omega | exact ⟨rfl, by (repeat (first | exact fm_nil | refine fm_cons ⟨rfl, rfl⟩ ?_)), Nat.le_of_ble_eq_true rfl, Nat.le_of_ble_eq_true rfl⟩ | (refine ⟨?_, ?_, ?_, ?_, ?_, ?_, ?_⟩ <;> first | omega | exact Nat.le_of_ble_eq_true rfl) | exact ⟨rfl, by omega, by (try simp only [List.length_map, List.length_set]); omega⟩ | exact ⟨rfl, by omega, by simp only [Int.toNat_natCast]; omega, by omega, Nat.le_of_ble_eq_true rfl, rfl⟩⟩) (hdn : done ++ [gd b want d] = done' := by simp +decide (disch := omega) only [nrm, lk_nrm, dc_nrm, mk_nrm, mf_nrm, ti_nrm, ls_nrm, mp_nrm, nb_nrm, hset, pick_and, pick_or, ↓reduceIte, Nat.reduceAdd, wI64, wI32, wI16, wI8, wU8, List.length_map, Int.toNat_natCast, mask_nrm]; rfl) (hsl : putSl dst (gd b want d) sl = sl' := by simp +decide (disch := omega) only [nrm, lk_nrm, dc_nrm, mk_nrm, mf_nrm, ti_nrm, ls_nrm, mp_nrm, nb_nrm, hset, pick_and, pick_or, ↓reduceIte, Nat.reduceAdd, wI64, wI32, wI16, wI8, wU8, List.length_map, Int.toNat_natCast, mask_nrm]; rfl) : DReg P ops base rd eh pins i ({ dst := dst, op := op, type := ty, pos := pos, after := af, guard := some (g, want) } :: l) done hp nx sl K := dreg_gfree hT hpin hf hdep hg hs hdn hsl h
theorem dgg1 (hT : TOk P T) {g : Nat} {want b e w : Bool} {d : D} {done' : List D} {sl' : List (Nat × D)} (h : DReg P ops base rd eh pins (i + 1) l done' hp nx sl' K) (hpin : pins.contains i = false := by rfl) (hf : freeOp op = true := by rfl)
    (hdep : depOn { dst := dst, op := op, type := ty, pos := pos, after := af, guard := some (g, want) } g = true := by rfl) (hg : gslot ops g (maskSl { dst := dst, op := op, type := ty, pos := pos, after := af, guard := some (g, want) } ops done 0 base) = some (gd e w (.val (.bool b))) := by rfl)
    (hs : e = w → b = want → ∃ pre, astep T op (evD (maskSl { dst := dst, op := op, type := ty, pos := pos, after := af, guard := some (g, want) } ops done 0 base)) rd 0 = some (pre, { d := d }) ∧ pre := by intro he hb; simp +decide only [he, hb, gd_tt, gd_ff, beq_self_eq_true, Bool.true_and, beq_true]; exact ⟨_, by first | rfl | exact astep_load_r (by rfl) (by rfl) (by first | assumption | exact i64s_get _ _ (by omega) | exact bks_get _ _ (by omega) | exact pls_get _ _ (by omega) | exact ints_get _ _ _ (by omega) | exact boolD_get _ _ (by omega) | exact i64ss_get _ _ (by omega) | exact set_get (by first | omega | (simp only [List.length_map, List.length_set]; omega))) (by rfl) | exact astep_load_p (by rfl) (by rfl) (by rfl) (by first | assumption | exact i64s_get _ _ (by omega) | exact bks_get _ _ (by omega) | exact pls_get _ _ (by omega) | exact ints_get _ _ _ (by omega) | exact boolD_get _ _ (by omega) | exact i64ss_get _ _ (by omega) | exact set_get (by first | omega | (simp only [List.length_map, List.length_set]; omega))) (by rfl) | exact astep_store_p (by rfl) (by rfl) (by rfl) (by rfl) (by first | assumption | exact i64s_get _ _ (by omega) | exact bks_get _ _ (by omega) | exact pls_get _ _ (by omega) | exact ints_get _ _ _ (by omega) | exact boolD_get _ _ (by omega) | exact i64ss_get _ _ (by omega) | exact set_get (by first | omega | (simp only [List.length_map, List.length_set]; omega))), by first | trivial | rfl | exact ⟨rfl, rfl⟩ | exact ⟨rfl, rfl, fun _ => rfl, Nat.le_of_ble_eq_true rfl, .inl rfl⟩ | exact ⟨rfl, rfl, fun h => (nomatch h), Nat.le_of_ble_eq_true rfl, .inl rfl⟩ | exact ⟨rfl, rfl, fun _ => rfl, Nat.le_of_ble_eq_true rfl, .inr rfl⟩ | exact ⟨rfl, rfl, fun h => (nomatch h), Nat.le_of_ble_eq_true rfl, .inr rfl⟩ | omega | exact ⟨rfl, by (repeat (first | exact fm_nil | refine fm_cons ⟨rfl, rfl⟩ ?_)), Nat.le_of_ble_eq_true rfl, Nat.le_of_ble_eq_true rfl⟩ | (refine ⟨?_, ?_, ?_, ?_, ?_, ?_, ?_⟩ <;> first | omega | exact Nat.le_of_ble_eq_true rfl) | exact ⟨rfl, by omega, by (try simp only [List.length_map, List.length_set]); omega⟩ | exact ⟨rfl, by omega, by simp only [Int.toNat_natCast]; omega, by omega, Nat.le_of_ble_eq_true rfl, rfl⟩⟩) (hdn : done ++ [gd ((e == w) && (b == want)) true d] = done' := by simp +decide (disch := omega) only [nrm, lk_nrm, dc_nrm, mk_nrm, mf_nrm, ti_nrm, ls_nrm, mp_nrm, nb_nrm, hset, pick_and, pick_or, ↓reduceIte, Nat.reduceAdd, wI64, wI32, wI16, wI8, wU8, List.length_map, Int.toNat_natCast, mask_nrm]; rfl) (hsl : putSl dst (gd ((e == w) && (b == want)) true d) sl = sl' := by simp +decide (disch := omega) only [nrm, lk_nrm, dc_nrm, mk_nrm, mf_nrm, ti_nrm, ls_nrm, mp_nrm, nb_nrm, hset, pick_and, pick_or, ↓reduceIte, Nat.reduceAdd, wI64, wI32, wI16, wI8, wU8, List.length_map, Int.toNat_natCast, mask_nrm]; rfl) : DReg P ops base rd eh pins i ({ dst := dst, op := op, type := ty, pos := pos, after := af, guard := some (g, want) } :: l) done hp nx sl K := dreg_gfree2 hT hpin hf hdep hg hs hdn hsl h
theorem dp1 {r : Res} {done' : List D} {sl' : List (Nat × D)} {hp' : HP} {nx' : Nat} (h : DReg P ops base rd eh pins (i + 1) l done' hp' nx' sl' K) (hr : OpRel P { dst := dst, op := op, type := ty, pos := pos, after := af, guard := none } (evD (maskSl { dst := dst, op := op, type := ty, pos := pos, after := af, guard := none } ops done 0 base)) hp nx r) (hpin : pins.contains i = true := by rfl) (hu : ∀ p ∈ r.upd, lk p.1 rd = none := by simp [updOf, rdOf, lk])
    (hdn : done ++ [r.d] = done' := by simp +decide (disch := omega) only [nrm, lk_nrm, dc_nrm, mk_nrm, mf_nrm, ti_nrm, ls_nrm, mp_nrm, nb_nrm, hset, pick_and, pick_or, ↓reduceIte, Nat.reduceAdd, wI64, wI32, wI16, wI8, wU8, List.length_map, Int.toNat_natCast, mask_nrm]; rfl) (hhp : r.hpOf hp = hp' := by simp +decide (disch := omega) only [nrm, lk_nrm, dc_nrm, mk_nrm, mf_nrm, ti_nrm, ls_nrm, mp_nrm, nb_nrm, hset, pick_and, pick_or, ↓reduceIte, Nat.reduceAdd, wI64, wI32, wI16, wI8, wU8, List.length_map, Int.toNat_natCast, mask_nrm]; try rfl) (hnx : nx + r.new.length = nx' := by simp +decide (disch := omega) only [nrm, lk_nrm, dc_nrm, mk_nrm, mf_nrm, ti_nrm, ls_nrm, mp_nrm, nb_nrm, hset, pick_and, pick_or, ↓reduceIte, Nat.reduceAdd, wI64, wI32, wI16, wI8, wU8, List.length_map, Int.toNat_natCast, mask_nrm]; try rfl) (hsl : putSl dst r.d sl = sl' := by simp +decide (disch := omega) only [nrm, lk_nrm, dc_nrm, mk_nrm, mf_nrm, ti_nrm, ls_nrm, mp_nrm, nb_nrm, hset, pick_and, pick_or, ↓reduceIte, Nat.reduceAdd, wI64, wI32, wI16, wI8, wU8, List.length_map, Int.toNat_natCast, mask_nrm]; rfl) : DReg P ops base rd eh pins i ({ dst := dst, op := op, type := ty, pos := pos, after := af, guard := none } :: l) done hp nx sl K := dreg_pin hpin hr hu hdn hhp hnx hsl h
theorem dgp1 {g : Nat} {want b : Bool} {d : D} {done' : List D} {sl' : List (Nat × D)} (h : DReg P ops base rd eh pins (i + 1) l done' hp nx sl' K) (hpin : pins.contains i = true := by rfl)
    (hdep : depOn { dst := dst, op := op, type := ty, pos := pos, after := af, guard := some (g, want) } g = true := by rfl) (hg : guardD ops g (maskSl { dst := dst, op := op, type := ty, pos := pos, after := af, guard := some (g, want) } ops done 0 base) = some b := by rfl)
    (hr : b = want → ∃ r, OpRel P { dst := dst, op := op, type := ty, pos := pos, after := af, guard := some (g, want) } (evD (maskSl { dst := dst, op := op, type := ty, pos := pos, after := af, guard := some (g, want) } ops done 0 base)) hp nx r ∧ r.d = d ∧ r.new = [] ∧ r.upd = []) (hdn : done ++ [gd b want d] = done' := by simp +decide (disch := omega) only [nrm, lk_nrm, dc_nrm, mk_nrm, mf_nrm, ti_nrm, ls_nrm, mp_nrm, nb_nrm, hset, pick_and, pick_or, ↓reduceIte, Nat.reduceAdd, wI64, wI32, wI16, wI8, wU8, List.length_map, Int.toNat_natCast, mask_nrm]; rfl) (hsl : putSl dst (gd b want d) sl = sl' := by simp +decide (disch := omega) only [nrm, lk_nrm, dc_nrm, mk_nrm, mf_nrm, ti_nrm, ls_nrm, mp_nrm, nb_nrm, hset, pick_and, pick_or, ↓reduceIte, Nat.reduceAdd, wI64, wI32, wI16, wI8, wU8, List.length_map, Int.toNat_natCast, mask_nrm]; rfl) : DReg P ops base rd eh pins i ({ dst := dst, op := op, type := ty, pos := pos, after := af, guard := some (g, want) } :: l) done hp nx sl K := dreg_gpin hpin hdep hg hr hdn hsl h
end draws
end Go.Proofs.Ythdgihkffcmkiaa.Abs

/- Abs, part 23: nil slices as objects of no elements; weakenings one after another. -/
set_option linter.unusedVariables false
set_option linter.unusedSimpArgs false
namespace Go.Proofs.Ythdgihkffcmkiaa.Abs
open Go Go.RowKit
variable {P : Program} {T : TT} {C : Ctx}

theorem Weak.rfl' {a : St} : Weak C a a := fun _ _ h => h

theorem weak_nil (t : Nat) (ty : TypeId) (sz : Nat) {sl : List (Nat × D)} {hp : HP} {nx : Nat} (ht : lk t sl = some .nil) : Weak C ⟨sl, hp, nx⟩ ⟨(t, .own nx) :: sl, (nx, ⟨ty, sz, false, []⟩) :: hp, nx + 1⟩ := fun a w ⟨hv, hH, hk, hm, hpn, hS⟩ => by
  have hfresh : lk nx hp = none := by
    cases h : lk nx hp with
    | none => rfl
    | some ob => have := hk nx ob h; simp at this
  obtain ⟨hI, hL, hF⟩ := hH.alloc (h0 := nx) hfresh (ob := ⟨ty, sz, false, []⟩) (v := .slice none 0 0) (w' := w) (Below.refl _ w) (fun b hb => by cases hb)
    ⟨[], ⟨by simp, .inl ⟨rfl, rfl⟩⟩, fun x hx => by simp at hx, fun i j x d hi => by simp at hi⟩
  refine ⟨_, hI, fun h ob hl => ?_, Nat.le_succ_of_le hm, fun h ob hl hlt => ?_, hS.defers, hS.size, fun t' d hl => ?_⟩
  · simp only at hl ⊢
    rw [lk_cons] at hl
    split at hl
    · rename_i e; subst e; exact Nat.lt_succ_self _
    · exact Nat.lt_succ_of_lt (hk h ob hl)
  · simp only at hl
    rw [lk_cons] at hl
    have hne : h ≠ nx := fun e => by subst e; simp only at hm; omega
    rw [if_neg hne] at hl
    simp only [hne, if_false]
    exact hpn h ob hl hlt
  · rw [lk_cons] at hl
    split at hl
    · rename_i e
      subst e
      cases hl
      have h1 : RepP w (FOf C.G hv hp w) .nil (a.tmps.getD t' undef) := hS.at_ t' _ ht
      refine ⟨sz, ?_⟩
      simp only [LOf, lk_cons, if_true, Option.map_some]
      generalize a.tmps.getD t' undef = u at h1
      cases h1
      rfl
    · exact (hS.at_ t' d hl).mono hL hF

/-! ### append -/
theorem kl_nrm : (∀ (h t : Nat) (d : D) (sl : List (Nat × D)), killSl (some h) ((t, d) :: sl) = (t, kill h d) :: killSl (some h) sl) ∧ (∀ h : Nat, killSl (some h) [] = []) ∧ (∀ (h : Nat) (v : Value), kill h (.val v) = .val v) ∧ (∀ h : Nat, kill h .nil = .nil) ∧ (∀ h : Nat, kill h .any = .any) ∧ (∀ (h sz : Nat) (xs : List (List D)), kill h (.sl sz xs) = .sl sz xs) ∧
    (∀ (h sz i off : Nat) (xs : List (List D)), kill h (.rptr sz xs i off) = .rptr sz xs i off) ∧ (∀ (h : Nat) (f : Fn) (cs : List D), kill h (.clo f cs) = .clo f cs) ∧ (∀ h k : Nat, kill h (.own k) = if k = h then .any else .own k) ∧ (∀ h k i off : Nat, kill h (.ptr k i off) = if k = h then .any else .ptr k i off) ∧ (∀ h k lo n : Nat, kill h (.vw k lo n) = if k = h then .any else .vw k lo n) ∧
    (∀ h k i off es n : Nat, kill h (.cvw k i off es n) = if k = h then .any else .cvw k i off es n) ∧ (∀ (h : Nat) (cs : List D), kill h (.agg cs) = .agg (cs.map (killC h))) ∧ (∀ (h : Nat) (ds : List D), kill h (.tup ds) = .any) ∧ (∀ (h : Nat) (f : Fn) (fs cs : List D), kill h (.fn f fs cs) = .fn f (fs.map (killC h)) (cs.map (killC h))) ∧
    (∀ (h : Nat) (v : Value), killC h (.val v) = .val v) ∧ (∀ h : Nat, killC h .nil = .nil) ∧ (∀ h : Nat, killC h .any = .any) ∧ (∀ (h sz : Nat) (xs : List (List D)), killC h (.sl sz xs) = .sl sz xs) ∧ (∀ (h sz i off : Nat) (xs : List (List D)), killC h (.rptr sz xs i off) = .rptr sz xs i off) ∧ (∀ h k : Nat, killC h (.own k) = if k = h then .any else .own k) ∧ (∀ h k i off : Nat, killC h (.ptr k i off) = if k = h then .any else .ptr k i off) ∧
    (∀ h k lo n : Nat, killC h (.vw k lo n) = if k = h then .any else .vw k lo n) ∧ (∀ (h : Nat) (b w : Bool) (d : D), kill h (gd b w d) = gd b w (kill h d)) ∧ (∀ (h : Nat) (ty : TypeId) (sz : Nat) (xs : List (List D)), Ob.kill h ⟨ty, sz, false, xs⟩ = ⟨ty, sz, false, xs⟩) ∧ (∀ (h : Nat) (ty : TypeId) (sz : Nat) (xs : List (List D)), Ob.kill h ⟨ty, sz, true, xs⟩ = ⟨ty, sz, true, xs.map (·.map (killC h))⟩) ∧
    (∀ (ty : TypeId) (sz : Nat) (dp : Bool) (xs rows : List (List D)), Ob.app ⟨ty, sz, dp, xs⟩ rows = ⟨ty, sz, dp, xs ++ rows⟩) ∧ (∀ (h k : Nat) (o : Ob) (hp : HP), killHP h ((k, o) :: hp) = (k, o.kill h) :: killHP h hp) ∧ (∀ h : Nat, killHP h [] = []) ∧ (∀ (d : D) (upd : List (Nat × Ob)) (h : Nat) (hp : HP), Res.hpOf { d := d, upd := upd, dead := some h } hp = updHP upd (killHP h hp)) :=
  ⟨fun _ _ _ _ => rfl, fun _ => rfl, fun _ _ => rfl, fun _ => rfl, fun _ => rfl, fun _ _ _ => rfl, fun _ _ _ _ _ => rfl, fun _ _ _ => rfl, fun _ _ => rfl, fun _ _ _ _ => rfl, fun _ _ _ _ => rfl, fun _ _ _ _ _ _ => rfl, fun _ _ => rfl, fun _ _ => rfl, fun _ _ _ _ => rfl,
    fun _ _ => rfl, fun _ => rfl, fun _ => rfl, fun _ _ _ => rfl, fun _ _ _ _ _ => rfl, fun _ _ => rfl, fun _ _ _ _ => rfl, fun _ _ _ _ => rfl, fun h b w d => by cases b <;> cases w <;> rfl, fun _ _ _ _ => rfl, fun _ _ _ _ => rfl, fun _ _ _ _ _ => rfl, fun _ _ _ _ => rfl, fun _ => rfl, fun _ _ _ _ => rfl⟩
section
variable {m : Nat} {ops l : List Oper} {st st' : St} {K : St → Prop} {dst : Option Tmp} {op : Op} {ty : TypeId} {pos : String} {af : Array Edge}
theorem ga1 {pre : Prop} {r : Res} (hK : areg P T m ops l st' K) (hs : astep T op (evD st.sl) st.hp st.nx = some (pre, r) := by rfl) (hd : deadOk m r = true := by rfl)
    (hpre : pre := by refine ⟨?_, ?_, ?_, ?_, ?_, ?_, ?_⟩ <;> first | trivial | rfl | exact Nat.le_of_ble_eq_true rfl | (intro h; cases h; done) | (simp only [List.length_map, List.length_append, List.length_cons, List.length_nil]; omega))
    (hst : st.app dst r = st' := by simp +decide (disch := omega) only [nrm, lk_nrm, dc_nrm, mk_nrm, mf_nrm, ti_nrm, ls_nrm, mp_nrm, nb_nrm, hset, pick_and, pick_or, ↓reduceIte, Nat.reduceAdd, wI64, wI32, wI16, wI8, wU8, List.length_map, Int.toNat_natCast, kl_nrm]; rfl) : areg P T m ops ({ dst := dst, op := op, type := ty, pos := pos, after := af, guard := none } :: l) st K := areg_go hs hd hpre hst hK
end

/-! ### Guards whose answer is known -/
section
variable {m : Nat} {ops l : List Oper} {st st' : St} {K : St → Prop} {dst : Option Tmp} {op : Op} {ty : TypeId} {pos : String} {af : Array Edge}
theorem gy1 {j : Nat} {want : Bool} {pre : Prop} {r : Res} (hK : areg P T m ops l st' K) (hg : guardD ops j st.sl = some want := by rfl) (hs : astep T op (evD st.sl) st.hp st.nx = some (pre, r) := by first | rfl | exact astep_load_r (by rfl) (by rfl) (by first | assumption | exact i64s_get _ _ (by omega) | exact bks_get _ _ (by omega) | exact pls_get _ _ (by omega) | exact ints_get _ _ _ (by omega) | exact boolD_get _ _ (by omega) | exact i64ss_get _ _ (by omega) | exact set_get (by first | omega | (simp only [List.length_map, List.length_set]; omega))) (by rfl) | exact astep_load_p (by rfl) (by rfl) (by rfl) (by first | assumption | exact i64s_get _ _ (by omega) | exact bks_get _ _ (by omega) | exact pls_get _ _ (by omega) | exact ints_get _ _ _ (by omega) | exact boolD_get _ _ (by omega) | exact i64ss_get _ _ (by omega) | exact set_get (by first | omega | (simp only [List.length_map, List.length_set]; omega))) (by rfl) | exact astep_store_p (by rfl) (by rfl) (by rfl) (by rfl) (by first | assumption | exact i64s_get _ _ (by omega) | exact bks_get _ _ (by omega) | exact pls_get _ _ (by omega) | exact ints_get _ _ _ (by omega) | exact boolD_get _ _ (by omega) | exact i64ss_get _ _ (by omega) | exact set_get (by first | omega | (simp only [List.length_map, List.length_set]; omega)))) (hd : deadOk m r = true := by rfl) (hpre : pre := by first | trivial | rfl | exact ⟨rfl, rfl⟩ | exact ⟨rfl, rfl, fun _ => rfl, Nat.le_of_ble_eq_true rfl, .inl rfl⟩ | exact ⟨rfl, rfl, fun h => (nomatch h), Nat.le_of_ble_eq_true rfl, .inl rfl⟩ | exact ⟨rfl, rfl, fun _ => rfl, Nat.le_of_ble_eq_true rfl, .inr rfl⟩ | exact ⟨rfl, rfl, fun h => (nomatch h), Nat.le_of_ble_eq_true rfl, .inr rfl⟩ | omega | exact ⟨rfl, by repeat (first | exact fm_nil | refine fm_cons ⟨rfl, rfl⟩ ?_), Nat.le_of_ble_eq_true rfl, Nat.le_of_ble_eq_true rfl⟩ | (refine ⟨?_, ?_, ?_, ?_, ?_, ?_, ?_⟩ <;> first | omega | exact Nat.le_of_ble_eq_true rfl) | exact ⟨rfl, by omega, by (try simp only [List.length_map, List.length_set]); omega⟩ | exact ⟨rfl, by omega, by simp only [Int.toNat_natCast]; omega, by omega, Nat.le_of_ble_eq_true rfl, rfl⟩)
    (hst : st.app dst r = st' := by simp +decide (disch := omega) only [nrm, lk_nrm, dc_nrm, mk_nrm, mf_nrm, ti_nrm, ls_nrm, mp_nrm, nb_nrm, hset, pick_and, pick_or, ↓reduceIte, Nat.reduceAdd, wI64, wI32, wI16, wI8, wU8, List.length_map, Int.toNat_natCast]; rfl) : areg P T m ops ({ dst := dst, op := op, type := ty, pos := pos, after := af, guard := some (j, want) } :: l) st K := areg_yes_go hg hs hd hpre hst hK
theorem gyc1 {j : Nat} {want : Bool} {r : Res} (hK : areg P T m ops l st' K) (hr : OpRel P { dst := dst, op := op, type := ty, pos := pos, after := af, guard := some (j, want) } (evD st.sl) st.hp st.nx r) (hg : guardD ops j st.sl = some want := by rfl) (hs : astep T op (evD st.sl) st.hp st.nx = none := by rfl)
    (hst : st.app dst r = st' := by simp +decide (disch := omega) only [nrm, lk_nrm, dc_nrm, mk_nrm, mf_nrm, ti_nrm, ls_nrm, mp_nrm, nb_nrm, hset, pick_and, pick_or, ↓reduceIte, Nat.reduceAdd, wI64, wI32, wI16, wI8, wU8, List.length_map, Int.toNat_natCast]; rfl) : areg P T m ops ({ dst := dst, op := op, type := ty, pos := pos, after := af, guard := some (j, want) } :: l) st K := areg_yes_call hg hs hr hst hK
end
section
variable {ops : List Oper} {base sl : List (Nat × D)} {rd eh hp : HP} {pins : List Nat} {i nx : Nat} {l : List Oper} {done : List D} {K : St → Prop} {dst : Option Tmp} {op : Op} {ty : TypeId} {pos : String} {af : Array Edge}
end
end Go.Proofs.Ythdgihkffcmkiaa.Abs

/- Abs, part 24: arrays of booleans whose cells are looked at by a number that is not known. -/
set_option linter.unusedVariables false
set_option linter.unusedSimpArgs false
namespace Go.Proofs.Ythdgihkffcmkiaa.Abs
open Go Go.RowKit
variable {P : Program} {T : TT} {C : Ctx}
section
variable {m : Nat} {ops l : List Oper} {st st' : St} {K : St → Prop} {dst : Option Tmp} {op : Op} {ty : TypeId} {pos : String} {af : Array Edge}
end
end Go.Proofs.Ythdgihkffcmkiaa.Abs

/- Abs, part 25: == of structs and arrays of integers. -/
set_option linter.unusedVariables false
set_option linter.unusedSimpArgs false
namespace Go.Proofs.Ythdgihkffcmkiaa.Abs
open Go Go.RowKit
variable {P : Program} {T : TT} {C : Ctx}
def vOf (ag : Bool) (ks : List IntKind) (ns : List Int) : Value := if ag then .agg (intVs ks ns).toArray else (intVs ks ns).headD undef
def EqT (P : Program) (n : Nat) (t : TypeId) (ag : Bool) (ks : List IntKind) : Prop :=
  (∀ w, (Go.isAgg t).run P w = .ok ag w) ∧ (∀ w, (sizeOf t).run P w = .ok ks.length w) ∧ (ag = false → ks.length = 1) ∧ ∀ (w : World) (d : Nat) (xs ys : List Int), xs.length = ks.length → ys.length = ks.length → (Op.equalIn (d + n) t (vOf ag ks xs) (vOf ag ks ys)).run P w = .ok (decide (xs = ys)) w
theorem eqT_int {t : TypeId} {k : IntKind} {ti : TI} {n : Nat} (hT : TOk P T) (hl : lk t T = some ti) (hs : ti.sh = .int k) (h1 : ti.size = 1) : EqT P (n + 1) t false [k] := by
  refine ⟨fun w => ?_, fun w => ?_, fun _ => rfl, fun w d xs ys hx hy => ?_⟩
  · have := TI.run_aggB (hT _ _ hl) w
    rw [this]; simp [TI.aggB, hs]
  · have := TI.run_size (hT _ _ hl) w
    rw [this, h1]; rfl
  · obtain ⟨a, rfl⟩ := len1 hx
    obtain ⟨b, rfl⟩ := len1 hy
    have hu := TI.under_int (hT _ _ hl) hs
    rw [show d + (n + 1) = (d + n) + 1 by omega]
    have := run_equalIn_int (P := P) w (d + n) t k k a b hu
    simp only [vOf, Bool.false_eq_true, if_false, intVs, List.headD_cons]
    rw [this]
    congr 1
    rw [Bool.eq_iff_iff]
    simp
theorem intVs_app : ∀ {ks ks' : List IntKind} {xs ys : List Int}, xs.length = ks.length → intVs (ks ++ ks') (xs ++ ys) = intVs ks xs ++ intVs ks' ys
  | [], _, [], _, _ => rfl
  | k :: ks, ks', x :: xs, ys, h => by
    have := intVs_app (ks := ks) (ks' := ks') (xs := xs) (ys := ys) (by simpa using h)
    simp only [List.cons_append, intVs]
    rw [this]
  | [], _, _ :: _, _, h => by simp at h
  | _ :: _, _, [], _, h => by simp at h
theorem part_flat {t : TypeId} {ag : Bool} {ks : List IntKind} {n : Nat} (h : EqT P n t ag ks) {pre post : List Value} {xs : List Int} (hx : xs.length = ks.length) {off : Nat} (ho : pre.length = off) (w : World) : (part t (pre ++ (intVs ks xs ++ post)).toArray off).run P w = .ok (vOf ag ks xs) w := by
  obtain ⟨h1, h2, h3, _⟩ := h
  subst ho
  have hlen := intVs_length hx
  unfold part
  cases ag with
  | true =>
    simp only [Sem.run_bind, h1, Result.andThen_ok, if_true, h2, Sem.run_pure, vOf]
    congr 2
    apply Array.ext'
    simp [List.extract, hlen]
  | false =>
    have hk := h3 rfl
    have hc : (pre ++ (intVs ks xs ++ post)).toArray[pre.length]? = some (vOf false ks xs) := by
      have : ∃ v, intVs ks xs = [v] := len1 (hlen.trans hk)
      obtain ⟨v, hv⟩ := this
      simp [vOf, hv]
    simp only [Sem.run_bind, h1, Result.andThen_ok, Bool.false_eq_true, if_false, hc, Sem.run_pure]
def FldsOk (P : Program) (n : Nat) : Nat → List Field → List (List IntKind) → Prop
  | _, [], [] => True
  | off, f :: fs, ks :: kss => f.name ≠ "_" ∧ f.offset = off ∧ (∃ ag, EqT P n f.type ag ks) ∧ FldsOk P n (off + ks.length) fs kss
  | _, _, _ => False
theorem eqFields_ok {n d : Nat} (w : World) : ∀ (fs : List Field) (kss : List (List IntKind)) (off : Nat), FldsOk P n off fs kss → ∀ (pa pb : List Value) (xs ys : List Int), pa.length = off → pb.length = off → xs.length = kss.flatten.length → ys.length = kss.flatten.length →
    (Op.eqFields (d + n) (pa ++ intVs kss.flatten xs).toArray (pb ++ intVs kss.flatten ys).toArray fs).run P w = .ok (decide (xs = ys)) w
  | [], [], off, _, pa, pb, xs, ys, _, _, hx, hy => by
    have hx : xs = [] := by simpa using hx
    have hy : ys = [] := by simpa using hy
    subst hx; subst hy
    simp [Op.eqFields]
  | f :: fs, ks :: kss, off, ⟨hn, ho, ⟨ag, hE⟩, hf⟩, pa, pb, xs, ys, ha, hb, hx, hy => by
    simp only [List.flatten_cons, List.length_append] at hx hy
    obtain ⟨x1, x2, rfl, hx1⟩ : ∃ x1 x2, xs = x1 ++ x2 ∧ x1.length = ks.length := ⟨xs.take ks.length, xs.drop ks.length, by simp, by simp; omega⟩
    obtain ⟨y1, y2, rfl, hy1⟩ : ∃ y1 y2, ys = y1 ++ y2 ∧ y1.length = ks.length := ⟨ys.take ks.length, ys.drop ks.length, by simp, by simp; omega⟩
    simp only [List.length_append] at hx hy
    have ih := eqFields_ok (d := d) w fs kss _ hf (pa ++ intVs ks x1) (pb ++ intVs ks y1) x2 y2 (by rw [List.length_append, intVs_length hx1, ha]) (by rw [List.length_append, intVs_length hy1, hb]) (by omega) (by omega)
    simp only [List.flatten_cons]
    rw [intVs_app hx1, intVs_app hy1]
    rw [List.append_assoc, List.append_assoc] at ih
    simp only [Op.eqFields]
    rw [if_pos hn]
    rw [Sem.run_bind, ho, part_flat hE hx1 ha w, Result.andThen_ok, Sem.run_bind, part_flat hE hy1 hb w, Result.andThen_ok, Sem.run_bind, hE.2.2.2 w d x1 y1 hx1 hy1, Result.andThen_ok]
    by_cases e : x1 = y1
    · subst e
      simp only [decide_true, Bool.not_true, Bool.false_eq_true, if_false]
      rw [ih]
      congr 1
      rw [Bool.eq_iff_iff]
      simp
    · have : ¬ x1 ++ x2 = y1 ++ y2 := fun h => e (List.append_inj_left h (by omega))
      simp [e, this]
  | [], _ :: _, _, h, _, _, _, _, _, _, _, _ => h.elim
  | _ :: _, [], _, h, _, _, _, _, _, _, _, _ => h.elim
theorem eqT_struct {t : TypeId} {n : Nat} {kss : List (List IntKind)} {ti : TI} (hT : TOk P T) (hl : lk t T = some ti) (hu : P.underlying t = some (.struct (P.fieldsOf t))) (hst : P.stoodInHeld t = false) (hf : FldsOk P n 0 (P.fieldsOf t).toList kss) (hs : ti.size = kss.flatten.length) (hg : ti.aggB = true) : EqT P (n + 1) t true kss.flatten := by
  refine ⟨fun w => ?_, fun w => ?_, fun h => (by cases h), fun w d xs ys hx hy => ?_⟩
  · rw [TI.run_aggB (hT _ _ hl) w, hg]
  · rw [TI.run_size (hT _ _ hl) w, hs]
  · rw [show d + (n + 1) = (d + n) + 1 by omega]
    simp only [vOf, if_true]
    rw [run_equalIn_struct w (d + n) t _ _ hu hst]
    have := eqFields_ok (P := P) (n := n) (d := d) w (P.fieldsOf t).toList kss 0 hf [] [] xs ys rfl rfl hx hy
    simpa using this
theorem eqT_arr3 {t e : TypeId} {k : IntKind} {n : Nat} {ti : TI} (hT : TOk P T) (hl : lk t T = some ti) (hs : ti.sh = .arr 3 e) (hz : ti.size = 3) (h : EqT P n e false [k]) : EqT P (n + 1) t true [k, k, k] := by
  refine ⟨fun w => ?_, fun w => ?_, fun h => (by cases h), fun w d xs ys hx hy => ?_⟩
  · rw [TI.run_aggB (hT _ _ hl) w]; simp [TI.aggB, hs]
  · rw [TI.run_size (hT _ _ hl) w, hz]; rfl
  · obtain ⟨a0, a1, a2, rfl⟩ := len3 hx
    obtain ⟨b0, b1, b2, rfl⟩ := len3 hy
    have hu := TI.under_arr (hT _ _ hl) hs
    rw [show d + (n + 1) = (d + n) + 1 by omega]
    have hp : ∀ (pre post : List Value) (v : Int) (off : Nat), pre.length = off → (part e (pre ++ ([Value.int k v] ++ post)).toArray off).run P w = .ok (.int k v) w := fun pre post v off ho => part_flat h (xs := [v]) rfl ho w
    have hq : ∀ a b : Int, (Op.equalIn (d + n) e (.int k a) (.int k b)).run P w = .ok (decide (a = b)) w := fun a b => by
      have := h.2.2.2 w d [a] [b] rfl rfl
      simpa [vOf, intVs] using this
    have p0 := fun v0 v1 v2 => hp [] [.int k v1, .int k v2] v0 0 rfl
    have p1 := fun v0 v1 v2 => hp [.int k v0] [.int k v2] v1 1 rfl
    have p2 := fun v0 v1 v2 => hp [.int k v0, .int k v1] [] v2 2 rfl
    simp only [List.nil_append, List.cons_append, List.append_nil] at p0 p1 p2
    have hsz := h.2.1 w
    simp only [vOf, if_true, intVs, Op.equalIn, Sem.run_bind, run_underlying hu, Result.andThen_ok, hsz, List.length_cons, List.length_nil]
    rw [Std.Legacy.Range.forIn_eq_forIn_range']
    simp [Std.Legacy.Range.size, List.range', p0, p1, p2, hq]
    by_cases e0 : a0 = b0 <;> by_cases e1 : a1 = b1 <;> by_cases e2 : a2 = b2 <;> simp [e0, e1, e2, p0, p1, p2, hq]

theorem oprel_neS {n : Nat} {t : TypeId} {ks : List IntKind} (hE : EqT P n t true ks) (hn : n ≤ 10000) (hm : P.eqGuardType P.depth t = false) {o : Oper} {x y : Operand} {yt : TypeId} (ho : o.op = .binOp .neq t x y yt) {ev : Operand → D} {hp : HP} {nx : Nat} {xs ys : List Int}
    (hx : ev x = .val (.agg (intVs ks xs).toArray)) (hy : ev y = .val (.agg (intVs ks ys).toArray)) (lx : xs.length = ks.length) (ly : ys.length = ks.length) : OpRel P o ev hp nx { d := .val (.bool (!decide (xs = ys))) } := by
  refine ⟨⟨fun p hp => by simp at hp, rfl⟩, fun w0 S G hv a w hI hk hev K Q hK => ?_⟩
  have h1 := hev x
  rw [hx] at h1
  have h1 := rep_val h1
  have h2 := hev y
  rw [hy] at h2
  have h2 := rep_val h2
  have he := hE.2.2.2 w (10000 - n) xs ys lx ly
  rw [show 10000 - n + n = 10000 by omega] at he
  simp only [vOf, if_true] at he
  have hr : ((do eqGuard .neq t x y (a.eval x) (a.eval y); binOp .neq t (a.eval x) (a.eval y) : Sem Value)).run P w = .ok (.bool (!decide (xs = ys))) w := by
    rw [h1, h2, Sem.run_bind, run_eqGuard_agg w .neq t x y _ _ hm, Result.andThen_ok, run_neq_struct, he]
    rfl
  have hex : (execOp a.eval o).run P w = .ok (.value (.bool (!decide (xs = ys)))) w := by
    simp only [execOp, ho]
    rw [Sem.run_bind, hr]
    rfl
  unfold Oper.wp
  rw [hex]
  exact hK _ hv w (post_same hI (rep_mk _))
section
variable {ops : List Oper} {base sl : List (Nat × D)} {rd eh hp : HP} {pins : List Nat} {i nx : Nat} {l : List Oper} {done : List D} {K : St → Prop} {dst : Option Tmp} {op : Op} {ty : TypeId} {pos : String} {af : Array Edge}
theorem dfr {d : D} {done' : List D} {sl' : List (Nat × D)} (h : DReg P ops base rd eh pins (i + 1) l done' hp nx sl' K) (hf : ∀ (hp : HP) (nx : Nat), OpRel P { dst := dst, op := op, type := ty, pos := pos, after := af, guard := none } (evD (maskSl { dst := dst, op := op, type := ty, pos := pos, after := af, guard := none } ops done 0 base)) hp nx { d := d }) (hpin : pins.contains i = false := by rfl)
    (hdn : done ++ [d] = done' := by simp +decide (disch := omega) only [nrm, lk_nrm, dc_nrm, mk_nrm, mf_nrm, ti_nrm, ls_nrm, mp_nrm, nb_nrm, hset, pick_and, pick_or, ↓reduceIte, Nat.reduceAdd, wI64, wI32, wI16, wI8, wU8, List.length_map, Int.toNat_natCast, mask_nrm]; rfl) (hsl : putSl dst d sl = sl' := by simp +decide (disch := omega) only [nrm, lk_nrm, dc_nrm, mk_nrm, mf_nrm, ti_nrm, ls_nrm, mp_nrm, nb_nrm, hset, pick_and, pick_or, ↓reduceIte, Nat.reduceAdd, wI64, wI32, wI16, wI8, wU8, List.length_map, Int.toNat_natCast, mask_nrm]; rfl) : DReg P ops base rd eh pins i ({ dst := dst, op := op, type := ty, pos := pos, after := af, guard := none } :: l) done hp nx sl K := by
  subst hdn; subst hsl
  exact dreg_cons (it := ⟨_, false, true, { d := d }, false⟩) ⟨hpin.symm, fun h => Bool.noConfusion h⟩ ⟨rfl, fun _ h => by simp at h, fun _ _ => ⟨rfl, fun hp nx _ => hf hp nx⟩, fun h => by simp at h⟩ h
end
end Go.Proofs.Ythdgihkffcmkiaa.Abs

/- Abs, part 26: regions that draw their order up to a point, and go on in the text's order behind it. -/
set_option linter.unusedVariables false
set_option linter.unusedSimpArgs false
namespace Go.Proofs.Ythdgihkffcmkiaa.Abs
open Go Go.RowKit
variable {P : Program} {T : TT} {C : Ctx}

/-! ### A nil slice in a cell of an object -/
end Go.Proofs.Ythdgihkffcmkiaa.Abs

/- Abs, part 27: f(append(x, ..)) where x lives on: the old row is still as it was. -/
set_option linter.unusedVariables false
set_option linter.unusedSimpArgs false
namespace Go.Proofs.Ythdgihkffcmkiaa.Abs
open Go Go.RowKit
variable {P : Program} {T : TT} {C : Ctx}

theorem append_keeps {w w' : World} (t ty e : TypeId) (i : TypeInfo) (z : Value) (ht : P.underlying t = some (.slice e)) (hi : P.info? e = some i) (hz : i.zero = some z)
    (v v' : Value) (n : Nat) (xs : List Value) (hown : w.ownsRow 0 e i.size v n xs) (a : Addr) (m c : Nat) (news : List Value) (hl : news.length = m * i.size) (hnews : ∀ j u, news[j]? = some u → w.cell? (a.add j) = some u) (h1 : ∀ u ∈ news, u.oneCell' = true)
    (h63 : n + m ≤ 9223372036854775807) (hbytes : (n + m) * i.bytes ≤ 140737488355328) (hrun : (Builtin.append_ #[t, t] ty #[v, .slice (some a) m c]).run P w = .ok v' w') : w'.ownsRow 0 e i.size v n xs := by
  rcases hown.2 with ⟨rfl, rfl⟩ | ⟨g, cap, cur, rfl, hbg, hg, hnc, hcm, hcs, htake⟩
  · have : xs = [] := List.eq_nil_of_length_eq_zero (by simpa using hown.1)
    subst this
    exact World.ownsRow_nil _ _ _ _
  · by_cases hroom : n + m ≤ cap
    · have hfit : n * i.size + news.length ≤ cur.size := by rw [hl, hcs, ← Nat.add_mul]; exact Nat.mul_le_mul_right _ hroom
      have hr := run_append_room (P := P) w t ty e i ht hi g n cap cur hg a m c news hl hnews h1 hroom hfit
      rw [hr] at hrun
      simp only [Result.ok.injEq] at hrun
      obtain ⟨-, rfl⟩ := hrun
      refine ⟨hown.1, .inr ⟨g, cap, _, rfl, hbg, setRow_heap w g cur _ e _ hg, hnc, hcm, ?_, ?_⟩⟩
      · simp only [List.size_toArray, List.length_append, List.length_take, List.length_drop, Array.length_toList]
        omega
      · have hxl := hown.1
        simp only [htake, List.append_assoc]
        rw [← hxl]
        exact List.take_left
    · have holds : ∀ j u, xs[j]? = some u → w.cell? ((⟨g, 0, none⟩ : Addr).add j) = some u := hown.cells (g := g) rfl
      have hr := run_append_grow (P := P) w t ty e i z ht hi hz ⟨g, 0, none⟩ n cap xs hown.1 holds a m c news hl hnews (by omega) (by omega) (growslice_fits (by omega) hbytes)
      rw [hr] at hrun
      simp only [Result.ok.injEq] at hrun
      obtain ⟨-, rfl⟩ := hrun
      refine ⟨hown.1, .inr ⟨g, cap, cur, rfl, hbg, ?_, hnc, hcm, hcs, htake⟩⟩
      have hlt : g < w.heap.size := (Array.getElem?_eq_some_iff.1 hg).1
      rw [← hg]
      show (w.heap.push _)[g]? = _
      rw [Array.getElem?_push_lt hlt, Array.getElem?_eq_getElem hlt]

def SReg (C : Ctx) (ops l : List Oper) (st : St) (K : St → Prop) : Prop := ∀ (Q : Exit → Act → World → Prop) (a : Act) (w : World), Inv C st a w → (∀ st' a' w', K st' → Inv C st' a' w' → Q .normal a' w') → wpList C.P ops.toArray Q l a w
theorem sreg_areg {m N : Nat} (hT : TOk P T) (hP : C.P = P) (hCm : C.m = m) (hN : C.N = N) {ops l : List Oper} (hd : dstsOk N ops = true) (hsub : ∀ o ∈ l, o ∈ ops) {st : St} {K : St → Prop} (h : areg P T m ops l st K) : SReg C ops l st K := fun Q a w hI hK => by
  subst hP
  exact areg_wp hT rfl hCm (by rw [hN]; exact hd) l st a w K hsub hI h hK
theorem sreg_step {m N : Nat} (hT : TOk P T) (hP : C.P = P) (hCm : C.m = m) (hN : C.N = N) {ops l : List Oper} {o : Oper} (hd : dstsOk N ops = true) (hsub : o ∈ ops) (hg : o.guard = none) {st st' : St} {K : St → Prop} (h : aop P T m o st (· = st')) (hK : SReg C ops l st' K) : SReg C ops (o :: l) st K := fun Q a w hI hQ => by
  subst hP
  refine wpList_step (fun K' hK' => ?_)
  simp only [Region.wanted, hg, if_true]
  refine aop_wp hT rfl hCm hI (fun t ht => ?_) h (fun st'' a' w' h1 h2 => hK' _ _ (by subst h1; exact hK Q a' w' h2 hQ))
  have := List.all_eq_true.1 hd o hsub
  rw [hN]
  simpa [ht] using this
theorem awp_sreg {id : Nat} {opsA : Array Oper} {l : List Oper} {st : St} {Q : Exit → St → Prop} (he : opsA = l.toArray) (h : SReg C l l st (Q .normal)) : awp C (.region id opsA false) Q st := fun a w hI => by
  subst he
  exact wp_region_list (h _ a w hI (fun st' a' w' h1 h2 => ⟨st', h1, h2⟩))

theorem sreg_appcall {X : Type} {s : Spec X} {f : FuncId} (hT : TOk P T) (hP : C.P = P) {N : Nat} (hN : C.N = N) {ops l : List Oper} {t1 t2 : Tmp} {x1 x2 cf : Operand} {t ty ty2 : TypeId} {tys : Array TypeId} {p1 p2 : String} {af1 af2 : Array Edge} {sl : List (Nat × D)} {hp : HP} {nx : Nat} {K : St → Prop}
    (ht1 : t1 < N) (ht2 : t2 < N) (hF : FnOk P f s) (x : X) {h : Nat} {ob : Ob} {rows : List (List D)} {prow : Prop} {te : TI} {u : Value}
    (hx1 : evD sl x1 = .own h) (hob : lk h hp = some ob) (hdp : ob.deep = false) (hty : (lk t T).map (fun ti : TI => ti.sh) = some (.slice ob.ty)) (hte : lk ob.ty T = some te) (hsz : ob.sz = te.size) (hpos : 0 < te.size) (hrow : rowOf hp te.size (evD sl x2) = some (prow, rows, false)) (hprow : prow)
    (hby : (ob.xs.length + rows.length) * te.bytes ≤ 140737488355328) (h63 : ob.xs.length + rows.length ≤ 9223372036854775807)
    (hargs : s.args x = [.sl te.size (ob.xs ++ rows)]) (hpre : s.pre x) (hobs : s.obs x = []) (hout : s.out x = []) (hnew : s.new x = []) (hres : s.res x = .val u)
    (hK : SReg C ops l ⟨(t2, .val u) :: (t1, .any) :: sl, hp, nx⟩ K)
    (hcf : ∀ a : Act, a.eval cf = .func (.func f) #[] #[]) : SReg C ops ({ dst := some t1, op := .call ⟨.builtin .append, #[x1, x2], #[t, t]⟩, type := ty, pos := p1, after := af1, guard := none } :: { dst := some t2, op := .call ⟨.value cf, #[.tmp t1], tys⟩, type := ty2, pos := p2, after := af2, guard := none } :: l) ⟨sl, hp, nx⟩ K := fun Q a w hI hQ => by
  subst hP
  obtain ⟨hv, hH, hk, hm, hpin, hS⟩ := hI
  simp only at hH hk hm hpin hS
  have hev := evD_ok hS
  have hx1' := hev x1
  rw [hx1] at hx1'
  obtain ⟨s1, hL1⟩ := hx1'
  rw [LOf_eq hob] at hL1
  simp only [Option.some.injEq, Prod.mk.injEq] at hL1
  obtain ⟨hvh, -⟩ := hL1
  have hR := rowOf_ok hH (hev x2) hrow hprow
  obtain ⟨vs, hown, hg, hcv⟩ := hH.obs h ob hob
  obtain ⟨ti, hl, hsh⟩ := Option.map_eq_some_iff.1 hty
  have hu := TI.under_slice (hT _ _ hl) hsh
  obtain ⟨i, hi, his, hib, hiz⟩ := TI.info (hT _ _ hte)
  have hzs := (hT _ _ hte).2.2
  -- what append does
  have key : ∃ (v' : Value) (w' : World) (news : List Value), (Builtin.append_ #[t, t] ty #[a.eval x1, a.eval x2]).run C.P w = .ok v' w' ∧ w'.ownsRow 0 ob.ty ob.sz v' (ob.xs.length + rows.length) (vs ++ news) ∧ w.grownBy w' (hv h).ownBlock ∧ w'.ownsRow 0 ob.ty ob.sz (hv h) ob.xs.length vs ∧
      ∀ i j x d, rows[i]? = some x → x[j]? = some d → ∃ u, news[i * te.size + j]? = some u ∧ u.oneCell' = true ∧ RepO false (LOf hv hp) w (FOf C.G hv hp w) d u := by
    rw [← hvh]
    rcases hR.2 with ⟨hn, hr0⟩ | ⟨ad, c, hn, hnc, hc⟩
    · rw [hn]
      subst hr0
      rw [hsz] at hown
      refine ⟨hv h, w, [], run_append_owned_none (P := C.P) w 0 t ty ob.ty i te.size hu hi (hv h) _ vs hown, by rw [hsz]; simpa using hown, ⟨rfl, rfl, rfl, Nat.le_refl _, fun _ _ _ => rfl⟩, by rw [hsz]; exact hown, fun i j x d hi => by simp at hi⟩
    · rw [hn]
      obtain ⟨news, hnl, hncell, hn1, hnr⟩ := row_cells hR.1 hc
      rw [hsz] at hown
      obtain ⟨v', w', hrun, ho', hgr, hnil, hblk⟩ := run_append_own_at (P := C.P) w 0 t ty ob.ty i te.zero te.size te.bytes hu hi hiz his hib hzs hpos (hv h) ob.xs.length vs hown ad rows.length c news hnl hncell hn1 (by simpa [maxLen] using h63) (by simpa using hby) (Nat.zero_le _)
      refine ⟨v', w', news, hrun, by rw [hsz]; exact ho', hgr, ?_, hnr⟩
      have := append_keeps (P := C.P) t ty ob.ty i te.zero hu hi hiz (hv h) v' ob.xs.length vs (by rw [his]; exact hown) ad rows.length c news (by rw [his]; exact hnl) hncell hn1 h63 (by rw [hib]; exact hby) hrun
      rw [hsz, ← his]
      exact this
  obtain ⟨v', w', news, hrun, ho', hgr, hold, hnr⟩ := key
  -- what stays
  have hF1 : ∀ b, FOf C.G hv hp w b → b < w'.heap.size ∧ w'.heap[b]? = w.heap[b]? := fun b hb => ⟨Nat.lt_of_lt_of_le hb.1.1 hgr.size, hgr.block b hb.1.1 (fun e => hb.2 h ob hob e.symm)⟩
  refine wpList_step (fun K1 hK1 => ?_)
  simp only [Region.wanted, if_true]
  unfold Oper.wp
  rw [show (execOp a.eval { dst := some t1, op := .call ⟨.builtin .append, #[x1, x2], #[t, t]⟩, type := ty, pos := p1, after := af1, guard := none }).run C.P w = .ok (.value v') w' by simp [execOp, resolve, invoke, builtin, hrun]]
  refine hK1 _ _ (wpList_step (fun K2 hK2 => ?_))
  simp only [Region.wanted, if_true]
  have hev1 : (a.put (some t1) v').eval (.tmp t1) = v' := put_same (by rw [hS.size, hN]; exact ht1)
  obtain ⟨hent, hcon⟩ := hF
  -- the row that append gave, as it is read
  have hrow' : Row (fun _ => none) w' (fun b => b < w'.heap.size) te.size (ob.xs ++ rows) false v' := by
    have := own_row (L := fun _ => none) (F := fun b => b < w'.heap.size) (w := w') (ob := ⟨ob.ty, ob.sz, false, ob.xs ++ rows⟩) (v := v') ⟨vs ++ news, by simpa using ho', fun x hx => by
        rcases List.mem_append.1 hx with hx | hx
        · exact hg x hx
        · show x.length = ob.sz; rw [hsz]; exact hR.1 x hx, fun i j x d hi hj => by
        have hvl : vs.length = ob.xs.length * ob.sz := hown.1
        simp only [RepO, Bool.false_eq_true, if_false]
        rcases append_get (news := news) hvl i j x hi with ⟨h1, h2⟩ | ⟨i', rfl, h1, h2⟩
        · obtain ⟨u, hu, h3, hr⟩ := hcv i j x d h1 hj
          have hlt : i * ob.sz + j < ob.xs.length * ob.sz := by rw [← hown.1]; exact (List.getElem?_eq_some_iff.1 hu).1
          simp only [RepO, hdp, Bool.false_eq_true, if_false] at hr
          exact ⟨u, (h2 hlt).trans hu, h3, hr.mono hF1⟩
        · obtain ⟨u, hu, h3, hr⟩ := hnr i' j x d h1 hj
          rw [← hsz] at hu
          simp only [RepO, Bool.false_eq_true, if_false] at hr
          exact ⟨u, h2.trans hu, h3, hr.mono hF1⟩⟩
    rw [← hsz]
    exact this
  have hblk : ∀ b, v'.ownBlock = some b → b < w'.heap.size := fun b hb => (ho'.lt b hb).2
  have hA : RepP w' (FOf (fun _ => True) (fun _ => undef) [] w') (.sl te.size (ob.xs ++ rows)) v' := row_toP hrow' (fun e => by cases e) (fun b hb => ⟨⟨hb, trivial⟩, fun h ob hl => by simp [lk] at hl⟩)
    (fun ad n c e hne => by
      rcases ho'.2 with ⟨h1, h2⟩ | ⟨g, cap, cur, h1, _⟩
      · rw [h1] at e; cases e
      · rw [h1] at e
        simp only [Value.slice.injEq, Option.some.injEq] at e
        obtain ⟨rfl, _, _⟩ := e
        exact ⟨⟨⟨hblk g (by rw [h1]; rfl), trivial⟩, fun h ob hl => by simp [lk] at hl⟩, rfl⟩)
    (fun A n c e => by
      rcases ho'.2 with ⟨h1, h2⟩ | ⟨g, cap, cur, h1, _, _, _, hcm, _⟩
      · rw [h1] at e; cases e; simp [maxLen]
      · rw [h1] at e; cases e; exact hcm)
  have hc2 := (hcon x hpre).2 w' [] (fun _ => True) (fun _ => undef) [v'] (fun _ _ => trivial)
  rw [hobs, hout, hnew, hres, hargs] at hc2
  have ht' : TabAt [] w' := fun p hp => by
    obtain ⟨q1, q2, o, q3, q4⟩ := hH.keeps.tab p hp
    have q5 := Nat.lt_of_lt_of_le q1 hH.keeps.size
    refine ⟨Nat.lt_of_lt_of_le q5 hgr.size, by simp, o, ?_, q4⟩
    rw [hgr.block _ q5 (fun e => ?_), hH.keeps.block _ q1 q2, q3]
    rcases hH.base h ob p.1 hob e.symm with h3 | h3
    · omega
    · exact q2 h3
  have hcall := hc2 (hinv_none _ _ _ ht' (fun _ _ => trivial)) ⟨hA, trivial⟩
  refine callOp_wp (o := { dst := some t2, op := .call ⟨.value cf, #[.tmp t1], tys⟩, type := ty2, pos := p2, after := af2, guard := none }) rfl (hcf _) hent (R := fun v w'' => v = u ∧ Below w'.heap.size w' w'') ?_ (fun v w'' hvw => ?_)
  · rw [show (#[] ++ #[Operand.tmp t1].map (a.put (some t1) v').eval ++ #[] : Array Value) = [v'].toArray by simp [hev1]]
    exact hcall.mono (fun e w'' ⟨v, hv2, he, hI2, _, hr⟩ => ⟨v, he, rep_val hr, hI2.keeps.below⟩)
  obtain ⟨rfl, hb2⟩ := hvw
  refine hK2 _ _ (hK Q _ _ ?_ hQ)
  -- the state behind both
  have hF2 : ∀ b, FOf C.G hv hp w b → FOf C.G hv hp w'' b ∧ w''.heap[b]? = w.heap[b]? := fun b hb => by
    obtain ⟨h1, h2⟩ := hF1 b hb
    exact ⟨⟨⟨Nat.lt_of_lt_of_le h1 hb2.size, hb.1.2⟩, hb.2⟩, (hb2.block b h1).trans h2⟩
  have hgb : w'.grownBy w'' none := ⟨hb2.os, hb2.tape, hb2.output, hb2.size, fun i hi _ => hb2.block i hi⟩
  refine ⟨hv, ⟨fun k o hlk => ?_, hH.inj, hH.base, ?_, fun b hbb => hH.gnew b (Nat.le_trans (Nat.le_trans hgr.size hb2.size) hbb)⟩, hk, hm, hpin, ?_⟩
  · by_cases e : k = h
    · subst e
      rw [hob] at hlk
      cases hlk
      refine ⟨vs, hold.kept hgb (by cases (hv k).ownBlock <;> simp), hg, fun i j x d hi hj => ?_⟩
      obtain ⟨u, hu, h1, hr⟩ := hcv i j x d hi hj
      exact ⟨u, hu, h1, RepO.obMono hr (fun _ _ h => h) hF2⟩
    · obtain ⟨vs2, ho2, hg2, hc2⟩ := hH.obs k o hlk
      refine ⟨vs2, (ho2.kept hgr ?_).kept hgb (by cases (hv k).ownBlock <;> simp), hg2, fun i j x d hi hj => ?_⟩
      · rcases hH.inj k h o ob hlk hob e with h1 | h1
        · exact .inl h1
        · exact .inr h1
      obtain ⟨u, hu, h1, hr⟩ := hc2 i j x d hi hj
      exact ⟨u, hu, h1, RepO.obMono hr (fun _ _ h => h) hF2⟩
  · have hk1 := hH.keeps
    refine ⟨hb2.os.trans (hgr.os.trans hk1.os), hb2.tape.trans (hgr.tape.trans hk1.tape), hb2.output.trans (hgr.output.trans hk1.output), Nat.le_trans hk1.size (Nat.le_trans hgr.size hb2.size), fun k hk2 hkS => ?_, hk1.tab⟩
    have h1 : k < w.heap.size := Nat.lt_of_lt_of_le hk2 hk1.size
    rw [hb2.block k (Nat.lt_of_lt_of_le h1 hgr.size), hgr.block k h1 (fun e => by
      rcases hH.base h ob k hob e.symm with h3 | h3
      · omega
      · exact hkS h3)]
    exact hk1.block k hk2 hkS
  · refine ⟨by rw [put_defers, put_defers]; exact hS.defers, by rw [put_size, put_size]; exact hS.size, fun t' d hd => ?_⟩
    have hold2 : ∀ t'' d, lk t'' sl = some d → Rep (LOf hv hp) w'' (FOf C.G hv hp w'') d (a.tmps.getD t'' undef) := fun t'' d hd => (hS.at_ t'' d hd).mono (fun _ _ h => h) hF2
    rw [lk_cons] at hd
    split at hd
    · rename_i e
      subst e
      cases hd
      rw [put_same (by rw [put_size, hS.size, hN]; exact ht2)]
      exact rep_mk _
    · rename_i e2
      rw [put_other (by simp only [ne_eq, Option.some.injEq]; exact fun e => e2 e.symm)]
      rw [lk_cons] at hd
      split at hd
      · cases hd
        exact (RepP.any _ : RepP w'' _ .any _)
      · rename_i e1
        rw [put_other (by simp only [ne_eq, Option.some.injEq]; exact fun e => e1 e.symm)]
        exact hold2 t' d hd
theorem aop_go {m : Nat} {st st' : St} {dst : Option Tmp} {op : Op} {ty : TypeId} {pos : String} {af : Array Edge} {pre : Prop} {r : Res} (hs : astep T op (evD st.sl) st.hp st.nx = some (pre, r)) (hd : deadOk m r = true) (hpre : pre) (hst : st.app dst r = st') : aop P T m { dst := dst, op := op, type := ty, pos := pos, after := af, guard := none } st (· = st') := by
  simp only [aop, hs]
  exact ⟨hpre, hd, hst⟩
theorem sg1 {m N : Nat} (hT : TOk P T) (hP : C.P = P) (hCm : C.m = m) (hN : C.N = N) {ops l : List Oper} {st st' : St} {K : St → Prop} {dst : Option Tmp} {op : Op} {ty : TypeId} {pos : String} {af : Array Edge} {pre : Prop} {r : Res} (hK : SReg C ops l st' K) (hd : dstsOk N ops = true := by rfl) (hsub : { dst := dst, op := op, type := ty, pos := pos, after := af, guard := none } ∈ ops := by repeat (first | exact List.Mem.head _ | apply List.Mem.tail))
    (hs : astep T op (evD st.sl) st.hp st.nx = some (pre, r) := by rfl) (hdead : deadOk m r = true := by rfl) (hpre : pre := by first | trivial | exact ⟨rfl, by (repeat (first | exact fm_nil | refine fm_cons ⟨rfl, rfl⟩ ?_)), Nat.le_of_ble_eq_true rfl, Nat.le_of_ble_eq_true rfl⟩)
    (hst : st.app dst r = st' := by simp +decide (disch := omega) only [nrm, lk_nrm, dc_nrm, mk_nrm, mf_nrm, ti_nrm, ls_nrm, mp_nrm, nb_nrm, hset, pick_and, pick_or, ↓reduceIte, Nat.reduceAdd, wI64, wI32, wI16, wI8, wU8, List.length_map, Int.toNat_natCast]; rfl) : SReg C ops ({ dst := dst, op := op, type := ty, pos := pos, after := af, guard := none } :: l) st K :=
  sreg_step hT hP hCm hN hd hsub rfl (aop_go hs hdead hpre hst) hK
theorem sreg_rest {m N : Nat} (hT : TOk P T) (hP : C.P = P) (hCm : C.m = m) (hN : C.N = N) {ops l : List Oper} {st : St} {K : St → Prop} (h : areg P T m ops l st K) (hd : dstsOk N ops = true := by rfl) (hsub : ∀ o ∈ l, o ∈ ops := by intro o ho; repeat (first | exact ho | apply List.Mem.tail)) : SReg C ops l st K :=
  sreg_areg hT hP hCm hN hd hsub h
end Go.Proofs.Ythdgihkffcmkiaa.Abs

/- Abs, part 28: regions that draw their order, and lay boxes at any time of it. -/
set_option linter.unusedVariables false
set_option linter.unusedSimpArgs false
namespace Go.Proofs.Ythdgihkffcmkiaa.Abs
open Go Go.RowKit
variable {P : Program} {T : TT} {C : Ctx}

section
variable {ops : List Oper} {base sl : List (Nat × D)} {rd eh hp : HP} {pins : List Nat} {i nx : Nat} {l : List Oper} {done : List D} {K : St → Prop} {dst : Option Tmp} {ty : TypeId} {t : TypeId} {pos : String} {af : Array Edge}
end
end Go.Proofs.Ythdgihkffcmkiaa.Abs

/- Abs, part 29: a small region in any order, each order by itself; what only moves goes first. -/
set_option linter.unusedVariables false
set_option linter.unusedSimpArgs false
namespace Go.Proofs.Ythdgihkffcmkiaa.Abs
open Go Go.RowKit
variable {P : Program} {T : TT} {C : Ctx}

def AnyS (C : Ctx) (ops : List Oper) (K : St → Prop) (fuel : Nat) (listed : Array Bool) (st : St) : Prop :=
  ∀ a w, Inv C st a w → wpAny C.P .any ops.toArray (fun e a' w' => ∃ st', (e = .normal ∧ K st') ∧ Inv C st' a' w') fuel listed a w

def AnyAll (P : Program) (C : Ctx) (T : TT) (m : Nat) (ops : List Oper) (K : St → Prop) (fuel : Nat) (listed : Array Bool) (st : St) : List Nat → Prop
  | [] => True
  | i :: rs => (∃ o, ops[i]? = some o ∧ o.guard = none ∧ areg P T m ops [o] st (fun st' => AnyS C ops K fuel (listed.setIfInBounds i true) st')) ∧ AnyAll P C T m ops K fuel listed st rs

theorem AnyAll.mem {m : Nat} {ops : List Oper} {K : St → Prop} {fuel : Nat} {listed : Array Bool} {st : St} : ∀ {rs : List Nat}, AnyAll P C T m ops K fuel listed st rs → ∀ i ∈ rs, ∃ o, ops[i]? = some o ∧ o.guard = none ∧ areg P T m ops [o] st (fun st' => AnyS C ops K fuel (listed.setIfInBounds i true) st')
  | r :: rs, h, i, hi => by
    rcases List.mem_cons.1 hi with rfl | hi
    · exact h.1
    · exact AnyAll.mem h.2 i hi

end Go.Proofs.Ythdgihkffcmkiaa.Abs

/- Abs, part 30: whether a slice that is read only is nil. -/
set_option linter.unusedVariables false
set_option linter.unusedSimpArgs false
namespace Go.Proofs.Ythdgihkffcmkiaa.Abs
open Go Go.RowKit
variable {P : Program} {T : TT} {C : Ctx}

theorem sreg_nilcmp {N : Nat} (hT : TOk P T) (hP : C.P = P) (hN : C.N = N) {ops l : List Oper} {t : Tmp} {x : Operand} {ty ty2 tb : TypeId} {pos : String} {af : Array Edge} {sl : List (Nat × D)} {hp : HP} {nx : Nat} {K : St → Prop} {sz n' c' : Nat} {rows : List (List D)} {e : TypeId}
    (ht : t < N) (hx : evD sl x = .sl sz rows) (hty : (lk ty T).map (fun ti : TI => ti.sh) = some (.slice e))
    (hK : ∀ b : Bool, (b = true → rows = []) → SReg C ops l ⟨(t, .val (.bool b)) :: sl, hp, nx⟩ K) :
    SReg C ops ({ dst := some t, op := .binOp .eql ty x (.const (.slice none n' c')) ty2, type := tb, pos := pos, after := af, guard := none } :: l) ⟨sl, hp, nx⟩ K := fun Q a w hI hQ => by
  subst hP
  obtain ⟨hv, hH, hk, hm, hpin, hS⟩ := hI
  simp only at hH hk hm hpin hS
  have hx' := evD_ok hS x
  rw [hx] at hx'
  obtain ⟨ti, hl, hsh⟩ := Option.map_eq_some_iff.1 hty
  have hu := TI.under_slice (hT _ _ hl) hsh
  have hval : ∃ A n c, a.eval x = .slice A n c ∧ (A = none → rows = []) := by
    have hx2 : RepP w (FOf C.G hv hp w) (.sl sz rows) (a.eval x) := hx'
    generalize a.eval x = u at hx2
    cases hx2 with
    | sl _ _ A c V hg h0 hm hF hc hr => exact ⟨A, _, c, rfl, fun h => (h0 h).1⟩
  obtain ⟨A, n, c, he, hnil⟩ := hval
  refine wpList_step (fun K1 hK1 => ?_)
  simp only [Region.wanted, if_true]
  unfold Oper.wp
  have hrun : (execOp a.eval { dst := some t, op := .binOp .eql ty x (.const (.slice none n' c')) ty2, type := tb, pos := pos, after := af, guard := none }).run C.P w = .ok (.value (.bool A.isNone)) w := by
    have h1 := Lib.run_eql_slice_nil (P := C.P) w ty e A n c n' c' hu
    have hc : a.eval (.const (.slice none n' c')) = .slice none n' c' := rfl
    simp only [execOp]
    rw [he, hc]
    simp [eqGuard, h1]
  rw [hrun]
  refine hK1 _ _ ?_
  refine hK A.isNone (fun h => hnil (by simpa using h)) Q _ w ⟨hv, hH, hk, hm, hpin, ?_⟩ hQ
  exact sinv_put hS (dst := some t) (fun t' h => by cases h; rw [hN]; exact ht) (d := .val (.bool A.isNone)) (v := .bool A.isNone) (RepP.val _ : RepP w (FOf C.G hv hp w) (.val (.bool A.isNone)) _)
end Go.Proofs.Ythdgihkffcmkiaa.Abs

/- Abs, part 31: some rows of a local object are written over, in place. -/
set_option linter.unusedVariables false
set_option linter.unusedSimpArgs false
namespace Go.Proofs.Ythdgihkffcmkiaa.Abs
open Go Go.RowKit
variable {P : Program} {T : TT} {C : Ctx}

end Go.Proofs.Ythdgihkffcmkiaa.Abs

/- Abs, part 32: capacity of a part of a local row; rows that do not overlap; a part that is the whole. -/
set_option linter.unusedVariables false
set_option linter.unusedSimpArgs false
namespace Go.Proofs.Ythdgihkffcmkiaa.Abs
open Go Go.RowKit
variable {P : Program} {T : TT} {C : Ctx}

end Go.Proofs.Ythdgihkffcmkiaa.Abs

/- Abs, part 33: a contract in other words; two handles change their places. -/
set_option linter.unusedVariables false
set_option linter.unusedSimpArgs false
namespace Go.Proofs.Ythdgihkffcmkiaa.Abs
open Go Go.RowKit
variable {P : Program} {T : TT} {C : Ctx}
theorem FnOk.sub {X Y : Type} {s : Spec X} {s' : Spec Y} {f : FuncId} (h : FnOk P f s) (g : ∀ y, s'.pre y → ∃ x, s.pre x ∧ s.args x = s'.args y ∧ s.obs x = s'.obs y ∧ s.out x = s'.out y ∧ s.new x = s'.new y ∧ s.res x = s'.res y) : FnOk P f s' := by
  refine ⟨h.1, fun y hy => ?_⟩
  obtain ⟨x, hp, ha, ho, hu, hn, hr⟩ := g y hy
  have := h.2 x hp
  rw [ha, ho, hu, hn, hr] at this
  exact this

/-! ### Two handles change their places -/
section sw
variable {L L' : LF} {w : World} {F F' : Nat → Prop} {a b : Nat}
end sw
end Go.Proofs.Ythdgihkffcmkiaa.Abs

/- Abs, part 34: the order in which objects are told does not matter. -/
set_option linter.unusedVariables false
set_option linter.unusedSimpArgs false
namespace Go.Proofs.Ythdgihkffcmkiaa.Abs
open Go Go.RowKit
variable {P : Program} {T : TT} {C : Ctx}
end Go.Proofs.Ythdgihkffcmkiaa.Abs

/- Abs, part 35: a local object is no longer written to: its row is read only from here on; functions that take no objects; calls that hand back rows of rows. -/
set_option linter.unusedVariables false
set_option linter.unusedSimpArgs false
namespace Go.Proofs.Ythdgihkffcmkiaa.Abs
open Go Go.RowKit
variable {P : Program} {T : TT} {C : Ctx}

/-! ### Freezing -/
def frzC (h sz : Nat) (ys : List (List D)) : D → D
  | .own k => if k = h then .sl sz ys else .own k
  | d => killC h d
def frz (h sz : Nat) (ys : List (List D)) : D → D
  | .agg cs => .agg (cs.map (frzC h sz ys))
  | .fn f fs cs => .fn f (fs.map (frzC h sz ys)) (cs.map (frzC h sz ys))
  | .tup _ => .any
  | d => frzC h sz ys d
section frz
variable {L L' : LF} {w : World} {F F' : Nat → Prop} {h sz : Nat} {ys : List (List D)}
end frz
/-! ### Functions that take no objects -/
/-! ### Calls that hand back rows of rows -/
end Go.Proofs.Ythdgihkffcmkiaa.Abs

/- Abs, part 36: in a drawn region, what does not look at memory goes first. -/
set_option linter.unusedVariables false
set_option linter.unusedSimpArgs false
namespace Go.Proofs.Ythdgihkffcmkiaa.Abs
open Go Go.RowKit
variable {P : Program} {T : TT} {C : Ctx}

section
variable {w0 : World} {S : List Nat} {G : Nat → Prop} {hv : Nat → Value} {hp : HP} {w : World}
end
end Go.Proofs.Ythdgihkffcmkiaa.Abs

/- Abs, part 37: texts: bytes turned to a text, the library's functions on texts by their contracts. -/
set_option linter.unusedVariables false
set_option linter.unusedSimpArgs false
namespace Go.Proofs.Ythdgihkffcmkiaa.Abs
open Go Go.RowKit
variable {P : Program} {T : TT} {C : Ctx}

end Go.Proofs.Ythdgihkffcmkiaa.Abs

