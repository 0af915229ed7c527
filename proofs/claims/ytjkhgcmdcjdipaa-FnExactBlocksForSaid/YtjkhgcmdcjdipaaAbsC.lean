import Derived.Test.YtjkhgcmdcjdipaaAbsB
import Derived.Lib.SliceRun
import Derived.Lib.Overlaps
import Derived.Laws.Externs
import Derived.Laws.BytesArg
import Derived.Lib.Join
/- Abs, part 22: rows of several kinds; steps that find their own proofs. -/
set_option linter.unusedVariables false
set_option linter.unusedSimpArgs false
namespace Go.Proofs.Ytjkhgcmdcjdipaa.Abs
open Go Go.RowKit
variable {P : Program} {T : TT} {C : Ctx}

/-! ### Rows -/
abbrev ints (k : IntKind) (xs : List Int) : List (List D) := xs.map fun n => [.val (.int k n)]
theorem ints_get (k : IntKind) (xs : List Int) (i : Nat) (h : i < xs.length) : (ints k xs)[i]? = some [.val (.int k (xs.getD i 0))] := map_get (fun n : Int => [D.val (.int k n)]) xs i h
abbrev boolD (xs : List Bool) : List (List D) := xs.map fun b => [.val (.bool b)]
theorem boolD_get (xs : List Bool) (i : Nat) (h : i < xs.length) : (boolD xs)[i]? = some [.val (.bool (xs.getD i false))] := map_get (fun b : Bool => [D.val (.bool b)]) xs i h
abbrev i64ss (xs : List (List Int)) : List (List D) := xs.map fun x => [.sl 1 (i64s x)]
theorem i64ss_get (xs : List (List Int)) (i : Nat) (h : i < xs.length) : (i64ss xs)[i]? = some [.sl 1 (i64s (xs.getD i []))] := map_get (fun x : List Int => [D.sl 1 (i64s x)]) xs i h

/-- A book. -/
structure Bk where
  cls : Int
  m0 : Int
  m1 : Int
  m2 : Int
  vol : Int
  wide : Int
  high : Int
  weight : Int
def bk0 : Bk := ⟨0, 0, 0, 0, 0, 0, 0, 0⟩
instance : Inhabited Bk := ⟨bk0⟩
theorem Bk.same {a b : Bk} (h1 : a.cls = b.cls) (h2 : a.m0 = b.m0) (h3 : a.m1 = b.m1) (h4 : a.m2 = b.m2) (h5 : a.vol = b.vol) (h6 : a.wide = b.wide) (h7 : a.high = b.high) (h8 : a.weight = b.weight) : a = b := by
  cases a; cases b; simp_all
abbrev isI16 (n : Int) : Prop := -32768 ≤ n ∧ n ≤ 32767
abbrev isU8 (n : Int) : Prop := 0 ≤ n ∧ n ≤ 255
abbrev isBk (b : Bk) : Prop := isI16 b.cls ∧ isU8 b.m0 ∧ isU8 b.m1 ∧ isU8 b.m2 ∧ isI16 b.vol ∧ isI16 b.wide ∧ isI16 b.high ∧ isI16 b.weight
abbrev bkRow (b : Bk) : List D := [.val (.int .i16 b.cls), .val (.int .u8 b.m0), .val (.int .u8 b.m1), .val (.int .u8 b.m2), .val (.int .i16 b.vol), .val (.int .i16 b.wide), .val (.int .i16 b.high), .val (.int .i16 b.weight)]
abbrev bkD (b : Bk) : D := .val (.agg #[.int .i16 b.cls, .int .u8 b.m0, .int .u8 b.m1, .int .u8 b.m2, .int .i16 b.vol, .int .i16 b.wide, .int .i16 b.high, .int .i16 b.weight])
abbrev bks (xs : List Bk) : List (List D) := xs.map bkRow
theorem bks_get (xs : List Bk) (i : Nat) (h : i < xs.length) : (bks xs)[i]? = some (bkRow (xs.getD i bk0)) := map_get bkRow xs i h
/-- A book in a place. -/
abbrev Pl := Int × Bk
def pl0 : Pl := (0, bk0)
abbrev isPl (p : Pl) : Prop := isI16 p.1 ∧ isBk p.2
abbrev plRow (p : Pl) : List D := [.val (.int .i16 p.1), .val (.int .i16 p.2.cls), .val (.int .u8 p.2.m0), .val (.int .u8 p.2.m1), .val (.int .u8 p.2.m2), .val (.int .i16 p.2.vol), .val (.int .i16 p.2.wide), .val (.int .i16 p.2.high), .val (.int .i16 p.2.weight)]
abbrev plD (p : Pl) : D := .val (.agg #[.int .i16 p.1, .int .i16 p.2.cls, .int .u8 p.2.m0, .int .u8 p.2.m1, .int .u8 p.2.m2, .int .i16 p.2.vol, .int .i16 p.2.wide, .int .i16 p.2.high, .int .i16 p.2.weight])
abbrev pls (xs : List Pl) : List (List D) := xs.map plRow
theorem pls_get (xs : List Pl) (i : Nat) (h : i < xs.length) : (pls xs)[i]? = some (plRow (xs.getD i pl0)) := map_get plRow xs i h
theorem len8 {α : Type} {l : List α} (h : l.length = 8) : ∃ a b c d e f g i, l = [a, b, c, d, e, f, g, i] := by match l, h with | [a, b, c, d, e, f, g, i], _ => exact ⟨a, b, c, d, e, f, g, i, rfl⟩
theorem len9 {α : Type} {l : List α} (h : l.length = 9) : ∃ a b c d e f g i j, l = [a, b, c, d, e, f, g, i, j] := by match l, h with | [a, b, c, d, e, f, g, i, j], _ => exact ⟨a, b, c, d, e, f, g, i, j, rfl⟩
theorem getD_mem' {α : Type} {xs : List α} {i : Nat} {d : α} (h : i < xs.length) : xs.getD i d ∈ xs := by
  rw [show xs.getD i d = xs[i] by simp [List.getD, h]]; exact List.getElem_mem h
theorem list_ext' {α : Type} {d : α} {xs ys : List α} (hl : xs.length = ys.length) (h : ∀ j, j < xs.length → xs.getD j d = ys.getD j d) : xs = ys := by
  apply List.ext_getElem hl
  intro i h1 h2
  have := h i h1
  simpa [List.getD, h1, h2] using this
theorem map_set {α : Type} (f : α → List D) (xs : List α) (i : Nat) (v : α) : (xs.map f).set i (f v) = (xs.set i v).map f := by simp
theorem bks_rep (n : Nat) (v : Bk) : bks (List.replicate n v) = List.replicate n (bkRow v) := by simp
theorem bks_set (xs : List Bk) (i : Nat) (v : Bk) : bks (xs.set i v) = (bks xs).set i (bkRow v) := by simp
theorem pls_rep (n : Nat) (v : Pl) : pls (List.replicate n v) = List.replicate n (plRow v) := by simp
theorem pls_set (xs : List Pl) (i : Nat) (v : Pl) : pls (xs.set i v) = (pls xs).set i (plRow v) := by simp
theorem i64s_set' (xs : List Int) (i : Nat) (v : Int) : i64s (xs.set i v) = (i64s xs).set i [.val (.int .i64 v)] := by simp
theorem set_get {α : Type} {xs : List α} {i : Nat} {x : α} (h : i < xs.length) : (xs.set i x)[i]? = some x := by simp [h]
theorem map_rep {α : Type} (f : α → List D) (n : Nat) (v : α) : List.replicate n (f v) = (List.replicate n v).map f := by simp

/-! ### Function values -/
/-- A function value that hands back something flat, and only looks. -/
def Does (P : Program) {α : Type} (enc : α → List D) (dom : α → Prop) (r : α → D) (fn : D) : Prop :=
  ∃ (f : FuncId) (first caps : List D) (s : Spec α), fnParts fn = some (.func f, first, caps) ∧ first.all selfC = true ∧ caps.all selfC = true ∧ FnOk P f s ∧ (∀ x, s.args x = first ++ enc x ++ caps) ∧ (∀ x, dom x → s.pre x) ∧ (∀ x, s.obs x = []) ∧ (∀ x, s.out x = []) ∧ (∀ x, s.new x = []) ∧ ∀ x, s.res x = r x
theorem OpRel.does {α : Type} {enc : α → List D} {dom : α → Prop} {r : α → D} {fn : D} (h : Does P enc dom r fn) (x : α) (hx : dom x) {o : Oper} {cf : Operand} {args : Array Operand} {tys : Array TypeId} (ho : o.op = .call ⟨.value cf, args, tys⟩) {ev : Operand → D} {hp : HP} {nx : Nat} (hcf : ev cf = fn) (hy : args.toList.map ev = enc x) (hself : (enc x).all selfC = true) {d : D} (hren : ren [] (r x) = some d) (hflat : flatD (r x) = true) :
    OpRel P o ev hp nx { d := d } := by
  obtain ⟨f, first, caps, s, h1, h2, h3, h4, h5, h6, h7, h8, h9, h10⟩ := h
  have hargs : Args hp [] (s.args x) (first ++ args.toList.map ev ++ caps) := by
    rw [h5]
    exact args_append (args_append (args_self h2) (by rw [hy]; exact args_self hself)) (args_self h3)
  have := OpRel.call (hp := hp) (nx := nx) (d := d) h4 x [] (by simp) ho (by rw [hcf]; exact h1) (h6 x hx) hargs (by rw [h7]; trivial) (by rw [h10, h9]; exact hren) ⟨by rw [h10]; exact hflat, by rw [h8, h9]; intro o ho; simp at ho⟩
  rw [h8, h9] at this
  simpa [numbered, updOf] using this
theorem arga_does {α : Type} {enc : α → List D} {dom : α → Prop} {r : α → D} {fn : D} {hp : HP} {ks : List Nat} (h : Does P enc dom r fn) : ArgA hp ks fn fn := by
  obtain ⟨f, first, caps, s, h1, h2, h3, _⟩ := h
  unfold fnParts at h1
  split at h1
  · cases h1
    exact ⟨rfl, argL_self h2, argL_self h3⟩
  · cases h1; simp [ArgA, ArgC]
  · simp [ArgA, ArgC]
  · cases h1
theorem arga_fnval {hp : HP} {ks : List Nat} {f : Fn} : ArgA hp ks (.val (.func f #[] #[])) (.fn f [] []) := ⟨rfl, rfl, rfl⟩
theorem arga_clo {hp : HP} {ks : List Nat} {f : Fn} {cs cs' : List D} (h : ArgL hp ks cs cs') (hr : cs.all rptrD = true) : ArgA hp ks (.clo f cs) (.fn f [] cs') := ⟨rfl, rfl, hr, h⟩
theorem arga_slcvw {hp : HP} {ks : List Nat} {h i off n : Nat} {ob : Ob} {x : List D} {xs : List (List D)} (hn : h ∉ ks) (hl : lk h hp = some ob) (hx : ob.xs[i]? = some x) (ha : x.all hf = true) (e : ((x.drop off).take n).map (fun d => [d]) = xs) : ArgA hp ks (.sl 1 xs) (.cvw h i off 1 n) := ⟨hn, rfl, rfl, ob, x, hl, hx, ha, e⟩
/-- It fits into a cell. -/
def fnCell : D → Bool
  | .val (.func _ _ _) | .clo _ _ => true
  | _ => false
theorem fnCell_ok {d : D} (h : fnCell d = true) : dcells d = [d] ∧ cellsOk d = true ∧ hf d = true ∧ selfC d = true := by
  unfold fnCell at h
  split at h
  · exact ⟨rfl, rfl, rfl, rfl⟩
  · exact ⟨rfl, rfl, rfl, rfl⟩
  · cases h

theorem fm_nil {α : Type} {q : α → Prop} : ∀ p ∈ ([] : List α), q p := fun p h => by simp at h
theorem fm_cons {α : Type} {q : α → Prop} {a : α} {l : List α} (h : q a) (k : ∀ p ∈ l, q p) : ∀ p ∈ a :: l, q p := fun p hp => by
  rcases List.mem_cons.1 hp with rfl | hp
  · exact h
  · exact k p hp
theorem flatO_map {α : Type} (f : α → List D) (h : ∀ a, ∀ d ∈ f a, (match d with | .any | .val _ | .nil => true | _ => false) = true) (ty : TypeId) (sz : Nat) (dp : Bool) (xs : List α) : flatO ⟨ty, sz, dp, xs.map f⟩ := fun x hx d hd => by
  obtain ⟨a, _, rfl⟩ := List.mem_map.1 hx
  exact h a d hd
theorem flat_i64s (ty : TypeId) (sz : Nat) (dp : Bool) (xs : List Int) : flatO ⟨ty, sz, dp, i64s xs⟩ := flatO_map _ (fun a d hd => by simp at hd; subst hd; rfl) _ _ _ _
theorem flat_ints (k : IntKind) (ty : TypeId) (sz : Nat) (dp : Bool) (xs : List Int) : flatO ⟨ty, sz, dp, ints k xs⟩ := flatO_map _ (fun a d hd => by simp at hd; subst hd; rfl) _ _ _ _
theorem flat_boolD (ty : TypeId) (sz : Nat) (dp : Bool) (xs : List Bool) : flatO ⟨ty, sz, dp, boolD xs⟩ := flatO_map _ (fun a d hd => by simp at hd; subst hd; rfl) _ _ _ _
theorem flat_bks (ty : TypeId) (sz : Nat) (dp : Bool) (xs : List Bk) : flatO ⟨ty, sz, dp, bks xs⟩ := flatO_map bkRow (fun a d hd => by simp [bkRow] at hd; rcases hd with rfl | rfl | rfl | rfl | rfl | rfl | rfl | rfl <;> rfl) _ _ _ _
theorem flat_pls (ty : TypeId) (sz : Nat) (dp : Bool) (xs : List Pl) : flatO ⟨ty, sz, dp, pls xs⟩ := flatO_map plRow (fun a d hd => by simp [plRow] at hd; rcases hd with rfl | rfl | rfl | rfl | rfl | rfl | rfl | rfl | rfl <;> rfl) _ _ _ _
/-! ### Steps that find their own proofs -/
/-- Where a walk has more to simplify with, it gives these names to it. -/
theorem xn1 : ([] : List Nat).length = 0 := rfl
theorem xn2 : ([] : List Nat).length = 0 := rfl
section steps
variable {m : Nat} {ops l : List Oper} {st st' : St} {K : St → Prop} {Q : Exit → St → Prop} {dst : Option Tmp} {op : Op} {ty : TypeId} {pos : String} {af : Array Edge}
theorem g1 {pre : Prop} {r : Res} (hK : areg P T m ops l st' K) (hs : astep T op (evD st.sl) st.hp st.nx = some (pre, r) := by first | rfl | exact astep_load_r (by rfl) (by rfl) (by first | assumption | exact i64s_get _ _ (by omega) | exact bks_get _ _ (by omega) | exact pls_get _ _ (by omega) | exact ints_get _ _ _ (by omega) | exact boolD_get _ _ (by omega) | exact i64ss_get _ _ (by omega) | exact set_get (by first | omega | (simp only [List.length_map, List.length_set]; omega))) (by rfl) | exact astep_load_p (by rfl) (by rfl) (by rfl) (by first | assumption | exact i64s_get _ _ (by omega) | exact bks_get _ _ (by omega) | exact pls_get _ _ (by omega) | exact ints_get _ _ _ (by omega) | exact boolD_get _ _ (by omega) | exact i64ss_get _ _ (by omega) | exact set_get (by first | omega | (simp only [List.length_map, List.length_set]; omega))) (by rfl) | exact astep_store_p (by rfl) (by rfl) (by rfl) (by rfl) (by first | assumption | exact i64s_get _ _ (by omega) | exact bks_get _ _ (by omega) | exact pls_get _ _ (by omega) | exact ints_get _ _ _ (by omega) | exact boolD_get _ _ (by omega) | exact i64ss_get _ _ (by omega) | exact set_get (by first | omega | (simp only [List.length_map, List.length_set]; omega)))) (hd : deadOk m r = true := by rfl) (hpre : pre := by first | trivial | rfl | exact ⟨rfl, rfl⟩ | exact ⟨rfl, rfl, fun _ => rfl, Nat.le_of_ble_eq_true rfl, .inl rfl⟩ | exact ⟨rfl, rfl, fun h => (nomatch h), Nat.le_of_ble_eq_true rfl, .inl rfl⟩ | exact ⟨rfl, rfl, fun _ => rfl, Nat.le_of_ble_eq_true rfl, .inr rfl⟩ | exact ⟨rfl, rfl, fun h => (nomatch h), Nat.le_of_ble_eq_true rfl, .inr rfl⟩ | omega | exact ⟨rfl, by (repeat (first | exact fm_nil | refine fm_cons ⟨rfl, rfl⟩ ?_)), Nat.le_of_ble_eq_true rfl, Nat.le_of_ble_eq_true rfl⟩ | (refine ⟨?_, ?_, ?_, ?_, ?_, ?_, ?_⟩ <;> first | omega | exact Nat.le_of_ble_eq_true rfl) | exact ⟨rfl, by omega, by (try simp only [List.length_map, List.length_set]); omega⟩ | exact ⟨rfl, by omega, by simp only [Int.toNat_natCast]; omega, by omega, Nat.le_of_ble_eq_true rfl, rfl⟩)
    (hst : st.app dst r = st' := by simp +decide (disch := omega) only [nrm, lk_nrm, dc_nrm, mk_nrm, mf_nrm, ti_nrm, ls_nrm, mp_nrm, nb_nrm, hset, pick_and, pick_or, ↓reduceIte, Nat.reduceAdd, wI64, wI32, wI16, wI8, wU8, List.length_map, Int.toNat_natCast, xn1, xn2]; rfl) : areg P T m ops ({ dst := dst, op := op, type := ty, pos := pos, after := af, guard := none } :: l) st K := areg_go hs hd hpre hst hK
theorem gc1 {r : Res} (hK : areg P T m ops l st' K) (hr : OpRel P { dst := dst, op := op, type := ty, pos := pos, after := af, guard := none } (evD st.sl) st.hp st.nx r) (hs : astep T op (evD st.sl) st.hp st.nx = none := by rfl)
    (hst : st.app dst r = st' := by simp +decide (disch := omega) only [nrm, lk_nrm, dc_nrm, mk_nrm, mf_nrm, ti_nrm, ls_nrm, mp_nrm, nb_nrm, hset, pick_and, pick_or, ↓reduceIte, Nat.reduceAdd, wI64, wI32, wI16, wI8, wU8, List.length_map, Int.toNat_natCast, xn1, xn2]; rfl) : areg P T m ops ({ dst := dst, op := op, type := ty, pos := pos, after := af, guard := none } :: l) st K := areg_call hs hr hst hK
theorem gn1 {j : Nat} {want b : Bool} (hK : areg P T m ops l st' K) (hg : guardD ops j st.sl = some b := by rfl) (hb : (!want) = b := by rfl) (hst : St.mk (putSl dst (.val undef) st.sl) st.hp st.nx = st' := by simp +decide (disch := omega) only [nrm, lk_nrm, dc_nrm, mk_nrm, mf_nrm, ti_nrm, ls_nrm, mp_nrm, nb_nrm, hset, pick_and, pick_or, ↓reduceIte, Nat.reduceAdd, wI64, wI32, wI16, wI8, wU8, List.length_map, Int.toNat_natCast, xn1, xn2]; rfl) : areg P T m ops ({ dst := dst, op := op, type := ty, pos := pos, after := af, guard := some (j, want) } :: l) st K := areg_not hg hb hst hK
theorem gu1 {j : Nat} {want : Bool} (hK : areg P T m ops l st' K) (hg : guardD ops j st.sl = none := by rfl) (hu : guardU ops j st.sl = true := by rfl) (hst : St.mk (putSl dst (.val undef) st.sl) st.hp st.nx = st' := by simp +decide (disch := omega) only [nrm, lk_nrm, dc_nrm, mk_nrm, mf_nrm, ti_nrm, ls_nrm, mp_nrm, nb_nrm, hset, pick_and, pick_or, ↓reduceIte, Nat.reduceAdd, wI64, wI32, wI16, wI8, wU8, List.length_map, Int.toNat_natCast, xn1, xn2]; rfl) : areg P T m ops ({ dst := dst, op := op, type := ty, pos := pos, after := af, guard := some (j, want) } :: l) st K := by
  simp only [areg, hg]
  exact ⟨hu, by rw [hst]; exact hK⟩
theorem gg1 {j : Nat} {want b : Bool} {d : D} (hK : areg P T m ops l st' K) (hg : guardD ops j st.sl = some b := by rfl) (hs : b = want → ∃ pre, astep T op (evD st.sl) st.hp st.nx = some (pre, { d := d }) ∧ pre := by intro hb; simp +decide only [hb, gd_tt, gd_ff, beq_self_eq_true, Bool.true_and, beq_true]; exact ⟨_, by first | rfl | exact astep_load_r (by rfl) (by rfl) (by first | assumption | exact i64s_get _ _ (by omega) | exact bks_get _ _ (by omega) | exact pls_get _ _ (by omega) | exact ints_get _ _ _ (by omega) | exact boolD_get _ _ (by omega) | exact i64ss_get _ _ (by omega) | exact set_get (by first | omega | (simp only [List.length_map, List.length_set]; omega))) (by rfl) | exact astep_load_p (by rfl) (by rfl) (by rfl) (by first | assumption | exact i64s_get _ _ (by omega) | exact bks_get _ _ (by omega) | exact pls_get _ _ (by omega) | exact ints_get _ _ _ (by omega) | exact boolD_get _ _ (by omega) | exact i64ss_get _ _ (by omega) | exact set_get (by first | omega | (simp only [List.length_map, List.length_set]; omega))) (by rfl) | exact astep_store_p (by rfl) (by rfl) (by rfl) (by rfl) (by first | assumption | exact i64s_get _ _ (by omega) | exact bks_get _ _ (by omega) | exact pls_get _ _ (by omega) | exact ints_get _ _ _ (by omega) | exact boolD_get _ _ (by omega) | exact i64ss_get _ _ (by omega) | exact set_get (by first | omega | (simp only [List.length_map, List.length_set]; omega))), by first | trivial | rfl | exact ⟨rfl, rfl⟩ | exact ⟨rfl, rfl, fun _ => rfl, Nat.le_of_ble_eq_true rfl, .inl rfl⟩ | exact ⟨rfl, rfl, fun h => (nomatch h), Nat.le_of_ble_eq_true rfl, .inl rfl⟩ | exact ⟨rfl, rfl, fun _ => rfl, Nat.le_of_ble_eq_true rfl, .inr rfl⟩ | exact ⟨rfl, rfl, fun h => (nomatch h), Nat.le_of_ble_eq_true rfl, .inr rfl⟩ | omega | exact ⟨rfl, by (repeat (first | exact fm_nil | refine fm_cons ⟨rfl, rfl⟩ ?_)), Nat.le_of_ble_eq_true rfl, Nat.le_of_ble_eq_true rfl⟩ | (refine ⟨?_, ?_, ?_, ?_, ?_, ?_, ?_⟩ <;> first | omega | exact Nat.le_of_ble_eq_true rfl) | exact ⟨rfl, by omega, by (try simp only [List.length_map, List.length_set]); omega⟩ | exact ⟨rfl, by omega, by simp only [Int.toNat_natCast]; omega, by omega, Nat.le_of_ble_eq_true rfl, rfl⟩⟩)
    (hst : St.mk (putSl dst (gd b want d) st.sl) st.hp st.nx = st' := by simp +decide (disch := omega) only [nrm, lk_nrm, dc_nrm, mk_nrm, mf_nrm, ti_nrm, ls_nrm, mp_nrm, nb_nrm, hset, pick_and, pick_or, ↓reduceIte, Nat.reduceAdd, wI64, wI32, wI16, wI8, wU8, List.length_map, Int.toNat_natCast, xn1, xn2]; rfl) : areg P T m ops ({ dst := dst, op := op, type := ty, pos := pos, after := af, guard := some (j, want) } :: l) st K := areg_gd hg hs hst hK
theorem ggc1 {j : Nat} {want b : Bool} {d : D} (hK : areg P T m ops l st' K) (hg : guardD ops j st.sl = some b := by rfl)
    (hs : b = want → astep T op (evD st.sl) st.hp st.nx = none ∧ ∃ r, OpRel P { dst := dst, op := op, type := ty, pos := pos, after := af, guard := some (j, want) } (evD st.sl) st.hp st.nx r ∧ r.d = d ∧ r.new = [] ∧ r.upd = []) (hst : St.mk (putSl dst (gd b want d) st.sl) st.hp st.nx = st' := by simp +decide (disch := omega) only [nrm, lk_nrm, dc_nrm, mk_nrm, mf_nrm, ti_nrm, ls_nrm, mp_nrm, nb_nrm, hset, pick_and, pick_or, ↓reduceIte, Nat.reduceAdd, wI64, wI32, wI16, wI8, wU8, List.length_map, Int.toNat_natCast, xn1, xn2]; rfl) : areg P T m ops ({ dst := dst, op := op, type := ty, pos := pos, after := af, guard := some (j, want) } :: l) st K := areg_gd_call hg hs hst hK
theorem call1 {X : Type} {s : Spec X} {f : FuncId} (hF : FnOk P f s) (x : X) (ks : List Nat) {o : Oper} {cf : Operand} {args : Array Operand} {tys : Array TypeId} {ev : Operand → D} {hp : HP} {nx : Nat}
    {first caps : List D} {d : D} {no : List Ob} (hkn : ks.Nodup := by decide) (ho : o.op = .call ⟨.value cf, args, tys⟩ := by rfl) (hcf : fnParts (ev cf) = some (.func f, first, caps) := by rfl)
    (hargs : Args hp ks (s.args x) (first ++ args.toList.map ev ++ caps) := by
    (try dsimp only)
    repeat (refine args_cons (by first | exact arga_val | exact arga_slsl | exact arga_fnval | exact arga_nil | exact arga_slown (by simp) rfl rfl rfl rfl | exact arga_own rfl | exact arga_slnil | exact arga_slcvw (by simp) rfl rfl (by simp [hf]) rfl | exact argc_rptr (by simp) rfl rfl rfl (.inr (by first | (simp [hf]; done) | simp only [List.mem_singleton, forall_eq, List.all_cons, List.all_nil, Bool.and_true, *])) | exact argA_self rfl | exact arga_clo (argl_cons (by first | exact argc_rptr (by simp) rfl rfl rfl (.inr (by first | (simp [hf]; done) | simp only [List.mem_singleton, forall_eq, List.all_cons, List.all_nil, Bool.and_true, *])) | exact argC_self rfl) (argl_nil)) (by rfl) | exact arga_clo (argl_cons (by first | exact argc_rptr (by simp) rfl rfl rfl (.inr (by first | (simp [hf]; done) | simp only [List.mem_singleton, forall_eq, List.all_cons, List.all_nil, Bool.and_true, *])) | exact argC_self rfl) (argl_cons (by first | exact argc_rptr (by simp) rfl rfl rfl (.inr (by first | (simp [hf]; done) | simp only [List.mem_singleton, forall_eq, List.all_cons, List.all_nil, Bool.and_true, *])) | exact argC_self rfl) (argl_nil))) (by rfl) | exact arga_clo (argl_cons (by first | exact argc_rptr (by simp) rfl rfl rfl (.inr (by first | (simp [hf]; done) | simp only [List.mem_singleton, forall_eq, List.all_cons, List.all_nil, Bool.and_true, *])) | exact argC_self rfl) (argl_cons (by first | exact argc_rptr (by simp) rfl rfl rfl (.inr (by first | (simp [hf]; done) | simp only [List.mem_singleton, forall_eq, List.all_cons, List.all_nil, Bool.and_true, *])) | exact argC_self rfl) (argl_cons (by first | exact argc_rptr (by simp) rfl rfl rfl (.inr (by first | (simp [hf]; done) | simp only [List.mem_singleton, forall_eq, List.all_cons, List.all_nil, Bool.and_true, *])) | exact argC_self rfl) (argl_nil)))) (by rfl) | exact arga_agg (by (repeat (refine argl_cons (by first | exact argc_val | exact argc_slsl | exact argc_nil | exact argc_slown (by simp) rfl rfl rfl rfl | exact argc_own rfl | exact argc_slnil) ?_)); exact argl_nil)) ?_)
    exact args_nil) (hpre : s.pre x := by first | trivial | assumption | omega | exact ⟨by first | trivial | assumption | omega, by first | trivial | assumption | omega⟩ | exact ⟨by first | trivial | assumption | omega, by first | trivial | assumption | omega, by first | trivial | assumption | omega⟩) (hobs : Objs hp ks (s.obs x) := by first | trivial | exact objs_cons rfl rfl rfl rfl rfl (.inl rfl) objs_nil)
    (hno : s.new x = no := by rfl) (hren : ren (ks ++ List.range' nx no.length) (s.res x) = some d := by rfl) (hflat : flatD (s.res x) = true := by rfl) (hfo : ∀ o ∈ s.out x ++ s.new x, flatO o := by first | ((repeat (first | exact fm_nil | refine fm_cons (by first | exact flat_i64s _ _ _ _ | exact flat_bks _ _ _ _ | exact flat_pls _ _ _ _ | exact flat_ints _ _ _ _ _ | exact flat_boolD _ _ _ _ | (simp [hf, flatO]; done)) ?_)); done) | (intro o h; first | cases h; done | (simp at h; (try subst h); simp [hf, flatO]; done) | (simp at h; rcases h with rfl | rfl <;> simp [hf, flatO]; done) | (simp at h; rcases h with rfl | rfl | rfl <;> simp [hf, flatO]))) :
    OpRel P o ev hp nx { d, new := numbered nx (s.new x), upd := updOf hp ks (s.out x) } := OpRel.call' hF x ks hkn ho hcf hargs hpre hobs hno hren hflat hfo
theorem r1 {N : Nat} {id : Nat} {ops : Array Oper} (hT : TOk P T) (hP : C.P = P) (hCm : C.m = m) (hN : C.N = N) {l : List Oper} (h : areg P T m l l st (Q .normal)) (he : ops = l.toArray := by rfl) (hd : dstsOk N l = true := by rfl) : awp C (.region id ops false) Q st := awp_reg hT hP hCm hN l he hd h
theorem re1 (h : K st) : areg P T m ops [] st K := h
end steps
section draws
variable {ops : List Oper} {base sl : List (Nat × D)} {rd eh hp : HP} {pins : List Nat} {i nx : Nat} {l : List Oper} {done : List D} {K : St → Prop} {dst : Option Tmp} {op : Op} {ty : TypeId} {pos : String} {af : Array Edge}
theorem d1 (hT : TOk P T) {pre : Prop} {d : D} {done' : List D} {sl' : List (Nat × D)} (h : DReg P ops base rd eh pins (i + 1) l done' hp nx sl' K) (hpin : pins.contains i = false := by rfl) (hf : freeOp op = true := by rfl)
    (hs : astep T op (evD (maskSl { dst := dst, op := op, type := ty, pos := pos, after := af, guard := none } ops done 0 base)) rd 0 = some (pre, { d := d }) := by first | rfl | exact astep_load_r (by rfl) (by rfl) (by first | assumption | exact i64s_get _ _ (by omega) | exact bks_get _ _ (by omega) | exact pls_get _ _ (by omega) | exact ints_get _ _ _ (by omega) | exact boolD_get _ _ (by omega) | exact i64ss_get _ _ (by omega) | exact set_get (by first | omega | (simp only [List.length_map, List.length_set]; omega))) (by rfl) | exact astep_load_p (by rfl) (by rfl) (by rfl) (by first | assumption | exact i64s_get _ _ (by omega) | exact bks_get _ _ (by omega) | exact pls_get _ _ (by omega) | exact ints_get _ _ _ (by omega) | exact boolD_get _ _ (by omega) | exact i64ss_get _ _ (by omega) | exact set_get (by first | omega | (simp only [List.length_map, List.length_set]; omega))) (by rfl) | exact astep_store_p (by rfl) (by rfl) (by rfl) (by rfl) (by first | assumption | exact i64s_get _ _ (by omega) | exact bks_get _ _ (by omega) | exact pls_get _ _ (by omega) | exact ints_get _ _ _ (by omega) | exact boolD_get _ _ (by omega) | exact i64ss_get _ _ (by omega) | exact set_get (by first | omega | (simp only [List.length_map, List.length_set]; omega)))) (hpre : pre := by first | trivial | rfl | exact ⟨rfl, rfl⟩ | exact ⟨rfl, rfl, fun _ => rfl, Nat.le_of_ble_eq_true rfl, .inl rfl⟩ | exact ⟨rfl, rfl, fun h => (nomatch h), Nat.le_of_ble_eq_true rfl, .inl rfl⟩ | exact ⟨rfl, rfl, fun _ => rfl, Nat.le_of_ble_eq_true rfl, .inr rfl⟩ | exact ⟨rfl, rfl, fun h => (nomatch h), Nat.le_of_ble_eq_true rfl, .inr rfl⟩ | omega | exact ⟨rfl, by (repeat (first | exact fm_nil | refine fm_cons ⟨rfl, rfl⟩ ?_)), Nat.le_of_ble_eq_true rfl, Nat.le_of_ble_eq_true rfl⟩ | (refine ⟨?_, ?_, ?_, ?_, ?_, ?_, ?_⟩ <;> first | omega | exact Nat.le_of_ble_eq_true rfl) | exact ⟨rfl, by omega, by (try simp only [List.length_map, List.length_set]); omega⟩ | exact ⟨rfl, by omega, by simp only [Int.toNat_natCast]; omega, by omega, Nat.le_of_ble_eq_true rfl, rfl⟩) (hdn : done ++ [d] = done' := by simp +decide (disch := omega) only [nrm, lk_nrm, dc_nrm, mk_nrm, mf_nrm, ti_nrm, ls_nrm, mp_nrm, nb_nrm, hset, pick_and, pick_or, ↓reduceIte, Nat.reduceAdd, wI64, wI32, wI16, wI8, wU8, List.length_map, Int.toNat_natCast, xn1, xn2, mask_nrm]; rfl) (hsl : putSl dst d sl = sl' := by simp +decide (disch := omega) only [nrm, lk_nrm, dc_nrm, mk_nrm, mf_nrm, ti_nrm, ls_nrm, mp_nrm, nb_nrm, hset, pick_and, pick_or, ↓reduceIte, Nat.reduceAdd, wI64, wI32, wI16, wI8, wU8, List.length_map, Int.toNat_natCast, xn1, xn2, mask_nrm]; rfl) : DReg P ops base rd eh pins i ({ dst := dst, op := op, type := ty, pos := pos, after := af, guard := none } :: l) done hp nx sl K := dreg_free hT hpin hf hs hpre hdn hsl h
theorem dx1 (hT : TOk P T) {pre : Prop} {d : D} {done' : List D} {sl' : List (Nat × D)} (h : DReg P ops base rd eh pins (i + 1) l done' hp nx sl' K) (hear : earB ops pins i = true := by rfl) (hpin : pins.contains i = false := by rfl) (hf : freeOp op = true := by rfl)
    (hs : astep T op (evD (maskSl { dst := dst, op := op, type := ty, pos := pos, after := af, guard := none } ops done 0 base)) eh 0 = some (pre, { d := d }) := by first | rfl | exact astep_load_r (by rfl) (by rfl) (by first | assumption | exact i64s_get _ _ (by omega) | exact bks_get _ _ (by omega) | exact pls_get _ _ (by omega) | exact ints_get _ _ _ (by omega) | exact boolD_get _ _ (by omega) | exact i64ss_get _ _ (by omega) | exact set_get (by first | omega | (simp only [List.length_map, List.length_set]; omega))) (by rfl) | exact astep_load_p (by rfl) (by rfl) (by rfl) (by first | assumption | exact i64s_get _ _ (by omega) | exact bks_get _ _ (by omega) | exact pls_get _ _ (by omega) | exact ints_get _ _ _ (by omega) | exact boolD_get _ _ (by omega) | exact i64ss_get _ _ (by omega) | exact set_get (by first | omega | (simp only [List.length_map, List.length_set]; omega))) (by rfl) | exact astep_store_p (by rfl) (by rfl) (by rfl) (by rfl) (by first | assumption | exact i64s_get _ _ (by omega) | exact bks_get _ _ (by omega) | exact pls_get _ _ (by omega) | exact ints_get _ _ _ (by omega) | exact boolD_get _ _ (by omega) | exact i64ss_get _ _ (by omega) | exact set_get (by first | omega | (simp only [List.length_map, List.length_set]; omega)))) (hpre : pre := by first | trivial | rfl | exact ⟨rfl, rfl⟩ | exact ⟨rfl, rfl, fun _ => rfl, Nat.le_of_ble_eq_true rfl, .inl rfl⟩ | exact ⟨rfl, rfl, fun h => (nomatch h), Nat.le_of_ble_eq_true rfl, .inl rfl⟩ | exact ⟨rfl, rfl, fun _ => rfl, Nat.le_of_ble_eq_true rfl, .inr rfl⟩ | exact ⟨rfl, rfl, fun h => (nomatch h), Nat.le_of_ble_eq_true rfl, .inr rfl⟩ | omega | exact ⟨rfl, by (repeat (first | exact fm_nil | refine fm_cons ⟨rfl, rfl⟩ ?_)), Nat.le_of_ble_eq_true rfl, Nat.le_of_ble_eq_true rfl⟩ | (refine ⟨?_, ?_, ?_, ?_, ?_, ?_, ?_⟩ <;> first | omega | exact Nat.le_of_ble_eq_true rfl) | exact ⟨rfl, by omega, by (try simp only [List.length_map, List.length_set]); omega⟩ | exact ⟨rfl, by omega, by simp only [Int.toNat_natCast]; omega, by omega, Nat.le_of_ble_eq_true rfl, rfl⟩) (hdn : done ++ [d] = done' := by simp +decide (disch := omega) only [nrm, lk_nrm, dc_nrm, mk_nrm, mf_nrm, ti_nrm, ls_nrm, mp_nrm, nb_nrm, hset, pick_and, pick_or, ↓reduceIte, Nat.reduceAdd, wI64, wI32, wI16, wI8, wU8, List.length_map, Int.toNat_natCast, xn1, xn2, mask_nrm]; rfl) (hsl : putSl dst d sl = sl' := by simp +decide (disch := omega) only [nrm, lk_nrm, dc_nrm, mk_nrm, mf_nrm, ti_nrm, ls_nrm, mp_nrm, nb_nrm, hset, pick_and, pick_or, ↓reduceIte, Nat.reduceAdd, wI64, wI32, wI16, wI8, wU8, List.length_map, Int.toNat_natCast, xn1, xn2, mask_nrm]; rfl) : DReg P ops base rd eh pins i ({ dst := dst, op := op, type := ty, pos := pos, after := af, guard := none } :: l) done hp nx sl K := by
  subst hdn; subst hsl
  exact dreg_cons (it := ⟨_, false, true, { d := d }, true⟩) ⟨hpin.symm, fun _ => hear⟩ ⟨rfl, fun _ h => by simp at h, fun _ _ => ⟨rfl, freeOk_of_astep hT hf hs hpre⟩, fun h => by simp at h⟩ h
theorem dg1 (hT : TOk P T) {g : Nat} {want b : Bool} {d : D} {done' : List D} {sl' : List (Nat × D)} (h : DReg P ops base rd eh pins (i + 1) l done' hp nx sl' K) (hpin : pins.contains i = false := by rfl) (hf : freeOp op = true := by rfl)
    (hdep : depOn { dst := dst, op := op, type := ty, pos := pos, after := af, guard := some (g, want) } g = true := by rfl) (hg : guardD ops g (maskSl { dst := dst, op := op, type := ty, pos := pos, after := af, guard := some (g, want) } ops done 0 base) = some b := by rfl)
    (hs : b = want → ∃ pre, astep T op (evD (maskSl { dst := dst, op := op, type := ty, pos := pos, after := af, guard := some (g, want) } ops done 0 base)) rd 0 = some (pre, { d := d }) ∧ pre := by intro hb; simp +decide only [hb, gd_tt, gd_ff, beq_self_eq_true, Bool.true_and, beq_true]; exact ⟨_, by first | rfl | exact astep_load_r (by rfl) (by rfl) (by first | assumption | exact i64s_get _ _ (by omega) | exact bks_get _ _ (by omega) | exact pls_get _ _ (by omega) | exact ints_get _ _ _ (by omega) | exact boolD_get _ _ (by omega) | exact i64ss_get _ _ (by omega) | exact set_get (by first | omega | (simp only [List.length_map, List.length_set]; omega))) (by rfl) | exact astep_load_p (by rfl) (by rfl) (by rfl) (by first | assumption | exact i64s_get _ _ (by omega) | exact bks_get _ _ (by omega) | exact pls_get _ _ (by omega) | exact ints_get _ _ _ (by omega) | exact boolD_get _ _ (by omega) | exact i64ss_get _ _ (by omega) | exact set_get (by first | omega | (simp only [List.length_map, List.length_set]; omega))) (by rfl) | exact astep_store_p (by rfl) (by rfl) (by rfl) (by rfl) (by first | assumption | exact i64s_get _ _ (by omega) | exact bks_get _ _ (by omega) | exact pls_get _ _ (by omega) | exact ints_get _ _ _ (by omega) | exact boolD_get _ _ (by omega) | exact i64ss_get _ _ (by omega) | exact set_get (by first | omega | (simp only [List.length_map, List.length_set]; omega))), by first | trivial | rfl | exact ⟨rfl, rfl⟩ | exact ⟨rfl, rfl, fun _ => rfl, Nat.le_of_ble_eq_true rfl, .inl rfl⟩ | exact ⟨rfl, rfl, fun h => (nomatch h), Nat.le_of_ble_eq_true rfl, .inl rfl⟩ | exact ⟨rfl, rfl, fun _ => rfl, Nat.le_of_ble_eq_true rfl, .inr rfl⟩ | exact ⟨rfl, rfl, fun h => (nomatch h), Nat.le_of_ble_eq_true rfl, .inr rfl⟩ | omega | exact ⟨rfl, by (repeat (first | exact fm_nil | refine fm_cons ⟨rfl, rfl⟩ ?_)), Nat.le_of_ble_eq_true rfl, Nat.le_of_ble_eq_true rfl⟩ | (refine ⟨?_, ?_, ?_, ?_, ?_, ?_, ?_⟩ <;> first | omega | exact Nat.le_of_ble_eq_true rfl) | exact ⟨rfl, by omega, by (try simp only [List.length_map, List.length_set]); omega⟩ | exact ⟨rfl, by omega, by simp only [Int.toNat_natCast]; omega, by omega, Nat.le_of_ble_eq_true rfl, rfl⟩⟩) (hdn : done ++ [gd b want d] = done' := by simp +decide (disch := omega) only [nrm, lk_nrm, dc_nrm, mk_nrm, mf_nrm, ti_nrm, ls_nrm, mp_nrm, nb_nrm, hset, pick_and, pick_or, ↓reduceIte, Nat.reduceAdd, wI64, wI32, wI16, wI8, wU8, List.length_map, Int.toNat_natCast, xn1, xn2, mask_nrm]; rfl) (hsl : putSl dst (gd b want d) sl = sl' := by simp +decide (disch := omega) only [nrm, lk_nrm, dc_nrm, mk_nrm, mf_nrm, ti_nrm, ls_nrm, mp_nrm, nb_nrm, hset, pick_and, pick_or, ↓reduceIte, Nat.reduceAdd, wI64, wI32, wI16, wI8, wU8, List.length_map, Int.toNat_natCast, xn1, xn2, mask_nrm]; rfl) : DReg P ops base rd eh pins i ({ dst := dst, op := op, type := ty, pos := pos, after := af, guard := some (g, want) } :: l) done hp nx sl K := dreg_gfree hT hpin hf hdep hg hs hdn hsl h
theorem dgg1 (hT : TOk P T) {g : Nat} {want b e w : Bool} {d : D} {done' : List D} {sl' : List (Nat × D)} (h : DReg P ops base rd eh pins (i + 1) l done' hp nx sl' K) (hpin : pins.contains i = false := by rfl) (hf : freeOp op = true := by rfl)
    (hdep : depOn { dst := dst, op := op, type := ty, pos := pos, after := af, guard := some (g, want) } g = true := by rfl) (hg : gslot ops g (maskSl { dst := dst, op := op, type := ty, pos := pos, after := af, guard := some (g, want) } ops done 0 base) = some (gd e w (.val (.bool b))) := by rfl)
    (hs : e = w → b = want → ∃ pre, astep T op (evD (maskSl { dst := dst, op := op, type := ty, pos := pos, after := af, guard := some (g, want) } ops done 0 base)) rd 0 = some (pre, { d := d }) ∧ pre := by intro he hb; simp +decide only [he, hb, gd_tt, gd_ff, beq_self_eq_true, Bool.true_and, beq_true]; exact ⟨_, by first | rfl | exact astep_load_r (by rfl) (by rfl) (by first | assumption | exact i64s_get _ _ (by omega) | exact bks_get _ _ (by omega) | exact pls_get _ _ (by omega) | exact ints_get _ _ _ (by omega) | exact boolD_get _ _ (by omega) | exact i64ss_get _ _ (by omega) | exact set_get (by first | omega | (simp only [List.length_map, List.length_set]; omega))) (by rfl) | exact astep_load_p (by rfl) (by rfl) (by rfl) (by first | assumption | exact i64s_get _ _ (by omega) | exact bks_get _ _ (by omega) | exact pls_get _ _ (by omega) | exact ints_get _ _ _ (by omega) | exact boolD_get _ _ (by omega) | exact i64ss_get _ _ (by omega) | exact set_get (by first | omega | (simp only [List.length_map, List.length_set]; omega))) (by rfl) | exact astep_store_p (by rfl) (by rfl) (by rfl) (by rfl) (by first | assumption | exact i64s_get _ _ (by omega) | exact bks_get _ _ (by omega) | exact pls_get _ _ (by omega) | exact ints_get _ _ _ (by omega) | exact boolD_get _ _ (by omega) | exact i64ss_get _ _ (by omega) | exact set_get (by first | omega | (simp only [List.length_map, List.length_set]; omega))), by first | trivial | rfl | exact ⟨rfl, rfl⟩ | exact ⟨rfl, rfl, fun _ => rfl, Nat.le_of_ble_eq_true rfl, .inl rfl⟩ | exact ⟨rfl, rfl, fun h => (nomatch h), Nat.le_of_ble_eq_true rfl, .inl rfl⟩ | exact ⟨rfl, rfl, fun _ => rfl, Nat.le_of_ble_eq_true rfl, .inr rfl⟩ | exact ⟨rfl, rfl, fun h => (nomatch h), Nat.le_of_ble_eq_true rfl, .inr rfl⟩ | omega | exact ⟨rfl, by (repeat (first | exact fm_nil | refine fm_cons ⟨rfl, rfl⟩ ?_)), Nat.le_of_ble_eq_true rfl, Nat.le_of_ble_eq_true rfl⟩ | (refine ⟨?_, ?_, ?_, ?_, ?_, ?_, ?_⟩ <;> first | omega | exact Nat.le_of_ble_eq_true rfl) | exact ⟨rfl, by omega, by (try simp only [List.length_map, List.length_set]); omega⟩ | exact ⟨rfl, by omega, by simp only [Int.toNat_natCast]; omega, by omega, Nat.le_of_ble_eq_true rfl, rfl⟩⟩) (hdn : done ++ [gd ((e == w) && (b == want)) true d] = done' := by simp +decide (disch := omega) only [nrm, lk_nrm, dc_nrm, mk_nrm, mf_nrm, ti_nrm, ls_nrm, mp_nrm, nb_nrm, hset, pick_and, pick_or, ↓reduceIte, Nat.reduceAdd, wI64, wI32, wI16, wI8, wU8, List.length_map, Int.toNat_natCast, xn1, xn2, mask_nrm]; rfl) (hsl : putSl dst (gd ((e == w) && (b == want)) true d) sl = sl' := by simp +decide (disch := omega) only [nrm, lk_nrm, dc_nrm, mk_nrm, mf_nrm, ti_nrm, ls_nrm, mp_nrm, nb_nrm, hset, pick_and, pick_or, ↓reduceIte, Nat.reduceAdd, wI64, wI32, wI16, wI8, wU8, List.length_map, Int.toNat_natCast, xn1, xn2, mask_nrm]; rfl) : DReg P ops base rd eh pins i ({ dst := dst, op := op, type := ty, pos := pos, after := af, guard := some (g, want) } :: l) done hp nx sl K := dreg_gfree2 hT hpin hf hdep hg hs hdn hsl h
theorem dp1 {r : Res} {done' : List D} {sl' : List (Nat × D)} {hp' : HP} {nx' : Nat} (h : DReg P ops base rd eh pins (i + 1) l done' hp' nx' sl' K) (hr : OpRel P { dst := dst, op := op, type := ty, pos := pos, after := af, guard := none } (evD (maskSl { dst := dst, op := op, type := ty, pos := pos, after := af, guard := none } ops done 0 base)) hp nx r) (hpin : pins.contains i = true := by rfl) (hu : ∀ p ∈ r.upd, lk p.1 rd = none := by simp [updOf, rdOf, lk])
    (hdn : done ++ [r.d] = done' := by simp +decide (disch := omega) only [nrm, lk_nrm, dc_nrm, mk_nrm, mf_nrm, ti_nrm, ls_nrm, mp_nrm, nb_nrm, hset, pick_and, pick_or, ↓reduceIte, Nat.reduceAdd, wI64, wI32, wI16, wI8, wU8, List.length_map, Int.toNat_natCast, xn1, xn2, mask_nrm]; rfl) (hhp : r.hpOf hp = hp' := by simp +decide (disch := omega) only [nrm, lk_nrm, dc_nrm, mk_nrm, mf_nrm, ti_nrm, ls_nrm, mp_nrm, nb_nrm, hset, pick_and, pick_or, ↓reduceIte, Nat.reduceAdd, wI64, wI32, wI16, wI8, wU8, List.length_map, Int.toNat_natCast, xn1, xn2, mask_nrm]; try rfl) (hnx : nx + r.new.length = nx' := by simp +decide (disch := omega) only [nrm, lk_nrm, dc_nrm, mk_nrm, mf_nrm, ti_nrm, ls_nrm, mp_nrm, nb_nrm, hset, pick_and, pick_or, ↓reduceIte, Nat.reduceAdd, wI64, wI32, wI16, wI8, wU8, List.length_map, Int.toNat_natCast, xn1, xn2, mask_nrm]; try rfl) (hsl : putSl dst r.d sl = sl' := by simp +decide (disch := omega) only [nrm, lk_nrm, dc_nrm, mk_nrm, mf_nrm, ti_nrm, ls_nrm, mp_nrm, nb_nrm, hset, pick_and, pick_or, ↓reduceIte, Nat.reduceAdd, wI64, wI32, wI16, wI8, wU8, List.length_map, Int.toNat_natCast, xn1, xn2, mask_nrm]; rfl) : DReg P ops base rd eh pins i ({ dst := dst, op := op, type := ty, pos := pos, after := af, guard := none } :: l) done hp nx sl K := dreg_pin hpin hr hu hdn hhp hnx hsl h
theorem dgp1 {g : Nat} {want b : Bool} {d : D} {done' : List D} {sl' : List (Nat × D)} (h : DReg P ops base rd eh pins (i + 1) l done' hp nx sl' K) (hpin : pins.contains i = true := by rfl)
    (hdep : depOn { dst := dst, op := op, type := ty, pos := pos, after := af, guard := some (g, want) } g = true := by rfl) (hg : guardD ops g (maskSl { dst := dst, op := op, type := ty, pos := pos, after := af, guard := some (g, want) } ops done 0 base) = some b := by rfl)
    (hr : b = want → ∃ r, OpRel P { dst := dst, op := op, type := ty, pos := pos, after := af, guard := some (g, want) } (evD (maskSl { dst := dst, op := op, type := ty, pos := pos, after := af, guard := some (g, want) } ops done 0 base)) hp nx r ∧ r.d = d ∧ r.new = [] ∧ r.upd = []) (hdn : done ++ [gd b want d] = done' := by simp +decide (disch := omega) only [nrm, lk_nrm, dc_nrm, mk_nrm, mf_nrm, ti_nrm, ls_nrm, mp_nrm, nb_nrm, hset, pick_and, pick_or, ↓reduceIte, Nat.reduceAdd, wI64, wI32, wI16, wI8, wU8, List.length_map, Int.toNat_natCast, xn1, xn2, mask_nrm]; rfl) (hsl : putSl dst (gd b want d) sl = sl' := by simp +decide (disch := omega) only [nrm, lk_nrm, dc_nrm, mk_nrm, mf_nrm, ti_nrm, ls_nrm, mp_nrm, nb_nrm, hset, pick_and, pick_or, ↓reduceIte, Nat.reduceAdd, wI64, wI32, wI16, wI8, wU8, List.length_map, Int.toNat_natCast, xn1, xn2, mask_nrm]; rfl) : DReg P ops base rd eh pins i ({ dst := dst, op := op, type := ty, pos := pos, after := af, guard := some (g, want) } :: l) done hp nx sl K := dreg_gpin hpin hdep hg hr hdn hsl h
end draws
end Go.Proofs.Ytjkhgcmdcjdipaa.Abs

/- Abs, part 23: nil slices as objects of no elements; weakenings one after another. -/
set_option linter.unusedVariables false
set_option linter.unusedSimpArgs false
namespace Go.Proofs.Ytjkhgcmdcjdipaa.Abs
open Go Go.RowKit
variable {P : Program} {T : TT} {C : Ctx}

theorem Weak.rfl' {a : St} : Weak C a a := fun _ _ h => h

/-- A nil slice is an object of no elements. -/
theorem weak_nil (t : Nat) (ty : TypeId) (sz : Nat) {sl : List (Nat × D)} {hp : HP} {nx : Nat} (ht : lk t sl = some .nil) : Weak C ⟨sl, hp, nx⟩ ⟨(t, .own nx) :: sl, (nx, ⟨ty, sz, false, []⟩) :: hp, nx + 1⟩ := fun a w ⟨hv, hH, hk, hm, hpn, hS⟩ => by
  have hfresh : lk nx hp = none := by
    cases h : lk nx hp with
    | none => rfl
    | some ob => have := hk nx ob h; simp at this
  obtain ⟨hI, hL, hF⟩ := hH.alloc (h0 := nx) hfresh (ob := ⟨ty, sz, false, []⟩) (v := .slice none 0 0) (w' := w) (Below.refl _ w) (fun b hb => by cases hb)
    ⟨[], ⟨by simp, .inl ⟨rfl, rfl⟩⟩, fun x hx => by simp at hx, fun i j x d hi => by simp at hi⟩
  refine ⟨_, hI, fun h ob hl => ?_, Nat.le_succ_of_le hm, fun h ob hl hlt => ?_, hS.defers, hS.size, fun t' d hl => ?_⟩
  · simp only at hl ⊢
    rw [lk_cons] at hl
    split at hl
    · rename_i e; subst e; exact Nat.lt_succ_self _
    · exact Nat.lt_succ_of_lt (hk h ob hl)
  · simp only at hl
    rw [lk_cons] at hl
    have hne : h ≠ nx := fun e => by subst e; simp only at hm; omega
    rw [if_neg hne] at hl
    simp only [hne, if_false]
    exact hpn h ob hl hlt
  · rw [lk_cons] at hl
    split at hl
    · rename_i e
      subst e
      cases hl
      have h1 : RepP w (FOf C.G hv hp w) .nil (a.tmps.getD t' undef) := hS.at_ t' _ ht
      refine ⟨sz, ?_⟩
      simp only [LOf, lk_cons, if_true, Option.map_some]
      generalize a.tmps.getD t' undef = u at h1
      cases h1
      rfl
    · exact (hS.at_ t' d hl).mono hL hF

/-! ### append -/
theorem kl_nrm : (∀ (h t : Nat) (d : D) (sl : List (Nat × D)), killSl (some h) ((t, d) :: sl) = (t, kill h d) :: killSl (some h) sl) ∧ (∀ h : Nat, killSl (some h) [] = []) ∧ (∀ (h : Nat) (v : Value), kill h (.val v) = .val v) ∧ (∀ h : Nat, kill h .nil = .nil) ∧ (∀ h : Nat, kill h .any = .any) ∧ (∀ (h sz : Nat) (xs : List (List D)), kill h (.sl sz xs) = .sl sz xs) ∧
    (∀ (h sz i off : Nat) (xs : List (List D)), kill h (.rptr sz xs i off) = .rptr sz xs i off) ∧ (∀ (h : Nat) (f : Fn) (cs : List D), kill h (.clo f cs) = .clo f cs) ∧ (∀ h k : Nat, kill h (.own k) = if k = h then .any else .own k) ∧ (∀ h k i off : Nat, kill h (.ptr k i off) = if k = h then .any else .ptr k i off) ∧ (∀ h k lo n : Nat, kill h (.vw k lo n) = if k = h then .any else .vw k lo n) ∧
    (∀ h k i off es n : Nat, kill h (.cvw k i off es n) = if k = h then .any else .cvw k i off es n) ∧ (∀ (h : Nat) (cs : List D), kill h (.agg cs) = .agg (cs.map (killC h))) ∧ (∀ (h : Nat) (ds : List D), kill h (.tup ds) = .any) ∧ (∀ (h : Nat) (f : Fn) (fs cs : List D), kill h (.fn f fs cs) = .fn f (fs.map (killC h)) (cs.map (killC h))) ∧
    (∀ (h : Nat) (v : Value), killC h (.val v) = .val v) ∧ (∀ h : Nat, killC h .nil = .nil) ∧ (∀ h : Nat, killC h .any = .any) ∧ (∀ (h sz : Nat) (xs : List (List D)), killC h (.sl sz xs) = .sl sz xs) ∧ (∀ (h sz i off : Nat) (xs : List (List D)), killC h (.rptr sz xs i off) = .rptr sz xs i off) ∧ (∀ h k : Nat, killC h (.own k) = if k = h then .any else .own k) ∧ (∀ h k i off : Nat, killC h (.ptr k i off) = if k = h then .any else .ptr k i off) ∧
    (∀ h k lo n : Nat, killC h (.vw k lo n) = if k = h then .any else .vw k lo n) ∧ (∀ (h : Nat) (b w : Bool) (d : D), kill h (gd b w d) = gd b w (kill h d)) ∧ (∀ (h : Nat) (ty : TypeId) (sz : Nat) (xs : List (List D)), Ob.kill h ⟨ty, sz, false, xs⟩ = ⟨ty, sz, false, xs⟩) ∧ (∀ (h : Nat) (ty : TypeId) (sz : Nat) (xs : List (List D)), Ob.kill h ⟨ty, sz, true, xs⟩ = ⟨ty, sz, true, xs.map (·.map (killC h))⟩) ∧
    (∀ (ty : TypeId) (sz : Nat) (dp : Bool) (xs rows : List (List D)), Ob.app ⟨ty, sz, dp, xs⟩ rows = ⟨ty, sz, dp, xs ++ rows⟩) ∧ (∀ (h k : Nat) (o : Ob) (hp : HP), killHP h ((k, o) :: hp) = (k, o.kill h) :: killHP h hp) ∧ (∀ h : Nat, killHP h [] = []) ∧ (∀ (d : D) (upd : List (Nat × Ob)) (h : Nat) (hp : HP), Res.hpOf { d := d, upd := upd, dead := some h } hp = updHP upd (killHP h hp)) :=
  ⟨fun _ _ _ _ => rfl, fun _ => rfl, fun _ _ => rfl, fun _ => rfl, fun _ => rfl, fun _ _ _ => rfl, fun _ _ _ _ _ => rfl, fun _ _ _ => rfl, fun _ _ => rfl, fun _ _ _ _ => rfl, fun _ _ _ _ => rfl, fun _ _ _ _ _ _ => rfl, fun _ _ => rfl, fun _ _ => rfl, fun _ _ _ _ => rfl,
    fun _ _ => rfl, fun _ => rfl, fun _ => rfl, fun _ _ _ => rfl, fun _ _ _ _ _ => rfl, fun _ _ => rfl, fun _ _ _ _ => rfl, fun _ _ _ _ => rfl, fun h b w d => by cases b <;> cases w <;> rfl, fun _ _ _ _ => rfl, fun _ _ _ _ => rfl, fun _ _ _ _ _ => rfl, fun _ _ _ _ => rfl, fun _ => rfl, fun _ _ _ _ => rfl⟩
section
variable {m : Nat} {ops l : List Oper} {st st' : St} {K : St → Prop} {dst : Option Tmp} {op : Op} {ty : TypeId} {pos : String} {af : Array Edge}
theorem ga1 {pre : Prop} {r : Res} (hK : areg P T m ops l st' K) (hs : astep T op (evD st.sl) st.hp st.nx = some (pre, r) := by rfl) (hd : deadOk m r = true := by rfl)
    (hpre : pre := by refine ⟨?_, ?_, ?_, ?_, ?_, ?_, ?_⟩ <;> first | trivial | rfl | exact Nat.le_of_ble_eq_true rfl | (intro h; cases h; done) | (simp only [List.length_map, List.length_append, List.length_cons, List.length_nil]; omega))
    (hst : st.app dst r = st' := by simp +decide (disch := omega) only [nrm, lk_nrm, dc_nrm, mk_nrm, mf_nrm, ti_nrm, ls_nrm, mp_nrm, nb_nrm, hset, pick_and, pick_or, ↓reduceIte, Nat.reduceAdd, wI64, wI32, wI16, wI8, wU8, List.length_map, Int.toNat_natCast, kl_nrm]; rfl) : areg P T m ops ({ dst := dst, op := op, type := ty, pos := pos, after := af, guard := none } :: l) st K := areg_go hs hd hpre hst hK
end

/-! ### Guards whose answer is known -/
section
variable {m : Nat} {ops l : List Oper} {st st' : St} {K : St → Prop} {dst : Option Tmp} {op : Op} {ty : TypeId} {pos : String} {af : Array Edge}
theorem gy1 {j : Nat} {want : Bool} {pre : Prop} {r : Res} (hK : areg P T m ops l st' K) (hg : guardD ops j st.sl = some want := by rfl) (hs : astep T op (evD st.sl) st.hp st.nx = some (pre, r) := by first | rfl | exact astep_load_r (by rfl) (by rfl) (by first | assumption | exact i64s_get _ _ (by omega) | exact bks_get _ _ (by omega) | exact pls_get _ _ (by omega) | exact ints_get _ _ _ (by omega) | exact boolD_get _ _ (by omega) | exact i64ss_get _ _ (by omega) | exact set_get (by first | omega | (simp only [List.length_map, List.length_set]; omega))) (by rfl) | exact astep_load_p (by rfl) (by rfl) (by rfl) (by first | assumption | exact i64s_get _ _ (by omega) | exact bks_get _ _ (by omega) | exact pls_get _ _ (by omega) | exact ints_get _ _ _ (by omega) | exact boolD_get _ _ (by omega) | exact i64ss_get _ _ (by omega) | exact set_get (by first | omega | (simp only [List.length_map, List.length_set]; omega))) (by rfl) | exact astep_store_p (by rfl) (by rfl) (by rfl) (by rfl) (by first | assumption | exact i64s_get _ _ (by omega) | exact bks_get _ _ (by omega) | exact pls_get _ _ (by omega) | exact ints_get _ _ _ (by omega) | exact boolD_get _ _ (by omega) | exact i64ss_get _ _ (by omega) | exact set_get (by first | omega | (simp only [List.length_map, List.length_set]; omega)))) (hd : deadOk m r = true := by rfl) (hpre : pre := by first | trivial | rfl | exact ⟨rfl, rfl⟩ | exact ⟨rfl, rfl, fun _ => rfl, Nat.le_of_ble_eq_true rfl, .inl rfl⟩ | exact ⟨rfl, rfl, fun h => (nomatch h), Nat.le_of_ble_eq_true rfl, .inl rfl⟩ | exact ⟨rfl, rfl, fun _ => rfl, Nat.le_of_ble_eq_true rfl, .inr rfl⟩ | exact ⟨rfl, rfl, fun h => (nomatch h), Nat.le_of_ble_eq_true rfl, .inr rfl⟩ | omega | exact ⟨rfl, by repeat (first | exact fm_nil | refine fm_cons ⟨rfl, rfl⟩ ?_), Nat.le_of_ble_eq_true rfl, Nat.le_of_ble_eq_true rfl⟩ | (refine ⟨?_, ?_, ?_, ?_, ?_, ?_, ?_⟩ <;> first | omega | exact Nat.le_of_ble_eq_true rfl) | exact ⟨rfl, by omega, by (try simp only [List.length_map, List.length_set]); omega⟩ | exact ⟨rfl, by omega, by simp only [Int.toNat_natCast]; omega, by omega, Nat.le_of_ble_eq_true rfl, rfl⟩)
    (hst : st.app dst r = st' := by simp +decide (disch := omega) only [nrm, lk_nrm, dc_nrm, mk_nrm, mf_nrm, ti_nrm, ls_nrm, mp_nrm, nb_nrm, hset, pick_and, pick_or, ↓reduceIte, Nat.reduceAdd, wI64, wI32, wI16, wI8, wU8, List.length_map, Int.toNat_natCast, xn1, xn2]; rfl) : areg P T m ops ({ dst := dst, op := op, type := ty, pos := pos, after := af, guard := some (j, want) } :: l) st K := areg_yes_go hg hs hd hpre hst hK
theorem gyc1 {j : Nat} {want : Bool} {r : Res} (hK : areg P T m ops l st' K) (hr : OpRel P { dst := dst, op := op, type := ty, pos := pos, after := af, guard := some (j, want) } (evD st.sl) st.hp st.nx r) (hg : guardD ops j st.sl = some want := by rfl) (hs : astep T op (evD st.sl) st.hp st.nx = none := by rfl)
    (hst : st.app dst r = st' := by simp +decide (disch := omega) only [nrm, lk_nrm, dc_nrm, mk_nrm, mf_nrm, ti_nrm, ls_nrm, mp_nrm, nb_nrm, hset, pick_and, pick_or, ↓reduceIte, Nat.reduceAdd, wI64, wI32, wI16, wI8, wU8, List.length_map, Int.toNat_natCast, xn1, xn2]; rfl) : areg P T m ops ({ dst := dst, op := op, type := ty, pos := pos, after := af, guard := some (j, want) } :: l) st K := areg_yes_call hg hs hr hst hK
end
section
variable {ops : List Oper} {base sl : List (Nat × D)} {rd eh hp : HP} {pins : List Nat} {i nx : Nat} {l : List Oper} {done : List D} {K : St → Prop} {dst : Option Tmp} {op : Op} {ty : TypeId} {pos : String} {af : Array Edge}
theorem dgp2 {g : Nat} {want b e w : Bool} {d : D} {done' : List D} {sl' : List (Nat × D)} (h : DReg P ops base rd eh pins (i + 1) l done' hp nx sl' K) (hpin : pins.contains i = true := by rfl)
    (hdep : depOn { dst := dst, op := op, type := ty, pos := pos, after := af, guard := some (g, want) } g = true := by rfl) (hg : gslot ops g (maskSl { dst := dst, op := op, type := ty, pos := pos, after := af, guard := some (g, want) } ops done 0 base) = some (gd e w (.val (.bool b))) := by rfl)
    (hr : e = w → b = want → ∃ r, OpRel P { dst := dst, op := op, type := ty, pos := pos, after := af, guard := some (g, want) } (evD (maskSl { dst := dst, op := op, type := ty, pos := pos, after := af, guard := some (g, want) } ops done 0 base)) hp nx r ∧ r.d = d ∧ r.new = [] ∧ r.upd = [])
    (hdn : done ++ [gd ((e == w) && (b == want)) true d] = done' := by simp +decide (disch := omega) only [nrm, lk_nrm, dc_nrm, mk_nrm, mf_nrm, ti_nrm, ls_nrm, mp_nrm, nb_nrm, hset, pick_and, pick_or, ↓reduceIte, Nat.reduceAdd, wI64, wI32, wI16, wI8, wU8, List.length_map, Int.toNat_natCast, xn1, xn2, mask_nrm]; rfl) (hsl : putSl dst (gd ((e == w) && (b == want)) true d) sl = sl' := by simp +decide (disch := omega) only [nrm, lk_nrm, dc_nrm, mk_nrm, mf_nrm, ti_nrm, ls_nrm, mp_nrm, nb_nrm, hset, pick_and, pick_or, ↓reduceIte, Nat.reduceAdd, wI64, wI32, wI16, wI8, wU8, List.length_map, Int.toNat_natCast, xn1, xn2, mask_nrm]; rfl) : DReg P ops base rd eh pins i ({ dst := dst, op := op, type := ty, pos := pos, after := af, guard := some (g, want) } :: l) done hp nx sl K := by
  by_cases he : e = w
  · subst he
    have e1 : gd e e (.val (.bool b)) = .val (.bool b) := by simp [gd]
    rw [e1] at hg
    have e2 : gd ((e == e) && (b == want)) true d = gd b want d := by cases b <;> cases want <;> simp [gd]
    rw [e2] at hdn hsl
    exact dreg_gpin hpin hdep (gslot_D hg) (hr rfl) hdn hsl h
  · have e1 : gd e w (.val (.bool b)) = .val undef := by simp [gd, he]
    rw [e1] at hg
    have e2 : gd ((e == w) && (b == want)) true d = .val undef := by simp [gd, he]
    rw [e2] at hdn hsl
    subst hdn; subst hsl
    exact dreg_cons (it := ⟨_, true, false, { d := .val undef }, false⟩) ⟨hpin.symm, fun h => Bool.noConfusion h⟩ ⟨⟨hdep, .inr ⟨gslot_U hg, rfl⟩⟩, fun h => by simp at h, fun h => by simp at h, fun _ => rfl⟩ h
end
end Go.Proofs.Ytjkhgcmdcjdipaa.Abs

/- Abs, part 24: arrays of booleans whose cells are looked at by a number that is not known. -/
set_option linter.unusedVariables false
set_option linter.unusedSimpArgs false
namespace Go.Proofs.Ytjkhgcmdcjdipaa.Abs
open Go Go.RowKit
variable {P : Program} {T : TT} {C : Ctx}
abbrev boolR (bs : List Bool) : List D := bs.map fun b => .val (.bool b)
abbrev boolsV (bs : List Bool) : D := .val (.agg (bs.map Value.bool).toArray)
theorem allVals_bools : ∀ bs : List Bool, allVals (boolR bs) = some (bs.map Value.bool)
  | [] => rfl
  | b :: bs => by
    have := allVals_bools bs
    simp only [boolR, List.map_cons, allVals] at this ⊢
    rw [this]
    rfl
theorem mkAgg_bools (bs : List Bool) : mkAgg (boolR bs) = boolsV bs := by unfold mkAgg; rw [allVals_bools]
theorem dcells_bools (bs : List Bool) : dcells (boolsV bs) = boolR bs := by simp [dcells]
theorem readAt_bools {bs : List Bool} {n : Nat} (h : bs.length = n) : readAt true n (boolR bs) 0 = some (boolsV bs) := by
  subst h
  unfold readAt
  rw [if_pos rfl, if_pos (by simp)]
  rw [List.drop_zero, List.take_of_length_le (by simp), mkAgg_bools]
theorem readAt_bool {bs : List Bool} {off : Nat} (h : off < bs.length) : readAt false 1 (boolR bs) off = some (.val (.bool (bs.getD off false))) := by
  unfold readAt
  rw [if_neg (by simp)]
  simp [List.getD, h]
theorem load_bools {t : TypeId} {x : Operand} {ev : Operand → D} {hp : HP} {nx h : Nat} {ob : Ob} {ti : TI} {bs : List Bool} (ha : ev x = .ptr h 0 0) (hl : lk t T = some ti) (ho : lk h hp = some ob) (hx : ob.xs = [boolR bs]) (hg : ti.aggB = true) (hn : bs.length = ti.size) :
    astep T (.load t x) ev hp nx = some (True, { d := boolsV bs }) := astep_load_p ha hl ho (by rw [hx]; rfl) (by rw [hg]; exact readAt_bools hn)
theorem load_bool {t : TypeId} {x : Operand} {ev : Operand → D} {hp : HP} {nx h off : Nat} {ob : Ob} {ti : TI} {bs : List Bool} (ha : ev x = .ptr h 0 off) (hl : lk t T = some ti) (ho : lk h hp = some ob) (hx : ob.xs = [boolR bs]) (hg : ti.aggB = false) (hs : ti.size = 1) (hn : off < bs.length) :
    astep T (.load t x) ev hp nx = some (True, { d := .val (.bool (bs.getD off false)) }) := astep_load_p ha hl ho (by rw [hx]; rfl) (by rw [hg, hs]; exact readAt_bool hn)
theorem store_bool {t : TypeId} {x y : Operand} {ev : Operand → D} {hp : HP} {nx h off : Nat} {ob : Ob} {ti : TI} {bs : List Bool} {b : Bool} (ha : ev x = .ptr h 0 off) (hy : ev y = .val (.bool b)) (hl : lk t T = some ti) (ho : lk h hp = some ob) (hx : ob.xs = [boolR bs]) (hd : ob.deep = true) (hg : ti.aggB = false) (hs : ti.size = 1) (hn : off < bs.length) :
    ∃ pre : Prop, pre ∧ astep T (.store t x y) ev hp nx = some (pre, { d := .any, upd := [(h, ⟨ob.ty, ob.sz, ob.deep, [boolR (bs.set off b)]⟩)] }) := by
  have h0 := astep_store_p (T := T) (nx := nx) ha hy hl ho (row := boolR bs) (by rw [hx]; rfl)
  rw [h0]
  refine ⟨_, ?_, congrArg some (Prod.ext rfl ?_)⟩
  · exact ⟨rfl, by rw [hs]; rfl, fun _ => hs, by rw [hs]; simp; omega, .inl hd⟩
  · rw [hx, hg]
    simp [putCells, dcells]
theorem store_bools {t : TypeId} {x y : Operand} {ev : Operand → D} {hp : HP} {nx h : Nat} {ob : Ob} {ti : TI} {bs : List Bool} {row : List D} (ha : ev x = .ptr h 0 0) (hy : ev y = boolsV bs) (hl : lk t T = some ti) (ho : lk h hp = some ob) (hx : ob.xs = [row]) (hd : ob.deep = true) (hg : ti.aggB = true) (hs : ti.size = bs.length) (hn : row.length = bs.length) :
    ∃ pre : Prop, pre ∧ astep T (.store t x y) ev hp nx = some (pre, { d := .any, upd := [(h, ⟨ob.ty, ob.sz, ob.deep, [boolR bs]⟩)] }) := by
  have h0 := astep_store_p (T := T) (nx := nx) ha hy hl ho (row := row) (by rw [hx]; rfl)
  rw [h0]
  refine ⟨_, ?_, congrArg some (Prod.ext rfl ?_)⟩
  · refine ⟨?_, by rw [dcells_bools, hs]; simp, fun h => (by rw [hg] at h; cases h), by rw [hs, hn]; omega, .inl hd⟩
    simp [cellsOk, Value.oneCell']
  · rw [hx, hg, dcells_bools]
    simp [putCells, hn]
theorem out_bools {sl : List (Nat × D)} {hp : HP} {a h : Nat} {t : TypeId} {ob : Ob} {ti : TI} {bs : List Bool} (ha : evD sl (.tmp a) = .ptr h 0 0) (hl : lk t T = some ti) (ho : lk h hp = some ob) (hx : ob.xs = [boolR bs]) (hg : ti.aggB = true) (hn : bs.length = ti.size) : outD T sl hp [.cell a t] = some (boolsV bs) := by
  have : stepLoad T t hp (.ptr h 0 0) = some (True, { d := boolsV bs }) := by
    have := load_bools (T := T) (t := t) (x := .tmp a) (ev := fun _ => .ptr h 0 0) (hp := hp) (nx := 0) rfl hl ho hx hg hn
    simpa [astep] using this
  simp [outD, resDs, resD, ha, this]
section
variable {m : Nat} {ops l : List Oper} {st st' : St} {K : St → Prop} {dst : Option Tmp} {op : Op} {ty : TypeId} {pos : String} {af : Array Edge}
theorem gst {r : Res} (hs : ∃ pre : Prop, pre ∧ astep T op (evD st.sl) st.hp st.nx = some (pre, r)) (hd : deadOk m r = true) (hst : st.app dst r = st') (hK : areg P T m ops l st' K) : areg P T m ops ({ dst := dst, op := op, type := ty, pos := pos, after := af, guard := none } :: l) st K := by
  obtain ⟨pre, hp, h⟩ := hs
  exact areg_go h hd hp hst hK
end
theorem kc_bools (h : Nat) (bs : List Bool) : List.map (killC h) (boolR bs) = boolR bs := by simp [killC]
theorem dh_nrm : (∀ (h k : Nat) (o : Ob) (hp : HP), dropHP h ((k, o) :: hp) = if k = h then dropHP h hp else (k, o.kill h) :: dropHP h hp) ∧ (∀ h : Nat, dropHP h [] = []) :=
  ⟨fun h k o hp => by
    unfold dropHP killHP
    by_cases e : k = h
    · simp [e]
    · simp [e], fun h => rfl⟩
end Go.Proofs.Ytjkhgcmdcjdipaa.Abs

/- Abs, part 25: == of structs and arrays of integers. -/
set_option linter.unusedVariables false
set_option linter.unusedSimpArgs false
namespace Go.Proofs.Ytjkhgcmdcjdipaa.Abs
open Go Go.RowKit
variable {P : Program} {T : TT} {C : Ctx}
/-- A flat value: an aggregate, or one integer. -/
def vOf (ag : Bool) (ks : List IntKind) (ns : List Int) : Value := if ag then .agg (intVs ks ns).toArray else (intVs ks ns).headD undef
/-- What == says of flat values of a type, n levels deep. -/
def EqT (P : Program) (n : Nat) (t : TypeId) (ag : Bool) (ks : List IntKind) : Prop :=
  (∀ w, (Go.isAgg t).run P w = .ok ag w) ∧ (∀ w, (sizeOf t).run P w = .ok ks.length w) ∧ (ag = false → ks.length = 1) ∧ ∀ (w : World) (d : Nat) (xs ys : List Int), xs.length = ks.length → ys.length = ks.length → (Op.equalIn (d + n) t (vOf ag ks xs) (vOf ag ks ys)).run P w = .ok (decide (xs = ys)) w
theorem eqT_int {t : TypeId} {k : IntKind} {ti : TI} {n : Nat} (hT : TOk P T) (hl : lk t T = some ti) (hs : ti.sh = .int k) (h1 : ti.size = 1) : EqT P (n + 1) t false [k] := by
  refine ⟨fun w => ?_, fun w => ?_, fun _ => rfl, fun w d xs ys hx hy => ?_⟩
  · have := TI.run_aggB (hT _ _ hl) w
    rw [this]; simp [TI.aggB, hs]
  · have := TI.run_size (hT _ _ hl) w
    rw [this, h1]; rfl
  · obtain ⟨a, rfl⟩ := len1 hx
    obtain ⟨b, rfl⟩ := len1 hy
    have hu := TI.under_int (hT _ _ hl) hs
    rw [show d + (n + 1) = (d + n) + 1 by omega]
    have := run_equalIn_int (P := P) w (d + n) t k k a b hu
    simp only [vOf, Bool.false_eq_true, if_false, intVs, List.headD_cons]
    rw [this]
    congr 1
    rw [Bool.eq_iff_iff]
    simp
theorem intVs_app : ∀ {ks ks' : List IntKind} {xs ys : List Int}, xs.length = ks.length → intVs (ks ++ ks') (xs ++ ys) = intVs ks xs ++ intVs ks' ys
  | [], _, [], _, _ => rfl
  | k :: ks, ks', x :: xs, ys, h => by
    have := intVs_app (ks := ks) (ks' := ks') (xs := xs) (ys := ys) (by simpa using h)
    simp only [List.cons_append, intVs]
    rw [this]
  | [], _, _ :: _, _, h => by simp at h
  | _ :: _, _, [], _, h => by simp at h
theorem part_flat {t : TypeId} {ag : Bool} {ks : List IntKind} {n : Nat} (h : EqT P n t ag ks) {pre post : List Value} {xs : List Int} (hx : xs.length = ks.length) {off : Nat} (ho : pre.length = off) (w : World) : (part t (pre ++ (intVs ks xs ++ post)).toArray off).run P w = .ok (vOf ag ks xs) w := by
  obtain ⟨h1, h2, h3, _⟩ := h
  subst ho
  have hlen := intVs_length hx
  unfold part
  cases ag with
  | true =>
    simp only [Sem.run_bind, h1, Result.andThen_ok, if_true, h2, Sem.run_pure, vOf]
    congr 2
    apply Array.ext'
    simp [List.extract, hlen]
  | false =>
    have hk := h3 rfl
    have hc : (pre ++ (intVs ks xs ++ post)).toArray[pre.length]? = some (vOf false ks xs) := by
      have : ∃ v, intVs ks xs = [v] := len1 (hlen.trans hk)
      obtain ⟨v, hv⟩ := this
      simp [vOf, hv]
    simp only [Sem.run_bind, h1, Result.andThen_ok, Bool.false_eq_true, if_false, hc, Sem.run_pure]
def FldsOk (P : Program) (n : Nat) : Nat → List Field → List (List IntKind) → Prop
  | _, [], [] => True
  | off, f :: fs, ks :: kss => f.name ≠ "_" ∧ f.offset = off ∧ (∃ ag, EqT P n f.type ag ks) ∧ FldsOk P n (off + ks.length) fs kss
  | _, _, _ => False
theorem eqFields_ok {n d : Nat} (w : World) : ∀ (fs : List Field) (kss : List (List IntKind)) (off : Nat), FldsOk P n off fs kss → ∀ (pa pb : List Value) (xs ys : List Int), pa.length = off → pb.length = off → xs.length = kss.flatten.length → ys.length = kss.flatten.length →
    (Op.eqFields (d + n) (pa ++ intVs kss.flatten xs).toArray (pb ++ intVs kss.flatten ys).toArray fs).run P w = .ok (decide (xs = ys)) w
  | [], [], off, _, pa, pb, xs, ys, _, _, hx, hy => by
    have hx : xs = [] := by simpa using hx
    have hy : ys = [] := by simpa using hy
    subst hx; subst hy
    simp [Op.eqFields]
  | f :: fs, ks :: kss, off, ⟨hn, ho, ⟨ag, hE⟩, hf⟩, pa, pb, xs, ys, ha, hb, hx, hy => by
    simp only [List.flatten_cons, List.length_append] at hx hy
    obtain ⟨x1, x2, rfl, hx1⟩ : ∃ x1 x2, xs = x1 ++ x2 ∧ x1.length = ks.length := ⟨xs.take ks.length, xs.drop ks.length, by simp, by simp; omega⟩
    obtain ⟨y1, y2, rfl, hy1⟩ : ∃ y1 y2, ys = y1 ++ y2 ∧ y1.length = ks.length := ⟨ys.take ks.length, ys.drop ks.length, by simp, by simp; omega⟩
    simp only [List.length_append] at hx hy
    have ih := eqFields_ok (d := d) w fs kss _ hf (pa ++ intVs ks x1) (pb ++ intVs ks y1) x2 y2 (by rw [List.length_append, intVs_length hx1, ha]) (by rw [List.length_append, intVs_length hy1, hb]) (by omega) (by omega)
    simp only [List.flatten_cons]
    rw [intVs_app hx1, intVs_app hy1]
    rw [List.append_assoc, List.append_assoc] at ih
    simp only [Op.eqFields]
    rw [if_pos hn]
    rw [Sem.run_bind, ho, part_flat hE hx1 ha w, Result.andThen_ok, Sem.run_bind, part_flat hE hy1 hb w, Result.andThen_ok, Sem.run_bind, hE.2.2.2 w d x1 y1 hx1 hy1, Result.andThen_ok]
    by_cases e : x1 = y1
    · subst e
      simp only [decide_true, Bool.not_true, Bool.false_eq_true, if_false]
      rw [ih]
      congr 1
      rw [Bool.eq_iff_iff]
      simp
    · have : ¬ x1 ++ x2 = y1 ++ y2 := fun h => e (List.append_inj_left h (by omega))
      simp [e, this]
  | [], _ :: _, _, h, _, _, _, _, _, _, _, _ => h.elim
  | _ :: _, [], _, h, _, _, _, _, _, _, _, _ => h.elim
theorem eqT_struct {t : TypeId} {n : Nat} {kss : List (List IntKind)} {ti : TI} (hT : TOk P T) (hl : lk t T = some ti) (hu : P.underlying t = some (.struct (P.fieldsOf t))) (hst : P.stoodInHeld t = false) (hf : FldsOk P n 0 (P.fieldsOf t).toList kss) (hs : ti.size = kss.flatten.length) (hg : ti.aggB = true) : EqT P (n + 1) t true kss.flatten := by
  refine ⟨fun w => ?_, fun w => ?_, fun h => (by cases h), fun w d xs ys hx hy => ?_⟩
  · rw [TI.run_aggB (hT _ _ hl) w, hg]
  · rw [TI.run_size (hT _ _ hl) w, hs]
  · rw [show d + (n + 1) = (d + n) + 1 by omega]
    simp only [vOf, if_true]
    rw [run_equalIn_struct w (d + n) t _ _ hu hst]
    have := eqFields_ok (P := P) (n := n) (d := d) w (P.fieldsOf t).toList kss 0 hf [] [] xs ys rfl rfl hx hy
    simpa using this
theorem eqT_arr3 {t e : TypeId} {k : IntKind} {n : Nat} {ti : TI} (hT : TOk P T) (hl : lk t T = some ti) (hs : ti.sh = .arr 3 e) (hz : ti.size = 3) (h : EqT P n e false [k]) : EqT P (n + 1) t true [k, k, k] := by
  refine ⟨fun w => ?_, fun w => ?_, fun h => (by cases h), fun w d xs ys hx hy => ?_⟩
  · rw [TI.run_aggB (hT _ _ hl) w]; simp [TI.aggB, hs]
  · rw [TI.run_size (hT _ _ hl) w, hz]; rfl
  · obtain ⟨a0, a1, a2, rfl⟩ := len3 hx
    obtain ⟨b0, b1, b2, rfl⟩ := len3 hy
    have hu := TI.under_arr (hT _ _ hl) hs
    rw [show d + (n + 1) = (d + n) + 1 by omega]
    have hp : ∀ (pre post : List Value) (v : Int) (off : Nat), pre.length = off → (part e (pre ++ ([Value.int k v] ++ post)).toArray off).run P w = .ok (.int k v) w := fun pre post v off ho => part_flat h (xs := [v]) rfl ho w
    have hq : ∀ a b : Int, (Op.equalIn (d + n) e (.int k a) (.int k b)).run P w = .ok (decide (a = b)) w := fun a b => by
      have := h.2.2.2 w d [a] [b] rfl rfl
      simpa [vOf, intVs] using this
    have p0 := fun v0 v1 v2 => hp [] [.int k v1, .int k v2] v0 0 rfl
    have p1 := fun v0 v1 v2 => hp [.int k v0] [.int k v2] v1 1 rfl
    have p2 := fun v0 v1 v2 => hp [.int k v0, .int k v1] [] v2 2 rfl
    simp only [List.nil_append, List.cons_append, List.append_nil] at p0 p1 p2
    have hsz := h.2.1 w
    simp only [vOf, if_true, intVs, Op.equalIn, Sem.run_bind, run_underlying hu, Result.andThen_ok, hsz, List.length_cons, List.length_nil]
    rw [Std.Legacy.Range.forIn_eq_forIn_range']
    simp [Std.Legacy.Range.size, List.range', p0, p1, p2, hq]
    by_cases e0 : a0 = b0 <;> by_cases e1 : a1 = b1 <;> by_cases e2 : a2 = b2 <;> simp [e0, e1, e2, p0, p1, p2, hq]

theorem oprel_neS {n : Nat} {t : TypeId} {ks : List IntKind} (hE : EqT P n t true ks) (hn : n ≤ 10000) (hm : P.eqGuardType P.depth t = false) {o : Oper} {x y : Operand} {yt : TypeId} (ho : o.op = .binOp .neq t x y yt) {ev : Operand → D} {hp : HP} {nx : Nat} {xs ys : List Int}
    (hx : ev x = .val (.agg (intVs ks xs).toArray)) (hy : ev y = .val (.agg (intVs ks ys).toArray)) (lx : xs.length = ks.length) (ly : ys.length = ks.length) : OpRel P o ev hp nx { d := .val (.bool (!decide (xs = ys))) } := by
  refine ⟨⟨fun p hp => by simp at hp, rfl⟩, fun w0 S G hv a w hI hk hev K Q hK => ?_⟩
  have h1 := hev x
  rw [hx] at h1
  have h1 := rep_val h1
  have h2 := hev y
  rw [hy] at h2
  have h2 := rep_val h2
  have he := hE.2.2.2 w (10000 - n) xs ys lx ly
  rw [show 10000 - n + n = 10000 by omega] at he
  simp only [vOf, if_true] at he
  have hr : ((do eqGuard .neq t x y (a.eval x) (a.eval y); binOp .neq t (a.eval x) (a.eval y) : Sem Value)).run P w = .ok (.bool (!decide (xs = ys))) w := by
    rw [h1, h2, Sem.run_bind, run_eqGuard_agg w .neq t x y _ _ hm, Result.andThen_ok, run_neq_struct, he]
    rfl
  have hex : (execOp a.eval o).run P w = .ok (.value (.bool (!decide (xs = ys)))) w := by
    simp only [execOp, ho]
    rw [Sem.run_bind, hr]
    rfl
  unfold Oper.wp
  rw [hex]
  exact hK _ hv w (post_same hI (rep_mk _))
section
variable {ops : List Oper} {base sl : List (Nat × D)} {rd eh hp : HP} {pins : List Nat} {i nx : Nat} {l : List Oper} {done : List D} {K : St → Prop} {dst : Option Tmp} {op : Op} {ty : TypeId} {pos : String} {af : Array Edge}
theorem dfr {d : D} {done' : List D} {sl' : List (Nat × D)} (h : DReg P ops base rd eh pins (i + 1) l done' hp nx sl' K) (hf : ∀ (hp : HP) (nx : Nat), OpRel P { dst := dst, op := op, type := ty, pos := pos, after := af, guard := none } (evD (maskSl { dst := dst, op := op, type := ty, pos := pos, after := af, guard := none } ops done 0 base)) hp nx { d := d }) (hpin : pins.contains i = false := by rfl)
    (hdn : done ++ [d] = done' := by simp +decide (disch := omega) only [nrm, lk_nrm, dc_nrm, mk_nrm, mf_nrm, ti_nrm, ls_nrm, mp_nrm, nb_nrm, hset, pick_and, pick_or, ↓reduceIte, Nat.reduceAdd, wI64, wI32, wI16, wI8, wU8, List.length_map, Int.toNat_natCast, xn1, xn2, mask_nrm]; rfl) (hsl : putSl dst d sl = sl' := by simp +decide (disch := omega) only [nrm, lk_nrm, dc_nrm, mk_nrm, mf_nrm, ti_nrm, ls_nrm, mp_nrm, nb_nrm, hset, pick_and, pick_or, ↓reduceIte, Nat.reduceAdd, wI64, wI32, wI16, wI8, wU8, List.length_map, Int.toNat_natCast, xn1, xn2, mask_nrm]; rfl) : DReg P ops base rd eh pins i ({ dst := dst, op := op, type := ty, pos := pos, after := af, guard := none } :: l) done hp nx sl K := by
  subst hdn; subst hsl
  exact dreg_cons (it := ⟨_, false, true, { d := d }, false⟩) ⟨hpin.symm, fun h => Bool.noConfusion h⟩ ⟨rfl, fun _ h => by simp at h, fun _ _ => ⟨rfl, fun hp nx _ => hf hp nx⟩, fun h => by simp at h⟩ h
end
end Go.Proofs.Ytjkhgcmdcjdipaa.Abs

/- Abs, part 26: regions that draw their order up to a point, and go on in the text's order behind it. -/
set_option linter.unusedVariables false
set_option linter.unusedSimpArgs false
namespace Go.Proofs.Ytjkhgcmdcjdipaa.Abs
open Go Go.RowKit
variable {P : Program} {T : TT} {C : Ctx}

theorem any_of_JB {P : Program} (hP : C.P = P) {its : List It} {B : List Oper} {base : List (Nat × D)} {rd eh hp0 : HP} {nx0 : Nat} (hD : DrawOk C.N its) (hT : Tr P (its.map (·.o)) base rd eh its [] hp0 nx0) (hrd : ∀ h ob, lk h rd = some ob → lk h hp0 = some ob ∧ h < nx0) (heh : ∀ h ob, lk h eh = some ob → lk h hp0 = some ob) {Q : Exit → Act → World → Prop}
    (hcov : ∀ listed : Array Bool, (∀ (i : Nat) (it : It), its[i]? = some it → listed.getD i true = true → ∀ k, depOn it.o k = true → listed.getD k true = true) → (∀ k, its.length ≤ k → k < its.length + B.length → listed.getD k true = false) → listed.size = its.length + B.length → ∀ j, j ∈ Region.ready .any (its.map (·.o) ++ B).toArray listed → its.length ≤ j → ∀ i, i < its.length → listed.getD i true = true)
    (hQ : ∀ (fuel : Nat) (listed : Array Bool) a w, listed.size = its.length + B.length → (∀ i, i < its.length → listed.getD i true = true) → (∀ k, its.length ≤ k → k < its.length + B.length → listed.getD k true = false) → B.length ≤ fuel → Inv C ⟨finSl its base, (stAt its its.length hp0 nx0).1, (stAt its its.length hp0 nx0).2⟩ a w → wpAny P .any (its.map (·.o) ++ B).toArray Q fuel listed a w) : ∀ (fuel : Nat) (listed : Array Bool) (a : Act) (w : World) (n : Nat) (hv : Nat → Value), listed.size = its.length + B.length → (∀ k, its.length ≤ k → k < its.length + B.length → listed.getD k true = false) → (listed.toList.take its.length).count false + B.length ≤ fuel →
    J C its base hp0 nx0 n hv listed a w → wpAny P .any (its.map (·.o) ++ B).toArray Q fuel listed a w := by
  have hops : ∀ j : Nat, j < its.length → (its.map (fun i : It => i.o) ++ B).toArray[j]? = (its[j]?).map (fun i : It => i.o) := fun j hj => by
    simp [List.getElem?_append_left, hj]
  have hquiet : ∀ (i : Nat) (it : It), its[i]? = some it → it.pin = false → it.r = { d := it.r.d } := fun i it hi hp => by
    obtain ⟨_, _, h3, h4⟩ := tr_get its _ _ _ hT i it hi
    cases hon : it.on with
    | true => exact (h3 hon hp).1
    | false => rw [h4 hon]
  -- all is listed: the end
  have fin : ∀ (listed : Array Bool) (a : Act) (w : World) (n : Nat) (hv : Nat → Value), J C its base hp0 nx0 n hv listed a w → (∀ i, i < its.length → listed.getD i true = true) → Inv C ⟨finSl its base, (stAt its its.length hp0 nx0).1, (stAt its its.length hp0 nx0).2⟩ a w := fun listed a w n hv hJ hall => by
    have e : stAt its its.length hp0 nx0 = stAt its n hp0 nx0 := by
      by_cases hn : n ≤ its.length
      · have := stAt_le its hp0 nx0 n (its.length - n) (fun i it hi h1 h2 => by
          refine hquiet i it hi ?_
          cases h : it.pin with
          | false => rfl
          | true => have := (hJ.pins i it hi h).1 (hall i (List.getElem?_eq_some_iff.1 hi).1); omega)
        rwa [show n + (its.length - n) = its.length by omega] at this
      · have := stAt_le its hp0 nx0 its.length (n - its.length) (fun i it hi h1 h2 => by have := (List.getElem?_eq_some_iff.1 hi).1; omega)
        rw [show its.length + (n - its.length) = n by omega] at this
        exact this.symm
    refine ⟨hv, by rw [e]; exact hJ.inv, by rw [e]; exact hJ.keys, by rw [e]; exact hJ.cm, by rw [e]; exact hJ.pinned, hJ.defers, hJ.size, fun t d hl => ?_⟩
    rw [e]
    rcases lk_finSl its base t d hl with ⟨i, it, h1, h2, h3⟩ | ⟨h1, h2⟩
    · rw [h3]; exact hJ.got i it t h1 h2 (hall i (List.getElem?_eq_some_iff.1 h1).1)
    · exact hJ.bas t d h1 (fun i it hi hd => absurd hd (h2 it (List.mem_of_getElem? hi)))
  -- nothing is ready: all is listed
  have done : ∀ (listed : Array Bool), Region.ready .any (its.map (·.o) ++ B).toArray listed = [] → listed.size = its.length + B.length → ∀ i, i < its.length → listed.getD i true = true := fun listed hr hsz i => by
    induction i using Nat.strongRecOn with
    | _ i ih =>
      intro hi
      cases hl : listed.getD i true with
      | true => rfl
      | false =>
        exfalso
        have hit : ∃ it, its[i]? = some it := ⟨_, List.getElem?_eq_getElem hi⟩
        obtain ⟨it, hit⟩ := hit
        have : i ∈ Region.ready .any (its.map (·.o) ++ B).toArray listed := mem_ready.2 ⟨hl, it.o, by rw [hops i hi, hit]; rfl, fun e he hb => by
          have hb1 := List.all_eq_true.1 hD.back i (by simpa using hi)
          simp only [List.getElem?_map, hit, Option.map_some] at hb1
          have := List.all_eq_true.1 hb1 e (by simpa using he)
          simp only [hb, Bool.not_true, Bool.false_or, decide_eq_true_eq] at this
          have h2 := ih e.on this (by omega)
          rw [Array.getD_eq_getD_getElem?, Array.getElem?_eq_getElem (by omega)] at h2 ⊢
          simpa using h2⟩
        rw [hr] at this
        cases this
  intro fuel
  induction fuel with
  | zero =>
    intro listed a w n hv hsz hBu hc hJ
    refine hQ 0 listed a w hsz (fun i hi => ?_) hBu (by omega) (fin listed a w n hv hJ (fun i hi => ?_))
    all_goals
      have h0 : (listed.toList.take its.length).count false = 0 := by omega
      have hi' : i < listed.size := by omega
      rw [Array.getD_eq_getD_getElem?, Array.getElem?_eq_getElem hi']
      have : listed[i] ∈ listed.toList.take its.length := List.mem_take_iff_getElem.2 ⟨i, by simp; omega, by simp⟩
      cases hb : listed[i] with
      | true => rfl
      | false => rw [hb] at this; exact absurd this (List.count_eq_zero.1 h0)
  | succ fuel ih =>
    intro listed a w n hv hsz hBu hc hJ
    by_cases hall : ∀ i, i < its.length → listed.getD i true = true
    · exact hQ _ listed a w hsz hall hBu (by omega) (fin listed a w n hv hJ hall)
    refine ⟨fun hr => absurd (done listed hr hsz) hall, fun j hj => ?_⟩
    have hjlt : j < its.length := by
      rcases Nat.lt_or_ge j its.length with h | h
      · exact h
      · exact absurd (hcov listed hJ.closed hBu hsz j hj h) hall
    obtain ⟨hun, o, ho, hdeps⟩ := mem_ready.1 hj
    rw [hops j hjlt] at ho
    obtain ⟨it, hit, rfl⟩ := Option.map_eq_some_iff.1 ho
    have hjl := (List.getElem?_eq_some_iff.1 hit).1
    obtain ⟨hguard, hpin, hfree, hoff⟩ := tr_get its _ _ _ hT j it hit
    simp only [List.nil_append] at hguard hpin hfree
    have hdep : ∀ i, depOn it.o i = true → listed.getD i true = true ∧ i < j := fun i hi => by
      obtain ⟨e, he, hb⟩ := List.any_eq_true.1 hi
      have he : e ∈ it.o.after := by simpa using he
      simp only [Bool.and_eq_true, beq_iff_eq] at hb
      have h1 := hdeps e he hb.2
      rw [hb.1] at h1
      have hb1 := List.all_eq_true.1 hD.back j (by simpa using hjl)
      simp only [List.getElem?_map, hit, Option.map_some] at hb1
      have := List.all_eq_true.1 hb1 e (by simpa using he)
      simp only [hb.2, Bool.not_true, Bool.false_or, decide_eq_true_eq, hb.1] at this
      refine ⟨?_, this⟩
      rw [Array.getD_eq_getD_getElem?, Array.getElem?_eq_getElem (by omega)] at h1 ⊢
      simpa using h1
    have hstar : ∀ (m : Nat) (o : Oper) (k : Nat), (∀ k, depOn o k = true → listed.getD k true = true) → depStar (its.map (·.o)) m o k = true → listed.getD k true = true := by
      intro m
      induction m with
      | zero => intro o k ho hk; exact ho k hk
      | succ m ihm =>
        intro o k ho hk
        simp only [depStar, Bool.or_eq_true] at hk
        rcases hk with hk | hk
        · exact ho k hk
        · obtain ⟨e, he, hk⟩ := List.any_eq_true.1 hk
          simp only [Bool.and_eq_true] at hk
          obtain ⟨hb, hk⟩ := hk
          have hl := ho e.on (List.any_eq_true.2 ⟨e, he, by simp [hb]⟩)
          rw [List.getElem?_map] at hk
          cases hi : its[e.on]? with
          | none => simp [hi] at hk
          | some it' =>
            simp only [hi, Option.map_some] at hk
            exact ihm it'.o k (hJ.closed e.on it' hi hl) hk
    have hdN : ∀ t, it.o.dst = some t → t < C.N := fun t ht => by
      have := List.all_eq_true.1 hD.dsts it.o (List.mem_map.2 ⟨it, List.mem_of_getElem? hit, rfl⟩)
      simpa [ht] using this
    have hlow : it.pin = true → n ≤ j ∧ ∀ i it', its[i]? = some it' → it'.pin = true → i < j → i < n := fun hp => by
      refine ⟨?_, fun i it' hi hp' hlt => ?_⟩
      · rcases Nat.lt_or_ge j n with h | h
        · have := (hJ.pins j it hit hp).2 h
          rw [hun] at this; cases this
        · exact h
      · obtain ⟨k, ik, hk, hkp, h1, h2, h3⟩ := hD.chain i j it' it hi hit hp' hp hlt
        have := (hJ.pins k ik hk hkp).1 (hstar 2 it.o k (fun k hk => (hdep k hk).1) h3)
        omega
    have hcount : ((listed.setIfInBounds j true).toList.take its.length).count false + B.length ≤ fuel := by
      have h1 : (listed.toList.take its.length)[j]? = some false := by
        rw [Array.getD_eq_getD_getElem?, Array.getElem?_eq_getElem (by omega)] at hun
        simp at hun
        rw [List.getElem?_take, if_pos hjl]
        simp [hun, show j < listed.size by omega]
      have := count_set h1
      rw [Array.toList_setIfInBounds, List.take_set]
      omega
    have hsz' : (listed.setIfInBounds j true).size = its.length + B.length := by simpa using hsz
    have hBu' : ∀ k, its.length ≤ k → k < its.length + B.length → (listed.setIfInBounds j true).getD k true = false := fun k h1 h2 => by
      rw [listed_set (show k ≠ j by omega)]; exact hBu k h1 h2
    -- what it may look at
    have hS : SInv C.N (LOf hv (stAt its n hp0 nx0).1) w (FOf C.G hv (stAt its n hp0 nx0).1 w) (maskSl it.o (its.map (·.o)) ((its.take j).map (·.r.d)) 0 base) a := by
      refine ⟨hJ.defers, hJ.size, fun t d hl => ?_⟩
      rcases lk_mask _ _ _ _ _ hl with ⟨i, oi, h1, h2, h3⟩ | ⟨h1, h2⟩
      · rcases h3 with ⟨h3, h4⟩ | h3
        · rw [Nat.zero_add] at h3
          obtain ⟨hls, hlt⟩ := hdep i h3
          rw [List.getElem?_map] at h1
          obtain ⟨ii, hii, rfl⟩ := Option.map_eq_some_iff.1 h1
          have : d = ii.r.d := by
            rw [h4]
            simp [List.getD, List.getElem?_map, List.getElem?_take, hlt, hii]
          rw [this]
          exact hJ.got i ii t hii h2 hls
        · rw [h3]; exact (RepP.any _ : RepP w _ .any _)
      · refine hJ.bas t d h1 (fun i it' hi' hd' => ?_)
        have hdep' := h2 it'.o (List.mem_map.2 ⟨it', List.mem_of_getElem? hi', rfl⟩) hd'
        have hlen : ((its.take j).map (·.r.d)).length = j := by simp; omega
        rw [hlen] at hdep'
        cases hb : listed.getD i true with
        | false => rfl
        | true => have := hJ.closed i it' hi' hb j hdep'; rw [hun] at this; cases this
    have hev := evD_ok hS
    -- it is carried out: its state
    have next : ∀ v hv' w', (NewKeys (stAt its n hp0 nx0).2 it.r.new) → it.r.dead = none → Post C.w0 C.S C.G hv (stAt its n hp0 nx0).1 w it.r v hv' w' → wpAny P .any (its.map (·.o) ++ B).toArray Q fuel (listed.setIfInBounds j true) (a.put it.o.dst v) w' := fun v hv' w' hnk hdead hP => by
      obtain ⟨n', _, hJ'⟩ := hJ.step hit hun hD.apart hdN hlow hquiet hnk hdead (fun k hk => (hdep k hk).1) hP
      exact ih _ _ _ n' hv' hsz' hBu' hcount hJ'
    unfold wpOp
    rw [hops j hjlt, hit]
    simp only [Option.map_some]
    have hyl : ∀ g, depOn it.o g = true → yielded (its.map (·.o) ++ B).toArray a.tmps g = yielded (its.map (·.o)).toArray a.tmps g := fun g hg => by
      have hlt := (hdep g hg).2
      unfold yielded
      rw [show (its.map (·.o) ++ B).toArray[g]? = (its.map (·.o)).toArray[g]? by simp [List.getElem?_append_left, show g < its.length by omega]]
    have hwant : Region.wanted it.o (yielded (its.map (·.o) ++ B).toArray a.tmps) = it.on := by
      unfold Region.wanted
      split at hguard
      · rename_i hg; rw [hg]; simp [hguard]
      · rename_i g want hg
        rw [hg]
        simp only
        have hN : ∀ t, ((its.map (fun i : It => i.o))[g]?).bind (·.dst) = some t → t < C.N := fun t ht => by
          rw [List.getElem?_map] at ht
          cases hgi : its[g]? with
          | none => simp [hgi] at ht
          | some ig =>
            have := List.all_eq_true.1 hD.dsts ig.o (List.mem_map.2 ⟨ig, List.mem_of_getElem? hgi, rfl⟩)
            simp [hgi] at ht
            simpa [ht] using this
        rcases hguard.2 with ⟨b, hb2, hb3⟩ | ⟨hb2, hb3⟩
        · have hy := guardD_ok hb2 hS hN
          rw [hyl g hguard.1, hy, hb3]
          cases b <;> cases want <;> rfl
        · have hy := guardU_ok hb2 hS hN
          rw [hyl g hguard.1, hy, hb3]
          rfl
    rw [hwant]
    cases hon : it.on with
    | false =>
      simp only [Bool.false_eq_true, if_false]
      have hr := hoff hon
      refine next undef hv w ?_ (by rw [hr]) ?_
      · rw [hr]; intro p hp; simp at hp
      · rw [hr]; exact post_same hJ.inv (RepP.val _ : RepP w _ (.val undef) _)
    | true =>
      simp only [if_true]
      refine .inl ?_
      cases hp : it.pin with
      | true =>
        obtain ⟨hrel, _⟩ := hpin hon hp
        have e1 : stAt its j hp0 nx0 = stAt its n hp0 nx0 := by
          obtain ⟨hnj, hall⟩ := hlow hp
          have := stAt_le its hp0 nx0 n (j - n) (fun i it' hi h1 h2 => by
            refine hquiet i it' hi ?_
            cases h : it'.pin with
            | false => rfl
            | true => have := hall i it' hi h (by omega); omega)
          rwa [show n + (j - n) = j by omega] at this
        rw [e1] at hrel
        exact hrel.2 C.w0 C.S C.G hv a w hJ.inv hJ.keys hev _ _ (fun v hv' w' hP' => next v hv' w' hrel.1.1 hrel.1.2 hP')
      | false =>
        obtain ⟨hq, hfr⟩ := hfree hon hp
        have hrel := hfr (stAt its n hp0 nx0).1 (stAt its n hp0 nx0).2 (fun h ob hl => by
          cases he : it.early with
          | false =>
            simp only [he, Bool.false_eq_true, if_false] at hl
            exact (stAt_rd its [] hp0 nx0 n hT hrd h ob hl).1
          | true =>
            simp only [he, if_true] at hl
            have e0 : stAt its n hp0 nx0 = (hp0, nx0) := by
              have := stAt_le its hp0 nx0 0 n (fun i it' hi _ hlt => hquiet i it' hi (by
                cases h : it'.pin with
                | false => rfl
                | true =>
                  exfalso
                  have hl1 := (hJ.pins i it' hi h).2 (by omega)
                  have := hstar 2 it'.o j (hJ.closed i it' hi hl1) (hD.early j it hit he i it' hi h)
                  rw [hun] at this; cases this))
              rw [Nat.zero_add] at this
              rw [this]; cases its <;> rfl
            rw [e0]; exact heh h ob hl)
        rw [← hq] at hrel
        exact hrel.2 C.w0 C.S C.G hv a w hJ.inv hJ.keys hev _ _ (fun v hv' w' hP' => next v hv' w' hrel.1.1 hrel.1.2 hP')


/-- Each operation ahead of number n is waited for by a later one, up to n. -/
def covB (ops : List Oper) (n : Nat) : Bool := (List.range n).all fun i => (List.range (n + 1)).any fun k => decide (i < k) && (match ops[k]? with | some o => depOn o i | none => false)
/-- Behind number n each operation waits for the one before it. -/
def seqB (ops : List Oper) (n : Nat) : Bool := (List.range ops.length).all fun j => decide (j ≤ n) || (match ops[j]? with | some o => depOn o (j - 1) | none => false)

theorem ready_dep {ops : List Oper} {listed : Array Bool} {j : Nat} {o : Oper} (hb : backB ops = true) (hs : listed.size = ops.length) (hj : j ∈ Region.ready .any ops.toArray listed) (ho : ops[j]? = some o) : listed.getD j true = false ∧ ∀ k, depOn o k = true → listed.getD k true = true ∧ k < j := by
  obtain ⟨hun, o', ho', hdeps⟩ := mem_ready.1 hj
  have : o' = o := by simpa [ho] using ho'.symm
  subst this
  refine ⟨hun, fun k hk => ?_⟩
  have hjl : j < ops.length := (List.getElem?_eq_some_iff.1 ho).1
  obtain ⟨e, he, hb2⟩ := List.any_eq_true.1 hk
  have he : e ∈ o'.after := by simpa using he
  simp only [Bool.and_eq_true, beq_iff_eq] at hb2
  have h1 := hdeps e he hb2.2
  rw [hb2.1] at h1
  have hb1 := List.all_eq_true.1 hb j (by simpa using hjl)
  simp only [ho] at hb1
  have := List.all_eq_true.1 hb1 e (by simpa using he)
  simp only [hb2.2, Bool.not_true, Bool.false_or, decide_eq_true_eq, hb2.1] at this
  refine ⟨?_, this⟩
  rw [Array.getD_eq_getD_getElem?, Array.getElem?_eq_getElem (by omega)] at h1 ⊢
  simpa using h1

/-- The operations behind a point, one after another. -/
theorem any_seq {P : Program} {m : Nat} (hT : TOk P T) (hP : C.P = P) (hCm : C.m = m) {ops : List Oper} {n : Nat} (hd0 : dstsOk C.N ops = true) (hb : backB ops = true) (hsq : seqB ops n = true) {Q : Exit → Act → World → Prop} : ∀ (l : List Oper) (pre : List Oper) (st : St) (fuel : Nat) (listed : Array Bool) (a : Act) (w : World) (K : St → Prop), ops = pre ++ l → n ≤ pre.length → listed.size = ops.length → (∀ i, i < pre.length → listed.getD i true = true) → (∀ k, pre.length ≤ k → k < ops.length → listed.getD k true = false) → l.length ≤ fuel → Inv C st a w → areg P T m ops l st K →
    (∀ st' a' w', K st' → Inv C st' a' w' → Q .normal a' w') → wpAny P .any ops.toArray Q fuel listed a w
  | [], pre, st, fuel, listed, a, w, K, he, hn, hs, h1, h2, hf, hI, h, hK => by
    have hno : ∀ j, j ∉ Region.ready .any ops.toArray listed := fun j hj => by
      obtain ⟨hun, o, ho, _⟩ := mem_ready.1 hj
      have hlt : j < pre.length := by have := (Array.getElem?_eq_some_iff.1 ho).1; rw [he] at this; simpa using this
      rw [h1 j hlt] at hun
      cases hun
    have hq : Q .normal a w := hK st a w h hI
    cases fuel with
    | zero => exact ⟨List.eq_nil_iff_forall_not_mem.2 hno, hq⟩
    | succ f => exact ⟨fun _ => hq, fun j hj => absurd hj (hno j)⟩
  | o :: l, pre, st, fuel, listed, a, w, K, he, hn, hs, h1, h2, hf, hI, h, hK => by
    obtain ⟨f, rfl⟩ : ∃ f, fuel = f + 1 := ⟨fuel - 1, by simp at hf; omega⟩
    have hlen : pre.length < ops.length := by rw [he]; simp
    have hoj : ops[pre.length]? = some o := by rw [he]; simp
    have hrdy : pre.length ∈ Region.ready .any ops.toArray listed := mem_ready.2 ⟨h2 _ (Nat.le_refl _) hlen, o, by simpa using hoj, fun e hea hbd => by
      have hb1 := List.all_eq_true.1 hb pre.length (by simpa using hlen)
      simp only [hoj] at hb1
      have := List.all_eq_true.1 hb1 e (by simpa using hea)
      simp only [hbd, Bool.not_true, Bool.false_or, decide_eq_true_eq] at this
      have h3 := h1 e.on this
      rw [Array.getD_eq_getD_getElem?, Array.getElem?_eq_getElem (by omega)] at h3 ⊢
      simpa using h3⟩
    refine ⟨fun hr => absurd hrdy (by rw [hr]; simp), fun j hj => ?_⟩
    have hjeq : j = pre.length := by
      obtain ⟨hun, o', ho', _⟩ := mem_ready.1 hj
      have hjl : j < ops.length := by have := (Array.getElem?_eq_some_iff.1 ho').1; simpa using this
      have ho2 : ops[j]? = some o' := by simpa using ho'
      rcases Nat.lt_trichotomy j pre.length with hlt | hlt | hlt
      · rw [h1 j hlt] at hun; cases hun
      · exact hlt
      · exfalso
        have := List.all_eq_true.1 hsq j (by simpa using hjl)
        simp only [ho2, Bool.or_eq_true, decide_eq_true_eq] at this
        rcases this with h3 | h3
        · omega
        · have h4 := ((ready_dep hb hs hj ho2).2 _ h3).1
          rw [h2 (j - 1) (by omega) (by omega)] at h4
          cases h4
    subst hjeq
    have hdst : ∀ o ∈ ops, ∀ t, o.dst = some t → t < C.N := fun o ho t ht => by
      have := List.all_eq_true.1 hd0 o ho
      simpa [ht] using this
    have hd := hdst o (by rw [he]; simp)
    have ih : ∀ (st' : St) (a' : Act) (w' : World), Inv C st' a' w' → areg P T m ops l st' K → wpAny P .any ops.toArray Q f (listed.setIfInBounds pre.length true) a' w' := fun st' a' w' hI' h' =>
      any_seq hT hP hCm hd0 hb hsq l (pre ++ [o]) st' f (listed.setIfInBounds pre.length true) a' w' K (by rw [he]; simp) (by simp; omega) (by simpa using hs) (fun i hi => by
        by_cases e : i = pre.length
        · subst e; exact listed_set_same
        · rw [listed_set e]; exact h1 i (by simp at hi; omega)) (fun k hk hk2 => by
        simp at hk
        rw [listed_set (by omega)]; exact h2 k (by omega) hk2) (by simp at hf; omega) hI' h' hK
    simp only [areg] at h
    unfold wpOp
    rw [show ops.toArray[pre.length]? = some o by simpa using hoj]
    simp only
    cases hg : o.guard with
    | none =>
      rw [hg] at h
      simp only [Region.wanted, hg, if_true]
      exact .inl (aop_wp hT hP hCm hI hd h (fun st' a' w' h1 h2 => ih st' a' w' h2 h1))
    | some jw =>
      obtain ⟨j, want⟩ := jw
      rw [hg] at h
      simp only at h
      split at h
      · rename_i b hb
        obtain ⟨hv, hH, hk, hm, hpin, hS⟩ := hI
        have hy := guardD_ok hb hS (fun t ht => by
          cases hj : ops[j]? with
          | none => simp [hj] at ht
          | some oj => exact hdst oj (List.mem_of_getElem? hj) t (by simpa [hj] using ht))
        simp only [Region.wanted, hg, hy]
        by_cases hbw : b = want
        · subst hbw
          simp only [beq_self_eq_true, if_true]
          exact .inl (aop_wp hT hP hCm ⟨hv, hH, hk, hm, hpin, hS⟩ hd (h.1 rfl) (fun st' a' w' h1 h2 => ih st' a' w' h2 h1))
        · have hnb : b = !want := by cases b <;> cases want <;> simp_all
          rw [if_neg (by simpa using hbw)]
          exact ih ⟨putSl o.dst (.val undef) st.sl, st.hp, st.nx⟩ _ _ ⟨hv, hH, hk, hm, hpin, sinv_put hS hd (d := .val undef) (v := undef) (RepP.val _ : RepP w (FOf C.G hv st.hp w) (.val undef) _)⟩ (h.2 hnb)
      · obtain ⟨hv, hH, hk, hm, hpin, hS⟩ := hI
        have hy := guardU_ok h.1 hS (fun t ht => by
          cases hj : ops[j]? with
          | none => simp [hj] at ht
          | some oj => exact hdst oj (List.mem_of_getElem? hj) t (by simpa [hj] using ht))
        simp only [Region.wanted, hg, hy]
        rw [if_neg (by simp)]
        exact ih ⟨putSl o.dst (.val undef) st.sl, st.hp, st.nx⟩ _ _ ⟨hv, hH, hk, hm, hpin, sinv_put hS hd (d := .val undef) (v := undef) (RepP.val _ : RepP w (FOf C.G hv st.hp w) (.val undef) _)⟩ h.2

/-- A region that draws its order as far as lA goes; lB comes behind all of it, in the text's order. -/
theorem awp_drawS {m N : Nat} {id : Nat} {opsA : Array Oper} {st : St} {Q : Exit → St → Prop} (hT : TOk P T) (hP : C.P = P) (hCm : C.m = m) (hN : C.N = N) (hmix : P.follows .mixedOrders = true) (keys pins : List Nat) (n : Nat) (l : List Oper) {lA lB : List Oper} (he : opsA = l.toArray) (hlA : l.take n = lA) (hlB0 : l.drop n = lB)
    (hd : (dstsOk N l && backB l && backB (l.take n) && dstsApart (l.take n) && chainB (l.take n) pins && covB l n && seqB l n && decide (n ≤ l.length)) = true)
    (h : DReg P lA st.sl (rdOf keys st.hp) st.hp pins 0 lA [] st.hp st.nx st.sl (fun st' => areg P T m l lB st' (Q .normal))) : awp C (.region id opsA true) Q st := fun a w hI => by
  subst he; subst hP; subst hlA; subst hlB0
  simp only [Bool.and_eq_true, decide_eq_true_eq] at hd
  obtain ⟨⟨⟨⟨⟨⟨⟨hd0, hbk⟩, hbA⟩, hap⟩, hch⟩, hcv⟩, hsq⟩, hnl⟩ := hd
  obtain ⟨its, h1, h2, h3, h4⟩ := h
  have hln : its.length = n := by have := congrArg List.length h1; simp at this; omega
  have hlB : (l.drop n).length = l.length - n := by simp
  have hsplit : its.map (·.o) ++ l.drop n = l := by rw [h1]; exact List.take_append_drop n l
  refine wp_region_any hmix ?_
  have hI' := inv_drawn hI (w.drawn + 1)
  obtain ⟨hv, hH, hk, hm', hpin, hS⟩ := hI'
  have hear : ∀ (j : Nat) (it : It), its[j]? = some it → it.early = true → ∀ (i : Nat) (it' : It), its[i]? = some it' → it'.pin = true → depStar (its.map (·.o)) 2 it'.o j = true := fun j it hj he i it' hi hp => by
    have h5 := (h3 j it hj).2 he
    have h6 := (h3 i it' hi).1
    rw [hp] at h6
    rw [Nat.zero_add] at h5 h6
    have h7 := List.all_eq_true.1 h5 i (by simpa using h6.symm)
    rw [← h1] at h7
    simpa [hi] using h7
  have hD : DrawOk C.N its := ⟨by rw [h1]; exact hbA, by rw [h1]; exact hap, by
      rw [h1, hN]
      exact List.all_eq_true.2 (fun o ho => List.all_eq_true.1 hd0 o (List.mem_of_mem_take ho)), fun i j it it' hi hj hp hp' hlt => by
    have e1 := (h3 i it hi).1
    have e2 := (h3 j it' hj).1
    rw [hp, Nat.zero_add] at e1
    rw [hp', Nat.zero_add] at e2
    obtain ⟨k, hk, h5, h6, h7⟩ := chain_ok pins hch i j it'.o (by simpa using e1.symm) (by simpa using e2.symm) hlt (by rw [← h1]; simp [hj])
    rw [← h1] at h7
    have hkl : k < its.length := by have := (List.getElem?_eq_some_iff.1 hj).1; omega
    refine ⟨k, its[k], List.getElem?_eq_getElem hkl, ?_, h5, h6, h7⟩
    rw [(h3 k _ (List.getElem?_eq_getElem hkl)).1, Nat.zero_add]
    simpa using hk, hear⟩
  have hsz : (Array.replicate l.toArray.size false).size = its.length + (l.drop n).length := by rw [hln, hlB]; simp; omega
  have hun : ∀ i, i < l.length → (Array.replicate l.toArray.size false).getD i true = false := fun i hi => by
    simp [Array.getD_eq_getD_getElem?, hi]
  have hcov : ∀ listed : Array Bool, (∀ (i : Nat) (it : It), its[i]? = some it → listed.getD i true = true → ∀ k, depOn it.o k = true → listed.getD k true = true) → (∀ k, its.length ≤ k → k < its.length + (l.drop n).length → listed.getD k true = false) → listed.size = its.length + (l.drop n).length → ∀ j, j ∈ Region.ready .any (its.map (·.o) ++ l.drop n).toArray listed → its.length ≤ j → ∀ i, i < its.length → listed.getD i true = true := by
    intro listed hcl hBu hs j hj hjn
    rw [hsplit] at hj
    have hs' : listed.size = l.length := by rw [hs, hln, hlB]; omega
    obtain ⟨_, o, ho, _⟩ := mem_ready.1 hj
    have ho2 : l[j]? = some o := by simpa using ho
    have hjl : j < l.length := (List.getElem?_eq_some_iff.1 ho2).1
    have hjeq : j = n := by
      rcases Nat.lt_or_ge n j with hlt | hge
      · exfalso
        have := List.all_eq_true.1 hsq j (by simpa using hjl)
        simp only [ho2, Bool.or_eq_true, decide_eq_true_eq] at this
        rcases this with h5 | h5
        · omega
        · have h6 := ((ready_dep hbk hs' hj ho2).2 _ h5).1
          rw [hBu (j - 1) (by omega) (by omega)] at h6
          cases h6
      · omega
    have key : ∀ d i, i < n → n - i ≤ d → listed.getD i true = true := by
      intro d
      induction d with
      | zero => intro i hi hle; omega
      | succ d ih =>
        intro i hi hle
        have hc := List.all_eq_true.1 hcv i (by simpa using hi)
        obtain ⟨k, hk, hkd⟩ := List.any_eq_true.1 hc
        simp only [List.mem_range] at hk
        simp only [Bool.and_eq_true, decide_eq_true_eq] at hkd
        obtain ⟨hik, hkd⟩ := hkd
        cases hlk : l[k]? with
        | none => rw [hlk] at hkd; cases hkd
        | some ok =>
          rw [hlk] at hkd
          simp only at hkd
          by_cases hkn : k = n
          · subst hkn
            subst hjeq
            rw [ho2] at hlk; cases hlk
            exact ((ready_dep hbk hs' hj ho2).2 _ hkd).1
          · have hlt : k < n := by omega
            have hit : ∃ it, its[k]? = some it := ⟨_, List.getElem?_eq_getElem (by omega)⟩
            obtain ⟨it, hit⟩ := hit
            have hok : it.o = ok := by
              have e1 : (its.map (·.o))[k]? = some it.o := by simp [hit]
              rw [h1, List.getElem?_take, if_pos hlt, hlk] at e1
              exact (Option.some.inj e1).symm
            exact hcl k it hit (ih k hlt (by omega)) i (by rw [hok]; exact hkd)
    intro i hi
    exact key n i (by omega) (by omega)
  have := any_of_JB (C := C) rfl hD (B := l.drop n) (by rw [h1]; exact h2) (fun h ob hl => ⟨lk_rdOf hl, hk h ob (lk_rdOf hl)⟩) (fun h ob hl => hl) (Q := fun e a' w' => ∃ st', Q e st' ∧ Inv C st' a' w') hcov (fun fuel listed a w hs hA hB hf hI => by
    rw [hsplit]
    refine any_seq hT rfl hCm (ops := l) (n := n) (by rw [hN]; exact hd0) hbk hsq (l.drop n) (l.take n) _ fuel listed a w (Q .normal) (List.take_append_drop n l).symm (by simp; omega) (by rw [hs, hln, hlB]; omega) (fun i hi => hA i (by simp at hi; omega)) (fun k hk hk2 => hB k (by simp at hk; omega) (by omega)) hf hI h4 (fun st' a' w' hq hi => ⟨st', hq, hi⟩)) l.toArray.size (Array.replicate l.toArray.size false) a { w with drawn := w.drawn + 1 } 0 hv hsz
  rw [hsplit] at this
  refine this (fun k _ hk => hun k (by omega)) ?_ ?_
  · have : ((Array.replicate l.toArray.size false).toList.take its.length).count false ≤ its.length := Nat.le_trans List.count_le_length (by simp; omega)
    rw [hlB]
    simp at this ⊢
    omega
  have e0 : stAt its 0 st.hp st.nx = (st.hp, st.nx) := by cases its <;> rfl
  refine ⟨fun i it hi _ => ?_, fun i it hi hls => ?_, by rw [e0]; exact hH, by rw [e0]; exact hk, by rw [e0]; exact hm', by rw [e0]; exact hpin, hS.defers, hS.size, ?_, fun i it t hi _ hls => ?_⟩
  · have hi2 := (List.getElem?_eq_some_iff.1 hi).1
    rw [hun i (by omega)]; simp
  · have hi2 := (List.getElem?_eq_some_iff.1 hi).1
    rw [hun i (by omega)] at hls; cases hls
  · rw [e0]; exact fun t d hl _ => hS.at_ t d hl
  · have hi2 := (List.getElem?_eq_some_iff.1 hi).1
    rw [hun i (by omega)] at hls; cases hls
/-! ### A nil slice in a cell of an object -/
theorem HInv.redesc {w0 : World} {S : List Nat} {G : Nat → Prop} {hv : Nat → Value} {hp : HP} {w : World} (hI : HInv w0 S G hv hp w) {h : Nat} {ob ob' : Ob} (hl : lk h hp = some ob) (hs : ob'.sz = ob.sz) (hob : ObRep (LOf hv hp) w (FOf G hv hp w) ob' (hv h)) :
    HInv w0 S G hv (hset h ob' hp) w ∧ LOf hv (hset h ob' hp) = LOf hv hp ∧ FOf G hv (hset h ob' hp) w = FOf G hv hp w := by
  have eL := LOf_hset (hv := hv) hl hs
  have eF := FOf_hset (G := G) (hv := hv) (ob' := ob') (w' := w) hl rfl
  have old : ∀ k o, lk k (hset h ob' hp) = some o → ∃ o', lk k hp = some o' := fun k o hk => by
    rw [lk_hset] at hk
    by_cases e : k = h
    · exact ⟨ob, e ▸ hl⟩
    · exact ⟨o, by rw [if_neg e] at hk; exact hk⟩
  refine ⟨⟨fun k o hk => ?_, fun k k' o o' hk hk' hne => ?_, fun k o b hk hb => ?_, hI.keeps, hI.gnew⟩, eL, eF⟩
  · rw [eL, eF]
    rw [lk_hset] at hk
    by_cases e : k = h
    · subst e
      rw [if_pos rfl, hl] at hk
      cases hk
      exact hob
    · rw [if_neg e] at hk
      exact hI.obs k o hk
  · obtain ⟨o1, h1⟩ := old k o hk
    obtain ⟨o2, h2⟩ := old k' o' hk'
    exact hI.inj k k' o1 o2 h1 h2 hne
  · obtain ⟨o1, h1⟩ := old k o hk
    exact hI.base k o1 b h1 hb

theorem weak_nilO (h i j : Nat) (ty : TypeId) (sz : Nat) {sl : List (Nat × D)} {hp : HP} {nx : Nat} {ob : Ob} {x : List D} (hl : lk h hp = some ob) (hdp : ob.deep = true) (hx : ob.xs[i]? = some x) (hj : x[j]? = some .nil) :
    Weak C ⟨sl, hp, nx⟩ ⟨sl, hset h { ob with xs := ob.xs.set i (x.set j (.own nx)) } ((nx, ⟨ty, sz, false, []⟩) :: hp), nx + 1⟩ := fun a w ⟨hv, hH, hk, hm, hpn, hS⟩ => by
  have hfresh : lk nx hp = none := by
    cases h : lk nx hp with
    | none => rfl
    | some ob => have := hk nx ob h; simp at this
  have hne : h ≠ nx := fun e => by rw [e, hfresh] at hl; cases hl
  obtain ⟨hI, hL, hF⟩ := hH.alloc (h0 := nx) hfresh (ob := ⟨ty, sz, false, []⟩) (v := .slice none 0 0) (w' := w) (Below.refl _ w) (fun b hb => by cases hb)
    ⟨[], ⟨by simp, .inl ⟨rfl, rfl⟩⟩, fun x hx => by simp at hx, fun i j x d hi => by simp at hi⟩
  have hl2 : lk h ((nx, ⟨ty, sz, false, []⟩) :: hp) = some ob := by rw [lk_cons, if_neg hne]; exact hl
  obtain ⟨vs, ho, hg, hc⟩ := hI.obs h ob hl2
  have hil : i < ob.xs.length := (List.getElem?_eq_some_iff.1 hx).1
  have hjl : j < x.length := (List.getElem?_eq_some_iff.1 hj).1
  obtain ⟨hI2, eL, eF⟩ := hI.redesc (ob' := { ob with xs := ob.xs.set i (x.set j (.own nx)) }) hl2 rfl (by
    refine ⟨vs, by simpa using ho, fun y hy => ?_, fun i' j' y d hi hj' => ?_⟩
    · rcases List.mem_or_eq_of_mem_set hy with hy | rfl
      · exact hg y hy
      · simp only [List.length_set]
        exact hg x (List.mem_of_getElem? hx)
    · by_cases e1 : i' = i
      · subst e1
        simp only [List.getElem?_set_self hil, Option.some.injEq] at hi
        subst hi
        by_cases e2 : j' = j
        · subst e2
          rw [List.getElem?_set_self hjl] at hj'
          cases hj'
          obtain ⟨u, hu, h1, hr⟩ := hc i' j' x .nil hx hj
          refine ⟨u, hu, h1, ?_⟩
          simp only [RepO, hdp, if_true] at hr ⊢
          have hr : RepP _ _ .nil u := hr
          refine ⟨sz, ?_⟩
          simp only [LOf, lk_cons, if_true, Option.map_some]
          generalize u = u at hr
          cases hr
          rfl
        · rw [List.getElem?_set_ne (Ne.symm e2)] at hj'
          exact hc i' j' x d hx hj'
      · rw [List.getElem?_set_ne (Ne.symm e1)] at hi
        exact hc i' j' y d hi hj')
  have hlk : ∀ k o, lk k (hset h { ob with xs := ob.xs.set i (x.set j (.own nx)) } ((nx, ⟨ty, sz, false, []⟩) :: hp)) = some o → k = nx ∨ ∃ o', lk k hp = some o' := fun k o hk => by
    rw [lk_hset] at hk
    by_cases e : k = h
    · exact .inr ⟨ob, e ▸ hl⟩
    · rw [if_neg e, lk_cons] at hk
      by_cases e2 : k = nx
      · exact .inl e2
      · rw [if_neg e2] at hk; exact .inr ⟨o, hk⟩
  refine ⟨_, hI2, fun k o hk' => ?_, Nat.le_succ_of_le hm, fun k o hk' hlt => ?_, hS.defers, hS.size, fun t d hd => ?_⟩
  · rcases hlk k o hk' with rfl | ⟨o', h'⟩
    · exact Nat.lt_succ_self _
    · exact Nat.lt_succ_of_lt (hk k o' h')
  · have hkn : k ≠ nx := fun e => by subst e; simp only at hm; omega
    rcases hlk k o hk' with h1 | ⟨o', h'⟩
    · exact absurd h1 hkn
    · simp only [hkn, if_false]
      exact hpn k o' h' hlt
  · rw [eL, eF]
    exact (hS.at_ t d hd).mono hL hF
end Go.Proofs.Ytjkhgcmdcjdipaa.Abs

/- Abs, part 27: f(append(x, ..)) where x lives on: the old row is still as it was. -/
set_option linter.unusedVariables false
set_option linter.unusedSimpArgs false
namespace Go.Proofs.Ytjkhgcmdcjdipaa.Abs
open Go Go.RowKit
variable {P : Program} {T : TT} {C : Ctx}

/-- Behind an append the old slice still reads what it did. -/
theorem append_keeps {w w' : World} (t ty e : TypeId) (i : TypeInfo) (z : Value) (ht : P.underlying t = some (.slice e)) (hi : P.info? e = some i) (hz : i.zero = some z)
    (v v' : Value) (n : Nat) (xs : List Value) (hown : oRow w 0 e i.size v n xs) (a : Addr) (m c : Nat) (news : List Value) (hl : news.length = m * i.size) (hnews : ∀ j u, news[j]? = some u → w.cell? (a.add j) = some u) (h1 : ∀ u ∈ news, u.oneCell' = true)
    (h63 : n + m ≤ 9223372036854775807) (hbytes : (n + m) * i.bytes ≤ 140737488355328) (hrun : (Builtin.append_ #[t, t] ty #[v, .slice (some a) m c]).run P w = .ok v' w') : oRow w' 0 e i.size v n xs := by
  rcases hown.2 with ⟨rfl, rfl⟩ | ⟨g, cap, cur, rfl, hbg, ⟨e', fz, hg, hmk⟩, hnc, hcm, hcs, htake⟩
  · have : xs = [] := List.eq_nil_of_length_eq_zero (by simpa using hown.1)
    subst this
    exact oRow_nil _ _ _ _
  · by_cases hroom : n + m ≤ cap
    · have hfit : 0 + n * i.size + news.length ≤ cur.size := by rw [hl, hcs, Nat.zero_add, ← Nat.add_mul]; exact Nat.mul_le_mul_right _ hroom
      have hr := run_append_roomF (P := P) w t ty e i ht hi g 0 n cap cur e' fz hg hmk.ok a m c news hl hnews h1 hroom hfit
      simp only [Nat.zero_add] at hr hfit
      rw [hr] at hrun
      simp only [Result.ok.injEq] at hrun
      obtain ⟨-, rfl⟩ := hrun
      refine ⟨hown.1, .inr ⟨g, cap, _, rfl, hbg, ⟨e', fz, setRow_heap w g cur _ e' _ hg, ?_⟩, hnc, hcm, ?_, ?_⟩⟩
      · have : (cur.toList.take (n * i.size) ++ news ++ cur.toList.drop (n * i.size + news.length)).toArray.size = cur.size := by
          simp only [List.size_toArray, List.length_append, List.length_take, List.length_drop, Array.length_toList]
          omega
        rw [this]
        exact hmk
      · simp only [List.size_toArray, List.length_append, List.length_take, List.length_drop, Array.length_toList]
        omega
      · have hxl := hown.1
        simp only [htake, List.append_assoc]
        rw [← hxl]
        exact List.take_left
    · have holds : ∀ j u, xs[j]? = some u → w.cell? ((⟨g, 0, none⟩ : Addr).add j) = some u := hown.cells (g := g) rfl
      have hr := run_append_grow (P := P) w t ty e i z ht hi hz ⟨g, 0, none⟩ n cap xs hown.1 holds a m c news hl hnews (by omega) (by omega) (growslice_fits (by omega) hbytes)
      rw [hr] at hrun
      simp only [Result.ok.injEq] at hrun
      obtain ⟨-, rfl⟩ := hrun
      refine ⟨hown.1, .inr ⟨g, cap, cur, rfl, hbg, ⟨e', fz, ?_, hmk⟩, hnc, hcm, hcs, htake⟩⟩
      have hlt : g < w.heap.size := (Array.getElem?_eq_some_iff.1 hg).1
      rw [← hg]
      show (w.heap.push _)[g]? = _
      rw [Array.getElem?_push_lt hlt, Array.getElem?_eq_getElem hlt]

/-- A region's operations from here on, said of worlds. -/
def SReg (C : Ctx) (ops l : List Oper) (st : St) (K : St → Prop) : Prop := ∀ (Q : Exit → Act → World → Prop) (a : Act) (w : World), Inv C st a w → (∀ st' a' w', K st' → Inv C st' a' w' → Q .normal a' w') → wpList C.P ops.toArray Q l a w
theorem sreg_areg {m N : Nat} (hT : TOk P T) (hP : C.P = P) (hCm : C.m = m) (hN : C.N = N) {ops l : List Oper} (hd : dstsOk N ops = true) (hsub : ∀ o ∈ l, o ∈ ops) {st : St} {K : St → Prop} (h : areg P T m ops l st K) : SReg C ops l st K := fun Q a w hI hK => by
  subst hP
  exact areg_wp hT rfl hCm (by rw [hN]; exact hd) l st a w K hsub hI h hK
theorem sreg_step {m N : Nat} (hT : TOk P T) (hP : C.P = P) (hCm : C.m = m) (hN : C.N = N) {ops l : List Oper} {o : Oper} (hd : dstsOk N ops = true) (hsub : o ∈ ops) (hg : o.guard = none) {st st' : St} {K : St → Prop} (h : aop P T m o st (· = st')) (hK : SReg C ops l st' K) : SReg C ops (o :: l) st K := fun Q a w hI hQ => by
  subst hP
  refine wpList_step (fun K' hK' => ?_)
  simp only [Region.wanted, hg, if_true]
  refine aop_wp hT rfl hCm hI (fun t ht => ?_) h (fun st'' a' w' h1 h2 => hK' _ _ (by subst h1; exact hK Q a' w' h2 hQ))
  have := List.all_eq_true.1 hd o hsub
  rw [hN]
  simpa [ht] using this
theorem awp_sreg {id : Nat} {opsA : Array Oper} {l : List Oper} {st : St} {Q : Exit → St → Prop} (he : opsA = l.toArray) (h : SReg C l l st (Q .normal)) : awp C (.region id opsA false) Q st := fun a w hI => by
  subst he
  exact wp_region_list (h _ a w hI (fun st' a' w' h1 h2 => ⟨st', h1, h2⟩))

/-- **f(append(x, ..))**: x's row lives on; what append gave is read by f alone. -/
theorem sreg_appcall {X : Type} {s : Spec X} {f : FuncId} (hT : TOk P T) (hP : C.P = P) {N : Nat} (hN : C.N = N) {ops l : List Oper} {t1 t2 : Tmp} {x1 x2 cf : Operand} {t ty ty2 : TypeId} {tys : Array TypeId} {p1 p2 : String} {af1 af2 : Array Edge} {sl : List (Nat × D)} {hp : HP} {nx : Nat} {K : St → Prop}
    (ht1 : t1 < N) (ht2 : t2 < N) (hF : FnOk P f s) (x : X) {h : Nat} {ob : Ob} {rows : List (List D)} {prow : Prop} {te : TI} {u : Value}
    (hx1 : evD sl x1 = .own h) (hob : lk h hp = some ob) (hdp : ob.deep = false) (hty : (lk t T).map (fun ti : TI => ti.sh) = some (.slice ob.ty)) (hte : lk ob.ty T = some te) (hsz : ob.sz = te.size) (hpos : 0 < te.size) (hrow : rowOf hp te.size (evD sl x2) = some (prow, rows, false)) (hprow : prow)
    (hby : (ob.xs.length + rows.length) * te.bytes ≤ 140737488355328) (h63 : ob.xs.length + rows.length ≤ 9223372036854775807)
    (hargs : s.args x = [.sl te.size (ob.xs ++ rows)]) (hpre : s.pre x) (hobs : s.obs x = []) (hout : s.out x = []) (hnew : s.new x = []) (hres : s.res x = .val u)
    (hK : SReg C ops l ⟨(t2, .val u) :: (t1, .any) :: sl, hp, nx⟩ K)
    (hcf : ∀ a : Act, a.eval cf = .func (.func f) #[] #[]) : SReg C ops ({ dst := some t1, op := .call ⟨.builtin .append, #[x1, x2], #[t, t]⟩, type := ty, pos := p1, after := af1, guard := none } :: { dst := some t2, op := .call ⟨.value cf, #[.tmp t1], tys⟩, type := ty2, pos := p2, after := af2, guard := none } :: l) ⟨sl, hp, nx⟩ K := fun Q a w hI hQ => by
  subst hP
  obtain ⟨hv, hH, hk, hm, hpin, hS⟩ := hI
  simp only at hH hk hm hpin hS
  have hev := evD_ok hS
  have hx1' := hev x1
  rw [hx1] at hx1'
  obtain ⟨s1, hL1⟩ := hx1'
  rw [LOf_eq hob] at hL1
  simp only [Option.some.injEq, Prod.mk.injEq] at hL1
  obtain ⟨hvh, -⟩ := hL1
  have hR := rowOf_ok hH (hev x2) hrow hprow
  obtain ⟨vs, hown, hg, hcv⟩ := hH.obs h ob hob
  obtain ⟨ti, hl, hsh⟩ := Option.map_eq_some_iff.1 hty
  have hu := TI.under_slice (hT _ _ hl) hsh
  obtain ⟨i, hi, his, hib, hiz⟩ := TI.info (hT _ _ hte)
  have hzs := (hT _ _ hte).2.2
  -- what append does
  have key : ∃ (v' : Value) (w' : World) (news : List Value), (Builtin.append_ #[t, t] ty #[a.eval x1, a.eval x2]).run C.P w = .ok v' w' ∧ oRow w' 0 ob.ty ob.sz v' (ob.xs.length + rows.length) (vs ++ news) ∧ w.grownBy w' (hv h).ownBlock ∧ oRow w' 0 ob.ty ob.sz (hv h) ob.xs.length vs ∧
      ∀ i j x d, rows[i]? = some x → x[j]? = some d → ∃ u, news[i * te.size + j]? = some u ∧ u.oneCell' = true ∧ RepO false (LOf hv hp) w (FOf C.G hv hp w) d u := by
    rw [← hvh]
    rcases hR.2 with ⟨hn, hr0⟩ | ⟨ad, c, hn, hnc, hc⟩
    · rw [hn]
      subst hr0
      rw [hsz] at hown
      refine ⟨hv h, w, [], run_append_oNone (P := C.P) w 0 t ty ob.ty i te.size hu hi (hv h) _ vs hown, by rw [hsz]; simpa using hown, ⟨rfl, rfl, rfl, Nat.le_refl _, fun _ _ _ => rfl⟩, by rw [hsz]; exact hown, fun i j x d hi => by simp at hi⟩
    · rw [hn]
      obtain ⟨news, hnl, hncell, hn1, hnr⟩ := row_cells hR.1 hc
      rw [hsz] at hown
      obtain ⟨v', w', hrun, ho', hgr, hnil, hblk⟩ := run_append_oAt (P := C.P) w 0 t ty ob.ty i te.zero te.size te.bytes hu hi hiz his hib hzs hpos (hv h) ob.xs.length vs hown ad rows.length c news hnl hncell hn1 (by simpa [maxLen] using h63) (by simpa using hby) (Nat.zero_le _)
      refine ⟨v', w', news, hrun, by rw [hsz]; exact ho', hgr, ?_, hnr⟩
      have := append_keeps (P := C.P) t ty ob.ty i te.zero hu hi hiz (hv h) v' ob.xs.length vs (by rw [his]; exact hown) ad rows.length c news (by rw [his]; exact hnl) hncell hn1 h63 (by rw [hib]; exact hby) hrun
      rw [hsz, ← his]
      exact this
  obtain ⟨v', w', news, hrun, ho', hgr, hold, hnr⟩ := key
  -- what stays
  have hF1 : ∀ b, FOf C.G hv hp w b → b < w'.heap.size ∧ w'.heap[b]? = w.heap[b]? := fun b hb => ⟨Nat.lt_of_lt_of_le hb.1.1 hgr.size, hgr.block b hb.1.1 (fun e => hb.2 h ob hob e.symm)⟩
  refine wpList_step (fun K1 hK1 => ?_)
  simp only [Region.wanted, if_true]
  unfold Oper.wp
  rw [show (execOp a.eval { dst := some t1, op := .call ⟨.builtin .append, #[x1, x2], #[t, t]⟩, type := ty, pos := p1, after := af1, guard := none }).run C.P w = .ok (.value v') w' by simp [execOp, resolve, invoke, builtin, hrun]]
  refine hK1 _ _ (wpList_step (fun K2 hK2 => ?_))
  simp only [Region.wanted, if_true]
  have hev1 : (a.put (some t1) v').eval (.tmp t1) = v' := put_same (by rw [hS.size, hN]; exact ht1)
  obtain ⟨hent, hcon⟩ := hF
  -- the row that append gave, as it is read
  have hrow' : Row (fun _ => none) w' (fun b => b < w'.heap.size) te.size (ob.xs ++ rows) false v' := by
    have := own_row (L := fun _ => none) (F := fun b => b < w'.heap.size) (w := w') (ob := ⟨ob.ty, ob.sz, false, ob.xs ++ rows⟩) (v := v') ⟨vs ++ news, by simpa using ho', fun x hx => by
        rcases List.mem_append.1 hx with hx | hx
        · exact hg x hx
        · show x.length = ob.sz; rw [hsz]; exact hR.1 x hx, fun i j x d hi hj => by
        have hvl : vs.length = ob.xs.length * ob.sz := hown.1
        simp only [RepO, Bool.false_eq_true, if_false]
        rcases append_get (news := news) hvl i j x hi with ⟨h1, h2⟩ | ⟨i', rfl, h1, h2⟩
        · obtain ⟨u, hu, h3, hr⟩ := hcv i j x d h1 hj
          have hlt : i * ob.sz + j < ob.xs.length * ob.sz := by rw [← hown.1]; exact (List.getElem?_eq_some_iff.1 hu).1
          simp only [RepO, hdp, Bool.false_eq_true, if_false] at hr
          exact ⟨u, (h2 hlt).trans hu, h3, hr.mono hF1⟩
        · obtain ⟨u, hu, h3, hr⟩ := hnr i' j x d h1 hj
          rw [← hsz] at hu
          simp only [RepO, Bool.false_eq_true, if_false] at hr
          exact ⟨u, h2.trans hu, h3, hr.mono hF1⟩⟩
    rw [← hsz]
    exact this
  have hblk : ∀ b, v'.ownBlock = some b → b < w'.heap.size := fun b hb => (ho'.lt b hb).2
  have hA : RepP w' (FOf (fun _ => True) (fun _ => undef) [] w') (.sl te.size (ob.xs ++ rows)) v' := row_toP hrow' (fun e => by cases e) (fun b hb => ⟨⟨hb, trivial⟩, fun h ob hl => by simp [lk] at hl⟩)
    (fun ad n c e hne => by
      rcases ho'.2 with ⟨h1, h2⟩ | ⟨g, cap, cur, h1, _⟩
      · rw [h1] at e; cases e
      · rw [h1] at e
        simp only [Value.slice.injEq, Option.some.injEq] at e
        obtain ⟨rfl, _, _⟩ := e
        exact ⟨⟨⟨hblk g (by rw [h1]; rfl), trivial⟩, fun h ob hl => by simp [lk] at hl⟩, rfl⟩)
    (fun A n c e => by
      rcases ho'.2 with ⟨h1, h2⟩ | ⟨g, cap, cur, h1, _, _, _, hcm, _⟩
      · rw [h1] at e; cases e; simp [maxLen]
      · rw [h1] at e; cases e; exact hcm)
  have hc2 := (hcon x hpre).2 w' [] (fun _ => True) (fun _ => undef) [v'] (fun _ _ => trivial)
  rw [hobs, hout, hnew, hres, hargs] at hc2
  have ht' : TabAt [] w' := fun p hp => by
    obtain ⟨q1, q2, o, q3, q4⟩ := hH.keeps.tab p hp
    have q5 := Nat.lt_of_lt_of_le q1 hH.keeps.size
    refine ⟨Nat.lt_of_lt_of_le q5 hgr.size, by simp, o, ?_, q4⟩
    rw [hgr.block _ q5 (fun e => ?_), hH.keeps.block _ q1 q2, q3]
    rcases hH.base h ob p.1 hob e.symm with h3 | h3
    · omega
    · exact q2 h3
  have hcall := hc2 (hinv_none _ _ _ ht' (fun _ _ => trivial)) ⟨hA, trivial⟩
  refine callOp_wp (o := { dst := some t2, op := .call ⟨.value cf, #[.tmp t1], tys⟩, type := ty2, pos := p2, after := af2, guard := none }) rfl (hcf _) hent (R := fun v w'' => v = u ∧ Below w'.heap.size w' w'') ?_ (fun v w'' hvw => ?_)
  · rw [show (#[] ++ #[Operand.tmp t1].map (a.put (some t1) v').eval ++ #[] : Array Value) = [v'].toArray by simp [hev1]]
    exact hcall.mono (fun e w'' ⟨v, hv2, he, hI2, _, hr⟩ => ⟨v, he, rep_val hr, hI2.keeps.below⟩)
  obtain ⟨rfl, hb2⟩ := hvw
  refine hK2 _ _ (hK Q _ _ ?_ hQ)
  -- the state behind both
  have hF2 : ∀ b, FOf C.G hv hp w b → FOf C.G hv hp w'' b ∧ w''.heap[b]? = w.heap[b]? := fun b hb => by
    obtain ⟨h1, h2⟩ := hF1 b hb
    exact ⟨⟨⟨Nat.lt_of_lt_of_le h1 hb2.size, hb.1.2⟩, hb.2⟩, (hb2.block b h1).trans h2⟩
  have hgb : w'.grownBy w'' none := ⟨hb2.os, hb2.tape, hb2.output, hb2.size, fun i hi _ => hb2.block i hi⟩
  refine ⟨hv, ⟨fun k o hlk => ?_, hH.inj, hH.base, ?_, fun b hbb => hH.gnew b (Nat.le_trans (Nat.le_trans hgr.size hb2.size) hbb)⟩, hk, hm, hpin, ?_⟩
  · by_cases e : k = h
    · subst e
      rw [hob] at hlk
      cases hlk
      refine ⟨vs, hold.kept hgb (by cases (hv k).ownBlock <;> simp), hg, fun i j x d hi hj => ?_⟩
      obtain ⟨u, hu, h1, hr⟩ := hcv i j x d hi hj
      exact ⟨u, hu, h1, RepO.obMono hr (fun _ _ h => h) hF2⟩
    · obtain ⟨vs2, ho2, hg2, hc2⟩ := hH.obs k o hlk
      refine ⟨vs2, (ho2.kept hgr ?_).kept hgb (by cases (hv k).ownBlock <;> simp), hg2, fun i j x d hi hj => ?_⟩
      · rcases hH.inj k h o ob hlk hob e with h1 | h1
        · exact .inl h1
        · exact .inr h1
      obtain ⟨u, hu, h1, hr⟩ := hc2 i j x d hi hj
      exact ⟨u, hu, h1, RepO.obMono hr (fun _ _ h => h) hF2⟩
  · have hk1 := hH.keeps
    refine ⟨hb2.os.trans (hgr.os.trans hk1.os), hb2.tape.trans (hgr.tape.trans hk1.tape), hb2.output.trans (hgr.output.trans hk1.output), Nat.le_trans hk1.size (Nat.le_trans hgr.size hb2.size), fun k hk2 hkS => ?_, hk1.tab⟩
    have h1 : k < w.heap.size := Nat.lt_of_lt_of_le hk2 hk1.size
    rw [hb2.block k (Nat.lt_of_lt_of_le h1 hgr.size), hgr.block k h1 (fun e => by
      rcases hH.base h ob k hob e.symm with h3 | h3
      · omega
      · exact hkS h3)]
    exact hk1.block k hk2 hkS
  · refine ⟨by rw [put_defers, put_defers]; exact hS.defers, by rw [put_size, put_size]; exact hS.size, fun t' d hd => ?_⟩
    have hold2 : ∀ t'' d, lk t'' sl = some d → Rep (LOf hv hp) w'' (FOf C.G hv hp w'') d (a.tmps.getD t'' undef) := fun t'' d hd => (hS.at_ t'' d hd).mono (fun _ _ h => h) hF2
    rw [lk_cons] at hd
    split at hd
    · rename_i e
      subst e
      cases hd
      rw [put_same (by rw [put_size, hS.size, hN]; exact ht2)]
      exact rep_mk _
    · rename_i e2
      rw [put_other (by simp only [ne_eq, Option.some.injEq]; exact fun e => e2 e.symm)]
      rw [lk_cons] at hd
      split at hd
      · cases hd
        exact (RepP.any _ : RepP w'' _ .any _)
      · rename_i e1
        rw [put_other (by simp only [ne_eq, Option.some.injEq]; exact fun e => e1 e.symm)]
        exact hold2 t' d hd
theorem aop_go {m : Nat} {st st' : St} {dst : Option Tmp} {op : Op} {ty : TypeId} {pos : String} {af : Array Edge} {pre : Prop} {r : Res} (hs : astep T op (evD st.sl) st.hp st.nx = some (pre, r)) (hd : deadOk m r = true) (hpre : pre) (hst : st.app dst r = st') : aop P T m { dst := dst, op := op, type := ty, pos := pos, after := af, guard := none } st (· = st') := by
  simp only [aop, hs]
  exact ⟨hpre, hd, hst⟩
theorem sg1 {m N : Nat} (hT : TOk P T) (hP : C.P = P) (hCm : C.m = m) (hN : C.N = N) {ops l : List Oper} {st st' : St} {K : St → Prop} {dst : Option Tmp} {op : Op} {ty : TypeId} {pos : String} {af : Array Edge} {pre : Prop} {r : Res} (hK : SReg C ops l st' K) (hd : dstsOk N ops = true := by rfl) (hsub : { dst := dst, op := op, type := ty, pos := pos, after := af, guard := none } ∈ ops := by repeat (first | exact List.Mem.head _ | apply List.Mem.tail))
    (hs : astep T op (evD st.sl) st.hp st.nx = some (pre, r) := by rfl) (hdead : deadOk m r = true := by rfl) (hpre : pre := by first | trivial | exact ⟨rfl, by (repeat (first | exact fm_nil | refine fm_cons ⟨rfl, rfl⟩ ?_)), Nat.le_of_ble_eq_true rfl, Nat.le_of_ble_eq_true rfl⟩)
    (hst : st.app dst r = st' := by simp +decide (disch := omega) only [nrm, lk_nrm, dc_nrm, mk_nrm, mf_nrm, ti_nrm, ls_nrm, mp_nrm, nb_nrm, hset, pick_and, pick_or, ↓reduceIte, Nat.reduceAdd, wI64, wI32, wI16, wI8, wU8, List.length_map, Int.toNat_natCast, xn1, xn2]; rfl) : SReg C ops ({ dst := dst, op := op, type := ty, pos := pos, after := af, guard := none } :: l) st K :=
  sreg_step hT hP hCm hN hd hsub rfl (aop_go hs hdead hpre hst) hK
theorem sreg_rest {m N : Nat} (hT : TOk P T) (hP : C.P = P) (hCm : C.m = m) (hN : C.N = N) {ops l : List Oper} {st : St} {K : St → Prop} (h : areg P T m ops l st K) (hd : dstsOk N ops = true := by rfl) (hsub : ∀ o ∈ l, o ∈ ops := by intro o ho; repeat (first | exact ho | apply List.Mem.tail)) : SReg C ops l st K :=
  sreg_areg hT hP hCm hN hd hsub h
end Go.Proofs.Ytjkhgcmdcjdipaa.Abs

/- Abs, part 28: regions that draw their order, and lay boxes at any time of it. -/
set_option linter.unusedVariables false
set_option linter.unusedSimpArgs false
namespace Go.Proofs.Ytjkhgcmdcjdipaa.Abs
open Go Go.RowKit
variable {P : Program} {T : TT} {C : Ctx}

theorem lk_of_mem {α : Type} : ∀ {l : List (Nat × α)} {p : Nat × α}, p ∈ l → ∃ v, lk p.1 l = some v
  | (k, v) :: l, p, h => by
    rw [lk_cons]
    by_cases e : p.1 = k
    · exact ⟨v, if_pos e⟩
    · rw [if_neg e]
      rcases List.mem_cons.1 h with rfl | h
      · exact absurd rfl e
      · exact lk_of_mem h

/-- An operation, and what it leaves alone: the blocks that no object owns. -/
theorem oprel_keep {o : Oper} {ev : Operand → D} {hp : HP} {nx : Nat} {r : Res} (hrel : OpRel P o ev hp nx r) {w0 : World} {S : List Nat} {G : Nat → Prop} {hv : Nat → Value} {a : Act} {w : World} (hI : HInv w0 S G hv hp w) (hk : ∀ h ob, lk h hp = some ob → h < nx) (hev : ∀ x, Rep (LOf hv hp) w (FOf G hv hp w) (ev x) (a.eval x))
    (K : Act → World → Prop) (Q : Exit → Act → World → Prop) (hK : ∀ v hv' w', Post w0 S G hv hp w r v hv' w' → w.heap.size ≤ w'.heap.size → (∀ k, k < w.heap.size → (∀ h ob, lk h hp = some ob → (hv h).ownBlock ≠ some k) → w'.heap[k]? = w.heap[k]?) → (∀ h ob b, lk h (r.hpOf hp) = some ob → (hv' h).ownBlock = some b → w.heap.size ≤ b ∨ ∃ h' ob', lk h' hp = some ob' ∧ (hv h').ownBlock = some b) → K (a.put o.dst v) w') : o.wp P a w K Q := by
  have hS1 : ∀ h ob b, lk h hp = some ob → (hv h).ownBlock = some b → b ∈ hp.filterMap fun p => (hv p.1).ownBlock := fun h ob b hl hb => List.mem_filterMap.2 ⟨(h, ob), lk_mem hl, hb⟩
  have hS2 : ∀ b, (b ∈ hp.filterMap fun p => (hv p.1).ownBlock) → ∃ h ob, lk h hp = some ob ∧ (hv h).ownBlock = some b := fun b hb => by
    obtain ⟨p, hp', hb⟩ := List.mem_filterMap.1 hb
    obtain ⟨ob, hob⟩ := lk_of_mem hp'
    exact ⟨p.1, ob, hob, hb⟩
  refine hrel.2 w (hp.filterMap fun p => (hv p.1).ownBlock) G hv a w ⟨hI.obs, hI.inj, fun h ob b hl hb => .inr (hS1 h ob b hl hb), Keeps.refl _ _ (hI.keeps.later (fun b hb => by obtain ⟨h, ob, hl, hb'⟩ := hS2 b hb; exact hI.base h ob b hl hb')), hI.gnew⟩ hk hev K Q (fun v hv' w' hP => ?_)
  have hkp := hP.inv.keeps
  refine hK v hv' w' ⟨⟨hP.inv.obs, hP.inv.inj, fun h ob b hl hb => ?_, ?_, hP.inv.gnew⟩, hP.rep, hP.old, hP.same⟩ hkp.size (fun k hk hno => hkp.block k hk (fun hm => ?_)) (fun h ob b hl hb => ?_)
  · rcases hP.inv.base h ob b hl hb with h1 | h1
    · exact .inl (Nat.le_trans hI.keeps.size h1)
    · obtain ⟨h', ob', hl', hb'⟩ := hS2 b h1
      exact hI.base h' ob' b hl' hb'
  · refine ⟨hkp.os.trans hI.keeps.os, hkp.tape.trans hI.keeps.tape, hkp.output.trans hI.keeps.output, Nat.le_trans hI.keeps.size hkp.size, fun k hk hkS => ?_, hI.keeps.tab⟩
    rw [hkp.block k (Nat.lt_of_lt_of_le hk hI.keeps.size) (fun hm => ?_)]
    · exact hI.keeps.block k hk hkS
    · obtain ⟨h', ob', hl', hb'⟩ := hS2 k hm
      rcases hI.base h' ob' k hl' hb' with h1 | h1
      · omega
      · exact hkS h1
  · obtain ⟨h', ob', hl', hb'⟩ := hS2 k hm
    exact hno h' ob' hl' hb'
  · rcases hP.inv.base h ob b hl hb with h1 | h1
    · exact .inl h1
    · exact .inr (hS2 b h1)

/-- The context, but for the blocks that have been laid and are not yet an object. -/
def CE (C : Ctx) (E : Nat → Option Nat) : Ctx := { C with G := fun b => C.G b ∧ ∀ i, E i ≠ some b }
def InvH (C : Ctx) (hv : Nat → Value) (st : St) (a : Act) (w : World) : Prop :=
  HInv C.w0 C.S C.G hv st.hp w ∧ (∀ h ob, lk h st.hp = some ob → h < st.nx) ∧ C.m ≤ st.nx ∧ (∀ h ob, lk h st.hp = some ob → h < C.m → hv h = C.hv0 h) ∧ SInv C.N (LOf hv st.hp) w (FOf C.G hv st.hp w) st.sl a

/-- The operations that lay boxes. -/
def AlOk (T : TT) (its : List It) (als : List Nat) : Prop := ∀ i ∈ als, ∃ it t ty ti, its[i]? = some it ∧ it.o.dst = some t ∧ it.o.op = .alloc ty ∧ it.o.guard = none ∧ it.pin = false ∧ it.on = true ∧ it.r = { d := .any } ∧ lk ty T = some ti ∧ ti.zero.cells.toList.all (fun c => c.oneCell') = true

structure Pend (T : TT) (C : Ctx) (its : List It) (als : List Nat) (E : Nat → Option Nat) (hv : Nat → Value) (hp : HP) (listed : Array Bool) (a : Act) (w : World) : Prop where
  all : ∀ i, i ∈ als → listed.getD i true = true → ∃ b, E i = some b
  only : ∀ i b, E i = some b → i ∈ als ∧ listed.getD i true = true
  blk : ∀ i b it t ty ti, E i = some b → its[i]? = some it → it.o.dst = some t → it.o.op = .alloc ty → lk ty T = some ti → b < w.heap.size ∧ C.w0.heap.size ≤ b ∧ a.tmps.getD t undef = .pointer (some ⟨b, 0, none⟩) ∧ w.heap[b]? = some (.cells ti.zero.cells ty (0, 0))
  out : ∀ i b h ob, E i = some b → lk h hp = some ob → (hv h).ownBlock ≠ some b
  inj : ∀ i i' b, E i = some b → E i' = some b → i = i'

theorem Pend.keep {its : List It} {als : List Nat} {E : Nat → Option Nat} {hv hv' : Nat → Value} {hp hp' : HP} {listed : Array Bool} {a : Act} {w w' : World} (h : Pend T C its als E hv hp listed a w) (hAl : AlOk T its als) (hap : dstsApart (its.map (·.o)) = true) {j : Nat} {it : It} (hj : its[j]? = some it) (hna : j ∉ als) {v : Value}
    (h1 : w.heap.size ≤ w'.heap.size) (h2 : ∀ k, k < w.heap.size → (∀ h ob, lk h hp = some ob → (hv h).ownBlock ≠ some k) → w'.heap[k]? = w.heap[k]?) (h3 : ∀ h ob b, lk h hp' = some ob → (hv' h).ownBlock = some b → w.heap.size ≤ b ∨ ∃ h' ob', lk h' hp = some ob' ∧ (hv h').ownBlock = some b) :
    Pend T C its als E hv' hp' (listed.setIfInBounds j true) (a.put it.o.dst v) w' := by
  have hset : ∀ i, i ∈ als → (listed.setIfInBounds j true).getD i true = listed.getD i true := fun i hi => listed_set (fun e => hna (e ▸ hi))
  have hblk : ∀ i b, E i = some b → b < w.heap.size := fun i b hE => by
    obtain ⟨it', t, ty, ti, g1, g2, g3, _, _, _, _, g4, _⟩ := hAl i (h.only i b hE).1
    exact (h.blk i b it' t ty ti hE g1 g2 g3 g4).1
  refine ⟨fun i hi hl => h.all i hi (by rw [← hset i hi]; exact hl), fun i b hE => ?_, fun i b it' t ty ti hE g1 g2 g3 g4 => ?_, fun i b k ob hE hl hb => ?_, h.inj⟩
  · obtain ⟨ha, hl⟩ := h.only i b hE
    exact ⟨ha, by rw [hset i ha]; exact hl⟩
  · obtain ⟨k1, k2, k3, k4⟩ := h.blk i b it' t ty ti hE g1 g2 g3 g4
    have hne : it.o.dst ≠ some t := fun e => by
      have : j = i := dstsApart_ne _ hap j i it.o it'.o t (by simp [hj]) (by simp [g1]) e g2
      exact hna (this ▸ (h.only i b hE).1)
    refine ⟨by omega, k2, by rw [put_other hne]; exact k3, ?_⟩
    rw [h2 b k1 (fun k ob hl => h.out i b k ob hE hl)]
    exact k4
  · rcases h3 k ob b hl hb with h4 | ⟨h', ob', h4, h5⟩
    · have := hblk i b hE; omega
    · exact h.out i b h' ob' hE h4 h5

theorem alloc_run (hT : TOk P T) {o : Oper} {ty : TypeId} {ti : TI} (ho : o.op = .alloc ty) (hl : lk ty T = some ti) (a : Act) (w : World) : (execOp a.eval o).run P w = .ok (.value (.pointer (some ⟨w.heap.size, 0, none⟩))) (w.alloc (.cells ti.zero.cells ty)) := by
  have hz := TI.run_zero (hT _ _ hl) w
  obtain ⟨dst, op, type, pos, after, guard⟩ := o
  simp only at ho
  subst ho
  simp [execOp, Instr.alloc, hz, newVar, newRow, newObj]
  rfl

theorem freeOk_alloc (hT : TOk P T) {o : Oper} {ty : TypeId} {ti : TI} (ho : o.op = .alloc ty) (hl : lk ty T = some ti) {ev : Operand → D} {rd : HP} : FreeOk P o ev rd .any := fun hp nx hm => by
  refine ⟨⟨fun p hp => by simp at hp, rfl⟩, fun w0 S G hv a w hI hk hev K Q hK => ?_⟩
  unfold Oper.wp
  rw [alloc_run hT ho hl a w]
  obtain ⟨hI', hF⟩ := hI.below (below_refl_alloc w (.cells ti.zero.cells ty))
  exact hK _ hv _ ⟨hI', (RepP.any _ : RepP _ _ .any _), fun d u hr => hr.mono (fun _ _ h => h) hF, fun _ _ _ _ => rfl⟩

theorem HInv.belowG {w0 : World} {S : List Nat} {G G' : Nat → Prop} {hv : Nat → Value} {hp : HP} {w : World} (hI : HInv w0 S G hv hp w) {w' : World} (hb : Below w.heap.size w w') (hG : ∀ b, b < w.heap.size → G b → G' b) (hG2 : ∀ b, w'.heap.size ≤ b → G' b) :
    HInv w0 S G' hv hp w' ∧ (∀ b, FOf G hv hp w b → FOf G' hv hp w' b ∧ w'.heap[b]? = w.heap[b]?) := by
  have hF : ∀ b, FOf G hv hp w b → FOf G' hv hp w' b ∧ w'.heap[b]? = w.heap[b]? := fun b hb' => ⟨⟨⟨Nat.lt_of_lt_of_le hb'.1.1 hb.size, hG b hb'.1.1 hb'.1.2⟩, hb'.2⟩, hb.block b hb'.1.1⟩
  refine ⟨⟨fun h ob hl => ?_, hI.inj, hI.base, ⟨hb.os.trans hI.keeps.os, hb.tape.trans hI.keeps.tape, hb.output.trans hI.keeps.output, Nat.le_trans hI.keeps.size hb.size, fun k hk hS => (hb.block k (Nat.lt_of_lt_of_le hk hI.keeps.size)).trans (hI.keeps.block k hk hS), hI.keeps.tab⟩, hG2⟩, hF⟩
  obtain ⟨vs, ho, hg, hc⟩ := hI.obs h ob hl
  refine ⟨vs, ho.kept (⟨hb.os, hb.tape, hb.output, hb.size, fun i hi _ => hb.block i hi⟩ : w.grownBy w' none) (by cases (hv h).ownBlock <;> simp), hg, fun i j x d hi hj => ?_⟩
  obtain ⟨u, hu, ho1, hr⟩ := hc i j x d hi hj
  exact ⟨u, hu, ho1, RepO.obMono hr (fun _ _ h => h) hF⟩

/-- A box is laid. -/
theorem J.lay {its : List It} {als : List Nat} {base : List (Nat × D)} {hp0 : HP} {nx0 n : Nat} {hv : Nat → Value} {E : Nat → Option Nat} {listed : Array Bool} {a : Act} {w : World} (hJ : J (CE C E) its base hp0 nx0 n hv listed a w) (hPd : Pend T C its als E hv (stAt its n hp0 nx0).1 listed a w) (hAl : AlOk T its als) {j : Nat} {it : It} (hj : its[j]? = some it) (hun : listed.getD j true = false)
    (hap : dstsApart (its.map (·.o)) = true) (hdN : ∀ t, it.o.dst = some t → t < C.N) (hpin : it.pin = false) (hr : it.r = { d := .any }) {t : Tmp} {ty : TypeId} {ti : TI} (hdt : it.o.dst = some t) (hop : it.o.op = .alloc ty) (hl : lk ty T = some ti) (hdl : ∀ k, depOn it.o k = true → listed.getD k true = true) (hja : j ∈ als) :
    J (CE C (fun i => if i = j then some w.heap.size else E i)) its base hp0 nx0 n hv (listed.setIfInBounds j true) (a.put it.o.dst (.pointer (some ⟨w.heap.size, 0, none⟩))) (w.alloc (.cells ti.zero.cells ty)) ∧
      Pend T C its als (fun i => if i = j then some w.heap.size else E i) hv (stAt its n hp0 nx0).1 (listed.setIfInBounds j true) (a.put it.o.dst (.pointer (some ⟨w.heap.size, 0, none⟩))) (w.alloc (.cells ti.zero.cells ty)) := by
  have hb := below_refl_alloc w (.cells ti.zero.cells ty)
  have hnE : E j = none := by
    cases h : E j with
    | none => rfl
    | some b => have := (hPd.only j b h).2; rw [hun] at this; cases this
  have hblk : ∀ i b, E i = some b → b < w.heap.size := fun i b hE => by
    obtain ⟨it', t, ty, ti, g1, g2, g3, _, _, _, _, g4, _⟩ := hAl i (hPd.only i b hE).1
    exact (hPd.blk i b it' t ty ti hE g1 g2 g3 g4).1
  have hmono : ∀ k, listed.getD k true = true → (listed.setIfInBounds j true).getD k true = true := fun k hk => by
    by_cases e : k = j
    · subst e; exact listed_set_same
    · rw [listed_set e]; exact hk
  have hI := hJ.inv
  obtain ⟨hI', hF⟩ := HInv.belowG (G' := (CE C (fun i => if i = j then some w.heap.size else E i)).G) hI hb (fun b hlt hg => ⟨hg.1, fun i => by
    show (if i = j then some w.heap.size else E i) ≠ some b
    split
    · intro e; have := Option.some.inj e; omega
    · exact hg.2 i⟩) (fun b hbb => by
    have hsz : w.heap.size < (w.alloc (.cells ti.zero.cells ty)).heap.size := by show w.heap.size < (w.heap.push _).size; simp
    have hg := hI.gnew b (by omega)
    refine ⟨hg.1, fun i => ?_⟩
    show (if i = j then some w.heap.size else E i) ≠ some b
    split
    · intro e; have := Option.some.inj e; omega
    · exact hg.2 i)
  have hsize : w.heap.size < (w.alloc (.cells ti.zero.cells ty)).heap.size := by show w.heap.size < (w.heap.push _).size; simp
  refine ⟨⟨fun i it' hi hp => ?_, fun i it' hi hls k hk => ?_, hI', hJ.keys, hJ.cm, hJ.pinned, by rw [put_defers]; exact hJ.defers, by rw [put_size]; exact hJ.size, fun t' d hl' hne => ?_, fun i it' t' hi hd hls => ?_⟩, ⟨fun i hi hls => ?_, fun i b hE => ?_, fun i b it' t' ty' ti' hE g1 g2 g3 g4 => ?_, fun i b k ob hE hl' hb' => ?_, fun i i' b hE hE' => ?_⟩⟩
  · have hne : i ≠ j := fun e => by subst e; rw [hj] at hi; cases hi; rw [hpin] at hp; cases hp
    rw [listed_set hne]
    exact hJ.pins i it' hi hp
  · by_cases e : i = j
    · subst e; rw [hj] at hi; cases hi; exact hmono k (hdl k hk)
    · rw [listed_set e] at hls; exact hmono k (hJ.closed i it' hi hls k hk)
  · have hnj : it.o.dst ≠ some t' := fun e => by
      have := hne j it hj e
      rw [listed_set_same] at this; cases this
    rw [put_other hnj]
    exact (hJ.bas t' d hl' (fun i it' hi hd => by
      have := hne i it' hi hd
      have hij : i ≠ j := fun e => by subst e; rw [listed_set_same] at this; cases this
      rwa [listed_set hij] at this)).mono (fun _ _ h => h) hF
  · by_cases hij : i = j
    · subst hij
      rw [hj] at hi; cases hi
      rw [hr]
      exact (RepP.any _ : RepP _ _ .any _)
    · have hnd : it.o.dst ≠ some t' := fun e => hij (dstsApart_ne _ hap i j it'.o it.o t' (by simp [hi]) (by simp [hj]) hd e)
      rw [put_other hnd]
      rw [listed_set hij] at hls
      exact (hJ.got i it' t' hi hd hls).mono (fun _ _ h => h) hF
  · by_cases e : i = j
    · exact ⟨_, if_pos e⟩
    · rw [listed_set e] at hls
      obtain ⟨b, hb⟩ := hPd.all i hi hls
      exact ⟨b, by rw [if_neg e]; exact hb⟩
  · by_cases e : i = j
    · subst e; exact ⟨hja, listed_set_same⟩
    · simp only [if_neg e] at hE
      obtain ⟨h1, h2⟩ := hPd.only i b hE
      exact ⟨h1, hmono i h2⟩
  · by_cases e : i = j
    · subst e
      rw [hj] at g1; cases g1
      rw [hdt] at g2; cases g2
      rw [hop] at g3; cases g3
      rw [hl] at g4; cases g4
      simp only [if_true, Option.some.injEq] at hE
      subst hE
      refine ⟨hsize, hI.keeps.size, ?_, by show (w.heap.push _)[w.heap.size]? = _; simp⟩
      rw [hdt, put_same (by rw [hJ.size]; exact hdN _ hdt)]
    · simp only [if_neg e] at hE
      obtain ⟨k1, k2, k3, k4⟩ := hPd.blk i b it' t' ty' ti' hE g1 g2 g3 g4
      have hne : it.o.dst ≠ some t' := fun e2 => e (dstsApart_ne _ hap i j it'.o it.o t' (by simp [g1]) (by simp [hj]) g2 e2)
      exact ⟨by omega, k2, by rw [put_other hne]; exact k3, by rw [hb.block b k1]; exact k4⟩
  · by_cases e : i = j
    · subst e
      simp only [if_true, Option.some.injEq] at hE
      subst hE
      obtain ⟨vs, ho, _⟩ := hI.obs k ob hl'
      have := (ho.lt _ hb').2
      omega
    · simp only [if_neg e] at hE
      exact hPd.out i b k ob hE hl' hb'
  · by_cases e : i = j
    · by_cases e' : i' = j
      · rw [e, e']
      · simp only [if_pos e, if_neg e', Option.some.injEq] at hE hE'
        have := hblk i' b hE'
        omega
    · by_cases e' : i' = j
      · simp only [if_neg e, if_pos e', Option.some.injEq] at hE hE'
        have := hblk i b hE
        omega
      · simp only [if_neg e, if_neg e'] at hE hE'
        exact hPd.inj i i' b hE hE'

theorem any_of_JE {P : Program} (hTT : TOk P T) (hP : C.P = P) {als : List Nat} {its : List It} {B : List Oper} {base : List (Nat × D)} {rd eh hp0 : HP} {nx0 : Nat} (hD : DrawOk C.N its) (hAl : AlOk T its als) (hT : Tr P (its.map (·.o)) base rd eh its [] hp0 nx0) (hrd : ∀ h ob, lk h rd = some ob → lk h hp0 = some ob ∧ h < nx0) (heh : ∀ h ob, lk h eh = some ob → lk h hp0 = some ob) {Q : Exit → Act → World → Prop}
    (hcov : ∀ listed : Array Bool, (∀ (i : Nat) (it : It), its[i]? = some it → listed.getD i true = true → ∀ k, depOn it.o k = true → listed.getD k true = true) → (∀ k, its.length ≤ k → k < its.length + B.length → listed.getD k true = false) → listed.size = its.length + B.length → ∀ j, j ∈ Region.ready .any (its.map (·.o) ++ B).toArray listed → its.length ≤ j → ∀ i, i < its.length → listed.getD i true = true)
    (hQ : ∀ (fuel : Nat) (listed : Array Bool) a w (E : Nat → Option Nat) (hv : Nat → Value), listed.size = its.length + B.length → (∀ i, i < its.length → listed.getD i true = true) → (∀ k, its.length ≤ k → k < its.length + B.length → listed.getD k true = false) → B.length ≤ fuel → InvH (CE C E) hv ⟨finSl its base, (stAt its its.length hp0 nx0).1, (stAt its its.length hp0 nx0).2⟩ a w → Pend T C its als E hv (stAt its its.length hp0 nx0).1 listed a w → wpAny P .any (its.map (·.o) ++ B).toArray Q fuel listed a w) : ∀ (fuel : Nat) (listed : Array Bool) (a : Act) (w : World) (n : Nat) (hv : Nat → Value) (E : Nat → Option Nat), listed.size = its.length + B.length → (∀ k, its.length ≤ k → k < its.length + B.length → listed.getD k true = false) → (listed.toList.take its.length).count false + B.length ≤ fuel →
    J (CE C E) its base hp0 nx0 n hv listed a w → Pend T C its als E hv (stAt its n hp0 nx0).1 listed a w → wpAny P .any (its.map (·.o) ++ B).toArray Q fuel listed a w := by
  have hops : ∀ j : Nat, j < its.length → (its.map (fun i : It => i.o) ++ B).toArray[j]? = (its[j]?).map (fun i : It => i.o) := fun j hj => by
    simp [List.getElem?_append_left, hj]
  have hquiet : ∀ (i : Nat) (it : It), its[i]? = some it → it.pin = false → it.r = { d := it.r.d } := fun i it hi hp => by
    obtain ⟨_, _, h3, h4⟩ := tr_get its _ _ _ hT i it hi
    cases hon : it.on with
    | true => exact (h3 hon hp).1
    | false => rw [h4 hon]
  -- all is listed: the end
  have fin : ∀ (listed : Array Bool) (a : Act) (w : World) (n : Nat) (hv : Nat → Value) (E : Nat → Option Nat), J (CE C E) its base hp0 nx0 n hv listed a w → (∀ i, i < its.length → listed.getD i true = true) → stAt its its.length hp0 nx0 = stAt its n hp0 nx0 ∧ InvH (CE C E) hv ⟨finSl its base, (stAt its its.length hp0 nx0).1, (stAt its its.length hp0 nx0).2⟩ a w := fun listed a w n hv E hJ hall => by
    have e : stAt its its.length hp0 nx0 = stAt its n hp0 nx0 := by
      by_cases hn : n ≤ its.length
      · have := stAt_le its hp0 nx0 n (its.length - n) (fun i it hi h1 h2 => by
          refine hquiet i it hi ?_
          cases h : it.pin with
          | false => rfl
          | true => have := (hJ.pins i it hi h).1 (hall i (List.getElem?_eq_some_iff.1 hi).1); omega)
        rwa [show n + (its.length - n) = its.length by omega] at this
      · have := stAt_le its hp0 nx0 its.length (n - its.length) (fun i it hi h1 h2 => by have := (List.getElem?_eq_some_iff.1 hi).1; omega)
        rw [show its.length + (n - its.length) = n by omega] at this
        exact this.symm
    refine ⟨e, by rw [e]; exact hJ.inv, by rw [e]; exact hJ.keys, by rw [e]; exact hJ.cm, by rw [e]; exact hJ.pinned, hJ.defers, hJ.size, fun t d hl => ?_⟩
    rw [e]
    rcases lk_finSl its base t d hl with ⟨i, it, h1, h2, h3⟩ | ⟨h1, h2⟩
    · rw [h3]; exact hJ.got i it t h1 h2 (hall i (List.getElem?_eq_some_iff.1 h1).1)
    · exact hJ.bas t d h1 (fun i it hi hd => absurd hd (h2 it (List.mem_of_getElem? hi)))
  -- nothing is ready: all is listed
  have done : ∀ (listed : Array Bool), Region.ready .any (its.map (·.o) ++ B).toArray listed = [] → listed.size = its.length + B.length → ∀ i, i < its.length → listed.getD i true = true := fun listed hr hsz i => by
    induction i using Nat.strongRecOn with
    | _ i ih =>
      intro hi
      cases hl : listed.getD i true with
      | true => rfl
      | false =>
        exfalso
        have hit : ∃ it, its[i]? = some it := ⟨_, List.getElem?_eq_getElem hi⟩
        obtain ⟨it, hit⟩ := hit
        have : i ∈ Region.ready .any (its.map (·.o) ++ B).toArray listed := mem_ready.2 ⟨hl, it.o, by rw [hops i hi, hit]; rfl, fun e he hb => by
          have hb1 := List.all_eq_true.1 hD.back i (by simpa using hi)
          simp only [List.getElem?_map, hit, Option.map_some] at hb1
          have := List.all_eq_true.1 hb1 e (by simpa using he)
          simp only [hb, Bool.not_true, Bool.false_or, decide_eq_true_eq] at this
          have h2 := ih e.on this (by omega)
          rw [Array.getD_eq_getD_getElem?, Array.getElem?_eq_getElem (by omega)] at h2 ⊢
          simpa using h2⟩
        rw [hr] at this
        cases this
  intro fuel
  induction fuel with
  | zero =>
    intro listed a w n hv E hsz hBu hc hJ hPd
    have hall : ∀ i, i < its.length → listed.getD i true = true := fun i hi => by
      have h0 : (listed.toList.take its.length).count false = 0 := by omega
      have hi' : i < listed.size := by omega
      rw [Array.getD_eq_getD_getElem?, Array.getElem?_eq_getElem hi']
      have : listed[i] ∈ listed.toList.take its.length := List.mem_take_iff_getElem.2 ⟨i, by simp; omega, by simp⟩
      cases hb : listed[i] with
      | true => rfl
      | false => rw [hb] at this; exact absurd this (List.count_eq_zero.1 h0)
    obtain ⟨e, hIv⟩ := fin listed a w n hv E hJ hall
    exact hQ 0 listed a w E hv hsz hall hBu (by omega) hIv (by rw [e]; exact hPd)
  | succ fuel ih =>
    intro listed a w n hv E hsz hBu hc hJ hPd
    by_cases hall : ∀ i, i < its.length → listed.getD i true = true
    · obtain ⟨e, hIv⟩ := fin listed a w n hv E hJ hall
      exact hQ _ listed a w E hv hsz hall hBu (by omega) hIv (by rw [e]; exact hPd)
    refine ⟨fun hr => absurd (done listed hr hsz) hall, fun j hj => ?_⟩
    have hjlt : j < its.length := by
      rcases Nat.lt_or_ge j its.length with h | h
      · exact h
      · exact absurd (hcov listed hJ.closed hBu hsz j hj h) hall
    obtain ⟨hun, o, ho, hdeps⟩ := mem_ready.1 hj
    rw [hops j hjlt] at ho
    obtain ⟨it, hit, rfl⟩ := Option.map_eq_some_iff.1 ho
    have hjl := (List.getElem?_eq_some_iff.1 hit).1
    obtain ⟨hguard, hpin, hfree, hoff⟩ := tr_get its _ _ _ hT j it hit
    simp only [List.nil_append] at hguard hpin hfree
    have hdep : ∀ i, depOn it.o i = true → listed.getD i true = true ∧ i < j := fun i hi => by
      obtain ⟨e, he, hb⟩ := List.any_eq_true.1 hi
      have he : e ∈ it.o.after := by simpa using he
      simp only [Bool.and_eq_true, beq_iff_eq] at hb
      have h1 := hdeps e he hb.2
      rw [hb.1] at h1
      have hb1 := List.all_eq_true.1 hD.back j (by simpa using hjl)
      simp only [List.getElem?_map, hit, Option.map_some] at hb1
      have := List.all_eq_true.1 hb1 e (by simpa using he)
      simp only [hb.2, Bool.not_true, Bool.false_or, decide_eq_true_eq, hb.1] at this
      refine ⟨?_, this⟩
      rw [Array.getD_eq_getD_getElem?, Array.getElem?_eq_getElem (by omega)] at h1 ⊢
      simpa using h1
    have hstar : ∀ (m : Nat) (o : Oper) (k : Nat), (∀ k, depOn o k = true → listed.getD k true = true) → depStar (its.map (·.o)) m o k = true → listed.getD k true = true := by
      intro m
      induction m with
      | zero => intro o k ho hk; exact ho k hk
      | succ m ihm =>
        intro o k ho hk
        simp only [depStar, Bool.or_eq_true] at hk
        rcases hk with hk | hk
        · exact ho k hk
        · obtain ⟨e, he, hk⟩ := List.any_eq_true.1 hk
          simp only [Bool.and_eq_true] at hk
          obtain ⟨hb, hk⟩ := hk
          have hl := ho e.on (List.any_eq_true.2 ⟨e, he, by simp [hb]⟩)
          rw [List.getElem?_map] at hk
          cases hi : its[e.on]? with
          | none => simp [hi] at hk
          | some it' =>
            simp only [hi, Option.map_some] at hk
            exact ihm it'.o k (hJ.closed e.on it' hi hl) hk
    have hdN : ∀ t, it.o.dst = some t → t < C.N := fun t ht => by
      have := List.all_eq_true.1 hD.dsts it.o (List.mem_map.2 ⟨it, List.mem_of_getElem? hit, rfl⟩)
      simpa [ht] using this
    have hlow : it.pin = true → n ≤ j ∧ ∀ i it', its[i]? = some it' → it'.pin = true → i < j → i < n := fun hp => by
      refine ⟨?_, fun i it' hi hp' hlt => ?_⟩
      · rcases Nat.lt_or_ge j n with h | h
        · have := (hJ.pins j it hit hp).2 h
          rw [hun] at this; cases this
        · exact h
      · obtain ⟨k, ik, hk, hkp, h1, h2, h3⟩ := hD.chain i j it' it hi hit hp' hp hlt
        have := (hJ.pins k ik hk hkp).1 (hstar 2 it.o k (fun k hk => (hdep k hk).1) h3)
        omega
    have hcount : ((listed.setIfInBounds j true).toList.take its.length).count false + B.length ≤ fuel := by
      have h1 : (listed.toList.take its.length)[j]? = some false := by
        rw [Array.getD_eq_getD_getElem?, Array.getElem?_eq_getElem (by omega)] at hun
        simp at hun
        rw [List.getElem?_take, if_pos hjl]
        simp [hun, show j < listed.size by omega]
      have := count_set h1
      rw [Array.toList_setIfInBounds, List.take_set]
      omega
    have hsz' : (listed.setIfInBounds j true).size = its.length + B.length := by simpa using hsz
    have hBu' : ∀ k, its.length ≤ k → k < its.length + B.length → (listed.setIfInBounds j true).getD k true = false := fun k h1 h2 => by
      rw [listed_set (show k ≠ j by omega)]; exact hBu k h1 h2
    -- what it may look at
    have hS : SInv C.N (LOf hv (stAt its n hp0 nx0).1) w (FOf (CE C E).G hv (stAt its n hp0 nx0).1 w) (maskSl it.o (its.map (·.o)) ((its.take j).map (·.r.d)) 0 base) a := by
      refine ⟨hJ.defers, hJ.size, fun t d hl => ?_⟩
      rcases lk_mask _ _ _ _ _ hl with ⟨i, oi, h1, h2, h3⟩ | ⟨h1, h2⟩
      · rcases h3 with ⟨h3, h4⟩ | h3
        · rw [Nat.zero_add] at h3
          obtain ⟨hls, hlt⟩ := hdep i h3
          rw [List.getElem?_map] at h1
          obtain ⟨ii, hii, rfl⟩ := Option.map_eq_some_iff.1 h1
          have : d = ii.r.d := by
            rw [h4]
            simp [List.getD, List.getElem?_map, List.getElem?_take, hlt, hii]
          rw [this]
          exact hJ.got i ii t hii h2 hls
        · rw [h3]; exact (RepP.any _ : RepP w _ .any _)
      · refine hJ.bas t d h1 (fun i it' hi' hd' => ?_)
        have hdep' := h2 it'.o (List.mem_map.2 ⟨it', List.mem_of_getElem? hi', rfl⟩) hd'
        have hlen : ((its.take j).map (·.r.d)).length = j := by simp; omega
        rw [hlen] at hdep'
        cases hb : listed.getD i true with
        | false => rfl
        | true => have := hJ.closed i it' hi' hb j hdep'; rw [hun] at this; cases this
    have hev := evD_ok hS
    -- it is carried out: its state
    have next : j ∉ als → ∀ v hv' w', (NewKeys (stAt its n hp0 nx0).2 it.r.new) → it.r.dead = none → Post C.w0 C.S (CE C E).G hv (stAt its n hp0 nx0).1 w it.r v hv' w' → w.heap.size ≤ w'.heap.size → (∀ k, k < w.heap.size → (∀ h ob, lk h (stAt its n hp0 nx0).1 = some ob → (hv h).ownBlock ≠ some k) → w'.heap[k]? = w.heap[k]?) → (∀ h ob b, lk h (it.r.hpOf (stAt its n hp0 nx0).1) = some ob → (hv' h).ownBlock = some b → w.heap.size ≤ b ∨ ∃ h' ob', lk h' (stAt its n hp0 nx0).1 = some ob' ∧ (hv h').ownBlock = some b) → wpAny P .any (its.map (·.o) ++ B).toArray Q fuel (listed.setIfInBounds j true) (a.put it.o.dst v) w' := fun hna v hv' w' hnk hdead hP h1 h2 h3 => by
      obtain ⟨n', hn', hJ'⟩ := J.step (C := CE C E) hJ hit hun hD.apart hdN hlow hquiet hnk hdead (fun k hk => (hdep k hk).1) hP
      refine ih _ _ _ n' hv' E hsz' hBu' hcount hJ' ?_
      rw [hn']
      exact hPd.keep hAl hD.apart hit hna h1 h2 h3
    unfold wpOp
    rw [hops j hjlt, hit]
    simp only [Option.map_some]
    have hyl : ∀ g, depOn it.o g = true → yielded (its.map (·.o) ++ B).toArray a.tmps g = yielded (its.map (·.o)).toArray a.tmps g := fun g hg => by
      have hlt := (hdep g hg).2
      unfold yielded
      rw [show (its.map (·.o) ++ B).toArray[g]? = (its.map (·.o)).toArray[g]? by simp [List.getElem?_append_left, show g < its.length by omega]]
    have hwant : Region.wanted it.o (yielded (its.map (·.o) ++ B).toArray a.tmps) = it.on := by
      unfold Region.wanted
      split at hguard
      · rename_i hg; rw [hg]; simp [hguard]
      · rename_i g want hg
        rw [hg]
        simp only
        have hN : ∀ t, ((its.map (fun i : It => i.o))[g]?).bind (·.dst) = some t → t < C.N := fun t ht => by
          rw [List.getElem?_map] at ht
          cases hgi : its[g]? with
          | none => simp [hgi] at ht
          | some ig =>
            have := List.all_eq_true.1 hD.dsts ig.o (List.mem_map.2 ⟨ig, List.mem_of_getElem? hgi, rfl⟩)
            simp [hgi] at ht
            simpa [ht] using this
        rcases hguard.2 with ⟨b, hb2, hb3⟩ | ⟨hb2, hb3⟩
        · have hy := guardD_ok hb2 hS hN
          rw [hyl g hguard.1, hy, hb3]
          cases b <;> cases want <;> rfl
        · have hy := guardU_ok hb2 hS hN
          rw [hyl g hguard.1, hy, hb3]
          rfl
    rw [hwant]
    cases hon : it.on with
    | false =>
      simp only [Bool.false_eq_true, if_false]
      have hr := hoff hon
      have hna : j ∉ als := fun h => by
        obtain ⟨it', t, ty, ti, h1, _, _, _, _, h2, _⟩ := hAl j h
        rw [hit] at h1; cases h1
        rw [hon] at h2; cases h2
      refine next hna undef hv w ?_ (by rw [hr]) ?_ (Nat.le_refl _) (fun _ _ _ => rfl) (fun h ob b hl hb => ?_)
      · rw [hr]; intro p hp; simp at hp
      · rw [hr]; exact post_same hJ.inv (RepP.val _ : RepP w _ (.val undef) _)
      · rw [hr] at hl; exact .inr ⟨h, ob, hl, hb⟩
    | true =>
      simp only [if_true]
      refine .inl ?_
      cases hp : it.pin with
      | true =>
        obtain ⟨hrel, _⟩ := hpin hon hp
        have e1 : stAt its j hp0 nx0 = stAt its n hp0 nx0 := by
          obtain ⟨hnj, hall⟩ := hlow hp
          have := stAt_le its hp0 nx0 n (j - n) (fun i it' hi h1 h2 => by
            refine hquiet i it' hi ?_
            cases h : it'.pin with
            | false => rfl
            | true => have := hall i it' hi h (by omega); omega)
          rwa [show n + (j - n) = j by omega] at this
        rw [e1] at hrel
        have hna : j ∉ als := fun h => by
          obtain ⟨it', t, ty, ti, h1, _, _, _, h2, _⟩ := hAl j h
          rw [hit] at h1; cases h1
          rw [hp] at h2; cases h2
        exact oprel_keep hrel hJ.inv hJ.keys hev _ _ (fun v hv' w' hP' => next hna v hv' w' hrel.1.1 hrel.1.2 hP')
      | false =>
        by_cases hna : j ∈ als
        · obtain ⟨it', t, ty, ti, h1, hdt, hop, hgd, _, _, hr, hl, hone⟩ := hAl j hna
          rw [hit] at h1; cases h1
          subst hP
          have hrun := alloc_run (P := C.P) hTT hop hl a w
          unfold Oper.wp
          rw [hrun]
          have hlowA : it.pin = true → False := fun h => by rw [hp] at h; cases h
          obtain ⟨hJ', hPd'⟩ := hJ.lay hPd hAl hit hun hD.apart hdN hp hr hdt hop hl (fun k hk => (hdep k hk).1) hna
          exact ih _ _ _ n hv _ hsz' hBu' hcount hJ' hPd'
        obtain ⟨hq, hfr⟩ := hfree hon hp
        have hrel := hfr (stAt its n hp0 nx0).1 (stAt its n hp0 nx0).2 (fun h ob hl => by
          cases he : it.early with
          | false =>
            simp only [he, Bool.false_eq_true, if_false] at hl
            exact (stAt_rd its [] hp0 nx0 n hT hrd h ob hl).1
          | true =>
            simp only [he, if_true] at hl
            have e0 : stAt its n hp0 nx0 = (hp0, nx0) := by
              have := stAt_le its hp0 nx0 0 n (fun i it' hi _ hlt => hquiet i it' hi (by
                cases h : it'.pin with
                | false => rfl
                | true =>
                  exfalso
                  have hl1 := (hJ.pins i it' hi h).2 (by omega)
                  have := hstar 2 it'.o j (hJ.closed i it' hi hl1) (hD.early j it hit he i it' hi h)
                  rw [hun] at this; cases this))
              rw [Nat.zero_add] at this
              rw [this]; cases its <;> rfl
            rw [e0]; exact heh h ob hl)
        rw [← hq] at hrel
        exact oprel_keep hrel hJ.inv hJ.keys hev _ _ (fun v hv' w' hP' => next hna v hv' w' hrel.1.1 hrel.1.2 hP')



def obOf (T : TT) (ty : TypeId) : Ob := match lk ty T with | some ti => ⟨ty, ti.size, true, [zeroD ti]⟩ | none => ⟨ty, 0, true, []⟩
/-- The state behind the boxes. -/
def alSt (T : TT) : List (Nat × Tmp × TypeId) → St → St
  | [], st => st
  | e :: l, st => alSt T l ⟨(e.2.1, .ptr st.nx 0 0) :: st.sl, (st.nx, obOf T e.2.2) :: st.hp, st.nx + 1⟩
def isLay (ty : TypeId) : Op → Bool
  | .alloc t => t == ty
  | _ => false
def layB (T : TT) (pins : List Nat) (lA : List Oper) (L : List (Nat × Tmp × TypeId)) : Bool :=
  L.all (fun e => (match lA[e.1]? with | some o => o.dst == some e.2.1 && isLay e.2.2 o.op && o.guard.isNone | none => false) && !pins.contains e.1 && (match lk e.2.2 T with | some ti => ti.zero.cells.toList.all (fun c => c.oneCell') | none => false)) && decide (L.map (·.1)).Nodup
theorem layB_nodup {pins : List Nat} {lA : List Oper} {L : List (Nat × Tmp × TypeId)} (h : layB T pins lA L = true) : (L.map (·.1)).Nodup := by
  simp only [layB, Bool.and_eq_true, decide_eq_true_eq] at h
  exact h.2
theorem layB_ok {pins : List Nat} {lA : List Oper} {L : List (Nat × Tmp × TypeId)} (h : layB T pins lA L = true) : ∀ e ∈ L, ∃ o ti, lA[e.1]? = some o ∧ o.dst = some e.2.1 ∧ o.op = .alloc e.2.2 ∧ o.guard = none ∧ pins.contains e.1 = false ∧ lk e.2.2 T = some ti ∧ ti.zero.cells.toList.all (fun c => c.oneCell') = true := fun e he => by
  simp only [layB, Bool.and_eq_true, decide_eq_true_eq] at h
  have := List.all_eq_true.1 h.1 e he
  simp only [Bool.and_eq_true, Bool.not_eq_true'] at this
  obtain ⟨⟨h1, h2⟩, h3⟩ := this
  cases ho : lA[e.1]? with
  | none => rw [ho] at h1; cases h1
  | some o =>
    cases ht : lk e.2.2 T with
    | none => rw [ht] at h3; cases h3
    | some ti =>
      rw [ho] at h1
      rw [ht] at h3
      simp only [Bool.and_eq_true, beq_iff_eq, Option.isNone_iff_eq_none] at h1
      refine ⟨o, ti, rfl, h1.1.1, ?_, h1.2, h2, rfl, h3⟩
      have h4 := h1.1.2
      unfold isLay at h4
      split at h4
      · rename_i t hop
        rw [hop, eq_of_beq h4]
      · cases h4

theorem absorb {P : Program} (hTT : TOk P T) : ∀ (L : List (Nat × Tmp × TypeId)) (st : St) (E : Nat → Option Nat) (hv : Nat → Value) (a : Act) (w : World), InvH (CE C E) hv st a w → (∀ i b, E i = some b → ∃ e ∈ L, e.1 = i) → (∀ e ∈ L, ∃ b ti, E e.1 = some b ∧ lk e.2.2 T = some ti ∧ ti.zero.cells.toList.all (fun c => c.oneCell') = true ∧ b < w.heap.size ∧ C.w0.heap.size ≤ b ∧ a.tmps.getD e.2.1 undef = .pointer (some ⟨b, 0, none⟩) ∧ w.heap[b]? = some (.cells ti.zero.cells e.2.2 (0, 0))) → (L.map (·.1)).Nodup → (∀ i b h ob, E i = some b → lk h st.hp = some ob → (hv h).ownBlock ≠ some b) → (∀ i i' b, E i = some b → E i' = some b → i = i') → Inv C (alSt T L st) a w
  | [], st, E, hv, a, w, hI, hE, _, _, _, _ => by
    have : CE C E = C := by
      have hG : (fun b => C.G b ∧ ∀ i, E i ≠ some b) = C.G := by
        funext b
        refine propext ⟨fun h => h.1, fun h => ⟨h, fun i e => ?_⟩⟩
        obtain ⟨e, he, _⟩ := hE i b e
        simp at he
      unfold CE
      rw [hG]
    rw [this] at hI
    exact ⟨hv, hI⟩
  | (i0, t, ty) :: L, st, E, hv, a, w, hI, hE, hL, hnd, hout, hinj => by
    obtain ⟨b, ti, hEb, hl, hone, hbw, hb0, htm, hhp⟩ := hL (i0, t, ty) (by simp)
    simp only at hEb hl htm hhp
    obtain ⟨hH, hk, hm, hpn, hS⟩ := hI
    have hfresh : lk st.nx st.hp = none := by
      cases h : lk st.nx st.hp with
      | none => rfl
      | some ob => have := hk _ ob h; omega
    have hne : ∀ h ob, lk h st.hp = some ob → h ≠ st.nx := fun h ob hl' e => by rw [e, hfresh] at hl'; cases hl'
    have hob : obOf T ty = ⟨ty, ti.size, true, [zeroD ti]⟩ := by simp [obOf, hl]
    have hsz : ti.zero.cells.size = ti.size := (hTT _ _ hl).2.2
    have hLm : ∀ h x, LOf hv st.hp h = some x → LOf (fun h => if h = st.nx then Value.slice (some ⟨b, 0, none⟩) 1 1 else hv h) ((st.nx, obOf T ty) :: st.hp) h = some x := fun h x hx => by
      simp only [LOf, Option.map_eq_some_iff] at hx ⊢
      obtain ⟨ob', hl', rfl⟩ := hx
      have := hne h ob' hl'
      exact ⟨ob', by rw [lk_cons, if_neg this]; exact hl', by simp [this]⟩
    have hF : ∀ b', FOf (CE C E).G hv st.hp w b' → FOf (CE C (fun i => if i = i0 then none else E i)).G (fun h => if h = st.nx then Value.slice (some ⟨b, 0, none⟩) 1 1 else hv h) ((st.nx, obOf T ty) :: st.hp) w b' ∧ w.heap[b']? = w.heap[b']? := fun b' hb' => by
      refine ⟨⟨⟨hb'.1.1, hb'.1.2.1, fun i => ?_⟩, fun h ob hl' => ?_⟩, rfl⟩
      · show (if i = i0 then none else E i) ≠ some b'
        split
        · simp
        · exact hb'.1.2.2 i
      · by_cases e : h = st.nx
        · subst e
          simp only [if_true, Value.ownBlock]
          intro e2
          exact hb'.1.2.2 i0 (by rw [hEb]; exact e2)
        · rw [lk_cons, if_neg e] at hl'
          simp only [e, if_false]
          exact hb'.2 h ob hl'
    refine absorb hTT L ⟨(t, .ptr st.nx 0 0) :: st.sl, (st.nx, obOf T ty) :: st.hp, st.nx + 1⟩ (fun i => if i = i0 then none else E i) (fun h => if h = st.nx then .slice (some ⟨b, 0, none⟩) 1 1 else hv h) a w ⟨⟨fun h ob hl' => ?_, fun h h' ob ob' hl1 hl2 hhh => ?_, fun h ob b' hl' hb' => ?_, hH.keeps, fun c hc => ⟨(hH.gnew c hc).1, fun i => by
      show (if i = i0 then none else E i) ≠ some c
      split
      · intro e; cases e
      · exact (hH.gnew c hc).2 i⟩⟩, fun h ob hl' => ?_, Nat.le_succ_of_le hm, fun h ob hl' hlt => ?_, hS.defers, hS.size, fun t' d hd => ?_⟩ (fun i b' hE' => ?_) (fun e he => ?_) ?_ (fun i b' h ob hE' hl' => ?_) (fun i i' b' h1 h2 => ?_)
    · simp only at hl'
      rw [lk_cons] at hl'
      by_cases e : h = st.nx
      · subst e
        rw [if_pos rfl] at hl'
        cases hl'
        simp only [if_true]
        rw [hob]
        refine ⟨ti.zero.cells.toList, ⟨by simp [hsz], .inr ⟨b, 1, ti.zero.cells, by simp, Nat.zero_le _, ⟨_, _, hhp, .inl ⟨rfl, rfl⟩⟩, Nat.le_refl _, by simp [maxLen], by simp [hsz], by
          simp only [List.length_cons, List.length_nil, Nat.zero_add, Nat.one_mul]
          rw [← hsz]
          exact List.take_of_length_le (by simp)⟩⟩, fun x hx => ?_, fun i j x d hi hj => ?_⟩
        · simp at hx; subst hx
          simp [zeroD, hsz]
        · match i, hi with
          | 0, hi =>
            simp at hi; subst hi
            simp only [zeroD, List.getElem?_map, Option.map_eq_some_iff] at hj
            obtain ⟨u, hu, rfl⟩ := hj
            exact ⟨u, by simpa using hu, List.all_eq_true.1 hone u (List.mem_of_getElem? hu), by simpa [RepO] using (cst_rep u).toC⟩
          | i + 1, hi => simp at hi
      · rw [if_neg e] at hl'
        obtain ⟨vs, ho, hg, hc⟩ := hH.obs h ob hl'
        refine ⟨vs, by simp only [e, if_false]; exact ho, hg, fun i j x d hi hj => ?_⟩
        obtain ⟨u, hu, h1, hr⟩ := hc i j x d hi hj
        exact ⟨u, hu, h1, RepO.obMono hr hLm hF⟩
    · simp only at hl1 hl2
      rw [lk_cons] at hl1 hl2
      by_cases e : h = st.nx
      · by_cases e' : h' = st.nx
        · exact absurd (e.trans e'.symm) hhh
        · rw [if_neg e'] at hl2
          simp only [e, e', if_true, if_false]
          exact .inr (fun e2 => hout i0 b h' ob' hEb hl2 e2.symm)
      · rw [if_neg e] at hl1
        by_cases e' : h' = st.nx
        · simp only [e, e', if_true, if_false]
          exact .inr (fun e2 => hout i0 b h ob hEb hl1 e2)
        · rw [if_neg e'] at hl2
          simp only [e, e', if_false]
          exact hH.inj h h' ob ob' hl1 hl2 hhh
    · simp only at hl' hb'
      rw [lk_cons] at hl'
      by_cases e : h = st.nx
      · simp only [e, if_true, Value.ownBlock, Option.some.injEq] at hb'
        subst hb'
        exact .inl hb0
      · rw [if_neg e] at hl'
        simp only [e, if_false] at hb'
        exact hH.base h ob b' hl' hb'
    · simp only at hl' ⊢
      rw [lk_cons] at hl'
      by_cases e : h = st.nx
      · omega
      · rw [if_neg e] at hl'
        have := hk h ob hl'
        omega
    · simp only at hl'
      rw [lk_cons] at hl'
      have e : h ≠ st.nx := fun e => by
        have h1 : h < C.m := hlt
        have h2 : C.m ≤ st.nx := hm
        omega
      rw [if_neg e] at hl'
      simp only [e, if_false]
      exact hpn h ob hl' hlt
    · simp only at hd
      rw [lk_cons] at hd
      by_cases e : t' = t
      · subst e
        rw [if_pos rfl] at hd
        cases hd
        refine ⟨b, 1, 1, ti.size, ?_, by rw [htm]; simp⟩
        simp [LOf, lk_cons, hob]
      · rw [if_neg e] at hd
        exact (hS.at_ t' d hd).mono hLm hF
    · by_cases e : i = i0
      · rw [if_pos e] at hE'; cases hE'
      · rw [if_neg e] at hE'
        obtain ⟨x, hx, h2⟩ := hE i b' hE'
        rcases List.mem_cons.1 hx with rfl | hx
        · exact absurd h2.symm e
        · exact ⟨x, hx, h2⟩
    · obtain ⟨b', ti', h1, h2⟩ := hL e (by simp [he])
      have hne' : e.1 ≠ i0 := fun h => by
        simp only [List.map_cons, List.nodup_cons] at hnd
        exact hnd.1 (List.mem_map.2 ⟨e, he, h⟩)
      exact ⟨b', ti', by rw [if_neg hne']; exact h1, h2⟩
    · simp only [List.map_cons, List.nodup_cons] at hnd
      exact hnd.2
    · by_cases e : i = i0
      · rw [if_pos e] at hE'; cases hE'
      · rw [if_neg e] at hE'
        simp only at hl'
        rw [lk_cons] at hl'
        by_cases e2 : h = st.nx
        · simp only [e2, if_true, Value.ownBlock]
          intro e3
          cases e3
          exact e (hinj i i0 b hE' hEb)
        · rw [if_neg e2] at hl'
          simp only [e2, if_false]
          exact hout i b' h ob hE' hl'
    · by_cases e : i = i0
      · rw [if_pos e] at h1; cases h1
      · by_cases e' : i' = i0
        · rw [if_pos e'] at h2; cases h2
        · rw [if_neg e] at h1
          rw [if_neg e'] at h2
          exact hinj i i' b' h1 h2

/-- **A region that draws its order and lays boxes at any time of it**: L: number, slot and type of each; lB comes behind all of it, in the text's order. -/
theorem awp_drawE {m N : Nat} {id : Nat} {opsA : Array Oper} {st : St} {Q : Exit → St → Prop} (hT : TOk P T) (hP : C.P = P) (hCm : C.m = m) (hN : C.N = N) (hmix : P.follows .mixedOrders = true) (keys pins : List Nat) (L : List (Nat × Tmp × TypeId)) (n : Nat) (l : List Oper) {lA lB : List Oper} (he : opsA = l.toArray) (hlA : l.take n = lA) (hlB0 : l.drop n = lB)
    (hd : (dstsOk N l && backB l && backB (l.take n) && dstsApart (l.take n) && chainB (l.take n) pins && covB l n && seqB l n && decide (n ≤ l.length)) = true)
    (hLok : layB T pins lA L = true)
    (h : DReg P lA st.sl (rdOf keys st.hp) st.hp pins 0 lA [] st.hp st.nx st.sl (fun st' => (∀ e ∈ L, lk e.2.1 st'.sl = some .any) ∧ areg P T m l lB (alSt T L st') (Q .normal))) : awp C (.region id opsA true) Q st := fun a w hI => by
  subst he; subst hP; subst hlA; subst hlB0
  simp only [Bool.and_eq_true, decide_eq_true_eq] at hd
  obtain ⟨⟨⟨⟨⟨⟨⟨hd0, hbk⟩, hbA⟩, hap⟩, hch⟩, hcv⟩, hsq⟩, hnl⟩ := hd
  obtain ⟨its, h1, h2, h3, h4⟩ := h
  have hln : its.length = n := by have := congrArg List.length h1; simp at this; omega
  have hlB : (l.drop n).length = l.length - n := by simp
  have hsplit : its.map (·.o) ++ l.drop n = l := by rw [h1]; exact List.take_append_drop n l
  refine wp_region_any hmix ?_
  have hI' := inv_drawn hI (w.drawn + 1)
  obtain ⟨hv, hH, hk, hm', hpin, hS⟩ := hI'
  have hear : ∀ (j : Nat) (it : It), its[j]? = some it → it.early = true → ∀ (i : Nat) (it' : It), its[i]? = some it' → it'.pin = true → depStar (its.map (·.o)) 2 it'.o j = true := fun j it hj he i it' hi hp => by
    have h5 := (h3 j it hj).2 he
    have h6 := (h3 i it' hi).1
    rw [hp] at h6
    rw [Nat.zero_add] at h5 h6
    have h7 := List.all_eq_true.1 h5 i (by simpa using h6.symm)
    rw [← h1] at h7
    simpa [hi] using h7
  have hD : DrawOk C.N its := ⟨by rw [h1]; exact hbA, by rw [h1]; exact hap, by
      rw [h1, hN]
      exact List.all_eq_true.2 (fun o ho => List.all_eq_true.1 hd0 o (List.mem_of_mem_take ho)), fun i j it it' hi hj hp hp' hlt => by
    have e1 := (h3 i it hi).1
    have e2 := (h3 j it' hj).1
    rw [hp, Nat.zero_add] at e1
    rw [hp', Nat.zero_add] at e2
    obtain ⟨k, hk, h5, h6, h7⟩ := chain_ok pins hch i j it'.o (by simpa using e1.symm) (by simpa using e2.symm) hlt (by rw [← h1]; simp [hj])
    rw [← h1] at h7
    have hkl : k < its.length := by have := (List.getElem?_eq_some_iff.1 hj).1; omega
    refine ⟨k, its[k], List.getElem?_eq_getElem hkl, ?_, h5, h6, h7⟩
    rw [(h3 k _ (List.getElem?_eq_getElem hkl)).1, Nat.zero_add]
    simpa using hk, hear⟩
  have hsz : (Array.replicate l.toArray.size false).size = its.length + (l.drop n).length := by rw [hln, hlB]; simp; omega
  have hun : ∀ i, i < l.length → (Array.replicate l.toArray.size false).getD i true = false := fun i hi => by
    simp [Array.getD_eq_getD_getElem?, hi]
  have hcov : ∀ listed : Array Bool, (∀ (i : Nat) (it : It), its[i]? = some it → listed.getD i true = true → ∀ k, depOn it.o k = true → listed.getD k true = true) → (∀ k, its.length ≤ k → k < its.length + (l.drop n).length → listed.getD k true = false) → listed.size = its.length + (l.drop n).length → ∀ j, j ∈ Region.ready .any (its.map (·.o) ++ l.drop n).toArray listed → its.length ≤ j → ∀ i, i < its.length → listed.getD i true = true := by
    intro listed hcl hBu hs j hj hjn
    rw [hsplit] at hj
    have hs' : listed.size = l.length := by rw [hs, hln, hlB]; omega
    obtain ⟨_, o, ho, _⟩ := mem_ready.1 hj
    have ho2 : l[j]? = some o := by simpa using ho
    have hjl : j < l.length := (List.getElem?_eq_some_iff.1 ho2).1
    have hjeq : j = n := by
      rcases Nat.lt_or_ge n j with hlt | hge
      · exfalso
        have := List.all_eq_true.1 hsq j (by simpa using hjl)
        simp only [ho2, Bool.or_eq_true, decide_eq_true_eq] at this
        rcases this with h5 | h5
        · omega
        · have h6 := ((ready_dep hbk hs' hj ho2).2 _ h5).1
          rw [hBu (j - 1) (by omega) (by omega)] at h6
          cases h6
      · omega
    have key : ∀ d i, i < n → n - i ≤ d → listed.getD i true = true := by
      intro d
      induction d with
      | zero => intro i hi hle; omega
      | succ d ih =>
        intro i hi hle
        have hc := List.all_eq_true.1 hcv i (by simpa using hi)
        obtain ⟨k, hk, hkd⟩ := List.any_eq_true.1 hc
        simp only [List.mem_range] at hk
        simp only [Bool.and_eq_true, decide_eq_true_eq] at hkd
        obtain ⟨hik, hkd⟩ := hkd
        cases hlk : l[k]? with
        | none => rw [hlk] at hkd; cases hkd
        | some ok =>
          rw [hlk] at hkd
          simp only at hkd
          by_cases hkn : k = n
          · subst hkn
            subst hjeq
            rw [ho2] at hlk; cases hlk
            exact ((ready_dep hbk hs' hj ho2).2 _ hkd).1
          · have hlt : k < n := by omega
            have hit : ∃ it, its[k]? = some it := ⟨_, List.getElem?_eq_getElem (by omega)⟩
            obtain ⟨it, hit⟩ := hit
            have hok : it.o = ok := by
              have e1 : (its.map (·.o))[k]? = some it.o := by simp [hit]
              rw [h1, List.getElem?_take, if_pos hlt, hlk] at e1
              exact (Option.some.inj e1).symm
            exact hcl k it hit (ih k hlt (by omega)) i (by rw [hok]; exact hkd)
    intro i hi
    exact key n i (by omega) (by omega)
  obtain ⟨h4a, h4⟩ := h4
  have hAl : AlOk T its (L.map (·.1)) := fun i hi => by
    obtain ⟨e, he, rfl⟩ := List.mem_map.1 hi
    obtain ⟨o, ti, g1, g2, g3, g4, g5, g6, g7⟩ := layB_ok hLok e he
    have hlt : e.1 < its.length := by have := (List.getElem?_eq_some_iff.1 g1).1; rw [← h1] at this; simpa using this
    have hit : its[e.1]? = some its[e.1] := List.getElem?_eq_getElem hlt
    have hio : its[e.1].o = o := by
      have : (its.map (·.o))[e.1]? = some its[e.1].o := by simp [hit]
      rw [h1, g1] at this
      exact (Option.some.inj this).symm
    have hpn : its[e.1].pin = false := by rw [(h3 _ _ hit).1, Nat.zero_add]; exact g5
    obtain ⟨k1, k2, k3, k4⟩ := tr_get its _ _ _ h2 e.1 _ hit
    have hon : its[e.1].on = true := by rw [hio, g4] at k1; exact k1
    have hany : its[e.1].r.d = .any := by
      have hmap : ∀ (i' : Nat) (it' : It), its[i']? = some it' → it'.o.dst = some e.2.1 → i' = e.1 := fun i' it' g8 g9 => by
        refine dstsApart_ne _ hap i' e.1 it'.o its[e.1].o e.2.1 ?_ ?_ g9 (by rw [hio]; exact g2)
        · rw [← h1]; simp [g8]
        · rw [← h1]; simp [hit]
      rcases lk_finSl its st.sl e.2.1 .any (h4a e he) with ⟨i', it', g8, g9, g10⟩ | ⟨_, g8⟩
      · have := hmap i' it' g8 g9
        subst this
        rw [hit] at g8; cases g8
        exact g10.symm
      · exact absurd (by rw [hio]; exact g2) (g8 _ (List.mem_of_getElem? hit))
    refine ⟨its[e.1], e.2.1, e.2.2, ti, hit, by rw [hio]; exact g2, by rw [hio]; exact g3, by rw [hio]; exact g4, hpn, hon, ?_, g6, g7⟩
    rw [(k3 hon hpn).1, hany]
  have hnod : (L.map (·.1)).Nodup := layB_nodup hLok
  have := any_of_JE (C := C) hT rfl hD hAl (B := l.drop n) (by rw [h1]; exact h2) (fun h ob hl => ⟨lk_rdOf hl, hk h ob (lk_rdOf hl)⟩) (fun h ob hl => hl) (Q := fun e a' w' => ∃ st', Q e st' ∧ Inv C st' a' w') hcov (fun fuel listed a w E hv hs hA hB hf hI hPd => by
    have hI2 : Inv C (alSt T L ⟨finSl its st.sl, (stAt its its.length st.hp st.nx).1, (stAt its its.length st.hp st.nx).2⟩) a w := by
      refine absorb hT L _ E hv a w hI (fun i b hE => ?_) (fun e he => ?_) hnod hPd.out hPd.inj
      · obtain ⟨e, he, h5⟩ := List.mem_map.1 (hPd.only i b hE).1
        exact ⟨e, he, h5⟩
      · have hi : e.1 ∈ L.map (·.1) := List.mem_map.2 ⟨e, he, rfl⟩
        obtain ⟨it, t, ty, ti, g1, g2, g3, _, _, _, _, g4, g5⟩ := hAl e.1 hi
        obtain ⟨o, ti', k1, k2, k3, _, _, k4, _⟩ := layB_ok hLok e he
        have hlt := (List.getElem?_eq_some_iff.1 g1).1
        have hio : it.o = o := by
          have : (its.map (·.o))[e.1]? = some it.o := by simp [g1]
          rw [h1, k1] at this
          exact (Option.some.inj this).symm
        rw [hio] at g2 g3
        rw [k2] at g2; cases g2
        rw [k3] at g3; cases g3
        obtain ⟨b, hb⟩ := hPd.all e.1 hi (hA e.1 hlt)
        obtain ⟨p1, p2, p3, p4⟩ := hPd.blk e.1 b it e.2.1 e.2.2 ti hb g1 (by rw [hio]; exact k2) (by rw [hio]; exact k3) g4
        exact ⟨b, ti, hb, g4, g5, p1, p2, p3, p4⟩
    rw [hsplit]
    refine any_seq hT rfl hCm (ops := l) (n := n) (by rw [hN]; exact hd0) hbk hsq (l.drop n) (l.take n) _ fuel listed a w (Q .normal) (List.take_append_drop n l).symm (by simp; omega) (by rw [hs, hln, hlB]; omega) (fun i hi => hA i (by simp at hi; omega)) (fun k hk hk2 => hB k (by simp at hk; omega) (by omega)) hf hI2 h4 (fun st' a' w' hq hi => ⟨st', hq, hi⟩)) l.toArray.size (Array.replicate l.toArray.size false) a { w with drawn := w.drawn + 1 } 0 hv (fun _ => none) hsz
  rw [hsplit] at this
  refine this (fun k _ hk => hun k (by omega)) ?_ ?_ ?_
  · have : ((Array.replicate l.toArray.size false).toList.take its.length).count false ≤ its.length := Nat.le_trans List.count_le_length (by simp; omega)
    rw [hlB]
    simp at this ⊢
    omega
  · have hC : CE C (fun _ => none) = C := by
      have hG : (fun b => C.G b ∧ ∀ i : Nat, (none : Option Nat) ≠ some b) = C.G := by
        funext b
        exact propext ⟨fun h => h.1, fun h => ⟨h, fun i e => by cases e⟩⟩
      unfold CE
      rw [hG]
    rw [hC]
    have e0 : stAt its 0 st.hp st.nx = (st.hp, st.nx) := by cases its <;> rfl
    refine ⟨fun i it hi _ => ?_, fun i it hi hls => ?_, by rw [e0]; exact hH, by rw [e0]; exact hk, by rw [e0]; exact hm', by rw [e0]; exact hpin, hS.defers, hS.size, ?_, fun i it t hi _ hls => ?_⟩
    · have hi2 := (List.getElem?_eq_some_iff.1 hi).1
      rw [hun i (by omega)]; simp
    · have hi2 := (List.getElem?_eq_some_iff.1 hi).1
      rw [hun i (by omega)] at hls; cases hls
    · rw [e0]; exact fun t d hl _ => hS.at_ t d hl
    · have hi2 := (List.getElem?_eq_some_iff.1 hi).1
      rw [hun i (by omega)] at hls; cases hls
  · refine ⟨fun i hi hls => ?_, fun i b hE => (by cases hE), fun i b it t ty ti hE => (by cases hE), fun i b h ob hE => (by cases hE), fun i i' b hE => (by cases hE)⟩
    obtain ⟨it, t, ty, ti, g1, _⟩ := hAl i hi
    have hlt := (List.getElem?_eq_some_iff.1 g1).1
    rw [hun i (by omega)] at hls; cases hls

theorem al1 {m : Nat} {ops l : List Oper} {e : Nat × Tmp × TypeId} {L : List (Nat × Tmp × TypeId)} {st st' : St} {K : St → Prop} {ti : TI} (hK : areg P T m ops l (alSt T L st') K) (hl : lk e.2.2 T = some ti := by rfl)
    (hst : (⟨(e.2.1, .ptr st.nx 0 0) :: st.sl, (st.nx, ⟨e.2.2, ti.size, true, [zeroD ti]⟩) :: st.hp, st.nx + 1⟩ : St) = st' := by simp +decide (disch := omega) only [nrm, lk_nrm, dc_nrm, mk_nrm, mf_nrm, ti_nrm, ls_nrm, mp_nrm, nb_nrm, hset, Nat.reduceAdd]; rfl) : areg P T m ops l (alSt T (e :: L) st) K := by
  subst hst
  have : obOf T e.2.2 = ⟨e.2.2, ti.size, true, [zeroD ti]⟩ := by simp [obOf, hl]
  simp only [alSt, this]
  exact hK
theorem al0 {m : Nat} {ops l : List Oper} {st : St} {K : St → Prop} (hK : areg P T m ops l st K) : areg P T m ops l (alSt T [] st) K := hK
section
variable {ops : List Oper} {base sl : List (Nat × D)} {rd eh hp : HP} {pins : List Nat} {i nx : Nat} {l : List Oper} {done : List D} {K : St → Prop} {dst : Option Tmp} {ty : TypeId} {t : TypeId} {pos : String} {af : Array Edge}
theorem dlay (hT : TOk P T) {ti : TI} (h : DReg P ops base rd eh pins (i + 1) l (done ++ [.any]) hp nx (putSl dst .any sl) K) (hl : lk t T = some ti := by rfl) (hpin : pins.contains i = false := by rfl) : DReg P ops base rd eh pins i ({ dst := dst, op := .alloc t, type := ty, pos := pos, after := af, guard := none } :: l) done hp nx sl K :=
  dreg_cons (it := ⟨_, false, true, { d := .any }, false⟩) ⟨hpin.symm, fun h => Bool.noConfusion h⟩ ⟨rfl, fun _ h => by simp at h, fun _ _ => ⟨rfl, freeOk_alloc hT rfl hl⟩, fun h => by simp at h⟩ h
end
end Go.Proofs.Ytjkhgcmdcjdipaa.Abs

/- Abs, part 29: a small region in any order, each order by itself; what only moves goes first. -/
set_option linter.unusedVariables false
set_option linter.unusedSimpArgs false
namespace Go.Proofs.Ytjkhgcmdcjdipaa.Abs
open Go Go.RowKit
variable {P : Program} {T : TT} {C : Ctx}

/-- What is ready, by lists. -/
def readyL (ops : List Oper) (listed : Array Bool) : List Nat := (List.range ops.length).filter fun i => !listed.getD i true && (match ops[i]? with | some o => o.after.toList.all (fun e => !Region.binds .any e || listed.getD e.on false) | none => false)
theorem ready_list (ops : List Oper) (listed : Array Bool) : Region.ready .any ops.toArray listed = readyL ops listed := by
  unfold Region.ready readyL
  rw [List.size_toArray]
  refine List.filter_congr (fun i _ => ?_)
  rw [List.getElem?_toArray]
  cases ops[i]? with
  | none => rfl
  | some o => simp only [Option.map_some, Option.getD_some, Array.all_toList]

/-- Whatever order is picked from here on, said of states. -/
def AnyS (C : Ctx) (ops : List Oper) (K : St → Prop) (fuel : Nat) (listed : Array Bool) (st : St) : Prop :=
  ∀ a w, Inv C st a w → wpAny C.P .any ops.toArray (fun e a' w' => ∃ st', (e = .normal ∧ K st') ∧ Inv C st' a' w') fuel listed a w

theorem anyS_done {ops : List Oper} {K : St → Prop} {fuel : Nat} {listed : Array Bool} {st : St} (hr : readyL ops listed = []) (hK : K st) : AnyS C ops K fuel listed st := fun a w hI => by
  rw [← ready_list] at hr
  have hq : ∃ st', ((Exit.normal : Exit) = .normal ∧ K st') ∧ Inv C st' a w := ⟨st, ⟨rfl, hK⟩, hI⟩
  cases fuel with
  | zero => exact ⟨hr, hq⟩
  | succ f => exact ⟨fun _ => hq, fun j hj => by rw [hr] at hj; cases hj⟩

def AnyAll (P : Program) (C : Ctx) (T : TT) (m : Nat) (ops : List Oper) (K : St → Prop) (fuel : Nat) (listed : Array Bool) (st : St) : List Nat → Prop
  | [] => True
  | i :: rs => (∃ o, ops[i]? = some o ∧ o.guard = none ∧ areg P T m ops [o] st (fun st' => AnyS C ops K fuel (listed.setIfInBounds i true) st')) ∧ AnyAll P C T m ops K fuel listed st rs

theorem AnyAll.mem {m : Nat} {ops : List Oper} {K : St → Prop} {fuel : Nat} {listed : Array Bool} {st : St} : ∀ {rs : List Nat}, AnyAll P C T m ops K fuel listed st rs → ∀ i ∈ rs, ∃ o, ops[i]? = some o ∧ o.guard = none ∧ areg P T m ops [o] st (fun st' => AnyS C ops K fuel (listed.setIfInBounds i true) st')
  | r :: rs, h, i, hi => by
    rcases List.mem_cons.1 hi with rfl | hi
    · exact h.1
    · exact AnyAll.mem h.2 i hi

theorem anyS_cons {m N : Nat} (hT : TOk P T) (hP : C.P = P) (hCm : C.m = m) (hN : C.N = N) {ops : List Oper} {K : St → Prop} {fuel : Nat} {listed : Array Bool} {st : St} (hd : dstsOk N ops = true) (rs : List Nat) (hr : readyL ops listed = rs) (hne : rs.isEmpty = false) (h : AnyAll P C T m ops K fuel listed st rs) : AnyS C ops K (fuel + 1) listed st := fun a w hI => by
  subst hP
  rw [← ready_list] at hr
  refine ⟨fun h0 => ?_, fun i hi => ?_⟩
  · rw [h0] at hr; subst hr; simp at hne
  · rw [hr] at hi
    obtain ⟨o, ho, hg, hA⟩ := h.mem i hi
    have hdo : ∀ t, o.dst = some t → t < C.N := fun t ht => by
      have := List.all_eq_true.1 hd o (List.mem_of_getElem? ho)
      rw [hN]
      simpa [ht] using this
    unfold wpOp
    rw [show ops.toArray[i]? = some o by simpa using ho]
    simp only [Region.wanted, hg, if_true]
    simp only [areg, hg] at hA
    exact .inl (aop_wp hT rfl hCm hI hdo hA (fun st' a' w' h1 h2 => h1 a' w' h2))

/-- It may go ahead of all that does not wait for it. -/
def floatB (ops : List Oper) (i : Nat) : Bool := (List.range ops.length).all fun j => decide (j = i) || (match ops[i]?, ops[j]? with | some oi, some oj => depOn oj i || oi.apart ops.toArray oj | _, _ => true)
def noSelB (ops : List Oper) : Bool := ops.all fun o => match o.op with | .select .. => false | _ => true

theorem anyS_float {m N : Nat} (hT : TOk P T) (hP : C.P = P) (hCm : C.m = m) (hN : C.N = N) {ops : List Oper} {K : St → Prop} {fuel : Nat} {listed : Array Bool} {st : St} (hd : dstsOk N ops = true) (i : Nat) {o : Oper} {x : Operand} (ho : ops[i]? = some o) (hop : o.op = .move x) (hg : o.guard = none)
    (hrd : (readyL ops listed).contains i = true) (hfl : floatB ops i = true) (hns : noSelB ops = true) (h : areg P T m ops [o] st (fun st' => AnyS C ops K fuel (listed.setIfInBounds i true) st')) : AnyS C ops K (fuel + 1) listed st := fun a w hI => by
  subst hP
  have hdo : ∀ t, o.dst = some t → t < C.N := fun t ht => by
    have := List.all_eq_true.1 hd o (List.mem_of_getElem? ho)
    rw [hN]
    simpa [ht] using this
  have hrun : ∀ w, (execOp a.eval o).run C.P w = .ok (.value (a.eval x)) w := fun w => by
    obtain ⟨dst, op, type, pos, after, guard⟩ := o
    simp only at hop
    subst hop
    simp [execOp]
  simp only [areg, hg] at h
  have h1 : o.wp C.P a w (fun a' w' => wpAny C.P .any ops.toArray (fun e a' w' => ∃ st', (e = .normal ∧ K st') ∧ Inv C st' a' w') fuel (listed.setIfInBounds i true) a' w') (fun _ _ _ => False) := aop_wp hT rfl hCm hI hdo h (fun st' a' w' h1 h2 => h1 a' w' h2)
  unfold Oper.wp at h1
  rw [hrun w] at h1
  simp only [Oper.upon] at h1
  have hmem : i ∈ Region.ready .any ops.toArray listed := by rw [ready_list]; simpa using hrd
  refine wpAny_first (i := i) (oi := o) (v := a.eval x) (by simpa using ho) (fun j oj cs b hj e => ?_) (fun c a w hq => ?_) fuel listed a w (fun j oj hj hji hun hno => ?_) hmem (.inl ⟨by simp [Region.wanted, hg], hrun⟩) h1
  · have hj2 : ops[j]? = some oj := by simpa using hj
    have := List.all_eq_true.1 hns oj (List.mem_of_getElem? hj2)
    simp [e] at this
  · obtain ⟨st', ⟨h, _⟩, _⟩ := hq
    cases h
  · have hj2 : ops[j]? = some oj := by simpa using hj
    have hjl := (List.getElem?_eq_some_iff.1 hj2).1
    have := List.all_eq_true.1 hfl j (by simpa using hjl)
    simp only [ho, hj2, Bool.or_eq_true, decide_eq_true_eq] at this
    rcases this with h2 | h2 | h2
    · exact absurd h2 hji
    · exfalso
      obtain ⟨e, he, hb⟩ := List.any_eq_true.1 h2
      simp only [Bool.and_eq_true, beq_iff_eq] at hb
      exact hno e (by simpa using he) hb.2 hb.1
    · exact h2

theorem awp_any {id : Nat} {opsA : Array Oper} {st : St} {Q : Exit → St → Prop} (hP : C.P = P) (hmix : P.follows .mixedOrders = true) (l : List Oper) (he : opsA = l.toArray) (n : Nat) (hn : l.length = n) (h : AnyS C l (Q .normal) n (Array.replicate n false) st) : awp C (.region id opsA true) Q st := by
  subst he; subst hP; subst hn
  refine awp_mono (Q := fun e st => e = .normal ∧ Q .normal st) (fun a w hI => ?_) (fun e st h => by obtain ⟨rfl, h⟩ := h; exact h)
  refine wp_region_any hmix ?_
  have := h a _ (inv_drawn hI (w.drawn + 1))
  simpa using this
end Go.Proofs.Ytjkhgcmdcjdipaa.Abs

/- Abs, part 30: whether a slice that is read only is nil. -/
set_option linter.unusedVariables false
set_option linter.unusedSimpArgs false
namespace Go.Proofs.Ytjkhgcmdcjdipaa.Abs
open Go Go.RowKit
variable {P : Program} {T : TT} {C : Ctx}

theorem sreg_nilcmp {N : Nat} (hT : TOk P T) (hP : C.P = P) (hN : C.N = N) {ops l : List Oper} {t : Tmp} {x : Operand} {ty ty2 tb : TypeId} {pos : String} {af : Array Edge} {sl : List (Nat × D)} {hp : HP} {nx : Nat} {K : St → Prop} {sz n' c' : Nat} {rows : List (List D)} {e : TypeId}
    (ht : t < N) (hx : evD sl x = .sl sz rows) (hty : (lk ty T).map (fun ti : TI => ti.sh) = some (.slice e))
    (hK : ∀ b : Bool, (b = true → rows = []) → SReg C ops l ⟨(t, .val (.bool b)) :: sl, hp, nx⟩ K) :
    SReg C ops ({ dst := some t, op := .binOp .eql ty x (.const (.slice none n' c')) ty2, type := tb, pos := pos, after := af, guard := none } :: l) ⟨sl, hp, nx⟩ K := fun Q a w hI hQ => by
  subst hP
  obtain ⟨hv, hH, hk, hm, hpin, hS⟩ := hI
  simp only at hH hk hm hpin hS
  have hx' := evD_ok hS x
  rw [hx] at hx'
  obtain ⟨ti, hl, hsh⟩ := Option.map_eq_some_iff.1 hty
  have hu := TI.under_slice (hT _ _ hl) hsh
  have hval : ∃ A n c, a.eval x = .slice A n c ∧ (A = none → rows = []) := by
    have hx2 : RepP w (FOf C.G hv hp w) (.sl sz rows) (a.eval x) := hx'
    generalize a.eval x = u at hx2
    cases hx2 with
    | sl _ _ A c V hg h0 hm hF hc hr => exact ⟨A, _, c, rfl, fun h => (h0 h).1⟩
  obtain ⟨A, n, c, he, hnil⟩ := hval
  refine wpList_step (fun K1 hK1 => ?_)
  simp only [Region.wanted, if_true]
  unfold Oper.wp
  have hrun : (execOp a.eval { dst := some t, op := .binOp .eql ty x (.const (.slice none n' c')) ty2, type := tb, pos := pos, after := af, guard := none }).run C.P w = .ok (.value (.bool A.isNone)) w := by
    have h1 := Lib.run_eql_slice_nil (P := C.P) w ty e A n c n' c' hu
    have hc : a.eval (.const (.slice none n' c')) = .slice none n' c' := rfl
    simp only [execOp]
    rw [he, hc]
    simp [eqGuard, h1]
  rw [hrun]
  refine hK1 _ _ ?_
  refine hK A.isNone (fun h => hnil (by simpa using h)) Q _ w ⟨hv, hH, hk, hm, hpin, ?_⟩ hQ
  exact sinv_put hS (dst := some t) (fun t' h => by cases h; rw [hN]; exact ht) (d := .val (.bool A.isNone)) (v := .bool A.isNone) (RepP.val _ : RepP w (FOf C.G hv hp w) (.val (.bool A.isNone)) _)
end Go.Proofs.Ytjkhgcmdcjdipaa.Abs

/- Abs, part 31: some rows of a local object are written over, in place. -/
set_option linter.unusedVariables false
set_option linter.unusedSimpArgs false
namespace Go.Proofs.Ytjkhgcmdcjdipaa.Abs
open Go Go.RowKit
variable {P : Program} {T : TT} {C : Ctx}

/-- A list of which a part is written over. -/
def splice {α : Type} (l : List α) (p : Nat) (m : List α) : List α := l.take p ++ m ++ l.drop (p + m.length)
theorem splice_len {α : Type} {l : List α} {p : Nat} {m : List α} (h : p + m.length ≤ l.length) : (splice l p m).length = l.length := by
  simp [splice]; omega
theorem splice_get {α : Type} {l : List α} {p : Nat} {m : List α} (h : p + m.length ≤ l.length) (k : Nat) : (splice l p m)[k]? = if k < p then l[k]? else if k < p + m.length then m[k - p]? else l[k]? := by
  unfold splice
  have hp : (l.take p).length = p := by simp; omega
  by_cases h1 : k < p
  · rw [if_pos h1, List.getElem?_append_left (by simp; omega), List.getElem?_append_left (by rw [hp]; exact h1), List.getElem?_take, if_pos h1]
  · rw [if_neg h1]
    by_cases h2 : k < p + m.length
    · rw [if_pos h2, List.getElem?_append_left (by rw [List.length_append, hp]; exact h2), List.getElem?_append_right (by rw [hp]; omega), hp]
    · rw [if_neg h2, List.getElem?_append_right (by rw [List.length_append, hp]; omega), List.length_append, hp, List.getElem?_drop]
      congr 1
      omega

theorem row_lt {i p s j : Nat} (h : i < p) (hj : j < s) : i * s + j < p * s := by
  have h1 : (i + 1) * s ≤ p * s := Nat.mul_le_mul_right s h
  rw [Nat.add_mul] at h1
  omega
theorem row_ge {i p s j : Nat} (h : p ≤ i) : p * s ≤ i * s + j := Nat.le_trans (Nat.mul_le_mul_right s h) (Nat.le_add_right _ _)

theorem row_write {w0 : World} {S : List Nat} {G : Nat → Prop} {hv : Nat → Value} {hp : HP} {w : World} (hI : HInv w0 S G hv hp w) {h : Nat} {ob : Ob} (hl : lk h hp = some ob) (hdp : ob.deep = false) {p : Nat} {rows : List (List D)} {news : List Value}
    (hgr : Grid ob.sz rows) (hnl : news.length = rows.length * ob.sz) (hnr : ∀ i j x d, rows[i]? = some x → x[j]? = some d → ∃ u, news[i * ob.sz + j]? = some u ∧ u.oneCell' = true ∧ RepP w (FOf G hv hp w) d u)
    (hfit : p + rows.length ≤ ob.xs.length) {g cap : Nat} {cur : Array Value} (hvs : hv h = .slice (some ⟨g, 0, none⟩) ob.xs.length cap) {e' : TypeId} {fz : Nat × Nat} (hg : w.heap[g]? = some (.cells cur e' fz)) (hmk : markAt cur.size ob.ty e' fz) (hnc : ob.xs.length ≤ cap) (hcm : cap ≤ maxLen) (hcs : cur.size = cap * ob.sz) :
    p * ob.sz + news.length ≤ cur.size ∧
    HInv w0 S G hv (hset h ⟨ob.ty, ob.sz, false, splice ob.xs p rows⟩ hp) (w.setRow g (cur.toList.take (p * ob.sz) ++ news ++ cur.toList.drop (p * ob.sz + news.length)).toArray) ∧
    LOf hv (hset h ⟨ob.ty, ob.sz, false, splice ob.xs p rows⟩ hp) = LOf hv hp ∧
    (∀ c, FOf G hv hp w c → FOf G hv (hset h ⟨ob.ty, ob.sz, false, splice ob.xs p rows⟩ hp) (w.setRow g (cur.toList.take (p * ob.sz) ++ news ++ cur.toList.drop (p * ob.sz + news.length)).toArray) c ∧ (w.setRow g (cur.toList.take (p * ob.sz) ++ news ++ cur.toList.drop (p * ob.sz + news.length)).toArray).heap[c]? = w.heap[c]?) := by
  have hfitc : p * ob.sz + news.length ≤ ob.xs.length * ob.sz := by
    rw [hnl, ← Nat.add_mul]; exact Nat.mul_le_mul_right _ hfit
  have hxc : ob.xs.length * ob.sz ≤ cur.size := by rw [hcs]; exact Nat.mul_le_mul_right _ hnc
  have hfit2 : p * ob.sz + news.length ≤ cur.toList.length := by simp; omega
  refine ⟨by omega, ?_⟩
  show HInv w0 S G hv _ (w.setRow g (splice cur.toList (p * ob.sz) news).toArray) ∧ _ ∧ (∀ c, FOf G hv hp w c → FOf G hv _ (w.setRow g (splice cur.toList (p * ob.sz) news).toArray) c ∧ (w.setRow g (splice cur.toList (p * ob.sz) news).toArray).heap[c]? = w.heap[c]?)
  obtain ⟨vs, ho, hgr0, hc⟩ := hI.obs h ob hl
  have hvl : vs = cur.toList.take (ob.xs.length * ob.sz) := by
    rcases ho.2 with ⟨h1, _⟩ | ⟨g', cap', cur', h1, _, ⟨e2', fz', h2, _⟩, _, _, _, h3⟩
    · rw [hvs] at h1; cases h1
    · rw [hvs] at h1
      cases h1
      rw [hg] at h2
      cases h2
      exact h3.symm
  have hbg : g < w.heap.size := (Array.getElem?_eq_some_iff.1 hg).1
  have hgrown : w.grownBy (w.setRow g (splice cur.toList (p * ob.sz) news).toArray) (some g) := ⟨rfl, rfl, rfl, by simp [World.setRow], fun k hk hne => by
    have hkg : g ≠ k := fun e => hne (by rw [e])
    simp [World.setRow, Array.getElem?_modify, hkg]⟩
  have hsize : w.heap.size = (w.setRow g (splice cur.toList (p * ob.sz) news).toArray).heap.size := by simp [World.setRow]
  have hFF : ∀ b, FOf G hv hp w b → FOf G hv hp w b ∧ (w.setRow g (splice cur.toList (p * ob.sz) news).toArray).heap[b]? = w.heap[b]? := fun b hb => ⟨hb, hgrown.block b hb.1.1 (fun e => hb.2 h ob hl (by rw [hvs]; exact e.symm))⟩
  exact HInv.write (ob' := ⟨ob.ty, ob.sz, false, splice ob.xs p rows⟩) hI hl rfl (b := g) (by rw [hvs]; rfl) hgrown hsize (by
    refine ⟨splice vs (p * ob.sz) news, ⟨?_, .inr ⟨g, cap, (splice cur.toList (p * ob.sz) news).toArray, ?_, Nat.zero_le _, ⟨e', fz, setRow_heap w g cur _ e' _ hg, by rw [List.size_toArray, splice_len hfit2, Array.length_toList]; exact hmk⟩, ?_, hcm, ?_, ?_⟩⟩, fun x hx => ?_, fun i j x d hi hj => ?_⟩
    · rw [splice_len (by rw [ho.1]; exact hfitc), ho.1]
      show _ = (splice ob.xs p rows).length * ob.sz
      rw [splice_len hfit]
    · show hv h = .slice (some ⟨g, 0, none⟩) (splice ob.xs p rows).length cap
      rw [splice_len hfit]; exact hvs
    · show (splice ob.xs p rows).length ≤ cap
      rw [splice_len hfit]; exact hnc
    · show (splice cur.toList (p * ob.sz) news).toArray.size = cap * ob.sz
      rw [List.size_toArray, splice_len hfit2, Array.length_toList, hcs]
    · show (splice cur.toList (p * ob.sz) news).take ((splice ob.xs p rows).length * ob.sz) = splice vs (p * ob.sz) news
      rw [splice_len hfit]
      apply List.ext_getElem?
      intro k
      rw [List.getElem?_take, splice_get hfit2, splice_get (by rw [ho.1]; exact hfitc), hvl]
      simp only [List.getElem?_take]
      by_cases hk : k < ob.xs.length * ob.sz
      · simp only [hk, if_true]
      · simp only [hk, if_false]
        rw [if_neg (by omega), if_neg (by omega)]
    · have hx : x ∈ splice ob.xs p rows := hx
      simp only [splice, List.mem_append] at hx
      rcases hx with (hx | hx) | hx
      · exact hgr0 x (List.mem_of_mem_take hx)
      · exact hgr x hx
      · exact hgr0 x (List.mem_of_mem_drop hx)
    · have hi : (splice ob.xs p rows)[i]? = some x := hi
      rw [splice_get hfit] at hi
      show ∃ u, (splice vs (p * ob.sz) news)[i * ob.sz + j]? = some u ∧ u.oneCell' = true ∧ RepO false _ _ _ d u
      rw [splice_get (by rw [ho.1]; exact hfitc)]
      have old : ob.xs[i]? = some x → ∃ u, vs[i * ob.sz + j]? = some u ∧ u.oneCell' = true ∧ RepO false (LOf hv hp) (w.setRow g (splice cur.toList (p * ob.sz) news).toArray) (FOf G hv hp w) d u := fun hi => by
        obtain ⟨u, hu, h1, hr⟩ := hc i j x d hi hj
        rw [hdp] at hr
        exact ⟨u, hu, h1, RepO.obMono hr (fun _ _ h => h) hFF⟩
      by_cases h1 : i < p
      · rw [if_pos h1] at hi
        have hjs : j < ob.sz := by rw [← hgr0 x (List.mem_of_getElem? hi)]; exact (List.getElem?_eq_some_iff.1 hj).1
        rw [if_pos (row_lt h1 hjs)]
        exact old hi
      · rw [if_neg h1] at hi
        have hge : ¬ i * ob.sz + j < p * ob.sz := by have := row_ge (s := ob.sz) (j := j) (show p ≤ i by omega); omega
        rw [if_neg hge]
        by_cases h2 : i < p + rows.length
        · rw [if_pos h2] at hi
          have hjs : j < ob.sz := by rw [← hgr x (List.mem_of_getElem? hi)]; exact (List.getElem?_eq_some_iff.1 hj).1
          have hlt := row_lt (p := p + rows.length) h2 hjs
          rw [Nat.add_mul, ← hnl] at hlt
          rw [if_pos hlt]
          obtain ⟨u, hu, h3, hr⟩ := hnr (i - p) j x d hi hj
          refine ⟨u, ?_, h3, RepO.obMono (deep := false) hr (fun _ _ h => h) hFF⟩
          rw [← hu]
          congr 1
          have : i * ob.sz = p * ob.sz + (i - p) * ob.sz := by rw [← Nat.add_mul]; congr 1; omega
          omega
        · rw [if_neg h2] at hi
          have hge2 : ¬ i * ob.sz + j < p * ob.sz + news.length := by
            have := row_ge (s := ob.sz) (j := j) (show p + rows.length ≤ i by omega)
            rw [Nat.add_mul, ← hnl] at this
            omega
          rw [if_neg hge2]
          exact old hi)
/-- What a part of a local row is, where it is not empty. -/
theorem vw_open {w0 : World} {S : List Nat} {G : Nat → Prop} {hv : Nat → Value} {hp : HP} {w : World} (hI : HInv w0 S G hv hp w) {k lo n : Nat} {v : Value} (h : Rep (LOf hv hp) w (FOf G hv hp w) (.vw k lo n) v) {ob : Ob} (hob : lk k hp = some ob) (hn : 0 < n) :
    ∃ g cap cur c, v = .slice (some ⟨g, lo * ob.sz, none⟩) n c ∧ n ≤ c ∧ lo + n ≤ ob.xs.length ∧ hv k = .slice (some ⟨g, 0, none⟩) ob.xs.length cap ∧ (∃ e' fz, w.heap[g]? = some (.cells cur e' fz) ∧ markAt cur.size ob.ty e' fz) ∧ ob.xs.length ≤ cap ∧ cap ≤ maxLen ∧ cur.size = cap * ob.sz := by
  obtain ⟨A, c, m, cap, s, aa, rfl, hL, hlo, hnc, hAc, hA⟩ := h
  rw [LOf_eq hob] at hL
  simp only [Option.some.injEq, Prod.mk.injEq] at hL
  obtain ⟨hvk, rfl⟩ := hL
  obtain ⟨vs, hown, _, _⟩ := hI.obs k ob hob
  obtain ⟨g, haa, rfl⟩ := hA (by omega)
  rcases hown.2 with ⟨h1, h0⟩ | ⟨g', cap', cur, hvs, _, hg, hncap, hcm, hcs, _⟩
  · rw [hvk] at h1
    simp only [Value.slice.injEq] at h1
    omega
  · have e := hvs
    rw [hvk] at e
    simp only [Value.slice.injEq] at e
    obtain ⟨e1, e2, e3⟩ := e
    rw [haa] at e1
    cases e1
    exact ⟨g, cap', cur, c, rfl, hnc.1, by omega, hvs, hg, hncap, hcm, hcs⟩

theorem splice_nil {α : Type} (l : List α) (p : Nat) : splice l p [] = l := by simp [splice]

/-- append onto a part that begins at the row's head, where the rows behind it have room: in place. -/
theorem oprel_app_vw (hT : TOk P T) {o : Oper} {x1 x2 : Operand} {t : TypeId} (ho : o.op = .call ⟨.builtin .append, #[x1, x2], #[t, t]⟩) {ev : Operand → D} {hp : HP} {nx k n : Nat} {ob : Ob} {te : TI} {prow : Prop} {rows : List (List D)}
    (hx1 : ev x1 = .vw k 0 n) (hob : lk k hp = some ob) (hdp : ob.deep = false) (hty : (lk t T).map (fun ti : TI => ti.sh) = some (.slice ob.ty)) (hte : lk ob.ty T = some te) (hsz : ob.sz = te.size) (hrow : rowOf hp te.size (ev x2) = some (prow, rows, false)) (hprow : prow)
    (hfit : n + rows.length ≤ ob.xs.length) (hne : 0 < ob.xs.length) : OpRel P o ev hp nx { d := .vw k 0 (n + rows.length), upd := [(k, ⟨ob.ty, ob.sz, false, splice ob.xs n rows⟩)] } := by
  refine ⟨⟨fun p hp => by simp at hp, rfl⟩, fun w0 S G hv a w hI hk hev K Q hK => ?_⟩
  have h1 := hev x1
  rw [hx1] at h1
  obtain ⟨A, c, m, cap, s, aa, he, hL, hlo, hnc, hAc, hA⟩ := h1
  rw [LOf_eq hob] at hL
  simp only [Option.some.injEq, Prod.mk.injEq] at hL
  obtain ⟨hvk, hs⟩ := hL
  obtain ⟨vs, hown, hg0, hc0⟩ := hI.obs k ob hob
  obtain ⟨ti, hl, hsh⟩ := Option.map_eq_some_iff.1 hty
  have hu := TI.under_slice (hT _ _ hl) hsh
  obtain ⟨i, hi, his, hib, hiz⟩ := TI.info (hT _ _ hte)
  rcases hown.2 with ⟨_, h0⟩ | ⟨g, cap', cur, hvs, _, ⟨e', fz, hg, hmk⟩, hncap, hcm, hcs, htake⟩
  · omega
  have hcap : cap' = cap ∧ aa = some ⟨g, 0, none⟩ := by
    rw [hvk] at hvs
    simp only [Value.slice.injEq] at hvs
    exact ⟨hvs.2.2.symm, hvs.1⟩
  obtain ⟨rfl, haa⟩ := hcap
  have hcc : c = cap' := by omega
  subst hcc
  obtain ⟨g', hg', hA'⟩ := hA (by omega)
  rw [haa] at hg'
  cases hg'
  rw [Nat.zero_mul] at hA'
  subst hA'
  have hR := rowOf_ok hI (hev x2) hrow hprow
  have hexec : ∀ v' w', (Builtin.append_ #[t, t] o.type #[a.eval x1, a.eval x2]).run P w = .ok v' w' → (execOp a.eval o).run P w = .ok (.value v') w' := fun v' w' h => by
    obtain ⟨dst, op, type, pos, after, guard⟩ := o
    simp only at ho h
    subst ho
    simp [execOp, resolve, invoke, builtin, h]
  rcases hR.2 with ⟨hn2, hr0⟩ | ⟨ad, c2, hv2, hnc2, hcells⟩
  · subst hr0
    have hrun : (Builtin.append_ #[t, t] o.type #[a.eval x1, a.eval x2]).run P w = .ok (.slice (some ⟨g, 0, none⟩) n c) w := by
      rw [he, hn2]
      simp [Builtin.append_, run_underlying hu, sizeOf, typeInfo, hi, Builtin.lenOf, Builtin.firstCells, hnc.1, storeCells]
    have hobe : (⟨ob.ty, ob.sz, false, splice ob.xs n []⟩ : Ob) = ob := by rw [splice_nil, ← hdp]
    obtain ⟨hI2, eL, eF⟩ := hI.redesc (ob' := ⟨ob.ty, ob.sz, false, splice ob.xs n []⟩) hob rfl (by rw [hobe]; exact hI.obs k ob hob)
    unfold Oper.wp
    rw [hexec _ _ hrun]
    refine hK _ hv w ⟨hI2, ?_, fun d u hr => ?_, fun _ _ _ _ => rfl⟩
    · show RepC (LOf hv (hset k ⟨ob.ty, ob.sz, false, splice ob.xs n []⟩ hp)) w (FOf G hv (hset k ⟨ob.ty, ob.sz, false, splice ob.xs n []⟩ hp) w) (.vw k 0 (n + 0)) (.slice (some ⟨g, 0, none⟩) n c)
      rw [eL]
      exact ⟨_, _, m, c, s, aa, rfl, by rw [LOf_eq hob, hvk, hs], by simp; omega, ⟨by simp; omega, hnc.2.1, hnc.2.2⟩, fun e => (by cases e), fun _ => ⟨g, haa, by rw [Nat.zero_mul]⟩⟩
    · show Rep (LOf hv (hset k _ hp)) w (FOf G hv (hset k _ hp) w) d u
      rw [eL, eF]; exact hr
  · obtain ⟨news, hnl, hncell, hn1, hnr⟩ := row_cells hR.1 hcells
    have hm : m = ob.xs.length := by
      rw [hvk] at hvs
      simp only [Value.slice.injEq] at hvs
      exact hvs.2.1
    obtain ⟨hf, hI2, eL, hF⟩ := row_write hI hob hdp (p := n) (rows := rows) (news := news) (fun x hx => by rw [hsz]; exact hR.1 x hx) (by rw [hsz]; exact hnl) (fun i' j x d h1 h2 => by
      rw [hsz]
      obtain ⟨u, hu1, hu2, hu3⟩ := hnr i' j x d h1 h2
      exact ⟨u, hu1, hu2, by simpa [RepO] using hu3⟩) hfit hvs hg hmk hncap hcm hcs
    have hrun := run_append_roomF (P := P) w t o.type ob.ty i hu hi g 0 n c cur e' fz hg hmk.ok ad rows.length c2 news (by rw [his]; exact hnl) hncell hn1 (by omega) (by rw [his, ← hsz, Nat.zero_add]; exact hf)
    simp only [Nat.zero_add] at hrun
    rw [his, ← hsz] at hrun
    unfold Oper.wp
    rw [hexec _ _ (by rw [he, hv2]; exact hrun)]
    refine hK _ hv _ ⟨hI2, ?_, fun d u hr => ?_, fun _ _ _ _ => rfl⟩
    · show RepC (LOf hv (hset k ⟨ob.ty, ob.sz, false, splice ob.xs n rows⟩ hp)) (w.setRow g (cur.toList.take (n * ob.sz) ++ news ++ cur.toList.drop (n * ob.sz + news.length)).toArray) (FOf G hv (hset k ⟨ob.ty, ob.sz, false, splice ob.xs n rows⟩ hp) (w.setRow g (cur.toList.take (n * ob.sz) ++ news ++ cur.toList.drop (n * ob.sz + news.length)).toArray)) (.vw k 0 (n + rows.length)) (.slice (some ⟨g, 0, none⟩) (n + rows.length) c)
      rw [eL]
      exact ⟨_, _, m, c, s, aa, rfl, by rw [LOf_eq hob, hvk, hs], by omega, ⟨by omega, hnc.2.1, hnc.2.2⟩, fun e => (by cases e), fun _ => ⟨g, haa, by rw [Nat.zero_mul]⟩⟩
    · exact hr.mono (fun _ _ h => by show LOf hv (hset k _ hp) _ = _; rw [eL]; exact h) hF

theorem zero_get {z : Array Value} {n i j : Nat} (hi : i < n) (hj : j < z.size) : (Builtin.zeroCells z n).toList[i * z.size + j]? = some z[j] := by
  have hlt := row_lt (s := z.size) hi hj
  have hmod : (i * z.size + j) % z.size = j := by rw [Nat.mul_comm, Nat.mul_add_mod]; exact Nat.mod_eq_of_lt hj
  simp [Builtin.zeroCells, hlt, hmod, hj]

/-- clear of a part of a local row. -/
theorem oprel_clear_vw (hT : TOk P T) {o : Oper} {x1 : Operand} {t : TypeId} (ho : o.op = .call ⟨.builtin .clear, #[x1], #[t]⟩) {ev : Operand → D} {hp : HP} {nx k lo n : Nat} {ob : Ob} {te : TI} {zrow : List D}
    (hx1 : ev x1 = .vw k lo n) (hob : lk k hp = some ob) (hdp : ob.deep = false) (hty : (lk t T).map (fun ti : TI => ti.sh) = some (.slice ob.ty)) (hte : lk ob.ty T = some te) (hsz : ob.sz = te.size) (hn : 0 < n)
    (hz : te.zero.cells.toList.map D.val = zrow) (hz1 : te.zero.cells.toList.all (fun c => c.oneCell') = true) :
    OpRel P o ev hp nx { d := .any, upd := [(k, ⟨ob.ty, ob.sz, false, splice ob.xs lo (List.replicate n zrow)⟩)] } := by
  subst hz
  refine ⟨⟨fun p hp => by simp at hp, rfl⟩, fun w0 S G hv a w hI hk hev K Q hK => ?_⟩
  have h1 := hev x1
  rw [hx1] at h1
  obtain ⟨g, cap, cur, c, he, hnc, hlo, hvs, ⟨e', fz, hg, hmk⟩, hncap, hcm, hcs⟩ := vw_open hI h1 hob hn
  obtain ⟨ti, hl, hsh⟩ := Option.map_eq_some_iff.1 hty
  have hu := TI.under_slice (hT _ _ hl) hsh
  have hzr := TI.run_zero (P := P) (hT _ _ hte)
  have hzs : te.zero.cells.size = ob.sz := by rw [hsz]; exact (hT _ _ hte).2.2
  have hcl : (Builtin.zeroCells te.zero.cells n).toList.length = n * ob.sz := by rw [Array.length_toList, size_zeroCells, hzs]
  have hone : ∀ u ∈ (Builtin.zeroCells te.zero.cells n).toList, u.oneCell' = true := fun u hu => by
    obtain ⟨q, hq, rfl⟩ := List.getElem_of_mem hu
    have hq' := hq
    rw [hcl] at hq'
    have hsp : 0 < ob.sz := by
      rcases Nat.eq_zero_or_pos ob.sz with e | e
      · rw [e] at hq'; omega
      · exact e
    have hqm : q % ob.sz < te.zero.cells.size := by rw [hzs]; exact Nat.mod_lt _ hsp
    have hqd : q / ob.sz < n := by rw [Nat.div_lt_iff_lt_mul hsp]; exact hq'
    have h3 := zero_get (z := te.zero.cells) hqd hqm
    rw [hzs, show q / ob.sz * ob.sz + q % ob.sz = q by rw [Nat.mul_comm]; exact Nat.div_add_mod q ob.sz, List.getElem?_eq_getElem hq] at h3
    rw [Option.some.inj h3]
    exact List.all_eq_true.1 hz1 _ (by simp)
  obtain ⟨hf, hI2, eL, hF⟩ := row_write hI hob hdp (p := lo) (rows := List.replicate n (te.zero.cells.toList.map D.val)) (news := (Builtin.zeroCells te.zero.cells n).toList) (fun x hx => by rw [List.eq_of_mem_replicate hx, List.length_map, Array.length_toList, hzs]) (by rw [hcl, List.length_replicate]) (fun i j x d hi hj => by
    have hin : i < n := by have := (List.getElem?_eq_some_iff.1 hi).1; simpa using this
    have hx : x = te.zero.cells.toList.map D.val := List.eq_of_mem_replicate (List.mem_of_getElem? hi)
    subst hx
    have hjl : j < te.zero.cells.size := by have := (List.getElem?_eq_some_iff.1 hj).1; simpa using this
    have hd : d = .val te.zero.cells[j] := by simpa [hjl] using hj.symm
    subst hd
    refine ⟨te.zero.cells[j], ?_, List.all_eq_true.1 hz1 _ (by simp), RepP.val _⟩
    have := zero_get (z := te.zero.cells) hin hjl
    rwa [hzs] at this) (by rw [List.length_replicate]; exact hlo) hvs hg hmk hncap hcm hcs
  have hst := run_storeCells_fz P g (lo * ob.sz) e' fz (Builtin.zeroCells te.zero.cells n).toList 0 cur w hg hmk.ok (by rw [Nat.add_zero]; exact hf) hone
  simp only [Nat.add_zero] at hst
  have hrun : (Builtin.clear_ #[t] o.type #[a.eval x1]).run P w = .ok (.tuple #[]) (w.setRow g (cur.toList.take (lo * ob.sz) ++ (Builtin.zeroCells te.zero.cells n).toList ++ cur.toList.drop (lo * ob.sz + (Builtin.zeroCells te.zero.cells n).toList.length)).toArray) := by
    rw [he]
    obtain ⟨n', rfl⟩ : ∃ n', n = n' + 1 := ⟨n - 1, by omega⟩
    simp [Builtin.clear_, run_underlying hu, hzr]
    simp only [hst]
    simp
  have hexec : (execOp a.eval o).run P w = .ok (.value (.tuple #[])) (w.setRow g (cur.toList.take (lo * ob.sz) ++ (Builtin.zeroCells te.zero.cells n).toList ++ cur.toList.drop (lo * ob.sz + (Builtin.zeroCells te.zero.cells n).toList.length)).toArray) := by
    obtain ⟨dst, op, type, pos, after, guard⟩ := o
    simp only at ho hrun
    subst ho
    simp [execOp, resolve, invoke, builtin, hrun]
  unfold Oper.wp
  rw [hexec]
  refine hK _ hv _ ⟨hI2, (RepP.any _ : RepP _ _ .any _), fun d u hr => ?_, fun _ _ _ _ => rfl⟩
  exact hr.mono (fun _ _ h => by show LOf hv (hset k _ hp) _ = _; rw [eL]; exact h) hF

/-- copy into a part of a local row (that is not empty) from rows (at least one). -/
theorem oprel_copy_vw (hT : TOk P T) {o : Oper} {x1 x2 : Operand} {t t2 : TypeId} (ho : o.op = .call ⟨.builtin .copy, #[x1, x2], #[t, t2]⟩) {ev : Operand → D} {hp : HP} {nx k lo n q : Nat} {ob : Ob} {te : TI} {prow : Prop} {rows : List (List D)}
    (hx1 : ev x1 = .vw k lo n) (hob : lk k hp = some ob) (hdp : ob.deep = false) (hty : (lk t T).map (fun ti : TI => ti.sh) = some (.slice ob.ty)) (hte : lk ob.ty T = some te) (hsz : ob.sz = te.size) (hrow : rowOf hp te.size (ev x2) = some (prow, rows, false)) (hprow : prow)
    (hn : 0 < n) (hr0 : 0 < rows.length) (hq : q = min rows.length n) : OpRel P o ev hp nx { d := .val (.int .i64 (q : Nat)), upd := [(k, ⟨ob.ty, ob.sz, false, splice ob.xs lo (rows.take q)⟩)] } := by
  refine ⟨⟨fun p hp => by simp at hp, rfl⟩, fun w0 S G hv a w hI hk hev K Q hK => ?_⟩
  have h1 := hev x1
  rw [hx1] at h1
  obtain ⟨g, cap, cur, c, he, hnc, hlo, hvs, ⟨e', fz, hg, hmk⟩, hncap, hcm, hcs⟩ := vw_open hI h1 hob hn
  obtain ⟨ti, hl, hsh⟩ := Option.map_eq_some_iff.1 hty
  have hu := TI.under_slice (hT _ _ hl) hsh
  obtain ⟨i, hi, his, hib, hiz⟩ := TI.info (hT _ _ hte)
  have hR := rowOf_ok hI (hev x2) hrow hprow
  rcases hR.2 with ⟨_, h0⟩ | ⟨ad, c2, hv2, hnc2, hcells⟩
  · rw [h0] at hr0; simp at hr0
  obtain ⟨news, hnl, hncell, hn1, hnr⟩ := row_cells hR.1 hcells
  have hql : q ≤ rows.length := by omega
  have hqs : q * ob.sz ≤ news.length := by rw [hnl, hsz]; exact Nat.mul_le_mul_right _ hql
  have htl : (news.take (q * ob.sz)).length = q * ob.sz := by rw [List.length_take]; omega
  have hrl : (rows.take q).length = q := by rw [List.length_take]; omega
  have hone : ∀ u ∈ news.take (q * ob.sz), u.oneCell' = true := fun u hu => hn1 u (List.mem_of_mem_take hu)
  obtain ⟨hf, hI2, eL, hF⟩ := row_write hI hob hdp (p := lo) (rows := rows.take q) (news := news.take (q * ob.sz)) (fun x hx => by rw [hsz]; exact hR.1 x (List.mem_of_mem_take hx)) (by rw [htl, hrl]) (fun i' j x d h2 h3 => by
    have hiq : i' < q := by have := (List.getElem?_eq_some_iff.1 h2).1; rw [hrl] at this; exact this
    rw [List.getElem?_take, if_pos hiq] at h2
    obtain ⟨u, hu1, hu2, hu3⟩ := hnr i' j x d h2 h3
    have hjs : j < ob.sz := by rw [hsz, ← hR.1 x (List.mem_of_getElem? h2)]; exact (List.getElem?_eq_some_iff.1 h3).1
    rw [← hsz] at hu1
    exact ⟨u, by rw [List.getElem?_take, if_pos (row_lt hiq hjs)]; exact hu1, hu2, by simpa [RepO] using hu3⟩) (by rw [hrl]; omega) hvs hg hmk hncap hcm hcs
  have hst := run_storeCells_fz P g (lo * ob.sz) e' fz (news.take (q * ob.sz)) 0 cur w hg hmk.ok (by rw [Nat.add_zero]; exact hf) hone
  simp only [Nat.add_zero] at hst
  have hfc := run_firstCells_some (P := P) w te.size q ad rows.length c2 (news.take (q * ob.sz)) (by rw [htl, hsz]) (fun j v hj => by
    rw [List.getElem?_take] at hj
    split at hj
    · exact hncell j v hj
    · cases hj)
  have hrun : (Builtin.copy_ #[t, t2] o.type #[a.eval x1, a.eval x2]).run P w = .ok (.int .i64 (q : Nat)) (w.setRow g (cur.toList.take (lo * ob.sz) ++ news.take (q * ob.sz) ++ cur.toList.drop (lo * ob.sz + (news.take (q * ob.sz)).length)).toArray) := by
    rw [he, hv2]
    have hmin : Nat.min rows.length n = q := hq.symm
    simp [Builtin.copy_, run_underlying hu, Builtin.lenOf, sizeOf, typeInfo, hi, his, hmin, hfc, hst, goInt]
  have hexec : (execOp a.eval o).run P w = .ok (.value (.int .i64 (q : Nat))) (w.setRow g (cur.toList.take (lo * ob.sz) ++ news.take (q * ob.sz) ++ cur.toList.drop (lo * ob.sz + (news.take (q * ob.sz)).length)).toArray) := by
    obtain ⟨dst, op, type, pos, after, guard⟩ := o
    simp only at ho hrun
    subst ho
    simp [execOp, resolve, invoke, builtin, hrun]
  unfold Oper.wp
  rw [hexec]
  refine hK _ hv _ ⟨hI2, rep_mk _, fun d u hr => ?_, fun _ _ _ _ => rfl⟩
  exact hr.mono (fun _ _ h => by show LOf hv (hset k _ hp) _ = _; rw [eL]; exact h) hF
end Go.Proofs.Ytjkhgcmdcjdipaa.Abs

/- Abs, part 32: capacity of a part of a local row; rows that do not overlap; a part that is the whole. -/
set_option linter.unusedVariables false
set_option linter.unusedSimpArgs false
namespace Go.Proofs.Ytjkhgcmdcjdipaa.Abs
open Go Go.RowKit
variable {P : Program} {T : TT} {C : Ctx}

/-- A part that is the whole row is the row. -/
theorem weak_vw_own {t h n : Nat} {sl : List (Nat × D)} {hp : HP} {nx : Nat} {ob : Ob} (ht : lk t sl = some (.vw h 0 n)) (hl : lk h hp = some ob) (hn : n = ob.xs.length) (h0 : 0 < n) : Weak C ⟨sl, hp, nx⟩ ⟨(t, .own h) :: sl, hp, nx⟩ := fun a w ⟨hv, hH, hk, hm, hpn, hS⟩ => by
  refine ⟨hv, hH, hk, hm, hpn, hS.defers, hS.size, fun t' d hd => ?_⟩
  rw [lk_cons] at hd
  split at hd
  · rename_i e
    subst e
    cases hd
    have h1 := hS.at_ _ _ ht
    obtain ⟨A, c, m, cap, s, aa, he, hL, hlo, hnc, hAc, hA⟩ := h1
    obtain ⟨g, haa, hA'⟩ := hA (by omega)
    rw [Nat.zero_mul] at hA'
    have hL' := hL
    rw [LOf_eq hl] at hL'
    simp only [Option.some.injEq, Prod.mk.injEq] at hL'
    obtain ⟨hvk, rfl⟩ := hL'
    obtain ⟨vs, hown, _, _⟩ := hH.obs h ob hl
    have hmn : m = n := by
      rcases hown.2 with ⟨h1, h0'⟩ | ⟨g', cap', cur, hvs, _⟩
      · omega
      · rw [hvk] at hvs
        simp only [Value.slice.injEq] at hvs
        omega
    refine ⟨ob.sz, ?_⟩
    show LOf hv hp h = some (_, ob.sz)
    rw [LOf_eq hl, hvk, he, haa, hA', hmn, show c = cap by omega]
  · exact hS.at_ t' d hd

/-- The capacity of a part of a local row: some number, at least as far as the row goes. -/
theorem sreg_cap {N : Nat} (hT : TOk P T) (hP : C.P = P) (hN : C.N = N) {ops l : List Oper} {t : Tmp} {x : Operand} {ty tb : TypeId} {pos : String} {af : Array Edge} {sl : List (Nat × D)} {hp : HP} {nx : Nat} {K : St → Prop} {k lo n : Nat} {ob : Ob} {e : TypeId}
    (ht : t < N) (hx : evD sl x = .vw k lo n) (hob : lk k hp = some ob) (hty : (lk ty T).map (fun ti : TI => ti.sh) = some (.slice e))
    (hK : ∀ c : Nat, ob.xs.length ≤ lo + c → c ≤ 9223372036854775807 → SReg C ops l ⟨(t, .val (.int .i64 (c : Nat))) :: sl, hp, nx⟩ K) :
    SReg C ops ({ dst := some t, op := .call ⟨.builtin .cap, #[x], #[ty]⟩, type := tb, pos := pos, after := af, guard := none } :: l) ⟨sl, hp, nx⟩ K := fun Q a w hI hQ => by
  subst hP
  obtain ⟨hv, hH, hk, hm, hpin, hS⟩ := hI
  simp only at hH hk hm hpin hS
  have hx' := evD_ok hS x
  rw [hx] at hx'
  obtain ⟨ti, hl, hsh⟩ := Option.map_eq_some_iff.1 hty
  have hu := TI.under_slice (hT _ _ hl) hsh
  obtain ⟨A, c, m, cap, s, aa, he, hL, hlo, hnc, hAc, hA⟩ := hx'
  rw [LOf_eq hob] at hL
  simp only [Option.some.injEq, Prod.mk.injEq] at hL
  obtain ⟨hvk, rfl⟩ := hL
  obtain ⟨vs, hown, _, _⟩ := hH.obs k ob hob
  have hmc : ob.xs.length ≤ cap := by
    rcases hown.2 with ⟨h1, h0'⟩ | ⟨g', cap', cur, hvs, _, _, h2, _⟩
    · omega
    · rw [hvk] at hvs
      simp only [Value.slice.injEq] at hvs
      omega
  refine wpList_step (fun K1 hK1 => ?_)
  simp only [Region.wanted, if_true]
  unfold Oper.wp
  have hrun : (execOp a.eval { dst := some t, op := .call ⟨.builtin .cap, #[x], #[ty]⟩, type := tb, pos := pos, after := af, guard := none }).run C.P w = .ok (.value (.int .i64 (c : Nat))) w := by
    simp [execOp, resolve, invoke, builtin, Builtin.cap_, run_underlying hu, he, goInt]
  rw [hrun]
  refine hK1 _ _ ?_
  refine hK c (by omega) (by have := hnc.2.1; simp [maxLen] at this; omega) Q _ w ⟨hv, hH, hk, hm, hpin, ?_⟩ hQ
  exact sinv_put hS (dst := some t) (fun t' h => by cases h; rw [hN]; exact ht) (d := .val (.int .i64 (c : Nat))) (v := .int .i64 (c : Nat)) (RepP.val _ : RepP w (FOf C.G hv hp w) (.val (.int .i64 (c : Nat))) _)

/-- Two local rows do not overlap. -/
theorem oprel_overlaps (hT : TOk P T) {o : Oper} {x1 x2 : Operand} {f : FuncId} {tys : Array TypeId} {tS tR : TypeId} (ho : o.op = .call ⟨.value (.func f), #[x1, x2], tys⟩)
    (hov : ∀ (args : Array Value) (w : World), (callFunc f args).run P w = ((Extern.SlicesOverlaps.overlaps #[tS, tS] #[tR] args).run P w).andThen fun v w' => .ok (.value v) w')
    {ev : Operand → D} {hp : HP} {nx h1 h2 lo n : Nat} {ob1 ob2 : Ob} {te : TI} (hx1 : ev x1 = .own h1) (hx2 : ev x2 = .vw h2 lo n) (hl1 : lk h1 hp = some ob1) (hl2 : lk h2 hp = some ob2) (hne : h1 ≠ h2) (hn1 : 0 < ob1.xs.length) (hn : 0 < n)
    (hty : (lk tS T).map (fun ti : TI => ti.sh) = some (.slice ob2.ty)) (hte : lk ob2.ty T = some te) (hsz : ob2.sz = te.size) (hpos : 0 < te.size) (hty1 : ob1.ty ≠ mkTy := by exact Nat.ne_of_beq_eq_false rfl) (hty2 : ob2.ty ≠ mkTy := by exact Nat.ne_of_beq_eq_false rfl) : OpRel P o ev hp nx { d := .val (.bool false) } := by
  refine ⟨⟨fun p hp => by simp at hp, rfl⟩, fun w0 S G hv a w hI hk hev K Q hK => ?_⟩
  have e1 := hev x1
  rw [hx1] at e1
  obtain ⟨s1, hL1⟩ := e1
  rw [LOf_eq hl1] at hL1
  simp only [Option.some.injEq, Prod.mk.injEq] at hL1
  obtain ⟨hv1, -⟩ := hL1
  have e2 := hev x2
  rw [hx2] at e2
  obtain ⟨g2, cap2, cur2, c2, he2, hnc2, hlo2, hvs2, ⟨e2', fz2, hg2, hmk2⟩, hncap2, _, hcs2⟩ := vw_open hI e2 hl2 hn
  obtain ⟨vs1, hown1, _, _⟩ := hI.obs h1 ob1 hl1
  rcases hown1.2 with ⟨_, h0⟩ | ⟨g1, cap1, cur1, hvs1, _, ⟨e1', fz1, hg1, hmk1⟩, hncap1, _, hcs1, _⟩
  · omega
  have hgne : g1 ≠ g2 := fun e => by
    rcases hI.inj h1 h2 ob1 ob2 hl1 hl2 hne with h3 | h3
    · rw [hvs1] at h3; cases h3
    · exact h3 (by rw [hvs1, hvs2, e]; rfl)
  obtain ⟨ti, hl, hsh⟩ := Option.map_eq_some_iff.1 hty
  have hu := TI.under_slice (hT _ _ hl) hsh
  obtain ⟨i, hi, his, hib, hiz⟩ := TI.info (hT _ _ hte)
  have hfz1 := hmk1.plain hty1
  have hfz2 := hmk2.plain hty2
  rw [hfz1.1, hfz1.2] at hg1
  rw [hfz2.1, hfz2.2] at hg2
  have hk2 : cur2.size ≠ 0 := by
    rw [hcs2]
    have : 0 < cap2 * ob2.sz := Nat.mul_pos (by omega) (by omega)
    omega
  have hex := Lib.run_overlaps_apart (P := P) w tS tR ob2.ty hu te.size (fun w => by simp [sizeOf, typeInfo, hi, his]) ⟨g1, 0, none⟩ ⟨g2, lo * ob2.sz, none⟩ ob1.xs.length cap1 n c2 hgne ob1.ty ob2.ty cur1.size cur2.size
    (by simp [World.shape?, hg1]) (by simp [World.shape?, hg2]) hk2 (by simp [World.frozen?, hg1]) (by simp [World.frozen?, hg1])
  have hcall : (callFunc f #[a.eval x1, a.eval x2]).run P w = .ok (.value (.bool false)) w := by
    rw [hov, ← hv1, hvs1, he2, hex]
    rfl
  have hexec : (execOp a.eval o).run P w = .ok (.value (.bool false)) w := by
    obtain ⟨dst, op, type, pos, after, guard⟩ := o
    simp only at ho
    subst ho
    have hc : a.eval (.func f) = .func (.func f) #[] #[] := rfl
    simp only [execOp, resolve, hc, Deferred.ofValue, Sem.run_bind, Sem.run_pure, Result.andThen_ok, invoke]
    simpa using hcall
  unfold Oper.wp
  rw [hexec]
  exact hK _ hv w (post_same hI (rep_mk _))

/-- s[l:h:m], where it is only asked whether the bounds are right. -/
theorem oprel_slice3 (hT : TOk P T) {o : Oper} {x lo hi mx : Operand} {t : TypeId} (ho : o.op = .slice t x (some lo) (some hi) (some mx)) {ev : Operand → D} {hp : HP} {nx k : Nat} {l h m : Int} {ob : Ob} {te : TI}
    (hx : ev x = .own k) (hlo : ev lo = .val (.int .i64 l)) (hhi : ev hi = .val (.int .i64 h)) (hmx : ev mx = .val (.int .i64 m)) (hob : lk k hp = some ob) (hty : (lk t T).map (fun ti : TI => ti.sh) = some (.slice ob.ty)) (hte : lk ob.ty T = some te)
    (h0 : 0 ≤ l) (h1 : l ≤ h) (h2 : h ≤ m) (h3 : m ≤ ob.xs.length) : OpRel P o ev hp nx { d := .any } := by
  refine ⟨⟨fun p hp => by simp at hp, rfl⟩, fun w0 S G hv a w hI hk hev K Q hK => ?_⟩
  have e1 := hev x
  rw [hx] at e1
  obtain ⟨s1, hL1⟩ := e1
  rw [LOf_eq hob] at hL1
  simp only [Option.some.injEq, Prod.mk.injEq] at hL1
  obtain ⟨hv1, -⟩ := hL1
  have vlo := hev lo
  rw [hlo] at vlo
  have vlo := rep_val vlo
  have vhi := hev hi
  rw [hhi] at vhi
  have vhi := rep_val vhi
  have vmx := hev mx
  rw [hmx] at vmx
  have vmx := rep_val vmx
  obtain ⟨ti, hl, hsh⟩ := Option.map_eq_some_iff.1 hty
  have hu := TI.under_slice (hT _ _ hl) hsh
  obtain ⟨i, hi', his, hib, hiz⟩ := TI.info (hT _ _ hte)
  obtain ⟨vs, hown, _, _⟩ := hI.obs k ob hob
  have hval : ∃ aa n cap, a.eval x = .slice aa n cap ∧ ob.xs.length ≤ cap := by
    rw [← hv1]
    rcases hown.2 with ⟨h5, h6⟩ | ⟨g, cap, cur, h5, _, _, h6, _⟩
    · exact ⟨_, _, _, h5, by omega⟩
    · exact ⟨_, _, _, h5, h6⟩
  obtain ⟨aa, n, cap, he, hcap⟩ := hval
  have hm0 : 0 ≤ m ∧ m ≤ (cap : Int) := ⟨by omega, by omega⟩
  have hh0 : 0 ≤ h ∧ h ≤ m := ⟨by omega, h2⟩
  have hrun : ∃ v, (execOp a.eval o).run P w = .ok (.value v) w := by
    obtain ⟨dst, op, type, pos, after, guard⟩ := o
    simp only at ho
    subst ho
    refine ⟨.slice (if m.toNat = l.toNat then aa else aa.map (·.add (l.toNat * i.size))) (h.toNat - l.toNat) (m.toNat - l.toNat), ?_⟩
    simp [execOp, Instr.sliceAt, Instr.slice, underlying, hu, he, vlo, vhi, vmx, Instr.sliceBounds, Instr.sliceBound, asIntOf, hm0, hh0.1, h0, h1, sizeOf, typeInfo, hi', show h ≤ max m 0 by omega, show l ≤ max h 0 by omega]
  obtain ⟨v, hrun⟩ := hrun
  unfold Oper.wp
  rw [hrun]
  exact hK _ hv w (post_same hI (RepP.any _ : RepP _ _ .any _))
end Go.Proofs.Ytjkhgcmdcjdipaa.Abs

/- Abs, part 33: a contract in other words; two handles change their places. -/
set_option linter.unusedVariables false
set_option linter.unusedSimpArgs false
namespace Go.Proofs.Ytjkhgcmdcjdipaa.Abs
open Go Go.RowKit
variable {P : Program} {T : TT} {C : Ctx}
theorem FnOk.sub {X Y : Type} {s : Spec X} {s' : Spec Y} {f : FuncId} (h : FnOk P f s) (g : ∀ y, s'.pre y → ∃ x, s.pre x ∧ s.args x = s'.args y ∧ s.obs x = s'.obs y ∧ s.out x = s'.out y ∧ s.new x = s'.new y ∧ s.res x = s'.res y) : FnOk P f s' := by
  refine ⟨h.1, fun y hy => ?_⟩
  obtain ⟨x, hp, ha, ho, hu, hn, hr⟩ := g y hy
  have := h.2 x hp
  rw [ha, ho, hu, hn, hr] at this
  exact this

/-! ### Two handles change their places -/
def swN (a b k : Nat) : Nat := if k = a then b else if k = b then a else k
theorem swN_swN (a b k : Nat) : swN a b (swN a b k) = k := by
  unfold swN
  by_cases h1 : k = a
  · subst h1
    by_cases h2 : b = k
    · simp [h2]
    · simp [h2]
  · by_cases h2 : k = b
    · subst h2
      simp [h1]
    · simp [h1, h2]
def swC (a b : Nat) : D → D
  | .own k => .own (swN a b k)
  | .vw k lo n => .vw (swN a b k) lo n
  | .cvw k i off es n => .cvw (swN a b k) i off es n
  | .ptr k i off => .ptr (swN a b k) i off
  | d => d
def swA (a b : Nat) : D → D
  | .agg cs => .agg (cs.map (swC a b))
  | .fn f fs cs => .fn f (fs.map (swC a b)) (cs.map (swC a b))
  | d => swC a b d
def swD (a b : Nat) : D → D
  | .tup ds => .tup (ds.map (swA a b))
  | d => swA a b d
def swO (a b : Nat) (o : Ob) : Ob := if o.deep then { o with xs := o.xs.map (·.map (swC a b)) } else o
def swHP (a b : Nat) : HP → HP
  | [] => []
  | (k, o) :: l => (swN a b k, swO a b o) :: swHP a b l
def swSl (a b : Nat) : List (Nat × D) → List (Nat × D)
  | [] => []
  | (t, d) :: l => (t, swD a b d) :: swSl a b l
theorem lk_swHP {a b : Nat} : ∀ {hp : HP} {k : Nat}, lk k (swHP a b hp) = (lk (swN a b k) hp).map (swO a b)
  | [], k => rfl
  | (k0, o) :: l, k => by
    simp only [swHP, lk_cons]
    by_cases e : k = swN a b k0
    · subst e
      rw [swN_swN]
      simp
    · have e2 : swN a b k ≠ k0 := fun h => e (by rw [← h, swN_swN])
      rw [if_neg e, if_neg e2]
      exact lk_swHP
theorem lk_swSl {a b : Nat} : ∀ {sl : List (Nat × D)} {t : Nat}, lk t (swSl a b sl) = (lk t sl).map (swD a b)
  | [], t => rfl
  | (t0, d) :: l, t => by
    simp only [swSl, lk_cons]
    split
    · rfl
    · exact lk_swSl
section sw
variable {L L' : LF} {w : World} {F F' : Nat → Prop} {a b : Nat}
theorem RepC.swap (hL : ∀ k x, L k = some x → L' (swN a b k) = some x) (hF : ∀ c, F c → F' c) {d : D} {v : Value} (h : RepC L w F d v) : RepC L' w F' (swC a b d) v := by
  have hF' : ∀ c, F c → F' c ∧ w.heap[c]? = w.heap[c]? := fun c hc => ⟨hF c hc, rfl⟩
  cases d
  case own k => obtain ⟨s, hs⟩ := h; exact ⟨s, hL _ _ hs⟩
  case vw k lo n => obtain ⟨A, c, m, cap, s, aa, e, hl, r⟩ := h; exact ⟨A, c, m, cap, s, aa, e, hL _ _ hl, r⟩
  case cvw k i off es n => obtain ⟨g, m, cap, s, c, hl, r⟩ := h; exact ⟨g, m, cap, s, c, hL _ _ hl, r⟩
  case ptr k i off => obtain ⟨g, m, cap, s, hl, r⟩ := h; exact ⟨g, m, cap, s, hL _ _ hl, r⟩
  case rptr => obtain ⟨ad, e, hrow⟩ := h; exact ⟨ad, e, hrow.mono hF'⟩
  case agg => exact h.elim
  case tup => exact h.elim
  case fn => exact h.elim
  all_goals exact RepP.mono hF' h
theorem RepL.swap (hL : ∀ k x, L k = some x → L' (swN a b k) = some x) (hF : ∀ c, F c → F' c) : ∀ {ds : List D} {vs : List Value}, RepL L w F ds vs → RepL L' w F' (ds.map (swC a b)) vs
  | [], [], _ => trivial
  | d :: ds, v :: vs, h => ⟨h.1.swap hL hF, RepL.swap hL hF h.2⟩
  | [], _ :: _, h => h.elim
  | _ :: _, [], h => h.elim
theorem swA_rep (hL : ∀ k x, L k = some x → L' (swN a b k) = some x) (hF : ∀ c, F c → F' c) {d : D} {v : Value} (h : RepA L w F d v) : RepA L' w F' (swA a b d) v := by
  have one : ∀ d, RepC L w F d v → RepA L' w F' (swC a b d) v := fun d h => by
    have := RepC.swap (a := a) (b := b) hL hF h
    cases d <;> first | exact this | exact h.elim
  cases d
  case agg cs => obtain ⟨vs, e, hr, ho⟩ := h; exact ⟨vs, e, hr.swap hL hF, ho⟩
  case fn f fs cs => obtain ⟨us, vs, e, hr1, hr⟩ := h; exact ⟨us, vs, e, hr1.swap hL hF, hr.swap hL hF⟩
  all_goals (simp only [swA]; exact one _ h)
theorem swAL_rep (hL : ∀ k x, L k = some x → L' (swN a b k) = some x) (hF : ∀ c, F c → F' c) : ∀ {ds : List D} {vs : List Value}, RepAL L w F ds vs → RepAL L' w F' (ds.map (swA a b)) vs
  | [], [], _ => trivial
  | d :: ds, v :: vs, h => ⟨swA_rep hL hF h.1, swAL_rep hL hF h.2⟩
  | [], _ :: _, h => h.elim
  | _ :: _, [], h => h.elim
theorem swD_rep (hL : ∀ k x, L k = some x → L' (swN a b k) = some x) (hF : ∀ c, F c → F' c) {d : D} {v : Value} (h : Rep L w F d v) : Rep L' w F' (swD a b d) v := by
  have one : ∀ d, RepA L w F d v → Rep L' w F' (swA a b d) v := fun d h => repA_D (swA_rep hL hF h)
  cases d
  case tup ds => obtain ⟨vs, e, hr⟩ := h; exact ⟨vs, e, swAL_rep hL hF hr⟩
  all_goals (simp only [swD]; exact one _ h)
end sw
theorem swO_sz (a b : Nat) (o : Ob) : (swO a b o).sz = o.sz := by unfold swO; split <;> rfl
theorem weak_swap (a b : Nat) {sl : List (Nat × D)} {hp : HP} {nx : Nat} (ha : C.m ≤ a) (hb : C.m ≤ b) (ha2 : a < nx) (hb2 : b < nx) : Weak C ⟨sl, hp, nx⟩ ⟨swSl a b sl, swHP a b hp, nx⟩ := fun act w ⟨hv, hH, hk, hm, hpn, hS⟩ => by
  have hback : ∀ k ob, lk k (swHP a b hp) = some ob → ∃ o, lk (swN a b k) hp = some o ∧ ob = swO a b o := fun k ob hl => by
    rw [lk_swHP] at hl
    obtain ⟨o, h1, h2⟩ := Option.map_eq_some_iff.1 hl
    exact ⟨o, h1, h2.symm⟩
  have hL : ∀ k x, LOf hv hp k = some x → LOf (fun k => hv (swN a b k)) (swHP a b hp) (swN a b k) = some x := fun k x hx => by
    simp only [LOf, Option.map_eq_some_iff] at hx ⊢
    obtain ⟨ob, hob, rfl⟩ := hx
    refine ⟨swO a b ob, by rw [lk_swHP, swN_swN, hob]; rfl, ?_⟩
    rw [swN_swN, swO_sz]
  have hF : ∀ c, FOf C.G hv hp w c → FOf C.G (fun k => hv (swN a b k)) (swHP a b hp) w c := fun c hc => ⟨hc.1, fun k ob hl => by
    obtain ⟨o, ho, _⟩ := hback k ob hl
    exact hc.2 _ o ho⟩
  have hne : ∀ {k k'}, k ≠ k' → swN a b k ≠ swN a b k' := fun {k k'} h e => h (by have h2 := congrArg (swN a b) e; rwa [swN_swN, swN_swN] at h2)
  have hswlt : ∀ k, swN a b k < C.m → swN a b k = k := fun k h => by
    unfold swN at h ⊢
    split at h
    · simp only at hm; omega
    · split at h
      · simp only at hm; omega
      · rename_i h1 h2; rw [if_neg h1, if_neg h2]
  refine ⟨fun k => hv (swN a b k), ⟨fun k ob hl => ?_, fun k k' ob ob' hl hl' hkk => ?_, fun k ob c hl hc => ?_, hH.keeps, hH.gnew⟩, fun k ob hl => ?_, hm, fun k ob hl hlt => ?_, hS.defers, hS.size, fun t d hl => ?_⟩
  · obtain ⟨o, ho, rfl⟩ := hback k ob hl
    obtain ⟨us, h1, h2, h3⟩ := hH.obs _ o ho
    unfold swO
    cases hd : o.deep with
    | false =>
      simp only [Bool.false_eq_true, if_false]
      refine ⟨us, h1, h2, fun i j x d hi hj => ?_⟩
      obtain ⟨u, hu, h4, hr⟩ := h3 i j x d hi hj
      refine ⟨u, hu, h4, ?_⟩
      rw [hd] at hr ⊢
      simp only [RepO, Bool.false_eq_true, if_false] at hr ⊢
      exact hr.mono (fun c hc => ⟨hF c hc, rfl⟩)
    | true =>
      simp only [if_true]
      refine ⟨us, by simpa using h1, fun x hx => ?_, fun i j x d hi hj => ?_⟩
      · obtain ⟨y, hy, rfl⟩ := List.mem_map.1 hx
        simpa using h2 y hy
      · simp only [List.getElem?_map, Option.map_eq_some_iff] at hi
        obtain ⟨y, hy, rfl⟩ := hi
        simp only [List.getElem?_map, Option.map_eq_some_iff] at hj
        obtain ⟨e, he, rfl⟩ := hj
        obtain ⟨u, hu, h4, hr⟩ := h3 i j y e hy he
        refine ⟨u, hu, h4, ?_⟩
        simp only [RepO, hd, if_true] at hr ⊢
        exact hr.swap hL hF
  · obtain ⟨o, ho, _⟩ := hback k ob hl
    obtain ⟨o', ho', _⟩ := hback k' ob' hl'
    exact hH.inj _ _ o o' ho ho' (hne hkk)
  · obtain ⟨o, ho, _⟩ := hback k ob hl
    exact hH.base _ o c ho hc
  · obtain ⟨o, ho, _⟩ := hback k ob hl
    have := hk _ o ho
    simp only at this ⊢
    unfold swN at this
    split at this
    · omega
    · split at this
      · omega
      · exact this
  · obtain ⟨o, ho, _⟩ := hback k ob hl
    have e : swN a b k = k := by
      unfold swN
      rw [if_neg (by omega), if_neg (by omega)]
    rw [e] at ho
    show hv (swN a b k) = C.hv0 k
    rw [e]
    exact hpn k o ho hlt
  · rw [lk_swSl] at hl
    obtain ⟨d0, h1, rfl⟩ := Option.map_eq_some_iff.1 hl
    exact swD_rep hL hF (hS.at_ t d0 h1)
end Go.Proofs.Ytjkhgcmdcjdipaa.Abs

/- Abs, part 34: the order in which objects are told does not matter. -/
set_option linter.unusedVariables false
set_option linter.unusedSimpArgs false
namespace Go.Proofs.Ytjkhgcmdcjdipaa.Abs
open Go Go.RowKit
variable {P : Program} {T : TT} {C : Ctx}
def SubHP (hp : HP) : HP → Prop
  | [] => True
  | (k, o) :: l => lk k hp = some o ∧ SubHP hp l
theorem subhp_nil {hp : HP} : SubHP hp [] := trivial
theorem subhp_cons {hp l : HP} {k : Nat} {o : Ob} (h : lk k hp = some o) (hl : SubHP hp l) : SubHP hp ((k, o) :: l) := ⟨h, hl⟩
theorem subHP_lk {hp : HP} : ∀ {l : HP}, SubHP hp l → ∀ k o, lk k l = some o → lk k hp = some o
  | (k0, o0) :: l, h, k, o, hl => by
    rw [lk_cons] at hl
    split at hl
    · rename_i e; subst e; cases hl; exact h.1
    · exact subHP_lk h.2 k o hl
  | [], _, k, o, hl => by simp [lk] at hl
theorem weak_perm {sl : List (Nat × D)} {hp hp' : HP} {nx : Nat} (h1 : SubHP hp hp') (h2 : SubHP hp' hp) : Weak C ⟨sl, hp, nx⟩ ⟨sl, hp', nx⟩ := fun a w ⟨hv, hH, hk, hm, hpn, hS⟩ => by
  have e : ∀ k, lk k hp' = lk k hp := fun k => by
    cases h : lk k hp with
    | some o => exact subHP_lk h2 k o h
    | none =>
      cases h' : lk k hp' with
      | none => rfl
      | some o => rw [subHP_lk h1 k o h'] at h; cases h
  have eL : LOf hv hp' = LOf hv hp := by funext k; simp only [LOf, e]
  have eF : FOf C.G hv hp' w = FOf C.G hv hp w := by funext b; simp only [FOf, e]
  refine ⟨hv, ⟨fun k ob hl => ?_, fun k k' ob ob' hl hl' hne => ?_, fun k ob c hl hc => ?_, hH.keeps, hH.gnew⟩, fun k ob hl => ?_, hm, fun k ob hl hlt => ?_, ?_⟩
  · simp only at hl ⊢
    rw [eL, eF]
    exact hH.obs k ob (by rw [← e]; exact hl)
  · exact hH.inj k k' ob ob' (by rw [← e]; exact hl) (by rw [← e]; exact hl') hne
  · exact hH.base k ob c (by rw [← e]; exact hl) hc
  · exact hk k ob (by rw [← e]; exact hl)
  · exact hpn k ob (by rw [← e]; exact hl) hlt
  · simp only at hS ⊢
    rw [eL, eF]
    exact hS
end Go.Proofs.Ytjkhgcmdcjdipaa.Abs

/- Abs, part 35: a local object is no longer written to: its row is read only from here on; functions that take no objects; calls that hand back rows of rows. -/
set_option linter.unusedVariables false
set_option linter.unusedSimpArgs false
namespace Go.Proofs.Ytjkhgcmdcjdipaa.Abs
open Go Go.RowKit
variable {P : Program} {T : TT} {C : Ctx}

/-! ### Freezing -/
def frzC (h sz : Nat) (ys : List (List D)) : D → D
  | .own k => if k = h then .sl sz ys else .own k
  | d => killC h d
def frz (h sz : Nat) (ys : List (List D)) : D → D
  | .agg cs => .agg (cs.map (frzC h sz ys))
  | .fn f fs cs => .fn f (fs.map (frzC h sz ys)) (cs.map (frzC h sz ys))
  | .tup _ => .any
  | d => frzC h sz ys d
def frzO (h sz : Nat) (ys : List (List D)) (o : Ob) : Ob := if o.deep then { o with xs := o.xs.map (·.map (frzC h sz ys)) } else o
def frzHP (h sz : Nat) (ys : List (List D)) : HP → HP
  | [] => []
  | (k, o) :: l => if k = h then frzHP h sz ys l else (k, frzO h sz ys o) :: frzHP h sz ys l
def frzSl (h sz : Nat) (ys : List (List D)) : List (Nat × D) → List (Nat × D)
  | [] => []
  | (t, d) :: l => (t, frz h sz ys d) :: frzSl h sz ys l
theorem lk_frzHP {h sz : Nat} {ys : List (List D)} : ∀ {hp : HP} {k : Nat}, lk k (frzHP h sz ys hp) = if k = h then none else (lk k hp).map (frzO h sz ys)
  | [], k => by simp [frzHP, lk]
  | (k0, o) :: l, k => by
    simp only [frzHP]
    by_cases e : k0 = h
    · rw [if_pos e, lk_frzHP, lk_cons]
      by_cases e2 : k = h
      · simp [e2]
      · rw [if_neg e2, if_neg e2, if_neg (fun h' => e2 (h'.trans e))]
    · rw [if_neg e, lk_cons, lk_cons, lk_frzHP]
      by_cases e2 : k = k0
      · subst e2; simp [e]
      · rw [if_neg e2, if_neg e2]
theorem lk_frzSl {h sz : Nat} {ys : List (List D)} : ∀ {sl : List (Nat × D)} {t : Nat}, lk t (frzSl h sz ys sl) = (lk t sl).map (frz h sz ys)
  | [], t => rfl
  | (t0, d) :: l, t => by
    simp only [frzSl, lk_cons]
    split
    · rfl
    · exact lk_frzSl
section frz
variable {L L' : LF} {w : World} {F F' : Nat → Prop} {h sz : Nat} {ys : List (List D)}
theorem RepC.frozen (hL : ∀ k x, k ≠ h → L k = some x → L' k = some x) (hF : ∀ b, F b → F' b ∧ w.heap[b]? = w.heap[b]?) (hown : ∀ v s, L h = some (v, s) → RepP w F' (.sl sz ys) v) {d : D} {v : Value} (hr : RepC L w F d v) : RepC L' w F' (frzC h sz ys d) v := by
  cases d
  case own k =>
    simp only [frzC]
    obtain ⟨s, hs⟩ := hr
    split
    · rename_i e; subst e; exact hown v s hs
    · rename_i e; exact ⟨s, hL _ _ e hs⟩
  all_goals exact RepC.killed hL hF hr
theorem RepL.frozen (hL : ∀ k x, k ≠ h → L k = some x → L' k = some x) (hF : ∀ b, F b → F' b ∧ w.heap[b]? = w.heap[b]?) (hown : ∀ v s, L h = some (v, s) → RepP w F' (.sl sz ys) v) : ∀ {ds : List D} {vs : List Value}, RepL L w F ds vs → RepL L' w F' (ds.map (frzC h sz ys)) vs
  | [], [], _ => trivial
  | d :: ds, v :: vs, hh => ⟨hh.1.frozen hL hF hown, RepL.frozen hL hF hown hh.2⟩
  | [], _ :: _, hh => hh.elim
  | _ :: _, [], hh => hh.elim
theorem frz_rep (hL : ∀ k x, k ≠ h → L k = some x → L' k = some x) (hF : ∀ b, F b → F' b ∧ w.heap[b]? = w.heap[b]?) (hown : ∀ v s, L h = some (v, s) → RepP w F' (.sl sz ys) v) {d : D} {v : Value} (hr : Rep L w F d v) : Rep L' w F' (frz h sz ys d) v := by
  have one : ∀ d, RepC L w F d v → Rep L' w F' (frzC h sz ys d) v := fun d hr => repC_oneD (hr.frozen hL hF hown)
  cases d
  case agg cs => obtain ⟨vs, e, hr, ho⟩ := hr; exact ⟨vs, e, hr.frozen hL hF hown, ho⟩
  case fn f fs cs => obtain ⟨us, vs, e, hr1, hr⟩ := hr; exact ⟨us, vs, e, hr1.frozen hL hF hown, hr.frozen hL hF hown⟩
  case tup => exact (RepP.any v : RepP w F' .any v)
  all_goals (simp only [frz]; exact one _ hr)
end frz
theorem frzO_sz (h sz : Nat) (ys : List (List D)) (o : Ob) : (frzO h sz ys o).sz = o.sz := by unfold frzO; split <;> rfl
theorem weak_frz (h : Nat) {sl : List (Nat × D)} {hp : HP} {nx : Nat} {ob : Ob} (hS0 : C.S = []) (hG : ∀ b, C.w0.heap.size ≤ b → C.G b) (hl : lk h hp = some ob) (hd : ob.deep = false ∨ ∀ x ∈ ob.xs, x.all hf = true) : Weak C ⟨sl, hp, nx⟩ ⟨frzSl h ob.sz ob.xs sl, frzHP h ob.sz ob.xs hp, nx⟩ := fun a w ⟨hv, hH, hk, hm, hpn, hS⟩ => by
  have hold : ∀ k o, lk k (frzHP h ob.sz ob.xs hp) = some o → k ≠ h ∧ ∃ o0, lk k hp = some o0 ∧ o = frzO h ob.sz ob.xs o0 := fun k o hlk => by
    rw [lk_frzHP] at hlk
    split at hlk
    · cases hlk
    · rename_i hne
      obtain ⟨o0, h1, h2⟩ := Option.map_eq_some_iff.1 hlk
      exact ⟨hne, o0, h1, h2.symm⟩
  have hL : ∀ k x, k ≠ h → LOf hv hp k = some x → LOf hv (frzHP h ob.sz ob.xs hp) k = some x := fun k x hne hx => by
    simp only [LOf, Option.map_eq_some_iff] at hx ⊢
    obtain ⟨o, ho, rfl⟩ := hx
    exact ⟨frzO h ob.sz ob.xs o, by rw [lk_frzHP, if_neg hne, ho]; rfl, by rw [frzO_sz]⟩
  have hF : ∀ b, FOf C.G hv hp w b → FOf C.G hv (frzHP h ob.sz ob.xs hp) w b ∧ w.heap[b]? = w.heap[b]? := fun b hb => ⟨⟨hb.1, fun k o hlk => by
    obtain ⟨_, o0, ho, _⟩ := hold k o hlk
    exact hb.2 k o0 ho⟩, rfl⟩
  have hown : ∀ v s, LOf hv hp h = some (v, s) → RepP w (FOf C.G hv (frzHP h ob.sz ob.xs hp) w) (.sl ob.sz ob.xs) v := fun v s hvs => by
    rw [LOf_eq hl] at hvs
    simp only [Option.some.injEq, Prod.mk.injEq] at hvs
    obtain ⟨rfl, _⟩ := hvs
    have hrow := own_row (hH.obs h ob hl)
    refine row_toP hrow (fun hdp x hx => ?_) (fun b hb => (hF b hb).1) (fun ad n c he hne => ?_) (own_cap hH hl)
    · rcases hd with h1 | h1
      · rw [hdp] at h1; cases h1
      · exact h1 x hx
    · obtain ⟨vs, ho, _⟩ := hH.obs h ob hl
      obtain ⟨g, cap, hg⟩ := own_form (hH.obs h ob hl) hne
      rw [hg] at he
      cases he
      have hob : (hv h).ownBlock = some g := by rw [hg]; rfl
      refine ⟨⟨⟨(ho.lt g hob).2, hG g ?_⟩, fun k o hlk hkb => ?_⟩, rfl⟩
      · rcases hH.base h ob g hl hob with h1 | h1
        · exact h1
        · rw [hS0] at h1; simp at h1
      · obtain ⟨hne2, o0, ho0, _⟩ := hold k o hlk
        rcases hH.inj k h o0 ob ho0 hl hne2 with h1 | h1
        · rw [h1] at hkb; cases hkb
        · exact h1 (hkb.trans hob.symm)
  refine ⟨hv, ⟨fun k o hlk => ?_, fun k k' o o' hlk hlk' hne => ?_, fun k o b hlk hb => ?_, hH.keeps, hH.gnew⟩, fun k o hlk => ?_, hm, fun k o hlk hlt => ?_, hS.defers, hS.size, fun t d hlk => ?_⟩
  · obtain ⟨hne, o0, ho, rfl⟩ := hold k o hlk
    obtain ⟨us, h1, h2, h3⟩ := hH.obs k o0 ho
    unfold frzO
    cases hdp : o0.deep with
    | false =>
      simp only [Bool.false_eq_true, if_false]
      refine ⟨us, h1, h2, fun i j x d hi hj => ?_⟩
      obtain ⟨u, hu, h4, hr⟩ := h3 i j x d hi hj
      refine ⟨u, hu, h4, ?_⟩
      rw [hdp] at hr ⊢
      simp only [RepO, Bool.false_eq_true, if_false] at hr ⊢
      exact hr.mono hF
    | true =>
      simp only [if_true]
      refine ⟨us, by simpa using h1, fun x hx => ?_, fun i j x d hi hj => ?_⟩
      · obtain ⟨y, hy, rfl⟩ := List.mem_map.1 hx
        simpa using h2 y hy
      · simp only [List.getElem?_map, Option.map_eq_some_iff] at hi
        obtain ⟨y, hy, rfl⟩ := hi
        simp only [List.getElem?_map, Option.map_eq_some_iff] at hj
        obtain ⟨e, he, rfl⟩ := hj
        obtain ⟨u, hu, h4, hr⟩ := h3 i j y e hy he
        refine ⟨u, hu, h4, ?_⟩
        simp only [RepO, hdp, if_true] at hr ⊢
        exact hr.frozen hL hF hown
  · obtain ⟨_, o0, ho, _⟩ := hold k o hlk
    obtain ⟨_, o1, ho', _⟩ := hold k' o' hlk'
    exact hH.inj k k' o0 o1 ho ho' hne
  · obtain ⟨_, o0, ho, _⟩ := hold k o hlk
    exact hH.base k o0 b ho hb
  · obtain ⟨_, o0, ho, _⟩ := hold k o hlk
    exact hk k o0 ho
  · obtain ⟨_, o0, ho, _⟩ := hold k o hlk
    exact hpn k o0 ho hlt
  · rw [lk_frzSl] at hlk
    obtain ⟨d0, h1, rfl⟩ := Option.map_eq_some_iff.1 hlk
    exact frz_rep hL hF hown (hS.at_ t d0 h1)
/-- Cells that may bear handles, or may not. -/
theorem weak_deep (h : Nat) (dp : Bool) {sl : List (Nat × D)} {hp : HP} {nx : Nat} {ob : Ob} (hl : lk h hp = some ob) (hd : dp = false → ob.deep = true → ∀ x ∈ ob.xs, x.all hf = true) : Weak C ⟨sl, hp, nx⟩ ⟨sl, hset h ⟨ob.ty, ob.sz, dp, ob.xs⟩ hp, nx⟩ := fun a w ⟨hv, hH, hk, hm, hpn, hS⟩ => by
  obtain ⟨vs, h1, h2, h3⟩ := hH.obs h ob hl
  obtain ⟨hI2, eL, eF⟩ := hH.redesc (ob' := ⟨ob.ty, ob.sz, dp, ob.xs⟩) hl rfl ⟨vs, h1, h2, fun i j x d hi hj => by
    obtain ⟨u, hu, h4, hr⟩ := h3 i j x d hi hj
    refine ⟨u, hu, h4, ?_⟩
    cases dp with
    | true => simp only [RepO, if_true]; exact hr.toC
    | false =>
      simp only [RepO, Bool.false_eq_true, if_false]
      cases hod : ob.deep with
      | false => rw [hod] at hr; simpa [RepO] using hr
      | true => exact repP_of_hf (List.all_eq_true.1 (hd rfl hod x (List.mem_of_getElem? hi)) d (List.mem_of_getElem? hj)) hr.toC⟩
  refine ⟨hv, hI2, fun k o hlk => ?_, hm, fun k o hlk hlt => ?_, ?_⟩
  · simp only at hlk ⊢
    rw [lk_hset] at hlk
    split at hlk
    · rename_i e; subst e; exact hk k ob hl
    · exact hk k o hlk
  · simp only at hlk
    rw [lk_hset] at hlk
    split at hlk
    · rename_i e; subst e; exact hpn k ob hl hlt
    · exact hpn k o hlk hlt
  · simp only at hS ⊢
    rw [eL, eF]
    exact hS

/-! ### Functions that take no objects -/
theorem hinv_S {w0 : World} {S : List Nat} {G : Nat → Prop} {hv : Nat → Value} {hp : HP} {w : World} (h : HInv w0 [] G hv hp w) (ht : TabAt S w0) : HInv w0 S G hv hp w := by
  refine ⟨h.obs, h.inj, fun k o b hl hb => ?_, ⟨h.keeps.os, h.keeps.tape, h.keeps.output, h.keeps.size, fun k hk _ => h.keeps.block k hk (by simp), ht⟩, h.gnew⟩
  rcases h.base k o b hl hb with h1 | h1
  · exact .inl h1
  · simp at h1
theorem fn_ok_S {X : Type} {s : Spec X} {f : FuncId} {fn : Func} {c : Code} (n m : Nat) (hT : TOk P T) (hf : P.funcs[f]? = some fn) (hb : fn.body = some c) (hent : ∀ args w, (callFunc f args).run P w = .ok (.enter f args) w)
    (hargs : ∀ x, (s.args x).length = n) (hobs : ∀ x, (s.obs x).length = m) (hout : ∀ x, (s.out x).map Ob.sz = (s.obs x).map Ob.sz)
    (h : ∀ x, s.pre x → ∀ C : Ctx, C.P = P → C.N = n + (fn.ntmps - n) → C.m = m → (∀ b, C.w0.heap.size ≤ b → C.G b) → C.S = [] → awp C c (bodyA T fn.results.toList s m x) ⟨numD 0 (s.args x), numbered 0 (s.obs x), m⟩) : ∀ x, s.pre x → ∀ (w : World) (G : Nat → Prop) (hv : Nat → Value) (vs : List Value), (∀ b, w.heap.size ≤ b → G b) →
    HInv w [] G hv (numbered 0 (s.obs x)) w → RepAL (LOf hv (numbered 0 (s.obs x))) w (FOf G hv (numbered 0 (s.obs x)) w) (s.args x) vs →
    Calls P f vs.toArray w (fun e w' => ∃ v hv', e = .returned v ∧ HInv w [] G hv' (numbered 0 (s.out x ++ s.new x)) w' ∧ (∀ i, i < (s.obs x).length → hv' i = hv i) ∧
      Rep (LOf hv' (numbered 0 (s.out x ++ s.new x))) w' (FOf G hv' (numbered 0 (s.out x ++ s.new x)) w') (s.res x) v) := by
  intro x hx w G hv vs hG hI hA
  have hn : vs.length = n := by rw [← repAL_length hA, hargs]
  refine calls_of_wp hf hb ?_
  have hInv : Inv ⟨P, n + (fn.ntmps - n), w, [], G, m, hv⟩ ⟨numD 0 (s.args x), numbered 0 (s.obs x), m⟩ { tmps := vs.toArray ++ Array.replicate (fn.ntmps - vs.toArray.size) undef, defers := [] } w := by
    refine ⟨hv, hI, fun h ob hl => ?_, Nat.le_refl _, fun _ _ _ _ => rfl, ⟨rfl, by simp [hn], fun t d hl => ?_⟩⟩
    · rw [lk_numbered] at hl
      simp only [Nat.zero_le, if_true, Nat.sub_zero] at hl
      have := (List.getElem?_eq_some_iff.1 hl).1
      rw [hobs] at this
      exact this
    · rw [lk_numD] at hl
      simp only [Nat.zero_le, if_true, Nat.sub_zero] at hl
      obtain ⟨u, hu, hr⟩ := repAL_get hA t d hl
      have htl : t < vs.length := (List.getElem?_eq_some_iff.1 hu).1
      have : (vs.toArray ++ Array.replicate (fn.ntmps - vs.toArray.size) undef).getD t undef = u := by
        rw [Array.getD_eq_getD_getElem?, Array.getElem?_append_left (by simpa using htl)]
        simp [hu]
      rw [this]
      exact repA_D hr
  refine wp_mono (h x hx ⟨P, n + (fn.ntmps - n), w, [], G, m, hv⟩ rfl rfl rfl hG rfl _ w hInv) (fun e a' w' ⟨st', h1, h2⟩ => ?_)
  obtain ⟨hv', hH, hk, hmn, hpin, hS⟩ := h2
  have fin : Fin T fn.results.toList s m x st' → a'.defers = [] ∧ ∃ v, (results fn a'.tmps).run P w' = .ok v w' ∧ ∃ v0 hv'', Ending.returned v = .returned v0 ∧ HInv w [] G hv'' (numbered 0 (s.out x ++ s.new x)) w' ∧ (∀ i, i < (s.obs x).length → hv'' i = hv i) ∧
      Rep (LOf hv'' (numbered 0 (s.out x ++ s.new x))) w' (FOf G hv'' (numbered 0 (s.out x ++ s.new x)) w') (s.res x) v0 := fun ⟨d, ks0, hd, hren, hobj, hnd⟩ => by
    obtain ⟨v, hrun, hrep⟩ := outD_ok hT hH hS hd
    obtain ⟨ks, hks⟩ : ∃ ks, ks = List.range m ++ ks0 := ⟨_, rfl⟩
    rw [← hks] at hren hobj hnd
    obtain ⟨hkl, hget⟩ := objs_get hobj
    have hlk : ∀ i o, lk i (numbered 0 (s.out x ++ s.new x)) = some o → ∃ k ob, ks[i]? = some k ∧ lk k st'.hp = some ob ∧ Fits ob o := fun i o hi => by
      rw [lk_numbered] at hi
      simp only [Nat.zero_le, if_true, Nat.sub_zero] at hi
      exact hget i o hi
    have hgd : ∀ i k, ks[i]? = some k → ks.getD i 0 = k := fun i k h => by simp [List.getD, h]
    have hF : ∀ b, FOf G hv' st'.hp w' b → FOf G (fun i => hv' (ks.getD i 0)) (numbered 0 (s.out x ++ s.new x)) w' b := fun b hb => ⟨hb.1, fun i o hi => by
      obtain ⟨k, ob, hk, hob, _⟩ := hlk i o hi
      simp only [hgd i k hk]
      exact hb.2 k ob hob⟩
    have hL : ∀ (i k : Nat) y, ks[i]? = some k → LOf hv' st'.hp k = some y → LOf (fun i => hv' (ks.getD i 0)) (numbered 0 (s.out x ++ s.new x)) i = some y := fun i k y hk hy => by
      have hil : i < ks.length := (List.getElem?_eq_some_iff.1 hk).1
      have h3 : ∃ o, (s.out x ++ s.new x)[i]? = some o := ⟨_, List.getElem?_eq_getElem (by omega)⟩
      obtain ⟨o, h3⟩ := h3
      obtain ⟨k', ob, hk', hob, hfit⟩ := hget i o h3
      rw [hk] at hk'
      cases hk'
      rw [LOf_eq hob] at hy
      have h4 : lk i (numbered 0 (s.out x ++ s.new x)) = some o := by rw [lk_numbered]; simpa using h3
      rw [LOf_eq h4]
      cases hy
      simp only [hgd i k hk, hfit.2.1]
    refine ⟨hS.defers, v, hrun, v, fun i => hv' (ks.getD i 0), rfl, ⟨fun i o hi => ?_, fun i j o o' hi hj hne => ?_, fun i o b hi hb => ?_, hH.keeps, hH.gnew⟩, fun i hi => ?_, ren_back hL hF hren hrep⟩
    · obtain ⟨k, ob, hk, hob, h4, h5, h6, h7, h8⟩ := hlk i o hi
      obtain ⟨us, ho, hg, hc⟩ := hH.obs k ob hob
      refine ⟨us, by rw [← h4, ← h5, ← h6, hgd i k hk]; exact ho, by rw [← h5, ← h6]; exact hg, fun a b y e ha hb => ?_⟩
      rw [← h6] at ha
      obtain ⟨u, hu, hone, hr⟩ := hc a b y e ha hb
      refine ⟨u, by rw [← h5]; exact hu, hone, ?_⟩
      have hp : RepP w' (FOf G hv' st'.hp w') e u := by
        rcases h8 with h8 | h8
        · simpa [RepO, h8] using hr
        · have := List.all_eq_true.1 (h8 y (by rw [← h6]; exact List.mem_of_getElem? ha)) e (List.mem_of_getElem? hb)
          exact repP_of_hf this hr.toC
      rw [h7]
      simp only [RepO, Bool.false_eq_true, if_false]
      exact hp.mono (fun b hb => ⟨hF b hb, rfl⟩)
    · obtain ⟨k, ob, hk, hob, _⟩ := hlk i o hi
      obtain ⟨k', ob', hk', hob', _⟩ := hlk j o' hj
      simp only [hgd i k hk, hgd j k' hk']
      refine hH.inj k k' ob ob' hob hob' (fun e => hne ?_)
      subst e
      exact (List.getElem?_inj (List.getElem?_eq_some_iff.1 hk).1 hnd).1 (hk.trans hk'.symm)
    · obtain ⟨k, ob, hk, hob, _⟩ := hlk i o hi
      simp only [hgd i k hk] at hb
      exact hH.base k ob b hob hb
    · rw [hobs] at hi
      have hki : ks[i]? = some i := by rw [hks, List.getElem?_append_left (by simpa using hi), List.getElem?_range hi]
      have h3 : ∃ o, (s.out x ++ s.new x)[i]? = some o := ⟨_, List.getElem?_eq_getElem (by have := (List.getElem?_eq_some_iff.1 hki).1; omega)⟩
      obtain ⟨o, h3⟩ := h3
      obtain ⟨k', ob, hk', hob, hfit⟩ := hget i o h3
      rw [hki] at hk'
      cases hk'
      simp only [hgd i i hki]
      exact hpin i ob hob hi
  cases e with
  | normal => exact fin h1
  | ret => exact fin h1
  | _ => exact h1.elim
theorem fn_ok0 {X : Type} {s : Spec X} {f : FuncId} {fn : Func} {c : Code} (n : Nat) (hT : TOk P T) (hf : P.funcs[f]? = some fn) (hb : fn.body = some c) (hent : ∀ args w, (callFunc f args).run P w = .ok (.enter f args) w)
    (hargs : ∀ x, (s.args x).length = n) (hobs : ∀ x, s.obs x = []) (hout : ∀ x, s.out x = [])
    (h : ∀ x, s.pre x → ∀ C : Ctx, C.P = P → C.N = n + (fn.ntmps - n) → C.m = 0 → (∀ b, C.w0.heap.size ≤ b → C.G b) → C.S = [] → awp C c (bodyA T fn.results.toList s 0 x) ⟨numD 0 (s.args x), numbered 0 (s.obs x), 0⟩) : FnOk P f s := by
  refine ⟨hent, fun x hx => ⟨by rw [hobs, hout], fun w S G hv vs hG hI hA => ?_⟩⟩
  have hI0 : HInv w [] G hv (numbered 0 (s.obs x)) w := by
    have ht := hI.keeps.tab.nil
    rw [hobs]
    exact hinv_none _ _ _ ht hG
  exact (fn_ok_S n 0 hT hf hb hent hargs (fun x => by rw [hobs]; rfl) (fun x => by rw [hobs, hout]) h x hx w G hv vs hG hI0 hA).mono (fun e w' ⟨v, hv', he, h1, h2, h3⟩ => ⟨v, hv', he, hinv_S h1 hI.keeps.tab, h2, h3⟩)

/-! ### Calls that hand back rows of rows -/
theorem selfC_rep {L L' : LF} {w : World} {F F' : Nat → Prop} {d : D} {v : Value} (h : selfC d = true) (hF : ∀ b, F b → F' b) (hr : Rep L w F d v) : RepA L' w F' d v := by
  have hF' : ∀ b, F b → F' b ∧ w.heap[b]? = w.heap[b]? := fun b hb => ⟨hF b hb, rfl⟩
  cases d <;> simp only [selfC, Bool.false_eq_true] at h
  case rptr => obtain ⟨ad, e, hrow⟩ := hr; exact ⟨ad, e, hrow.mono hF'⟩
  all_goals exact RepP.mono hF' hr
theorem repAL_self {L L' : LF} {w : World} {F F' : Nat → Prop} (hF : ∀ b, F b → F' b) {ev : Operand → D} {a : Act} (hev : ∀ x, Rep L w F (ev x) (a.eval x)) : ∀ (xs : List Operand), (xs.map ev).all selfC = true → RepAL L' w F' (xs.map ev) (xs.map a.eval)
  | [], _ => trivial
  | x :: xs, h => by
    simp only [List.map_cons, List.all_cons, Bool.and_eq_true] at h ⊢
    exact ⟨selfC_rep h.1 hF (hev x), repAL_self hF hev xs h.2⟩
theorem sreg_weak {ops l : List Oper} {st st' : St} {K : St → Prop} (h : Weak C st st') (hK : SReg C ops l st' K) : SReg C ops l st K := fun Q a w hI hQ => hK Q a w (h a w hI) hQ
theorem sreg_callN {X : Type} {s : Spec X} {f : FuncId} (hP : C.P = P) {N : Nat} (hN : C.N = N) (hG : ∀ b, C.w0.heap.size ≤ b → C.G b) (hF : FnOk P f s) (x : X) {ops l : List Oper} {t : Tmp} {args : Array Operand} {tys : Array TypeId} {ty : TypeId} {pos : String} {af : Array Edge} {sl : List (Nat × D)} {hp : HP} {nx : Nat} {K : St → Prop} {d : D}
    (ht : t < N) (hpre : s.pre x) (hobs : s.obs x = []) (hout : s.out x = []) (hargs : s.args x = args.toList.map (evD sl)) (hself : (s.args x).all selfC = true) (hnd : ∀ o ∈ s.new x, o.deep = false) (hren : ren (List.range' nx (s.new x).length) (s.res x) = some d) (hflat : flatD (s.res x) = true)
    (hK : SReg C ops l ⟨(t, d) :: sl, numbered nx (s.new x) ++ hp, nx + (s.new x).length⟩ K) :
    SReg C ops ({ dst := some t, op := .call ⟨.value (.func f), args, tys⟩, type := ty, pos := pos, after := af, guard := none } :: l) ⟨sl, hp, nx⟩ K := fun Q a w hI hQ => by
  subst hP
  obtain ⟨hv, hH, hk, hm, hpin, hS⟩ := hI
  simp only at hH hk hm hpin hS
  have hev := evD_ok hS
  obtain ⟨hent, hcon⟩ := hF
  have hc2 := (hcon x hpre).2 w [] (fun b => w.heap.size ≤ b ∨ FOf C.G hv hp w b) (fun _ => undef) (args.toList.map a.eval) (fun b hb => .inl hb)
  rw [hobs, hout, List.nil_append] at hc2
  have hA := repAL_self (L' := LOf (fun _ => undef) (numbered 0 [])) (F' := FOf (fun b => w.heap.size ≤ b ∨ FOf C.G hv hp w b) (fun _ => undef) (numbered 0 []) w) (fun b hb => ⟨⟨hb.1.1, .inr hb⟩, fun h ob hl => by simp [numbered, lk] at hl⟩) hev args.toList (by rw [← hargs]; exact hself)
  rw [← hargs] at hA
  have hcall := hc2 (hinv_none _ _ _ hH.keeps.laterN (fun b hb => .inl hb)) hA
  refine wpList_step (fun K1 hK1 => ?_)
  simp only [Region.wanted, if_true]
  refine callOp_wp (o := { dst := some t, op := .call ⟨.value (.func f), args, tys⟩, type := ty, pos := pos, after := af, guard := none }) rfl (us := #[]) (cs := #[]) (f := f) rfl hent
    (R := fun v w' => ∃ hv1, HInv w [] (fun b => w.heap.size ≤ b ∨ FOf C.G hv hp w b) hv1 (numbered 0 (s.new x)) w' ∧ Rep (LOf hv1 (numbered 0 (s.new x))) w' (FOf (fun b => w.heap.size ≤ b ∨ FOf C.G hv hp w b) hv1 (numbered 0 (s.new x)) w') (s.res x) v) ?_ (fun v w' ⟨hv1, hI1, hrep⟩ => ?_)
  · rw [show (#[] ++ args.map a.eval ++ #[] : Array Value) = (args.toList.map a.eval).toArray by apply Array.ext'; simp]
    exact hcall.mono (fun e w' ⟨v, hv1, he, h1, _, h3⟩ => ⟨v, he, hv1, h1, h3⟩)
  clear hcall hc2 hA
  refine hK1 _ _ (hK Q _ _ ?_ hQ)
  obtain ⟨hv', hv'd⟩ : ∃ hv' : Nat → Value, hv' = fun h => if nx ≤ h then hv1 (h - nx) else hv h := ⟨_, rfl⟩
  have hvlt : ∀ h, h < nx → hv' h = hv h := fun h hh => by rw [hv'd]; exact if_neg (by omega)
  have hvge : ∀ h, nx ≤ h → hv' h = hv1 (h - nx) := fun h hh => by rw [hv'd]; exact if_pos hh
  have hnew : ∀ h, nx ≤ h → lk h (numbered nx (s.new x) ++ hp) = (s.new x)[h - nx]? := fun h hh => by
    rw [lk_append, lk_numbered, if_pos hh]
    have : lk h hp = none := by
      cases h1 : lk h hp with
      | none => rfl
      | some ob => have := hk h ob h1; omega
    rw [this, Option.or_none]
  have hold : ∀ h, h < nx → lk h (numbered nx (s.new x) ++ hp) = lk h hp := fun h hh => by
    rw [lk_append, lk_numbered, if_neg (by omega), Option.none_or]
  have hnw : ∀ (j : Nat) o', (s.new x)[j]? = some o' → lk j (numbered 0 (s.new x)) = some o' := fun j o' hj => by rw [lk_numbered]; simpa using hj
  have hkb : ∀ b, b < w.heap.size → w'.heap[b]? = w.heap[b]? := fun b hb => hI1.keeps.block b hb (by simp)
  have hnewblk : ∀ (j : Nat) o', (s.new x)[j]? = some o' → ∀ b, (hv1 j).ownBlock = some b → w.heap.size ≤ b := fun j o' hj b hb => by
    rcases hI1.base _ _ b (hnw j o' hj) hb with h1 | h1
    · exact h1
    · simp at h1
  have hblk : ∀ k ob, lk k hp = some ob → ∀ b, (hv k).ownBlock = some b → b < w.heap.size := fun k ob hob b hb => by
    obtain ⟨vs, ho, _⟩ := hH.obs k ob hob
    exact (ho.lt b hb).2
  have hcase : ∀ h ob, lk h (numbered nx (s.new x) ++ hp) = some ob → (∃ j : Nat, h = nx + j ∧ (s.new x)[j]? = some ob ∧ hv' h = hv1 j) ∨ (h < nx ∧ lk h hp = some ob ∧ hv' h = hv h) := fun h ob hl => by
    by_cases hge : nx ≤ h
    · rw [hnew h hge] at hl
      exact .inl ⟨h - nx, by omega, hl, hvge h hge⟩
    · rw [hold h (by omega)] at hl
      exact .inr ⟨by omega, hl, hvlt h (by omega)⟩
  have hL : ∀ h y, LOf hv hp h = some y → LOf hv' (numbered nx (s.new x) ++ hp) h = some y := fun h y hy => by
    simp only [LOf, Option.map_eq_some_iff] at hy
    obtain ⟨ob, hob, rfl⟩ := hy
    have hlt := hk h ob hob
    rw [LOf_eq (show lk h (numbered nx (s.new x) ++ hp) = some ob by rw [hold h hlt]; exact hob), hvlt h hlt]
  have hFo : ∀ b, FOf C.G hv hp w b → FOf C.G hv' (numbered nx (s.new x) ++ hp) w' b ∧ w'.heap[b]? = w.heap[b]? := fun b hb => by
    refine ⟨⟨⟨Nat.lt_of_lt_of_le hb.1.1 hI1.keeps.size, hb.1.2⟩, fun h ob hl => ?_⟩, hkb b hb.1.1⟩
    rcases hcase h ob hl with ⟨j, rfl, hj, e⟩ | ⟨hlt, hob, e⟩
    · rw [e]
      intro hb'
      have := hnewblk j ob hj b hb'
      have := hb.1.1
      omega
    · rw [e]; exact hb.2 h ob hob
  have hFn : ∀ b, FOf (fun b => w.heap.size ≤ b ∨ FOf C.G hv hp w b) hv1 (numbered 0 (s.new x)) w' b → FOf C.G hv' (numbered nx (s.new x) ++ hp) w' b := fun b hb => by
    rcases hb.1.2 with h1 | h1
    · refine ⟨⟨hb.1.1, hG b (Nat.le_trans hH.keeps.size h1)⟩, fun h ob hl => ?_⟩
      rcases hcase h ob hl with ⟨j, rfl, hj, e⟩ | ⟨hlt, hob, e⟩
      · rw [e]; exact hb.2 j ob (hnw j ob hj)
      · rw [e]
        intro hb'
        have := hblk h ob hob b hb'
        omega
    · exact (hFo b h1).1
  refine ⟨hv', ⟨fun h ob hl => ?_, fun h h' ob ob' hl hl' hne => ?_, fun h ob b hl hb => ?_, ?_, fun b hbb => hH.gnew b (Nat.le_trans hI1.keeps.size hbb)⟩, fun h ob hl => ?_, Nat.le_trans hm (Nat.le_add_right _ _), fun h ob hl hlt => ?_, ?_⟩
  · rcases hcase h ob hl with ⟨j, rfl, hj, e⟩ | ⟨hlt, hob, e⟩
    · obtain ⟨us, h1, h2, h3⟩ := hI1.obs _ _ (hnw j _ hj)
      rw [e]
      refine ⟨us, h1, h2, fun i k y c hi hk' => ?_⟩
      obtain ⟨u, hu, h4, hr⟩ := h3 i k y c hi hk'
      refine ⟨u, hu, h4, ?_⟩
      rw [hnd ob (List.mem_of_getElem? hj)] at hr ⊢
      simp only [RepO, Bool.false_eq_true, if_false] at hr ⊢
      exact hr.mono (fun b hb => ⟨hFn b hb, rfl⟩)
    · obtain ⟨us, h1, h2, h3⟩ := hH.obs h ob hob
      rw [e]
      refine ⟨us, oRow_same h1 (fun b hb => hkb b (hblk h ob hob b hb)), h2, fun i k y c hi hk' => ?_⟩
      obtain ⟨u, hu, h4, hr⟩ := h3 i k y c hi hk'
      exact ⟨u, hu, h4, RepO.obMono hr hL hFo⟩
  · rcases hcase h ob hl with ⟨j, rfl, hj, e⟩ | ⟨hlt, hob, e⟩
    · rcases hcase h' ob' hl' with ⟨j', rfl, hj', e'⟩ | ⟨hlt', hob', e'⟩
      · rw [e, e']
        exact hI1.inj _ _ _ _ (hnw j _ hj) (hnw j' _ hj') (by omega)
      · rw [e, e']
        cases hb : (hv1 j).ownBlock with
        | none => exact .inl rfl
        | some b =>
          refine .inr fun e2 => ?_
          have := hnewblk j ob hj b hb
          have := hblk h' ob' hob' b e2.symm
          omega
    · rcases hcase h' ob' hl' with ⟨j', rfl, hj', e'⟩ | ⟨hlt', hob', e'⟩
      · rw [e, e']
        cases hb : (hv h).ownBlock with
        | none => exact .inl rfl
        | some b =>
          refine .inr fun e2 => ?_
          have := hnewblk j' ob' hj' b e2.symm
          have := hblk h ob hob b hb
          omega
      · rw [e, e']
        exact hH.inj h h' ob ob' hob hob' hne
  · rcases hcase h ob hl with ⟨j, rfl, hj, e⟩ | ⟨hlt, hob, e⟩
    · rw [e] at hb
      exact .inl (Nat.le_trans hH.keeps.size (hnewblk j ob hj b hb))
    · rw [e] at hb
      exact hH.base h ob b hob hb
  · refine ⟨hI1.keeps.os.trans hH.keeps.os, hI1.keeps.tape.trans hH.keeps.tape, hI1.keeps.output.trans hH.keeps.output, Nat.le_trans hH.keeps.size hI1.keeps.size, fun k hk' hkS => ?_, hH.keeps.tab⟩
    rw [hkb k (Nat.lt_of_lt_of_le hk' hH.keeps.size)]
    exact hH.keeps.block k hk' hkS
  · rcases hcase h ob hl with ⟨j, rfl, hj, e⟩ | ⟨hlt, hob, e⟩
    · have := (List.getElem?_eq_some_iff.1 hj).1
      show nx + j < nx + (s.new x).length
      omega
    · show h < nx + (s.new x).length
      omega
  · rcases hcase h ob hl with ⟨j, rfl, hj, e⟩ | ⟨hlt', hob, e⟩
    · omega
    · rw [e]; exact hpin h ob hob hlt
  · have hres : Rep (LOf hv' (numbered nx (s.new x) ++ hp)) w' (FOf C.G hv' (numbered nx (s.new x) ++ hp) w') d v := by
      refine ren_rep (fun i k y hi hy => ?_) hFn hren hrep
      have hil := (List.getElem?_eq_some_iff.1 hi).1
      simp only [List.length_range'] at hil
      have hik : k = nx + i := by
        rw [List.getElem?_range' hil] at hi
        simp only [Option.some.injEq] at hi
        omega
      subst hik
      have ho : ∃ o, (s.new x)[i]? = some o := ⟨_, List.getElem?_eq_getElem hil⟩
      obtain ⟨o, ho⟩ := ho
      rw [LOf_eq (hnw i o ho)] at hy
      rw [LOf_eq (show lk (nx + i) (numbered nx (s.new x) ++ hp) = some o by rw [hnew _ (by omega), show nx + i - nx = i by omega]; exact ho), hvge _ (by omega), show nx + i - nx = i by omega]
      exact hy
    exact sinv_put (⟨hS.defers, hS.size, fun t' d' hd' => (hS.at_ t' d' hd').mono hL hFo⟩ : SInv C.N _ w' _ sl a) (dst := some t) (fun t' h => by cases h; rw [hN]; exact ht) hres
end Go.Proofs.Ytjkhgcmdcjdipaa.Abs

/- Abs, part 36: in a drawn region, what does not look at memory goes first. -/
set_option linter.unusedVariables false
set_option linter.unusedSimpArgs false
namespace Go.Proofs.Ytjkhgcmdcjdipaa.Abs
open Go Go.RowKit
variable {P : Program} {T : TT} {C : Ctx}

def floatU (ops : List Oper) (listed : Array Bool) (i : Nat) : Bool := (List.range ops.length).all fun j => decide (j = i) || (listed.getD j true || (match ops[i]?, ops[j]? with | some oi, some oj => depOn oj i || oi.apart ops.toArray oj | _, _ => true))
/-- It may go ahead of all that does not wait for it: it gives the same in all worlds. -/
theorem anyS_floatP {m N : Nat} (hT : TOk P T) (hP : C.P = P) (hCm : C.m = m) (hN : C.N = N) {ops : List Oper} {K : St → Prop} {fuel : Nat} {listed : Array Bool} {st : St} (hd : dstsOk N ops = true) (i : Nat) {o : Oper} (ho : ops[i]? = some o) (hg : o.guard = none)
    (hrun0 : ∀ a w, Inv C st a w → ∃ v, ∀ w', (execOp a.eval o).run P w' = .ok (.value v) w')
    (hrd : (readyL ops listed).contains i = true) (hfl : floatU ops listed i = true) (hns : noSelB ops = true) (h : areg P T m ops [o] st (fun st' => AnyS C ops K fuel (listed.setIfInBounds i true) st')) : AnyS C ops K (fuel + 1) listed st := fun a w hI => by
  subst hP
  have hdo : ∀ t, o.dst = some t → t < C.N := fun t ht => by
    have := List.all_eq_true.1 hd o (List.mem_of_getElem? ho)
    rw [hN]
    simpa [ht] using this
  obtain ⟨v, hrun⟩ := hrun0 a w hI
  simp only [areg, hg] at h
  have h1 : o.wp C.P a w (fun a' w' => wpAny C.P .any ops.toArray (fun e a' w' => ∃ st', (e = .normal ∧ K st') ∧ Inv C st' a' w') fuel (listed.setIfInBounds i true) a' w') (fun _ _ _ => False) := aop_wp hT rfl hCm hI hdo h (fun st' a' w' h1 h2 => h1 a' w' h2)
  unfold Oper.wp at h1
  rw [hrun w] at h1
  simp only [Oper.upon] at h1
  have hmem : i ∈ Region.ready .any ops.toArray listed := by rw [ready_list]; simpa using hrd
  refine wpAny_first (i := i) (oi := o) (v := v) (by simpa using ho) (fun j oj cs b hj e => ?_) (fun c a w hq => ?_) fuel listed a w (fun j oj hj hji hun hno => ?_) hmem (.inl ⟨by simp [Region.wanted, hg], hrun⟩) h1
  · have hj2 : ops[j]? = some oj := by simpa using hj
    have := List.all_eq_true.1 hns oj (List.mem_of_getElem? hj2)
    simp [e] at this
  · obtain ⟨st', ⟨h, _⟩, _⟩ := hq
    cases h
  · have hj2 : ops[j]? = some oj := by simpa using hj
    have hjl := (List.getElem?_eq_some_iff.1 hj2).1
    have := List.all_eq_true.1 hfl j (by simpa using hjl)
    simp only [ho, hj2, Bool.or_eq_true, decide_eq_true_eq] at this
    rcases this with h2 | h2 | h2 | h2
    · exact absurd h2 hji
    · rw [hun] at h2; cases h2
    · exfalso
      obtain ⟨e, he, hb⟩ := List.any_eq_true.1 h2
      simp only [Bool.and_eq_true, beq_iff_eq] at hb
      exact hno e (by simpa using he) hb.2 hb.1
    · exact h2

/-- What is known to the last bit. -/
def pureEv (sl : List (Nat × D)) (x : Operand) : D := match evD sl x with | .val v => .val v | _ => .any
def valC : D → Option Value
  | .val v => some v
  | .nil => some (.slice none 0 0)
  | _ => none
def valsC : List D → Option (List Value)
  | [] => some []
  | d :: ds => match valC d, valsC ds with
    | some v, some vs => some (v :: vs)
    | _, _ => none
def valOf : D → Option Value
  | .agg cs => (valsC cs).map fun vs => .agg vs.toArray
  | d => valC d
theorem valC_rep {L : LF} {w : World} {F : Nat → Prop} {d : D} {v u : Value} (h : valC d = some v) (hr : RepC L w F d u) : u = v := by
  cases d <;> simp only [valC, reduceCtorEq, Option.some.injEq] at h
  case val x => subst h; have hr : RepP w F (.val x) u := hr; cases hr; rfl
  case nil => subst h; have hr : RepP w F .nil u := hr; cases hr; rfl
theorem valsC_rep {L : LF} {w : World} {F : Nat → Prop} : ∀ {ds : List D} {vs us : List Value}, valsC ds = some vs → RepL L w F ds us → us = vs
  | [], vs, [], h, _ => by simp only [valsC, Option.some.injEq] at h; exact h
  | d :: ds, vs, u :: us, h, hr => by
    simp only [valsC] at h
    split at h
    · rename_i v vs' h1 h2
      cases h
      rw [valC_rep h1 hr.1, valsC_rep h2 hr.2]
    · cases h
  | [], _, _ :: _, _, hr => hr.elim
  | _ :: _, _, [], _, hr => hr.elim
theorem valOf_rep {L : LF} {w : World} {F : Nat → Prop} {d : D} {v u : Value} (h : valOf d = some v) (hr : Rep L w F d u) : u = v := by
  cases d
  case agg cs =>
    simp only [valOf, Option.map_eq_some_iff] at h
    obtain ⟨vs, h1, rfl⟩ := h
    obtain ⟨us, rfl, h2, _⟩ := hr
    rw [valsC_rep h1 h2]
  case tup => simp [valOf, valC] at h
  case fn => simp [valOf, valC] at h
  all_goals (simp only [valOf] at h; exact valC_rep (L := L) (w := w) (F := F) h hr)
def pureB : Op → Bool
  | .build _ _ | .binOp _ _ _ _ _ | .unOp _ _ _ | .convert _ _ _ => true
  | _ => false
section
variable {w0 : World} {S : List Nat} {G : Nat → Prop} {hv : Nat → Value} {hp : HP} {w : World}
theorem stepBin_run (hT : TOk P T) {op : BinOp} {t : TypeId} {ox oy : Operand} {x y : D} {pre : Prop} {r : Res} {u v : Value} (hx : Rep (LOf hv hp) w (FOf G hv hp w) x u) (hy : Rep (LOf hv hp) w (FOf G hv hp w) y v)
    (hs : stepBin T op t x y = some (pre, r)) (hpre : pre) : ∃ z, ((do eqGuard op t ox oy u v; binOp op t u v : Sem Value)).run P w = .ok z w ∧ Rep (LOf hv hp) w (FOf G hv hp w) r.d z := by
  unfold stepBin at hs
  split at hs
  · obtain rfl := rep_val hx
    obtain rfl := rep_val hy
    split at hs
    · cases op <;> simp only [binShift, qp, reduceCtorEq, Option.some.injEq, Prod.mk.injEq] at hs
      all_goals
        obtain ⟨rfl, rfl⟩ := hs
        refine ⟨_, ?_, (rep_mk _)⟩
        simp [eqGuard, binOp, Op.shift, Int.not_lt.2 hpre]
    · split at hs
      · rename_i hk
        subst hk
        cases op <;> simp only [binI, q, qp, reduceCtorEq, Option.some.injEq, Prod.mk.injEq] at hs <;> (try exact absurd rfl ‹¬ isShift _ = true›)
        all_goals
          obtain ⟨rfl, rfl⟩ := hs
          refine ⟨_, ?_, (rep_mk _)⟩
          first
            | (simp [eqGuard, binOp, Op.intArith, Op.intBits, Op.intCmp]; done)
            | (simp [eqGuard, binOp, Op.intDiv, hpre]; done)
      · cases hs
  · rename_i a b
    obtain rfl := rep_val hx
    obtain rfl := rep_val hy
    cases op <;> simp only [binS, q, qp, reduceCtorEq, Option.some.injEq, Prod.mk.injEq] at hs
    all_goals
      obtain ⟨rfl, rfl⟩ := hs
      refine ⟨_, ?_, (rep_mk _)⟩
    case add =>
      have h64 : IntKind.i64.max = 9223372036854775807 := by decide
      have hm : ¬ (((a.size + b.size : Nat) : Int) > IntKind.i64.max) := by rw [h64]; omega
      simp only [eqGuard, binOp, Op.stringOp, if_neg hm]
      rfl
    all_goals (simp [eqGuard, binOp, Op.stringOp]; done)
  · obtain rfl := rep_val hx
    obtain rfl := rep_val hy
    split at hs
    all_goals first | cases hs | skip
    all_goals
      rename_i hb
      simp only [Option.map_eq_some_iff] at hb
      obtain ⟨ti, hl, hsh⟩ := hb
      have hu := TI.under_bool (hT _ _ hl) hsh
      refine ⟨_, ?_, (rep_mk _)⟩
      simp [eqGuard, binOp, run_equal_bool w t _ _ hu]
  · cases hs

theorem stepUn_run {op : UnOp} {x : D} {pre : Prop} {r : Res} {u : Value} (hx : Rep (LOf hv hp) w (FOf G hv hp w) x u)
    (hs : stepUn op x = some (pre, r)) (hpre : pre) : ∃ z, (Op.unary op u).run P w = .ok z w ∧ Rep (LOf hv hp) w (FOf G hv hp w) r.d z := by
  unfold stepUn at hs
  split at hs
  · obtain rfl := rep_val hx
    cases hs
    exact ⟨_, by simp [Op.unary, Op.intArith], (rep_mk _)⟩
  · obtain rfl := rep_val hx
    cases hs
    exact ⟨_, by simp [Op.unary], (rep_mk _)⟩
  · cases hs

theorem stepConv_run (hT : TOk P T) {src dst : TypeId} {x : D} {pre : Prop} {r : Res} {u : Value} (hsrc : ∃ d, P.underlying src = some d) (hx : Rep (LOf hv hp) w (FOf G hv hp w) x u)
    (hs : stepConv T dst x = some (pre, r)) (hpre : pre) : ∃ z, (convert src dst u).run P w = .ok z w ∧ Rep (LOf hv hp) w (FOf G hv hp w) r.d z := by
  obtain ⟨ds, hds⟩ := hsrc
  unfold stepConv at hs
  split at hs
  · obtain rfl := rep_val hx
    rename_i hb
    simp only [Option.map_eq_some_iff] at hb
    obtain ⟨ti, hl, hsh⟩ := hb
    have hu := TI.under_int (hT _ _ hl) hsh
    cases hs
    exact ⟨_, by simp [convert, underlying, hds, hu, Conv.intToInt], (rep_mk _)⟩
  · obtain rfl := rep_val hx
    rename_i hb
    simp only [Option.map_eq_some_iff] at hb
    obtain ⟨ti, hl, hsh⟩ := hb
    have hu := TI.under_str (hT _ _ hl) hsh
    cases hs
    refine ⟨_, ?_, (rep_mk _)⟩
    cases ds <;> simp [convert, underlying, hds, hu]
  · cases hs

theorem stepBuild_run (hT : TOk P T) (hL0 : ∀ h v s, LOf hv hp h = some (v, s) → v.oneCell' = true) {t : TypeId} {parts : List (Nat × D)} {vparts : Array (Nat × Value)} {pre : Prop} {r : Res} (hp' : RepParts (LOf hv hp) w (FOf G hv hp w) parts vparts.toList)
    (hs : stepBuild T t parts = some (pre, r)) (hpre : pre) : ∃ z, (Instr.build t vparts).run P w = .ok z w ∧ Rep (LOf hv hp) w (FOf G hv hp w) r.d z := by
  unfold stepBuild at hs
  split at hs
  · cases hs
  rename_i ti hl
  have hz := TI.run_zero (hT _ _ hl) w
  split at hs
  · rename_i fs hsh
    obtain ⟨fields, hu, hm⟩ := TI.under_struct (hT _ _ hl) hsh
    split at hs
    · cases hs
    rename_i ps hps
    split at hs
    · rename_i out hout
      cases hs
      have hplaces : (fields.mapM (fun f => Prod.mk f.offset <$> sizeOf f.type : Field → Sem (Nat × Nat))).run P w = .ok ps.toArray w := by
        rw [Array.mapM_eq_mapM_toList]
        have := placesOf_ok (w := w) hT fields.toList ps (by rw [hm]; exact hps)
        simp [this]
      obtain ⟨vout, hf, hr, h1⟩ := fillD_ok hL0 hp' (zeroD_rep (w := w) ti) (fun u hu => List.all_eq_true.1 hpre u hu) hout
      refine ⟨.agg vout, by simp [Instr.build, hz, underlying, hu, hplaces, hf], (by have := mkAgg_rep hr h1; simpa using this)⟩
    · cases hs
  · rename_i n e hsh
    have hu := TI.under_arr (hT _ _ hl) hsh
    split at hs
    · cases hs
    rename_i es hsz
    have hrun := szOf_run hT hsz w
    split at hs
    · rename_i out hout
      cases hs
      obtain ⟨vout, hf, hr, h1⟩ := fillD_ok hL0 hp' (zeroD_rep (w := w) ti) (fun u hu => List.all_eq_true.1 hpre u hu) hout
      refine ⟨.agg vout, by simp [Instr.build, hz, underlying, hu, hrun, hf], (by have := mkAgg_rep hr h1; simpa using this)⟩
    · cases hs
  · cases hs

end
theorem pure_run (hT : TOk P T) {o : Oper} {sl : List (Nat × D)} {pre : Prop} {d : D} {v : Value} (hs : astep T o.op (pureEv sl) [] 0 = some (pre, { d := d })) (hval : valOf d = some v) (hpre : pre) (hk : pureB o.op = true) {a : Act} (hev : ∀ x u, evD sl x = .val u → a.eval x = u) (w : World) : (execOp a.eval o).run P w = .ok (.value v) w := by
  have hr : ∀ x, Rep (LOf (fun _ => undef) []) w (FOf (fun _ => True) (fun _ => undef) [] w) (pureEv sl x) (a.eval x) := fun x => by
    unfold pureEv
    split
    · rename_i u hu
      rw [hev x u hu]
      exact rep_mk _
    · exact (RepP.any _ : RepP _ _ .any _)
  unfold astep at hs
  split at hs <;> rename_i ho <;> (try (rw [ho] at hk; simp [pureB] at hk; done)) <;> (try (cases hs; done))
  · rename_i t parts
    obtain ⟨z, hz, hP⟩ := stepBuild_run (hv := fun _ => undef) (hp := []) (G := fun _ => True) (vparts := parts.map fun p => (p.1, a.eval p.2)) hT (fun h v s hl => by simp [LOf, lk] at hl) (by simpa using repParts_of hr parts.toList) hs hpre
    have hzv : z = v := valOf_rep hval hP
    subst hzv
    simp [execOp, ho, hz]
  · rename_i op t x y yt
    obtain ⟨z, hz, hP⟩ := stepBin_run (hv := fun _ => undef) (hp := []) (G := fun _ => True) (ox := x) (oy := y) hT (hr x) (hr y) hs hpre
    have hzv : z = v := valOf_rep hval hP
    subst hzv
    simp only [execOp, ho]
    rw [Sem.run_bind, hz]
    rfl
  · rename_i op t x
    obtain ⟨z, hz, hP⟩ := stepUn_run (hv := fun _ => undef) (hp := []) (G := fun _ => True) (P := P) (hr x) hs hpre
    have hzv : z = v := valOf_rep hval hP
    subst hzv
    simp [execOp, ho, hz]
  · rename_i src dst x
    split at hs
    · rename_i ti hsrc
      obtain ⟨z, hz, hP⟩ := stepConv_run (hv := fun _ => undef) (hp := []) (G := fun _ => True) (src := src) hT (by obtain ⟨d, hd, _⟩ := TI.under (hT _ _ hsrc) rfl; exact ⟨d, hd⟩) (hr x) hs hpre
      have hzv : z = v := valOf_rep hval hP
      subst hzv
      simp [execOp, ho, hz]
    · cases hs
theorem anyS_floatV {m N : Nat} (hT : TOk P T) (hP : C.P = P) (hCm : C.m = m) (hN : C.N = N) {ops : List Oper} {K : St → Prop} {fuel : Nat} {listed : Array Bool} {sl : List (Nat × D)} {hp : HP} {nx : Nat} (hd : dstsOk N ops = true) (i : Nat) {o : Oper} (ho : ops[i]? = some o) (hg : o.guard = none) {pre : Prop} {d : D} {v : Value}
    (hs : astep T o.op (pureEv sl) [] 0 = some (pre, { d := d })) (hval : valOf d = some v) (hpre : pre) (hk : pureB o.op = true)
    (hrd : (readyL ops listed).contains i = true) (hfl : floatU ops listed i = true) (hns : noSelB ops = true) (h : areg P T m ops [o] ⟨sl, hp, nx⟩ (fun st' => AnyS C ops K fuel (listed.setIfInBounds i true) st')) : AnyS C ops K (fuel + 1) listed ⟨sl, hp, nx⟩ :=
  anyS_floatP hT hP hCm hN hd i ho hg (fun a w ⟨hv, hH, hk2, hm, hpn, hS⟩ => ⟨v, fun w' => pure_run hT hs hval hpre hk (fun x u hx => by
    have h1 := evD_ok hS x
    rw [show evD (St.mk sl hp nx).sl x = .val u from hx] at h1
    exact rep_val h1) w'⟩) hrd hfl hns h
theorem field_run (hT : TOk P T) {s : TypeId} {f : Nat} {x : Operand} {o : Oper} (ho : o.op = .fieldAddr s x f) {k : Nat × TypeId} (hf : nthField T s f = some k) {n : Nat} (hsz : szOf T k.2 = some (n + 1)) {a : Act} {ad : Addr} (hx : a.eval x = .pointer (some ad)) : ∃ z, ∀ w, (execOp a.eval o).run P w = .ok (.value z) w := by
  obtain ⟨o', ty⟩ := k
  obtain ⟨fields, fd, hu, hfd, rfl, rfl⟩ := nthField_ok hT hf
  refine ⟨.pointer (some (ad.add fd.offset)), fun w => ?_⟩
  have hrun := szOf_run hT hsz w
  simp [execOp, ho, hx, Instr.fieldAt, underlying, hu, hfd, Instr.sureAddr, fieldPlace, hrun]
theorem anyS_floatA {m N : Nat} (hT : TOk P T) (hP : C.P = P) (hCm : C.m = m) (hN : C.N = N) {ops : List Oper} {K : St → Prop} {fuel : Nat} {listed : Array Bool} {sl : List (Nat × D)} {hp : HP} {nx : Nat} (hd : dstsOk N ops = true) (i : Nat) {o : Oper} (ho : ops[i]? = some o) (hg : o.guard = none) {s : TypeId} {f : Nat} {x : Operand} (hop : o.op = .fieldAddr s x f) {k : Nat × TypeId} (hf : nthField T s f = some k) {n : Nat} (hsz : szOf T k.2 = some (n + 1)) {h0 i0 off : Nat} (hx : evD sl x = .ptr h0 i0 off)
    (hrd : (readyL ops listed).contains i = true) (hfl : floatU ops listed i = true) (hns : noSelB ops = true) (h : areg P T m ops [o] ⟨sl, hp, nx⟩ (fun st' => AnyS C ops K fuel (listed.setIfInBounds i true) st')) : AnyS C ops K (fuel + 1) listed ⟨sl, hp, nx⟩ :=
  anyS_floatP hT hP hCm hN hd i ho hg (fun a w ⟨hv, hH, hk2, hm, hpn, hS⟩ => by
    have h1 := evD_ok hS x
    rw [show evD (St.mk sl hp nx).sl x = .ptr h0 i0 off from hx] at h1
    obtain ⟨g, m', cap, s', hl, e⟩ := h1
    exact field_run hT hop hf hsz e) hrd hfl hns h
theorem anyS_weak {ops : List Oper} {K : St → Prop} {fuel : Nat} {listed : Array Bool} {st st' : St} (hw : Weak C st st') (h : AnyS C ops K fuel listed st') : AnyS C ops K fuel listed st := fun a w hI => h a w (hw a w hI)
/-- What is shown once for all the orders that reach it. -/
theorem anyS_cut {ops : List Oper} {K : St → Prop} {fuel fuel' : Nat} {listed listed' : Array Bool} {st st' : St} (h1 : AnyS C ops K fuel' listed' st') (h2 : AnyS C ops K fuel' listed' st' → AnyS C ops K fuel listed st) : AnyS C ops K fuel listed st := h2 h1
/-- A region by itself. -/
theorem awp_join {c : Code} {Q : Exit → St → Prop} {st st1 : St} (h : awp C c (fun e s => e = .normal ∧ s = st1) st) (hQ : Q .normal st1) : awp C c Q st := awp_mono h (fun e s h => by obtain ⟨rfl, rfl⟩ := h; exact hQ)
end Go.Proofs.Ytjkhgcmdcjdipaa.Abs

/- Abs, part 37: texts: bytes turned to a text, the library's functions on texts by their contracts. -/
set_option linter.unusedVariables false
set_option linter.unusedSimpArgs false
namespace Go.Proofs.Ytjkhgcmdcjdipaa.Abs
open Go Go.RowKit
variable {P : Program} {T : TT} {C : Ctx}

theorem repO_val {deep : Bool} {L : LF} {w : World} {F : Nat → Prop} {v u : Value} (h : RepO deep L w F (.val v) u) : u = v := by
  unfold RepO at h
  split at h
  · exact (show RepP w F (.val v) u from h) |> fun h => by cases h; rfl
  · cases h; rfl
/-- A row of bytes, turned to a text. -/
theorem oprel_b2s (hT : TOk P T) {o : Oper} {src dst e : TypeId} {x : Operand} (ho : o.op = .convert src dst x) {ev : Operand → D} {hp : HP} {nx k : Nat} {ob : Ob} (ns : List Int)
    (hx : ev x = .own k) (hob : lk k hp = some ob) (hxs : ob.xs = ns.map fun n => [.val (.int .u8 n)]) (hn : ns ≠ []) (hsz : ob.sz = 1)
    (hsrc : (lk src T).map (fun ti : TI => ti.sh) = some (.slice e)) (he : (lk e T).map (fun ti : TI => ti.sh) = some (.int .u8)) (hdst : (lk dst T).map (fun ti : TI => ti.sh) = some .str) :
    OpRel P o ev hp nx { d := .val (.string (strOfNums ns)) } := by
  refine ⟨⟨fun p hp => by simp at hp, rfl⟩, fun w0 S G hv a w hI hk hev K Q hK => ?_⟩
  have e1 := hev x
  rw [hx] at e1
  obtain ⟨s1, hL1⟩ := e1
  rw [LOf_eq hob] at hL1
  simp only [Option.some.injEq, Prod.mk.injEq] at hL1
  obtain ⟨hv1, -⟩ := hL1
  obtain ⟨t1, hl1, hs1⟩ := Option.map_eq_some_iff.1 hsrc
  have hu1 := TI.under_slice (hT _ _ hl1) hs1
  obtain ⟨t2, hl2, hs2⟩ := Option.map_eq_some_iff.1 he
  have hu2 := TI.under_int (hT _ _ hl2) hs2
  obtain ⟨t3, hl3, hs3⟩ := Option.map_eq_some_iff.1 hdst
  have hu3 := TI.under_str (hT _ _ hl3) hs3
  obtain ⟨vs, hown, hg, hc⟩ := hI.obs k ob hob
  have hlen : ob.xs.length = ns.length := by rw [hxs, List.length_map]
  have hpos : 0 < ns.length := List.length_pos_iff.2 hn
  have hval : ∃ b cap, a.eval x = .slice (some ⟨b, 0, none⟩) ns.length cap ∧ ∀ i, i < ns.length → w.cell? ⟨b, 0 + i, none⟩ = some (.int .u8 (ns.getD i 0)) := by
    rw [← hv1]
    rcases hown.2 with ⟨_, h6⟩ | ⟨g, cap, cur, h5, _⟩
    · omega
    · refine ⟨g, cap, by rw [h5, hlen], fun i hi => ?_⟩
      have hrow : ob.xs[i]? = some [.val (.int .u8 (ns.getD i 0))] := by rw [hxs]; simp [List.getD, hi]
      obtain ⟨u, hu, _, hr⟩ := hc i 0 _ _ hrow rfl
      rw [h5] at hown
      rw [Nat.zero_add, hown.cellAt i (by rw [hsz, hlen]; omega)]
      rw [hsz, Nat.mul_one, Nat.add_zero] at hu
      rw [hu, repO_val hr]
  obtain ⟨b, cap, he1, hcell⟩ := hval
  have hrun : (execOp a.eval o).run P w = .ok (.value (.string (strOfNums ns))) w := by
    obtain ⟨dst', op, type, pos, after, guard⟩ := o
    simp only at ho
    subst ho
    have h1 := run_convert_bytes_arg w src e hu1 hu2 b 0 ns.length cap ns rfl hcell dst hu3
    simp only [execOp, Sem.run_bind, he1, h1]
    rfl
  unfold Oper.wp
  rw [hrun]
  exact hK _ hv w (post_same hI (rep_mk _))

theorem repAL_vals {L : LF} {w : World} {F : Nat → Prop} : ∀ {us vs : List Value}, RepAL L w F (us.map .val) vs → vs = us
  | [], [], _ => rfl
  | u :: us, v :: vs, h => by
    have h1 : RepP w F (.val u) v := h.1
    cases h1
    rw [repAL_vals h.2]
  | [], _ :: _, h => h.elim
  | _ :: _, [], h => h.elim
/-- A function of values alone, by the library's contract. -/
theorem fnOk_vals {X : Type} {f : FuncId} (args : X → List Value) (pre : X → Prop) (res : X → Value) (hent : ∀ args w, (callFunc f args).run P w = .ok (.enter f args) w)
    (h : ∀ x, pre x → ∀ w, Calls P f (args x).toArray w (fun e w' => e = .returned (res x) ∧ w' = w)) : FnOk P f { args := fun x => (args x).map .val, pre := pre, res := fun x => .val (res x) : Spec X } :=
  ⟨hent, fun x hx => ⟨rfl, fun w S G hv vs hG hI ha => by
    rw [repAL_vals ha]
    refine (h x hx w).mono fun e w' hw => ?_
    obtain ⟨rfl, rfl⟩ := hw
    exact ⟨_, hv, rfl, hI, fun i hi => absurd hi (by simp), rep_mk _⟩⟩⟩
/-- The same, where new blocks may lie behind, and the library's tables are known. -/
theorem fnOk_valsB {X : Type} {f : FuncId} (args : X → List Value) (pre : X → Prop) (res : X → Value) (hent : ∀ args w, (callFunc f args).run P w = .ok (.enter f args) w)
    (h : ∀ x, pre x → ∀ w, TabAt [] w → Calls P f (args x).toArray w (fun e w' => e = .returned (res x) ∧ Below w.heap.size w w')) : FnOk P f { args := fun x => (args x).map .val, pre := pre, res := fun x => .val (res x) : Spec X } :=
  ⟨hent, fun x hx => ⟨rfl, fun w S G hv vs hG hI ha => by
    rw [repAL_vals ha]
    refine (h x hx w hI.keeps.tab.nil).mono fun e w' hw => ?_
    obtain ⟨rfl, hb⟩ := hw
    exact ⟨_, hv, rfl, ⟨fun h ob hl => by simp [numbered, lk] at hl, fun h h' ob ob' hl => by simp [numbered, lk] at hl, fun h ob b hl => by simp [numbered, lk] at hl, Keeps.of_below hb S hI.keeps.tab, fun b hbb => hG b (Nat.le_trans hb.size hbb)⟩, fun i hi => absurd hi (by simp), rep_mk _⟩⟩⟩
theorem repAL_mk {L : LF} {w : World} {F : Nat → Prop} : ∀ us : List Value, RepAL L w F (us.map .val) us
  | [] => trivial
  | u :: us => ⟨(RepP.val u : RepP w F (.val u) u), repAL_mk us⟩
/-- The same, with several results. -/
theorem fnOk_tupB {X : Type} {f : FuncId} (args : X → List Value) (pre : X → Prop) (res : X → List Value) (hent : ∀ args w, (callFunc f args).run P w = .ok (.enter f args) w)
    (h : ∀ x, pre x → ∀ w, TabAt [] w → Calls P f (args x).toArray w (fun e w' => e = .returned (.tuple (res x).toArray) ∧ Below w.heap.size w w')) : FnOk P f { args := fun x => (args x).map .val, pre := pre, res := fun x => .tup ((res x).map .val) : Spec X } :=
  ⟨hent, fun x hx => ⟨rfl, fun w S G hv vs hG hI ha => by
    rw [repAL_vals ha]
    refine (h x hx w hI.keeps.tab.nil).mono fun e w' hw => ?_
    obtain ⟨rfl, hb⟩ := hw
    exact ⟨_, hv, rfl, ⟨fun h ob hl => by simp [numbered, lk] at hl, fun h h' ob ob' hl => by simp [numbered, lk] at hl, fun h ob b hl => by simp [numbered, lk] at hl, Keeps.of_below hb S hI.keeps.tab, fun b hbb => hG b (Nat.le_trans hb.size hbb)⟩, fun i hi => absurd hi (by simp), ⟨res x, rfl, repAL_mk _⟩⟩⟩⟩
/-- A new row of texts. -/
theorem fnOk_strs {X : Type} {f : FuncId} (args : X → List Value) (pre : X → Prop) (res : X → List ByteArray) (ty : TypeId) (hent : ∀ args w, (callFunc f args).run P w = .ok (.enter f args) w) (hlen : ∀ x, pre x → (res x).length ≤ maxLen)
    (h : ∀ x, pre x → ∀ w, TabAt [] w → Calls P f (args x).toArray w (fun e w' => e = .returned (.slice (some ⟨w.heap.size, 0, none⟩) (res x).length (res x).length) ∧ w' = w.alloc (.cells ((res x).map Value.string).toArray ty))) :
    FnOk P f { args := fun x => (args x).map .val, pre := pre, new := fun x => [⟨ty, 1, false, (res x).map fun s => [.val (.string s)]⟩], res := fun _ => .own 0 : Spec X } :=
  ⟨hent, fun x hx => ⟨rfl, fun w S G hv vs hG hI ha => by
    rw [repAL_vals ha]
    refine (h x hx w hI.keeps.tab.nil).mono fun e w' hw => ?_
    obtain ⟨rfl, rfl⟩ := hw
    have hlk : ∀ h ob, lk h (numbered 0 ([] ++ [(⟨ty, 1, false, (res x).map fun s => [.val (.string s)]⟩ : Ob)])) = some ob → h = 0 ∧ ob = ⟨ty, 1, false, (res x).map fun s => [.val (.string s)]⟩ := fun h ob hl => by
      simp only [List.nil_append, numbered, lk] at hl
      split at hl
      · rename_i e
        exact ⟨by simpa using e, (Option.some.inj hl).symm⟩
      · cases hl
    refine ⟨_, fun _ => .slice (some ⟨w.heap.size, 0, none⟩) (res x).length (res x).length, rfl, ⟨fun h ob hl => ?_, fun h h' ob ob' hl hl' hne => ?_, fun h ob b hl hb => ?_, Keeps.of_below ((Below.refl _ w).alloc (Nat.le_refl _) _) S hI.keeps.tab, fun b hbb => hG b (Nat.le_trans ((Below.refl _ w).alloc (Nat.le_refl _) _).size hbb)⟩, fun i hi => absurd hi (by simp), ?_⟩
    · obtain ⟨rfl, rfl⟩ := hlk h ob hl
      refine ⟨(res x).map Value.string, ⟨by simp, .inr ⟨w.heap.size, (res x).length, ((res x).map Value.string).toArray, by simp, Nat.zero_le _, ⟨ty, (0, 0), by simp [World.alloc, -World.alloc_eq], .inl ⟨rfl, rfl⟩⟩, by simp, hlen x hx, by simp, by simp only [Nat.mul_one]; rw [List.take_of_length_le (by simp)]⟩⟩, fun y hy => ?_, fun i j y d hi hj => ?_⟩
      · obtain ⟨s, _, rfl⟩ := List.mem_map.1 hy
        rfl
      · simp only [List.getElem?_map, Option.map_eq_some_iff] at hi
        obtain ⟨s, hs, rfl⟩ := hi
        match j, hj with
        | 0, hj =>
          simp only [List.getElem?_cons_zero, Option.some.injEq] at hj
          subst hj
          exact ⟨.string s, by simp [hs], rfl, (RepP.val _ : RepP _ _ (.val (.string s)) _)⟩
    · exact absurd ((hlk h ob hl).1.trans (hlk h' ob' hl').1.symm) hne
    · simp only [Value.ownBlock, Option.some.injEq] at hb
      exact .inl (by omega)
    · exact ⟨1, by simp [LOf, numbered, lk]⟩⟩⟩
theorem repP_val {w : World} {F : Nat → Prop} {v u : Value} (h : RepP w F (.val v) u) : u = v := by cases h; rfl
theorem repP_str {w : World} {F : Nat → Prop} {xs : List ByteArray} {v : Value} (h : RepP w F (.sl 1 (xs.map fun s => [.val (.string s)])) v) : ∃ A c, v = .slice A xs.length c ∧ xs.length ≤ c ∧ (A = none → xs = []) ∧ ∀ ad, A = some ad → (xs ≠ [] → F ad.block ∧ ad.spot = none) ∧ ∀ j x, xs[j]? = some x → w.cell? ⟨ad.block, ad.off + j, none⟩ = some (.string x) := by
  generalize hr : xs.map (fun s => [D.val (.string s)]) = rows at h
  cases h with
  | sl sz rows A c V hg h0 hm hF hc hrr =>
    subst hr
    refine ⟨A, c, by rw [List.length_map], by rw [List.length_map] at hm; omega, fun hA => by have := (h0 hA).1; simpa using this, fun ad hA => ⟨fun hx => hF ad hA (by simpa using hx), fun j x hj => ?_⟩⟩
    have hrow : (xs.map fun s => [D.val (.string s)])[j]? = some [.val (.string x)] := by rw [List.getElem?_map, hj]; rfl
    have h1 := (hc ad j 0 _ _ hA hrow rfl).1
    have h2 := hrr j 0 _ _ hrow rfl
    rw [Nat.mul_one, Nat.add_zero] at h1
    rw [h1, repP_val h2]
/-- strings.Join, by the library's contract. -/
theorem fnOk_join {f : FuncId} (hent : ∀ args w, (callFunc f args).run P w = .ok (.enter f args) w)
    (h0 : ∀ (a : Option Addr) (c : Nat) (sep : ByteArray) (w : World), Calls P f #[.slice a 0 c, .string sep] w fun e w' => e = .returned (.string ⟨#[]⟩) ∧ w' = w)
    (h1 : ∀ (bk o c : Nat) (xs : List ByteArray) (sep : ByteArray) (w : World), (∀ (j : Nat) x, xs[j]? = some x → w.cell? ⟨bk, o + j, none⟩ = some (.string x)) → bk < w.heap.size → xs.length ≤ 140737488355328 → xs.length ≤ c →
      (Lib.join (xs.map (·.data.toList)) sep.data.toList).length ≤ 140737488355328 →
      Calls P f #[.slice (some ⟨bk, o, none⟩) xs.length c, .string sep] w fun e w' => e = .returned (.string ⟨(Lib.join (xs.map (·.data.toList)) sep.data.toList).toArray⟩) ∧ Below w.heap.size w w') :
    FnOk P f { args := fun x => [.sl 1 (x.1.map fun s => [.val (.string s)]), .val (.string x.2)], pre := fun x => x.1.length ≤ 140737488355328 ∧ (Lib.join (x.1.map (·.data.toList)) x.2.data.toList).length ≤ 140737488355328, res := fun x => .val (.string ⟨(Lib.join (x.1.map (·.data.toList)) x.2.data.toList).toArray⟩) : Spec (List ByteArray × ByteArray) } :=
  ⟨hent, fun ⟨xs, sep⟩ hx => ⟨rfl, fun w S G hv vs hG hI ha => by
    match vs, ha with
    | [v1, v2], ⟨a1, a2, _⟩ =>
      have a2' : RepP w _ (.val (.string sep)) v2 := a2
      cases a2'
      obtain ⟨A, c, rfl, hcl, hA0, hA1⟩ := repP_str (show RepP w _ (.sl 1 (xs.map fun s => [.val (.string s)])) v1 from a1)
      have fin : ∀ {w' : World} {s : ByteArray}, Below w.heap.size w w' → HInv w S G hv (numbered 0 ([] ++ [])) w' ∧ (∀ i, i < ([] : List Ob).length → hv i = hv i) ∧ Rep (LOf hv (numbered 0 ([] ++ []))) w' (FOf G hv (numbered 0 ([] ++ [])) w') (.val (.string s)) (.string s) := fun hb =>
        ⟨⟨fun h ob hl => by simp [numbered, lk] at hl, fun h h' ob ob' hl => by simp [numbered, lk] at hl, fun h ob b hl => by simp [numbered, lk] at hl, Keeps.of_below hb S hI.keeps.tab, fun b hbb => hG b (Nat.le_trans hb.size hbb)⟩, fun i hi => absurd hi (by simp), rep_mk _⟩
      by_cases hxs : xs = []
      · subst hxs
        refine (h0 A c sep w).mono fun e w' hw => ?_
        obtain ⟨he, rfl⟩ := hw
        exact ⟨_, hv, he, fin (s := ⟨#[]⟩) (Below.refl _ _)⟩
      · cases A with
        | none => exact absurd (hA0 rfl) hxs
        | some ad =>
          obtain ⟨hF, hcells⟩ := hA1 ad rfl
          obtain ⟨hF1, hF2⟩ := hF hxs
          obtain ⟨blk, off, spot⟩ := ad
          simp only at hF2
          subst hF2
          refine (h1 blk off c xs sep w hcells hF1.1.1 hx.1 hcl hx.2).mono fun e w' hw => ⟨_, hv, hw.1, fin hw.2⟩
    | [], h => exact h.elim
    | [_], ⟨_, h⟩ => exact h.elim
    | _ :: _ :: _ :: _, ⟨_, _, h⟩ => exact h.elim⟩⟩
end Go.Proofs.Ytjkhgcmdcjdipaa.Abs
