import Derived.Test.YtjainpgohfhcaaaG4
set_option linter.unusedVariables false
set_option linter.unusedSimpArgs false
namespace Go.Proofs.Ytjainpgohfhcaaa.Abs
open Go Go.RowKit
def mapF {α β : Type} (g : α → β) (xs : List α) (i : Nat) : List β := (xs.take i).map g
theorem mapF_succ {α β : Type} {d : α} (g : α → β) {xs : List α} {i : Nat} (h : i < xs.length) : mapF g xs (i + 1) = mapF g xs i ++ [g (xs.getD i d)] := by
  have e : xs.getD i d = xs[i] := by simp [List.getD, h]
  unfold mapF
  rw [e, List.take_succ_eq_append_getElem h, List.map_append]
  rfl
theorem mapF_all {α β : Type} (g : α → β) (xs : List α) : mapF g xs xs.length = xs.map g := by simp [mapF]
theorem mapF_len {α β : Type} (g : α → β) (xs : List α) {i : Nat} (h : i ≤ xs.length) : (mapF g xs i).length = i := by simp [mapF]; omega
theorem fnCell_cases {d : D} (h : fnCell d = true) : (∃ v, d = .val v) ∨ ∃ f cs, d = .clo f cs := by
  unfold fnCell at h
  split at h
  · exact .inl ⟨_, rfl⟩
  · exact .inr ⟨_, _, rfl⟩
  · cases h
theorem i64s_app (xs ys : List Int) : i64s (xs ++ ys) = i64s xs ++ i64s ys := by simp
theorem bks_app (xs ys : List Bk) : bks (xs ++ ys) = bks xs ++ bks ys := by simp
theorem pls_app (xs ys : List Pl) : pls (xs ++ ys) = pls xs ++ pls ys := by simp

abbrev PreB (bs : List Bk) (wide : Int) : Prop := ((∀ b ∈ bs, isBk b) ∧ (∀ b ∈ bs, okBk b) ∧ bs.length ≤ 60) ∧ 1 ≤ wide ∧ wide ≤ 2000
def QOk (bs : List Bk) (q : List Int) : Prop := (∀ x ∈ q, 0 ≤ x ∧ x < bs.length) ∧ q.length ≤ 60
def wdt (bs : List Bk) (x : Int) : Int := (bs.getD x.toNat bk0).wide
theorem wdt_b {bs : List Bk} {wide : Int} (h : PreB bs wide) {x : Int} (hx : 0 ≤ x ∧ x < bs.length) : 1 ≤ (bs.getD x.toNat bk0).wide ∧ (bs.getD x.toNat bk0).wide ≤ 100 := (h.1.2.1 _ (getD_mem' (d := bk0) (show x.toNat < bs.length by omega))).1
theorem sumW_b {bs : List Bk} {wide : Int} (h : PreB bs wide) {q : List Int} (hq : QOk bs q) {i : Nat} (hi : i ≤ q.length) : 0 ≤ sumF (wdt bs) q i ∧ sumF (wdt bs) q i ≤ 6000 := by
  have hb := sumF_b (w := wdt bs) (l := q) (B := 100) (by omega) (fun x hx => by have := wdt_b h (hq.1 x hx); unfold wdt; omega) i hi
  have := hq.2
  have : (i : Int) * 100 ≤ 6000 := by omega
  omega
theorem sumF_b0 : True := trivial
def bndI (bs : List Bk) (wide : Int) (q : List Int) : Int := IntKind.i64.wrap ((sumF (wdt bs) q q.length + wide - 1).tdiv wide)
theorem grpL_ok {hs : List Int} {bs : List Bk} (h60 : bs.length ≤ 60) : ∀ q ∈ grpL hs bs, QOk bs q := fun q hq => by
  simp only [grpL, grpF, List.mem_map, List.mem_range] at hq
  obtain ⟨k, hk, rfl⟩ := hq
  exact ⟨selK_b _ _ _, by have := selK_len (gF hs bs) k bs.length; omega⟩
theorem grpL_get {hs : List Int} {bs : List Bk} (h60 : bs.length ≤ 60) {k : Nat} (hk : k < (grpL hs bs).length) : QOk bs ((grpL hs bs).getD k []) := grpL_ok h60 _ (getD_mem' hk)
theorem mem_getD {α : Type} {d x : α} {xs : List α} (h : x ∈ xs) : ∃ i, i < xs.length ∧ xs.getD i d = x := by
  obtain ⟨i, hi, e⟩ := List.getElem_of_mem h
  exact ⟨i, hi, by simp [List.getD, hi, e]⟩
noncomputable def codeS (a b c : Int) (hs : List Int) (bs : List Bk) (wide : Int) : Int := if !validH a b c hs || !validBs bs then 1 else if !inI wide 1 2000 then 2 else if !ask (allG hs bs) then 6 else if bs.any (fun b => decide (b.wide > wide)) then 4 else 0
theorem codeS_ok {a b c : Int} {hs : List Int} {bs : List Bk} {wide : Int} (h : (codeS a b c hs bs wide != 0) = false) : (!validH a b c hs || !validBs bs) = false ∧ (1 ≤ wide ∧ wide ≤ 2000) ∧ allG hs bs := by
  unfold codeS at h
  split at h
  · simp at h
  · rename_i h1
    split at h
    · simp at h
    · rename_i h2
      split at h
      · simp at h
      · rename_i h3
        refine ⟨by simpa using h1, inI_iff.1 (by simpa using h2), ask_iff.1 (by simpa using h3)⟩
noncomputable def shelO (g : List Bk → Int → List Int → Int) (a b c : Int) (hs : List Int) (bs : List Bk) (wide : Int) : List Int × Int := if codeS a b c hs bs wide != 0 then ([], codeS a b c hs bs wide) else ((grpL hs bs).map (g bs wide), 0)
theorem shelO_len (g : List Bk → Int → List Int → Int) (a b c : Int) (hs : List Int) (bs : List Bk) (wide : Int) : (shelO g a b c hs bs wide).1.length ≤ hs.length := by
  unfold shelO
  split
  · simp
  · simp [grpF_len]
theorem shelO_bad {g : List Bk → Int → List Int → Int} {a b c : Int} {hs : List Int} {bs : List Bk} {wide k : Int} (h : codeS a b c hs bs wide = k) (hk : k ≠ 0) : shelO g a b c hs bs wide = ([], k) := by
  rw [shelO, h, if_pos (by simpa using hk)]
theorem shelO_good {g : List Bk → Int → List Int → Int} {a b c : Int} {hs : List Int} {bs : List Bk} {wide : Int} (h : codeS a b c hs bs wide = 0) : shelO g a b c hs bs wide = ((grpL hs bs).map (g bs wide), 0) := by
  rw [shelO, h]; rfl

noncomputable abbrev s_I_bound : Spec (List Bk × List Int × Int) where
  args := fun x => [.sl 8 (bks x.1), .sl 1 (i64s x.2.1), .val (.int .i64 x.2.2)]
  pre := fun x => PreB x.1 x.2.2 ∧ QOk x.1 x.2.1
  res := fun x => .val (.int .i64 (bndI x.1 x.2.2 x.2.1))

set_option maxRecDepth 20000 in
set_option maxHeartbeats 4000000 in
theorem ok_I_bound : FnOk Pr 38 s_I_bound := by
  refine fn_ok 3 0 T0_ok Go.Proofs.Try.func38 rfl (enters_of Go.Proofs.Try.func38 rfl rfl) (fun _ => rfl) (fun _ => rfl) (fun _ => rfl) ?_
  rintro ⟨bs, q, wide⟩ ⟨hpb, hq⟩ C hP hN hm hG
  change awp C _ _ ⟨[(0, .sl 8 (bks bs)), (1, .sl 1 (i64s q)), (2, .val (.int .i64 wide))], [], 0⟩
  simp only at hpb hq
  have h60 := hpb.1.2.2
  have hw := hpb.2
  have hq60 := hq.2
  refine awp_seq ?_
  refine r1 T0_ok hP hm hN ?_
  refine g1 ?_
  refine awp_seq ?_
  refine r1 T0_ok hP hm hN ?_
  refine g1 ?_
  refine awp_seq ?_
  refine awp_seq ?_
  refine r1 T0_ok hP hm hN ?_
  refine g1 ?_
  refine g1 ?_
  refine g1 ?_
  refine awp_block ?_
  refine awp_loop (fun n st => ∃ i : Nat, i ≤ q.length ∧ n = q.length - i ∧ st = ⟨[(12, .val (.int .i64 ((i : Nat) : Int))), (11, .val (.int .i64 ((q.length : Nat) : Int))), (10, .sl 1 (i64s q)), (7, .val (.int .i64 (sumF (wdt bs) q i))), (0, .sl 8 (bks bs)), (2, .val (.int .i64 wide))], [], 0⟩) (q.length) ⟨_, weak_sl (sub_cons rfl (sub_cons rfl (sub_cons rfl (sub_cons rfl (sub_cons rfl (sub_cons rfl (sub_nil))))))), 0, by omega, rfl, rfl⟩ ?_
  rintro n st ⟨i, hii, hni, rfl⟩
  have hsw := sumW_b hpb hq hii
  refine awp_seq ?_
  refine r1 T0_ok hP hm hN ?_
  refine g1 ?_
  refine awp_seq ?_
  refine awp_cond rfl (fun hc0 => ?_) (fun hc0 => ?_)
  · skip
    have hlti : i < q.length := by simpa using hc0
    have hxm := hq.1 _ (getD_mem' (d := 0) hlti)
    have hwx := wdt_b hpb hxm
    have hgx := bks_get bs (q.getD i 0).toNat (by omega)
    refine awp_skip ?_
    refine awp_seq ?_
    refine awp_block ?_
    refine awp_seq ?_
    refine r1 T0_ok hP hm hN ?_
    refine g1 ?_
    refine g1 ?_
    refine g1 ?_
    refine r1 T0_ok hP hm hN ?_
    refine g1 ?_
    refine g1 ?_
    refine g1 ?_
    refine g1 ?_
    refine g1 ?_
    refine g1 ?_
    refine g1 ?_
    refine g1 ?_
    refine g1 ?_
    refine r1 T0_ok hP hm hN ?_
    refine g1 ?_
    refine g1 ?_
    refine ⟨q.length - (i + 1), _, by omega, (by rw [sumF]; exact weak_sl (sub_cons rfl (sub_cons rfl (sub_cons rfl (sub_cons rfl (sub_cons rfl (sub_cons rfl (sub_nil)))))))), i + 1, by omega, rfl, rfl⟩
  · skip
    have hgei : ¬ i < q.length := by simpa using hc0
    have heqi : i = q.length := by omega
    subst heqi
    refine awp_exit ?_
    repeat refine thenA_exit ?_
    refine blockA_hit ?_
    refine awp_seq ?_
    refine r1 T0_ok hP hm hN ?_
    refine g1 ?_
    refine g1 ?_
    refine g1 ?_
    refine g1 ?_
    refine g1 ?_
    refine g1 ?_
    refine g1 ?_
    refine awp_ret ?_
    refine fin_mk [] rfl rfl ?_ trivial (by decide)
    rfl
end Go.Proofs.Ytjainpgohfhcaaa.Abs
