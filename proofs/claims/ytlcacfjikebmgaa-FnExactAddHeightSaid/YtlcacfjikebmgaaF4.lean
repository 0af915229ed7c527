import Derived.Test.YtlcacfjikebmgaaF3
set_option linter.unusedVariables false
set_option linter.unusedSimpArgs false
namespace Go.Proofs.Ytlcacfjikebmgaa.Abs
open Go Go.RowKit
theorem preG_of {a b c : Int} {hs : List Int} {bs : List Bk} (hv : ∀ b ∈ bs, isBk b) (h : (!validH a b c hs || !validBs bs) = false) : PreG hs bs := by
  simp only [Bool.or_eq_false_iff, Bool.not_eq_false'] at h
  obtain ⟨h1, h2, h3⟩ := validH_b2 h.1
  obtain ⟨h4, h5⟩ := validBs_b h.2
  exact ⟨⟨hv, h4, h5⟩, h1, h2, h3⟩
noncomputable def askR (a b c : Int) (hs : List Int) (bs : List Bk) : Int := if !validH a b c hs || !validBs bs then 1 else 0
theorem codeG_1 {a b c : Int} {hs : List Int} {bs : List Bk} (h : (!validH a b c hs || !validBs bs) = true) : codeG a b c hs bs = 1 := by rw [codeG, if_pos h]
theorem codeG_6 {a b c : Int} {hs : List Int} {bs : List Bk} (h : (!validH a b c hs || !validBs bs) = false) (h2 : ask (allG hs bs) = false) : codeG a b c hs bs = 6 := by rw [codeG, if_neg (by rw [h]; simp), if_pos (by rw [h2]; rfl)]
theorem codeG_0 {a b c : Int} {hs : List Int} {bs : List Bk} (h : (!validH a b c hs || !validBs bs) = false) (h2 : ask (allG hs bs) = true) : codeG a b c hs bs = 0 := by rw [codeG, if_neg (by rw [h]; simp), if_neg (by rw [h2]; simp)]
theorem codeG_ok {a b c : Int} {hs : List Int} {bs : List Bk} (h : (codeG a b c hs bs != 0) = false) : (!validH a b c hs || !validBs bs) = false ∧ allG hs bs := by
  cases h1 : (!validH a b c hs || !validBs bs) with
  | true => rw [codeG_1 h1] at h; simp at h
  | false =>
    cases h2 : ask (allG hs bs) with
    | false => rw [codeG_6 h1 h2] at h; simp at h
    | true => exact ⟨rfl, ask_iff.1 h2⟩
theorem grpR_snd (hs : List Int) (bs : List Bk) : (grpR hs bs).2 = ask (allG hs bs) := by
  unfold grpR
  cases h : ask (allG hs bs) <;> simp
noncomputable def wasteO (a b c : Int) (hs : List Int) (bs : List Bk) : Int × Int := if codeG a b c hs bs != 0 then (0, codeG a b c hs bs) else (sumA (wG hs bs) (gF hs bs) bs.length, 0)

noncomputable abbrev s_S_l04Asked : Spec ((Int × Int × Int) × List Int × List Bk) where
  args := fun x => [pegs x.1, .sl 1 (i64s x.2.1), .sl 8 (bks x.2.2)]
  pre := fun x => isPegs x.1 ∧ x.2.1.length ≤ 1048576 ∧ (∀ b ∈ x.2.2, isBk b) ∧ x.2.2.length ≤ 1048576
  res := fun x => .val (.int .i64 (askR x.1.1 x.1.2.1 x.1.2.2 x.2.1 x.2.2))

set_option maxRecDepth 20000 in
set_option maxHeartbeats 4000000 in
theorem ok_S_l04Asked : FnOk Pr 35 s_S_l04Asked := by
  refine fn_ok 3 0 T0_ok Go.Proofs.Try.func35 rfl (enters_of Go.Proofs.Try.func35 rfl rfl) (fun _ => rfl) (fun _ => rfl) (fun _ => rfl) ?_
  rintro ⟨⟨a, b, c⟩, hs, bs⟩ ⟨hp, hhl, hv, hl⟩ C hP hN hm hG
  change awp C _ _ ⟨[(0, .val (.agg #[.int .i16 a, .int .i16 b, .int .i16 c])), (1, .sl 1 (i64s hs)), (2, .sl 8 (bks bs))], [], 0⟩
  simp only at hhl hv hl
  refine awp_seq ?_
  refine r1 T0_ok hP hm hN ?_
  refine g1 ?_
  refine g1 ?_
  refine awp_seq ?_
  refine awp_seq ?_
  refine r1 T0_ok hP hm hN ?_
  refine g1 ?_
  refine g1 ?_
  refine gc1 ?_ (call1 ok_S_l04Ok ((_, _, _), _) [] (hargs := (by exact args_cons arga_val (args_cons arga_slsl (args_nil)))) (hpre := by (try dsimp only); exact ⟨hp, by omega⟩))
  refine g1 ?_
  refine g1 ?_
  refine gg1 ?_
  refine ggc1 ?_ (hs := by intro hb; simp +decide only [hb, gd_tt, gd_ff, beq_self_eq_true, Bool.true_and, beq_true]; exact ⟨rfl, _, call1 ok_S_l01Ok _ [] (hpre := by (try dsimp only); exact ⟨hv, by omega⟩), rfl, rfl, rfl⟩)
  refine gg1 ?_
  refine g1 ?_
  refine awp_cond rfl (fun hc0 => ?_) (fun hc0 => ?_)
  · skip
    rw [okH_validH] at hc0
    refine awp_seq ?_
    refine r1 T0_ok hP hm hN ?_
    refine g1 ?_
    refine awp_ret ?_
    refine fin_mk [] rfl rfl ?_ trivial (by decide)
    show D.val (.int .i64 (askR a b c hs bs)) = _
    rw [askR, if_pos hc0]
    rfl
  · skip
    rw [okH_validH] at hc0
    refine awp_skip ?_
    refine awp_seq ?_
    refine r1 T0_ok hP hm hN ?_
    refine g1 ?_
    refine awp_ret ?_
    refine fin_mk [] rfl rfl ?_ trivial (by decide)
    show D.val (.int .i64 (askR a b c hs bs)) = _
    rw [askR, if_neg (by rw [hc0]; simp)]
    rfl


def iotaL (n : Nat) : List Int := (List.range n).map fun k : Nat => (k : Int)
theorem iotaL_len (n : Nat) : (iotaL n).length = n := by simp [iotaL]
theorem iotaL_mem {n : Nat} {v : Int} : v ∈ iotaL n ↔ 0 ≤ v ∧ v < n := by
  simp only [iotaL, List.mem_map, List.mem_range]
  constructor
  · rintro ⟨k, h, rfl⟩; omega
  · rintro ⟨h1, h2⟩; exact ⟨v.toNat, by omega, by omega⟩
theorem iotaL_suc (n : Nat) : iotaL (n + 1) = iotaL n ++ [(n : Int)] := by simp [iotaL, List.range_succ]
theorem iotaL_nodup (n : Nat) : (iotaL n).Nodup := by
  induction n with
  | zero => simp [iotaL]
  | succ n ih =>
    rw [iotaL_suc, List.nodup_append]
    refine ⟨ih, by simp, fun a ha b hb => ?_⟩
    have := (iotaL_mem.1 ha).2
    simp at hb
    omega
def posI (xs : List Int) (x : Int) : Nat := xs.findIdx (fun v => v == x)
theorem posI_lt {xs : List Int} {x : Int} (h : x ∈ xs) : posI xs x < xs.length := List.findIdx_lt_length.2 ⟨x, h, by simp⟩
theorem posI_get {xs : List Int} {x : Int} (h : x ∈ xs) : xs.getD (posI xs x) 0 = x := by
  have h1 := posI_lt h
  have h2 : (xs[posI xs x] == x) = true := List.findIdx_getElem (w := h1)
  rw [List.getD, List.getElem?_eq_getElem h1]
  simpa using h2
theorem posI_eq {xs : List Int} {x : Int} {i : Nat} (hi : i < xs.length) (h : xs.getD i 0 = x) (hb : ∀ j, j < i → xs.getD j 0 ≠ x) : posI xs x = i := by
  unfold posI
  rw [List.findIdx_eq hi]
  refine ⟨by simpa [List.getD, hi] using h, fun j hj => ?_⟩
  have := hb j hj
  simpa [List.getD, show j < xs.length by omega] using this
def hasB (l : List Int) (x : Int) : Bool := decide (x ∈ l)
def idxI (l : List Int) (x : Int) : Int := if x ∈ l then (posI l x : Int) else -1
theorem idxI_has (l : List Int) (x : Int) : decide (idxI l x ≥ 0) = hasB l x := by
  unfold idxI hasB
  by_cases h : x ∈ l <;> simp [h]
theorem idxI_mem {l : List Int} {x : Int} (h : x ∈ l) : idxI l x = (posI l x : Int) := if_pos h
theorem idxI_at {l : List Int} {x : Int} {i : Nat} (hi : i < l.length) (h : l.getD i 0 = x) (hb : ∀ j, j < i → l.getD j 0 ≠ x) : idxI l x = (i : Int) := by
  have hm : x ∈ l := by rw [← h, List.getD, List.getElem?_eq_getElem hi]; exact List.getElem_mem hi
  rw [idxI_mem hm, posI_eq hi h hb]
theorem idxI_no {l : List Int} {x : Int} (hb : ∀ j, j < l.length → l.getD j 0 ≠ x) : idxI l x = -1 := by
  refine if_neg (fun h => ?_)
  obtain ⟨j, hj, e⟩ := List.getElem_of_mem h
  exact hb j hj (by rw [List.getD, List.getElem?_eq_getElem hj]; exact e)
theorem hasB_yes {l : List Int} {x : Int} {i : Nat} (hi : i < l.length) (h : l.getD i 0 = x) : hasB l x = true := by
  have hm : x ∈ l := by rw [← h, List.getD, List.getElem?_eq_getElem hi]; exact List.getElem_mem hi
  simp [hasB, hm]
theorem hasB_no {l : List Int} {x : Int} (hb : ∀ j, j < l.length → l.getD j 0 ≠ x) : hasB l x = false := by
  simp only [hasB, decide_eq_false_iff_not]
  intro h
  obtain ⟨j, hj, e⟩ := List.getElem_of_mem h
  exact hb j hj (by rw [List.getD, List.getElem?_eq_getElem hj]; exact e)

/-- A list without one of its elements. -/
def restL (l : List Int) (x : Int) : List Int := l.take (posI l x) ++ l.drop (posI l x + 1)
theorem rest_split {l : List Int} {x : Int} (h : x ∈ l) : l = l.take (posI l x) ++ x :: l.drop (posI l x + 1) := by
  have h1 := posI_lt h
  have h2 := posI_get h
  have h3 : l.drop (posI l x) = x :: l.drop (posI l x + 1) := by
    rw [List.drop_eq_getElem_cons h1]
    congr 1
    rw [List.getD, List.getElem?_eq_getElem h1] at h2
    exact h2
  rw [← h3, List.take_append_drop]
theorem rest_perm {l : List Int} {x : Int} (h : x ∈ l) : (x :: restL l x).Perm l := by
  have h1 := rest_split h
  refine List.Perm.trans ?_ (List.Perm.of_eq h1.symm)
  unfold restL
  exact List.perm_middle.symm
theorem rest_len {l : List Int} {x : Int} (h : x ∈ l) : (restL l x).length + 1 = l.length := by
  have := (rest_perm h).length_eq
  simpa using this
/-- What is left of the first k. -/
def restF (l : List Int) (x : Int) (k : Nat) : List Int := (l.take k).filter (fun v => v != x)
theorem take_suc {l : List Int} {k : Nat} (h : k < l.length) : l.take (k + 1) = l.take k ++ [l.getD k 0] := by
  rw [List.take_add_one, List.getD, List.getElem?_eq_getElem h]
  rfl
theorem restF_same {l : List Int} {x : Int} {k : Nat} (h : k < l.length) (e : l.getD k 0 = x) : restF l x (k + 1) = restF l x k := by
  rw [restF, take_suc h, List.filter_append, e]
  simp [restF]
theorem restF_next {l : List Int} {x : Int} {k : Nat} (h : k < l.length) (e : l.getD k 0 ≠ x) : restF l x (k + 1) = restF l x k ++ [l.getD k 0] := by
  have e2 : (l.getD k 0 != x) = true := by simpa using e
  rw [restF, take_suc h, List.filter_append, List.filter_cons, if_pos e2]
  rfl
theorem filter_mid {a b : List Int} {x : Int} (hn : (a ++ x :: b).Nodup) : (a ++ x :: b).filter (fun v => v != x) = a ++ b := by
  rw [List.nodup_append] at hn
  obtain ⟨ha, hb, hab⟩ := hn
  have hfa : a.filter (fun v => v != x) = a := List.filter_eq_self.2 (fun v hv => by simpa using hab v hv x (by simp))
  have hfb : b.filter (fun v => v != x) = b := List.filter_eq_self.2 (fun v hv => by
    have : v ≠ x := fun e => by subst e; exact (List.nodup_cons.1 hb).1 hv
    simpa using this)
  rw [List.filter_append, List.filter_cons, hfa, hfb]
  simp
theorem restF_all {l : List Int} {x : Int} (hn : l.Nodup) (h : x ∈ l) : restF l x l.length = restL l x := by
  have h1 := rest_split h
  rw [restF, List.take_length]
  have h2 := filter_mid (a := l.take (posI l x)) (b := l.drop (posI l x + 1)) (x := x) (by rw [← h1]; exact hn)
  rw [← h1] at h2
  exact h2
/-- Behind which place of a list an element comes. -/
def toF (ok : Int → Bool) (r : List Int) : Nat → Nat
  | 0 => 0
  | k + 1 => if ok (r.getD k 0) then k + 1 else toF ok r k
theorem toF_le (ok : Int → Bool) (r : List Int) : ∀ k, toF ok r k ≤ k
  | 0 => Nat.le_refl _
  | k + 1 => by
    have := toF_le ok r k
    rw [toF]; split <;> omega
theorem toF_app (ok : Int → Bool) (r q : List Int) : ∀ k, k ≤ r.length → toF ok (r ++ q) k = toF ok r k
  | 0, _ => rfl
  | k + 1, h => by
    have ih := toF_app ok r q k (by omega)
    have e : (r ++ q).getD k 0 = r.getD k 0 := by rw [List.getD, List.getD, List.getElem?_append_left (by omega)]
    rw [toF, toF, ih, e]
theorem toF_snoc (ok : Int → Bool) (r : List Int) (y : Int) : toF ok (r ++ [y]) (r ++ [y]).length = if ok y then r.length + 1 else toF ok r r.length := by
  have e : (r ++ [y]).getD r.length 0 = y := by simp [List.getD]
  rw [show (r ++ [y]).length = r.length + 1 by simp, toF, e, toF_app ok r [y] _ (Nat.le_refl _)]
structure MvOk (n i : Nat) (s : List Int × List Int × List (Int × Int)) : Prop where
  perm : s.1.Perm (iotaL n)
  ol : s.2.1.length ≤ n + i
  ml : s.2.2.length ≤ i
section
variable {n i : Nat} {s : List Int × List Int × List (Int × Int)} (h : MvOk n i s)
include h
theorem MvOk.len : s.1.length = n := by rw [h.perm.length_eq, iotaL_len]
theorem MvOk.mem (hi : i < n) : (i : Int) ∈ s.1 := h.perm.mem_iff.2 (iotaL_mem.2 ⟨by omega, by omega⟩)
theorem MvOk.rng {x : Int} (hx : x ∈ s.1) : 0 ≤ x ∧ x < n := iotaL_mem.1 (h.perm.mem_iff.1 hx)
theorem MvOk.nd : s.1.Nodup := h.perm.nodup_iff.2 (iotaL_nodup n)
theorem MvOk.rest_rng {x y : Int} (hx : x ∈ s.1) (hy : y ∈ restL s.1 x) : 0 ≤ y ∧ y < n := h.rng ((rest_perm hx).mem_iff.1 (List.mem_cons_of_mem _ hy))
end
def mvStep (ok : List Int → Nat → Int → Bool) (i : Nat) (s : List Int × List Int × List (Int × Int)) : List Int × List Int × List (Int × Int) :=
  if hasB s.2.1 i then s else
    ((restL s.1 i).take (toF (ok s.2.1 i) (restL s.1 i) (restL s.1 i).length) ++ [(i : Int)] ++ (restL s.1 i).drop (toF (ok s.2.1 i) (restL s.1 i) (restL s.1 i).length), s.2.1 ++ [(i : Int)],
      s.2.2 ++ [((posI s.1 i : Int), ((toF (ok s.2.1 i) (restL s.1 i) (restL s.1 i).length : Nat) : Int))])
def mvS (ok : List Int → Nat → Int → Bool) (n : Nat) (own : List Int) : Nat → List Int × List Int × List (Int × Int)
  | 0 => (iotaL n, own, [])
  | i + 1 => mvStep ok i (mvS ok n own i)
theorem mvS_ok (ok : List Int → Nat → Int → Bool) {n : Nat} {own : List Int} (ho : own.length ≤ n) : ∀ i, i ≤ n → MvOk n i (mvS ok n own i)
  | 0, _ => ⟨List.Perm.refl _, by simpa [mvS] using ho, by simp [mvS]⟩
  | i + 1, hi => by
    have ih := mvS_ok ok ho i (by omega)
    rw [mvS, mvStep]
    split
    · exact ⟨ih.perm, by have := ih.ol; omega, by have := ih.ml; omega⟩
    · have hm := ih.mem (by omega)
      refine ⟨?_, by have := ih.ol; simp only [List.length_append, List.length_cons, List.length_nil]; omega, by have := ih.ml; simp only [List.length_append, List.length_cons, List.length_nil]; omega⟩
      refine List.Perm.trans ?_ ((rest_perm hm).trans ih.perm)
      simp only [List.append_assoc, List.singleton_append]
      refine List.perm_middle.trans ?_
      rw [List.take_append_drop]
theorem nd_inj {l : List Int} (h : l.Nodup) {i j : Nat} (hi : i < l.length) (hj : j < l.length) (e : l.getD i 0 = l.getD j 0) : i = j := by
  rw [List.getD, List.getD, List.getElem?_eq_getElem hi, List.getElem?_eq_getElem hj] at e
  exact (List.getElem?_inj hi h).1 (by rw [List.getElem?_eq_getElem hi, List.getElem?_eq_getElem hj]; exact congrArg some e)
def frF (p k : Nat) : Int := if p < k then (p : Int) else 0
theorem frF_hit (p : Nat) : frF p (p + 1) = (p : Int) := if_pos (by omega)
theorem frF_same {p k : Nat} (h : k ≠ p) : frF p (k + 1) = frF p k := by
  unfold frF
  by_cases h2 : p < k
  · rw [if_pos h2, if_pos (by omega)]
  · rw [if_neg h2, if_neg (by omega)]
theorem frF_b {p k n : Nat} (hp : p ≤ n) : 0 ≤ frF p k ∧ frF p k ≤ n := by
  unfold frF
  split <;> omega
theorem restF_len (l : List Int) (x : Int) (k : Nat) : (restF l x k).length ≤ k := by
  unfold restF
  have h1 := List.length_filter_le (fun v => v != x) (l.take k)
  have h2 : (l.take k).length ≤ k := by rw [List.length_take]; omega
  omega
theorem mvS_same {ok : List Int → Nat → Int → Bool} {n : Nat} {own : List Int} {i : Nat} {s : List Int × List Int × List (Int × Int)} (hs : s = mvS ok n own i) (h : hasB s.2.1 i = true) : s = mvS ok n own (i + 1) := by
  rw [mvS, ← hs, mvStep, if_pos h]
theorem mvS_next {ok : List Int → Nat → Int → Bool} {n : Nat} {own : List Int} {i : Nat} {s : List Int × List Int × List (Int × Int)} (hs : s = mvS ok n own i) (h : hasB s.2.1 i = false) :
    ((restL s.1 i).take (toF (ok s.2.1 i) (restL s.1 i) (restL s.1 i).length) ++ [(i : Int)] ++ (restL s.1 i).drop (toF (ok s.2.1 i) (restL s.1 i) (restL s.1 i).length), s.2.1 ++ [(i : Int)],
      s.2.2 ++ [((posI s.1 i : Int), ((toF (ok s.2.1 i) (restL s.1 i) (restL s.1 i).length : Nat) : Int))]) = mvS ok n own (i + 1) := by
  rw [mvS, ← hs, mvStep, if_neg (by rw [h]; simp)]

noncomputable abbrev s_slices_Index_int64_int64 : Spec (List Int × Int) where
  args := fun x => [.sl 1 (i64s x.1), .val (.int .i64 x.2)]
  pre := fun x => x.1.length ≤ 9223372036854775807
  res := fun x => .val (.int .i64 (idxI x.1 x.2))

set_option maxRecDepth 20000 in
set_option maxHeartbeats 1000000 in
theorem ok_slices_Index_int64_int64 : FnOk Pr 76 s_slices_Index_int64_int64 := by
  refine fn_ok 2 0 T0_ok Go.Proofs.Try.func76 rfl (enters_of Go.Proofs.Try.func76 rfl rfl) (fun _ => rfl) (fun _ => rfl) (fun _ => rfl) ?_
  rintro ⟨xs, y⟩ hl C hP hN hm hG
  change awp C _ _ ⟨[(0, .sl 1 (i64s xs)), (1, .val (.int .i64 y))], [], 0⟩
  simp only at hl
  refine awp_seq ?_
  refine r1 T0_ok hP hm hN ?_
  refine g1 ?_
  refine awp_seq ?_
  refine awp_seq ?_
  refine r1 T0_ok hP hm hN ?_
  refine g1 ?_
  refine g1 ?_
  refine g1 ?_
  refine awp_block ?_
  refine awp_loop (fun n st => ∃ i : Nat, i ≤ xs.length ∧ (∀ j, j < i → xs.getD j 0 ≠ y) ∧ n = xs.length - i ∧ st = ⟨[(8, .val (.int .i64 (i : Nat))), (7, .val (.int .i64 (xs.length : Nat))), (0, .sl 1 (i64s xs)), (1, .val (.int .i64 y))], [], 0⟩) (xs.length) ⟨_, weak_sl (sub_cons rfl (sub_cons rfl (sub_cons rfl (sub_cons rfl (sub_nil))))), 0, by omega, fun j h => by omega, rfl, rfl⟩ ?_
  rintro n st ⟨i, hii, hall, hni, rfl⟩
  refine awp_seq ?_
  refine r1 T0_ok hP hm hN ?_
  refine g1 ?_
  refine awp_seq ?_
  refine awp_cond rfl (fun hc0 => ?_) (fun hc0 => ?_)
  · skip
    have hlti : i < xs.length := by simpa using hc0
    refine awp_skip ?_
    refine awp_seq ?_
    refine awp_block ?_
    refine awp_seq ?_
    refine r1 T0_ok hP hm hN ?_
    refine g1 ?_
    refine g1 ?_
    refine awp_seq ?_
    refine r1 T0_ok hP hm hN ?_
    refine g1 ?_
    refine g1 ?_
    refine g1 ?_
    refine g1 ?_
    refine g1 ?_
    refine g1 ?_
    refine awp_cond rfl (fun hc1 => ?_) (fun hc1 => ?_)
    · skip
      refine awp_seq ?_
      refine r1 T0_ok hP hm hN ?_
      refine g1 ?_
      refine g1 ?_
      refine awp_ret ?_
      refine fin_mk [] rfl rfl ?_ trivial (by decide)
      show D.val (.int .i64 (idxI xs y)) = _
      rw [idxI_at hlti (by have h1 := hc1; simp only [beq_iff_eq] at h1; exact h1.symm) hall]
      rfl
    · skip
      refine awp_skip ?_
      refine r1 T0_ok hP hm hN ?_
      refine g1 ?_
      refine g1 ?_
      refine ⟨xs.length - (i + 1), _, by omega, weak_sl (sub_cons rfl (sub_cons rfl (sub_cons rfl (sub_cons rfl (sub_nil))))), i + 1, by omega, upto_step hall (by have h1 := hc1; simp only [beq_eq_false_iff_ne, ne_eq] at h1; exact fun e => h1 e.symm), rfl, rfl⟩
  · skip
    have hgei : ¬ i < xs.length := by simpa using hc0
    have heqi : i = xs.length := by omega
    refine awp_exit ?_
    repeat refine thenA_exit ?_
    refine blockA_hit ?_
    refine awp_seq ?_
    refine r1 T0_ok hP hm hN ?_
    refine g1 ?_
    refine awp_ret ?_
    refine fin_mk [] rfl rfl ?_ trivial (by decide)
    show D.val (.int .i64 (idxI xs y)) = _
    rw [idxI_no (fun j hj => hall j (by omega))]
    rfl

noncomputable abbrev s_slices_Contains_int64_int64 : Spec (List Int × Int) where
  args := fun x => [.sl 1 (i64s x.1), .val (.int .i64 x.2)]
  pre := fun x => x.1.length ≤ 9223372036854775807
  res := fun x => .val (.bool (hasB x.1 x.2))

set_option maxRecDepth 20000 in
set_option maxHeartbeats 1000000 in
theorem ok_slices_Contains_int64_int64 : FnOk Pr 42 s_slices_Contains_int64_int64 := by
  refine fn_ok 2 0 T0_ok Go.Proofs.Try.func42 rfl (enters_of Go.Proofs.Try.func42 rfl rfl) (fun _ => rfl) (fun _ => rfl) (fun _ => rfl) ?_
  rintro ⟨xs, y⟩ hl C hP hN hm hG
  change awp C _ _ ⟨[(0, .sl 1 (i64s xs)), (1, .val (.int .i64 y))], [], 0⟩
  simp only at hl
  refine awp_seq ?_
  refine r1 T0_ok hP hm hN ?_
  refine g1 ?_
  refine awp_seq ?_
  refine r1 T0_ok hP hm hN ?_
  refine g1 ?_
  refine g1 ?_
  refine gc1 ?_ (call1 ok_slices_Index_int64_int64 (_, _) [] (hpre := by (try dsimp only); (try simp only [List.length_map]); omega))
  refine g1 ?_
  refine g1 ?_
  refine awp_ret ?_
  refine fin_mk [] rfl rfl ?_ trivial (by decide)
  show D.val (.bool (hasB xs y)) = D.val (.bool (decide (idxI xs y ≥ 0)))
  rw [idxI_has]

noncomputable abbrev s_S_l00Has : Spec (List Int × Int) where
  args := fun x => [.sl 1 (i64s x.1), .val (.int .i64 x.2)]
  pre := fun x => x.1.length ≤ 9223372036854775807
  res := fun x => .val (.bool (hasB x.1 x.2))

set_option maxRecDepth 20000 in
set_option maxHeartbeats 1000000 in
theorem ok_S_l00Has : FnOk Pr 38 s_S_l00Has := by
  refine fn_ok 2 0 T0_ok Go.Proofs.Try.func38 rfl (enters_of Go.Proofs.Try.func38 rfl rfl) (fun _ => rfl) (fun _ => rfl) (fun _ => rfl) ?_
  rintro ⟨xs, y⟩ hl C hP hN hm hG
  change awp C _ _ ⟨[(0, .sl 1 (i64s xs)), (1, .val (.int .i64 y))], [], 0⟩
  simp only at hl
  refine awp_seq ?_
  refine r1 T0_ok hP hm hN ?_
  refine g1 ?_
  refine awp_seq ?_
  refine awp_seq ?_
  refine r1 T0_ok hP hm hN ?_
  refine g1 ?_
  refine awp_block ?_
  refine awp_loop (fun n st => ∃ i : Nat, i ≤ xs.length ∧ (∀ j, j < i → xs.getD j 0 ≠ y) ∧ n = xs.length - i ∧ st = ⟨[(5, .val (.int .i64 (i : Nat))), (0, .sl 1 (i64s xs)), (1, .val (.int .i64 y))], [], 0⟩) (xs.length) ⟨_, weak_sl (sub_cons rfl (sub_cons rfl (sub_cons rfl (sub_nil)))), 0, by omega, fun j h => by omega, rfl, rfl⟩ ?_
  rintro n st ⟨i, hii, hall, hni, rfl⟩
  refine awp_seq ?_
  refine awp_seq ?_
  refine r1 T0_ok hP hm hN ?_
  refine g1 ?_
  refine g1 ?_
  refine g1 ?_
  refine g1 ?_
  refine awp_cond rfl (fun hc0 => ?_) (fun hc0 => ?_)
  · skip
    have hlti : i < xs.length := by simpa using hc0
    refine awp_skip ?_
    refine awp_seq ?_
    refine awp_block ?_
    refine awp_seq ?_
    refine r1 T0_ok hP hm hN ?_
    refine g1 ?_
    refine g1 ?_
    refine g1 ?_
    refine g1 ?_
    refine g1 ?_
    refine g1 ?_
    refine awp_cond rfl (fun hc1 => ?_) (fun hc1 => ?_)
    · skip
      refine awp_seq ?_
      refine r1 T0_ok hP hm hN ?_
      refine g1 ?_
      refine awp_ret ?_
      refine fin_mk [] rfl rfl ?_ trivial (by decide)
      show D.val (.bool (hasB xs y)) = _
      rw [hasB_yes hlti (by have h1 := hc1; simp only [beq_iff_eq] at h1; exact h1)]
      rfl
    · skip
      refine awp_skip ?_
      refine r1 T0_ok hP hm hN ?_
      refine g1 ?_
      refine g1 ?_
      refine g1 ?_
      refine ⟨xs.length - (i + 1), _, by omega, weak_sl (sub_cons rfl (sub_cons rfl (sub_cons rfl (sub_nil)))), i + 1, by omega, upto_step hall (by have h1 := hc1; simp only [beq_eq_false_iff_ne, ne_eq] at h1; exact h1), rfl, rfl⟩
  · skip
    have hgei : ¬ i < xs.length := by simpa using hc0
    have heqi : i = xs.length := by omega
    refine awp_exit ?_
    repeat refine thenA_exit ?_
    refine blockA_hit ?_
    refine awp_seq ?_
    refine r1 T0_ok hP hm hN ?_
    refine g1 ?_
    refine awp_ret ?_
    refine fin_mk [] rfl rfl ?_ trivial (by decide)
    show D.val (.bool (hasB xs y)) = _
    rw [hasB_no (fun j hj => hall j (by omega))]
    rfl

noncomputable abbrev s_S_l00Own : Spec (List Int) where
  args := fun xs => [.sl 1 (i64s xs)]
  pre := fun xs => xs.length ≤ 1048576
  new := fun xs => [⟨2, 1, false, i64s (xs)⟩]
  res := fun xs => .own 0

set_option maxRecDepth 20000 in
set_option maxHeartbeats 1000000 in
theorem ok_S_l00Own : FnOk Pr 37 s_S_l00Own := by
  refine fn_ok 1 0 T0_ok Go.Proofs.Try.func37 rfl (enters_of Go.Proofs.Try.func37 rfl rfl) (fun _ => rfl) (fun _ => rfl) (fun _ => rfl) ?_
  rintro xs hl C hP hN hm hG
  change awp C _ _ ⟨[(0, .sl 1 (i64s xs))], [], 0⟩
  have hl : xs.length ≤ 1048576 := hl
  refine awp_seq ?_
  refine r1 T0_ok hP hm hN ?_
  refine g1 ?_
  refine awp_seq ?_
  refine r1 T0_ok hP hm hN ?_
  refine g1 ?_
  refine g1 ?_
  refine ga1 ?_
  refine g1 ?_
  refine awp_ret ?_
  refine fin_mk [0] rfl rfl ?_ (objs_cons rfl rfl rfl rfl rfl (.inl rfl) objs_nil) (by decide)
  rfl

noncomputable abbrev s_slices_Clone_int64_int64 : Spec (List Int) where
  args := fun xs => [.sl 1 (i64s xs)]
  pre := fun xs => xs.length ≤ 1048576
  new := fun xs => [⟨2, 1, false, i64s xs⟩]
  res := fun xs => .own 0

set_option maxRecDepth 20000 in
set_option maxHeartbeats 1000000 in
theorem ok_slices_Clone_int64_int64 : FnOk Pr 45 s_slices_Clone_int64_int64 := by
  refine fn_ok 1 0 T0_ok Go.Proofs.Try.func45 rfl (enters_of Go.Proofs.Try.func45 rfl rfl) (fun _ => rfl) (fun _ => rfl) (fun _ => rfl) ?_
  rintro xs hl C hP hN hm hG
  change awp C _ _ ⟨[(0, .sl 1 (i64s xs))], [], 0⟩
  have hl : xs.length ≤ 1048576 := hl
  refine awp_seq ?_
  refine r1 T0_ok hP hm hN ?_
  refine g1 ?_
  refine awp_seq ?_
  refine awp_seq ?_
  refine awp_sreg rfl ?_
  refine sg1 T0_ok hP hm hN ?_
  refine sreg_nilcmp T0_ok hP hN (by decide) rfl rfl (fun bz hbz => ?_)
  refine sreg_rest T0_ok hP hm hN ?_
  refine awp_cond rfl (fun hc0 => ?_) (fun hc0 => ?_)
  · skip
    have hxs : xs = [] := by have h := hbz hc0; simpa using h
    subst hxs
    refine awp_seq ?_
    refine r1 T0_ok hP hm hN ?_
    refine g1 ?_
    refine awp_weak (weak_nil 2 2 1 rfl) ?_
    refine awp_ret ?_
    refine fin_mk [0] rfl rfl ?_ (objs_cons rfl rfl rfl rfl rfl (.inl rfl) objs_nil) (by decide)
    rfl
  · skip
    refine awp_skip ?_
    refine awp_seq ?_
    refine r1 T0_ok hP hm hN ?_
    refine g1 ?_
    refine g1 ?_
    refine ga1 ?_
    refine g1 ?_
    refine awp_ret ?_
    refine fin_mk [0] rfl rfl ?_ (objs_cons rfl rfl rfl rfl rfl (.inl rfl) objs_nil) (by decide)
    rfl
end Go.Proofs.Ytlcacfjikebmgaa.Abs
