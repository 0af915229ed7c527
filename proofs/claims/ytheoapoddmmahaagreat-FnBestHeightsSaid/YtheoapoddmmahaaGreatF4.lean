import Derived.Test.YtheoapoddmmahaaGreatF3
set_option linter.unusedVariables false
set_option linter.unusedSimpArgs false
namespace Go.Proofs.YtheoapoddmmahaaGreat.Abs
open Go Go.RowKit
theorem preG_of {a b c : Int} {hs : List Int} {bs : List Bk} (hv : ∀ b ∈ bs, isBk b) (h : (!validH a b c hs || !validBs bs) = false) : PreG hs bs := by
  simp only [Bool.or_eq_false_iff, Bool.not_eq_false'] at h
  obtain ⟨h1, h2, h3⟩ := validH_b2 h.1
  obtain ⟨h4, h5⟩ := validBs_b h.2
  exact ⟨⟨hv, h4, h5⟩, h1, h2, h3⟩
noncomputable def askR (a b c : Int) (hs : List Int) (bs : List Bk) : Int := if !validH a b c hs || !validBs bs then 1 else 0
theorem codeG_1 {a b c : Int} {hs : List Int} {bs : List Bk} (h : (!validH a b c hs || !validBs bs) = true) : codeG a b c hs bs = 1 := by rw [codeG, if_pos h]
theorem codeG_6 {a b c : Int} {hs : List Int} {bs : List Bk} (h : (!validH a b c hs || !validBs bs) = false) (h2 : ask (allG hs bs) = false) : codeG a b c hs bs = 6 := by rw [codeG, if_neg (by rw [h]; simp), if_pos (by rw [h2]; rfl)]
theorem codeG_0 {a b c : Int} {hs : List Int} {bs : List Bk} (h : (!validH a b c hs || !validBs bs) = false) (h2 : ask (allG hs bs) = true) : codeG a b c hs bs = 0 := by rw [codeG, if_neg (by rw [h]; simp), if_neg (by rw [h2]; simp)]
theorem grpR_snd (hs : List Int) (bs : List Bk) : (grpR hs bs).2 = ask (allG hs bs) := by
  unfold grpR
  cases h : ask (allG hs bs) <;> simp
noncomputable def wasteO (a b c : Int) (hs : List Int) (bs : List Bk) : Int × Int := if codeG a b c hs bs != 0 then (0, codeG a b c hs bs) else (sumA (wG hs bs) (gF hs bs) bs.length, 0)

noncomputable abbrev s_S_l04Asked : Spec ((Int × Int × Int) × List Int × List Bk) where
  args := fun x => [pegs x.1, .sl 1 (i64s x.2.1), .sl 8 (bks x.2.2)]
  pre := fun x => isPegs x.1 ∧ x.2.1.length ≤ 1048576 ∧ (∀ b ∈ x.2.2, isBk b) ∧ x.2.2.length ≤ 1048576
  res := fun x => .val (.int .i64 (askR x.1.1 x.1.2.1 x.1.2.2 x.2.1 x.2.2))

set_option maxRecDepth 20000 in
set_option maxHeartbeats 4000000 in
theorem ok_S_l04Asked : FnOk Pr 46 s_S_l04Asked := by
 refine fn_ok 3 0 T0_ok Go.Proofs.Tryz.func46 rfl (enters_of Go.Proofs.Tryz.func46 rfl rfl) (fun _ => rfl) (fun _ => rfl) (fun _ => rfl) ?_
 rintro ⟨⟨a, b, c⟩, hs, bs⟩ ⟨hp, hhl, hv, hl⟩ C hP hN hm hG
 change awp C _ _ ⟨[(0, .val (.agg #[.int .i16 a, .int .i16 b, .int .i16 c])), (1, .sl 1 (i64s hs)), (2, .sl 8 (bks bs))], [], 0⟩
 simp only at hhl hv hl
 refine awp_seq ?_
 refine r1 T0_ok hP hm hN ?_
 iterate 2 refine g1 ?_
 refine awp_seq ?_
 refine awp_seq ?_
 refine r1 T0_ok hP hm hN ?_
 iterate 2 refine g1 ?_
 refine gc1 ?_ (call1 ok_S_l04Ok ((_, _, _), _) [] (hargs := (by exact args_cons arga_val (args_cons arga_slsl (args_nil)))) (hpre := by (try dsimp only); exact ⟨hp, by omega⟩))
 iterate 2 refine g1 ?_
 refine gg1 ?_
 refine ggc1 ?_ (hs := by intro hb; simp +decide only [hb, gd_tt, gd_ff, beq_self_eq_true, Bool.true_and, beq_true]; exact ⟨rfl, _, call1 ok_S_l01Ok _ [] (hpre := by (try dsimp only); exact ⟨hv, by omega⟩), rfl, rfl, rfl⟩)
 refine gg1 ?_
 refine g1 ?_
 refine awp_cond rfl (fun hc0 => ?_) (fun hc0 => ?_)
 ·
  rw [okH_validH] at hc0
  refine awp_seq ?_
  refine r1 T0_ok hP hm hN ?_
  refine g1 ?_
  refine awp_ret ?_
  refine fin_mk [] rfl rfl ?_ trivial (by decide)
  show D.val (.int .i64 (askR a b c hs bs)) = _
  rw [askR, if_pos hc0]
  rfl
 ·
  rw [okH_validH] at hc0
  refine awp_skip ?_
  refine awp_seq ?_
  refine r1 T0_ok hP hm hN ?_
  refine g1 ?_
  refine awp_ret ?_
  refine fin_mk [] rfl rfl ?_ trivial (by decide)
  show D.val (.int .i64 (askR a b c hs bs)) = _
  rw [askR, if_neg (by rw [hc0]; simp)]
  rfl


def iotaL (n : Nat) : List Int := (List.range n).map fun k : Nat => (k : Int)
theorem iotaL_len (n : Nat) : (iotaL n).length = n := by simp [iotaL]
theorem iotaL_mem {n : Nat} {v : Int} : v ∈ iotaL n ↔ 0 ≤ v ∧ v < n := by
  simp only [iotaL, List.mem_map, List.mem_range]
  constructor
  · rintro ⟨k, h, rfl⟩; omega
  · rintro ⟨h1, h2⟩; exact ⟨v.toNat, by omega, by omega⟩
def posI (xs : List Int) (x : Int) : Nat := xs.findIdx (fun v => v == x)
theorem posI_eq {xs : List Int} {x : Int} {i : Nat} (hi : i < xs.length) (h : xs.getD i 0 = x) (hb : ∀ j, j < i → xs.getD j 0 ≠ x) : posI xs x = i := by
  unfold posI
  rw [List.findIdx_eq hi]
  refine ⟨by simpa [List.getD, hi] using h, fun j hj => ?_⟩
  have := hb j hj
  simpa [List.getD, show j < xs.length by omega] using this
def hasB (l : List Int) (x : Int) : Bool := decide (x ∈ l)
def idxI (l : List Int) (x : Int) : Int := if x ∈ l then (posI l x : Int) else -1
theorem idxI_has (l : List Int) (x : Int) : decide (idxI l x ≥ 0) = hasB l x := by
  unfold idxI hasB
  by_cases h : x ∈ l <;> simp [h]
theorem idxI_mem {l : List Int} {x : Int} (h : x ∈ l) : idxI l x = (posI l x : Int) := if_pos h
theorem idxI_at {l : List Int} {x : Int} {i : Nat} (hi : i < l.length) (h : l.getD i 0 = x) (hb : ∀ j, j < i → l.getD j 0 ≠ x) : idxI l x = (i : Int) := by
  have hm : x ∈ l := by rw [← h, List.getD, List.getElem?_eq_getElem hi]; exact List.getElem_mem hi
  rw [idxI_mem hm, posI_eq hi h hb]
theorem idxI_no {l : List Int} {x : Int} (hb : ∀ j, j < l.length → l.getD j 0 ≠ x) : idxI l x = -1 := by
  refine if_neg (fun h => ?_)
  obtain ⟨j, hj, e⟩ := List.getElem_of_mem h
  exact hb j hj (by rw [List.getD, List.getElem?_eq_getElem hj]; exact e)
theorem hasB_yes {l : List Int} {x : Int} {i : Nat} (hi : i < l.length) (h : l.getD i 0 = x) : hasB l x = true := by
  have hm : x ∈ l := by rw [← h, List.getD, List.getElem?_eq_getElem hi]; exact List.getElem_mem hi
  simp [hasB, hm]
theorem hasB_no {l : List Int} {x : Int} (hb : ∀ j, j < l.length → l.getD j 0 ≠ x) : hasB l x = false := by
  simp only [hasB, decide_eq_false_iff_not]
  intro h
  obtain ⟨j, hj, e⟩ := List.getElem_of_mem h
  exact hb j hj (by rw [List.getD, List.getElem?_eq_getElem hj]; exact e)

structure MvOk (n i : Nat) (s : List Int × List Int × List (Int × Int)) : Prop where
  perm : s.1.Perm (iotaL n)
  ol : s.2.1.length ≤ n + i
  ml : s.2.2.length ≤ i
section
variable {n i : Nat} {s : List Int × List Int × List (Int × Int)} (h : MvOk n i s)
include h
theorem MvOk.len : s.1.length = n := by rw [h.perm.length_eq, iotaL_len]
theorem MvOk.mem (hi : i < n) : (i : Int) ∈ s.1 := h.perm.mem_iff.2 (iotaL_mem.2 ⟨by omega, by omega⟩)
end
noncomputable abbrev s_slices_Index_int64_int64 : Spec (List Int × Int) where
  args := fun x => [.sl 1 (i64s x.1), .val (.int .i64 x.2)]
  pre := fun x => x.1.length ≤ 9223372036854775807
  res := fun x => .val (.int .i64 (idxI x.1 x.2))

set_option maxRecDepth 20000 in
set_option maxHeartbeats 1000000 in
theorem ok_slices_Index_int64_int64 : FnOk Pr 81 s_slices_Index_int64_int64 := by
 refine fn_ok 2 0 T0_ok Go.Proofs.Tryz.func81 rfl (enters_of Go.Proofs.Tryz.func81 rfl rfl) (fun _ => rfl) (fun _ => rfl) (fun _ => rfl) ?_
 rintro ⟨xs, y⟩ hl C hP hN hm hG
 change awp C _ _ ⟨[(0, .sl 1 (i64s xs)), (1, .val (.int .i64 y))], [], 0⟩
 simp only at hl
 refine awp_seq ?_
 refine r1 T0_ok hP hm hN ?_
 refine g1 ?_
 refine awp_seq ?_
 refine awp_seq ?_
 refine r1 T0_ok hP hm hN ?_
 iterate 3 refine g1 ?_
 refine awp_block ?_
 refine awp_loop (fun n st => ∃ i : Nat, i ≤ xs.length ∧ (∀ j, j < i → xs.getD j 0 ≠ y) ∧ n = xs.length - i ∧ st = ⟨[(8, .val (.int .i64 (i : Nat))), (7, .val (.int .i64 (xs.length : Nat))), (0, .sl 1 (i64s xs)), (1, .val (.int .i64 y))], [], 0⟩) (xs.length) ⟨_, weak_sl (sub_cons rfl (sub_cons rfl (sub_cons rfl (sub_cons rfl (sub_nil))))), 0, by omega, fun j h => by omega, rfl, rfl⟩ ?_
 rintro n st ⟨i, hii, hall, hni, rfl⟩
 refine awp_seq ?_
 refine r1 T0_ok hP hm hN ?_
 refine g1 ?_
 refine awp_seq ?_
 refine awp_cond rfl (fun hc0 => ?_) (fun hc0 => ?_)
 ·
  have hlti : i < xs.length := by simpa using hc0
  refine awp_skip ?_
  refine awp_seq ?_
  refine awp_block ?_
  refine awp_seq ?_
  refine r1 T0_ok hP hm hN ?_
  iterate 2 refine g1 ?_
  refine awp_seq ?_
  refine r1 T0_ok hP hm hN ?_
  iterate 6 refine g1 ?_
  refine awp_cond rfl (fun hc1 => ?_) (fun hc1 => ?_)
  ·
   refine awp_seq ?_
   refine r1 T0_ok hP hm hN ?_
   iterate 2 refine g1 ?_
   refine awp_ret ?_
   refine fin_mk [] rfl rfl ?_ trivial (by decide)
   show D.val (.int .i64 (idxI xs y)) = _
   rw [idxI_at hlti (by have h1 := hc1; simp only [beq_iff_eq] at h1; exact h1.symm) hall]
   rfl
  ·
   refine awp_skip ?_
   refine r1 T0_ok hP hm hN ?_
   iterate 2 refine g1 ?_
   refine ⟨xs.length - (i + 1), _, by omega, weak_sl (sub_cons rfl (sub_cons rfl (sub_cons rfl (sub_cons rfl (sub_nil))))), i + 1, by omega, upto_step hall (by have h1 := hc1; simp only [beq_eq_false_iff_ne, ne_eq] at h1; exact fun e => h1 e.symm), rfl, rfl⟩
 ·
  have hgei : ¬ i < xs.length := by simpa using hc0
  have heqi : i = xs.length := by omega
  refine awp_exit ?_
  repeat refine thenA_exit ?_
  refine blockA_hit ?_
  refine awp_seq ?_
  refine r1 T0_ok hP hm hN ?_
  refine g1 ?_
  refine awp_ret ?_
  refine fin_mk [] rfl rfl ?_ trivial (by decide)
  show D.val (.int .i64 (idxI xs y)) = _
  rw [idxI_no (fun j hj => hall j (by omega))]
  rfl

noncomputable abbrev s_slices_Contains_int64_int64 : Spec (List Int × Int) where
  args := fun x => [.sl 1 (i64s x.1), .val (.int .i64 x.2)]
  pre := fun x => x.1.length ≤ 9223372036854775807
  res := fun x => .val (.bool (hasB x.1 x.2))

set_option maxRecDepth 20000 in
set_option maxHeartbeats 1000000 in
theorem ok_slices_Contains_int64_int64 : FnOk Pr 43 s_slices_Contains_int64_int64 := by
 refine fn_ok 2 0 T0_ok Go.Proofs.Tryz.func43 rfl (enters_of Go.Proofs.Tryz.func43 rfl rfl) (fun _ => rfl) (fun _ => rfl) (fun _ => rfl) ?_
 rintro ⟨xs, y⟩ hl C hP hN hm hG
 change awp C _ _ ⟨[(0, .sl 1 (i64s xs)), (1, .val (.int .i64 y))], [], 0⟩
 simp only at hl
 refine awp_seq ?_
 refine r1 T0_ok hP hm hN ?_
 refine g1 ?_
 refine awp_seq ?_
 refine r1 T0_ok hP hm hN ?_
 iterate 2 refine g1 ?_
 refine gc1 ?_ (call1 ok_slices_Index_int64_int64 (_, _) [] (hpre := by (try dsimp only); (try simp only [List.length_map]); omega))
 iterate 2 refine g1 ?_
 refine awp_ret ?_
 refine fin_mk [] rfl rfl ?_ trivial (by decide)
 show D.val (.bool (hasB xs y)) = D.val (.bool (decide (idxI xs y ≥ 0)))
 rw [idxI_has]

noncomputable abbrev s_S_l00Has : Spec (List Int × Int) where
  args := fun x => [.sl 1 (i64s x.1), .val (.int .i64 x.2)]
  pre := fun x => x.1.length ≤ 9223372036854775807
  res := fun x => .val (.bool (hasB x.1 x.2))

set_option maxRecDepth 20000 in
set_option maxHeartbeats 1000000 in
theorem ok_S_l00Has : FnOk Pr 37 s_S_l00Has := by
 refine fn_ok 2 0 T0_ok Go.Proofs.Tryz.func37 rfl (enters_of Go.Proofs.Tryz.func37 rfl rfl) (fun _ => rfl) (fun _ => rfl) (fun _ => rfl) ?_
 rintro ⟨xs, y⟩ hl C hP hN hm hG
 change awp C _ _ ⟨[(0, .sl 1 (i64s xs)), (1, .val (.int .i64 y))], [], 0⟩
 simp only at hl
 refine awp_seq ?_
 refine r1 T0_ok hP hm hN ?_
 refine g1 ?_
 refine awp_seq ?_
 refine awp_seq ?_
 refine r1 T0_ok hP hm hN ?_
 refine g1 ?_
 refine awp_block ?_
 refine awp_loop (fun n st => ∃ i : Nat, i ≤ xs.length ∧ (∀ j, j < i → xs.getD j 0 ≠ y) ∧ n = xs.length - i ∧ st = ⟨[(5, .val (.int .i64 (i : Nat))), (0, .sl 1 (i64s xs)), (1, .val (.int .i64 y))], [], 0⟩) (xs.length) ⟨_, weak_sl (sub_cons rfl (sub_cons rfl (sub_cons rfl (sub_nil)))), 0, by omega, fun j h => by omega, rfl, rfl⟩ ?_
 rintro n st ⟨i, hii, hall, hni, rfl⟩
 refine awp_seq ?_
 refine awp_seq ?_
 refine r1 T0_ok hP hm hN ?_
 iterate 4 refine g1 ?_
 refine awp_cond rfl (fun hc0 => ?_) (fun hc0 => ?_)
 ·
  have hlti : i < xs.length := by simpa using hc0
  refine awp_skip ?_
  refine awp_seq ?_
  refine awp_block ?_
  refine awp_seq ?_
  refine r1 T0_ok hP hm hN ?_
  iterate 6 refine g1 ?_
  refine awp_cond rfl (fun hc1 => ?_) (fun hc1 => ?_)
  ·
   refine awp_seq ?_
   refine r1 T0_ok hP hm hN ?_
   refine g1 ?_
   refine awp_ret ?_
   refine fin_mk [] rfl rfl ?_ trivial (by decide)
   show D.val (.bool (hasB xs y)) = _
   rw [hasB_yes hlti (by have h1 := hc1; simp only [beq_iff_eq] at h1; exact h1)]
   rfl
  ·
   refine awp_skip ?_
   refine r1 T0_ok hP hm hN ?_
   iterate 3 refine g1 ?_
   refine ⟨xs.length - (i + 1), _, by omega, weak_sl (sub_cons rfl (sub_cons rfl (sub_cons rfl (sub_nil)))), i + 1, by omega, upto_step hall (by have h1 := hc1; simp only [beq_eq_false_iff_ne, ne_eq] at h1; exact h1), rfl, rfl⟩
 ·
  have hgei : ¬ i < xs.length := by simpa using hc0
  have heqi : i = xs.length := by omega
  refine awp_exit ?_
  repeat refine thenA_exit ?_
  refine blockA_hit ?_
  refine awp_seq ?_
  refine r1 T0_ok hP hm hN ?_
  refine g1 ?_
  refine awp_ret ?_
  refine fin_mk [] rfl rfl ?_ trivial (by decide)
  show D.val (.bool (hasB xs y)) = _
  rw [hasB_no (fun j hj => hall j (by omega))]
  rfl

noncomputable abbrev s_S_l00Own : Spec (List Int) where
  args := fun xs => [.sl 1 (i64s xs)]
  pre := fun xs => xs.length ≤ 1048576
  new := fun xs => [⟨2, 1, false, i64s (xs)⟩]
  res := fun xs => .own 0

set_option maxRecDepth 20000 in
set_option maxHeartbeats 1000000 in
theorem ok_S_l00Own : FnOk Pr 47 s_S_l00Own := by
 refine fn_ok 1 0 T0_ok Go.Proofs.Tryz.func47 rfl (enters_of Go.Proofs.Tryz.func47 rfl rfl) (fun _ => rfl) (fun _ => rfl) (fun _ => rfl) ?_
 rintro xs hl C hP hN hm hG
 change awp C _ _ ⟨[(0, .sl 1 (i64s xs))], [], 0⟩
 have hl : xs.length ≤ 1048576 := hl
 refine awp_seq ?_
 refine r1 T0_ok hP hm hN ?_
 refine g1 ?_
 refine awp_seq ?_
 refine r1 T0_ok hP hm hN ?_
 iterate 2 refine g1 ?_
 refine ga1 ?_
 refine g1 ?_
 refine awp_ret ?_
 refine fin_mk [0] rfl rfl ?_ (objs_cons rfl rfl rfl rfl rfl (.inl rfl) objs_nil) (by decide)
 rfl

noncomputable abbrev s_slices_Clone_int64_int64 : Spec (List Int) where
  args := fun xs => [.sl 1 (i64s xs)]
  pre := fun xs => xs.length ≤ 1048576
  new := fun xs => [⟨2, 1, false, i64s xs⟩]
  res := fun xs => .own 0

set_option maxRecDepth 20000 in
set_option maxHeartbeats 1000000 in
theorem ok_slices_Clone_int64_int64 : FnOk Pr 45 s_slices_Clone_int64_int64 := by
 refine fn_ok 1 0 T0_ok Go.Proofs.Tryz.func45 rfl (enters_of Go.Proofs.Tryz.func45 rfl rfl) (fun _ => rfl) (fun _ => rfl) (fun _ => rfl) ?_
 rintro xs hl C hP hN hm hG
 change awp C _ _ ⟨[(0, .sl 1 (i64s xs))], [], 0⟩
 have hl : xs.length ≤ 1048576 := hl
 refine awp_seq ?_
 refine r1 T0_ok hP hm hN ?_
 refine g1 ?_
 refine awp_seq ?_
 refine awp_seq ?_
 refine awp_sreg rfl ?_
 refine sg1 T0_ok hP hm hN ?_
 refine sreg_nilcmp T0_ok hP hN (by decide) rfl rfl (fun bz hbz => ?_)
 refine sreg_rest T0_ok hP hm hN ?_
 refine awp_cond rfl (fun hc0 => ?_) (fun hc0 => ?_)
 ·
  have hxs : xs = [] := by have h := hbz hc0; simpa using h
  subst hxs
  refine awp_seq ?_
  refine r1 T0_ok hP hm hN ?_
  refine g1 ?_
  refine awp_weak (weak_nil 2 2 1 rfl) ?_
  refine awp_ret ?_
  refine fin_mk [0] rfl rfl ?_ (objs_cons rfl rfl rfl rfl rfl (.inl rfl) objs_nil) (by decide)
  rfl
 ·
  refine awp_skip ?_
  refine awp_seq ?_
  refine r1 T0_ok hP hm hN ?_
  iterate 2 refine g1 ?_
  refine ga1 ?_
  refine g1 ?_
  refine awp_ret ?_
  refine fin_mk [0] rfl rfl ?_ (objs_cons rfl rfl rfl rfl rfl (.inl rfl) objs_nil) (by decide)
  rfl
end Go.Proofs.YtheoapoddmmahaaGreat.Abs

