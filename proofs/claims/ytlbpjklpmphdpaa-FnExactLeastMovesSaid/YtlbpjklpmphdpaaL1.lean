import Derived.Test.YtlbpjklpmphdpaaW13
set_option linter.unusedVariables false
set_option linter.unusedSimpArgs false
namespace Go.Proofs.Ytlbpjklpmphdpaa.Abs
open Go Go.RowKit
def keyB (b : Bk) : List Int := [b.cls, b.m0, b.m1, b.m2, b.vol]
theorem cmpU_key (a b : Bk) : cmpU a b = cmp3 (keyB a) (keyB b) := by
  have e1 : fldS 1 = 1 := by decide
  have e2 : fldS 2 = 2 := by decide
  have e3 : fldS 3 = 3 := by decide
  simp only [cmpU, usualO, cmpBy, e1, e2, e3, cmpF, keyB, marks]
  simp only [show ¬ ((1 : Int) < 0) by omega, show ¬ ((2 : Int) < 0) by omega, show ¬ ((3 : Int) < 0) by omega, if_false, beq_self_eq_true, if_true, show ((2 : Int) == 1) = false by decide, show ((3 : Int) == 1) = false by decide, show ((3 : Int) == 2) = false by decide, Bool.false_eq_true, cmp3]
  have h0 := cmpI_cases a.cls b.cls
  have h1 := cmpI_cases a.m0 b.m0
  have h2 := cmpI_cases a.m1 b.m1
  have h3 := cmpI_cases a.m2 b.m2
  have h4 := cmpI_cases a.vol b.vol
  rcases h0 with h0 | h0 | h0 <;> rcases h1 with h1 | h1 | h1 <;> rcases h2 with h2 | h2 | h2 <;> rcases h3 with h3 | h3 | h3 <;> rcases h4 with h4 | h4 | h4 <;> simp [h0, h1, h2, h3, h4]
theorem cmpI_le {a b c : Int} : (cmpI a b = -1 ↔ a < b) ∧ (cmpI a b = 0 ↔ a = b) ∧ (cmpI a b = 1 ↔ a > b) := by
  unfold cmpI
  refine ⟨?_, ?_, ?_⟩ <;> (repeat' split) <;> omega
theorem cmp3_anti : ∀ xs ys : List Int, xs.length = ys.length → cmp3 ys xs = -cmp3 xs ys
  | [], [], _ => rfl
  | x :: xs, y :: ys, h => by
    have ih := cmp3_anti xs ys (by simpa using h)
    unfold cmp3
    rcases Int.lt_trichotomy x y with h1 | h1 | h1
    · simp [cmpI, h1, show ¬ y < x by omega]
    · subst h1; simp [cmpI, ih]
    · simp [cmpI, h1, show ¬ x < y by omega]
  | [], _ :: _, h => by simp at h
  | _ :: _, [], h => by simp at h
theorem cmp3_trans : ∀ xs ys zs : List Int, xs.length = ys.length → ys.length = zs.length → cmp3 xs ys ≤ 0 → cmp3 ys zs ≤ 0 → cmp3 xs zs ≤ 0
  | [], [], [], _, _, _, _ => by decide
  | x :: xs, y :: ys, z :: zs, h1, h2, h3, h4 => by
    have ih := cmp3_trans xs ys zs (by simpa using h1) (by simpa using h2)
    unfold cmp3 at h3 h4 ⊢
    unfold cmpI at h3 h4 ⊢
    rcases Int.lt_trichotomy x y with a | a | a <;> rcases Int.lt_trichotomy y z with b | b | b
    · simp [show x < z by omega]
    · subst b; simp [a]
    · simp [b, show ¬ y < z by omega] at h4
    · subst a; simp [b]
    · subst a; subst b; simp at h3 h4 ⊢; exact ih h3 h4
    · simp [b, show ¬ y < z by omega] at h4
    all_goals simp [a, show ¬ x < y by omega] at h3
  | [], [], _ :: _, _, h, _, _ => by simp at h
  | [], _ :: _, _, h, _, _, _ => by simp at h
  | _ :: _, [], _, h, _, _, _ => by simp at h
  | _ :: _, _ :: _, [], _, h, _, _ => by simp at h
theorem cmpU_anti (a b : Bk) : cmpU b a = -cmpU a b := by rw [cmpU_key, cmpU_key]; exact cmp3_anti _ _ rfl
theorem cmpU_trans {a b c : Bk} (h1 : cmpU a b ≤ 0) (h2 : cmpU b c ≤ 0) : cmpU a c ≤ 0 := by
  rw [cmpU_key] at *
  exact cmp3_trans (keyB a) (keyB b) (keyB c) rfl rfl h1 h2

def maxI (a b : Int) : Int := if b > a then b else a
theorem max_nrm (a b : Int) : (if b > a then b else a) = maxI a b := rfl
theorem maxI_b (a b : Int) : a ≤ maxI a b ∧ b ≤ maxI a b ∧ (maxI a b = a ∨ maxI a b = b) := by
  unfold maxI
  split <;> omega

noncomputable abbrev s_S_l00Max : Spec (Int × Int) where
  args := fun x => [.val (.int .i64 x.1), .val (.int .i64 x.2)]
  res := fun x => .val (.int .i64 (maxI x.2 x.1))

set_option maxRecDepth 20000 in
set_option maxHeartbeats 1000000 in
theorem ok_S_l00Max : FnOk Pr 46 s_S_l00Max := by
  refine fn_ok 2 0 T0_ok Go.Proofs.Try.func46 rfl (enters_of Go.Proofs.Try.func46 rfl rfl) (fun _ => rfl) (fun _ => rfl) (fun _ => rfl) ?_
  rintro ⟨a, b⟩ - C hP hN hm hG
  change awp C _ _ ⟨[(0, .val (.int .i64 a)), (1, .val (.int .i64 b))], [], 0⟩
  refine awp_seq ?_
  refine r1 T0_ok hP hm hN ?_
  refine g1 ?_
  refine awp_seq ?_
  refine awp_seq ?_
  refine r1 T0_ok hP hm hN ?_
  refine g1 ?_
  refine g1 ?_
  refine g1 ?_
  refine awp_cond rfl (fun hc0 => ?_) (fun hc0 => ?_)
  · skip
    refine awp_seq ?_
    refine r1 T0_ok hP hm hN ?_
    refine g1 ?_
    refine g1 ?_
    refine awp_ret ?_
    refine fin_mk [] rfl rfl ?_ trivial (by decide)
    show D.val (.int .i64 (maxI b a)) = _
    rw [maxI, if_pos (by simpa using hc0)]
    rfl
  · skip
    refine awp_skip ?_
    refine awp_seq ?_
    refine r1 T0_ok hP hm hN ?_
    refine g1 ?_
    refine g1 ?_
    refine awp_ret ?_
    refine fin_mk [] rfl rfl ?_ trivial (by decide)
    show D.val (.int .i64 (maxI b a)) = _
    rw [maxI, if_neg (by simpa using hc0)]
    rfl

/-- May the second one follow the first one? -/
def leU (xs : List Bk) (a b : Nat) : Bool := decide (cmpU (xs.getD a bk0) (xs.getD b bk0) ≤ 0)
theorem leU_back (xs : List Bk) (a b : Nat) : decide (cmpU (xs.getD b bk0) (xs.getD a bk0) ≥ 0) = leU xs a b := by
  unfold leU
  rw [cmpU_anti (xs.getD a bk0) (xs.getD b bk0)]
  rw [Bool.eq_iff_iff, decide_eq_true_eq, decide_eq_true_eq]
  omega
theorem maxI_comm (a b : Int) : maxI a b = maxI b a := by
  have h1 := maxI_b a b
  have h2 := maxI_b b a
  omega
theorem maxI_suc (a b : Int) : maxI (a + 1) (b + 1) = maxI b a + 1 := by
  unfold maxI
  split <;> split <;> omega
/-- The greatest of those ahead of i, of the first k, that i may follow. -/
def mbF (le : Nat → Nat → Bool) (f : List Int) (i : Nat) : Nat → Int
  | 0 => 0
  | k + 1 => if le k i then maxI (f.getD k 0) (mbF le f i k) else mbF le f i k
def labL (le : Nat → Nat → Bool) : Nat → List Int
  | 0 => []
  | i + 1 => labL le i ++ [mbF le (labL le i) i i + 1]
theorem labL_len (le : Nat → Nat → Bool) : ∀ i, (labL le i).length = i
  | 0 => rfl
  | i + 1 => by rw [labL, List.length_append, labL_len le i]; rfl
theorem mbF_b (le : Nat → Nat → Bool) {f : List Int} {m : Int} (i : Nat) (hm : 0 ≤ m) : ∀ k, (∀ j, j < k → 0 ≤ f.getD j 0 ∧ f.getD j 0 ≤ m) → 0 ≤ mbF le f i k ∧ mbF le f i k ≤ m
  | 0, _ => by simp [mbF, hm]
  | k + 1, h => by
    have ih := mbF_b le (f := f) i hm k (fun j hj => h j (by omega))
    have hk := h k (by omega)
    have hb := maxI_b (f.getD k 0) (mbF le f i k)
    rw [mbF]
    split <;> omega
theorem labL_b (le : Nat → Nat → Bool) : ∀ i j, j < i → 0 ≤ (labL le i).getD j 0 ∧ (labL le i).getD j 0 ≤ i
  | 0, j, h => by omega
  | i + 1, j, h => by
    have hl := labL_len le i
    by_cases e : j < i
    · have : (labL le (i + 1)).getD j 0 = (labL le i).getD j 0 := by
        rw [labL, List.getD, List.getD, List.getElem?_append_left (by omega)]
      have h2 := labL_b le i j e
      omega
    · have : (labL le (i + 1)).getD j 0 = mbF le (labL le i) i i + 1 := by
        rw [labL, List.getD, List.getElem?_append_right (by omega), show j - (labL le i).length = 0 by omega]; rfl
      have h2 := mbF_b le (f := labL le i) (m := (i : Int)) i (by omega) i (fun j hj => labL_b le i j hj)
      omega
theorem i64s_app (xs ys : List Int) : i64s (xs ++ ys) = i64s xs ++ i64s ys := by simp
def labR (xs : List Bk) : List Int × Int := if !validBs xs then ([], 1) else (labL (leU xs) xs.length, 0)
theorem labR_len (xs : List Bk) : (labR xs).1.length ≤ xs.length := by
  unfold labR
  split
  · simp
  · simp [labL_len]
theorem take_getD {α : Type} {d : α} {xs : List α} {i k : Nat} (h : k < i) : (xs.take i).getD k d = xs.getD k d := by
  simp [List.getD, h]

noncomputable abbrev s_S_l03Longest : Spec (List Bk) where
  args := fun xs => [.sl 8 (bks xs)]
  pre := fun xs => (∀ b ∈ xs, isBk b) ∧ xs.length ≤ 1048576
  new := fun xs => [⟨2, 1, false, i64s (labL (leU xs) xs.length)⟩]
  res := fun xs => .own 0

set_option maxRecDepth 20000 in
set_option maxHeartbeats 4000000 in
theorem ok_S_l03Longest : FnOk Pr 29 s_S_l03Longest := by
  refine fn_ok 1 0 T0_ok Go.Proofs.Try.func29 rfl (enters_of Go.Proofs.Try.func29 rfl rfl) (fun _ => rfl) (fun _ => rfl) (fun _ => rfl) ?_
  rintro xs ⟨hv, hl⟩ C hP hN hm hG
  change awp C _ _ ⟨[(0, .sl 8 (bks xs))], [], 0⟩
  refine awp_seq ?_
  refine r1 T0_ok hP hm hN ?_
  refine g1 ?_
  refine awp_seq ?_
  refine r1 T0_ok hP hm hN ?_
  refine g1 ?_
  refine g1 ?_
  refine awp_seq ?_
  refine awp_seq ?_
  refine r1 T0_ok hP hm hN ?_
  refine g1 ?_
  refine awp_block ?_
  refine awp_loop (fun n st => ∃ i : Nat, i ≤ xs.length ∧ n = xs.length - i ∧ st = ⟨[(4, .val (.int .i64 ((i : Nat) : Int))), (3, .own 0), (0, .sl 8 (bks xs))], [(0, ⟨2, 1, false, i64s (labL (leU xs) i)⟩)], 1⟩) (xs.length) ⟨_, weak_sl (sub_cons rfl (sub_cons rfl (sub_cons rfl (sub_nil)))), 0, by omega, rfl, rfl⟩ ?_
  rintro n st ⟨i, hii, hni, rfl⟩
  refine awp_seq ?_
  refine awp_seq ?_
  refine r1 T0_ok hP hm hN ?_
  refine g1 ?_
  refine g1 ?_
  refine g1 ?_
  refine g1 ?_
  refine awp_cond rfl (fun hc0 => ?_) (fun hc0 => ?_)
  · skip
    have hlti : i < xs.length := by simpa using hc0
    have hml := labL_len (leU xs) i
    have hlb := labL_b (leU xs) i
    have hmi := mbF_b (leU xs) (f := labL (leU xs) i) (m := (i : Int)) i (by omega) i (fun j hj => hlb j hj)
    refine awp_skip ?_
    refine awp_seq ?_
    refine awp_block ?_
    refine awp_seq ?_
    refine r1 T0_ok hP hm hN ?_
    refine g1 ?_
    refine awp_seq ?_
    refine awp_seq ?_
    refine r1 T0_ok hP hm hN ?_
    refine g1 ?_
    refine awp_block ?_
    refine awp_loop (fun n st => ∃ k : Nat, k ≤ i ∧ n = i - k ∧ st = ⟨[(6, .val (.int .i64 ((k : Nat) : Int))), (5, .val (.int .i64 (mbF (leU xs) (labL (leU xs) i) i k))), (4, .val (.int .i64 ((i : Nat) : Int))), (3, .own 0), (0, .sl 8 (bks xs))], [(0, ⟨2, 1, false, i64s (labL (leU xs) i)⟩)], 1⟩) (i) ⟨_, weak_sl (sub_cons rfl (sub_cons rfl (sub_cons rfl (sub_cons rfl (sub_cons rfl (sub_nil)))))), 0, by omega, rfl, rfl⟩ ?_
    rintro n st ⟨k, hik, hnk, rfl⟩
    refine awp_seq ?_
    refine awp_seq ?_
    refine r1 T0_ok hP hm hN ?_
    refine g1 ?_
    refine g1 ?_
    refine g1 ?_
    refine awp_cond rfl (fun hc1 => ?_) (fun hc1 => ?_)
    · skip
      have hltk : k < i := by simpa using hc1
      have hmk := mbF_b (leU xs) (f := labL (leU xs) i) (m := (i : Int)) i (by omega) k (fun j hj => hlb j (by omega))
      have hfk := hlb k hltk
      refine awp_skip ?_
      refine awp_seq ?_
      refine awp_block ?_
      refine awp_seq ?_
      refine awp_draw T0_ok hP hm hN Pr_mix [0, 1, 2, 3, 4, 5, 6, 7, 8, 9, 10, 11] [6] _ rfl (by rfl) ?_
      refine d1 T0_ok ?_
      refine d1 T0_ok ?_
      refine d1 T0_ok ?_
      refine d1 T0_ok ?_
      refine d1 T0_ok ?_
      refine d1 T0_ok ?_
      refine dp1 ?_ (call1 ok_S_l01Usual ((_, _, _, 0, xs.getD i bk0), (_, _, _, 0, xs.getD k bk0), false) [] (hpre := by (try dsimp only); exact ⟨⟨bks_get _ _ (by omega), hv _ (getD_mem' (by omega))⟩, ⟨bks_get _ _ (by omega), hv _ (getD_mem' (by omega))⟩⟩))
      refine d1 T0_ok ?_
      refine dreg_nil ?_
      refine awp_cond rfl (fun hc2 => ?_) (fun hc2 => ?_)
      · skip
        rw [leU_back] at hc2
        have hle : (if leU xs k i = true then maxI ((labL (leU xs) i).getD k 0) (mbF (leU xs) (labL (leU xs) i) i k) else mbF (leU xs) (labL (leU xs) i) i k) = maxI ((labL (leU xs) i).getD k 0) (mbF (leU xs) (labL (leU xs) i) i k) := if_pos hc2
        refine r1 T0_ok hP hm hN ?_
        refine g1 ?_
        refine g1 ?_
        refine g1 ?_
        refine g1 ?_
        refine g1 ?_
        refine gc1 ?_ (call1 ok_S_l00Max (_, _) [])
        refine g1 ?_
        refine r1 T0_ok hP hm hN ?_
        refine g1 ?_
        refine g1 ?_
        refine g1 ?_
        refine ⟨i - (k + 1), _, by omega, (by rw [mbF, hle]; exact weak_sl (sub_cons rfl (sub_cons rfl (sub_cons rfl (sub_cons rfl (sub_cons rfl (sub_nil))))))), k + 1, by omega, rfl, rfl⟩
      · skip
        rw [leU_back] at hc2
        have hle : (if leU xs k i = true then maxI ((labL (leU xs) i).getD k 0) (mbF (leU xs) (labL (leU xs) i) i k) else mbF (leU xs) (labL (leU xs) i) i k) = mbF (leU xs) (labL (leU xs) i) i k := if_neg (by rw [hc2]; simp)
        refine awp_skip ?_
        refine r1 T0_ok hP hm hN ?_
        refine g1 ?_
        refine g1 ?_
        refine g1 ?_
        refine ⟨i - (k + 1), _, by omega, (by rw [mbF, hle]; exact weak_sl (sub_cons rfl (sub_cons rfl (sub_cons rfl (sub_cons rfl (sub_cons rfl (sub_nil))))))), k + 1, by omega, rfl, rfl⟩
    · skip
      have hgek : ¬ k < i := by simpa using hc1
      have heqk : i = k := by omega
      subst heqk
      refine awp_exit ?_
      repeat refine thenA_exit ?_
      refine blockA_hit ?_
      refine r1 T0_ok hP hm hN ?_
      refine g1 ?_
      refine g1 ?_
      refine g1 ?_
      refine g1 ?_
      refine ga1 ?_
      refine g1 ?_
      refine r1 T0_ok hP hm hN ?_
      refine g1 ?_
      refine g1 ?_
      refine g1 ?_
      refine ⟨xs.length - (i + 1), _, by omega, (by rw [labL, i64s_app]; exact Weak.trans (weak_drop 1) (Weak.trans (weak_nx (nx' := 1) (by omega) (by rfl)) (weak_sl (sub_cons rfl (sub_cons rfl (sub_cons rfl (sub_nil))))))), i + 1, by omega, rfl, rfl⟩
  · skip
    have hgei : ¬ i < xs.length := by simpa using hc0
    have heqi : i = xs.length := by omega
    rw [heqi]
    refine awp_exit ?_
    repeat refine thenA_exit ?_
    refine blockA_hit ?_
    refine awp_seq ?_
    refine r1 T0_ok hP hm hN ?_
    refine g1 ?_
    refine g1 ?_
    refine awp_ret ?_
    refine fin_mk [0] rfl rfl ?_ (objs_cons rfl rfl rfl rfl rfl (.inl rfl) objs_nil) (by decide)
    rfl

noncomputable abbrev s_S_LabelsOf : Spec (List Bk) where
  args := fun xs => [.sl 8 (bks xs)]
  pre := fun xs => (∀ b ∈ xs, isBk b) ∧ xs.length ≤ 1048576
  new := fun xs => [⟨2, 1, false, i64s ((labR xs).1)⟩]
  res := fun xs => .tup [.own 0, .val (.int .i64 (labR xs).2)]

set_option maxRecDepth 20000 in
set_option maxHeartbeats 1000000 in
theorem ok_S_LabelsOf : FnOk Pr 9 s_S_LabelsOf := by
  refine fn_ok 1 0 T0_ok Go.Proofs.Try.func9 rfl (enters_of Go.Proofs.Try.func9 rfl rfl) (fun _ => rfl) (fun _ => rfl) (fun _ => rfl) ?_
  rintro xs ⟨hv, hl⟩ C hP hN hm hG
  change awp C _ _ ⟨[(0, .sl 8 (bks xs))], [], 0⟩
  refine awp_seq ?_
  refine r1 T0_ok hP hm hN ?_
  refine g1 ?_
  refine g1 ?_
  refine awp_seq ?_
  refine awp_seq ?_
  refine r1 T0_ok hP hm hN ?_
  refine g1 ?_
  refine gc1 ?_ (call1 ok_S_l01Ok _ [] (hpre := by (try dsimp only); exact ⟨hv, by omega⟩))
  refine g1 ?_
  refine awp_cond rfl (fun hc0 => ?_) (fun hc0 => ?_)
  · skip
    have hr : labR xs = ([], 1) := by rw [labR, if_pos hc0]
    refine awp_seq ?_
    refine r1 T0_ok hP hm hN ?_
    refine g1 ?_
    refine g1 ?_
    refine g1 ?_
    refine awp_ret ?_
    refine fin_mk [0] rfl rfl ?_ (by simp only [hr]; exact objs_cons rfl rfl rfl rfl rfl (.inl rfl) objs_nil) (by decide)
    show D.tup [.own 0, .val (.int .i64 (labR xs).2)] = _
    rw [hr]
    rfl
  · skip
    have hr : labR xs = (labL (leU xs) xs.length, 0) := by rw [labR, if_neg (by rw [hc0]; simp)]
    refine awp_skip ?_
    refine awp_seq ?_
    refine r1 T0_ok hP hm hN ?_
    refine g1 ?_
    refine gc1 ?_ (call1 ok_S_l03Longest _ [] (hpre := by (try dsimp only); exact ⟨hv, hl⟩))
    refine g1 ?_
    refine g1 ?_
    refine awp_ret ?_
    refine fin_mk [0] rfl rfl ?_ (by simp only [hr]; exact objs_cons rfl rfl rfl rfl rfl (.inl rfl) objs_nil) (by decide)
    show D.tup [.own 0, .val (.int .i64 (labR xs).2)] = _
    rw [hr]
    rfl

noncomputable abbrev s_I_LabelsOf : Spec (List Bk) where
  args := fun xs => [.sl 8 (bks xs)]
  pre := fun xs => (∀ b ∈ xs, isBk b) ∧ xs.length ≤ 1048576
  new := fun xs => [⟨2, 1, false, i64s ((labR xs).1)⟩]
  res := fun xs => .tup [.own 0, .val (.int .i64 (labR xs).2)]

set_option maxRecDepth 20000 in
set_option maxHeartbeats 4000000 in
theorem ok_I_LabelsOf : FnOk Pr 11 s_I_LabelsOf := by
  refine fn_ok 1 0 T0_ok Go.Proofs.Try.func11 rfl (enters_of Go.Proofs.Try.func11 rfl rfl) (fun _ => rfl) (fun _ => rfl) (fun _ => rfl) ?_
  rintro xs ⟨hv, hl⟩ C hP hN hm hG
  change awp C _ _ ⟨[(0, .sl 8 (bks xs))], [], 0⟩
  refine awp_seq ?_
  refine r1 T0_ok hP hm hN ?_
  refine g1 ?_ (hst := by simp +decide (disch := omega) only [nrm, lk_nrm, dc_nrm, mk_nrm, mf_nrm, ti_nrm, ls_nrm, mp_nrm, nb_nrm, hset, pick_and, pick_or, ↓reduceIte, Nat.reduceAdd, wI64, wI32, wI16, wI8, wU8, List.length_map, Int.toNat_natCast, max_nrm]; rfl)
  refine g1 ?_ (hst := by simp +decide (disch := omega) only [nrm, lk_nrm, dc_nrm, mk_nrm, mf_nrm, ti_nrm, ls_nrm, mp_nrm, nb_nrm, hset, pick_and, pick_or, ↓reduceIte, Nat.reduceAdd, wI64, wI32, wI16, wI8, wU8, List.length_map, Int.toNat_natCast, max_nrm]; rfl)
  refine awp_seq ?_
  refine awp_seq ?_
  refine r1 T0_ok hP hm hN ?_
  refine g1 ?_ (hst := by simp +decide (disch := omega) only [nrm, lk_nrm, dc_nrm, mk_nrm, mf_nrm, ti_nrm, ls_nrm, mp_nrm, nb_nrm, hset, pick_and, pick_or, ↓reduceIte, Nat.reduceAdd, wI64, wI32, wI16, wI8, wU8, List.length_map, Int.toNat_natCast, max_nrm]; rfl)
  refine gc1 ?_ (call1 ok_I_ValidBooks _ [] (hpre := by (try dsimp only); omega)) (hst := by simp +decide (disch := omega) only [nrm, lk_nrm, dc_nrm, mk_nrm, mf_nrm, ti_nrm, ls_nrm, mp_nrm, nb_nrm, hset, pick_and, pick_or, ↓reduceIte, Nat.reduceAdd, wI64, wI32, wI16, wI8, wU8, List.length_map, Int.toNat_natCast, max_nrm]; rfl)
  refine g1 ?_ (hst := by simp +decide (disch := omega) only [nrm, lk_nrm, dc_nrm, mk_nrm, mf_nrm, ti_nrm, ls_nrm, mp_nrm, nb_nrm, hset, pick_and, pick_or, ↓reduceIte, Nat.reduceAdd, wI64, wI32, wI16, wI8, wU8, List.length_map, Int.toNat_natCast, max_nrm]; rfl)
  refine awp_cond rfl (fun hc0 => ?_) (fun hc0 => ?_)
  · skip
    have hr : labR xs = ([], 1) := by rw [labR, if_pos hc0]
    refine awp_seq ?_
    refine r1 T0_ok hP hm hN ?_
    refine g1 ?_ (hst := by simp +decide (disch := omega) only [nrm, lk_nrm, dc_nrm, mk_nrm, mf_nrm, ti_nrm, ls_nrm, mp_nrm, nb_nrm, hset, pick_and, pick_or, ↓reduceIte, Nat.reduceAdd, wI64, wI32, wI16, wI8, wU8, List.length_map, Int.toNat_natCast, max_nrm]; rfl)
    refine g1 ?_ (hst := by simp +decide (disch := omega) only [nrm, lk_nrm, dc_nrm, mk_nrm, mf_nrm, ti_nrm, ls_nrm, mp_nrm, nb_nrm, hset, pick_and, pick_or, ↓reduceIte, Nat.reduceAdd, wI64, wI32, wI16, wI8, wU8, List.length_map, Int.toNat_natCast, max_nrm]; rfl)
    refine awp_weak (weak_nil 2 2 1 rfl) ?_
    refine awp_ret ?_
    refine fin_mk [0] rfl rfl ?_ (by simp only [hr]; exact objs_cons rfl rfl rfl rfl rfl (.inl rfl) objs_nil) (by decide)
    show D.tup [.own 0, .val (.int .i64 (labR xs).2)] = _
    rw [hr]
    rfl
  · skip
    have hr : labR xs = (labL (leU xs) xs.length, 0) := by rw [labR, if_neg (by rw [hc0]; simp)]
    refine awp_skip ?_
    refine awp_seq ?_
    refine r1 T0_ok hP hm hN ?_
    refine g1 ?_ (hst := by simp +decide (disch := omega) only [nrm, lk_nrm, dc_nrm, mk_nrm, mf_nrm, ti_nrm, ls_nrm, mp_nrm, nb_nrm, hset, pick_and, pick_or, ↓reduceIte, Nat.reduceAdd, wI64, wI32, wI16, wI8, wU8, List.length_map, Int.toNat_natCast, max_nrm]; rfl)
    refine awp_seq ?_
    refine awp_seq ?_
    refine r1 T0_ok hP hm hN ?_
    refine g1 ?_ (hst := by simp +decide (disch := omega) only [nrm, lk_nrm, dc_nrm, mk_nrm, mf_nrm, ti_nrm, ls_nrm, mp_nrm, nb_nrm, hset, pick_and, pick_or, ↓reduceIte, Nat.reduceAdd, wI64, wI32, wI16, wI8, wU8, List.length_map, Int.toNat_natCast, max_nrm]; rfl)
    refine g1 ?_ (hst := by simp +decide (disch := omega) only [nrm, lk_nrm, dc_nrm, mk_nrm, mf_nrm, ti_nrm, ls_nrm, mp_nrm, nb_nrm, hset, pick_and, pick_or, ↓reduceIte, Nat.reduceAdd, wI64, wI32, wI16, wI8, wU8, List.length_map, Int.toNat_natCast, max_nrm]; rfl)
    refine g1 ?_ (hst := by simp +decide (disch := omega) only [nrm, lk_nrm, dc_nrm, mk_nrm, mf_nrm, ti_nrm, ls_nrm, mp_nrm, nb_nrm, hset, pick_and, pick_or, ↓reduceIte, Nat.reduceAdd, wI64, wI32, wI16, wI8, wU8, List.length_map, Int.toNat_natCast, max_nrm]; rfl)
    refine awp_block ?_
    refine awp_loop (fun n st => ∃ i : Nat, i ≤ xs.length ∧ n = xs.length - i ∧ st = ⟨[(15, .val (.int .i64 ((i : Nat) : Int))), (14, .val (.int .i64 ((xs.length : Nat) : Int))), (13, .sl 8 (bks xs)), (4, .own 0), (0, .sl 8 (bks xs))], [(0, ⟨2, 1, false, i64s (labL (leU xs) i)⟩)], 1⟩) (xs.length) ⟨_, (by exact Weak.trans (weak_nil 4 2 1 rfl) (weak_sl (sub_cons rfl (sub_cons rfl (sub_cons rfl (sub_cons rfl (sub_cons rfl (sub_nil)))))))), 0, by omega, rfl, rfl⟩ ?_
    rintro n st ⟨i, hii, hni, rfl⟩
    refine awp_seq ?_
    refine r1 T0_ok hP hm hN ?_
    refine g1 ?_ (hst := by simp +decide (disch := omega) only [nrm, lk_nrm, dc_nrm, mk_nrm, mf_nrm, ti_nrm, ls_nrm, mp_nrm, nb_nrm, hset, pick_and, pick_or, ↓reduceIte, Nat.reduceAdd, wI64, wI32, wI16, wI8, wU8, List.length_map, Int.toNat_natCast, max_nrm]; rfl)
    refine awp_seq ?_
    refine awp_cond rfl (fun hc1 => ?_) (fun hc1 => ?_)
    · skip
      have hlti : i < xs.length := by simpa using hc1
      have htk : (xs.take i).length = i := by simp; omega
      have hml := labL_len (leU xs) i
      have hlb := labL_b (leU xs) i
      have hmi := mbF_b (leU xs) (f := labL (leU xs) i) (m := (i : Int)) i (by omega) i (fun j hj => hlb j hj)
      refine awp_skip ?_
      refine awp_seq ?_
      refine awp_block ?_
      refine awp_seq ?_
      refine r1 T0_ok hP hm hN ?_
      refine g1 ?_ (hst := by simp +decide (disch := omega) only [nrm, lk_nrm, dc_nrm, mk_nrm, mf_nrm, ti_nrm, ls_nrm, mp_nrm, nb_nrm, hset, pick_and, pick_or, ↓reduceIte, Nat.reduceAdd, wI64, wI32, wI16, wI8, wU8, List.length_map, Int.toNat_natCast, max_nrm]; rfl)
      refine g1 ?_ (hst := by simp +decide (disch := omega) only [nrm, lk_nrm, dc_nrm, mk_nrm, mf_nrm, ti_nrm, ls_nrm, mp_nrm, nb_nrm, hset, pick_and, pick_or, ↓reduceIte, Nat.reduceAdd, wI64, wI32, wI16, wI8, wU8, List.length_map, Int.toNat_natCast, max_nrm]; rfl)
      refine g1 ?_ (hst := by simp +decide (disch := omega) only [nrm, lk_nrm, dc_nrm, mk_nrm, mf_nrm, ti_nrm, ls_nrm, mp_nrm, nb_nrm, hset, pick_and, pick_or, ↓reduceIte, Nat.reduceAdd, wI64, wI32, wI16, wI8, wU8, List.length_map, Int.toNat_natCast, max_nrm]; rfl)
      refine g1 ?_ (hst := by simp +decide (disch := omega) only [nrm, lk_nrm, dc_nrm, mk_nrm, mf_nrm, ti_nrm, ls_nrm, mp_nrm, nb_nrm, hset, pick_and, pick_or, ↓reduceIte, Nat.reduceAdd, wI64, wI32, wI16, wI8, wU8, List.length_map, Int.toNat_natCast, max_nrm]; rfl)
      refine g1 ?_ (hst := by simp +decide (disch := omega) only [nrm, lk_nrm, dc_nrm, mk_nrm, mf_nrm, ti_nrm, ls_nrm, mp_nrm, nb_nrm, hset, pick_and, pick_or, ↓reduceIte, Nat.reduceAdd, wI64, wI32, wI16, wI8, wU8, List.length_map, Int.toNat_natCast, max_nrm]; rfl)
      refine g1 ?_ (hst := by simp +decide (disch := omega) only [nrm, lk_nrm, dc_nrm, mk_nrm, mf_nrm, ti_nrm, ls_nrm, mp_nrm, nb_nrm, hset, pick_and, pick_or, ↓reduceIte, Nat.reduceAdd, wI64, wI32, wI16, wI8, wU8, List.length_map, Int.toNat_natCast, max_nrm]; rfl)
      refine awp_seq ?_
      refine r1 T0_ok hP hm hN ?_
      refine g1 ?_ (hst := by simp +decide (disch := omega) only [nrm, lk_nrm, dc_nrm, mk_nrm, mf_nrm, ti_nrm, ls_nrm, mp_nrm, nb_nrm, hset, pick_and, pick_or, ↓reduceIte, Nat.reduceAdd, wI64, wI32, wI16, wI8, wU8, List.length_map, Int.toNat_natCast, max_nrm]; rfl)
      refine awp_seq ?_
      refine awp_seq ?_
      refine r1 T0_ok hP hm hN ?_
      refine g1 ?_ (hst := by simp +decide (disch := omega) only [nrm, lk_nrm, dc_nrm, mk_nrm, mf_nrm, ti_nrm, ls_nrm, mp_nrm, nb_nrm, hset, pick_and, pick_or, ↓reduceIte, Nat.reduceAdd, wI64, wI32, wI16, wI8, wU8, List.length_map, Int.toNat_natCast, max_nrm]; rfl)
      refine g1 ?_ (hst := by simp +decide (disch := omega) only [nrm, lk_nrm, dc_nrm, mk_nrm, mf_nrm, ti_nrm, ls_nrm, mp_nrm, nb_nrm, hset, pick_and, pick_or, ↓reduceIte, Nat.reduceAdd, wI64, wI32, wI16, wI8, wU8, List.length_map, Int.toNat_natCast, max_nrm]; rfl)
      refine g1 ?_ (hpre := by exact ⟨rfl, by omega, by omega, by simp only [List.length_map]; omega⟩) (hst := by simp +decide (disch := omega) only [nrm, lk_nrm, dc_nrm, mk_nrm, mf_nrm, ti_nrm, ls_nrm, mp_nrm, nb_nrm, hset, pick_and, pick_or, ↓reduceIte, Nat.reduceAdd, wI64, wI32, wI16, wI8, wU8, List.length_map, Int.toNat_natCast, max_nrm, List.drop_zero, Nat.sub_zero, Int.toNat_zero, ← List.map_take]; rfl)
      refine g1 ?_ (hst := by simp +decide (disch := omega) only [nrm, lk_nrm, dc_nrm, mk_nrm, mf_nrm, ti_nrm, ls_nrm, mp_nrm, nb_nrm, hset, pick_and, pick_or, ↓reduceIte, Nat.reduceAdd, wI64, wI32, wI16, wI8, wU8, List.length_map, Int.toNat_natCast, max_nrm, htk]; rfl)
      refine g1 ?_ (hst := by simp +decide (disch := omega) only [nrm, lk_nrm, dc_nrm, mk_nrm, mf_nrm, ti_nrm, ls_nrm, mp_nrm, nb_nrm, hset, pick_and, pick_or, ↓reduceIte, Nat.reduceAdd, wI64, wI32, wI16, wI8, wU8, List.length_map, Int.toNat_natCast, max_nrm]; rfl)
      refine awp_block ?_
      refine awp_loop (fun n st => ∃ k : Nat, k ≤ i ∧ n = i - k ∧ st = ⟨[(24, .val (.int .i64 ((k : Nat) : Int))), (23, .val (.int .i64 ((i : Nat) : Int))), (22, .sl 8 (bks (xs.take i))), (7, .val (.int .i64 (mbF (leU xs) (labL (leU xs) i) i k + 1))), (15, .val (.int .i64 ((i : Nat) : Int))), (14, .val (.int .i64 ((xs.length : Nat) : Int))), (13, .sl 8 (bks xs)), (6, .ptr 1 0 0), (4, .own 0), (0, .sl 8 (bks xs))], [(1, ⟨54, 8, true, [bkRow (xs.getD i bk0)]⟩), (0, ⟨2, 1, false, i64s (labL (leU xs) i)⟩)], 2⟩) (i) ⟨_, weak_sl (sub_cons rfl (sub_cons rfl (sub_cons rfl (sub_cons rfl (sub_cons rfl (sub_cons rfl (sub_cons rfl (sub_cons rfl (sub_cons rfl (sub_cons rfl (sub_nil))))))))))), 0, by omega, rfl, rfl⟩ ?_
      rintro n st ⟨k, hik, hnk, rfl⟩
      refine awp_seq ?_
      refine r1 T0_ok hP hm hN ?_
      refine g1 ?_ (hst := by simp +decide (disch := omega) only [nrm, lk_nrm, dc_nrm, mk_nrm, mf_nrm, ti_nrm, ls_nrm, mp_nrm, nb_nrm, hset, pick_and, pick_or, ↓reduceIte, Nat.reduceAdd, wI64, wI32, wI16, wI8, wU8, List.length_map, Int.toNat_natCast, max_nrm]; rfl)
      refine awp_seq ?_
      refine awp_cond rfl (fun hc2 => ?_) (fun hc2 => ?_)
      · skip
        have hltk : k < i := by simpa using hc2
        have hmk := mbF_b (leU xs) (f := labL (leU xs) i) (m := (i : Int)) i (by omega) k (fun j hj => hlb j (by omega))
        have hfk := hlb k hltk
        have hgk : (xs.take i).getD k bk0 = xs.getD k bk0 := take_getD hltk
        refine awp_skip ?_
        refine awp_seq ?_
        refine awp_block ?_
        refine awp_seq ?_
        refine r1 T0_ok hP hm hN ?_
        refine g1 ?_ (hst := by simp +decide (disch := omega) only [nrm, lk_nrm, dc_nrm, mk_nrm, mf_nrm, ti_nrm, ls_nrm, mp_nrm, nb_nrm, hset, pick_and, pick_or, ↓reduceIte, Nat.reduceAdd, wI64, wI32, wI16, wI8, wU8, List.length_map, Int.toNat_natCast, max_nrm]; rfl)
        refine g1 ?_ (hst := by simp +decide (disch := omega) only [nrm, lk_nrm, dc_nrm, mk_nrm, mf_nrm, ti_nrm, ls_nrm, mp_nrm, nb_nrm, hset, pick_and, pick_or, ↓reduceIte, Nat.reduceAdd, wI64, wI32, wI16, wI8, wU8, List.length_map, Int.toNat_natCast, max_nrm]; rfl)
        refine g1 ?_ (hst := by simp +decide (disch := omega) only [nrm, lk_nrm, dc_nrm, mk_nrm, mf_nrm, ti_nrm, ls_nrm, mp_nrm, nb_nrm, hset, pick_and, pick_or, ↓reduceIte, Nat.reduceAdd, wI64, wI32, wI16, wI8, wU8, List.length_map, Int.toNat_natCast, max_nrm, hgk]; rfl)
        refine g1 ?_ (hst := by simp +decide (disch := omega) only [nrm, lk_nrm, dc_nrm, mk_nrm, mf_nrm, ti_nrm, ls_nrm, mp_nrm, nb_nrm, hset, pick_and, pick_or, ↓reduceIte, Nat.reduceAdd, wI64, wI32, wI16, wI8, wU8, List.length_map, Int.toNat_natCast, max_nrm]; rfl)
        refine g1 ?_ (hst := by simp +decide (disch := omega) only [nrm, lk_nrm, dc_nrm, mk_nrm, mf_nrm, ti_nrm, ls_nrm, mp_nrm, nb_nrm, hset, pick_and, pick_or, ↓reduceIte, Nat.reduceAdd, wI64, wI32, wI16, wI8, wU8, List.length_map, Int.toNat_natCast, max_nrm]; rfl)
        refine g1 ?_ (hst := by simp +decide (disch := omega) only [nrm, lk_nrm, dc_nrm, mk_nrm, mf_nrm, ti_nrm, ls_nrm, mp_nrm, nb_nrm, hset, pick_and, pick_or, ↓reduceIte, Nat.reduceAdd, wI64, wI32, wI16, wI8, wU8, List.length_map, Int.toNat_natCast, max_nrm]; rfl)
        refine awp_seq ?_
        refine r1 T0_ok hP hm hN ?_
        refine g1 ?_ (hst := by simp +decide (disch := omega) only [nrm, lk_nrm, dc_nrm, mk_nrm, mf_nrm, ti_nrm, ls_nrm, mp_nrm, nb_nrm, hset, pick_and, pick_or, ↓reduceIte, Nat.reduceAdd, wI64, wI32, wI16, wI8, wU8, List.length_map, Int.toNat_natCast, max_nrm]; rfl)
        refine g1 ?_ (hst := by simp +decide (disch := omega) only [nrm, lk_nrm, dc_nrm, mk_nrm, mf_nrm, ti_nrm, ls_nrm, mp_nrm, nb_nrm, hset, pick_and, pick_or, ↓reduceIte, Nat.reduceAdd, wI64, wI32, wI16, wI8, wU8, List.length_map, Int.toNat_natCast, max_nrm]; rfl)
        refine gc1 ?_ (call1 ok_I_compare (_, _) []) (hst := by simp +decide (disch := omega) only [nrm, lk_nrm, dc_nrm, mk_nrm, mf_nrm, ti_nrm, ls_nrm, mp_nrm, nb_nrm, hset, pick_and, pick_or, ↓reduceIte, Nat.reduceAdd, wI64, wI32, wI16, wI8, wU8, List.length_map, Int.toNat_natCast, max_nrm]; rfl)
        refine g1 ?_ (hst := by simp +decide (disch := omega) only [nrm, lk_nrm, dc_nrm, mk_nrm, mf_nrm, ti_nrm, ls_nrm, mp_nrm, nb_nrm, hset, pick_and, pick_or, ↓reduceIte, Nat.reduceAdd, wI64, wI32, wI16, wI8, wU8, List.length_map, Int.toNat_natCast, max_nrm]; rfl)
        refine awp_cond rfl (fun hc3 => ?_) (fun hc3 => ?_)
        · skip
          have hle : maxI (mbF (leU xs) (labL (leU xs) i) i k + 1) ((labL (leU xs) i).getD k 0 + 1) = (if leU xs k i = true then maxI ((labL (leU xs) i).getD k 0) (mbF (leU xs) (labL (leU xs) i) i k) else mbF (leU xs) (labL (leU xs) i) i k) + 1 := by rw [if_pos (show leU xs k i = true from hc3), maxI_suc]
          have hmb := maxI_b (mbF (leU xs) (labL (leU xs) i) i k + 1) ((labL (leU xs) i).getD k 0 + 1)
          refine r1 T0_ok hP hm hN ?_
          refine g1 ?_ (hst := by simp +decide (disch := omega) only [nrm, lk_nrm, dc_nrm, mk_nrm, mf_nrm, ti_nrm, ls_nrm, mp_nrm, nb_nrm, hset, pick_and, pick_or, ↓reduceIte, Nat.reduceAdd, wI64, wI32, wI16, wI8, wU8, List.length_map, Int.toNat_natCast, max_nrm]; rfl)
          refine g1 ?_ (hst := by simp +decide (disch := omega) only [nrm, lk_nrm, dc_nrm, mk_nrm, mf_nrm, ti_nrm, ls_nrm, mp_nrm, nb_nrm, hset, pick_and, pick_or, ↓reduceIte, Nat.reduceAdd, wI64, wI32, wI16, wI8, wU8, List.length_map, Int.toNat_natCast, max_nrm]; rfl)
          refine g1 ?_ (hst := by simp +decide (disch := omega) only [nrm, lk_nrm, dc_nrm, mk_nrm, mf_nrm, ti_nrm, ls_nrm, mp_nrm, nb_nrm, hset, pick_and, pick_or, ↓reduceIte, Nat.reduceAdd, wI64, wI32, wI16, wI8, wU8, List.length_map, Int.toNat_natCast, max_nrm]; rfl)
          refine g1 ?_ (hst := by simp +decide (disch := omega) only [nrm, lk_nrm, dc_nrm, mk_nrm, mf_nrm, ti_nrm, ls_nrm, mp_nrm, nb_nrm, hset, pick_and, pick_or, ↓reduceIte, Nat.reduceAdd, wI64, wI32, wI16, wI8, wU8, List.length_map, Int.toNat_natCast, max_nrm]; rfl)
          refine g1 ?_ (hst := by simp +decide (disch := omega) only [nrm, lk_nrm, dc_nrm, mk_nrm, mf_nrm, ti_nrm, ls_nrm, mp_nrm, nb_nrm, hset, pick_and, pick_or, ↓reduceIte, Nat.reduceAdd, wI64, wI32, wI16, wI8, wU8, List.length_map, Int.toNat_natCast, max_nrm]; rfl)
          refine g1 ?_ (hst := by simp +decide (disch := omega) only [nrm, lk_nrm, dc_nrm, mk_nrm, mf_nrm, ti_nrm, ls_nrm, mp_nrm, nb_nrm, hset, pick_and, pick_or, ↓reduceIte, Nat.reduceAdd, wI64, wI32, wI16, wI8, wU8, List.length_map, Int.toNat_natCast, max_nrm]; rfl)
          refine g1 ?_ (hst := by simp +decide (disch := omega) only [nrm, lk_nrm, dc_nrm, mk_nrm, mf_nrm, ti_nrm, ls_nrm, mp_nrm, nb_nrm, hset, pick_and, pick_or, ↓reduceIte, Nat.reduceAdd, wI64, wI32, wI16, wI8, wU8, List.length_map, Int.toNat_natCast, max_nrm]; rfl)
          refine g1 ?_ (hst := by simp +decide (disch := omega) only [nrm, lk_nrm, dc_nrm, mk_nrm, mf_nrm, ti_nrm, ls_nrm, mp_nrm, nb_nrm, hset, pick_and, pick_or, ↓reduceIte, Nat.reduceAdd, wI64, wI32, wI16, wI8, wU8, List.length_map, Int.toNat_natCast, max_nrm]; rfl)
          refine r1 T0_ok hP hm hN ?_
          refine g1 ?_ (hst := by simp +decide (disch := omega) only [nrm, lk_nrm, dc_nrm, mk_nrm, mf_nrm, ti_nrm, ls_nrm, mp_nrm, nb_nrm, hset, pick_and, pick_or, ↓reduceIte, Nat.reduceAdd, wI64, wI32, wI16, wI8, wU8, List.length_map, Int.toNat_natCast, max_nrm]; rfl)
          refine g1 ?_ (hst := by simp +decide (disch := omega) only [nrm, lk_nrm, dc_nrm, mk_nrm, mf_nrm, ti_nrm, ls_nrm, mp_nrm, nb_nrm, hset, pick_and, pick_or, ↓reduceIte, Nat.reduceAdd, wI64, wI32, wI16, wI8, wU8, List.length_map, Int.toNat_natCast, max_nrm]; rfl)
          refine ⟨i - (k + 1), _, by omega, (by rw [mbF, hle]; exact Weak.trans (weak_drop 2) (Weak.trans (weak_nx (nx' := 2) (by omega) (by rfl)) (weak_sl (sub_cons rfl (sub_cons rfl (sub_cons rfl (sub_cons rfl (sub_cons rfl (sub_cons rfl (sub_cons rfl (sub_cons rfl (sub_cons rfl (sub_cons rfl (sub_nil)))))))))))))), k + 1, by omega, rfl, rfl⟩
        · skip
          have hle : (if leU xs k i = true then maxI ((labL (leU xs) i).getD k 0) (mbF (leU xs) (labL (leU xs) i) i k) else mbF (leU xs) (labL (leU xs) i) i k) = mbF (leU xs) (labL (leU xs) i) i k := if_neg (by rw [show leU xs k i = false from hc3]; simp)
          refine awp_skip ?_
          refine r1 T0_ok hP hm hN ?_
          refine g1 ?_ (hst := by simp +decide (disch := omega) only [nrm, lk_nrm, dc_nrm, mk_nrm, mf_nrm, ti_nrm, ls_nrm, mp_nrm, nb_nrm, hset, pick_and, pick_or, ↓reduceIte, Nat.reduceAdd, wI64, wI32, wI16, wI8, wU8, List.length_map, Int.toNat_natCast, max_nrm]; rfl)
          refine g1 ?_ (hst := by simp +decide (disch := omega) only [nrm, lk_nrm, dc_nrm, mk_nrm, mf_nrm, ti_nrm, ls_nrm, mp_nrm, nb_nrm, hset, pick_and, pick_or, ↓reduceIte, Nat.reduceAdd, wI64, wI32, wI16, wI8, wU8, List.length_map, Int.toNat_natCast, max_nrm]; rfl)
          refine ⟨i - (k + 1), _, by omega, (by rw [mbF, hle]; exact Weak.trans (weak_drop 2) (Weak.trans (weak_nx (nx' := 2) (by omega) (by rfl)) (weak_sl (sub_cons rfl (sub_cons rfl (sub_cons rfl (sub_cons rfl (sub_cons rfl (sub_cons rfl (sub_cons rfl (sub_cons rfl (sub_cons rfl (sub_cons rfl (sub_nil)))))))))))))), k + 1, by omega, rfl, rfl⟩
      · skip
        have hgek : ¬ k < i := by simpa using hc2
        have heqk : i = k := by omega
        subst heqk
        refine awp_exit ?_
        repeat refine thenA_exit ?_
        refine blockA_hit ?_
        refine r1 T0_ok hP hm hN ?_
        refine g1 ?_ (hst := by simp +decide (disch := omega) only [nrm, lk_nrm, dc_nrm, mk_nrm, mf_nrm, ti_nrm, ls_nrm, mp_nrm, nb_nrm, hset, pick_and, pick_or, ↓reduceIte, Nat.reduceAdd, wI64, wI32, wI16, wI8, wU8, List.length_map, Int.toNat_natCast, max_nrm]; rfl)
        refine g1 ?_ (hst := by simp +decide (disch := omega) only [nrm, lk_nrm, dc_nrm, mk_nrm, mf_nrm, ti_nrm, ls_nrm, mp_nrm, nb_nrm, hset, pick_and, pick_or, ↓reduceIte, Nat.reduceAdd, wI64, wI32, wI16, wI8, wU8, List.length_map, Int.toNat_natCast, max_nrm]; rfl)
        refine g1 ?_ (hst := by simp +decide (disch := omega) only [nrm, lk_nrm, dc_nrm, mk_nrm, mf_nrm, ti_nrm, ls_nrm, mp_nrm, nb_nrm, hset, pick_and, pick_or, ↓reduceIte, Nat.reduceAdd, wI64, wI32, wI16, wI8, wU8, List.length_map, Int.toNat_natCast, max_nrm]; rfl)
        refine ga1 ?_ (hst := by simp +decide (disch := omega) only [nrm, lk_nrm, dc_nrm, mk_nrm, mf_nrm, ti_nrm, ls_nrm, mp_nrm, nb_nrm, hset, pick_and, pick_or, ↓reduceIte, Nat.reduceAdd, wI64, wI32, wI16, wI8, wU8, List.length_map, Int.toNat_natCast, max_nrm]; rfl)
        refine g1 ?_ (hst := by simp +decide (disch := omega) only [nrm, lk_nrm, dc_nrm, mk_nrm, mf_nrm, ti_nrm, ls_nrm, mp_nrm, nb_nrm, hset, pick_and, pick_or, ↓reduceIte, Nat.reduceAdd, wI64, wI32, wI16, wI8, wU8, List.length_map, Int.toNat_natCast, max_nrm]; rfl)
        refine r1 T0_ok hP hm hN ?_
        refine g1 ?_ (hst := by simp +decide (disch := omega) only [nrm, lk_nrm, dc_nrm, mk_nrm, mf_nrm, ti_nrm, ls_nrm, mp_nrm, nb_nrm, hset, pick_and, pick_or, ↓reduceIte, Nat.reduceAdd, wI64, wI32, wI16, wI8, wU8, List.length_map, Int.toNat_natCast, max_nrm]; rfl)
        refine g1 ?_ (hst := by simp +decide (disch := omega) only [nrm, lk_nrm, dc_nrm, mk_nrm, mf_nrm, ti_nrm, ls_nrm, mp_nrm, nb_nrm, hset, pick_and, pick_or, ↓reduceIte, Nat.reduceAdd, wI64, wI32, wI16, wI8, wU8, List.length_map, Int.toNat_natCast, max_nrm]; rfl)
        refine ⟨xs.length - (i + 1), _, by omega, (by rw [labL, i64s_app]; exact Weak.trans (weak_drop 2) (Weak.trans (weak_drop 1) (Weak.trans (weak_nx (nx' := 1) (by omega) (by rfl)) (weak_sl (sub_cons rfl (sub_cons rfl (sub_cons rfl (sub_cons rfl (sub_cons rfl (sub_nil)))))))))), i + 1, by omega, rfl, rfl⟩
    · skip
      have hgei : ¬ i < xs.length := by simpa using hc1
      have heqi : i = xs.length := by omega
      rw [heqi]
      refine awp_exit ?_
      repeat refine thenA_exit ?_
      refine blockA_hit ?_
      refine awp_seq ?_
      refine r1 T0_ok hP hm hN ?_
      refine g1 ?_ (hst := by simp +decide (disch := omega) only [nrm, lk_nrm, dc_nrm, mk_nrm, mf_nrm, ti_nrm, ls_nrm, mp_nrm, nb_nrm, hset, pick_and, pick_or, ↓reduceIte, Nat.reduceAdd, wI64, wI32, wI16, wI8, wU8, List.length_map, Int.toNat_natCast, max_nrm]; rfl)
      refine g1 ?_ (hst := by simp +decide (disch := omega) only [nrm, lk_nrm, dc_nrm, mk_nrm, mf_nrm, ti_nrm, ls_nrm, mp_nrm, nb_nrm, hset, pick_and, pick_or, ↓reduceIte, Nat.reduceAdd, wI64, wI32, wI16, wI8, wU8, List.length_map, Int.toNat_natCast, max_nrm]; rfl)
      refine g1 ?_ (hst := by simp +decide (disch := omega) only [nrm, lk_nrm, dc_nrm, mk_nrm, mf_nrm, ti_nrm, ls_nrm, mp_nrm, nb_nrm, hset, pick_and, pick_or, ↓reduceIte, Nat.reduceAdd, wI64, wI32, wI16, wI8, wU8, List.length_map, Int.toNat_natCast, max_nrm]; rfl)
      refine awp_ret ?_
      refine fin_mk [0] rfl rfl ?_ (by simp only [hr]; exact objs_cons rfl rfl rfl rfl rfl (.inl rfl) objs_nil) (by decide)
      show D.tup [.own 0, .val (.int .i64 (labR xs).2)] = _
      rw [hr]
      rfl
end Go.Proofs.Ytlbpjklpmphdpaa.Abs
