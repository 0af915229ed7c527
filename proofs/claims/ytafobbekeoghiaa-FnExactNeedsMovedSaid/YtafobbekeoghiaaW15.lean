import Derived.Test.YtafobbekeoghiaaW14
set_option linter.unusedVariables false
set_option linter.unusedSimpArgs false
namespace Go.Proofs.Ytafobbekeoghiaa.Abs
open Go Go.RowKit
def fstOf {α : Type} (p : α → Bool) (xs : List α) : Int := if idxOf p xs ≥ 0 then idxOf p xs else xs.length
theorem fstOf_lt {α : Type} (p : α → Bool) (xs : List α) : 0 ≤ fstOf p xs ∧ fstOf p xs ≤ xs.length := by
  have := idxOf_lt p xs
  unfold fstOf
  split <;> omega
theorem fstOf_none {α : Type} (p : α → Bool) (xs : List α) : (fstOf p xs == (xs.length : Int)) = decide (idxOf p xs < 0) := by
  have := idxOf_lt p xs
  unfold fstOf
  rw [Bool.eq_iff_iff, beq_iff_eq, decide_eq_true_eq]
  split <;> omega
theorem fstOf_some {α : Type} {p : α → Bool} {xs : List α} (h : ¬ idxOf p xs < 0) : fstOf p xs = idxOf p xs := by
  unfold fstOf
  rw [if_pos (by omega)]
def keyB (b : Bk) : List Int := [b.cls, b.m0, b.m1, b.m2, b.vol]
theorem cmpU_key (a b : Bk) : cmpU a b = cmp3 (keyB a) (keyB b) := by
  have e1 : fldS 1 = 1 := by decide
  have e2 : fldS 2 = 2 := by decide
  have e3 : fldS 3 = 3 := by decide
  simp only [cmpU, usualO, cmpBy, e1, e2, e3, cmpF, keyB, marks]
  simp only [show ¬ ((1 : Int) < 0) by omega, show ¬ ((2 : Int) < 0) by omega, show ¬ ((3 : Int) < 0) by omega, if_false, beq_self_eq_true, if_true, show ((2 : Int) == 1) = false by decide, show ((3 : Int) == 1) = false by decide, show ((3 : Int) == 2) = false by decide, Bool.false_eq_true, cmp3]
  have h0 := cmpI_cases a.cls b.cls
  have h1 := cmpI_cases a.m0 b.m0
  have h2 := cmpI_cases a.m1 b.m1
  have h3 := cmpI_cases a.m2 b.m2
  have h4 := cmpI_cases a.vol b.vol
  rcases h0 with h0 | h0 | h0 <;> rcases h1 with h1 | h1 | h1 <;> rcases h2 with h2 | h2 | h2 <;> rcases h3 with h3 | h3 | h3 <;> rcases h4 with h4 | h4 | h4 <;> simp [h0, h1, h2, h3, h4]
theorem cmpI_le {a b c : Int} : (cmpI a b = -1 ↔ a < b) ∧ (cmpI a b = 0 ↔ a = b) ∧ (cmpI a b = 1 ↔ a > b) := by
  unfold cmpI
  refine ⟨?_, ?_, ?_⟩ <;> (repeat' split) <;> omega
theorem cmp3_anti : ∀ xs ys : List Int, xs.length = ys.length → cmp3 ys xs = -cmp3 xs ys
  | [], [], _ => rfl
  | x :: xs, y :: ys, h => by
    have ih := cmp3_anti xs ys (by simpa using h)
    unfold cmp3
    rcases Int.lt_trichotomy x y with h1 | h1 | h1
    · simp [cmpI, h1, show ¬ y < x by omega]
    · subst h1; simp [cmpI, ih]
    · simp [cmpI, h1, show ¬ x < y by omega]
  | [], _ :: _, h => by simp at h
  | _ :: _, [], h => by simp at h
theorem cmp3_trans : ∀ xs ys zs : List Int, xs.length = ys.length → ys.length = zs.length → cmp3 xs ys ≤ 0 → cmp3 ys zs ≤ 0 → cmp3 xs zs ≤ 0
  | [], [], [], _, _, _, _ => by decide
  | x :: xs, y :: ys, z :: zs, h1, h2, h3, h4 => by
    have ih := cmp3_trans xs ys zs (by simpa using h1) (by simpa using h2)
    unfold cmp3 at h3 h4 ⊢
    unfold cmpI at h3 h4 ⊢
    rcases Int.lt_trichotomy x y with a | a | a <;> rcases Int.lt_trichotomy y z with b | b | b
    · simp [show x < z by omega]
    · subst b; simp [a]
    · simp [b, show ¬ y < z by omega] at h4
    · subst a; simp [b]
    · subst a; subst b; simp at h3 h4 ⊢; exact ih h3 h4
    · simp [b, show ¬ y < z by omega] at h4
    all_goals simp [a, show ¬ x < y by omega] at h3
  | [], [], _ :: _, _, h, _, _ => by simp at h
  | [], _ :: _, _, h, _, _, _ => by simp at h
  | _ :: _, [], _, h, _, _, _ => by simp at h
  | _ :: _, _ :: _, [], _, h, _, _ => by simp at h
theorem cmpU_anti (a b : Bk) : cmpU b a = -cmpU a b := by rw [cmpU_key, cmpU_key]; exact cmp3_anti _ _ rfl
theorem cmpU_trans {a b c : Bk} (h1 : cmpU a b ≤ 0) (h2 : cmpU b c ≤ 0) : cmpU a c ≤ 0 := by
  rw [cmpU_key] at *
  exact cmp3_trans (keyB a) (keyB b) (keyB c) rfl rfl h1 h2
/-- How many stay when those at the end go that say yes. -/
def placeN (q : Nat → Bool) : Nat → Nat
  | 0 => 0
  | n + 1 => if q n then placeN q n else n + 1
theorem placeN_le (q : Nat → Bool) : ∀ n, placeN q n ≤ n
  | 0 => Nat.le_refl _
  | n + 1 => by
    unfold placeN
    split
    · exact Nat.le_succ_of_le (placeN_le q n)
    · exact Nat.le_refl _
theorem placeN_step {q : Nat → Bool} {n : Nat} (h0 : 0 < n) (h : q (n - 1) = true) : placeN q n = placeN q (n - 1) := by
  obtain ⟨m, rfl⟩ : ∃ m, n = m + 1 := ⟨n - 1, by omega⟩
  simp only [Nat.add_sub_cancel] at h
  rw [placeN, if_pos h]; rfl
theorem placeN_stop {q : Nat → Bool} {n : Nat} (h : n = 0 ∨ q (n - 1) = false) : placeN q n = n := by
  cases n with
  | zero => rfl
  | succ n =>
    rcases h with h | h
    · omega
    · simp only [Nat.add_sub_cancel] at h
      rw [placeN, if_neg (by rw [h]; simp)]
/-- With a property that stays once it holds, the first one that has it is where the last ones end. -/
theorem placeN_first {q : Nat → Bool} {n k : Nat} (hm : ∀ j, j + 1 < n → q j = true → q (j + 1) = true) (hk : k ≤ n) (h1 : ∀ j, j < k → q j = false) (h2 : k < n → q k = true) : placeN q n = k := by
  induction n with
  | zero => simp [placeN]; omega
  | succ n ih =>
    by_cases e : k = n + 1
    · rw [e]
      exact placeN_stop (.inr (h1 n (by omega)))
    · have hall : ∀ j, k ≤ j → j ≤ n → q j = true := by
        intro j
        induction j with
        | zero => intro h3 _; have : k = 0 := by omega
                  subst this; exact h2 (by omega)
        | succ j ihj =>
          intro h3 h4
          by_cases e2 : k = j + 1
          · subst e2; exact h2 (by omega)
          · exact hm j (by omega) (ihj (by omega) (by omega))
      rw [placeN, if_pos (hall n (by omega) (Nat.le_refl _))]
      exact ih (fun j hj => hm j (by omega)) (by omega) (fun h => h2 (by omega))
def beforeB (x : Bk) (bs : List Bk) (n : Nat) : Bool := decide (cmpU x (bs.getD n bk0) < 0)
abbrev aboveP (x : Bk) (p : Pl) : Bool := decide (cmpU p.2 x > 0)
theorem place_fst {x : Bk} {xs : List Pl} (hs : sortedB cmpU (xs.map Prod.snd) = true) : ((placeN (beforeB x (xs.map Prod.snd)) xs.length : Nat) : Int) = fstOf (aboveP x) xs := by
  rw [sortedB, ask_iff] at hs
  have hg : ∀ j, j < xs.length → (xs.map Prod.snd).getD j bk0 = (xs.getD j pl0).2 := fun j hj => by simp [List.getD, hj]
  have hq : ∀ j, j < xs.length → beforeB x (xs.map Prod.snd) j = aboveP x (xs.getD j pl0) := fun j hj => by
    unfold beforeB
    rw [hg j hj]
    show decide (cmpU x (xs.getD j pl0).2 < 0) = decide (cmpU (xs.getD j pl0).2 x > 0)
    rw [cmpU_anti (xs.getD j pl0).2 x]
    by_cases h : cmpU (xs.getD j pl0).2 x > 0
    · simp [h]
    · simp [h]
  have hmono : ∀ j, j + 1 < xs.length → beforeB x (xs.map Prod.snd) j = true → beforeB x (xs.map Prod.snd) (j + 1) = true := fun j hj h => by
    have h1 := hs j (by rw [List.length_map]; exact hj)
    unfold beforeB at h ⊢
    simp only [decide_eq_true_eq] at h ⊢
    rcases Int.lt_or_le (cmpU x ((xs.map Prod.snd).getD (j + 1) bk0)) 0 with h2 | h2
    · exact h2
    · exfalso
      have h3 : cmpU ((xs.map Prod.snd).getD (j + 1) bk0) x ≤ 0 := by rw [cmpU_anti x]; omega
      have h4 : cmpU ((xs.map Prod.snd).getD j bk0) ((xs.map Prod.snd).getD (j + 1) bk0) ≤ 0 := by rw [cmpU_anti ((xs.map Prod.snd).getD (j + 1) bk0)]; omega
      have h5 := cmpU_trans h4 h3
      rw [cmpU_anti x] at h5
      omega
  have hi := idxOf_lt (aboveP x) xs
  cases h : xs.findIdx? (aboveP x) with
  | none =>
    have e1 : idxOf (aboveP x) xs = -1 := by simp [idxOf, h]
    rw [fstOf, e1, if_neg (by omega)]
    rw [List.findIdx?_eq_none_iff] at h
    congr 1
    refine placeN_first hmono (Nat.le_refl _) (fun j hj => ?_) (fun h => by omega)
    rw [hq j hj]
    exact h _ (getD_mem' hj)
  | some i =>
    have e1 : idxOf (aboveP x) xs = i := by simp [idxOf, h]
    rw [fstOf, e1, if_pos (by omega)]
    rw [List.findIdx?_eq_some_iff_getElem] at h
    obtain ⟨h1, h2, h3⟩ := h
    congr 1
    refine placeN_first hmono (by omega) (fun j hj => ?_) (fun _ => ?_)
    · rw [hq j (by omega)]
      have := h3 j hj
      simpa [List.getD, show j < xs.length by omega] using this
    · rw [hq i h1]
      simpa [List.getD, h1] using h2
def roomR (p : Int) (xs : List Pl) (k : Int) : Int × Int :=
  let a := if k > 0 then (xs.getD (k - 1).toNat pl0).1 + 1 else 0
  let b := if k < xs.length then (xs.getD k.toNat pl0).1 else p
  (a, b - a)
def roomForR (ok : Bool) (p : Int) (xs : List Pl) (b : Bk) (k : Int) : Int × Int × Int := if !ok || !validB b then (0, 0, 1) else ((roomR p xs k).1, (roomR p xs k).2, 0)

noncomputable abbrev s_S_l01Place : Spec (List Bk × Nat × List (List D) × Nat × Bk) where
  args := fun x => [.sl 8 (bks x.1), .rptr x.2.1 x.2.2.1 x.2.2.2.1 0]
  pre := fun x => ((∀ b ∈ x.1, isBk b) ∧ x.1.length ≤ 1048576) ∧ x.2.2.1[x.2.2.2.1]? = some (bkRow x.2.2.2.2) ∧ isBk x.2.2.2.2
  res := fun x => .val (.int .i64 ((placeN (beforeB x.2.2.2.2 x.1) x.1.length : Nat) : Int))

set_option maxRecDepth 20000 in
set_option maxHeartbeats 1000000 in
theorem ok_S_l01Place : FnOk Pr 56 s_S_l01Place := by
  refine fn_ok 2 0 T0_ok Go.Proofs.Try.func56 rfl (enters_of Go.Proofs.Try.func56 rfl rfl) (fun _ => rfl) (fun _ => rfl) (fun _ => rfl) ?_
  rintro ⟨bs, sz, rows, a, x⟩ ⟨⟨hv, hl⟩, hrow, hb0⟩ C hP hN hm hG
  change awp C _ _ ⟨[(0, .sl 8 (bks bs)), (1, .rptr sz rows a 0)], [], 0⟩
  simp only at hv hl hrow hb0
  refine awp_seq ?_
  refine r1 T0_ok hP hm hN ?_
  refine g1 ?_
  refine awp_seq ?_
  refine r1 T0_ok hP hm hN ?_
  refine g1 ?_
  refine g1 ?_
  refine g1 ?_
  refine awp_seq ?_
  refine awp_block ?_
  refine awp_loop (fun n st => ∃ i : Nat, i ≤ bs.length ∧ placeN (beforeB x bs) bs.length = placeN (beforeB x bs) i ∧ n = i ∧ st = ⟨[(5, .val (.int .i64 (i : Nat))), (0, .sl 8 (bks bs)), (1, .rptr sz rows a 0)], [], 0⟩) bs.length ⟨_, weak_sl (sub_cons rfl (sub_cons rfl (sub_cons rfl sub_nil))), bs.length, Nat.le_refl _, rfl, rfl, rfl⟩ ?_
  rintro n st ⟨i, hii, hall, hn, rfl⟩
  refine awp_seq ?_
  refine awp_seq ?_
  refine r1 T0_ok hP hm hN ?_
  refine g1 ?_
  refine g1 ?_
  refine g1 ?_
  refine gg1 ?_
  refine gg1 ?_
  refine gg1 ?_
  refine gg1 ?_
  refine gg1 ?_ (hs := by intro hb; simp +decide only [hb, gd_tt, gd_ff, beq_self_eq_true, Bool.true_and, beq_true]; exact ⟨_, by first | rfl | exact astep_load_r (by rfl) (by rfl) (by exact i64s_get _ _ (by omega)) (by rfl) | exact astep_load_r (by rfl) (by rfl) (by first | exact bks_get _ _ (by omega) | exact pls_get _ _ (by omega) | exact ints_get _ _ _ (by omega) | exact boolD_get _ _ (by omega) | exact i64ss_get _ _ (by omega) | assumption) (by rfl) | exact astep_store_p (by rfl) (by rfl) (by rfl) (by rfl) (by exact i64s_get _ _ (by omega)), by exact ⟨rfl, (by simp at hb; omega), (by simp only [List.length_map]; omega)⟩⟩)
  refine ggc1 ?_ (hs := by intro hb; simp +decide only [hb, gd_tt, gd_ff, beq_self_eq_true, Bool.true_and, beq_true]; exact ⟨rfl, _, call1 ok_S_l01Usual ((_, _, _, 0, x), (_, _, _, 0, bs.getD ((i : Int) - 1).toNat bk0), false) [] (hpre := by (try dsimp only); (simp at hb; exact ⟨⟨hrow, hb0⟩, ⟨bks_get _ _ (by omega), hv _ (getD_mem' (by omega))⟩⟩)), rfl, rfl, rfl⟩)
  refine gg1 ?_
  refine g1 ?_
  refine awp_cond rfl (fun hc0 => ?_) (fun hc0 => ?_)
  · skip
    simp only [Bool.and_eq_true, decide_eq_true_eq] at hc0
    have hi0 : 0 < i := by omega
    have hq : beforeB x bs (i - 1) = true := by unfold beforeB; rw [show i - 1 = ((i : Int) - 1).toNat by omega]; simpa using hc0.2
    refine awp_skip ?_
    refine awp_block ?_
    refine r1 T0_ok hP hm hN ?_
    refine g1 ?_
    refine g1 ?_
    refine g1 ?_
    refine ⟨i - 1, _, by omega, (by rw [show ((i - 1 : Nat) : Int) = (i : Int) - 1 by omega]; exact weak_sl (sub_cons rfl (sub_cons rfl (sub_cons rfl sub_nil)))), i - 1, by omega, by rw [hall, placeN_step hi0 hq], rfl, rfl⟩
  · skip
    have hst : i = 0 ∨ beforeB x bs (i - 1) = false := by
      by_cases h0 : i = 0
      · exact .inl h0
      · right
        simp only [Bool.and_eq_false_iff, decide_eq_false_iff_not] at hc0
        rcases hc0 with h | h
        · omega
        · unfold beforeB; rw [show i - 1 = ((i : Int) - 1).toNat by omega]; simpa using h
    refine awp_exit ?_
    repeat refine thenA_exit ?_
    refine blockA_hit ?_
    refine awp_seq ?_
    refine r1 T0_ok hP hm hN ?_
    refine g1 ?_
    refine g1 ?_
    refine awp_ret ?_
    refine fin_mk [] rfl rfl ?_ trivial (by decide)
    show D.val (.int .i64 ((placeN (beforeB x bs) bs.length : Nat) : Int)) = _
    rw [hall, placeN_stop hst]
    rfl

noncomputable abbrev s_S_l05Index : Spec ((Int × List Pl) × Nat × List (List D) × Nat × Bk) where
  args := fun x => [.rptr 2 [[.val (.int .i16 x.1.1), .sl 9 (pls x.1.2)]] 0 0, .rptr x.2.1 x.2.2.1 x.2.2.2.1 0]
  pre := fun x => ((∀ b ∈ x.1.2, isPl b) ∧ x.1.2.length ≤ 1048576) ∧ x.2.2.1[x.2.2.2.1]? = some (bkRow x.2.2.2.2) ∧ isBk x.2.2.2.2
  res := fun x => .val (.int .i64 ((placeN (beforeB x.2.2.2.2 (x.1.2.map Prod.snd)) x.1.2.length : Nat) : Int))

set_option maxRecDepth 20000 in
set_option maxHeartbeats 1000000 in
theorem ok_S_l05Index : FnOk Pr 37 s_S_l05Index := by
  refine fn_ok 2 0 T0_ok Go.Proofs.Try.func37 rfl (enters_of Go.Proofs.Try.func37 rfl rfl) (fun _ => rfl) (fun _ => rfl) (fun _ => rfl) ?_
  rintro ⟨⟨p, xs⟩, sz, rows, a, x⟩ ⟨⟨hv, hl⟩, hrow, hb0⟩ C hP hN hm hG
  change awp C _ _ ⟨[(0, .rptr 2 [[.val (.int .i16 p), .sl 9 (pls xs)]] 0 0), (1, .rptr sz rows a 0)], [], 0⟩
  simp only at hv hl hrow hb0
  refine awp_seq ?_
  refine r1 T0_ok hP hm hN ?_
  refine g1 ?_
  refine awp_seq ?_
  refine r1 T0_ok hP hm hN ?_
  refine g1 ?_
  refine gc1 ?_ (call1 ok_S_l05Books (_, _) [] (hpre := by (try dsimp only); exact hl))
  refine g1 ?_
  refine gc1 ?_ (call1 ok_S_l01Place (_, _, _, _, x) [] (hpre := by (try dsimp only); exact ⟨⟨fun b hb => by obtain ⟨y, hy, rfl⟩ := List.mem_map.1 hb; exact (hv y hy).2, by simp only [List.length_map]; omega⟩, hrow, hb0⟩))
  refine g1 ?_
  refine awp_ret ?_
  refine fin_mk [] rfl rfl ?_ trivial (by decide)
  rfl

noncomputable abbrev s_S_l05Room : Spec ((Int × List Pl) × Int) where
  args := fun x => [.rptr 2 [[.val (.int .i16 x.1.1), .sl 9 (pls x.1.2)]] 0 0, .val (.int .i64 x.2)]
  pre := fun x => x.1.2.length ≤ 1048576 ∧ ((isI16 x.1.1 ∧ ∀ b ∈ x.1.2, isPl b) ∧ 0 ≤ x.2 ∧ x.2 ≤ x.1.2.length)
  res := fun x => .tup [.val (.int .i64 (roomR x.1.1 x.1.2 x.2).1), .val (.int .i64 (roomR x.1.1 x.1.2 x.2).2)]

set_option maxRecDepth 20000 in
set_option maxHeartbeats 1000000 in
theorem ok_S_l05Room : FnOk Pr 38 s_S_l05Room := by
  refine fn_ok 2 0 T0_ok Go.Proofs.Try.func38 rfl (enters_of Go.Proofs.Try.func38 rfl rfl) (fun _ => rfl) (fun _ => rfl) (fun _ => rfl) ?_
  rintro ⟨⟨p, xs⟩, k⟩ ⟨hl, ⟨hpp, hv⟩, hk1, hk2⟩ C hP hN hm hG
  change awp C _ _ ⟨[(0, .rptr 2 [[.val (.int .i16 p), .sl 9 (pls xs)]] 0 0), (1, .val (.int .i64 k))], [], 0⟩
  simp only at hv hl hk1 hk2
  have hpp : -32768 ≤ p ∧ p ≤ 32767 := hpp
  refine awp_seq ?_
  refine r1 T0_ok hP hm hN ?_
  refine g1 ?_
  refine g1 ?_
  refine awp_seq ?_
  refine r1 T0_ok hP hm hN ?_
  refine g1 ?_
  refine awp_seq ?_
  refine r1 T0_ok hP hm hN ?_
  refine g1 ?_
  refine g1 ?_
  refine g1 ?_
  refine g1 ?_
  refine g1 ?_
  refine g1 ?_
  refine awp_seq ?_
  refine awp_seq ?_
  refine r1 T0_ok hP hm hN ?_
  refine g1 ?_
  refine g1 ?_
  refine awp_cond rfl (fun hc0 => ?_) (fun hc0 => ?_)
  · skip
    have hk0 : 0 < k := by simpa using hc0
    have hp1 := hv _ (getD_mem' (d := pl0) (show (k - 1).toNat < xs.length by omega))
    have hp2 : -32768 ≤ (xs.getD (k - 1).toNat pl0).1 ∧ (xs.getD (k - 1).toNat pl0).1 ≤ 32767 := hp1.1
    have ea : (if k > 0 then (xs.getD (k - 1).toNat pl0).1 + 1 else 0) = (xs.getD (k - 1).toNat pl0).1 + 1 := if_pos hk0
    refine r1 T0_ok hP hm hN ?_
    refine g1 ?_
    refine g1 ?_
    refine g1 ?_
    refine g1 ?_
    refine g1 ?_
    refine g1 ?_
    refine g1 ?_
    refine g1 ?_
    refine g1 ?_
    refine g1 ?_
    refine g1 ?_
    refine g1 ?_
    refine awp_seq ?_
    refine awp_seq ?_
    refine r1 T0_ok hP hm hN ?_
    refine g1 ?_
    refine g1 ?_
    refine g1 ?_
    refine g1 ?_
    refine g1 ?_
    refine g1 ?_
    refine g1 ?_
    refine awp_cond rfl (fun hcy => ?_) (fun hcy => ?_)
    · skip
      have hkl : k < xs.length := by simpa using hcy
      have hq1 := hv _ (getD_mem' (d := pl0) (show k.toNat < xs.length by omega))
      have hq2 : -32768 ≤ (xs.getD k.toNat pl0).1 ∧ (xs.getD k.toNat pl0).1 ≤ 32767 := hq1.1
      have eb : (if k < xs.length then (xs.getD k.toNat pl0).1 else p) = (xs.getD k.toNat pl0).1 := if_pos hkl
      refine r1 T0_ok hP hm hN ?_
      refine g1 ?_
      refine g1 ?_
      refine g1 ?_
      refine g1 ?_
      refine g1 ?_
      refine g1 ?_
      refine g1 ?_
      refine g1 ?_
      refine g1 ?_
      refine g1 ?_
      refine awp_seq ?_
      refine r1 T0_ok hP hm hN ?_
      refine g1 ?_
      refine g1 ?_
      refine g1 ?_
      refine g1 ?_
      refine g1 ?_
      refine g1 ?_
      refine awp_ret ?_
      refine fin_mk [] rfl rfl ?_ trivial (by decide)
      show D.tup [.val (.int .i64 (roomR p xs k).1), .val (.int .i64 (roomR p xs k).2)] = _
      simp only [roomR, ea, eb]
      rfl
    · skip
      have hkl : ¬ k < xs.length := by simpa using hcy
      have eb : (if k < xs.length then (xs.getD k.toNat pl0).1 else p) = p := if_neg hkl
      refine awp_skip ?_
      refine awp_seq ?_
      refine r1 T0_ok hP hm hN ?_
      refine g1 ?_
      refine g1 ?_
      refine g1 ?_
      refine g1 ?_
      refine g1 ?_
      refine g1 ?_
      refine awp_ret ?_
      refine fin_mk [] rfl rfl ?_ trivial (by decide)
      show D.tup [.val (.int .i64 (roomR p xs k).1), .val (.int .i64 (roomR p xs k).2)] = _
      simp only [roomR, ea, eb]
      rfl
  · skip
    have hk0 : ¬ 0 < k := by simpa using hc0
    have ea : (if k > 0 then (xs.getD (k - 1).toNat pl0).1 + 1 else 0) = 0 := if_neg hk0
    refine awp_skip ?_
    refine awp_seq ?_
    refine awp_seq ?_
    refine r1 T0_ok hP hm hN ?_
    refine g1 ?_
    refine g1 ?_
    refine g1 ?_
    refine g1 ?_
    refine g1 ?_
    refine g1 ?_
    refine g1 ?_
    refine awp_cond rfl (fun hcy => ?_) (fun hcy => ?_)
    · skip
      have hkl : k < xs.length := by simpa using hcy
      have hq1 := hv _ (getD_mem' (d := pl0) (show k.toNat < xs.length by omega))
      have hq2 : -32768 ≤ (xs.getD k.toNat pl0).1 ∧ (xs.getD k.toNat pl0).1 ≤ 32767 := hq1.1
      have eb : (if k < xs.length then (xs.getD k.toNat pl0).1 else p) = (xs.getD k.toNat pl0).1 := if_pos hkl
      refine r1 T0_ok hP hm hN ?_
      refine g1 ?_
      refine g1 ?_
      refine g1 ?_
      refine g1 ?_
      refine g1 ?_
      refine g1 ?_
      refine g1 ?_
      refine g1 ?_
      refine g1 ?_
      refine g1 ?_
      refine awp_seq ?_
      refine r1 T0_ok hP hm hN ?_
      refine g1 ?_
      refine g1 ?_
      refine g1 ?_
      refine g1 ?_
      refine g1 ?_
      refine g1 ?_
      refine awp_ret ?_
      refine fin_mk [] rfl rfl ?_ trivial (by decide)
      show D.tup [.val (.int .i64 (roomR p xs k).1), .val (.int .i64 (roomR p xs k).2)] = _
      simp only [roomR, ea, eb]
      rfl
    · skip
      have hkl : ¬ k < xs.length := by simpa using hcy
      have eb : (if k < xs.length then (xs.getD k.toNat pl0).1 else p) = p := if_neg hkl
      refine awp_skip ?_
      refine awp_seq ?_
      refine r1 T0_ok hP hm hN ?_
      refine g1 ?_
      refine g1 ?_
      refine g1 ?_
      refine g1 ?_
      refine g1 ?_
      refine g1 ?_
      refine awp_ret ?_
      refine fin_mk [] rfl rfl ?_ trivial (by decide)
      show D.tup [.val (.int .i64 (roomR p xs k).1), .val (.int .i64 (roomR p xs k).2)] = _
      simp only [roomR, ea, eb]
      rfl

noncomputable abbrev s_I_Rack_room : Spec ((Int × List Pl) × Int) where
  args := fun x => [rackD x.1, .val (.int .i64 x.2)]
  pre := fun x => x.1.2.length ≤ 1048576 ∧ ((isI16 x.1.1 ∧ ∀ b ∈ x.1.2, isPl b) ∧ 0 ≤ x.2 ∧ x.2 ≤ x.1.2.length)
  res := fun x => .tup [.val (.int .i64 (roomR x.1.1 x.1.2 x.2).1), .val (.int .i64 (roomR x.1.1 x.1.2 x.2).2)]

set_option maxRecDepth 20000 in
set_option maxHeartbeats 1000000 in
theorem ok_I_Rack_room : FnOk Pr 25 s_I_Rack_room := by
  refine fn_ok 2 0 T0_ok Go.Proofs.Try.func25 rfl (enters_of Go.Proofs.Try.func25 rfl rfl) (fun _ => rfl) (fun _ => rfl) (fun _ => rfl) ?_
  rintro ⟨⟨p, xs⟩, k⟩ ⟨hl, ⟨hpp, hv⟩, hk1, hk2⟩ C hP hN hm hG
  change awp C _ _ ⟨[(0, .agg [.val (.int .i16 p), .sl 9 (pls xs)]), (1, .val (.int .i64 k))], [], 0⟩
  simp only at hv hl hk1 hk2
  have hpp : -32768 ≤ p ∧ p ≤ 32767 := hpp
  refine awp_seq ?_
  refine r1 T0_ok hP hm hN ?_
  refine g1 ?_
  refine g1 ?_
  refine g1 ?_
  refine awp_seq ?_
  refine awp_draw T0_ok hP hm hN Pr_mix [0, 1, 2, 3, 4, 5, 6, 7, 8, 9, 10, 11] [] _ rfl (by rfl) ?_
  refine d1 T0_ok ?_
  refine d1 T0_ok ?_
  refine d1 T0_ok ?_
  refine d1 T0_ok ?_
  refine d1 T0_ok ?_
  refine dreg_nil ?_
  refine awp_seq ?_
  refine awp_seq ?_
  refine r1 T0_ok hP hm hN ?_
  refine g1 ?_
  refine g1 ?_
  refine awp_cond rfl (fun hc0 => ?_) (fun hc0 => ?_)
  · skip
    have hk0 : 0 < k := by simpa using hc0
    have hp1 := hv _ (getD_mem' (d := pl0) (show (k - 1).toNat < xs.length by omega))
    have hp2 : -32768 ≤ (xs.getD (k - 1).toNat pl0).1 ∧ (xs.getD (k - 1).toNat pl0).1 ≤ 32767 := hp1.1
    have ea : (if k > 0 then (xs.getD (k - 1).toNat pl0).1 + 1 else 0) = (xs.getD (k - 1).toNat pl0).1 + 1 := if_pos hk0
    refine r1 T0_ok hP hm hN ?_
    refine g1 ?_
    refine g1 ?_
    refine g1 ?_
    refine g1 ?_
    refine g1 ?_
    refine g1 ?_
    refine gc1 ?_ (call1 ok_I_place _ [] (hpre := by (try dsimp only); exact hv _ (getD_mem' (by omega))))
    refine g1 ?_
    refine g1 ?_
    refine awp_seq ?_
    refine awp_seq ?_
    refine r1 T0_ok hP hm hN ?_
    refine g1 ?_
    refine g1 ?_
    refine g1 ?_
    refine g1 ?_
    refine g1 ?_
    refine awp_cond rfl (fun hcy => ?_) (fun hcy => ?_)
    · skip
      have hkl : k < xs.length := by simpa using hcy
      have hq1 := hv _ (getD_mem' (d := pl0) (show k.toNat < xs.length by omega))
      have hq2 : -32768 ≤ (xs.getD k.toNat pl0).1 ∧ (xs.getD k.toNat pl0).1 ≤ 32767 := hq1.1
      have eb : (if k < xs.length then (xs.getD k.toNat pl0).1 else p) = (xs.getD k.toNat pl0).1 := if_pos hkl
      refine r1 T0_ok hP hm hN ?_
      refine g1 ?_
      refine g1 ?_
      refine g1 ?_
      refine g1 ?_
      refine g1 ?_
      refine gc1 ?_ (call1 ok_I_place _ [] (hpre := by (try dsimp only); exact hv _ (getD_mem' (by omega))))
      refine g1 ?_
      refine awp_seq ?_
      refine r1 T0_ok hP hm hN ?_
      refine g1 ?_
      refine g1 ?_
      refine g1 ?_
      refine g1 ?_
      refine g1 ?_
      refine g1 ?_
      refine awp_ret ?_
      refine fin_mk [] rfl rfl ?_ trivial (by decide)
      show D.tup [.val (.int .i64 (roomR p xs k).1), .val (.int .i64 (roomR p xs k).2)] = _
      simp only [roomR, ea, eb]
      rfl
    · skip
      have hkl : ¬ k < xs.length := by simpa using hcy
      have eb : (if k < xs.length then (xs.getD k.toNat pl0).1 else p) = p := if_neg hkl
      refine awp_skip ?_
      refine awp_seq ?_
      refine r1 T0_ok hP hm hN ?_
      refine g1 ?_
      refine g1 ?_
      refine g1 ?_
      refine g1 ?_
      refine g1 ?_
      refine g1 ?_
      refine awp_ret ?_
      refine fin_mk [] rfl rfl ?_ trivial (by decide)
      show D.tup [.val (.int .i64 (roomR p xs k).1), .val (.int .i64 (roomR p xs k).2)] = _
      simp only [roomR, ea, eb]
      rfl
  · skip
    have hk0 : ¬ 0 < k := by simpa using hc0
    have ea : (if k > 0 then (xs.getD (k - 1).toNat pl0).1 + 1 else 0) = 0 := if_neg hk0
    refine awp_skip ?_
    refine awp_seq ?_
    refine awp_seq ?_
    refine r1 T0_ok hP hm hN ?_
    refine g1 ?_
    refine g1 ?_
    refine g1 ?_
    refine g1 ?_
    refine g1 ?_
    refine awp_cond rfl (fun hcy => ?_) (fun hcy => ?_)
    · skip
      have hkl : k < xs.length := by simpa using hcy
      have hq1 := hv _ (getD_mem' (d := pl0) (show k.toNat < xs.length by omega))
      have hq2 : -32768 ≤ (xs.getD k.toNat pl0).1 ∧ (xs.getD k.toNat pl0).1 ≤ 32767 := hq1.1
      have eb : (if k < xs.length then (xs.getD k.toNat pl0).1 else p) = (xs.getD k.toNat pl0).1 := if_pos hkl
      refine r1 T0_ok hP hm hN ?_
      refine g1 ?_
      refine g1 ?_
      refine g1 ?_
      refine g1 ?_
      refine g1 ?_
      refine gc1 ?_ (call1 ok_I_place _ [] (hpre := by (try dsimp only); exact hv _ (getD_mem' (by omega))))
      refine g1 ?_
      refine awp_seq ?_
      refine r1 T0_ok hP hm hN ?_
      refine g1 ?_
      refine g1 ?_
      refine g1 ?_
      refine g1 ?_
      refine g1 ?_
      refine g1 ?_
      refine awp_ret ?_
      refine fin_mk [] rfl rfl ?_ trivial (by decide)
      show D.tup [.val (.int .i64 (roomR p xs k).1), .val (.int .i64 (roomR p xs k).2)] = _
      simp only [roomR, ea, eb]
      rfl
    · skip
      have hkl : ¬ k < xs.length := by simpa using hcy
      have eb : (if k < xs.length then (xs.getD k.toNat pl0).1 else p) = p := if_neg hkl
      refine awp_skip ?_
      refine awp_seq ?_
      refine r1 T0_ok hP hm hN ?_
      refine g1 ?_
      refine g1 ?_
      refine g1 ?_
      refine g1 ?_
      refine g1 ?_
      refine g1 ?_
      refine awp_ret ?_
      refine fin_mk [] rfl rfl ?_ trivial (by decide)
      show D.tup [.val (.int .i64 (roomR p xs k).1), .val (.int .i64 (roomR p xs k).2)] = _
      simp only [roomR, ea, eb]
      rfl

noncomputable abbrev s_I_firstOf_I_Placed : Spec (List Pl × D × (Pl → Bool)) where
  args := fun x => [.sl 9 (pls x.1), x.2.1]
  pre := fun x => x.1.length ≤ 9223372036854775807 ∧ Says plD (· ∈ x.1) x.2.2 x.2.1
  res := fun x => .val (.int .i64 (fstOf x.2.2 x.1))

set_option maxRecDepth 20000 in
set_option maxHeartbeats 1000000 in
theorem ok_I_firstOf_I_Placed : FnOk Pr 28 s_I_firstOf_I_Placed := by
  refine fn_ok 2 0 T0_ok Go.Proofs.Try.func28 rfl (enters_of Go.Proofs.Try.func28 rfl rfl) (fun _ => rfl) (fun _ => rfl) (fun _ => rfl) ?_
  rintro ⟨xs, fn, p⟩ hp C hP hN hm hG
  change awp C _ _ ⟨[(0, .sl 9 (pls xs)), (1, fn)], [], 0⟩
  refine awp_seq ?_
  refine r1 T0_ok hP hm hN ?_
  refine g1 ?_
  refine awp_seq ?_
  refine awp_seq ?_
  refine r1 T0_ok hP hm hN ?_
  refine g1 ?_
  refine g1 ?_
  refine gc1 ?_ (call1 ok_slices_IndexFunc_I_Placed_I_Placed (_, _, p) [] (hargs := (by exact args_cons arga_slsl (args_cons (arga_does (by exact hp.2)) args_nil))) (hpre := by (try dsimp only); exact hp))
  refine g1 ?_
  refine awp_seq ?_
  refine r1 T0_ok hP hm hN ?_
  refine g1 ?_
  refine g1 ?_
  refine awp_cond rfl (fun hc0 => ?_) (fun hc0 => ?_)
  · skip
    refine awp_seq ?_
    refine r1 T0_ok hP hm hN ?_
    refine g1 ?_
    refine g1 ?_
    refine awp_ret ?_
    refine fin_mk [] rfl rfl ?_ trivial (by decide)
    simp only [decide_eq_true_eq] at hc0
    show D.val (.int .i64 (fstOf p xs)) = _
    rw [fstOf, if_pos hc0]
    rfl
  · skip
    refine awp_skip ?_
    refine awp_seq ?_
    refine r1 T0_ok hP hm hN ?_
    refine g1 ?_
    refine g1 ?_
    refine g1 ?_
    refine awp_ret ?_
    refine fin_mk [] rfl rfl ?_ trivial (by decide)
    simp only [decide_eq_false_iff_not] at hc0
    show D.val (.int .i64 (fstOf p xs)) = _
    rw [fstOf, if_neg hc0]
    rfl

noncomputable abbrev s_I_Rack_index_1 : Spec (Pl × Bk) where
  args := fun x => [plD x.1, .rptr 8 [bkRow x.2] 0 0]
  res := fun x => .val (.bool (aboveP x.2 x.1))

set_option maxRecDepth 20000 in
set_option maxHeartbeats 1000000 in
theorem ok_I_Rack_index_1 : FnOk Pr 29 s_I_Rack_index_1 := by
  refine fn_ok 2 0 T0_ok Go.Proofs.Try.func29 rfl (enters_of Go.Proofs.Try.func29 rfl rfl) (fun _ => rfl) (fun _ => rfl) (fun _ => rfl) ?_
  rintro ⟨y, x⟩ - C hP hN hm hG
  change awp C _ _ ⟨[(0, .val (.agg #[.int .i16 y.1, .int .i16 y.2.cls, .int .u8 y.2.m0, .int .u8 y.2.m1, .int .u8 y.2.m2, .int .i16 y.2.vol, .int .i16 y.2.wide, .int .i16 y.2.high, .int .i16 y.2.weight])), (1, .rptr 8 [bkRow x] 0 0)], [], 0⟩
  refine awp_seq ?_
  refine r1 T0_ok hP hm hN ?_
  refine g1 ?_
  refine g1 ?_
  refine awp_seq ?_
  refine r1 T0_ok hP hm hN ?_
  refine g1 ?_
  refine g1 ?_
  refine g1 ?_
  refine gc1 ?_ (call1 ok_I_compare (y.2, x) [])
  refine g1 ?_
  refine g1 ?_
  refine awp_ret ?_
  refine fin_mk [] rfl rfl ?_ trivial (by decide)
  rfl

theorem says_above (x : Bk) (dom : Pl → Prop) : Says plD dom (aboveP x) (.clo (.func 29) [.rptr 8 [bkRow x] 0 0]) :=
  ⟨29, [], [.rptr 8 [bkRow x] 0 0], (s_I_Rack_index_1).comap (fun y => (y, x)), rfl, rfl, rfl, ok_I_Rack_index_1.comap _, fun _ => rfl, fun _ _ => trivial, fun _ => rfl, fun _ => rfl, fun _ => rfl, fun _ => rfl⟩

noncomputable abbrev s_I_Rack_index : Spec ((Int × List Pl) × Bk) where
  args := fun x => [rackD x.1, bkD x.2]
  pre := fun x => x.1.2.length ≤ 1048576
  res := fun x => .val (.int .i64 (fstOf (aboveP x.2) x.1.2))

set_option maxRecDepth 20000 in
set_option maxHeartbeats 1000000 in
theorem ok_I_Rack_index : FnOk Pr 17 s_I_Rack_index := by
  refine fn_ok 2 0 T0_ok Go.Proofs.Try.func17 rfl (enters_of Go.Proofs.Try.func17 rfl rfl) (fun _ => rfl) (fun _ => rfl) (fun _ => rfl) ?_
  rintro ⟨⟨p, xs⟩, x⟩ hl C hP hN hm hG
  change awp C _ _ ⟨[(0, .agg [.val (.int .i16 p), .sl 9 (pls xs)]), (1, .val (.agg #[.int .i16 x.cls, .int .u8 x.m0, .int .u8 x.m1, .int .u8 x.m2, .int .i16 x.vol, .int .i16 x.wide, .int .i16 x.high, .int .i16 x.weight]))], [], 0⟩
  have hl : xs.length ≤ 1048576 := hl
  refine awp_seq ?_
  refine r1 T0_ok hP hm hN ?_
  refine g1 ?_
  refine g1 ?_
  refine g1 ?_
  refine awp_seq ?_
  refine r1 T0_ok hP hm hN ?_
  refine g1 ?_
  refine g1 ?_
  refine g1 ?_
  refine gc1 ?_ (call1 ok_I_firstOf_I_Placed (_, _, aboveP x) [] (hpre := by (try dsimp only); exact ⟨by omega, says_above x _⟩))
  refine g1 ?_
  refine awp_ret ?_
  refine fin_mk [] rfl rfl ?_ trivial (by decide)
  rfl

noncomputable abbrev s_I_rackCode : Spec ((Int × List Pl) × Bk) where
  args := fun x => [rackD x.1, bkD x.2]
  pre := fun x => (∀ b ∈ x.1.2, isPl b) ∧ x.1.2.length ≤ 1048576
  res := fun x => .val (.int .i64 (if !validR x.1.1 x.1.2 || !validB x.2 then 1 else 0))

set_option maxRecDepth 20000 in
set_option maxHeartbeats 1000000 in
theorem ok_I_rackCode : FnOk Pr 14 s_I_rackCode := by
  refine fn_ok 2 0 T0_ok Go.Proofs.Try.func14 rfl (enters_of Go.Proofs.Try.func14 rfl rfl) (fun _ => rfl) (fun _ => rfl) (fun _ => rfl) ?_
  rintro ⟨⟨p, xs⟩, x⟩ ⟨hv, hl⟩ C hP hN hm hG
  change awp C _ _ ⟨[(0, .agg [.val (.int .i16 p), .sl 9 (pls xs)]), (1, .val (.agg #[.int .i16 x.cls, .int .u8 x.m0, .int .u8 x.m1, .int .u8 x.m2, .int .i16 x.vol, .int .i16 x.wide, .int .i16 x.high, .int .i16 x.weight]))], [], 0⟩
  simp only at hv hl
  refine awp_seq ?_
  refine r1 T0_ok hP hm hN ?_
  refine g1 ?_
  refine g1 ?_
  refine g1 ?_
  refine awp_seq ?_
  refine awp_seq ?_
  refine r1 T0_ok hP hm hN ?_
  refine g1 ?_
  refine gc1 ?_ (call1 ok_I_ValidRack (_, _) [] (hpre := by (try dsimp only); exact ⟨hv, hl⟩))
  refine g1 ?_
  refine g1 ?_
  refine gg1 ?_
  refine ggc1 ?_ (hs := by intro hb; simp +decide only [hb, gd_tt, gd_ff, beq_self_eq_true, Bool.true_and, beq_true]; exact ⟨rfl, _, call1 ok_I_ValidBook x [], rfl, rfl, rfl⟩)
  refine gg1 ?_
  refine g1 ?_
  refine awp_cond rfl (fun hc0 => ?_) (fun hc0 => ?_)
  · skip
    refine awp_seq ?_
    refine r1 T0_ok hP hm hN ?_
    refine g1 ?_
    refine awp_ret ?_
    refine fin_mk [] rfl rfl ?_ trivial (by decide)
    show D.val (.int .i64 (if !validR p xs || !validB x then 1 else 0)) = _
    rw [if_pos hc0]
    rfl
  · skip
    refine awp_skip ?_
    refine awp_seq ?_
    refine r1 T0_ok hP hm hN ?_
    refine g1 ?_
    refine awp_ret ?_
    refine fin_mk [] rfl rfl ?_ trivial (by decide)
    show D.val (.int .i64 (if !validR p xs || !validB x then 1 else 0)) = _
    rw [if_neg (by rw [hc0]; simp)]
    rfl
end Go.Proofs.Ytafobbekeoghiaa.Abs
