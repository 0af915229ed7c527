import Derived.Test.YtkfbpfkomppefaaY7
set_option linter.unusedVariables false
set_option linter.unusedSimpArgs false
namespace Go.Proofs.Ytkfbpfkomppefaa.Abs
open Go Go.RowKit
def keyB (b : Bk) : List Int := [b.cls, b.m0, b.m1, b.m2, b.vol]
theorem cmpU_key (a b : Bk) : cmpU a b = cmp3 (keyB a) (keyB b) := by
  have e1 : fldS 1 = 1 := by decide
  have e2 : fldS 2 = 2 := by decide
  have e3 : fldS 3 = 3 := by decide
  simp only [cmpU, usualO, cmpBy, e1, e2, e3, cmpF, keyB, marks]
  simp only [show ¬ ((1 : Int) < 0) by omega, show ¬ ((2 : Int) < 0) by omega, show ¬ ((3 : Int) < 0) by omega, if_false, beq_self_eq_true, if_true, show ((2 : Int) == 1) = false by decide, show ((3 : Int) == 1) = false by decide, show ((3 : Int) == 2) = false by decide, Bool.false_eq_true, cmp3]
  have h0 := cmpI_cases a.cls b.cls
  have h1 := cmpI_cases a.m0 b.m0
  have h2 := cmpI_cases a.m1 b.m1
  have h3 := cmpI_cases a.m2 b.m2
  have h4 := cmpI_cases a.vol b.vol
  rcases h0 with h0 | h0 | h0 <;> rcases h1 with h1 | h1 | h1 <;> rcases h2 with h2 | h2 | h2 <;> rcases h3 with h3 | h3 | h3 <;> rcases h4 with h4 | h4 | h4 <;> simp [h0, h1, h2, h3, h4]
theorem cmpI_le {a b c : Int} : (cmpI a b = -1 ↔ a < b) ∧ (cmpI a b = 0 ↔ a = b) ∧ (cmpI a b = 1 ↔ a > b) := by
  unfold cmpI
  refine ⟨?_, ?_, ?_⟩ <;> (repeat' split) <;> omega
theorem cmp3_anti : ∀ xs ys : List Int, xs.length = ys.length → cmp3 ys xs = -cmp3 xs ys
  | [], [], _ => rfl
  | x :: xs, y :: ys, h => by
    have ih := cmp3_anti xs ys (by simpa using h)
    unfold cmp3
    rcases Int.lt_trichotomy x y with h1 | h1 | h1
    · simp [cmpI, h1, show ¬ y < x by omega]
    · subst h1; simp [cmpI, ih]
    · simp [cmpI, h1, show ¬ x < y by omega]
  | [], _ :: _, h => by simp at h
  | _ :: _, [], h => by simp at h
theorem cmp3_trans : ∀ xs ys zs : List Int, xs.length = ys.length → ys.length = zs.length → cmp3 xs ys ≤ 0 → cmp3 ys zs ≤ 0 → cmp3 xs zs ≤ 0
  | [], [], [], _, _, _, _ => by decide
  | x :: xs, y :: ys, z :: zs, h1, h2, h3, h4 => by
    have ih := cmp3_trans xs ys zs (by simpa using h1) (by simpa using h2)
    unfold cmp3 at h3 h4 ⊢
    unfold cmpI at h3 h4 ⊢
    rcases Int.lt_trichotomy x y with a | a | a <;> rcases Int.lt_trichotomy y z with b | b | b
    · simp [show x < z by omega]
    · subst b; simp [a]
    · simp [b, show ¬ y < z by omega] at h4
    · subst a; simp [b]
    · subst a; subst b; simp at h3 h4 ⊢; exact ih h3 h4
    · simp [b, show ¬ y < z by omega] at h4
    all_goals simp [a, show ¬ x < y by omega] at h3
  | [], [], _ :: _, _, h, _, _ => by simp at h
  | [], _ :: _, _, h, _, _, _ => by simp at h
  | _ :: _, [], _, h, _, _, _ => by simp at h
  | _ :: _, _ :: _, [], _, h, _, _ => by simp at h
theorem cmpU_anti (a b : Bk) : cmpU b a = -cmpU a b := by rw [cmpU_key, cmpU_key]; exact cmp3_anti _ _ rfl
theorem cmpU_trans {a b c : Bk} (h1 : cmpU a b ≤ 0) (h2 : cmpU b c ≤ 0) : cmpU a c ≤ 0 := by
  rw [cmpU_key] at *
  exact cmp3_trans (keyB a) (keyB b) (keyB c) rfl rfl h1 h2

def maxI (a b : Int) : Int := if b > a then b else a
theorem max_nrm (a b : Int) : (if b > a then b else a) = maxI a b := rfl
theorem maxI_b (a b : Int) : a ≤ maxI a b ∧ b ≤ maxI a b ∧ (maxI a b = a ∨ maxI a b = b) := by
  unfold maxI
  split <;> omega

noncomputable abbrev s_S_l00Max : Spec (Int × Int) where
  args := fun x => [.val (.int .i64 x.1), .val (.int .i64 x.2)]
  res := fun x => .val (.int .i64 (maxI x.2 x.1))

set_option maxRecDepth 20000 in
set_option maxHeartbeats 1000000 in
theorem ok_S_l00Max : FnOk Pr 65 s_S_l00Max := by
  refine fn_ok 2 0 T0_ok Go.Proofs.Try.func65 rfl (enters_of Go.Proofs.Try.func65 rfl rfl) (fun _ => rfl) (fun _ => rfl) (fun _ => rfl) ?_
  rintro ⟨a, b⟩ - C hP hN hm hG
  change awp C _ _ ⟨[(0, .val (.int .i64 a)), (1, .val (.int .i64 b))], [], 0⟩
  refine awp_seq ?_
  refine r1 T0_ok hP hm hN ?_
  refine g1 ?_
  refine awp_seq ?_
  refine awp_seq ?_
  refine r1 T0_ok hP hm hN ?_
  refine g1 ?_
  refine g1 ?_
  refine g1 ?_
  refine awp_cond rfl (fun hc0 => ?_) (fun hc0 => ?_)
  · skip
    refine awp_seq ?_
    refine r1 T0_ok hP hm hN ?_
    refine g1 ?_
    refine g1 ?_
    refine awp_ret ?_
    refine fin_mk [] rfl rfl ?_ trivial (by decide)
    show D.val (.int .i64 (maxI b a)) = _
    rw [maxI, if_pos (by simpa using hc0)]
    rfl
  · skip
    refine awp_skip ?_
    refine awp_seq ?_
    refine r1 T0_ok hP hm hN ?_
    refine g1 ?_
    refine g1 ?_
    refine awp_ret ?_
    refine fin_mk [] rfl rfl ?_ trivial (by decide)
    show D.val (.int .i64 (maxI b a)) = _
    rw [maxI, if_neg (by simpa using hc0)]
    rfl

/-- May the second one follow the first one? -/
def leU (xs : List Bk) (a b : Nat) : Bool := decide (cmpU (xs.getD a bk0) (xs.getD b bk0) ≤ 0)
theorem leU_back (xs : List Bk) (a b : Nat) : decide (cmpU (xs.getD b bk0) (xs.getD a bk0) ≥ 0) = leU xs a b := by
  unfold leU
  rw [cmpU_anti (xs.getD a bk0) (xs.getD b bk0)]
  rw [Bool.eq_iff_iff, decide_eq_true_eq, decide_eq_true_eq]
  omega
theorem maxI_comm (a b : Int) : maxI a b = maxI b a := by
  have h1 := maxI_b a b
  have h2 := maxI_b b a
  omega
theorem maxI_suc (a b : Int) : maxI (a + 1) (b + 1) = maxI b a + 1 := by
  unfold maxI
  split <;> split <;> omega
/-- The greatest of those ahead of i, of the first k, that i may follow. -/
def mbF (le : Nat → Nat → Bool) (f : List Int) (i : Nat) : Nat → Int
  | 0 => 0
  | k + 1 => if le k i then maxI (f.getD k 0) (mbF le f i k) else mbF le f i k
def labL (le : Nat → Nat → Bool) : Nat → List Int
  | 0 => []
  | i + 1 => labL le i ++ [mbF le (labL le i) i i + 1]
theorem labL_len (le : Nat → Nat → Bool) : ∀ i, (labL le i).length = i
  | 0 => rfl
  | i + 1 => by rw [labL, List.length_append, labL_len le i]; rfl
theorem mbF_b (le : Nat → Nat → Bool) {f : List Int} {m : Int} (i : Nat) (hm : 0 ≤ m) : ∀ k, (∀ j, j < k → 0 ≤ f.getD j 0 ∧ f.getD j 0 ≤ m) → 0 ≤ mbF le f i k ∧ mbF le f i k ≤ m
  | 0, _ => by simp [mbF, hm]
  | k + 1, h => by
    have ih := mbF_b le (f := f) i hm k (fun j hj => h j (by omega))
    have hk := h k (by omega)
    have hb := maxI_b (f.getD k 0) (mbF le f i k)
    rw [mbF]
    split <;> omega
theorem labL_b (le : Nat → Nat → Bool) : ∀ i j, j < i → 0 ≤ (labL le i).getD j 0 ∧ (labL le i).getD j 0 ≤ i
  | 0, j, h => by omega
  | i + 1, j, h => by
    have hl := labL_len le i
    by_cases e : j < i
    · have : (labL le (i + 1)).getD j 0 = (labL le i).getD j 0 := by
        rw [labL, List.getD, List.getD, List.getElem?_append_left (by omega)]
      have h2 := labL_b le i j e
      omega
    · have : (labL le (i + 1)).getD j 0 = mbF le (labL le i) i i + 1 := by
        rw [labL, List.getD, List.getElem?_append_right (by omega), show j - (labL le i).length = 0 by omega]; rfl
      have h2 := mbF_b le (f := labL le i) (m := (i : Int)) i (by omega) i (fun j hj => labL_b le i j hj)
      omega
theorem i64s_app (xs ys : List Int) : i64s (xs ++ ys) = i64s xs ++ i64s ys := by simp
def labR (xs : List Bk) : List Int × Int := if !validBs xs then ([], 1) else (labL (leU xs) xs.length, 0)
theorem labR_len (xs : List Bk) : (labR xs).1.length ≤ xs.length := by
  unfold labR
  split
  · simp
  · simp [labL_len]
theorem take_getD {α : Type} {d : α} {xs : List α} {i k : Nat} (h : k < i) : (xs.take i).getD k d = xs.getD k d := by
  simp [List.getD, h]



end Go.Proofs.Ytkfbpfkomppefaa.Abs
