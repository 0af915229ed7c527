import Derived.Test.YtheoapoddmmahaaGreatG6
set_option linter.unusedVariables false
set_option linter.unusedSimpArgs false
namespace Go.Proofs.YtheoapoddmmahaaGreat.Abs
open Go Go.RowKit

theorem mem_htsI {a b : Int} {bs : List Bk} {n : Int} : n ∈ htsI a b bs ↔ ∃ j, j < bs.length ∧ pegH a b (bs.getD j bk0).high = n := by
  rw [← htsF_eq, htsF_mem]
theorem getD_memH {xs : List Int} {j : Nat} (h : j < xs.length) : xs.getD j 0 ∈ xs := getD_mem' h
theorem best_facts {a b c : Int} {bs : List Bk} {cn : Nat} (hok : pegsOk a b c = true) (ho : ∀ b ∈ bs, okB2 b) (hl : bs.length ≤ 60) (h1 : 1 ≤ cn) (h6 : cn ≤ 6) (hm : cn ≤ (htsI a b bs).length) :
    (bestL a b bs cn).length = cn ∧ (∀ n ∈ bestL a b bs cn, n ∈ htsI a b bs) ∧ (htsI a b bs).getD ((htsI a b bs).length - 1) 0 ∈ bestL a b bs cn := by
  have hal := htsI_ok hok ho
  have hW : ∀ i j, 0 ≤ wF bs (0 :: htsI a b bs) i j ∧ wF bs (0 :: htsI a b bs) i j ≤ 6000000 := fun i j => wF_b ho hl hal i j
  have hp := FS_pos (m := (htsI a b bs).length) (fun i j => (hW i j).1) cn 0 h1 (by omega)
  obtain ⟨t1, t2, t3, t4, t5, t6⟩ := tr_eq hW (by omega) (by decide) cn 0 h6 (Nat.zero_le _) hp
  have e : bestL a b bs cn = (trS (wF bs (0 :: htsI a b bs)) (htsI a b bs).length cn 0).map (fun j => (0 :: htsI a b bs).getD j 0) := by
    rw [← t1]; rfl
  have hget : ∀ j, 0 < j → (0 :: htsI a b bs).getD j 0 = (htsI a b bs).getD (j - 1) 0 := fun j hj => by
    obtain ⟨k, rfl⟩ : ∃ k, j = k + 1 := ⟨j - 1, by omega⟩
    simp [List.getD]
  rw [e]
  refine ⟨by simp [t2], fun n hn => ?_, ?_⟩
  · obtain ⟨j, hj, rfl⟩ := List.mem_map.1 hn
    have := t3 j hj
    rw [hget j (by omega)]
    exact getD_memH (by omega)
  · refine List.mem_map.2 ⟨(htsI a b bs).length, ?_, hget _ (by omega)⟩
    rcases t5 with h | h
    · omega
    · exact h
theorem htsI_last {a b : Int} {bs : List Bk} {n : Int} (h : n ∈ htsI a b bs) : n ≤ (htsI a b bs).getD ((htsI a b bs).length - 1) 0 := by
  obtain ⟨i, hi, rfl⟩ := mem_getD (d := 0) h
  have hr : (htsI a b bs).Pairwise (· < ·) := setI_rise _
  by_cases e : i = (htsI a b bs).length - 1
  · rw [← e]; exact Int.le_refl _
  · have := List.pairwise_iff_getElem.1 hr i ((htsI a b bs).length - 1) hi (by omega) (by omega)
    simp only [List.getD, List.getElem?_eq_getElem hi, List.getElem?_eq_getElem (show (htsI a b bs).length - 1 < (htsI a b bs).length by omega), Option.getD_some]
    omega
theorem best_all {a b c : Int} {bs : List Bk} {cn : Nat} (hok : pegsOk a b c = true) (ho : ∀ b ∈ bs, okB2 b) (hl : bs.length ≤ 60) (h1 : 1 ≤ cn) (h6 : cn ≤ 6) (hm : cn ≤ (htsI a b bs).length) : allG (bestL a b bs cn) bs := fun j hj => by
  obtain ⟨_, _, f3⟩ := best_facts hok ho hl h1 h6 hm
  rw [show (gF (bestL a b bs cn) bs j == ((bestL a b bs cn).length : Int)) = decide (idxOf (isHigh (bs.getD j bk0).high) (bestL a b bs cn) < 0) from fstOf_none _ _]
  rw [decide_eq_false_iff_not]
  unfold idxOf
  cases hf : (bestL a b bs cn).findIdx? (isHigh (bs.getD j bk0).high) with
  | some i => simp only; omega
  | none =>
    exfalso
    have h2 := List.findIdx?_eq_none_iff.1 hf _ f3
    have h3 := htsI_last (mem_htsI (a := a) (b := b).2 ⟨j, hj, rfl⟩)
    have h4 := (pegH_bounds (a := a) (b := b) (high := (bs.getD j bk0).high) (pegsOk_iff.1 hok).2.1.1).2.1
    simp only [isHigh, decide_eq_false_iff_not] at h2
    omega
theorem best_preG {a b c : Int} {bs : List Bk} {cn : Nat} (hok : pegsOk a b c = true) (hv : ∀ b ∈ bs, isBk b) (ho : ∀ b ∈ bs, okB2 b) (hl : bs.length ≤ 60) (h1 : 1 ≤ cn) (h6 : cn ≤ 6) (hm : cn ≤ (htsI a b bs).length) : PreG (bestL a b bs cn) bs := by
  obtain ⟨f1, f2, _⟩ := best_facts hok ho hl h1 h6 hm
  refine ⟨⟨hv, fun b hb => ho b hb, hl⟩, fun n hn => ?_, by omega, by omega⟩
  have h2 := f2 n hn
  have h3 := htsI_ok hok ho n (List.mem_cons.2 (.inr h2))
  obtain ⟨j, hj, rfl⟩ := mem_htsI.1 h2
  have h4 := (pegH_bounds (a := a) (b := b) (high := (bs.getD j bk0).high) (pegsOk_iff.1 hok).2.1.1).2.1
  have h5 := (ho _ (getD_mem' (d := bk0) hj)).2
  omega
theorem htsI_pos {a b : Int} {bs : List Bk} (h : 0 < bs.length) : 0 < (htsI a b bs).length := List.length_pos_of_mem (mem_htsI.2 ⟨0, h, rfl⟩)
noncomputable def lowT (a b c : Int) (bs : List Bk) (wide : Int) (k : Nat) : Int := tallW c (bestL a b bs k) ((grpL (bestL a b bs k) bs).map (nedI bs wide)) (bestL a b bs k).length
noncomputable def lowF (a b c : Int) (bs : List Bk) (wide : Int) : Nat → List Int × Int
  | 0 => ([], 0)
  | k + 1 => if (decide (k = 0) || decide (lowT a b c bs wide (k + 1) < (lowF a b c bs wide k).2)) = true then (bestL a b bs (k + 1), lowT a b c bs wide (k + 1)) else lowF a b c bs wide k
theorem lowF_yes {a b c : Int} {bs : List Bk} {wide : Int} {k : Nat} (h : k = 0 ∨ lowT a b c bs wide (k + 1) < (lowF a b c bs wide k).2) : lowF a b c bs wide (k + 1) = (bestL a b bs (k + 1), lowT a b c bs wide (k + 1)) := by
  rw [lowF, if_pos (by simpa using h)]
theorem lowF_no {a b c : Int} {bs : List Bk} {wide : Int} {k : Nat} (h : k ≠ 0) (h2 : ¬ lowT a b c bs wide (k + 1) < (lowF a b c bs wide k).2) : lowF a b c bs wide (k + 1) = lowF a b c bs wide k := by
  rw [lowF, if_neg (by simp [h, h2])]
theorem lowF_len {a b c : Int} {bs : List Bk} (wide : Int) (hok : pegsOk a b c = true) (ho : ∀ b ∈ bs, okB2 b) (hl : bs.length ≤ 60) : ∀ k, k ≤ 6 → k ≤ (htsI a b bs).length → (lowF a b c bs wide k).1.length ≤ 6 ∧ (1 ≤ k → 1 ≤ (lowF a b c bs wide k).1.length)
  | 0, _, _ => by simp [lowF]
  | k + 1, h6, hm => by
    have ih := lowF_len wide hok ho hl k (by omega) (by omega)
    by_cases h : k = 0 ∨ lowT a b c bs wide (k + 1) < (lowF a b c bs wide k).2
    · rw [lowF_yes h]
      have := (best_facts hok ho hl (show 1 ≤ k + 1 by omega) h6 hm).1
      simp only [this]
      omega
    · have h1 : k ≠ 0 := fun e => h (.inl e)
      rw [lowF_no h1 (fun e => h (.inr e))]
      exact ⟨ih.1, fun _ => ih.2 (by omega)⟩
def bD : Nat → D
  | 0 => .nil
  | _ + 1 => .own 3
theorem bD_pos {k : Nat} (h : 1 ≤ k) : bD k = .own 3 := by
  obtain ⟨q, rfl⟩ : ∃ q, k = q + 1 := ⟨k - 1, by omega⟩
  rfl
noncomputable def codeL (a b c : Int) (bs : List Bk) (wide : Int) : Int := if (!pegsOk a b c || !validBs bs) = true then 1 else if (!inI wide 1 2000) = true then 2 else if decide (bs.length = 0) = true then 6 else if bs.any (fun b => decide (b.wide > wide)) then 4 else 0
noncomputable def lowR (a b c : Int) (bs : List Bk) (wide : Int) : List Int × Int × Int := if (codeL a b c bs wide != 0) = true then ([], 0, codeL a b c bs wide) else ((lowF a b c bs wide (min 6 (htsI a b bs).length)).1, (lowF a b c bs wide (min 6 (htsI a b bs).length)).2, 0)
theorem lowR_bad {a b c : Int} {bs : List Bk} {wide k : Int} (h : codeL a b c bs wide = k) (hk : k ≠ 0) : lowR a b c bs wide = ([], 0, k) := by
  rw [lowR, h, if_pos (by simpa using hk)]
theorem lowR_good {a b c : Int} {bs : List Bk} {wide : Int} (h : codeL a b c bs wide = 0) : lowR a b c bs wide = ((lowF a b c bs wide (min 6 (htsI a b bs).length)).1, (lowF a b c bs wide (min 6 (htsI a b bs).length)).2, 0) := by
  rw [lowR, h]; rfl
theorem codeL_1 {a b c : Int} {bs : List Bk} {wide : Int} (h : (!pegsOk a b c || !validBs bs) = true) : codeL a b c bs wide = 1 := by rw [codeL, if_pos h]
theorem codeL_2 {a b c : Int} {bs : List Bk} {wide : Int} (h : (!pegsOk a b c || !validBs bs) = false) (h2 : (!inI wide 1 2000) = true) : codeL a b c bs wide = 2 := by rw [codeL, if_neg (by rw [h]; simp), if_pos h2]
theorem codeL_6 {a b c : Int} {bs : List Bk} {wide : Int} (h : (!pegsOk a b c || !validBs bs) = false) (h2 : (!inI wide 1 2000) = false) (h3 : bs.length = 0) : codeL a b c bs wide = 6 := by rw [codeL, if_neg (by rw [h]; simp), if_neg (by rw [h2]; simp), if_pos (by simpa using h3)]
theorem codeL_4 {a b c : Int} {bs : List Bk} {wide : Int} (h : (!pegsOk a b c || !validBs bs) = false) (h2 : (!inI wide 1 2000) = false) (h3 : ¬ bs.length = 0) (h4 : bs.any (fun b => decide (b.wide > wide)) = true) : codeL a b c bs wide = 4 := by rw [codeL, if_neg (by rw [h]; simp), if_neg (by rw [h2]; simp), if_neg (by simpa using h3), if_pos h4]
theorem codeL_0 {a b c : Int} {bs : List Bk} {wide : Int} (h : (!pegsOk a b c || !validBs bs) = false) (h2 : (!inI wide 1 2000) = false) (h3 : ¬ bs.length = 0) (h4 : bs.any (fun b => decide (b.wide > wide)) = false) : codeL a b c bs wide = 0 := by rw [codeL, if_neg (by rw [h]; simp), if_neg (by rw [h2]; simp), if_neg (by simpa using h3), if_neg (by rw [h4]; simp)]
theorem codeL_ok {a b c : Int} {bs : List Bk} {wide : Int} (h : codeL a b c bs wide = 0) : (!pegsOk a b c || !validBs bs) = false ∧ (1 ≤ wide ∧ wide ≤ 2000) ∧ 0 < bs.length := by
  unfold codeL at h
  split at h
  · cases h
  · rename_i h1
    split at h
    · cases h
    · rename_i h2
      split at h
      · cases h
      · rename_i h3
        exact ⟨by simpa using h1, inI_iff.1 (by simpa using h2), by simp only [decide_eq_true_eq] at h3; omega⟩
theorem lowR_len (a b c : Int) (bs : List Bk) (wide : Int) : (lowR a b c bs wide).1.length ≤ 6 := by
  by_cases h : codeL a b c bs wide = 0
  · rw [lowR_good h]
    obtain ⟨h1, _, _⟩ := codeL_ok h
    obtain ⟨hok, hvb, hl60⟩ := okb h1
    exact (lowF_len wide hok (validBs_b2 hvb).1 hl60 _ (by omega) (by omega)).1
  · rw [lowR, if_pos (by simpa using h)]
    simp


theorem call_groups {o : Oper} {cf : Operand} {args : Array Operand} {tys : Array TypeId} {ev : Operand → D} {hp : HP} (hs : List Int) (bs : List Bk) {n : Nat} (hn : kG hs bs = n) (ho : o.op = .call ⟨.value cf, args, tys⟩) (hcf : fnParts (ev cf) = some (.func 52, [], []))
    (hpre : (∀ b ∈ bs, isBk b) ∧ bs.length ≤ 1048576 ∧ 1 ≤ hs.length ∧ hs.length ≤ 6) (hargs : Args hp [] [.sl 1 (i64s hs), .sl 8 (bks bs)] (args.toList.map ev)) :
    OpRel Pr o ev hp 29 { d := .tup [.own 29, .val (.bool (okR hs bs))], new := (29, ⟨31, 1, true, tabD (uO (rwG hs bs) 0) n⟩) :: famR (rwG hs bs) 2 0 n, upd := [] } := by
  subst hn
  have h := OpRel.callG ok_I_groupsD (hs, bs) [] (by decide) (o := o) (nx := 29) (d := .tup [.own 29, .val (.bool (okR hs bs))]) (K0 := List.range' 29 (kG hs bs + 1)) ho hcf hpre (by simpa using hargs) trivial rfl (by
    show _ = [] ++ List.range' 29 (rowsO _ _ 0 (kG hs bs)).length.succ
    rw [rowsO_len]; rfl) ⟨rfl, fun o ho => by
      rw [List.length_range']
      exact okG_rows o ho⟩
  have e := numbered_outer (rwG hs bs) 2 31 (kG hs bs)
  show OpRel Pr o ev hp 29 { d := .tup [.own 29, .val (.bool (okR hs bs))], new := (29, _) :: _, upd := [] }
  rw [← e]
  exact h
end Go.Proofs.YtheoapoddmmahaaGreat.Abs

