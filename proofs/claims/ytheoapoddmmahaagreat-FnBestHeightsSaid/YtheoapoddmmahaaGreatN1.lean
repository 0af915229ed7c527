import Derived.Test.YtheoapoddmmahaaGreatPB
set_option linter.unusedVariables false
set_option linter.unusedSimpArgs false
namespace Go.Proofs.YtheoapoddmmahaaGreat.Abs
open Go Go.RowKit
set_option linter.unusedSectionVars false
/-! ### Sums over books -/
def sumB (f : Nat → Int) : Nat → Int
  | 0 => 0
  | i + 1 => sumB f i + f i
theorem sumB_add (f g : Nat → Int) : ∀ n, sumB (fun i => f i + g i) n = sumB f n + sumB g n
  | 0 => rfl
  | n + 1 => by rw [sumB, sumB, sumB, sumB_add f g n]; omega
theorem sumB_le {f g : Nat → Int} : ∀ n, (∀ i, i < n → f i ≤ g i) → sumB f n ≤ sumB g n
  | 0, _ => Int.le_refl _
  | n + 1, h => by
    have h1 := sumB_le n (fun i hi => h i (by omega))
    have h2 := h n (by omega)
    rw [sumB, sumB]; omega
theorem sumB_congr {f g : Nat → Int} : ∀ n, (∀ i, i < n → f i = g i) → sumB f n = sumB g n
  | 0, _ => rfl
  | n + 1, h => by rw [sumB, sumB, sumB_congr n (fun i hi => h i (by omega)), h n (by omega)]
def ivB (b : Bk) (low high : Int) : Int := if low < b.high ∧ b.high ≤ high then high - b.high else 0
theorem wOn_sum (bs : List Bk) (low high : Int) : ∀ n, wOn bs low high n = sumB (fun i => (bs.getD i bk0).wide * ivB (bs.getD i bk0) low high) n
  | 0 => rfl
  | n + 1 => by
    rw [wOn, sumB, wOn_sum bs low high n]
    simp only [Bool.and_eq_true, decide_eq_true_eq, ivB]
    split
    · rfl
    · rw [Int.mul_zero, Int.add_zero]
/-! ### The height to which a book belongs -/
def ceF (hs : List Int) (x : Int) : Int := hs.getD (fstOf (isHigh x) hs).toNat 0
theorem fstOf_cons (p : Int → Bool) (y : Int) (ys : List Int) : fstOf p (y :: ys) = if p y = true then 0 else fstOf p ys + 1 := by
  unfold fstOf idxOf
  rw [List.findIdx?_cons]
  cases hp : p y with
  | true => simp
  | false =>
    cases hf : ys.findIdx? p with
    | none => simp
    | some i => simp; omega
theorem ceF_cons (y : Int) (ys : List Int) (x : Int) : ceF (y :: ys) x = if x ≤ y then y else ceF ys x := by
  unfold ceF
  rw [fstOf_cons]
  by_cases h : x ≤ y
  · rw [if_pos (by simpa [isHigh] using h), if_pos h]; rfl
  · rw [if_neg (by simpa [isHigh] using h), if_neg h]
    have := (fstOf_lt (isHigh x) ys).1
    rw [show (fstOf (isHigh x) ys + 1).toNat = (fstOf (isHigh x) ys).toNat + 1 by omega]
    rfl
theorem ceF_spec {x : Int} : ∀ {hs : List Int}, hs.Pairwise (· < ·) → (∃ y ∈ hs, x ≤ y) → ceF hs x ∈ hs ∧ x ≤ ceF hs x ∧ ∀ y ∈ hs, x ≤ y → ceF hs x ≤ y
  | [], _, h => by obtain ⟨y, hy, _⟩ := h; cases hy
  | y :: ys, hp, h => by
    rw [List.pairwise_cons] at hp
    rw [ceF_cons]
    by_cases hx : x ≤ y
    · rw [if_pos hx]
      refine ⟨by simp, hx, fun z hz _ => ?_⟩
      rcases List.mem_cons.1 hz with rfl | hz
      · exact Int.le_refl _
      · have := hp.1 z hz; omega
    · rw [if_neg hx]
      obtain ⟨z, hz, hxz⟩ := h
      have hz2 : z ∈ ys := by
        rcases List.mem_cons.1 hz with rfl | hz
        · exact absurd hxz hx
        · exact hz
      obtain ⟨i1, i2, i3⟩ := ceF_spec hp.2 ⟨z, hz2, hxz⟩
      refine ⟨List.mem_cons_of_mem _ i1, i2, fun w hw hxw => ?_⟩
      rcases List.mem_cons.1 hw with rfl | hw
      · exact absurd hxw hx
      · exact i3 w hw hxw
theorem sumA_ce (hs : List Int) (bs : List Bk) : ∀ n, sumA (wG hs bs) (gF hs bs) n = sumB (fun i => (bs.getD i bk0).wide * (ceF hs (bs.getD i bk0).high - (bs.getD i bk0).high)) n
  | 0 => rfl
  | n + 1 => by
    rw [sumA, sumB, sumA_ce hs bs n]
    rfl
/-! ### The best heights waste what is told -/
def pathW (W : Nat → Nat → Int) : Nat → List Nat → Int
  | _, [] => 0
  | a, j :: js => W a j + pathW W j js
def pathB (al : List Int) (b : Bk) : Nat → List Nat → Int
  | _, [] => 0
  | a, j :: js => ivB b (al.getD a 0) (al.getD j 0) + pathB al b j js
theorem pathW_sum (bs : List Bk) (al : List Int) : ∀ (js : List Nat) (a : Nat), pathW (wF bs al) a js = sumB (fun i => (bs.getD i bk0).wide * pathB al (bs.getD i bk0) a js) bs.length
  | [], a => by
    have : ∀ n, sumB (fun i => (bs.getD i bk0).wide * pathB al (bs.getD i bk0) a []) n = 0 := fun n => by
      induction n with
      | zero => rfl
      | succ n ih => rw [sumB, ih]; simp [pathB]
    rw [this]; rfl
  | j :: js, a => by
    rw [pathW, pathW_sum bs al js j, wF, wOn_sum, ← sumB_add]
    exact sumB_congr _ (fun i _ => by rw [pathB, Int.mul_add])
theorem pathB_ce {al : List Int} {m : Nat} {b : Bk} (hal : ∀ i j, i < j → j ≤ m → al.getD i 0 < al.getD j 0) : ∀ (js : List Nat) (a : Nat), (∀ j ∈ js, a < j ∧ j ≤ m) → js.Pairwise (· < ·) →
    (b.high ≤ al.getD a 0 → pathB al b a js = 0) ∧ (al.getD a 0 < b.high → (∃ j ∈ js, b.high ≤ al.getD j 0) → pathB al b a js = ceF (js.map fun j => al.getD j 0) b.high - b.high)
  | [], a, _, _ => ⟨fun _ => rfl, fun _ h => by obtain ⟨j, hj, _⟩ := h; cases hj⟩
  | j :: js, a, hj, hp => by
    rw [List.pairwise_cons] at hp
    have h1 := hj j (by simp)
    have ih := pathB_ce (b := b) hal js j (fun q hq => ⟨hp.1 q hq, (hj q (by simp [hq])).2⟩) hp.2
    have hlt := hal a j h1.1 h1.2
    refine ⟨fun hx => ?_, fun hx he => ?_⟩
    · rw [pathB, ih.1 (by omega), ivB, if_neg (by omega)]; rfl
    · rw [pathB, List.map_cons, ceF_cons, ivB]
      by_cases hxj : b.high ≤ al.getD j 0
      · rw [if_pos ⟨hx, hxj⟩, if_pos hxj, ih.1 hxj]; omega
      · rw [if_neg (fun h => hxj h.2), if_neg hxj]
        obtain ⟨q, hq, hxq⟩ := he
        rcases List.mem_cons.1 hq with rfl | hq
        · exact absurd hxq hxj
        · rw [ih.2 (by omega) ⟨q, hq, hxq⟩]; omega
theorem FI_path {W : Nat → Nat → Int} {m : Nat} {c : Int} (hW : ∀ i j, 0 ≤ W i j ∧ W i j ≤ c) (hc : 0 ≤ c) (hcB : 7 * c < BIG) : ∀ k a, k ≤ 6 → a ≤ m → 0 ≤ FS W m k a → FI W m k a = pathW W a (trI W m k a)
  | 0, a, _, ha, h0 => by
    have e : a = m := by
      unfold FS at h0
      split at h0
      · assumption
      · omega
    simp [FI, trI, pathW, e]
  | k + 1, a, hk, ha, h0 => by
    obtain ⟨t1, t2, _⟩ := tr_eq hW hc hcB (k + 1) a hk ha h0
    have hl : (trI W m (k + 1) a).length = k + 1 := by rw [t1]; exact t2
    rw [trI] at hl ⊢
    split at hl
    · rename_i hle
      rw [if_pos hle]
      have hlo := (fj_le (cI W m k a) (m - a) (a + 1)).1
      have hp := fj_ok (p := cI W m k a) (s := m - a) (j := a + 1) (by omega)
      generalize fj (cI W m k a) (a + 1) (m - a) = j at *
      simp only [cI, beq_iff_eq] at hp
      have hf : 0 ≤ FS W m k j := by
        have hkc : ((k + 1 : Nat) : Int) * c ≤ 6 * c := Int.mul_le_mul_of_nonneg_right (by omega) hc
        have h1 := F_tie (m := m) hW hc hcB (k + 1) hk a
        have h2 := F_tie (m := m) hW hc hcB k (by omega) j
        have h3 := hW a j
        unfold Tie at h1 h2
        omega
      rw [pathW, ← FI_path hW hc hcB k j (by omega) hle hf]
      exact hp.symm
    · exfalso
      have := trI_len W m k a
      omega
theorem al_up {a b : Int} {bs : List Bk} (hpos : ∀ x ∈ htsI a b bs, 0 < x) : ∀ i j, i < j → j ≤ (htsI a b bs).length → (alI a b bs).getD i 0 < (alI a b bs).getD j 0 := fun i j hij hj => by
  have hr : (htsI a b bs).Pairwise (· < ·) := setI_rise _
  obtain ⟨j, rfl⟩ : ∃ q, j = q + 1 := ⟨j - 1, by omega⟩
  have ej : (alI a b bs).getD (j + 1) 0 = (htsI a b bs).getD j 0 := by simp [List.getD]
  rw [ej]
  rcases Nat.eq_zero_or_pos i with rfl | hi
  · exact hpos _ (getD_mem' (by omega))
  · obtain ⟨i, rfl⟩ : ∃ q, i = q + 1 := ⟨i - 1, by omega⟩
    have ei : (alI a b bs).getD (i + 1) 0 = (htsI a b bs).getD i 0 := by simp [List.getD]
    rw [ei]
    have := List.pairwise_iff_getElem.1 hr i j (by omega) (by omega) (by omega)
    simpa [List.getD, show i < (htsI a b bs).length by omega, show j < (htsI a b bs).length by omega] using this
section
variable {a b c : Int} {bs : List Bk} (hok : pegsOk a b c = true) (ho : ∀ b ∈ bs, okB2 b) (hl : bs.length ≤ 60)
include hok ho hl
theorem best_tr {cn : Nat} (h1 : 1 ≤ cn) (h6 : cn ≤ 6) (hm : cn ≤ (htsI a b bs).length) :
    (∀ j ∈ trI (WB a b bs) (htsI a b bs).length cn 0, 0 < j ∧ j ≤ (htsI a b bs).length) ∧ (trI (WB a b bs) (htsI a b bs).length cn 0).Pairwise (· < ·) ∧ (htsI a b bs).length ∈ trI (WB a b bs) (htsI a b bs).length cn 0 ∧
    bestV a b bs cn = pathW (WB a b bs) 0 (trI (WB a b bs) (htsI a b bs).length cn 0) := by
  have hal := htsI_ok hok ho
  have hW : ∀ i j, 0 ≤ wF bs (alI a b bs) i j ∧ wF bs (alI a b bs) i j ≤ 6000000 := fun i j => wF_b ho hl hal i j
  have hp := FS_pos (m := (htsI a b bs).length) (fun i j => (hW i j).1) cn 0 h1 (by omega)
  obtain ⟨t1, t2, t3, t4, t5, t6⟩ := tr_eq hW (by omega) (by decide) cn 0 h6 (Nat.zero_le _) hp
  refine ⟨fun j hj => t3 j (by rw [← t1]; exact hj), by show (trI (wF bs (alI a b bs)) _ _ _).Pairwise _; rw [t1]; exact t4, ?_, FI_path hW (by omega) (by decide) cn 0 h6 (Nat.zero_le _) hp⟩
  show _ ∈ trI (wF bs (alI a b bs)) _ _ _
  rw [t1]
  rcases t5 with h | h
  · omega
  · exact h
theorem hts_pos : ∀ x ∈ htsI a b bs, 0 < x := fun x hx => by have := hts_b hok ho x hx; omega
theorem best_rise {cn : Nat} (h1 : 1 ≤ cn) (h6 : cn ≤ 6) (hm : cn ≤ (htsI a b bs).length) : (bestL a b bs cn).Pairwise (· < ·) := by
  obtain ⟨t1, t2, _⟩ := best_tr hok ho hl h1 h6 hm
  have hu := al_up (hts_pos hok ho hl)
  rw [bestL, List.pairwise_map]
  exact t2.imp_of_mem (fun hx hy hlt => hu _ _ hlt (t1 _ hy).2)
theorem best_waste {cn : Nat} (h1 : 1 ≤ cn) (h6 : cn ≤ 6) (hm : cn ≤ (htsI a b bs).length) : sumA (wG (bestL a b bs cn) bs) (gF (bestL a b bs cn) bs) bs.length = bestV a b bs cn := by
  obtain ⟨t1, t2, t3, t4⟩ := best_tr hok ho hl h1 h6 hm
  have hu := al_up (hts_pos hok ho hl)
  rw [t4, sumA_ce, pathW_sum]
  refine sumB_congr _ (fun i hi => ?_)
  have hb := (ho _ (getD_mem' (d := bk0) hi)).2
  have hlast := htsI_last (mem_htsI (a := a) (b := b).2 ⟨i, hi, rfl⟩)
  have hpk := (pegH_bounds (a := a) (b := b) (high := (bs.getD i bk0).high) (pegsOk_iff.1 hok).2.1.1).2.1
  rw [(pathB_ce (b := bs.getD i bk0) hu _ 0 t1 t2).2 (by show (0 : Int) < _; omega) ⟨_, t3, ?_⟩]
  · rfl
  · obtain ⟨q, hq⟩ : ∃ q, (htsI a b bs).length = q + 1 := ⟨(htsI a b bs).length - 1, by omega⟩
    have : (alI a b bs).getD (htsI a b bs).length 0 = (htsI a b bs).getD ((htsI a b bs).length - 1) 0 := by
      rw [hq]; simp [List.getD]
    rw [this]; omega
omit hok ho hl in
theorem peg_peg (hb : 1 ≤ b) (x : Int) : pegH a b (pegH a b x) = pegH a b x := by
  refine (pegH_fix hb).2 ⟨(pegH_bounds hb).1, ?_⟩
  have hq := pegH_q (a := a) (high := x) hb
  rw [Int.tmod_eq_emod_of_nonneg (by have := pegH_bounds (a := a) (high := x) hb; omega)]
  unfold pegH
  rw [show a + (max (x - a) 0 + b - 1) / b * b - a = (max (x - a) 0 + b - 1) / b * b by omega]
  exact Int.mul_emod_left _ _
theorem best_valid {cn : Nat} (h1 : 1 ≤ cn) (h6 : cn ≤ 6) (hm : cn ≤ (htsI a b bs).length) : validH a b c (bestL a b bs cn) = true := by
  obtain ⟨f1, f2, f3⟩ := best_facts hok ho hl h1 h6 hm
  have hr := best_rise hok ho hl h1 h6 hm
  have hp := pegsOk_iff.1 hok
  rw [← okH_validH, okH]
  simp only [Bool.and_eq_true]
  refine ⟨⟨hok, inI_iff.2 (by rw [f1]; omega)⟩, ask_true (fun i hi => ?_)⟩
  have hm2 := f2 _ (getD_mem' (d := 0) hi)
  have hb := hts_b hok ho _ hm2
  obtain ⟨j, hj, he⟩ := mem_htsI.1 hm2
  refine ⟨by omega, ?_, fun h0 => ?_⟩
  · rw [← he]; exact peg_peg hp.2.1.1 _
  · have := List.pairwise_iff_getElem.1 hr (i - 1) i (by omega) hi (by omega)
    simpa [List.getD, hi, show i - 1 < (bestL a b bs cn).length by omega] using this
end
/-! ### One height more wastes no more -/
theorem mnI_le {w p : Nat → Int} {j0 : Nat} : ∀ {s t : Nat}, t < s → mnI w p j0 s ≤ w (j0 + t) + p (j0 + t)
  | s + 1, t, h => by
    rw [mnI]
    by_cases e : t = s
    · subst e; omega
    · have := mnI_le (w := w) (p := p) (j0 := j0) (show t < s by omega); omega
theorem mnI_hit {w p : Nat → Int} {j0 : Nat} : ∀ {s : Nat}, mnI w p j0 s < BIG → ∃ t, t < s ∧ mnI w p j0 s = w (j0 + t) + p (j0 + t)
  | 0, h => by simp [mnI] at h
  | s + 1, h => by
    rw [mnI] at h ⊢
    rcases Int.lt_or_le (mnI w p j0 s) (w (j0 + s) + p (j0 + s)) with h1 | h1
    · obtain ⟨t, ht, e⟩ := mnI_hit (w := w) (p := p) (j0 := j0) (s := s) (by omega)
      exact ⟨t, by omega, by omega⟩
    · exact ⟨s, by omega, by omega⟩
theorem FI_down {W : Nat → Nat → Int} {m : Nat} (hW : ∀ i j, 0 ≤ W i j) (htri : ∀ a q j, a < q → q < j → j ≤ m → W a q + W q j ≤ W a j) : ∀ k a, a + k + 2 ≤ m → FI W m (k + 2) a ≤ FI W m (k + 1) a
  | k, a, h => by
    rcases Int.lt_or_le (FI W m (k + 1) a) BIG with hlt | hge
    · obtain ⟨t, ht, he⟩ := mnI_hit (show mnI (W a) (FI W m k) (a + 1) (m - a) < BIG from hlt)
      have he : FI W m (k + 1) a = W a (a + 1 + t) + FI W m k (a + 1 + t) := he
      have e1 : FI W m (k + 2) a ≤ W a (a + 1) + FI W m (k + 1) (a + 1) := mnI_le (t := 0) (w := W a) (p := FI W m (k + 1)) (j0 := a + 1) (show 0 < m - a by omega)
      rcases Nat.eq_zero_or_pos t with rfl | ht0
      · have he : FI W m (k + 1) a = W a (a + 1) + FI W m k (a + 1) := he
        cases k with
        | zero =>
          exfalso
          have : FI W m 0 (a + 1) = BIG := by rw [FI, if_neg (by omega)]
          have := hW a (a + 1)
          omega
        | succ k =>
          have ih : FI W m (k + 1 + 1) (a + 1) ≤ FI W m (k + 1) (a + 1) := FI_down hW htri k (a + 1) (by omega)
          omega
      · have e2 : FI W m (k + 1) (a + 1) ≤ W (a + 1) (a + 1 + 1 + (t - 1)) + FI W m k (a + 1 + 1 + (t - 1)) := mnI_le (w := W (a + 1)) (p := FI W m k) (j0 := a + 1 + 1) (show t - 1 < m - (a + 1) by omega)
        rw [show a + 1 + 1 + (t - 1) = a + 1 + t by omega] at e2
        have e3 := htri a (a + 1) (a + 1 + t) (by omega) (by omega) (by omega)
        omega
    · have := (FI_b (m := m) hW (k + 2) a).2
      omega
theorem W_tri {a b : Int} {bs : List Bk} (hw : ∀ b ∈ bs, 0 ≤ b.wide) (hpos : ∀ x ∈ htsI a b bs, 0 < x) : ∀ x q j, x < q → q < j → j ≤ (htsI a b bs).length → WB a b bs x q + WB a b bs q j ≤ WB a b bs x j := fun x q j h1 h2 h3 => by
  have hu := al_up hpos
  have u1 := hu x q h1 (by omega)
  have u2 := hu q j h2 h3
  show wOn bs _ _ _ + wOn bs _ _ _ ≤ wOn bs _ _ _
  rw [wOn_sum, wOn_sum, wOn_sum, ← sumB_add]
  refine sumB_le _ (fun i hi => ?_)
  have h0 := hw _ (getD_mem' (d := bk0) hi)
  rw [← Int.mul_add]
  refine Int.mul_le_mul_of_nonneg_left ?_ h0
  unfold ivB
  repeat' split
  all_goals omega
theorem best_down {a b c : Int} {bs : List Bk} (hok : pegsOk a b c = true) (ho : ∀ b ∈ bs, okB2 b) (hl : bs.length ≤ 60) {k : Nat} (hm : k + 2 ≤ (htsI a b bs).length) : bestV a b bs (k + 2) ≤ bestV a b bs (k + 1) := by
  have hal := htsI_ok hok ho
  exact FI_down (fun i j => (wF_b ho hl hal i j).1) (W_tri (fun b hb => by have := (ho b hb).1; omega) (hts_pos hok ho hl)) k 0 (by omega)
/-! ### A height more -/
theorem waste_put {hs : List Int} {bs : List Bk} {h : Int} (hr : hs.Pairwise (· < ·)) (ho : ∀ b ∈ bs, okB2 b) (hex : ∀ i, i < bs.length → ∃ y ∈ hs, (bs.getD i bk0).high ≤ y) :
    sumA (wG (putI hs h) bs) (gF (putI hs h) bs) bs.length ≤ sumA (wG hs bs) (gF hs bs) bs.length := by
  rw [sumA_ce, sumA_ce]
  refine sumB_le _ (fun i hi => ?_)
  have hb := (ho _ (getD_mem' (d := bk0) hi)).1
  refine Int.mul_le_mul_of_nonneg_left ?_ (by omega)
  obtain ⟨p1, p2⟩ := putI_rise hr h
  obtain ⟨c1, c2, _⟩ := ceF_spec hr (hex i hi)
  have hm : ceF hs (bs.getD i bk0).high ∈ putI hs h := (p2 _).2 (.inr c1)
  have := (ceF_spec p1 ⟨_, hm, c2⟩).2.2 _ hm c2
  omega
theorem allG_ex {hs : List Int} {bs : List Bk} : allG hs bs ↔ ∀ i, i < bs.length → ∃ y ∈ hs, (bs.getD i bk0).high ≤ y := by
  constructor
  · intro h i hi
    obtain ⟨h1, h2⟩ := allG_lt h i hi
    have he := gF_eq (h i hi)
    refine ⟨hs.getD (gF hs bs i).toNat 0, getD_mem' (by omega), ?_⟩
    unfold idxOf at he
    cases hf : hs.findIdx? (isHigh (bs.getD i bk0).high) with
    | none => rw [hf] at he; simp only at he; omega
    | some k =>
      rw [hf] at he
      simp only at he
      obtain ⟨hk, hp, _⟩ := List.findIdx?_eq_some_iff_getElem.1 hf
      rw [show (gF hs bs i).toNat = k by omega]
      simpa [isHigh, List.getD, hk] using hp
  · intro h j hj
    obtain ⟨y, hy, hle⟩ := h j hj
    rw [show (gF hs bs j == (hs.length : Int)) = decide (idxOf (isHigh (bs.getD j bk0).high) hs < 0) from fstOf_none _ _, decide_eq_false_iff_not]
    unfold idxOf
    cases hf : hs.findIdx? (isHigh (bs.getD j bk0).high) with
    | some i => simp only; omega
    | none =>
      exfalso
      have h2 := List.findIdx?_eq_none_iff.1 hf _ hy
      simp only [isHigh, decide_eq_false_iff_not] at h2
      omega
theorem addF_found {hs : List Int} {bs : List Bk} {L : List Int} : ∀ i, i ≤ L.length → (addF hs bs L i).2.2 = true →
    (addF hs bs L i).1 ∈ L ∧ hasB hs (addF hs bs L i).1 = false ∧ (addF hs bs L i).2.1 = (wasteI (putI hs (addF hs bs L i).1) bs).1 ∧ (wasteI (putI hs (addF hs bs L i).1) bs).2 = true
  | 0, _, h0 => by simp [addF] at h0
  | i + 1, hi, h0 => by
    have ih := addF_found (hs := hs) (bs := bs) (L := L) i (by omega)
    rw [addF, addS] at h0 ⊢
    split
    · rename_i h1; rw [if_pos h1] at h0; exact ih h0
    · rename_i h1
      rw [if_neg h1] at h0
      split
      · rename_i h2
        simp only [Bool.and_eq_true] at h2
        exact ⟨getD_mem' (by omega), by simpa using h1, rfl, h2.1⟩
      · rename_i h2; rw [if_neg h2] at h0; exact ih h0
theorem addR_law {a b c : Int} {hs : List Int} {bs : List Bk} (hv : (!validH a b c hs || !validBs bs) = false) (ho : ∀ b ∈ bs, okB2 b) (ha : allG hs bs) :
    ((addR a b c hs bs).2.2 = 0 ∧ (addR a b c hs bs).2.1 ≤ sumA (wG hs bs) (gF hs bs) bs.length ∧ hasB hs (addR a b c hs bs).1 = false ∧ hasB (htsI a b bs) (addR a b c hs bs).1 = true) ∨ (addR a b c hs bs).2.2 = 6 ∨ (addR a b c hs bs).2.2 = 3 := by
  have hvh : validH a b c hs = true := by
    cases h : validH a b c hs with
    | true => rfl
    | false => rw [h] at hv; simp at hv
  rw [addR, if_neg (by rw [hv]; simp)]
  split
  · right; right; rfl
  · split
    · right; left; rfl
    · rename_i h2
      left
      obtain ⟨f1, f2, f3, f4⟩ := addF_found (hs := hs) (bs := bs) (L := htsI a b bs) _ (Nat.le_refl _) (by simpa using h2)
      have hr := validH_pw hvh
      refine ⟨rfl, ?_, f2, ?_⟩
      · show (addF hs bs (htsI a b bs) (htsI a b bs).length).2.1 ≤ _
        have ha2 : allG (putI hs (addF hs bs (htsI a b bs) (htsI a b bs).length).1) bs := allG_ex.2 (fun i hi => by
          obtain ⟨y, hy, hle⟩ := allG_ex.1 ha i hi
          exact ⟨y, ((putI_rise hr _).2 y).2 (.inr hy), hle⟩)
        rw [f3, wasteI_eq, if_pos (ask_true ha2)]
        exact waste_put hr ho (allG_ex.1 ha)
      · obtain ⟨j, hj, he⟩ := mem_getDH (d := 0) f1
        exact hasB_yes hj (by exact he)
/-! ### The lowest case -/
theorem lowF_min {a b c : Int} {bs : List Bk} {wide : Int} : ∀ K k, 1 ≤ k → k ≤ K → (lowF a b c bs wide K).2 ≤ lowT a b c bs wide k
  | 0, k, h1, h2 => by omega
  | K + 1, k, h1, h2 => by
    by_cases h : K = 0 ∨ lowT a b c bs wide (K + 1) < (lowF a b c bs wide K).2
    · rw [lowF_yes h]
      by_cases e : k = K + 1
      · rw [e]; exact Int.le_refl _
      · have ih := lowF_min (a := a) (b := b) (c := c) (bs := bs) (wide := wide) K k h1 (by omega)
        show lowT a b c bs wide (K + 1) ≤ _
        omega
    · have h3 : K ≠ 0 := fun e => h (.inl e)
      rw [lowF_no h3 (fun e => h (.inr e))]
      by_cases e : k = K + 1
      · rw [e]; have := fun e => h (.inr e); omega
      · exact lowF_min K k h1 (by omega)
theorem nedI_b {bs : List Bk} {wide : Int} (q : List Int) : 0 ≤ nedI bs wide q ∧ nedI bs wide q ≤ q.length := by
  have := leftF_len wide (wq bs q) q.length
  unfold nedI
  omega
end Go.Proofs.YtheoapoddmmahaaGreat.Abs

