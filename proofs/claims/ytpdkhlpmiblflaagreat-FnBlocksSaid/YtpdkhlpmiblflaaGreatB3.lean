import Derived.Test.YtpdkhlpmiblflaaGreatB2
set_option linter.unusedVariables false
set_option linter.unusedSimpArgs false
namespace Go.Proofs.YtpdkhlpmiblflaaGreat.Abs
open Go Go.RowKit
theorem i64s_app (xs ys : List Int) : i64s (xs ++ ys) = i64s xs ++ i64s ys := by simp
def maxI (a b : Int) : Int := if b > a then b else a
theorem maxI_b (a b : Int) : a ≤ maxI a b ∧ b ≤ maxI a b ∧ (maxI a b = a ∨ maxI a b = b) := by
  unfold maxI
  split <;> omega

noncomputable abbrev s_S_l00Max : Spec (Int × Int) where
  args := fun x => [.val (.int .i64 x.1), .val (.int .i64 x.2)]
  res := fun x => .val (.int .i64 (maxI x.2 x.1))

set_option maxRecDepth 20000 in
set_option maxHeartbeats 1000000 in
theorem ok_S_l00Max : FnOk Pr 58 s_S_l00Max := by
 refine fn_ok 2 0 T0_ok Go.Proofs.Tryz.func58 rfl (enters_of Go.Proofs.Tryz.func58 rfl rfl) (fun _ => rfl) (fun _ => rfl) (fun _ => rfl) ?_
 rintro ⟨a, b⟩ - C hP hN hm hG
 change awp C _ _ ⟨[(0, .val (.int .i64 a)), (1, .val (.int .i64 b))], [], 0⟩
 refine awp_seq ?_
 refine r1 T0_ok hP hm hN ?_
 refine g1 ?_
 refine awp_seq ?_
 refine awp_seq ?_
 refine r1 T0_ok hP hm hN ?_
 iterate 3 refine g1 ?_
 refine awp_cond rfl (fun hc0 => ?_) (fun hc0 => ?_)
 ·
  refine awp_seq ?_
  refine r1 T0_ok hP hm hN ?_
  iterate 2 refine g1 ?_
  refine awp_ret ?_
  refine fin_mk [] rfl rfl ?_ trivial (by decide)
  show D.val (.int .i64 (maxI b a)) = _
  rw [maxI, if_pos (by simpa using hc0)]
  rfl
 ·
  refine awp_skip ?_
  refine awp_seq ?_
  refine r1 T0_ok hP hm hN ?_
  iterate 2 refine g1 ?_
  refine awp_ret ?_
  refine fin_mk [] rfl rfl ?_ trivial (by decide)
  show D.val (.int .i64 (maxI b a)) = _
  rw [maxI, if_neg (by simpa using hc0)]
  rfl

def leU (xs : List Bk) (a b : Nat) : Bool := decide (cmpU (xs.getD a bk0) (xs.getD b bk0) ≤ 0)
theorem leU_back (xs : List Bk) (a b : Nat) : decide (cmpU (xs.getD b bk0) (xs.getD a bk0) ≥ 0) = leU xs a b := by
  unfold leU
  rw [cmpU_anti (xs.getD a bk0) (xs.getD b bk0)]
  rw [Bool.eq_iff_iff, decide_eq_true_eq, decide_eq_true_eq]
  omega
theorem maxI_comm (a b : Int) : maxI a b = maxI b a := by
  have h1 := maxI_b a b
  have h2 := maxI_b b a
  omega

def mxF (le : Nat → Nat → Bool) (f : List Int) (i : Nat) : Nat → Int
  | 0 => 0
  | j + 1 => if i < j ∧ le i j = true then maxI (mxF le f i j) (f.getD j 0) else mxF le f i j
theorem mxF_start (le : Nat → Nat → Bool) (f : List Int) (i : Nat) : ∀ j, j ≤ i + 1 → mxF le f i j = 0
  | 0, _ => rfl
  | j + 1, h => by rw [mxF, if_neg (by omega), mxF_start le f i j (by omega)]
theorem mxF_same (le : Nat → Nat → Bool) {f g : List Int} (i : Nat) : ∀ j, (∀ k, i < k → k < j → f.getD k 0 = g.getD k 0) → mxF le f i j = mxF le g i j
  | 0, _ => rfl
  | j + 1, h => by
    rw [mxF, mxF, mxF_same le i j (fun k h1 h2 => h k h1 (by omega))]
    by_cases e : i < j ∧ le i j = true
    · rw [if_pos e, if_pos e, h j e.1 (by omega)]
    · rw [if_neg e, if_neg e]
theorem mxF_b (le : Nat → Nat → Bool) {f : List Int} {m : Int} (i : Nat) (hm : 0 ≤ m) : ∀ j, (∀ k, i < k → k < j → 1 ≤ f.getD k 0 ∧ f.getD k 0 ≤ m) → 0 ≤ mxF le f i j ∧ mxF le f i j ≤ m ∧ (mxF le f i j = 0 ∨ ∃ k, i < k ∧ k < j ∧ le i k = true ∧ f.getD k 0 = mxF le f i j)
  | 0, _ => ⟨by simp [mxF], by simpa [mxF] using hm, .inl rfl⟩
  | j + 1, h => by
    obtain ⟨h1, h2, h3⟩ := mxF_b le (f := f) i hm j (fun k h1 h2 => h k h1 (by omega))
    have h3' : mxF le f i j = 0 ∨ ∃ k, i < k ∧ k < j + 1 ∧ le i k = true ∧ f.getD k 0 = mxF le f i j := h3.imp id (fun ⟨k, a, b, c⟩ => ⟨k, a, by omega, c⟩)
    rw [mxF]
    by_cases e : i < j ∧ le i j = true
    · rw [if_pos e]
      have hj := h j e.1 (by omega)
      have hb := maxI_b (mxF le f i j) (f.getD j 0)
      refine ⟨by omega, by omega, ?_⟩
      rcases hb.2.2 with h4 | h4
      · rw [h4]; exact h3'
      · rw [h4]; exact .inr ⟨j, e.1, by omega, e.2, rfl⟩
    · rw [if_neg e]; exact ⟨h1, h2, h3'⟩
def behL (le : Nat → Nat → Bool) (n : Nat) : Nat → List Int
  | 0 => List.replicate n 0
  | d + 1 => (behL le n d).set (n - 1 - d) (1 + mxF le (behL le n d) (n - 1 - d) n)
theorem behL_len (le : Nat → Nat → Bool) (n : Nat) : ∀ d, (behL le n d).length = n
  | 0 => by simp [behL]
  | d + 1 => by rw [behL, List.length_set, behL_len le n d]
theorem getD_set' {f : List Int} {i j : Nat} {v : Int} (h : i < f.length) : (f.set i v).getD j 0 = if i = j then v else f.getD j 0 := by
  by_cases e : i = j
  · subst e; simp [List.getD, h]
  · simp [List.getD, List.getElem?_set, e]
theorem behL_step (le : Nat → Nat → Bool) (n d j : Nat) (h : d < n) : (behL le n (d + 1)).getD j 0 = if n - 1 - d = j then 1 + mxF le (behL le n d) (n - 1 - d) n else (behL le n d).getD j 0 := by
  rw [behL, getD_set' (by rw [behL_len]; omega)]
theorem behL_b (le : Nat → Nat → Bool) (n : Nat) : ∀ d, d ≤ n → ∀ j, n - d ≤ j → j < n → 1 ≤ (behL le n d).getD j 0 ∧ (behL le n d).getD j 0 ≤ n
  | 0, _, j, h1, h2 => by omega
  | d + 1, h, j, h1, h2 => by
    have hb : ∀ d, d ≤ n → (∀ j, n - d ≤ j → j < n → 1 ≤ (behL le n d).getD j 0 ∧ (behL le n d).getD j 0 ≤ ((n - j : Nat) : Int)) := by
      intro d
      induction d with
      | zero => intro _ j h1 h2; omega
      | succ d ih =>
        intro hd j h1 h2
        rw [behL_step le n d j (by omega)]
        by_cases e : n - 1 - d = j
        · rw [if_pos e]
          have := mxF_b le (f := behL le n d) (m := (d : Int)) (n - 1 - d) (by omega) n (fun k hk1 hk2 => by
            have := ih (by omega) k (by omega) hk2
            omega)
          omega
        · rw [if_neg e]; exact ih (by omega) j (by omega) h2
    have := hb (d + 1) h j h1 h2
    omega
theorem behL_all (le : Nat → Nat → Bool) (n : Nat) : ∀ d, d ≤ n → ∀ i, n - d ≤ i → i < n → (behL le n d).getD i 0 = 1 + mxF le (behL le n d) i n
  | 0, _, i, h1, h2 => by omega
  | d + 1, h, i, h1, h2 => by
    have same : ∀ k, n - 1 - d < k → k < n → (behL le n d).getD k 0 = (behL le n (d + 1)).getD k 0 := fun k hk _ => by rw [behL_step le n d k (by omega), if_neg (by omega)]
    rw [behL_step le n d i (by omega)]
    by_cases e : n - 1 - d = i
    · rw [if_pos e, ← e, mxF_same le (n - 1 - d) n same]
    · rw [if_neg e, behL_all le n d (by omega) i (by omega) h2, mxF_same le i n (fun k hk1 hk2 => same k (by omega) hk2)]
theorem beh_next (le : Nat → Nat → Bool) (n i : Nat) (h : i < n) (h1 : 1 < (behL le n n).getD i 0) : ∃ k, i < k ∧ k < n ∧ le i k = true ∧ (behL le n n).getD k 0 = (behL le n n).getD i 0 - 1 := by
  have e := behL_all le n n (Nat.le_refl _) i (by omega) h
  have hb := mxF_b le (f := behL le n n) (m := (n : Int)) i (by omega) n (fun k h1 h2 => behL_b le n n (Nat.le_refl _) k (by omega) h2)
  rcases hb.2.2 with h3 | ⟨k, h3, h4, h5, h6⟩
  · omega
  · exact ⟨k, h3, h4, h5, by omega⟩
def topF (f0 : Int) (f : List Int) : Nat → Int
  | 0 => f0
  | i + 1 => maxI (topF f0 f i) (f.getD i 0)
theorem topF_b (f0 : Int) (f : List Int) : ∀ i, f0 ≤ topF f0 f i ∧ (∀ k, k < i → f.getD k 0 ≤ topF f0 f i) ∧ (topF f0 f i = f0 ∨ ∃ k, k < i ∧ f.getD k 0 = topF f0 f i)
  | 0 => ⟨Int.le_refl _, fun k h => by omega, .inl rfl⟩
  | i + 1 => by
    obtain ⟨h1, h2, h3⟩ := topF_b f0 f i
    have hb := maxI_b (topF f0 f i) (f.getD i 0)
    rw [topF]
    refine ⟨by omega, fun k hk => ?_, ?_⟩
    · by_cases e : k = i
      · subst e; exact hb.2.1
      · have := h2 k (by omega); omega
    · rcases hb.2.2 with h4 | h4
      · rw [h4]; exact h3.imp id (fun ⟨k, a, b⟩ => ⟨k, by omega, b⟩)
      · rw [h4]; exact .inr ⟨i, by omega, rfl⟩
def pickB (le : Nat → Nat → Bool) (f : List Int) (s : List Nat × Int) (i : Nat) : Bool := decide (f.getD i 0 = s.2) && (decide (s.1 = []) || le (s.1.getD (s.1.length - 1) 0) i)
def selF (le : Nat → Nat → Bool) (f : List Int) (most : Int) : Nat → List Nat × Int
  | 0 => ([], most)
  | i + 1 => if 0 < (selF le f most i).2 ∧ pickB le f (selF le f most i) i = true then ((selF le f most i).1 ++ [i], (selF le f most i).2 - 1) else selF le f most i
theorem selF_yes {le : Nat → Nat → Bool} {f : List Int} {most : Int} {i : Nat} (h1 : 0 < (selF le f most i).2) (h2 : pickB le f (selF le f most i) i = true) : selF le f most (i + 1) = ((selF le f most i).1 ++ [i], (selF le f most i).2 - 1) := by rw [selF, if_pos ⟨h1, h2⟩]
theorem selF_no {le : Nat → Nat → Bool} {f : List Int} {most : Int} {i : Nat} (h : ¬ (0 < (selF le f most i).2 ∧ pickB le f (selF le f most i) i = true)) : selF le f most (i + 1) = selF le f most i := by rw [selF, if_neg h]
theorem selF_end {le : Nat → Nat → Bool} {f : List Int} {most : Int} {i : Nat} (h : (selF le f most i).2 ≤ 0) : ∀ j, i ≤ j → selF le f most j = selF le f most i
  | 0, hj => by rw [show i = 0 by omega]
  | j + 1, hj => by
    by_cases e : i = j + 1
    · rw [e]
    · have ih := selF_end h j (by omega)
      rw [selF_no (by rw [ih]; omega), ih]
structure SelOk (le : Nat → Nat → Bool) (f : List Int) (n i : Nat) (s : List Nat × Int) : Prop where
  lt : ∀ k ∈ s.1, k < i
  len : s.1.length ≤ i
  left : 0 ≤ s.2 ∧ s.2 ≤ n
  sum : (s.1.length : Int) + s.2 ≤ n
  more : 0 < s.2 → ∃ j, i ≤ j ∧ j < n ∧ pickB le f s j = true
theorem sel_ok (le : Nat → Nat → Bool) (n : Nat) : ∀ i, i ≤ n → SelOk le (behL le n n) n i (selF le (behL le n n) (topF 0 (behL le n n) n) i)
  | 0, _ => by
    obtain ⟨h1, h2, h3⟩ := topF_b 0 (behL le n n) n
    have hle : topF 0 (behL le n n) n ≤ n := by
      rcases h3 with h | ⟨k, hk, h⟩
      · omega
      · have := behL_b le n n (Nat.le_refl _) k (by omega) hk; omega
    refine ⟨fun k hk => by simp [selF] at hk, by simp [selF], ⟨h1, hle⟩, by simpa [selF] using hle, fun h0 => ?_⟩
    simp only [selF] at h0 ⊢
    rcases h3 with h | ⟨k, hk, h⟩
    · omega
    · exact ⟨k, by omega, hk, by simp only [pickB, h]; simp⟩
  | i + 1, hi => by
    have ih := sel_ok le n i (by omega)
    by_cases h : 0 < (selF le (behL le n n) (topF 0 (behL le n n) n) i).2 ∧ pickB le (behL le n n) (selF le (behL le n n) (topF 0 (behL le n n) n) i) i = true
    · rw [selF_yes h.1 h.2]
      have hlt := ih.lt
      have hp := h.2
      simp only [pickB, Bool.and_eq_true, decide_eq_true_eq] at hp
      refine ⟨fun k hk => ?_, by simp; have := ih.len; omega, by have := ih.left; omega, by have := ih.sum; simp; omega, fun h0 => ?_⟩
      · simp only [List.mem_append, List.mem_singleton] at hk
        rcases hk with hk | hk
        · have := hlt k hk; omega
        · omega
      · simp only at h0
        obtain ⟨j, h1, h2, h3, h4⟩ := beh_next le n i (by omega) (by rw [hp.1]; omega)
        refine ⟨j, by omega, h2, ?_⟩
        simp only [pickB, Bool.and_eq_true, decide_eq_true_eq, Bool.or_eq_true]
        refine ⟨by rw [h4, hp.1], .inr ?_⟩
        simpa [List.getD] using h3
    · rw [selF_no h]
      refine ⟨fun k hk => by have := ih.lt k hk; omega, by have := ih.len; omega, ih.left, ih.sum, fun h0 => ?_⟩
      obtain ⟨j, h1, h2, h3⟩ := ih.more h0
      refine ⟨j, ?_, h2, h3⟩
      rcases Nat.lt_or_ge i j with h4 | h4
      · omega
      · exfalso
        have : j = i := by omega
        subst this
        exact h ⟨h0, h3⟩
def natI (l : List Nat) : List Int := l.map fun k : Nat => (k : Int)
theorem natI_len (l : List Nat) : (natI l).length = l.length := by simp [natI]
theorem natI_app (l : List Nat) (k : Nat) : natI (l ++ [k]) = natI l ++ [(k : Int)] := by simp [natI]
def lastN (l : List Nat) : Nat := l.getD (l.length - 1) 0
theorem lastN_app (l : List Nat) (k : Nat) : lastN (l ++ [k]) = k := by simp [lastN, List.getD]
theorem lastN_lt {l : List Nat} {n : Nat} (hn : 0 < n) (h : ∀ k ∈ l, k < n) : lastN l < n := by
  unfold lastN
  rcases Nat.eq_zero_or_pos l.length with h0 | h0
  · have : l = [] := List.eq_nil_of_length_eq_zero h0
    subst this; exact hn
  · exact h _ (getD_mem' (by omega))
def lastI (l : List Nat) : Int := if l = [] then -1 else (lastN l : Int)
theorem lastI_app (l : List Nat) (k : Nat) : lastI (l ++ [k]) = k := by rw [lastI, if_neg (by simp), lastN_app]
theorem lastI_neg {l : List Nat} : lastI l < 0 ↔ l = [] := by
  unfold lastI
  split <;> simp_all
theorem lastI_b {l : List Nat} {n : Nat} (hn : 0 < n) (h : ∀ k ∈ l, k < n) : -1 ≤ lastI l ∧ lastI l < n := by
  have := lastN_lt hn h
  unfold lastI
  split <;> omega
theorem pick_or2 (t x : Bool) : (if t = true then .val (.bool true) else gd (t == false) true (.val (.bool x))) = .val (.bool (t || x)) := by cases t <;> rfl
theorem beqI (a b : Int) : (a == b) = decide (a = b) := by rw [Bool.eq_iff_iff]; simp
theorem pick_spec (xs : List Bk) (f : List Int) (s : List Nat × Int) (i : Nat) : ((f.getD i 0 == s.2) && (decide (lastI s.1 < 0) || decide (cmpU (xs.getD i bk0) (xs.getD (lastI s.1).toNat bk0) ≥ 0))) = pickB (leU xs) f s i := by
  unfold pickB
  simp only [beqI]
  congr 1
  by_cases e : s.1 = []
  · rw [decide_eq_true (lastI_neg.2 e), decide_eq_true e, Bool.true_or, Bool.true_or]
  · have h1 : decide (lastI s.1 < 0) = false := by simpa using (fun h => e (lastI_neg.1 h))
    have h2 : lastI s.1 = (lastN s.1 : Int) := by rw [lastI, if_neg e]
    rw [h1, Bool.false_or, decide_eq_false e, Bool.false_or, leU_back, h2, Int.toNat_natCast]
    rfl
abbrev behA (xs : List Bk) : List Int := behL (leU xs) xs.length xs.length
abbrev topA (xs : List Bk) : Int := topF 0 (behA xs) xs.length
abbrev selA (xs : List Bk) (i : Nat) : List Nat × Int := selF (leU xs) (behA xs) (topA xs) i
theorem selA_yes {xs : List Bk} {i : Nat} {s : List Nat × Int} (hs : s = selA xs i) (h1 : 0 < s.2) (h2 : pickB (leU xs) (behA xs) s i = true) : (s.1 ++ [i], s.2 - 1) = selA xs (i + 1) := by
  subst hs; exact (selF_yes h1 h2).symm
theorem selA_no {xs : List Bk} {i : Nat} {s : List Nat × Int} (hs : s = selA xs i) (h2 : pickB (leU xs) (behA xs) s i = false) : s = selA xs (i + 1) := by
  subst hs; exact (selF_no (fun h => by simp [h2] at h)).symm
theorem selA_end {xs : List Bk} {i : Nat} {s : List Nat × Int} (hs : s = selA xs i) (h : s.2 ≤ 0 ∨ i = xs.length) (hi : i ≤ xs.length) : selA xs xs.length = s := by
  rcases h with h | h
  · subst hs; exact selF_end h _ hi
  · rw [hs, h]
def keptL (xs : List Bk) : List Int := natI (selA xs xs.length).1
theorem keptL_len (xs : List Bk) : (keptL xs).length ≤ xs.length := by rw [keptL, natI_len]; exact (sel_ok (leU xs) xs.length xs.length (Nat.le_refl _)).len
def leastR (xs : List Bk) : Int × Int := if !validBs xs then (0, 1) else ((xs.length : Int) - (keptL xs).length, 0)

noncomputable abbrev s_S_l03Behind : Spec (List Bk) where
  args := fun xs => [.sl 8 (bks xs)]
  pre := fun xs => (∀ b ∈ xs, isBk b) ∧ xs.length ≤ 1048576
  new := fun xs => [⟨2, 1, false, i64s (behA xs)⟩]
  res := fun xs => .own 0

set_option maxRecDepth 20000 in
set_option maxHeartbeats 4000000 in
theorem ok_S_l03Behind : FnOk Pr 57 s_S_l03Behind := by
 refine fn_ok 1 0 T0_ok Go.Proofs.Tryz.func57 rfl (enters_of Go.Proofs.Tryz.func57 rfl rfl) (fun _ => rfl) (fun _ => rfl) (fun _ => rfl) ?_
 rintro xs ⟨hv, hl⟩ C hP hN hm hG
 change awp C _ _ ⟨[(0, .sl 8 (bks xs))], [], 0⟩
 have xn1 := And.intro @i64s_rep (And.intro @List.length_replicate.{0} (@i64s_set))
 refine awp_seq ?_
 refine r1 T0_ok hP hm hN ?_
 refine g1 ?_
 refine awp_seq ?_
 refine r1 T0_ok hP hm hN ?_
 iterate 4 refine g1 ?_
 refine awp_seq ?_
 refine awp_seq ?_
 refine r1 T0_ok hP hm hN ?_
 iterate 4 refine g1 ?_
 refine awp_block ?_
 refine awp_loop (fun n st => ∃ (d : Nat) (i : Int), d ≤ xs.length ∧ i = (xs.length : Int) - 1 - d ∧ n = xs.length - d ∧ st = ⟨[(4, .val (.int .i64 i)), (3, .own 0), (0, .sl 8 (bks xs))], [(0, ⟨2, 1, false, i64s (behL (leU xs) xs.length d)⟩)], 1⟩) xs.length ⟨_, (by rw [show behL (leU xs) xs.length 0 = List.replicate xs.length 0 from rfl]; exact weak_sl (sub_cons rfl (sub_cons rfl (sub_cons rfl (sub_nil))))), 0, (xs.length : Int) - 1, by omega, by omega, by omega, rfl⟩ ?_
 rintro n st ⟨d, i, hd, hi, hn, rfl⟩
 have hbl := behL_len (leU xs) xs.length d
 refine awp_seq ?_
 refine awp_seq ?_
 refine r1 T0_ok hP hm hN ?_
 iterate 2 refine g1 ?_
 refine awp_cond rfl (fun hc0 => ?_) (fun hc0 => ?_)
 ·
  have hge : 0 ≤ i := by simpa using hc0
  obtain ⟨q, rfl⟩ := Int.eq_ofNat_of_zero_le hge
  have hq : q = xs.length - 1 - d := by omega
  have hdl : d < xs.length := by omega
  refine awp_skip ?_
  refine awp_seq ?_
  refine awp_block ?_
  refine awp_seq ?_
  refine r1 T0_ok hP hm hN ?_
  refine g1 ?_
  refine awp_seq ?_
  refine awp_seq ?_
  refine r1 T0_ok hP hm hN ?_
  iterate 3 refine g1 ?_
  refine awp_block ?_
  refine awp_loop (fun n st => ∃ k : Nat, q + 1 ≤ k ∧ k ≤ xs.length ∧ n = xs.length - k ∧ st = ⟨[(6, .val (.int .i64 ((k : Nat) : Int))), (5, .val (.int .i64 (mxF (leU xs) (behL (leU xs) xs.length d) q k))), (4, .val (.int .i64 ((q : Nat) : Int))), (3, .own 0), (0, .sl 8 (bks xs))], [(0, ⟨2, 1, false, i64s (behL (leU xs) xs.length d)⟩)], 1⟩) (xs.length - (q + 1)) ⟨_, (by rw [mxF_start _ _ _ _ (Nat.le_refl _)]; exact weak_sl (sub_cons rfl (sub_cons rfl (sub_cons rfl (sub_cons rfl (sub_cons rfl (sub_nil))))))), q + 1, Nat.le_refl _, by omega, rfl, rfl⟩ ?_
  rintro n st ⟨k, hk1, hk2, hn2, rfl⟩
  have hmb := mxF_b (leU xs) (f := (behL (leU xs) xs.length d)) (m := (xs.length : Int)) q (by omega) k (fun j h1 h2 => behL_b (leU xs) xs.length d hd j (by omega) (by omega))
  have hmb1 := hmb.1
  have hmb2 := hmb.2.1
  clear hmb
  refine awp_seq ?_
  refine awp_seq ?_
  refine r1 T0_ok hP hm hN ?_
  iterate 4 refine g1 ?_
  refine awp_cond rfl (fun hc1 => ?_) (fun hc1 => ?_)
  ·
   have hltk : k < xs.length := by simpa using hc1
   have hfk := behL_b (leU xs) xs.length d hd k (by omega) hltk
   refine awp_skip ?_
   refine awp_seq ?_
   refine awp_block ?_
   refine awp_seq ?_
   refine awp_draw T0_ok hP hm hN Pr_mix [0, 1, 2, 3, 4, 5, 6, 7, 8, 9, 10, 11] [6] _ rfl (by rfl) ?_
   iterate 6 refine d1 T0_ok ?_
   refine dp1 ?_ (call1 ok_S_l01Usual ((_, _, _, 0, xs.getD k bk0), (_, _, _, 0, xs.getD q bk0), false) [] (hpre := by (try dsimp only); exact ⟨⟨bks_get _ _ (by omega), hv _ (getD_mem' (by omega))⟩, ⟨bks_get _ _ (by omega), hv _ (getD_mem' (by omega))⟩⟩))
   refine d1 T0_ok ?_
   refine dreg_nil ?_
   refine awp_cond rfl (fun hc2 => ?_) (fun hc2 => ?_)
   ·
    rw [leU_back] at hc2
    have hle : mxF (leU xs) (behL (leU xs) xs.length d) q (k + 1) = maxI ((behL (leU xs) xs.length d).getD k 0) (mxF (leU xs) (behL (leU xs) xs.length d) q k) := by rw [mxF, if_pos ⟨by omega, hc2⟩, maxI_comm]
    refine r1 T0_ok hP hm hN ?_
    iterate 5 refine g1 ?_
    refine gc1 ?_ (call1 ok_S_l00Max (_, _) [])
    refine g1 ?_
    refine r1 T0_ok hP hm hN ?_
    iterate 3 refine g1 ?_
    refine ⟨xs.length - (k + 1), _, by omega, (by rw [hle]; exact weak_sl (sub_cons rfl (sub_cons rfl (sub_cons rfl (sub_cons rfl (sub_cons rfl (sub_nil))))))), k + 1, by omega, by omega, rfl, rfl⟩
   ·
    rw [leU_back] at hc2
    have hle : mxF (leU xs) (behL (leU xs) xs.length d) q (k + 1) = mxF (leU xs) (behL (leU xs) xs.length d) q k := by rw [mxF, if_neg (fun h => by simp [hc2] at h)]
    refine awp_skip ?_
    refine r1 T0_ok hP hm hN ?_
    iterate 3 refine g1 ?_
    refine ⟨xs.length - (k + 1), _, by omega, (by rw [hle]; exact weak_sl (sub_cons rfl (sub_cons rfl (sub_cons rfl (sub_cons rfl (sub_cons rfl (sub_nil))))))), k + 1, by omega, by omega, rfl, rfl⟩
  ·
   have hgek : ¬ k < xs.length := by simpa using hc1
   obtain rfl : k = xs.length := by omega
   refine awp_exit ?_
   repeat refine thenA_exit ?_
   refine blockA_hit ?_
   refine r1 T0_ok hP hm hN ?_
   iterate 6 refine g1 ?_
   refine r1 T0_ok hP hm hN ?_
   iterate 3 refine g1 ?_
   have hset : behL (leU xs) xs.length (d + 1) = (behL (leU xs) xs.length d).set q (mxF (leU xs) (behL (leU xs) xs.length d) q xs.length + 1) := by rw [behL, ← hq, Int.add_comm]
   refine ⟨xs.length - (d + 1), _, by omega, (by rw [hset]; exact weak_sl (sub_cons rfl (sub_cons rfl (sub_cons rfl (sub_nil))))), d + 1, (q : Int) - 1, by omega, by omega, rfl, rfl⟩
 ·
  have hge : ¬ 0 ≤ i := by simpa using hc0
  obtain rfl : d = xs.length := by omega
  refine awp_exit ?_
  repeat refine thenA_exit ?_
  refine blockA_hit ?_
  refine awp_seq ?_
  refine r1 T0_ok hP hm hN ?_
  iterate 2 refine g1 ?_
  refine awp_ret ?_
  refine fin_mk [0] rfl rfl ?_ (objs_cons rfl rfl rfl rfl rfl (.inl rfl) objs_nil) (by decide)
  rfl

noncomputable abbrev s_S_l03Kept : Spec (List Bk) where
  args := fun xs => [.sl 8 (bks xs)]
  pre := fun xs => (∀ b ∈ xs, isBk b) ∧ xs.length ≤ 1048576
  new := fun xs => [⟨2, 1, false, i64s (keptL xs)⟩]
  res := fun xs => .own 0

set_option maxRecDepth 20000 in
set_option maxHeartbeats 8000000 in
theorem ok_S_l03Kept : FnOk Pr 33 s_S_l03Kept := by
 refine fn_ok 1 0 T0_ok Go.Proofs.Tryz.func33 rfl (enters_of Go.Proofs.Tryz.func33 rfl rfl) (fun _ => rfl) (fun _ => rfl) (fun _ => rfl) ?_
 rintro xs ⟨hv, hl⟩ C hP hN hm hG
 change awp C _ _ ⟨[(0, .sl 8 (bks xs))], [], 0⟩
 refine awp_seq ?_
 refine r1 T0_ok hP hm hN ?_
 refine g1 ?_
 refine awp_seq ?_
 refine r1 T0_ok hP hm hN ?_
 refine g1 ?_
 refine gc1 ?_ (call1 ok_S_l03Behind _ [] (hpre := by (try dsimp only); exact ⟨hv, hl⟩))
 refine g1 ?_
 refine awp_seq ?_
 refine r1 T0_ok hP hm hN ?_
 refine g1 ?_
 refine awp_seq ?_
 refine awp_seq ?_
 refine r1 T0_ok hP hm hN ?_
 refine g1 ?_
 refine awp_block ?_
 refine awp_loop (fun n st => ∃ i : Nat, i ≤ xs.length ∧ n = xs.length - i ∧ st = ⟨[(5, .val (.int .i64 ((i : Nat) : Int))), (4, .val (.int .i64 (topF 0 (behA xs) i))), (3, .own 0), (0, .sl 8 (bks xs))], [(0, ⟨2, 1, false, i64s (behA xs)⟩)], 1⟩) (xs.length) ⟨_, weak_sl (sub_cons rfl (sub_cons rfl (sub_cons rfl (sub_cons rfl (sub_nil))))), 0, by omega, rfl, rfl⟩ ?_
 rintro n st ⟨i, hii, hni, rfl⟩
 have hbl : (behA xs).length = xs.length := behL_len (leU xs) xs.length xs.length
 refine awp_seq ?_
 refine awp_seq ?_
 refine r1 T0_ok hP hm hN ?_
 iterate 4 refine g1 ?_
 refine awp_cond rfl (fun hc0 => ?_) (fun hc0 => ?_)
 ·
  have hlti : i < xs.length := by rw [← hbl]; simpa using hc0
  refine awp_skip ?_
  refine awp_seq ?_
  refine awp_block ?_
  refine r1 T0_ok hP hm hN ?_
  iterate 5 refine g1 ?_
  refine gc1 ?_ (call1 ok_S_l00Max (_, _) [])
  refine g1 ?_
  refine r1 T0_ok hP hm hN ?_
  iterate 3 refine g1 ?_
  refine ⟨xs.length - (i + 1), _, by omega, (by rw [topF, maxI_comm]; exact weak_sl (sub_cons rfl (sub_cons rfl (sub_cons rfl (sub_cons rfl (sub_nil)))))), i + 1, by omega, rfl, rfl⟩
 ·
  have hgei : ¬ i < xs.length := by rw [← hbl]; simpa using hc0
  obtain rfl : i = xs.length := by omega
  refine awp_exit ?_
  repeat refine thenA_exit ?_
  refine blockA_hit ?_
  refine awp_seq ?_
  refine r1 T0_ok hP hm hN ?_
  iterate 2 refine g1 ?_
  refine awp_seq ?_
  refine r1 T0_ok hP hm hN ?_
  refine g1 ?_
  refine awp_seq ?_
  refine awp_seq ?_
  refine r1 T0_ok hP hm hN ?_
  refine g1 ?_
  refine awp_block ?_
  refine awp_loop (fun n st => ∃ (i : Nat) (s : List Nat × Int), i ≤ xs.length ∧ s = selA xs i ∧ n = xs.length - i ∧ st = ⟨[(8, .val (.int .i64 ((i : Nat) : Int))), (7, .val (.int .i64 (lastI s.1))), (6, .own 1), (4, .val (.int .i64 s.2)), (3, .own 0), (0, .sl 8 (bks xs))], [(1, ⟨2, 1, false, i64s (natI s.1)⟩), (0, ⟨2, 1, false, i64s (behA xs)⟩)], 2⟩) xs.length ⟨_, (by rw [show (-1 : Int) = lastI ([], topA xs).1 from rfl]; exact weak_sl (sub_cons rfl (sub_cons rfl (sub_cons rfl (sub_cons rfl (sub_cons rfl (sub_cons rfl (sub_nil)))))))), 0, ([], topA xs), by omega, rfl, rfl, rfl⟩ ?_
  rintro n st ⟨i, s, hi, hs, hn, rfl⟩
  have hso := sel_ok (leU xs) xs.length i hi
  rw [show selF (leU xs) (behL (leU xs) xs.length xs.length) (topF 0 (behL (leU xs) xs.length xs.length) xs.length) i = s from hs.symm] at hso
  have hsl := hso.left
  have hsu := hso.len
  have hnl := natI_len s.1
  refine awp_seq ?_
  refine awp_seq ?_
  refine r1 T0_ok hP hm hN ?_
  iterate 5 refine g1 ?_
  iterate 2 refine gg1 ?_
  refine g1 ?_
  refine awp_cond rfl (fun hc1 => ?_) (fun hc1 => ?_)
  ·
   simp only [Bool.and_eq_true, decide_eq_true_eq] at hc1
   have hlti : i < xs.length := by omega
   have hla := lastI_b (l := s.1) (n := xs.length) (by omega) (fun k hk => by have := hso.lt k hk; omega)
   have hbl : (behA xs).length = xs.length := behL_len (leU xs) xs.length xs.length
   refine awp_skip ?_
   refine awp_seq ?_
   refine awp_block ?_
   refine awp_seq ?_
   refine awp_draw T0_ok hP hm hN Pr_mix [0, 1, 2, 3, 4, 5, 6, 7, 8, 9, 10, 11] [16] _ rfl (by rfl) ?_
   iterate 7 refine d1 T0_ok ?_
   iterate 3 refine dg1 T0_ok ?_
   iterate 5 refine dgg1 T0_ok ?_
   refine dgg1 T0_ok ?_ (hs := by intro he hb; simp +decide only [he, hb, gd_tt, gd_ff, beq_self_eq_true, Bool.true_and, beq_true]; exact ⟨_, by first | rfl | exact astep_load_r (by rfl) (by rfl) (by exact i64s_get _ _ (by omega)) (by rfl) | exact astep_load_r (by rfl) (by rfl) (by first | exact bks_get _ _ (by omega) | exact pls_get _ _ (by omega) | exact ints_get _ _ _ (by omega) | exact boolD_get _ _ (by omega) | exact i64ss_get _ _ (by omega) | assumption) (by rfl) | exact astep_store_p (by rfl) (by rfl) (by rfl) (by rfl) (by exact i64s_get _ _ (by omega)), by exact ⟨rfl, (by simp at hb; omega), (by simp only [List.length_map]; omega)⟩⟩)
   refine dgp2 ?_ (hr := by intro he hb; simp +decide only [he, hb, gd_tt, gd_ff, beq_self_eq_true, Bool.true_and, beq_true]; exact ⟨_, call1 ok_S_l01Usual ((_, _, _, 0, (xs.getD i bk0)), (_, _, _, 0, (xs.getD (lastI s.1).toNat bk0)), false) [] (hpre := by (try dsimp only); exact ⟨⟨bks_get _ _ (by omega), hv _ (getD_mem' (by omega))⟩, ⟨bks_get _ _ (by omega), hv _ (getD_mem' (by omega))⟩⟩), rfl, rfl, rfl⟩)
   refine dgg1 T0_ok ?_
   refine dg1 T0_ok ?_ (hdn := by simp +decide (disch := omega) only [nrm, lk_nrm, dc_nrm, mk_nrm, mf_nrm, ti_nrm, ls_nrm, mp_nrm, nb_nrm, hset, pick_and, pick_or, ↓reduceIte, Nat.reduceAdd, wI64, wI32, wI16, wI8, wU8, List.length_map, Int.toNat_natCast, xn1, xn2, mask_nrm, pick_or2]; rfl) (hsl := by simp +decide (disch := omega) only [nrm, lk_nrm, dc_nrm, mk_nrm, mf_nrm, ti_nrm, ls_nrm, mp_nrm, nb_nrm, hset, pick_and, pick_or, ↓reduceIte, Nat.reduceAdd, wI64, wI32, wI16, wI8, wU8, List.length_map, Int.toNat_natCast, xn1, xn2, mask_nrm, pick_or2]; rfl)
   refine d1 T0_ok ?_
   refine dreg_nil ?_
   refine awp_cond rfl (fun hc2 => ?_) (fun hc2 => ?_)
   ·
    rw [pick_spec] at hc2
    have hs2 := selA_yes hs hc1.2 hc2
    refine awp_seq ?_
    refine r1 T0_ok hP hm hN ?_
    iterate 3 refine g1 ?_
    refine ga1 ?_
    refine g1 ?_
    refine awp_seq ?_
    refine r1 T0_ok hP hm hN ?_
    iterate 2 refine g1 ?_
    refine r1 T0_ok hP hm hN ?_
    iterate 3 refine g1 ?_
    refine r1 T0_ok hP hm hN ?_
    iterate 3 refine g1 ?_
    first | (refine ⟨xs.length - (i + 1), _, by omega, (by dsimp only; rw [lastI_app, natI_app, i64s_app]; exact Weak.trans (weak_drop 2) (Weak.trans (weak_nx (nx' := 2) (by omega) (by rfl)) (weak_sl (sub_cons rfl (sub_cons rfl (sub_cons rfl (sub_cons rfl (sub_cons rfl (sub_cons rfl (sub_nil)))))))))), i + 1, (s.1 ++ [i], s.2 - 1), by omega, hs2, rfl, rfl⟩) | (refine ⟨xs.length - (i + 1), _, by omega, weak_sl (sub_cons rfl (sub_cons rfl (sub_cons rfl (sub_cons rfl (sub_cons rfl (sub_cons rfl (sub_nil))))))), i + 1, s, by omega, hs2, rfl, rfl⟩)
   ·
    rw [pick_spec] at hc2
    have hs2 := selA_no hs hc2
    refine awp_skip ?_
    refine r1 T0_ok hP hm hN ?_
    iterate 3 refine g1 ?_
    first | (refine ⟨xs.length - (i + 1), _, by omega, (by dsimp only; rw [lastI_app, natI_app, i64s_app]; exact Weak.trans (weak_drop 2) (Weak.trans (weak_nx (nx' := 2) (by omega) (by rfl)) (weak_sl (sub_cons rfl (sub_cons rfl (sub_cons rfl (sub_cons rfl (sub_cons rfl (sub_cons rfl (sub_nil)))))))))), i + 1, (s.1 ++ [i], s.2 - 1), by omega, hs2, rfl, rfl⟩) | (refine ⟨xs.length - (i + 1), _, by omega, weak_sl (sub_cons rfl (sub_cons rfl (sub_cons rfl (sub_cons rfl (sub_cons rfl (sub_cons rfl (sub_nil))))))), i + 1, s, by omega, hs2, rfl, rfl⟩)
  ·
   have hfin := selA_end hs (by simp only [Bool.and_eq_false_iff, decide_eq_false_iff_not] at hc1; omega) hi
   have hkl : keptL xs = natI s.1 := by rw [keptL, hfin]
   refine awp_exit ?_
   repeat refine thenA_exit ?_
   refine blockA_hit ?_
   refine awp_seq ?_
   refine r1 T0_ok hP hm hN ?_
   iterate 2 refine g1 ?_
   refine awp_ret ?_
   refine fin_mk [1] rfl rfl ?_ (by simp only [hkl]; exact objs_cons rfl rfl rfl rfl rfl (.inl rfl) objs_nil) (by decide)
   rfl



noncomputable abbrev s_S_LeastMoves : Spec (List Bk) where
  args := fun xs => [.sl 8 (bks xs)]
  pre := fun xs => (∀ b ∈ xs, isBk b) ∧ xs.length ≤ 1048576
  res := fun xs => .tup [.val (.int .i64 (leastR xs).1), .val (.int .i64 (leastR xs).2)]

set_option maxRecDepth 20000 in
set_option maxHeartbeats 1000000 in
theorem ok_S_LeastMoves : FnOk Pr 10 s_S_LeastMoves := by
 refine fn_ok 1 0 T0_ok Go.Proofs.Tryz.func10 rfl (enters_of Go.Proofs.Tryz.func10 rfl rfl) (fun _ => rfl) (fun _ => rfl) (fun _ => rfl) ?_
 rintro xs ⟨hv, hl⟩ C hP hN hm hG
 change awp C _ _ ⟨[(0, .sl 8 (bks xs))], [], 0⟩
 refine awp_seq ?_
 refine r1 T0_ok hP hm hN ?_
 iterate 2 refine g1 ?_
 refine awp_seq ?_
 refine awp_seq ?_
 refine r1 T0_ok hP hm hN ?_
 refine g1 ?_
 refine gc1 ?_ (call1 ok_S_l01Ok _ [] (hpre := by (try dsimp only); exact ⟨hv, by omega⟩))
 refine g1 ?_
 refine awp_cond rfl (fun hc0 => ?_) (fun hc0 => ?_)
 ·
  have hr : leastR xs = (0, 1) := by rw [leastR, if_pos hc0]
  refine awp_seq ?_
  refine r1 T0_ok hP hm hN ?_
  iterate 2 refine g1 ?_
  refine awp_ret ?_
  refine fin_mk [] rfl rfl ?_ trivial (by decide)
  show D.tup [.val (.int .i64 (leastR xs).1), .val (.int .i64 (leastR xs).2)] = _
  rw [hr]
  rfl
 ·
  have hr : leastR xs = ((xs.length : Int) - (keptL xs).length, 0) := by rw [leastR, if_neg (by rw [hc0]; simp)]
  have hkl := keptL_len xs
  refine awp_skip ?_
  refine awp_seq ?_
  refine r1 T0_ok hP hm hN ?_
  iterate 3 refine g1 ?_
  refine gc1 ?_ (call1 ok_S_l03Kept _ [] (hpre := by (try dsimp only); exact ⟨hv, hl⟩))
  iterate 4 refine g1 ?_
  refine awp_ret ?_
  refine fin_mk [] rfl rfl ?_ trivial (by decide)
  show D.tup [.val (.int .i64 (leastR xs).1), .val (.int .i64 (leastR xs).2)] = _
  rw [hr]
  rfl


end Go.Proofs.YtpdkhlpmiblflaaGreat.Abs

