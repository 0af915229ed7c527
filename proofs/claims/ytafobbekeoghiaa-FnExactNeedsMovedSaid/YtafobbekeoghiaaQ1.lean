import Derived.Test.YtafobbekeoghiaaW17
set_option linter.unusedVariables false
set_option linter.unusedSimpArgs false
namespace Go.Proofs.Ytafobbekeoghiaa.Abs
open Go Go.RowKit
/-- The first number from i on that is right, -1 if none. -/
def fstG (ok : Nat → Bool) : Nat → Nat → Int
  | 0, _ => -1
  | f + 1, i => if ok i then (i : Int) else fstG ok f (i + 1)
/-- How many from m on are taken, and whether a free one is behind them. -/
def rowG (tk : Nat → Bool) : Nat → Nat → Int × Bool
  | 0, m => (m, false)
  | f + 1, m => if tk m then rowG tk f (m + 1) else (m, true)
theorem fstG_no {ok : Nat → Bool} : ∀ f i, (∀ j, i ≤ j → j < i + f → ok j = false) → fstG ok f i = -1
  | 0, _, _ => rfl
  | f + 1, i, h => by
    rw [fstG, if_neg (by rw [h i (Nat.le_refl _) (by omega)]; simp)]
    exact fstG_no f (i + 1) (fun j h1 h2 => h j (by omega) (by omega))
theorem fstG_neg {ok : Nat → Bool} : ∀ f i, fstG ok f i < 0 → ∀ j, i ≤ j → j < i + f → ok j = false
  | 0, i, _, j, h1, h2 => by omega
  | f + 1, i, h, j, h1, h2 => by
    rw [fstG] at h
    by_cases e : ok i = true
    · rw [if_pos e] at h; omega
    · rw [if_neg e] at h
      rcases Nat.lt_or_ge i j with h3 | h3
      · exact fstG_neg f (i + 1) h j (by omega) (by omega)
      · have : j = i := by omega
        subst this; simpa using e
def frmG (at_ : Nat → Int) (k : Nat) : Int := if k > 0 then at_ (k - 1) + 1 else 0
def toG (n : Nat) (p : Int) (at_ : Nat → Int) (k : Nat) : Int := if k < n then at_ k else p
def rmG (n : Nat) (p : Int) (at_ : Nat → Int) (k : Nat) : Int := toG n p at_ k - frmG at_ k
structure Shelf (n : Nat) (p : Int) (at_ : Nat → Int) (tk : Int → Bool) : Prop where
  asc : ∀ i, i + 1 < n → at_ i < at_ (i + 1)
  rng : ∀ i, i < n → 0 ≤ at_ i ∧ at_ i ≤ p - 1
  pos : 0 ≤ p
  tkn : ∀ c, 0 ≤ c → c < p → (tk c = true ↔ ∃ i, i < n ∧ at_ i = c)
section
variable {n : Nat} {p : Int} {at_ : Nat → Int} {tk : Int → Bool}
theorem Shelf.lt (h : Shelf n p at_ tk) : ∀ {i j : Nat}, i < j → j < n → at_ i < at_ j := by
  intro i j
  induction j with
  | zero => intro h1; omega
  | succ j ih =>
    intro h1 h2
    have h3 := h.asc j h2
    rcases Nat.lt_or_ge i j with h4 | h4
    · have := ih h4 (by omega); omega
    · have : i = j := by omega
      subst this; exact h3
theorem Shelf.yes (h : Shelf n p at_ tk) {i : Nat} {c : Int} (hi : i < n) (e : at_ i = c) : tk c = true := by
  have := h.rng i hi
  exact (h.tkn c (by omega) (by omega)).2 ⟨i, hi, e⟩
theorem Shelf.no (h : Shelf n p at_ tk) {c : Int} (j : Nat) (hc0 : 0 ≤ c) (hc : c < p) (h1 : ∀ i, i < j → i < n → at_ i < c) (h2 : ∀ i, j ≤ i → i < n → c < at_ i) : tk c = false := by
  cases e : tk c with
  | false => rfl
  | true =>
    obtain ⟨i, hi, he⟩ := (h.tkn c hc0 hc).1 e
    rcases Nat.lt_or_ge i j with h3 | h3
    · have := h1 i h3 hi; omega
    · have := h2 i h3 hi; omega
theorem Shelf.rm0 (h : Shelf n p at_ tk) {k : Nat} (hk : k ≤ n) : 0 ≤ rmG n p at_ k := by
  unfold rmG toG frmG
  split <;> split
  · rename_i h1 h2
    have := h.lt (i := k - 1) (j := k) (by omega) h1
    omega
  · rename_i h1 h2
    have := h.rng k h1
    omega
  · rename_i h1 h2
    have := h.rng (k - 1) (by omega)
    omega
  · have := h.pos; omega
abbrev okL (n : Nat) (p : Int) (at_ : Nat → Int) (k m : Nat) : Bool := decide (rmG n p at_ (k - m) > 0)
abbrev okRr (n : Nat) (p : Int) (at_ : Nat → Int) (k m : Nat) : Bool := decide (rmG n p at_ (k + m) > 0)
def Agree (R : Int × Bool) (l : Int) : Prop := (R.2 = true ∧ l = R.1 ∧ 0 ≤ l) ∨ (R.2 = false ∧ l = -1)
theorem Shelf.left (h : Shelf n p at_ tk) {k : Nat} (hk : k ≤ n) {F : Int} : ∀ (d M : Nat), d + M = k → 1 ≤ M → (at_ (k - M) = F - M) →
    Agree (rowG (fun m => tk (F - 1 - (m : Int))) (F - M).toNat M) (fstG (okL n p at_ k) (d + 1) M)
  | 0, M, hd, h1, hL => by
    have hM : M = k := by omega
    subst hM
    have hr : rmG n p at_ (M - M) = at_ (M - M) := by simp [rmG, toG, frmG, show 0 < n by omega]
    have hb := h.rng (M - M) (by omega)
    by_cases hp : at_ (M - M) > 0
    · have hno : tk (F - 1 - (M : Int)) = false := h.no 0 (by omega) (by omega) (fun i hi => by omega) (fun i _ hi => by
        rcases Nat.eq_zero_or_pos i with e | e
        · subst e; rw [Nat.sub_self] at hL; omega
        · have := h.lt (i := M - M) (j := i) (by omega) hi; omega)
      obtain ⟨f, hf⟩ : ∃ f, (F - M).toNat = f + 1 := ⟨(F - M).toNat - 1, by omega⟩
      rw [hf, rowG, fstG]
      simp only [hno, Bool.false_eq_true, if_false, okL, hr, hp, decide_true, if_true]
      exact .inl ⟨rfl, rfl, by omega⟩
    · have e0 : (F - M).toNat = 0 := by omega
      rw [e0, rowG, fstG, fstG]
      simp only [okL, hr, hp, decide_false, Bool.false_eq_true, if_false]
      exact .inr ⟨rfl, rfl⟩
  | d + 1, M, hd, h1, hL => by
    have hb := h.rng (k - M) (by omega)
    have hb2 := h.rng (k - M - 1) (by omega)
    have hlt := h.lt (i := k - M - 1) (j := k - M) (by omega) (by omega)
    have hr : rmG n p at_ (k - M) = at_ (k - M) - (at_ (k - M - 1) + 1) := by simp [rmG, toG, frmG, show k - M < n by omega, show 0 < k - M by omega]
    obtain ⟨f, hf⟩ : ∃ f, (F - M).toNat = f + 1 := ⟨(F - M).toNat - 1, by omega⟩
    by_cases hp : rmG n p at_ (k - M) > 0
    · have hno : tk (F - 1 - (M : Int)) = false := h.no (k - M) (by omega) (by omega) (fun i hi hin => by
        rcases Nat.lt_or_ge i (k - M - 1) with e | e
        · have := h.lt (i := i) (j := k - M - 1) e (by omega); omega
        · have : i = k - M - 1 := by omega
          subst this; omega) (fun i hi hin => by
        rcases Nat.lt_or_ge (k - M) i with e | e
        · have := h.lt (i := k - M) (j := i) e hin; omega
        · have : i = k - M := by omega
          subst this; omega)
      rw [hf, rowG, fstG]
      simp only [hno, Bool.false_eq_true, if_false, okL, hp, decide_true, if_true]
      exact .inl ⟨rfl, rfl, by omega⟩
    · have hyes : tk (F - 1 - (M : Int)) = true := h.yes (i := k - M - 1) (by omega) (by omega)
      have ih := Shelf.left h hk (F := F) d (M + 1) (by omega) (by omega) (by rw [show k - (M + 1) = k - M - 1 by omega]; omega)
      rw [hf, rowG, fstG]
      simp only [hyes, if_true, okL, hp, decide_false, Bool.false_eq_true, if_false]
      rw [show (F - ((M + 1 : Nat) : Int)).toNat = f by omega] at ih
      exact ih
theorem Shelf.right (h : Shelf n p at_ tk) {k : Nat} {F : Int} : ∀ (d M : Nat), d + M + k = n → 1 ≤ M → (at_ (k + M - 1) = F + M - 1) →
    Agree (rowG (fun m => tk (F + (m : Int))) (p - F - M).toNat M) (fstG (okRr n p at_ k) (d + 1) M)
  | 0, M, hd, h1, hL => by
    have hb := h.rng (k + M - 1) (by omega)
    have hr : rmG n p at_ (k + M) = p - (at_ (k + M - 1) + 1) := by simp [rmG, toG, frmG, show ¬ k + M < n by omega, show 0 < k + M by omega]
    by_cases hp : rmG n p at_ (k + M) > 0
    · have hno : tk (F + (M : Int)) = false := h.no n (by have := h.rng (k + M - 1) (by omega); omega) (by omega) (fun i hi hin => by
        rcases Nat.lt_or_ge i (k + M - 1) with e | e
        · have := h.lt (i := i) (j := k + M - 1) e (by omega); omega
        · have : i = k + M - 1 := by omega
          subst this; omega) (fun i hi hin => by omega)
      obtain ⟨f, hf⟩ : ∃ f, (p - F - M).toNat = f + 1 := ⟨(p - F - M).toNat - 1, by omega⟩
      rw [hf, rowG, fstG]
      simp only [hno, Bool.false_eq_true, if_false, okRr, hp, decide_true, if_true]
      exact .inl ⟨rfl, rfl, by omega⟩
    · have e0 : (p - F - M).toNat = 0 := by omega
      rw [e0, rowG, fstG, fstG]
      simp only [okRr, hp, decide_false, Bool.false_eq_true, if_false]
      exact .inr ⟨rfl, rfl⟩
  | d + 1, M, hd, h1, hL => by
    have hb := h.rng (k + M - 1) (by omega)
    have hb2 := h.rng (k + M) (by omega)
    have hlt := h.lt (i := k + M - 1) (j := k + M) (by omega) (by omega)
    have hr : rmG n p at_ (k + M) = at_ (k + M) - (at_ (k + M - 1) + 1) := by simp [rmG, toG, frmG, show k + M < n by omega, show 0 < k + M by omega]
    obtain ⟨f, hf⟩ : ∃ f, (p - F - M).toNat = f + 1 := ⟨(p - F - M).toNat - 1, by omega⟩
    by_cases hp : rmG n p at_ (k + M) > 0
    · have hno : tk (F + (M : Int)) = false := h.no (k + M) (by omega) (by omega) (fun i hi hin => by
        rcases Nat.lt_or_ge i (k + M - 1) with e | e
        · have := h.lt (i := i) (j := k + M - 1) e (by omega); omega
        · have : i = k + M - 1 := by omega
          subst this; omega) (fun i hi hin => by
        rcases Nat.lt_or_ge (k + M) i with e | e
        · have := h.lt (i := k + M) (j := i) e hin; omega
        · have : i = k + M := by omega
          subst this; omega)
      rw [hf, rowG, fstG]
      simp only [hno, Bool.false_eq_true, if_false, okRr, hp, decide_true, if_true]
      exact .inl ⟨rfl, rfl, by omega⟩
    · have hyes : tk (F + (M : Int)) = true := h.yes (i := k + M) (by omega) (by omega)
      have ih := Shelf.right h (k := k) (F := F) d (M + 1) (by omega) (by omega) (by rw [show k + (M + 1) - 1 = k + M by omega]; omega)
      rw [hf, rowG, fstG]
      simp only [hyes, if_true, okRr, hp, decide_false, Bool.false_eq_true, if_false]
      rw [show (p - F - ((M + 1 : Nat) : Int)).toNat = f by omega] at ih
      exact ih
def lowG (n : Nat) (p : Int) (at_ : Nat → Int) (k : Nat) : Int := fstG (okL n p at_ k) k 1
def highG (n : Nat) (p : Int) (at_ : Nat → Int) (k : Nat) : Int := fstG (okRr n p at_ k) (n - k) 1
def leftG (at_ : Nat → Int) (tk : Int → Bool) (k : Nat) : Int × Bool := rowG (fun m => tk (frmG at_ k - 1 - (m : Int))) (frmG at_ k).toNat 0
def rightG (p : Int) (at_ : Nat → Int) (tk : Int → Bool) (k : Nat) : Int × Bool := rowG (fun m => tk (frmG at_ k + (m : Int))) (p - frmG at_ k).toNat 0
theorem Shelf.agreeL (h : Shelf n p at_ tk) {k : Nat} (hk : k ≤ n) : Agree (leftG at_ tk k) (lowG n p at_ k) := by
  unfold leftG lowG
  rcases Nat.eq_zero_or_pos k with e | e
  · subst e
    exact .inr ⟨rfl, rfl⟩
  · have hF : frmG at_ k = at_ (k - 1) + 1 := by simp [frmG, e]
    have hb := h.rng (k - 1) (by omega)
    have h1 := Shelf.left h hk (F := frmG at_ k) (k - 1) 1 (by omega) (by omega) (by rw [hF]; omega)
    rw [show k - 1 + 1 = k by omega] at h1
    obtain ⟨f, hf⟩ : ∃ f, (frmG at_ k).toNat = f + 1 := ⟨(frmG at_ k).toNat - 1, by omega⟩
    rw [hf, rowG]
    have hyes : tk (frmG at_ k - 1 - ((0 : Nat) : Int)) = true := h.yes (i := k - 1) (by omega) (by omega)
    rw [if_pos hyes]
    rw [show (frmG at_ k - ((1 : Nat) : Int)).toNat = f by omega] at h1
    exact h1
theorem Shelf.agreeR (h : Shelf n p at_ tk) {k : Nat} (hk : k ≤ n) (hz : rmG n p at_ k = 0) : Agree (rightG p at_ tk k) (highG n p at_ k) := by
  unfold rightG highG
  rcases Nat.lt_or_ge k n with e | e
  · have hF : at_ k = frmG at_ k := by simp [rmG, toG, e] at hz; omega
    have hb := h.rng k e
    have h1 := Shelf.right h (k := k) (F := frmG at_ k) (n - k - 1) 1 (by omega) (by omega) (by rw [← hF]; simp)
    rw [show n - k - 1 + 1 = n - k by omega] at h1
    obtain ⟨f, hf⟩ : ∃ f, (p - frmG at_ k).toNat = f + 1 := ⟨(p - frmG at_ k).toNat - 1, by omega⟩
    rw [hf, rowG]
    have hyes : tk (frmG at_ k + ((0 : Nat) : Int)) = true := h.yes (i := k) e (by omega)
    rw [if_pos hyes]
    rw [show (p - frmG at_ k - ((1 : Nat) : Int)).toNat = f by omega] at h1
    exact h1
  · have hkn : k = n := by omega
    subst hkn
    have : (p - frmG at_ k).toNat = 0 := by simp [rmG, toG] at hz; omega
    rw [this, Nat.sub_self]
    exact .inr ⟨rfl, rfl⟩
theorem Shelf.ge (h : Shelf n p at_ tk) : ∀ i, i < n → (i : Int) ≤ at_ i
  | 0, hi => (h.rng 0 hi).1
  | i + 1, hi => by have := Shelf.ge h i (by omega); have := h.asc i hi; omega
theorem Shelf.le (h : Shelf n p at_ tk) : ∀ d i, i + d + 1 = n → at_ i ≤ p - 1 - d
  | 0, i, hi => by have := h.rng i (by omega); omega
  | d + 1, i, hi => by have := Shelf.le h d (i + 1) (by omega); have := h.asc i (by omega); omega
theorem Shelf.full (h : Shelf n p at_ tk) : (n : Int) = p ↔ ∀ j, j ≤ n → rmG n p at_ j = 0 := by
  constructor
  · intro e j hj
    have hat : ∀ i, i < n → at_ i = i := fun i hi => by
      have h1 := h.ge i hi
      have h2 := h.le (n - 1 - i) i (by omega)
      omega
    unfold rmG toG frmG
    split <;> split
    · rw [hat j (by omega), hat (j - 1) (by omega)]; omega
    · rw [hat j (by omega)]; omega
    · rw [hat (j - 1) (by omega)]; omega
    · omega
  · intro hz
    have hf : ∀ j, j ≤ n → frmG at_ j = j := by
      intro j
      induction j with
      | zero => intro _; rfl
      | succ j ih =>
        intro hj
        have h1 := hz j (by omega)
        have h2 := ih (by omega)
        simp only [rmG, toG, if_pos (show j < n by omega)] at h1
        simp only [frmG, if_pos (show j + 1 > 0 by omega), Nat.add_sub_cancel]
        omega
    have h1 := hz n (Nat.le_refl _)
    simp only [rmG, toG, if_neg (show ¬ n < n by omega), hf n (Nat.le_refl _)] at h1
    omega
theorem Shelf.none (h : Shelf n p at_ tk) {k : Nat} (hk : k ≤ n) (hz : rmG n p at_ k = 0) : (n : Int) = p ↔ lowG n p at_ k < 0 ∧ highG n p at_ k < 0 := by
  rw [h.full]
  constructor
  · intro hall
    unfold lowG highG
    rw [fstG_no _ _ (fun j h1 h2 => by simp [okL, hall (k - j) (by omega)]), fstG_no _ _ (fun j h1 h2 => by simp [okRr, hall (k + j) (by omega)])]
    omega
  · rintro ⟨h1, h2⟩ j hj
    have hr := h.rm0 hj
    rcases Nat.lt_trichotomy j k with e | e | e
    · have := fstG_neg _ _ h1 (k - j) (by omega) (by omega)
      simp only [okL, decide_eq_false_iff_not, show k - (k - j) = j by omega] at this
      omega
    · rw [e]; exact hz
    · have := fstG_neg _ _ h2 (j - k) (by omega) (by omega)
      simp only [okRr, decide_eq_false_iff_not, show k + (j - k) = j by omega] at this
      omega
/-- What the reference says. -/
def needS (n : Nat) (p : Int) (at_ : Nat → Int) (k : Nat) : Int × Int :=
  if rmG n p at_ k == 0 then (if decide (lowG n p at_ k < 0) && decide (highG n p at_ k < 0) then (0, 3) else if decide (lowG n p at_ k ≥ 0) && (decide (highG n p at_ k < 0) || decide (lowG n p at_ k ≤ highG n p at_ k)) then (lowG n p at_ k, 0) else (highG n p at_ k, 0)) else (0, 0)
/-- What the program says. -/
def pushG (n : Nat) (p : Int) (at_ : Nat → Int) (tk : Int → Bool) (k : Nat) : Int × Bool :=
  if decide (rmG n p at_ k > 0) then (0, false) else if (leftG at_ tk k).2 && (!(rightG p at_ tk k).2 || decide ((leftG at_ tk k).1 ≤ (rightG p at_ tk k).1)) then ((leftG at_ tk k).1, true) else ((rightG p at_ tk k).1, false)
theorem Shelf.need (h : Shelf n p at_ tk) {k : Nat} (hk : k ≤ n) : needS n p at_ k = if (n : Int) == p then (0, 3) else ((pushG n p at_ tk k).1, 0) := by
  have h0 := h.rm0 hk
  by_cases hz : rmG n p at_ k = 0
  · have hn := h.none hk hz
    have hL := h.agreeL hk
    have hR := h.agreeR hk hz
    unfold needS pushG
    simp only [hz, beq_self_eq_true, if_true, show ¬ (0 : Int) > 0 by omega, decide_false, Bool.false_eq_true, if_false]
    by_cases hf : (n : Int) = p
    · obtain ⟨h1, h2⟩ := hn.1 hf
      simp [hf, h1, h2]
    · have hnn : ¬ (lowG n p at_ k < 0 ∧ highG n p at_ k < 0) := fun e => hf (hn.2 e)
      have hb : ((n : Int) == p) = false := by simpa using hf
      simp only [hb, Bool.false_eq_true, if_false]
      rcases hL with ⟨l1, l2, l3⟩ | ⟨l1, l2⟩ <;> rcases hR with ⟨r1, r2, r3⟩ | ⟨r1, r2⟩
      · rw [← l2, ← r2]
        simp only [l1, r1, show ¬ lowG n p at_ k < 0 by omega, show ¬ highG n p at_ k < 0 by omega, show lowG n p at_ k ≥ 0 by omega, decide_true, decide_false, Bool.false_and, Bool.true_and, Bool.false_or, Bool.not_true, Bool.false_eq_true, if_false]
        split <;> rfl
      · rw [← l2, r2]
        simp [l1, r1, show ¬ lowG n p at_ k < 0 by omega, show lowG n p at_ k ≥ 0 by omega]
      · rw [l2, ← r2]
        simp [l1, r1, show ¬ highG n p at_ k < 0 by omega]
      · exfalso; omega
  · have hf : ¬ (n : Int) = p := fun e => hz (h.full.1 e k hk)
    have hb : ((n : Int) == p) = false := by simpa using hf
    have hp : rmG n p at_ k > 0 := by omega
    unfold needS pushG
    simp [hz, hb, hp]

end

theorem areg_notU {m : Nat} {ops l : List Oper} {st st' : St} {K : St → Prop} {dst : Option Tmp} {op : Op} {ty : TypeId} {pos : String} {af : Array Edge} {j : Nat} {want : Bool} (hg : guardD ops j st.sl = none) (hu : guardU ops j st.sl = true) (hst : St.mk (putSl dst (.val undef) st.sl) st.hp st.nx = st') (hK : areg Pr T0 m ops l st' K) : areg Pr T0 m ops ({ dst := dst, op := op, type := ty, pos := pos, after := af, guard := some (j, want) } :: l) st K := by
  simp only [areg, hg]
  exact ⟨hu, by rw [hst]; exact hK⟩
theorem pick_and2 (t x : Bool) : (if t = true then gd (t == true) true (.val (.bool x)) else .val (.bool false)) = .val (.bool (t && x)) := by cases t <;> rfl

abbrev atX (xs : List Pl) (i : Nat) : Int := (xs.getD i pl0).1
theorem room_G (p : Int) (xs : List Pl) (k : Int) (h : 0 ≤ k) : roomR p xs k = (frmG (atX xs) k.toNat, rmG xs.length p (atX xs) k.toNat) := by
  have e1 : (k - 1).toNat = k.toNat - 1 := by omega
  by_cases h1 : k > 0 <;> by_cases h2 : k < xs.length
  · simp only [roomR, rmG, toG, frmG, e1, if_pos h1, if_pos h2, if_pos (show k.toNat > 0 by omega), if_pos (show k.toNat < xs.length by omega)]
  · simp only [roomR, rmG, toG, frmG, e1, if_pos h1, if_neg h2, if_pos (show k.toNat > 0 by omega), if_neg (show ¬ k.toNat < xs.length by omega)]
  · simp only [roomR, rmG, toG, frmG, e1, if_neg h1, if_pos h2, if_neg (show ¬ k.toNat > 0 by omega), if_pos (show k.toNat < xs.length by omega)]
  · simp only [roomR, rmG, toG, frmG, e1, if_neg h1, if_neg h2, if_neg (show ¬ k.toNat > 0 by omega), if_neg (show ¬ k.toNat < xs.length by omega)]
theorem fstG_b (ok : Nat → Bool) : ∀ f i, fstG ok f i = -1 ∨ ((i : Int) ≤ fstG ok f i ∧ fstG ok f i < i + f)
  | 0, i => .inl rfl
  | f + 1, i => by
    rw [fstG]
    split
    · right; omega
    · rcases fstG_b ok f (i + 1) with h | h
      · exact .inl h
      · right; omega
theorem lowG_b (n : Nat) (p : Int) (a : Nat → Int) (k : Nat) : lowG n p a k = -1 ∨ (1 ≤ lowG n p a k ∧ lowG n p a k ≤ k) := by
  rcases fstG_b (okL n p a k) k 1 with h | h
  · exact .inl h
  · right; unfold lowG; omega
theorem highG_b (n : Nat) (p : Int) (a : Nat → Int) {k : Nat} (hk : k ≤ n) : highG n p a k = -1 ∨ (1 ≤ highG n p a k ∧ highG n p a k ≤ (n : Int) - k) := by
  rcases fstG_b (okRr n p a k) (n - k) 1 with h | h
  · exact .inl h
  · right; unfold highG; omega
theorem low_step {n : Nat} {p : Int} {a : Nat → Int} {k j : Nat} (h1 : 1 ≤ j) (h2 : j ≤ k) : fstG (okL n p a k) j (k - j + 1) = if rmG n p a (j - 1) > 0 then ((k - j + 1 : Nat) : Int) else fstG (okL n p a k) (j - 1) (k - (j - 1) + 1) := by
  obtain ⟨m, rfl⟩ : ∃ m, j = m + 1 := ⟨j - 1, by omega⟩
  rw [fstG]
  simp only [okL, Nat.add_sub_cancel, show k - (k - (m + 1) + 1) = m by omega, show k - (m + 1) + 1 + 1 = k - m + 1 by omega, decide_eq_true_eq]
theorem high_step {n : Nat} {p : Int} {a : Nat → Int} {k j : Nat} (h1 : k ≤ j) (h2 : j < n) : fstG (okRr n p a k) (n - j) (j - k + 1) = if rmG n p a (j + 1) > 0 then ((j - k + 1 : Nat) : Int) else fstG (okRr n p a k) (n - (j + 1)) (j + 1 - k + 1) := by
  obtain ⟨d, hd⟩ : ∃ d, n - j = d + 1 := ⟨n - j - 1, by omega⟩
  rw [hd, fstG, show n - (j + 1) = d by omega]
  simp only [okRr, show k + (j - k + 1) = j + 1 by omega, show j - k + 1 + 1 = j + 1 - k + 1 by omega, decide_eq_true_eq]
theorem roomR_b {p : Int} {xs : List Pl} (hp : -32768 ≤ p ∧ p ≤ 32767) (hv : ∀ b ∈ xs, isPl b) {k : Int} (h0 : 0 ≤ k) (hk : k ≤ xs.length) : (-32768 ≤ (roomR p xs k).1 ∧ (roomR p xs k).1 ≤ 32768) ∧ (-70000 ≤ (roomR p xs k).2 ∧ (roomR p xs k).2 ≤ 70000) := by
  have h1 : ∀ i, i < xs.length → -32768 ≤ (xs.getD i pl0).1 ∧ (xs.getD i pl0).1 ≤ 32767 := fun i hi => (hv _ (getD_mem' hi)).1
  simp only [roomR]
  by_cases e1 : k > 0 <;> by_cases e2 : k < xs.length
  · have := h1 (k - 1).toNat (by omega)
    have := h1 k.toNat (by omega)
    rw [if_pos e1, if_pos e2]; omega
  · have := h1 (k - 1).toNat (by omega)
    rw [if_pos e1, if_neg e2]; omega
  · have := h1 k.toNat (by omega)
    rw [if_neg e1, if_pos e2]; omega
  · rw [if_neg e1, if_neg e2]; omega
theorem tdiv2_b {x : Int} (h : -70001 ≤ x ∧ x ≤ 70000) : -70001 ≤ x.tdiv 2 ∧ x.tdiv 2 ≤ 70001 := by
  rcases Int.lt_or_le x 0 with h1 | h1
  · have e : x.tdiv 2 = -((-x).tdiv 2) := by rw [Int.neg_tdiv, Int.neg_neg]
    rw [e, Int.tdiv_eq_ediv_of_nonneg (by omega)]; omega
  · rw [Int.tdiv_eq_ediv_of_nonneg h1]; omega
/-- Some places, from a on, are changed. -/
def shF (g : Int → Int) (a : Int) (xs : List Pl) : Nat → List Pl
  | 0 => xs
  | i + 1 => (shF g a xs i).set (a + i).toNat (IntKind.i16.wrap (g ((shF g a xs i).getD (a + i).toNat pl0).1), ((shF g a xs i).getD (a + i).toNat pl0).2)
theorem shF_len (g : Int → Int) (a : Int) (xs : List Pl) : ∀ i, (shF g a xs i).length = xs.length
  | 0 => rfl
  | i + 1 => by rw [shF, List.length_set, shF_len g a xs i]
def insL (ys : List Pl) (k : Nat) (v : Pl) : List Pl := ys.take k ++ [v] ++ ys.drop k
def addR (p : Int) (xs : List Pl) (b : Bk) : (Int × List Pl) × Int × Bool :=
  if (roomR p xs ((placeN (beforeB b (xs.map Prod.snd)) xs.length) : Nat)).2 == 0 then
    if decide (lowG xs.length p (atX xs) (placeN (beforeB b (xs.map Prod.snd)) xs.length) < 0) && decide (highG xs.length p (atX xs) (placeN (beforeB b (xs.map Prod.snd)) xs.length) < 0) then ((0, []), 0, false)
    else if decide (lowG xs.length p (atX xs) (placeN (beforeB b (xs.map Prod.snd)) xs.length) ≥ 0) && (decide (highG xs.length p (atX xs) (placeN (beforeB b (xs.map Prod.snd)) xs.length) < 0) || decide (lowG xs.length p (atX xs) (placeN (beforeB b (xs.map Prod.snd)) xs.length) ≤ highG xs.length p (atX xs) (placeN (beforeB b (xs.map Prod.snd)) xs.length))) then
      ((p, insL (shF (fun x => x - 1) (((placeN (beforeB b (xs.map Prod.snd)) xs.length) : Nat) - lowG xs.length p (atX xs) (placeN (beforeB b (xs.map Prod.snd)) xs.length)) xs (lowG xs.length p (atX xs) (placeN (beforeB b (xs.map Prod.snd)) xs.length)).toNat) (placeN (beforeB b (xs.map Prod.snd)) xs.length) (IntKind.i16.wrap ((roomR p xs ((placeN (beforeB b (xs.map Prod.snd)) xs.length) : Nat)).1 - 1), b)), lowG xs.length p (atX xs) (placeN (beforeB b (xs.map Prod.snd)) xs.length), true)
    else ((p, insL (shF (fun x => x + 1) ((placeN (beforeB b (xs.map Prod.snd)) xs.length) : Nat) xs (highG xs.length p (atX xs) (placeN (beforeB b (xs.map Prod.snd)) xs.length)).toNat) (placeN (beforeB b (xs.map Prod.snd)) xs.length) (IntKind.i16.wrap (roomR p xs ((placeN (beforeB b (xs.map Prod.snd)) xs.length) : Nat)).1, b)), highG xs.length p (atX xs) (placeN (beforeB b (xs.map Prod.snd)) xs.length), true)
  else ((p, insL xs (placeN (beforeB b (xs.map Prod.snd)) xs.length) (IntKind.i16.wrap ((roomR p xs ((placeN (beforeB b (xs.map Prod.snd)) xs.length) : Nat)).1 + ((roomR p xs ((placeN (beforeB b (xs.map Prod.snd)) xs.length) : Nat)).2 - 1).tdiv 2), b)), 0, true)
theorem insL_rows (Y : List Pl) (k : Nat) (v : Pl) : pls (insL Y k v) = (pls Y).take k ++ [plRow v] ++ (pls Y).drop k := by simp [insL, List.map_take, List.map_drop]
def addBookR (ok : Bool) (p : Int) (xs : List Pl) (b : Bk) : (Int × List Pl) × Int × Int := if !ok || !validB b then ((0, []), 0, 1) else if !(addR p xs b).2.2 then ((0, []), 0, 3) else ((addR p xs b).1, (addR p xs b).2.1, 0)
-- the program's
abbrev tkZ (p : Int) (xs : List Pl) (c : Int) : Bool := (takenF p.toNat xs xs.length).getD c.toNat false
def posB (y a m : Int) : Int := if y = 1 then a + m else a - m
def fuelB (y a : Int) (n : Nat) : Nat := if y = 1 then ((n : Int) - a).toNat else (a + 1).toNat
def rowB (bs : List Bool) (a y : Int) : Int × Bool := rowG (fun m => bs.getD (posB y a (m : Int)).toNat false) (fuelB y a bs.length) 0
abbrev rowPre (y a : Int) (n : Nat) : Prop := (y = 1 ∧ 0 ≤ a ∧ a ≤ n) ∨ (y = -1 ∧ -1 ≤ a ∧ a < n)
theorem row_rng {y a : Int} {n m : Nat} (h : rowPre y a n) : (0 ≤ posB y a m ∧ posB y a m ≤ (n : Int) - 1) ↔ m < fuelB y a n := by
  unfold posB fuelB
  rcases h with ⟨rfl, h1, h2⟩ | ⟨rfl, h1, h2⟩
  · rw [if_pos rfl, if_pos rfl]; omega
  · rw [if_neg (by omega), if_neg (by omega)]; omega
theorem row_suc {y a : Int} {n m : Nat} (h : rowPre y a n) : posB y a m + y = posB y a ((m + 1 : Nat) : Int) := by
  unfold posB
  rcases h with ⟨rfl, h1, h2⟩ | ⟨rfl, h1, h2⟩
  · rw [if_pos rfl, if_pos rfl]; omega
  · rw [if_neg (by omega), if_neg (by omega)]; omega
theorem row_zero {y a : Int} : posB y a ((0 : Nat) : Int) = a := by
  unfold posB; split <;> omega
theorem rowG_step {tk : Nat → Bool} {F m : Nat} (h : m < F) : rowG tk (F - m) m = if tk m then rowG tk (F - (m + 1)) (m + 1) else ((m : Int), true) := by
  obtain ⟨d, hd⟩ : ∃ d, F - m = d + 1 := ⟨F - m - 1, by omega⟩
  rw [hd, rowG, show F - (m + 1) = d by omega]
theorem rowL (p : Int) (xs : List Pl) {k : Int} (h : 0 ≤ k) : leftG (atX xs) (tkZ p xs) k.toNat = rowB (takenF p.toNat xs xs.length) ((roomR p xs k).1 - 1) (-1) := by
  rw [room_G p xs k h]
  unfold leftG rowB
  simp only [posB, fuelB, show ¬ (-1 : Int) = 1 by omega, if_false, Int.sub_add_cancel]
theorem rowR (p : Int) (hp : 0 ≤ p) (xs : List Pl) {k : Int} (h : 0 ≤ k) : rightG p (atX xs) (tkZ p xs) k.toNat = rowB (takenF p.toNat xs xs.length) (roomR p xs k).1 1 := by
  rw [room_G p xs k h]
  unfold rightG rowB
  simp only [posB, fuelB, if_true, takenF_len, Int.toNat_of_nonneg hp]
theorem takenF_iff {n : Nat} {xs : List Pl} : ∀ i, i ≤ xs.length → ∀ c, c < n → ((takenF n xs i).getD c false = true ↔ ∃ j, j < i ∧ (xs.getD j pl0).1.toNat = c)
  | 0, _, c, hc => by
    constructor
    · intro h
      simp [takenF, List.getD, List.getElem?_replicate, hc] at h
    · rintro ⟨j, hj, _⟩; omega
  | i + 1, hi, c, hc => by
    have ih := takenF_iff (n := n) (xs := xs) i (by omega) c hc
    have hl := takenF_len n xs i
    rw [takenF]
    simp only [List.getD, List.getElem?_set] at ih ⊢
    by_cases e : (xs.getD i pl0).1.toNat = c
    · have e' : ((xs[i]?.getD pl0).1).toNat = c := e
      constructor
      · intro _; exact ⟨i, Nat.lt_succ_self i, e'⟩
      · intro _; rw [if_pos e']; simp [hl, hc, e']
    · have e' : ¬ ((xs[i]?.getD pl0).1).toNat = c := e
      rw [if_neg e', ih]
      constructor
      · rintro ⟨j, hj, h⟩; exact ⟨j, by omega, h⟩
      · rintro ⟨j, hj, h⟩
        refine ⟨j, ?_, h⟩
        rcases Nat.lt_or_ge j i with h4 | h4
        · exact h4
        · have : j = i := by omega
          subst this; exact absurd h e'
theorem shelf_of {p : Int} {xs : List Pl} (h : validR p xs = true) : Shelf xs.length p (atX xs) (tkZ p xs) := by
  obtain ⟨hp, ha⟩ := validR_ats h
  have hr : risesP (xs.map Prod.fst) := by
    unfold validR at h
    simp only [Bool.and_eq_true, ask_iff] at h
    exact h.1.1.2
  have hg : ∀ j, j < xs.length → (xs.map Prod.fst).getD j 0 = (xs.getD j pl0).1 := fun j hj => by simp [List.getD, hj]
  refine ⟨fun i hi => ?_, fun i hi => ha _ (getD_mem' hi), by omega, fun c h0 hc => ?_⟩
  · have := hr i (by rw [List.length_map]; exact hi)
    rw [hg i (by omega), hg (i + 1) hi] at this
    exact this
  · show (takenF p.toNat xs xs.length).getD c.toNat false = true ↔ _
    rw [takenF_iff xs.length (Nat.le_refl _) c.toNat (by omega)]
    constructor
    · rintro ⟨j, hj, he⟩
      have := ha _ (getD_mem' (d := pl0) hj)
      exact ⟨j, hj, by show (xs.getD j pl0).1 = c; omega⟩
    · rintro ⟨j, hj, he⟩
      exact ⟨j, hj, by have he : (xs.getD j pl0).1 = c := he; omega⟩
def needI (ok : Bool) (p : Int) (xs : List Pl) (b : Bk) : Int × Int := if !ok || !validB b then (0, 1) else if (xs.length : Int) == p then (0, 3) else ((pushG xs.length p (atX xs) (tkZ p xs) (fstOf (aboveP b) xs).toNat).1, 0)
theorem add_need (p : Int) (xs : List Pl) (b : Bk) : needS xs.length p (atX xs) (placeN (beforeB b (xs.map Prod.snd)) xs.length) = if !(addR p xs b).2.2 then (0, 3) else ((addR p xs b).2.1, 0) := by
  have hG := room_G p xs ((placeN (beforeB b (xs.map Prod.snd)) xs.length) : Nat) (by omega)
  rw [Int.toNat_natCast] at hG
  unfold needS addR
  rw [hG]
  simp only
  split
  · split
    · rfl
    · split <;> rfl
  · rfl
theorem need_same {p : Int} {xs : List Pl} {b : Bk} : needI (validR p xs) p xs b = ((addBookR (okR p xs) p xs b).2.1, (addBookR (okR p xs) p xs b).2.2) := by
  rw [okR_validR]
  unfold needI addBookR
  by_cases hv : (!validR p xs || !validB b) = true
  · rw [if_pos hv, if_pos hv]
  · rw [if_neg hv, if_neg hv]
    have hok : validR p xs = true := by revert hv; cases validR p xs <;> simp
    have hs : sortedB cmpU (xs.map Prod.snd) = true := by
      unfold validR at hok
      simp only [Bool.and_eq_true] at hok
      exact hok.2
    have hk : (fstOf (aboveP b) xs).toNat = (placeN (beforeB b (xs.map Prod.snd)) xs.length) := by rw [← place_fst hs]; simp
    rw [hk]
    have h1 := (shelf_of hok).need (k := (placeN (beforeB b (xs.map Prod.snd)) xs.length)) (placeN_le _ _)
    rw [add_need] at h1
    rw [← h1]
    split <;> rfl

noncomputable abbrev s_S_l05Sides : Spec ((Int × List Pl) × Nat) where
  args := fun x => [.rptr 2 [[.val (.int .i16 x.1.1), .sl 9 (pls x.1.2)]] 0 0, .val (.int .i64 ((x.2 : Nat) : Int))]
  pre := fun x => x.1.2.length ≤ 1048576 ∧ (isI16 x.1.1 ∧ ∀ b ∈ x.1.2, isPl b) ∧ x.2 ≤ x.1.2.length
  res := fun x => .tup [.val (.int .i64 (lowG x.1.2.length x.1.1 (atX x.1.2) x.2)), .val (.int .i64 (highG x.1.2.length x.1.1 (atX x.1.2) x.2))]

set_option maxRecDepth 20000 in
set_option maxHeartbeats 4000000 in
theorem ok_S_l05Sides : FnOk Pr 39 s_S_l05Sides := by
  refine fn_ok 2 0 T0_ok Go.Proofs.Try.func39 rfl (enters_of Go.Proofs.Try.func39 rfl rfl) (fun _ => rfl) (fun _ => rfl) (fun _ => rfl) ?_
  rintro ⟨⟨p, xs⟩, k⟩ ⟨hl, ⟨hpp, hv⟩, hk⟩ C hP hN hm hG
  change awp C _ _ ⟨[(0, .rptr 2 [[.val (.int .i16 p), .sl 9 (pls xs)]] 0 0), (1, .val (.int .i64 ((k : Nat) : Int)))], [], 0⟩
  simp only at hl hpp hv hk
  refine awp_seq ?_
  refine r1 T0_ok hP hm hN ?_
  refine g1 ?_
  refine g1 ?_
  refine awp_seq ?_
  refine r1 T0_ok hP hm hN ?_
  refine g1 ?_
  refine awp_seq ?_
  refine awp_seq ?_
  refine r1 T0_ok hP hm hN ?_
  refine g1 ?_
  refine g1 ?_
  refine awp_block ?_
  refine awp_loop (fun n st => ∃ (j : Nat) (low : Int), j ≤ k ∧ ((low = -1 ∧ lowG xs.length p (atX xs) k = fstG (okL xs.length p (atX xs) k) j (k - j + 1)) ∨ (0 ≤ low ∧ lowG xs.length p (atX xs) k = low)) ∧ n = j ∧ st = ⟨[(7, .val (.int .i64 ((j : Nat) : Int))), (6, .val (.int .i64 low)), (0, .rptr 2 [[.val (.int .i16 p), .sl 9 (pls xs)]] 0 0), (1, .val (.int .i64 ((k : Nat) : Int)))], [], 0⟩) k ⟨_, weak_sl (sub_cons rfl (sub_cons rfl (sub_cons rfl (sub_cons rfl (sub_nil))))), k, -1, Nat.le_refl _, .inl ⟨rfl, by rw [lowG, Nat.sub_self]⟩, rfl, rfl⟩ ?_
  rintro n st ⟨j, low, hj, hlow, hn, rfl⟩
  refine awp_seq ?_
  refine awp_seq ?_
  refine r1 T0_ok hP hm hN ?_
  refine g1 ?_
  refine g1 ?_
  refine g1 ?_
  refine gg1 ?_
  refine gg1 ?_
  refine g1 ?_
  refine awp_cond rfl (fun hc0 => ?_) (fun hc0 => ?_)
  · skip
    simp only [Bool.and_eq_true, decide_eq_true_eq] at hc0
    obtain ⟨hj0, hl0⟩ := hc0
    have hj1 : 1 ≤ j := by omega
    obtain ⟨hl1, hl2⟩ : low = -1 ∧ lowG xs.length p (atX xs) k = fstG (okL xs.length p (atX xs) k) j (k - j + 1) := by
      rcases hlow with h | h
      · exact h
      · omega
    rw [low_step hj1 hj] at hl2
    have hrg := room_G p xs ((j : Int) - 1) (by omega)
    rw [show ((j : Int) - 1).toNat = j - 1 by omega] at hrg
    refine awp_skip ?_
    refine awp_seq ?_
    refine awp_block ?_
    refine awp_seq ?_
    refine r1 T0_ok hP hm hN ?_
    refine g1 ?_
    refine g1 ?_
    refine g1 ?_
    refine gc1 ?_ (call1 ok_S_l05Room ((_, _), _) [] (hpre := by (try dsimp only); exact ⟨hl, ⟨hpp, hv⟩, by omega, by omega⟩))
    refine g1 ?_
    refine g1 ?_
    refine g1 ?_
    refine g1 ?_
    refine g1 ?_
    refine awp_seq ?_
    refine r1 T0_ok hP hm hN ?_
    refine g1 ?_
    refine g1 ?_
    refine awp_cond rfl (fun hc1 => ?_) (fun hc1 => ?_)
    · skip
      have hrm : rmG xs.length p (atX xs) (j - 1) > 0 := by have h := hc1; rw [hrg] at h; simpa using h
      rw [if_pos hrm] at hl2
      refine r1 T0_ok hP hm hN ?_
      refine g1 ?_
      refine g1 ?_
      refine g1 ?_
      refine g1 ?_
      refine g1 ?_
      refine r1 T0_ok hP hm hN ?_
      refine g1 ?_
      refine g1 ?_
      refine g1 ?_
      first | exact ⟨_, _, by omega, (by rw [show ((j - 1 : Nat) : Int) = (j : Int) - 1 by omega]; exact weak_sl (sub_cons rfl (sub_cons rfl (sub_cons rfl (sub_cons rfl (sub_nil)))))), j - 1, (k : Int) - j + 1, by omega, .inr ⟨by omega, by rw [hl2]; omega⟩, rfl, rfl⟩ | exact ⟨_, _, by omega, (by rw [show ((j - 1 : Nat) : Int) = (j : Int) - 1 by omega]; exact weak_sl (sub_cons rfl (sub_cons rfl (sub_cons rfl (sub_cons rfl (sub_nil)))))), j - 1, low, by omega, .inl ⟨hl1, hl2⟩, rfl, rfl⟩
    · skip
      have hrm : ¬ rmG xs.length p (atX xs) (j - 1) > 0 := by have h := hc1; rw [hrg] at h; simpa using h
      rw [if_neg hrm] at hl2
      refine awp_skip ?_
      refine r1 T0_ok hP hm hN ?_
      refine g1 ?_
      refine g1 ?_
      refine g1 ?_
      first | exact ⟨_, _, by omega, (by rw [show ((j - 1 : Nat) : Int) = (j : Int) - 1 by omega]; exact weak_sl (sub_cons rfl (sub_cons rfl (sub_cons rfl (sub_cons rfl (sub_nil)))))), j - 1, (k : Int) - j + 1, by omega, .inr ⟨by omega, by rw [hl2]; omega⟩, rfl, rfl⟩ | exact ⟨_, _, by omega, (by rw [show ((j - 1 : Nat) : Int) = (j : Int) - 1 by omega]; exact weak_sl (sub_cons rfl (sub_cons rfl (sub_cons rfl (sub_cons rfl (sub_nil)))))), j - 1, low, by omega, .inl ⟨hl1, hl2⟩, rfl, rfl⟩
  · skip
    have hlw : lowG xs.length p (atX xs) k = low := by
      simp only [Bool.and_eq_false_iff, decide_eq_false_iff_not] at hc0
      rcases hlow with ⟨h1, h2⟩ | ⟨_, h2⟩
      · have hj0 : j = 0 := by omega
        subst hj0; rw [h2, fstG, h1]
      · exact h2
    refine awp_exit ?_
    repeat refine thenA_exit ?_
    refine blockA_hit ?_
    refine awp_seq ?_
    refine r1 T0_ok hP hm hN ?_
    refine g1 ?_
    refine awp_seq ?_
    refine awp_seq ?_
    refine r1 T0_ok hP hm hN ?_
    refine g1 ?_
    refine g1 ?_
    refine awp_block ?_
    refine awp_loop (fun n st => ∃ (q : Nat) (high : Int), (k ≤ q ∧ q ≤ xs.length) ∧ ((high = -1 ∧ highG xs.length p (atX xs) k = fstG (okRr xs.length p (atX xs) k) (xs.length - q) (q - k + 1)) ∨ (0 ≤ high ∧ highG xs.length p (atX xs) k = high)) ∧ n = xs.length - q ∧ st = ⟨[(11, .val (.int .i64 ((q : Nat) : Int))), (10, .val (.int .i64 high)), (6, .val (.int .i64 low)), (0, .rptr 2 [[.val (.int .i16 p), .sl 9 (pls xs)]] 0 0), (1, .val (.int .i64 ((k : Nat) : Int)))], [], 0⟩) (xs.length - k) ⟨_, weak_sl (sub_cons rfl (sub_cons rfl (sub_cons rfl (sub_cons rfl (sub_cons rfl (sub_nil)))))), k, -1, ⟨Nat.le_refl _, hk⟩, .inl ⟨rfl, by rw [highG, Nat.sub_self]⟩, rfl, rfl⟩ ?_
    rintro n st ⟨q, high, hq, hhigh, hn2, rfl⟩
    refine awp_seq ?_
    refine awp_seq ?_
    refine r1 T0_ok hP hm hN ?_
    refine g1 ?_
    refine g1 ?_
    refine g1 ?_
    refine g1 ?_
    refine g1 ?_
    refine g1 ?_
    refine g1 ?_
    refine g1 ?_
    refine gg1 ?_
    refine gg1 ?_
    refine g1 ?_
    refine awp_cond rfl (fun hc2 => ?_) (fun hc2 => ?_)
    · skip
      simp only [Bool.and_eq_true, decide_eq_true_eq] at hc2
      obtain ⟨hq0, hh0⟩ := hc2
      have hq1 : q < xs.length := by omega
      obtain ⟨hh1, hh2⟩ : high = -1 ∧ highG xs.length p (atX xs) k = fstG (okRr xs.length p (atX xs) k) (xs.length - q) (q - k + 1) := by
        rcases hhigh with h | h
        · exact h
        · omega
      rw [high_step hq.1 hq1] at hh2
      have hrg2 := room_G p xs ((q : Int) + 1) (by omega)
      rw [show ((q : Int) + 1).toNat = q + 1 by omega] at hrg2
      refine awp_skip ?_
      refine awp_seq ?_
      refine awp_block ?_
      refine awp_seq ?_
      refine r1 T0_ok hP hm hN ?_
      refine g1 ?_
      refine g1 ?_
      refine g1 ?_
      refine gc1 ?_ (call1 ok_S_l05Room ((_, _), _) [] (hpre := by (try dsimp only); exact ⟨hl, ⟨hpp, hv⟩, by omega, by omega⟩))
      refine g1 ?_
      refine g1 ?_
      refine g1 ?_
      refine g1 ?_
      refine g1 ?_
      refine awp_seq ?_
      refine r1 T0_ok hP hm hN ?_
      refine g1 ?_
      refine g1 ?_
      refine awp_cond rfl (fun hc3 => ?_) (fun hc3 => ?_)
      · skip
        have hrm2 : rmG xs.length p (atX xs) (q + 1) > 0 := by have h := hc3; rw [hrg2] at h; simpa using h
        rw [if_pos hrm2] at hh2
        refine r1 T0_ok hP hm hN ?_
        refine g1 ?_
        refine g1 ?_
        refine g1 ?_
        refine g1 ?_
        refine g1 ?_
        refine r1 T0_ok hP hm hN ?_
        refine g1 ?_
        refine g1 ?_
        refine g1 ?_
        first | exact ⟨_, _, by omega, weak_sl (sub_cons rfl (sub_cons rfl (sub_cons rfl (sub_cons rfl (sub_cons rfl (sub_nil)))))), q + 1, (q : Int) - k + 1, by omega, .inr ⟨by omega, by rw [hh2]; omega⟩, rfl, rfl⟩ | exact ⟨_, _, by omega, weak_sl (sub_cons rfl (sub_cons rfl (sub_cons rfl (sub_cons rfl (sub_cons rfl (sub_nil)))))), q + 1, high, by omega, .inl ⟨hh1, hh2⟩, rfl, rfl⟩
      · skip
        have hrm2 : ¬ rmG xs.length p (atX xs) (q + 1) > 0 := by have h := hc3; rw [hrg2] at h; simpa using h
        rw [if_neg hrm2] at hh2
        refine awp_skip ?_
        refine r1 T0_ok hP hm hN ?_
        refine g1 ?_
        refine g1 ?_
        refine g1 ?_
        first | exact ⟨_, _, by omega, weak_sl (sub_cons rfl (sub_cons rfl (sub_cons rfl (sub_cons rfl (sub_cons rfl (sub_nil)))))), q + 1, (q : Int) - k + 1, by omega, .inr ⟨by omega, by rw [hh2]; omega⟩, rfl, rfl⟩ | exact ⟨_, _, by omega, weak_sl (sub_cons rfl (sub_cons rfl (sub_cons rfl (sub_cons rfl (sub_cons rfl (sub_nil)))))), q + 1, high, by omega, .inl ⟨hh1, hh2⟩, rfl, rfl⟩
    · skip
      have hhw : highG xs.length p (atX xs) k = high := by
        simp only [Bool.and_eq_false_iff, decide_eq_false_iff_not] at hc2
        rcases hhigh with ⟨h1, h2⟩ | ⟨_, h2⟩
        · have hq0 : q = xs.length := by omega
          rw [h2, hq0, Nat.sub_self, fstG, h1]
        · exact h2
      refine awp_exit ?_
      repeat refine thenA_exit ?_
      refine blockA_hit ?_
      refine awp_seq ?_
      refine r1 T0_ok hP hm hN ?_
      refine g1 ?_
      refine g1 ?_
      refine g1 ?_
      refine g1 ?_
      refine awp_ret ?_
      refine fin_mk [] rfl rfl ?_ trivial (by decide)
      show D.tup [.val (.int .i64 (lowG xs.length p (atX xs) k)), .val (.int .i64 (highG xs.length p (atX xs) k))] = _
      rw [hlw, hhw]
      rfl
end Go.Proofs.Ytafobbekeoghiaa.Abs
