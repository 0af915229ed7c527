import Derived.Test.YtoincpeodnmfmaaDoorT2
set_option linter.unusedVariables false
set_option linter.unusedSimpArgs false
namespace Go.Proofs.YtoincpeodnmfmaaDoor.Abs
open Go Go.RowKit
abbrev Bs := List UInt8
/-- A text cut at each byte c. -/
def spl (c : UInt8) : Bs → List Bs
  | [] => [[]]
  | b :: l => if b = c then [] :: spl c l else match spl c l with
    | p :: r => (b :: p) :: r
    | [] => [[b]]
theorem spl_ne (c : UInt8) : ∀ l, spl c l ≠ []
  | [] => by simp [spl]
  | b :: l => by
    rw [spl]
    split
    · simp
    · split <;> simp
theorem spl_skip (c : UInt8) : ∀ (p l : Bs), c ∉ p → spl c (p ++ c :: l) = p :: spl c l
  | [], l, _ => by rw [List.nil_append, spl, if_pos rfl]
  | b :: p, l, h => by
    have hb : b ≠ c := fun e => h (by simp [e])
    rw [List.cons_append, spl, if_neg hb, spl_skip c p l (fun hm => h (by simp [hm]))]
theorem spl_one (c : UInt8) : ∀ (p : Bs), c ∉ p → spl c p = [p]
  | [], _ => rfl
  | b :: p, h => by
    have hb : b ≠ c := fun e => h (by simp [e])
    rw [spl, if_neg hb, spl_one c p (fun hm => h (by simp [hm]))]
theorem joinTail_cons (sep y : Bs) (r : List Bs) : Lib.joinTail sep (y :: r) = sep ++ y ++ Lib.joinTail sep r := by simp [Lib.joinTail]
theorem spl_join (c : UInt8) : ∀ (x : Bs) (r : List Bs), (∀ p ∈ x :: r, c ∉ p) → spl c (Lib.join (x :: r) [c]) = x :: r
  | x, [], h => by rw [Lib.join_one]; exact spl_one c x (h x (by simp))
  | x, y :: r, h => by
    have ih := spl_join c y r (fun p hp => h p (by simp at hp ⊢; exact .inr hp))
    rw [Lib.join_cons] at ih ⊢
    rw [joinTail_cons, List.append_assoc, List.singleton_append, spl_skip c x _ (h x (by simp)), ih]
theorem join_spl (c : UInt8) : ∀ l, Lib.join (spl c l) [c] = l
  | [] => by rw [spl, Lib.join_one]
  | b :: l => by
    have ih := join_spl c l
    have hne := spl_ne c l
    rw [spl]
    split
    · rename_i e
      cases h : spl c l with
      | nil => exact absurd h hne
      | cons p r =>
        rw [h] at ih
        rw [Lib.join_cons] at ih ⊢
        rw [joinTail_cons, e, List.nil_append, List.append_assoc, ih]
        rfl
    · cases h : spl c l with
      | nil => exact absurd h hne
      | cons p r =>
        rw [h] at ih
        simp only
        rw [Lib.join_cons] at ih ⊢
        rw [List.cons_append, ih]
theorem index_cons (b c : UInt8) (l : Bs) (h : b ≠ c) : Lib.index (b :: l) [c] = if Lib.index l [c] == -1 then -1 else Lib.index l [c] + 1 := by
  have hp : ([c] : Bs).isPrefixOf (b :: l) = false := by simp [List.isPrefixOf, Ne.symm h]
  rw [Lib.index, hp]; simp
theorem index_same (c : UInt8) (l : Bs) : Lib.index (c :: l) [c] = 0 := by rw [Lib.index]; simp [List.isPrefixOf]
/-- strings.Split at one byte. -/
theorem split_spl (c : UInt8) : ∀ l : Bs, Lib.splitK [c] 0 (Lib.count l [c]) l = spl c l
  | [] => by
    rw [Lib.count_one]; rfl
  | b :: l => by
    have ih := split_spl c l
    by_cases h : b = c
    · subst h
      rw [Lib.count_cons_eq, Nat.add_comm, Lib.splitK, index_same, spl, if_pos rfl, if_neg (by decide)]
      show ([] : Bs) :: Lib.splitK [b] 0 (Lib.count l [b]) l = _
      rw [ih]
    · rw [Lib.count_cons_ne b c l h, spl, if_neg h, ← ih]
      cases hk : Lib.count l [c] with
      | zero => rfl
      | succ k =>
        rw [Lib.splitK, Lib.splitK, index_cons b c l h]
        by_cases hm : Lib.index l [c] = -1
        · rw [Lib.count_miss hm] at hk; cases hk
        · have hge := Lib.index_ge l [c]
          have hm2 : ¬ (Lib.index l [c] == -1) = true := fun e => hm (beq_iff_eq.1 e)
          rw [if_neg hm2, if_neg hm2, if_neg (fun e => by have := beq_iff_eq.1 e; omega)]
          obtain ⟨j, hj⟩ : ∃ j : Nat, Lib.index l [c] = j := ⟨(Lib.index l [c]).toNat, by omega⟩
          rw [hj]
          show (b :: l).take (j + 1 + 0) :: Lib.splitK [c] 0 k ((b :: l).drop (j + 1 + 1)) = (b :: l.take (j + 0)) :: Lib.splitK [c] 0 k (l.drop (j + 1))
          rfl
theorem cut_at (c : UInt8) : ∀ (f t : Bs), c ∉ f → Lib.index (f ++ c :: t) [c] = (f.length : Int)
  | [], t, _ => index_same c t
  | b :: f, t, h => by
    have hb : b ≠ c := fun e => h (by simp [e])
    rw [List.cons_append, index_cons b c _ hb, cut_at c f t (fun hm => h (by simp [hm])), if_neg (fun e => by have := beq_iff_eq.1 e; omega)]
    simp
theorem cut_eq (c : UInt8) (f t : Bs) (h : c ∉ f) : Lib.cut (f ++ c :: t) [c] = (f, t, true) := by
  rw [Lib.cut, cut_at c f t h, if_pos (by omega)]
  simp
/-! ### Digits -/
def isDig (b : UInt8) : Bool := decide (48 ≤ b.toNat) && decide (b.toNat ≤ 57)
theorem dig_all : ∀ n, ∀ b ∈ Lib.decDigits n, isDig b = true := fun n => by
  induction n using Nat.strongRecOn with
  | ind n ih =>
    intro b hb
    have dig : ∀ k, k < 10 → isDig (UInt8.ofNat (48 + k)) = true := by decide
    by_cases h : n < 10
    · rw [Lib.decDigits_one h, List.mem_singleton] at hb
      subst hb; exact dig n h
    · rw [Lib.decDigits, dif_neg h, List.mem_append, List.mem_singleton] at hb
      rcases hb with hb | hb
      · exact ih (n / 10) (by omega) b hb
      · subst hb; exact dig _ (by omega)
theorem not_dig {c : UInt8} (h : isDig c = false) (n : Nat) : c ∉ Lib.decDigits n := fun hm => by
  rw [dig_all n c hm] at h; cases h
/-- What digits spell. -/
def valA (a : Nat) (s : Bs) : Nat := s.foldl (fun a c => 10 * a + (c.toNat - 48)) a
abbrev valL (s : Bs) : Nat := valA 0 s
theorem head_app {α : Type} {t u : List α} (h : t ≠ []) : (t ++ u).head? = t.head? := by
  cases t with
  | nil => exact absurd rfl h
  | cons x r => rfl
theorem valL_app (s : Bs) (d : UInt8) : valL (s ++ [d]) = 10 * valL s + (d.toNat - 48) := by simp [valL, valA, List.foldl_append]
theorem dig_nat : ∀ k, k < 10 → (UInt8.ofNat (48 + k)).toNat = 48 + k := by decide
theorem dig_back : ∀ d : UInt8, isDig d = true → UInt8.ofNat (48 + (d.toNat - 48)) = d ∧ 48 ≤ d.toNat ∧ d.toNat ≤ 57 := fun d h => by
  simp only [isDig, Bool.and_eq_true, decide_eq_true_eq] at h
  refine ⟨?_, h.1, h.2⟩
  rw [show 48 + (d.toNat - 48) = d.toNat by omega]
  exact UInt8.ofNat_toNat
theorem valL_dig (n : Nat) : valL (Lib.decDigits n) = n := by
  induction n using Nat.strongRecOn with
  | ind n ih =>
    by_cases h : n < 10
    · rw [Lib.decDigits_one h]
      show 10 * 0 + ((UInt8.ofNat (48 + n)).toNat - 48) = n
      rw [dig_nat n h]; omega
    · rw [Lib.decDigits, dif_neg h, valL_app, ih (n / 10) (by omega), dig_nat _ (by omega)]; omega
theorem dig_ne (n : Nat) : Lib.decDigits n ≠ [] := by
  rw [Lib.decDigits]
  split <;> simp
theorem dig_head (n : Nat) (h1 : 1 ≤ n) : ∀ c ∈ (Lib.decDigits n).head?, c.toNat ≠ 48 := by
  induction n using Nat.strongRecOn with
  | ind n ih =>
    intro c hc
    by_cases h : n < 10
    · rw [Lib.decDigits_one h] at hc
      simp only [List.head?_cons, Option.mem_def, Option.some.injEq] at hc
      subst hc
      rw [dig_nat n h]; omega
    · rw [Lib.decDigits, dif_neg h, head_app (dig_ne _)] at hc
      exact ih (n / 10) (by omega) (by omega) c hc
theorem val_dig : ∀ (k : Nat) (s : Bs), s.length = k + 1 → s.all isDig = true → (k = 0 ∨ ∀ c ∈ s.head?, c.toNat ≠ 48) → Lib.decDigits (valL s) = s
  | 0, s, hl, hd, _ => by
    match s, hl with
    | [d], _ =>
      simp only [List.all_cons, List.all_nil, Bool.and_true] at hd
      obtain ⟨h1, h2, h3⟩ := dig_back d hd
      show Lib.decDigits (10 * 0 + (d.toNat - 48)) = [d]
      rw [Lib.decDigits_one (by omega), Nat.mul_zero, Nat.zero_add, h1]
  | k + 1, s, hl, hd, hz => by
    obtain ⟨t, d, rfl⟩ : ∃ t d, s = t ++ [d] := ⟨s.dropLast, s.getLast (by intro e; rw [e] at hl; simp at hl), (List.dropLast_concat_getLast _).symm⟩
    rw [List.length_append] at hl
    simp only [List.length_cons, List.length_nil] at hl
    rw [List.all_append, Bool.and_eq_true] at hd
    have hdd : isDig d = true := by simpa using hd.2
    obtain ⟨h1, h2, h3⟩ := dig_back d hdd
    have htn : t ≠ [] := by intro e; rw [e] at hl; simp at hl
    have hz' : ∀ c ∈ t.head?, c.toNat ≠ 48 := fun c hc => by
      rcases hz with h | h
      · omega
      · exact h c (by rw [head_app htn]; exact hc)
    have ih := val_dig k t (by omega) hd.1 (.inr hz')
    have hv : 1 ≤ valL t := by
      rcases Nat.eq_zero_or_pos (valL t) with h0 | h0
      · exfalso
        rw [h0, Lib.decDigits_one (by decide)] at ih
        exact hz' (UInt8.ofNat (48 + 0)) (by rw [← ih]; rfl) (by decide)
      · exact h0
    rw [valL_app, Lib.decDigits, dif_neg (by omega), show (10 * valL t + (d.toNat - 48)) / 10 = valL t by omega, show (10 * valL t + (d.toNat - 48)) % 10 = d.toNat - 48 by omega, ih, h1]
def numOk (s : Bs) : Bool := !((decide (s.length = 0) || decide (s.length > 9)) || (decide ((s.getD 0 0).toNat = 48) && decide (s.length > 1))) && s.all isDig
theorem num_dig {s : Bs} (h : numOk s = true) : Lib.decDigits (valL s) = s := by
  simp only [numOk, Bool.and_eq_true, Bool.not_eq_true', Bool.or_eq_false_iff, Bool.and_eq_false_iff, decide_eq_false_iff_not] at h
  obtain ⟨⟨⟨h1, h2⟩, h3⟩, h4⟩ := h
  refine val_dig (s.length - 1) s (by omega) h4 ?_
  rcases h3 with h3 | h3
  · right
    intro c hc
    cases s with
    | nil => simp at hc
    | cons x r =>
      simp only [List.head?_cons, Option.mem_def, Option.some.injEq] at hc
      subst hc
      simpa using h3
  · left; omega
theorem dig_num {n : Nat} (h : n < 1000000000) : numOk (Lib.decDigits n) = true := by
  have hl : (Lib.decDigits n).length ≤ 9 := dig_len 8 n (by simpa using h)
  have hne : (Lib.decDigits n).length ≠ 0 := fun e => dig_ne n (List.eq_nil_of_length_eq_zero e)
  simp only [numOk, Bool.and_eq_true, Bool.not_eq_true', Bool.or_eq_false_iff, Bool.and_eq_false_iff, decide_eq_false_iff_not]
  refine ⟨⟨⟨hne, by omega⟩, ?_⟩, List.all_eq_true.2 (dig_all n)⟩
  by_cases h9 : n < 10
  · right; rw [Lib.decDigits_one h9]; simp
  · left
    have := dig_head n (by omega)
    cases hs : Lib.decDigits n with
    | nil => exact absurd hs (dig_ne n)
    | cons x r =>
      rw [hs] at this
      simpa using this x (by simp)
theorem valA_le (a : Nat) : ∀ s : Bs, a ≤ valA a s := fun s => by
  induction s generalizing a with
  | nil => exact Nat.le_refl _
  | cons c r ih =>
    have := ih (10 * a + (c.toNat - 48))
    show a ≤ valA (10 * a + (c.toNat - 48)) r
    omega
theorem parseM (M : Nat) (hM : M = 18446744073709551615) : ∀ (s : Bs) (a : Nat), s.all isDig = true → valA a s < 1000000000000 → Lib.parseUintM M a s = .ok (valA a s)
  | [], a, _, _ => rfl
  | c :: r, a, hd, hv => by
    simp only [List.all_cons, Bool.and_eq_true] at hd
    obtain ⟨_, h2, h3⟩ := dig_back c hd.1
    have hv' : valA (10 * a + (c.toNat - 48)) r < 1000000000000 := hv
    have hle := valA_le (10 * a + (c.toNat - 48)) r
    rw [Lib.parseUintM, if_pos ⟨h2, h3⟩, if_neg (by omega), if_neg (by omega), show a * 10 + (c.toNat - 48) = 10 * a + (c.toNat - 48) by omega, parseM M hM r _ hd.2 hv']
    rfl
/-- strconv.ParseInt reads what digits spell. -/
theorem parse_dig {n : Nat} (h : n < 1000000000) : Lib.parseIntB 64 (Lib.decDigits n) = .ok (n : Int) := by
  have hd := List.all_eq_true.2 (dig_all n)
  cases hs : Lib.decDigits n with
  | nil => exact absurd hs (dig_ne n)
  | cons c r =>
    have hc : isDig c = true := by rw [hs] at hd; simp only [List.all_cons, Bool.and_eq_true] at hd; exact hd.1
    obtain ⟨_, h2, h3⟩ := dig_back c hc
    have hp : Lib.parseUintB 64 (c :: r) = .ok n := by
      rw [Lib.parseUintB, if_neg (by simp), ← hs, parseM _ (by decide) _ 0 hd (by show valL (Lib.decDigits n) < _; rw [valL_dig]; omega)]
      show Lib.NumEnd.ok (valL (Lib.decDigits n)) = _
      rw [valL_dig]
    have e45 : ¬ c.toNat = 45 := by omega
    unfold Lib.parseIntB
    simp only [e45, show ¬ c.toNat = 43 by omega, or_self, if_false]
    rw [hp]
    simp only [not_false_eq_true, true_and, false_and, if_false]
    rw [if_neg (by omega)]
/-- What impl's short gives. -/
def shortV (s : Bs) : Int := match Lib.parseIntB 64 s with
  | .ok n => if Lib.itoa n = s ∧ (0 ≤ n ∧ n ≤ 32767) then n else -1
  | _ => -1
theorem short_dig {n : Nat} (h : n ≤ 32767) : shortV (Lib.decDigits n) = n := by
  rw [shortV, parse_dig (by omega)]
  simp only
  rw [if_pos ⟨by rw [Lib.itoa, if_neg (by omega)]; rfl, by omega, by omega⟩]
theorem short_back {s : Bs} (h : 0 ≤ shortV s) : Lib.decDigits (shortV s).toNat = s ∧ shortV s ≤ 32767 := by
  unfold shortV at h ⊢
  cases hp : Lib.parseIntB 64 s
  · rename_i n
    rw [hp] at h
    simp only at h ⊢
    by_cases hc : Lib.itoa n = s ∧ (0 ≤ n ∧ n ≤ 32767)
    · rw [if_pos hc]
      obtain ⟨h1, h2, h3⟩ := hc
      rw [Lib.itoa, if_neg (by omega)] at h1
      exact ⟨h1, h3⟩
    · rw [if_neg hc] at h; omega
  · rw [hp] at h; simp at h
  · rw [hp] at h; simp at h
/-! ### Moves -/
/-- A word of moves, by the reference. -/
def wordOk (w : Bs) : Bool := match spl 62 w with
  | [f, t] => (numOk f && numOk t) && (decide (valL f ≤ 99) && decide (valL t ≤ 99))
  | _ => false
def wordV (w : Bs) : Int × Int := match spl 62 w with
  | [f, t] => ((valL f : Int), (valL t : Int))
  | _ => (0, 0)
/-- A word of moves, by the program. -/
def wordI (w : Bs) : Int × Int := (shortV (Lib.cut w [62]).1, shortV (Lib.cut w [62]).2.1)
def mvB (m : Int × Int) : Bs := Lib.decDigits m.1.toNat ++ 62 :: Lib.decDigits m.2.toNat
theorem mvT_list (m : Int × Int) : (mvT m).data.toList = mvB m := by
  rw [mvT, ba_app, ba_app, mvB, List.append_assoc]
  rfl
abbrev in99 (m : Int × Int) : Prop := (0 ≤ m.1 ∧ m.1 ≤ 99) ∧ (0 ≤ m.2 ∧ m.2 ≤ 99)
theorem no62 (n : Nat) : (62 : UInt8) ∉ Lib.decDigits n := not_dig (by decide) n
theorem no32 (n : Nat) : (32 : UInt8) ∉ Lib.decDigits n := not_dig (by decide) n
theorem word_mv {m : Int × Int} (h : in99 m) : wordOk (mvB m) = true ∧ wordV (mvB m) = m ∧ wordI (mvB m) = m := by
  have e : spl 62 (mvB m) = [Lib.decDigits m.1.toNat, Lib.decDigits m.2.toNat] := by
    rw [mvB, spl_skip 62 _ _ (no62 _), spl_one 62 _ (no62 _)]
  refine ⟨?_, ?_, ?_⟩
  · rw [wordOk, e]
    simp only [dig_num (show m.1.toNat < 1000000000 by omega), dig_num (show m.2.toNat < 1000000000 by omega), valL_dig, Bool.true_and, Bool.and_eq_true, decide_eq_true_eq]
    omega
  · rw [wordV, e]
    simp only [valL_dig]
    exact Prod.ext (by simp; omega) (by simp; omega)
  · rw [wordI, mvB, cut_eq 62 _ _ (no62 _)]
    simp only
    rw [short_dig (by omega), short_dig (by omega)]
    exact Prod.ext (by simp; omega) (by simp; omega)
theorem word_ok {w : Bs} (h : wordOk w = true) : in99 (wordV w) ∧ mvB (wordV w) = w := by
  unfold wordOk at h
  unfold wordV
  have hj := join_spl 62 w
  split at h
  · rename_i f t hs
    rw [hs] at hj
    simp only [Bool.and_eq_true, decide_eq_true_eq] at h
    refine ⟨⟨⟨by simp, by simp; omega⟩, by simp, by simp; omega⟩, ?_⟩
    rw [mvB]
    simp only [Int.toNat_natCast]
    rw [num_dig h.1.1, num_dig h.1.2, ← hj, Lib.join_cons, joinTail_cons]
    simp [Lib.joinTail]
  · cases h
noncomputable def readS (s : Bs) : List (Int × Int) × Int := if s = [] then ([], 0) else if decide ((spl 32 s).length > 200) then ([], 5) else if (spl 32 s).all wordOk then ((spl 32 s).map wordV, 0) else ([], 5)
noncomputable def readI (s : Bs) : List (Int × Int) × Int := if s = [] then ([], 0) else if decide ((spl 32 s).length > 200) then ([], 5) else if (((spl 32 s).map wordI).all fun m => decide (in99 m)) && decide (Lib.join (((spl 32 s).map wordI).map mvB) [32] = s) then ((spl 32 s).map wordI, 0) else ([], 5)
theorem read_same (s : Bs) : readI s = readS s := by
  unfold readI readS
  split
  · rfl
  split
  · rfl
  by_cases h : (spl 32 s).all wordOk = true
  · have h' := List.all_eq_true.1 h
    have e : (spl 32 s).map wordI = (spl 32 s).map wordV := List.map_congr_left fun w hw => by
      obtain ⟨h1, h2⟩ := word_ok (h' w hw)
      have := (word_mv h1).2.2
      rwa [h2] at this
    have e2 : ((spl 32 s).map wordV).map mvB = spl 32 s := by
      rw [List.map_map]
      conv => rhs; rw [← List.map_id (spl 32 s)]
      exact List.map_congr_left fun w hw => (word_ok (h' w hw)).2
    rw [e, if_pos h, if_pos]
    rw [Bool.and_eq_true, List.all_eq_true, decide_eq_true_eq]
    refine ⟨fun m hm => ?_, by rw [e2, join_spl]⟩
    obtain ⟨w, hw, rfl⟩ := List.mem_map.1 hm
    exact decide_eq_true (word_ok (h' w hw)).1
  · rw [if_neg h, if_neg]
    intro hc
    rw [Bool.and_eq_true, List.all_eq_true, decide_eq_true_eq] at hc
    obtain ⟨h1, h2⟩ := hc
    have hne := spl_ne 32 s
    have hw : ((spl 32 s).map wordI).map mvB = spl 32 s := by
      cases hs : spl 32 s with
      | nil => exact absurd hs hne
      | cons x r =>
        rw [hs] at h2
        rw [List.map_cons, List.map_cons] at h2 ⊢
        rw [← hs, ← h2]
        refine (spl_join 32 _ _ (fun p hp => ?_)).symm
        rw [← List.map_cons, ← List.map_cons] at hp
        obtain ⟨m, _, rfl⟩ := List.mem_map.1 hp
        intro hm
        rw [mvB, List.mem_append, List.mem_cons] at hm
        rcases hm with hm | hm | hm
        · exact no32 _ hm
        · exact absurd hm (by decide)
        · exact no32 _ hm
    apply h
    rw [List.all_eq_true]
    intro w hm
    rw [← hw] at hm
    obtain ⟨m, hm1, rfl⟩ := List.mem_map.1 hm
    exact (word_mv (of_decide_eq_true (h1 m hm1))).1
/-! ### The reference's loops -/
def splP (c : UInt8) (s : ByteArray) : List ByteArray := (spl c s.data.toList).map fun p => ⟨p.toArray⟩
theorem splP_list (c : UInt8) (s : ByteArray) : (splP c s).map (·.data.toList) = spl c s.data.toList := by
  rw [splP, List.map_map]
  conv => rhs; rw [← List.map_id (spl c s.data.toList)]
  rfl
theorem list_ba {xs ys : List ByteArray} (h : xs.map (·.data.toList) = ys.map (·.data.toList)) : xs = ys := by
  induction xs generalizing ys with
  | nil => cases ys with
    | nil => rfl
    | cons y ys => simp at h
  | cons x xs ih => cases ys with
    | nil => simp at h
    | cons y ys =>
      rw [List.map_cons, List.map_cons, List.cons.injEq] at h
      rw [ba_ext h.1, ih h.2]
theorem ext_list (s : ByteArray) (a b : Nat) : (s.extract a b).data.toList = (s.data.toList.take b).drop a := by
  rw [Lib.extract_data]
  first | rfl | (simp [List.drop_take])
def sF (s : ByteArray) (c : UInt8) : Nat → List ByteArray × Nat
  | 0 => ([], 0)
  | i + 1 => if s.data.toList.getD i 0 = c then ((sF s c i).1 ++ [s.extract (sF s c i).2 i], i + 1) else sF s c i
theorem getD_at (l : Bs) (i : Nat) (h : i < l.length) : l.getD i 0 = l[i] := by simp [List.getD, h]
theorem sF_inv (s : ByteArray) (c : UInt8) : ∀ i, i ≤ s.data.toList.length → (sF s c i).2 ≤ i ∧ c ∉ (s.data.toList.take i).drop (sF s c i).2 ∧ (sF s c i).1.map (·.data.toList) ++ spl c (s.data.toList.drop (sF s c i).2) = spl c s.data.toList ∧ (sF s c i).1.length ≤ i
  | 0, _ => by simp [sF]
  | i + 1, hi => by
    obtain ⟨h1, h2, h3, h4⟩ := sF_inv s c i (by omega)
    have hg : s.data.toList.getD i 0 = s.data.toList[i] := getD_at _ _ (by omega)
    have ht : s.data.toList.take (i + 1) = s.data.toList.take i ++ [s.data.toList[i]] := by rw [List.take_succ_eq_append_getElem (by omega)]
    rw [sF]
    split
    · rename_i e
      rw [hg] at e
      refine ⟨Nat.le_refl _, by rw [List.drop_of_length_le (by rw [List.length_take]; omega)]; simp, ?_, by simp; omega⟩
      simp only
      rw [List.map_append, ← h3, List.append_assoc]
      congr 1
      have hd : s.data.toList.drop (sF s c i).2 = (s.data.toList.take i).drop (sF s c i).2 ++ c :: s.data.toList.drop (i + 1) := by
        conv => lhs; rw [← List.take_append_drop i s.data.toList]
        rw [List.drop_append_of_le_length (by rw [List.length_take]; omega), List.drop_eq_getElem_cons (show i < s.data.toList.length by omega), e]
      rw [hd, spl_skip c _ _ h2, List.map_cons, List.map_nil, ext_list]
      rfl
    · rename_i e
      rw [hg] at e
      refine ⟨by omega, ?_, h3, by omega⟩
      rw [ht, List.drop_append_of_le_length (by rw [List.length_take]; omega), List.mem_append]
      rintro (h | h)
      · exact h2 h
      · exact e (List.mem_singleton.1 h).symm
theorem sF_all (s : ByteArray) (c : UInt8) : (sF s c s.size).1 ++ [s.extract (sF s c s.size).2 s.size] = splP c s := by
  apply list_ba
  have hs : s.size = s.data.toList.length := rfl
  obtain ⟨h1, h2, h3, _⟩ := sF_inv s c s.size (by omega)
  rw [splP_list, ← h3, List.map_append, List.map_cons, List.map_nil, ext_list]
  rw [hs] at h2 ⊢
  rw [List.take_length] at h2 ⊢
  rw [spl_one c _ h2]
theorem spl_len (c : UInt8) : ∀ l, (spl c l).length ≤ l.length + 1
  | [] => by simp [spl]
  | b :: l => by
    have ih := spl_len c l
    rw [spl]
    split
    · simp; omega
    · split
      · rename_i h; rw [h] at ih; simp at ih ⊢; omega
      · simp
theorem splP_len (c : UInt8) (s : ByteArray) : (splP c s).length ≤ s.size + 1 := by rw [splP, List.length_map]; exact spl_len c _
theorem spl_piece (c : UInt8) : ∀ l, ∀ p ∈ spl c l, p.length ≤ l.length
  | [] => by simp [spl]
  | b :: l => by
    have ih := spl_piece c l
    rw [spl]
    split
    · intro p hp
      rcases List.mem_cons.1 hp with h | h
      · subst h; simp
      · have := ih p h; simp; omega
    · split
      · rename_i p' r h
        intro p hp
        rw [h] at ih
        rcases List.mem_cons.1 hp with h' | h'
        · subst h'; have := ih p' (by simp); simp; omega
        · have := ih p (by simp [h']); simp; omega
      · intro p hp
        rw [List.mem_singleton] at hp
        subst hp; simp
theorem valL_lt : ∀ (k : Nat) (s : Bs), s.length = k → s.all isDig = true → valL s < 10 ^ k
  | 0, s, h, _ => by rw [List.eq_nil_of_length_eq_zero h]; decide
  | k + 1, s, hl, hd => by
    obtain ⟨t, d, rfl⟩ : ∃ t d, s = t ++ [d] := ⟨s.dropLast, s.getLast (by intro e; rw [e] at hl; simp at hl), (List.dropLast_concat_getLast _).symm⟩
    rw [List.all_append, Bool.and_eq_true] at hd
    have ih := valL_lt k t (by simp at hl; omega) hd.1
    obtain ⟨_, h2, h3⟩ := dig_back d (by simpa using hd.2)
    rw [valL_app, Nat.pow_succ]
    omega
def numR (s : Bs) : Int × Bool := if numOk s then ((valL s : Int), true) else (0, false)
theorem val_step {s : Bs} {i : Nat} (h : i < s.length) : valL (s.take (i + 1)) = 10 * valL (s.take i) + ((s.getD i 0).toNat - 48) := by
  rw [List.take_succ_eq_append_getElem h, valL_app]
  simp [List.getD, h]

theorem ba_list (s : ByteArray) : s.toList = s.data.toList := ByteArray.toList_eq s
theorem tab_max {w : World} (h : TabAt [] w) : ∃ m, w.cell? ⟨0, 0, none⟩ = some (.int .i64 m) := by
  obtain ⟨h1, _, o, h3, m, ty, fr, h4⟩ := h _ (List.mem_cons_of_mem _ (List.mem_cons_self ..))
  subst h4
  exact ⟨m, by simp only [World.cell?]; rw [h3]; simp⟩
theorem tab_syn {w : World} (h : TabAt [] w) : ∃ ev, w.cell? ⟨3, 0, none⟩ = some ev ∧ (ev = .nilIface ∨ ∃ te pe, ev = .iface te pe) := by
  obtain ⟨h1, _, o, h3, ev, ty, fr, h4, h5⟩ := h _ (List.mem_cons_of_mem _ (List.mem_cons_of_mem _ (List.mem_cons_self ..)))
  subst h4
  exact ⟨ev, by simp only [World.cell?]; rw [h3]; simp, h5⟩
theorem tab_rng {w : World} (h : TabAt [] w) : ∃ ev, w.cell? ⟨4, 0, none⟩ = some ev ∧ (ev = .nilIface ∨ ∃ te pe, ev = .iface te pe) := by
  obtain ⟨h1, _, o, h3, ev, ty, fr, h4, h5⟩ := h _ (List.mem_cons_of_mem _ (List.mem_cons_of_mem _ (List.mem_cons_of_mem _ (List.mem_cons_self ..))))
  subst h4
  exact ⟨ev, by simp only [World.cell?]; rw [h3]; simp, h5⟩
theorem tab_later {w w' : World} (h : TabAt [] w) (hb : Below w.heap.size w w') : TabAt [] w' := (Keeps.of_below hb [] h).laterN
noncomputable abbrev s_strings_Split : Spec ByteArray where
  args := fun s => [.val (.string s), .val (.string spB)]
  pre := fun s => s.size ≤ 1048576
  new := fun s => [⟨9, 1, false, strs (splP 32 s)⟩]
  res := fun _ => .own 0
theorem ok_strings_Split : FnOk Pr 18 s_strings_Split := fnOk_strs (fun s => [.string s, .string spB]) (fun s => s.size ≤ 1048576) (fun s => splP 32 s) 9 (enters_of Go.Proofs.Tryd.func18 rfl rfl) (fun s hs => by have := splP_len 32 s; have hs : s.size ≤ 1048576 := hs; unfold maxLen; omega) (fun s hs w ht => by
  have hs : s.size ≤ 1048576 := hs
  obtain ⟨m, hm⟩ := tab_max ht
  have h := Go.Proofs.Tryd.strings_Split s spB m w (by omega) hm (by decide)
  have e : Lib.splitB spB 0 (Lib.countB s spB) s = splP 32 s := list_ba (by rw [splP_list, Lib.splitB_data, ← split_spl]; try rfl)
  have hl : Lib.countB s spB + 1 = (splP 32 s).length := by rw [← e, Lib.splitB_all spB (by decide) 0 _ s rfl]
  rw [e, hl] at h
  exact h)
noncomputable abbrev s_strings_Cut : Spec ByteArray where
  args := fun s => [.val (.string s), .val (.string gtB)]
  pre := fun s => s.size ≤ 1048576
  res := fun s => .tup [.val (.string ⟨(Lib.cut s.data.toList [62]).1.toArray⟩), .val (.string ⟨(Lib.cut s.data.toList [62]).2.1.toArray⟩), .val (.bool (Lib.cut s.data.toList [62]).2.2)]
theorem ok_strings_Cut : FnOk Pr 21 s_strings_Cut := fnOk_tupB (fun s => [.string s, .string gtB]) (fun s => s.size ≤ 1048576) (fun s => [.string ⟨(Lib.cut s.data.toList [62]).1.toArray⟩, .string ⟨(Lib.cut s.data.toList [62]).2.1.toArray⟩, .bool (Lib.cut s.data.toList [62]).2.2]) (enters_of Go.Proofs.Tryd.func21 rfl rfl) (fun s hs w ht => by
  have hs : s.size ≤ 1048576 := hs
  obtain ⟨m, hm⟩ := tab_max ht
  refine (Go.Proofs.Tryd.strings_Cut s gtB m w (by omega) hm).mono fun e w' hw => ?_
  obtain ⟨rfl, k, rfl⟩ := hw
  exact ⟨rfl, by have := below_grow w k #[]; simpa using this⟩)
end Go.Proofs.YtoincpeodnmfmaaDoor.Abs
