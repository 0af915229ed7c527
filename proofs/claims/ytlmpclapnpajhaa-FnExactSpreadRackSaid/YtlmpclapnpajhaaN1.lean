import Derived.Test.YtlmpclapnpajhaaW13
set_option linter.unusedVariables false
set_option linter.unusedSimpArgs false
namespace Go.Proofs.Ytlmpclapnpajhaa.Abs
open Go Go.RowKit
def outG (bad : Nat → Bool) : Nat → Nat → Int
  | 0, _ => -1
  | f + 1, i => if bad i then (i : Int) else outG bad f (i + 1)
theorem outG_neg {bad : Nat → Bool} : ∀ (f i : Nat), (0 ≤ outG bad f i ↔ ∃ j, i ≤ j ∧ j < i + f ∧ bad j = true)
  | 0, i => by
    rw [outG]
    constructor
    · intro h; omega
    · rintro ⟨j, h1, h2, _⟩; omega
  | f + 1, i => by
    rw [outG]
    by_cases h : bad i = true
    · rw [if_pos h]
      exact ⟨fun _ => ⟨i, by omega, by omega, h⟩, fun _ => by omega⟩
    · rw [if_neg h, outG_neg f (i + 1)]
      constructor
      · rintro ⟨j, h1, h2, h3⟩; exact ⟨j, by omega, by omega, h3⟩
      · rintro ⟨j, h1, h2, h3⟩
        refine ⟨j, ?_, by omega, h3⟩
        rcases Nat.lt_or_ge i j with h4 | h4
        · omega
        · have : j = i := by omega
          subst this
          exact absurd h3 h
def badB (xs : List Bk) (i : Nat) : Bool := decide (cmpU (xs.getD i bk0) (xs.getD (i - 1) bk0) < 0)
def outI (xs : List Bk) : Int := outG (badB xs) (xs.length - 1) 1
theorem out_sorted (xs : List Bk) : decide (outI xs ≥ 0) = !sortedB cmpU xs := by
  rw [Bool.eq_iff_iff, Bool.not_eq_true', decide_eq_true_eq]
  show 0 ≤ outI xs ↔ _
  rw [outI, outG_neg]
  constructor
  · rintro ⟨j, h1, h2, h3⟩
    rw [sortedB, ask_false (fun h => h (j - 1) (by omega) (by rw [show j - 1 + 1 = j by omega]; simpa [badB] using h3))]
  · intro h
    rw [sortedB, ← Bool.not_eq_true, ask_iff] at h
    rw [Classical.not_forall] at h
    obtain ⟨q, h⟩ := h
    rw [Classical.not_imp, Classical.not_not] at h
    exact ⟨q + 1, by omega, by omega, by simpa [badB] using h.2⟩

noncomputable abbrev s_S_l01Out : Spec (List Bk) where
  args := fun xs => [.sl 8 (bks xs)]
  pre := fun xs => (∀ b ∈ xs, isBk b) ∧ xs.length ≤ 1048576
  res := fun xs => .val (.int .i64 (outI xs))

set_option maxRecDepth 20000 in
set_option maxHeartbeats 1000000 in
theorem ok_S_l01Out : FnOk Pr 26 s_S_l01Out := by
  refine fn_ok 1 0 T0_ok Go.Proofs.Try.func26 rfl (enters_of Go.Proofs.Try.func26 rfl rfl) (fun _ => rfl) (fun _ => rfl) (fun _ => rfl) ?_
  rintro xs ⟨hv, hl⟩ C hP hN hm hG
  change awp C _ _ ⟨[(0, .sl 8 (bks xs))], [], 0⟩
  refine awp_seq ?_
  refine r1 T0_ok hP hm hN ?_
  refine g1 ?_
  refine awp_seq ?_
  refine awp_seq ?_
  refine r1 T0_ok hP hm hN ?_
  refine g1 ?_
  refine awp_block ?_
  refine awp_loop (fun n st => ∃ i : Nat, 1 ≤ i ∧ (i ≤ xs.length ∨ i = 1) ∧ outI xs = outG (badB xs) (xs.length - i) i ∧ n = xs.length - i ∧ st = ⟨[(3, .val (.int .i64 (i : Nat))), (0, .sl 8 (bks xs))], [], 0⟩) (xs.length - 1) ⟨_, weak_sl (sub_cons rfl (sub_cons rfl sub_nil)), 1, by omega, .inr rfl, rfl, rfl, rfl⟩ ?_
  rintro n st ⟨i, hi1, hi2, hall, hn, rfl⟩
  refine awp_seq ?_
  refine awp_seq ?_
  refine r1 T0_ok hP hm hN ?_
  refine g1 ?_
  refine g1 ?_
  refine g1 ?_
  refine g1 ?_
  refine awp_cond rfl (fun hc0 => ?_) (fun hc0 => ?_)
  · skip
    have hlti : i < xs.length := by simpa using hc0
    have hf : xs.length - i = (xs.length - (i + 1)) + 1 := by omega
    refine awp_skip ?_
    refine awp_seq ?_
    refine awp_block ?_
    refine awp_seq ?_
    refine awp_draw T0_ok hP hm hN Pr_mix [0, 1, 2, 3, 4, 5, 6, 7, 8, 9, 10, 11] [7] _ rfl (by rfl) ?_
    refine d1 T0_ok ?_
    refine d1 T0_ok ?_
    refine d1 T0_ok ?_
    refine d1 T0_ok ?_
    refine d1 T0_ok ?_
    refine d1 T0_ok ?_
    refine d1 T0_ok ?_
    refine dp1 ?_ (call1 ok_S_l01Usual ((_, _, _, 0, (xs.getD i bk0)), (_, _, _, 0, (xs.getD ((i : Int) - 1).toNat bk0)), false) [] (hpre := by (try dsimp only); exact ⟨⟨bks_get _ _ (by omega), hv _ (getD_mem' (by omega))⟩, ⟨bks_get _ _ (by omega), hv _ (getD_mem' (by omega))⟩⟩))
    refine d1 T0_ok ?_
    refine dreg_nil ?_
    refine awp_cond rfl (fun hc1 => ?_) (fun hc1 => ?_)
    · skip
      refine awp_seq ?_
      refine r1 T0_ok hP hm hN ?_
      refine g1 ?_
      refine g1 ?_
      refine awp_ret ?_
      refine fin_mk [] rfl rfl ?_ trivial (by decide)
      show D.val (.int .i64 (outI xs)) = _
      rw [hall, hf, outG, if_pos (by unfold badB; rw [show i - 1 = ((i : Int) - 1).toNat by omega]; simpa using hc1)]
      rfl
    · skip
      refine awp_skip ?_
      refine r1 T0_ok hP hm hN ?_
      refine g1 ?_
      refine g1 ?_
      refine g1 ?_
      refine ⟨xs.length - (i + 1), _, by omega, weak_sl (sub_cons rfl (sub_cons rfl sub_nil)), i + 1, by omega, .inl (by omega), by rw [hall, hf, outG, if_neg (by unfold badB; rw [show i - 1 = ((i : Int) - 1).toNat by omega]; simpa using hc1)], rfl, rfl⟩
  · skip
    have hge : ¬ i < xs.length := by simpa using hc0
    refine awp_exit ?_
    repeat refine thenA_exit ?_
    refine blockA_hit ?_
    refine awp_seq ?_
    refine r1 T0_ok hP hm hN ?_
    refine g1 ?_
    refine awp_ret ?_
    refine fin_mk [] rfl rfl ?_ trivial (by decide)
    show D.val (.int .i64 (outI xs)) = _
    rw [hall, show xs.length - i = 0 by omega, outG]
    rfl

def spAt (p n : Int) (i : Nat) : Int := ((2 * (i : Int) + 1) * p).tdiv (2 * n)
def spF (p n : Int) (bs : List Bk) : Nat → List Pl
  | 0 => []
  | i + 1 => spF p n bs i ++ [(spAt p n i, bs.getD i bk0)]
theorem spF_len (p n : Int) (bs : List Bk) : ∀ i, (spF p n bs i).length = i
  | 0 => rfl
  | i + 1 => by rw [spF, List.length_append, spF_len p n bs i]; rfl
theorem sp_b {p n : Int} {i : Nat} (hp : 1 ≤ p ∧ p ≤ 60) (hn : n ≤ 1048576) (hi : (i : Int) < n) : 0 ≤ (2 * (i : Int) + 1) * p ∧ (2 * (i : Int) + 1) * p ≤ 200000000 ∧ 0 ≤ spAt p n i ∧ spAt p n i ≤ 60 := by
  have h1 : 0 ≤ (2 * (i : Int) + 1) * p := Int.mul_nonneg (by omega) (by omega)
  have h2 : (2 * (i : Int) + 1) * p ≤ (2 * (i : Int) + 1) * 60 := Int.mul_le_mul_of_nonneg_left (by omega) (by omega)
  have h3 : (2 * (i : Int) + 1) * p ≤ 60 * (2 * n) := by omega
  have h4 : 0 ≤ spAt p n i := Int.tdiv_nonneg h1 (by omega)
  refine ⟨h1, by omega, h4, ?_⟩
  unfold spAt
  rw [Int.tdiv_eq_ediv_of_nonneg h1]
  exact Int.ediv_le_of_le_mul (by omega) h3

noncomputable abbrev s_S_l05Spread : Spec (Int × List Bk) where
  args := fun x => [.val (.int .i64 x.1), .sl 8 (bks x.2)]
  pre := fun x => (1 ≤ x.1 ∧ x.1 ≤ 60) ∧ x.2.length ≤ 1048576
  new := fun x => [⟨67, 9, false, pls (spF x.1 x.2.length x.2 x.2.length)⟩]
  res := fun x => .agg [.val (.int .i16 x.1), .own 0]

set_option maxRecDepth 20000 in
set_option maxHeartbeats 4000000 in
theorem ok_S_l05Spread : FnOk Pr 27 s_S_l05Spread := by
  refine fn_ok 2 0 T0_ok Go.Proofs.Try.func27 rfl (enters_of Go.Proofs.Try.func27 rfl rfl) (fun _ => rfl) (fun _ => rfl) (fun _ => rfl) ?_
  rintro ⟨p, xs⟩ ⟨⟨hp1, hp2⟩, hl⟩ C hP hN hm hG
  change awp C _ _ ⟨[(0, .val (.int .i64 p)), (1, .sl 8 (bks xs))], [], 0⟩
  simp only at hp1 hp2 hl
  refine awp_seq ?_
  refine r1 T0_ok hP hm hN ?_
  refine g1 ?_
  refine awp_seq ?_
  refine r1 T0_ok hP hm hN ?_
  refine g1 ?_
  refine g1 ?_
  refine g1 ?_
  refine g1 ?_
  refine g1 ?_
  refine awp_seq ?_
  refine r1 T0_ok hP hm hN ?_
  refine g1 ?_
  refine g1 ?_
  refine g1 ?_
  refine awp_seq ?_
  refine awp_seq ?_
  refine r1 T0_ok hP hm hN ?_
  refine g1 ?_
  refine awp_block ?_
  refine awp_loop (fun n st => ∃ i : Nat, i ≤ xs.length ∧ n = xs.length - i ∧ st = ⟨[(7, .val (.int .i64 (i : Nat))), (6, .val (.int .i64 (xs.length : Nat))), (0, .val (.int .i64 p)), (1, .sl 8 (bks xs)), (5, .ptr 1 0 0), (4, .ptr 0 0 0)], [(2, ⟨67, 9, false, pls (spF p xs.length xs i)⟩), (1, ⟨27, 2, true, [[.val (.int .i16 p), .own 2]]⟩), (0, ⟨27, 2, true, [[.val (.int .i16 0), .nil]]⟩)], 3⟩) (xs.length) ⟨_, (by exact Weak.trans (weak_nilO 1 0 1 67 9 rfl rfl rfl rfl) (weak_sl (sub_cons rfl (sub_cons rfl (sub_cons rfl (sub_cons rfl (sub_cons rfl (sub_cons rfl (sub_nil))))))))), 0, by omega, rfl, rfl⟩ ?_
  rintro n st ⟨i, hii, hni, rfl⟩
  have hsl := spF_len p xs.length xs i
  refine awp_seq ?_
  refine awp_seq ?_
  refine r1 T0_ok hP hm hN ?_
  refine g1 ?_
  refine g1 ?_
  refine g1 ?_
  refine awp_cond rfl (fun hc0 => ?_) (fun hc0 => ?_)
  · skip
    have hlti : i < xs.length := by simpa using hc0
    obtain ⟨hm1, hm2, hm3, hm4⟩ := sp_b (p := p) (n := xs.length) (i := i) ⟨hp1, hp2⟩ (by omega) (by omega)
    have hm3' : 0 ≤ ((2 * (i : Int) + 1) * p).tdiv (2 * (xs.length : Int)) := hm3
    have hm4' : ((2 * (i : Int) + 1) * p).tdiv (2 * (xs.length : Int)) ≤ 60 := hm4
    refine awp_skip ?_
    refine awp_seq ?_
    refine awp_block ?_
    refine awp_drawS T0_ok hP hm hN Pr_mix [0, 1, 2, 3, 4, 5, 6, 7, 8, 9, 10, 11] [15, 16] 17 _ rfl rfl rfl (by rfl) ?_
    refine d1 T0_ok ?_
    refine d1 T0_ok ?_
    refine d1 T0_ok ?_
    refine d1 T0_ok ?_
    refine d1 T0_ok ?_
    refine d1 T0_ok ?_
    refine d1 T0_ok ?_
    refine d1 T0_ok ?_
    refine d1 T0_ok ?_
    refine d1 T0_ok ?_ (hpre := by omega)
    refine d1 T0_ok ?_
    refine d1 T0_ok ?_
    refine d1 T0_ok ?_
    refine d1 T0_ok ?_
    refine d1 T0_ok ?_
    refine dp1 ?_ (oprel_astep T0_ok (by rfl) rfl (by first | trivial | rfl | exact ⟨rfl, rfl⟩ | exact ⟨rfl, rfl, fun _ => rfl, Nat.le_of_ble_eq_true rfl, .inl rfl⟩ | exact ⟨rfl, rfl, fun h => (nomatch h), Nat.le_of_ble_eq_true rfl, .inl rfl⟩ | exact ⟨rfl, rfl, fun _ => rfl, Nat.le_of_ble_eq_true rfl, .inr rfl⟩ | exact ⟨rfl, rfl, fun h => (nomatch h), Nat.le_of_ble_eq_true rfl, .inr rfl⟩ | omega | exact ⟨rfl, by (repeat (first | exact fm_nil | refine fm_cons ⟨rfl, rfl⟩ ?_)), Nat.le_of_ble_eq_true rfl, Nat.le_of_ble_eq_true rfl⟩ | (refine ⟨?_, ?_, ?_, ?_, ?_, ?_, ?_⟩ <;> first | omega | exact Nat.le_of_ble_eq_true rfl) | exact ⟨rfl, by omega, by (try simp only [List.length_map, List.length_set]); omega⟩ | exact ⟨rfl, by omega, by simp only [Int.toNat_natCast]; omega, by omega, Nat.le_of_ble_eq_true rfl, rfl⟩))
    refine dp1 ?_ (oprel_astep T0_ok (by rfl) rfl (by first | trivial | rfl | exact ⟨rfl, rfl⟩ | exact ⟨rfl, rfl, fun _ => rfl, Nat.le_of_ble_eq_true rfl, .inl rfl⟩ | exact ⟨rfl, rfl, fun h => (nomatch h), Nat.le_of_ble_eq_true rfl, .inl rfl⟩ | exact ⟨rfl, rfl, fun _ => rfl, Nat.le_of_ble_eq_true rfl, .inr rfl⟩ | exact ⟨rfl, rfl, fun h => (nomatch h), Nat.le_of_ble_eq_true rfl, .inr rfl⟩ | omega | exact ⟨rfl, by (repeat (first | exact fm_nil | refine fm_cons ⟨rfl, rfl⟩ ?_)), Nat.le_of_ble_eq_true rfl, Nat.le_of_ble_eq_true rfl⟩ | (refine ⟨?_, ?_, ?_, ?_, ?_, ?_, ?_⟩ <;> first | omega | exact Nat.le_of_ble_eq_true rfl) | exact ⟨rfl, by omega, by (try simp only [List.length_map, List.length_set]); omega⟩ | exact ⟨rfl, by omega, by simp only [Int.toNat_natCast]; omega, by omega, Nat.le_of_ble_eq_true rfl, rfl⟩))
    refine dreg_nil ?_
    refine ga1 ?_
    refine g1 ?_
    refine g1 ?_
    refine r1 T0_ok hP hm hN ?_
    refine g1 ?_
    refine g1 ?_
    refine g1 ?_
    refine ⟨xs.length - (i + 1), _, by omega, (by rw [spF, pls_app]; exact Weak.trans (weak_drop 3) (Weak.trans (weak_nx (nx' := 3) (by omega) (by rfl)) (weak_sl (sub_cons rfl (sub_cons rfl (sub_cons rfl (sub_cons rfl (sub_cons rfl (sub_cons rfl (sub_nil)))))))))), i + 1, by omega, rfl, rfl⟩
  · skip
    have hgei : ¬ i < xs.length := by simpa using hc0
    have heqi : i = xs.length := by omega
    rw [heqi]
    refine awp_exit ?_
    repeat refine thenA_exit ?_
    refine blockA_hit ?_
    refine awp_seq ?_
    refine r1 T0_ok hP hm hN ?_
    refine g1 ?_
    refine g1 ?_
    refine awp_ret ?_
    refine fin_mk [2] rfl rfl ?_ (objs_cons rfl rfl rfl rfl rfl (.inl rfl) objs_nil) (by decide)
    rfl

noncomputable abbrev s_I_spread : Spec (Int × List Bk) where
  args := fun x => [.val (.int .i64 x.1), .sl 8 (bks x.2)]
  pre := fun x => (1 ≤ x.1 ∧ x.1 ≤ 60) ∧ x.2.length ≤ 1048576
  new := fun x => [⟨67, 9, false, pls (spF x.1 x.2.length x.2 x.2.length)⟩]
  res := fun x => .agg [.val (.int .i16 x.1), .own 0]

set_option maxRecDepth 20000 in
set_option maxHeartbeats 4000000 in
theorem ok_I_spread : FnOk Pr 32 s_I_spread := by
  refine fn_ok 2 0 T0_ok Go.Proofs.Try.func32 rfl (enters_of Go.Proofs.Try.func32 rfl rfl) (fun _ => rfl) (fun _ => rfl) (fun _ => rfl) ?_
  rintro ⟨p, xs⟩ ⟨⟨hp1, hp2⟩, hl⟩ C hP hN hm hG
  change awp C _ _ ⟨[(0, .val (.int .i64 p)), (1, .sl 8 (bks xs))], [], 0⟩
  simp only at hp1 hp2 hl
  refine awp_seq ?_
  refine r1 T0_ok hP hm hN ?_
  refine g1 ?_
  refine awp_seq ?_
  refine r1 T0_ok hP hm hN ?_
  refine g1 ?_
  refine g1 ?_
  refine g1 ?_
  refine g1 ?_
  refine g1 ?_
  refine awp_seq ?_
  refine r1 T0_ok hP hm hN ?_
  refine g1 ?_
  refine g1 ?_
  refine g1 ?_
  refine awp_seq ?_
  refine awp_seq ?_
  refine r1 T0_ok hP hm hN ?_
  refine g1 ?_
  refine g1 ?_
  refine g1 ?_
  refine awp_block ?_
  refine awp_loop (fun n st => ∃ i : Nat, i ≤ xs.length ∧ n = xs.length - i ∧ st = ⟨[(16, .val (.int .i64 (i : Nat))), (15, .val (.int .i64 (xs.length : Nat))), (14, .sl 8 (bks xs)), (6, .val (.int .i64 (xs.length : Nat))), (0, .val (.int .i64 p)), (5, .ptr 1 0 0), (4, .ptr 0 0 0)], [(2, ⟨67, 9, false, pls (spF p xs.length xs i)⟩), (1, ⟨27, 2, true, [[.val (.int .i16 p), .own 2]]⟩), (0, ⟨27, 2, true, [[.val (.int .i16 0), .nil]]⟩)], 3⟩) (xs.length) ⟨_, (by exact Weak.trans (weak_nilO 1 0 1 67 9 rfl rfl rfl rfl) (weak_sl (sub_cons rfl (sub_cons rfl (sub_cons rfl (sub_cons rfl (sub_cons rfl (sub_cons rfl (sub_cons rfl (sub_nil)))))))))), 0, by omega, rfl, rfl⟩ ?_
  rintro n st ⟨i, hii, hni, rfl⟩
  have hsl := spF_len p xs.length xs i
  refine awp_seq ?_
  refine r1 T0_ok hP hm hN ?_
  refine g1 ?_
  refine awp_seq ?_
  refine awp_cond rfl (fun hc0 => ?_) (fun hc0 => ?_)
  · skip
    have hlti : i < xs.length := by simpa using hc0
    obtain ⟨hm1, hm2, hm3, hm4⟩ := sp_b (p := p) (n := xs.length) (i := i) ⟨hp1, hp2⟩ (by omega) (by omega)
    have hm3' : 0 ≤ ((2 * (i : Int) + 1) * p).tdiv (2 * (xs.length : Int)) := hm3
    have hm4' : ((2 * (i : Int) + 1) * p).tdiv (2 * (xs.length : Int)) ≤ 60 := hm4
    refine awp_skip ?_
    refine awp_seq ?_
    refine awp_block ?_
    refine awp_seq ?_
    refine r1 T0_ok hP hm hN ?_
    refine g1 ?_
    refine g1 ?_
    refine g1 ?_
    refine g1 ?_
    refine g1 ?_
    refine g1 ?_
    refine awp_drawS T0_ok hP hm hN Pr_mix [0, 1, 2, 3, 4, 5, 6, 7, 8, 9, 10, 11] [12, 13] 14 _ rfl rfl rfl (by rfl) ?_
    refine d1 T0_ok ?_
    refine d1 T0_ok ?_
    refine d1 T0_ok ?_
    refine d1 T0_ok ?_
    refine d1 T0_ok ?_
    refine d1 T0_ok ?_
    refine d1 T0_ok ?_
    refine d1 T0_ok ?_
    refine d1 T0_ok ?_
    refine d1 T0_ok ?_ (hpre := by omega)
    refine d1 T0_ok ?_
    refine d1 T0_ok ?_
    refine dp1 ?_ (oprel_astep T0_ok (by rfl) rfl (by first | trivial | rfl | exact ⟨rfl, rfl⟩ | exact ⟨rfl, rfl, fun _ => rfl, Nat.le_of_ble_eq_true rfl, .inl rfl⟩ | exact ⟨rfl, rfl, fun h => (nomatch h), Nat.le_of_ble_eq_true rfl, .inl rfl⟩ | exact ⟨rfl, rfl, fun _ => rfl, Nat.le_of_ble_eq_true rfl, .inr rfl⟩ | exact ⟨rfl, rfl, fun h => (nomatch h), Nat.le_of_ble_eq_true rfl, .inr rfl⟩ | omega | exact ⟨rfl, by (repeat (first | exact fm_nil | refine fm_cons ⟨rfl, rfl⟩ ?_)), Nat.le_of_ble_eq_true rfl, Nat.le_of_ble_eq_true rfl⟩ | (refine ⟨?_, ?_, ?_, ?_, ?_, ?_, ?_⟩ <;> first | omega | exact Nat.le_of_ble_eq_true rfl) | exact ⟨rfl, by omega, by (try simp only [List.length_map, List.length_set]); omega⟩ | exact ⟨rfl, by omega, by simp only [Int.toNat_natCast]; omega, by omega, Nat.le_of_ble_eq_true rfl, rfl⟩))
    refine dp1 ?_ (oprel_astep T0_ok (by rfl) rfl (by first | trivial | rfl | exact ⟨rfl, rfl⟩ | exact ⟨rfl, rfl, fun _ => rfl, Nat.le_of_ble_eq_true rfl, .inl rfl⟩ | exact ⟨rfl, rfl, fun h => (nomatch h), Nat.le_of_ble_eq_true rfl, .inl rfl⟩ | exact ⟨rfl, rfl, fun _ => rfl, Nat.le_of_ble_eq_true rfl, .inr rfl⟩ | exact ⟨rfl, rfl, fun h => (nomatch h), Nat.le_of_ble_eq_true rfl, .inr rfl⟩ | omega | exact ⟨rfl, by (repeat (first | exact fm_nil | refine fm_cons ⟨rfl, rfl⟩ ?_)), Nat.le_of_ble_eq_true rfl, Nat.le_of_ble_eq_true rfl⟩ | (refine ⟨?_, ?_, ?_, ?_, ?_, ?_, ?_⟩ <;> first | omega | exact Nat.le_of_ble_eq_true rfl) | exact ⟨rfl, by omega, by (try simp only [List.length_map, List.length_set]); omega⟩ | exact ⟨rfl, by omega, by simp only [Int.toNat_natCast]; omega, by omega, Nat.le_of_ble_eq_true rfl, rfl⟩))
    refine dreg_nil ?_
    refine ga1 ?_
    refine g1 ?_
    refine g1 ?_
    refine r1 T0_ok hP hm hN ?_
    refine g1 ?_
    refine g1 ?_
    refine ⟨xs.length - (i + 1), _, by omega, (by rw [spF, pls_app]; exact Weak.trans (weak_drop 4) (Weak.trans (weak_drop 3) (Weak.trans (weak_nx (nx' := 3) (by omega) (by rfl)) (weak_sl (sub_cons rfl (sub_cons rfl (sub_cons rfl (sub_cons rfl (sub_cons rfl (sub_cons rfl (sub_cons rfl (sub_nil)))))))))))), i + 1, by omega, rfl, rfl⟩
  · skip
    have hgei : ¬ i < xs.length := by simpa using hc0
    have heqi : i = xs.length := by omega
    rw [heqi]
    refine awp_exit ?_
    repeat refine thenA_exit ?_
    refine blockA_hit ?_
    refine awp_seq ?_
    refine r1 T0_ok hP hm hN ?_
    refine g1 ?_
    refine g1 ?_
    refine awp_ret ?_
    refine fin_mk [2] rfl rfl ?_ (objs_cons rfl rfl rfl rfl rfl (.inl rfl) objs_nil) (by decide)
    rfl


noncomputable abbrev s_I_isPlaces : Spec Int where
  args := fun n => [.val (.int .i64 n)]
  res := fun n => .val (.bool (inI n 1 60))

set_option maxRecDepth 20000 in
set_option maxHeartbeats 1000000 in
theorem ok_I_isPlaces : FnOk Pr 30 s_I_isPlaces := by
  refine fn_ok 1 0 T0_ok Go.Proofs.Try.func30 rfl (enters_of Go.Proofs.Try.func30 rfl rfl) (fun _ => rfl) (fun _ => rfl) (fun _ => rfl) ?_
  rintro n - C hP hN hm hG
  change awp C _ _ ⟨[(0, .val (.int .i64 n))], [], 0⟩
  refine awp_seq ?_
  refine r1 T0_ok hP hm hN ?_
  refine g1 ?_
  refine awp_seq ?_
  refine r1 T0_ok hP hm hN ?_
  refine g1 ?_
  refine gc1 ?_ (call1 ok_I_within_int64 (_, _, _) [])
  refine g1 ?_
  refine awp_ret ?_
  refine fin_mk [] rfl rfl ?_ trivial (by decide)
  rfl

noncomputable def fillR (p : Int) (xs : List Bk) : Int × List Pl × Int := if !validBs xs then (0, [], 1) else if !inI p 1 60 then (0, [], 2) else if !sortedB cmpU xs then (0, [], 4) else if decide ((xs.length : Int) > p) then (0, [], 3) else (p, spF p xs.length xs xs.length, 0)
theorem fillR_len (p : Int) (xs : List Bk) : (fillR p xs).2.1.length ≤ xs.length := by
  unfold fillR
  (repeat' split) <;> simp [spF_len]

noncomputable abbrev s_S_FillRack : Spec (Int × List Bk) where
  args := fun x => [.val (.int .i64 x.1), .sl 8 (bks x.2)]
  pre := fun x => (∀ b ∈ x.2, isBk b) ∧ x.2.length ≤ 1048576
  new := fun x => [⟨67, 9, false, pls (fillR x.1 x.2).2.1⟩]
  res := fun x => .tup [.agg [.val (.int .i16 (fillR x.1 x.2).1), .own 0], .val (.int .i64 (fillR x.1 x.2).2.2)]

set_option maxRecDepth 20000 in
set_option maxHeartbeats 4000000 in
theorem ok_S_FillRack : FnOk Pr 8 s_S_FillRack := by
  refine fn_ok 2 0 T0_ok Go.Proofs.Try.func8 rfl (enters_of Go.Proofs.Try.func8 rfl rfl) (fun _ => rfl) (fun _ => rfl) (fun _ => rfl) ?_
  rintro ⟨p, xs⟩ ⟨hv, hl⟩ C hP hN hm hG
  change awp C _ _ ⟨[(0, .val (.int .i64 p)), (1, .sl 8 (bks xs))], [], 0⟩
  simp only at hv hl
  refine awp_seq ?_
  refine r1 T0_ok hP hm hN ?_
  refine g1 ?_
  refine g1 ?_
  refine awp_seq ?_
  refine awp_seq ?_
  refine r1 T0_ok hP hm hN ?_
  refine g1 ?_
  refine gc1 ?_ (call1 ok_S_l01Ok _ [] (hpre := by (try dsimp only); exact ⟨hv, by omega⟩))
  refine g1 ?_
  refine awp_cond rfl (fun hc0 => ?_) (fun hc0 => ?_)
  · skip
    have hr : fillR p xs = (0, [], 1) := by rw [fillR, if_pos hc0]
    refine awp_seq ?_
    refine r1 T0_ok hP hm hN ?_
    refine g1 ?_
    refine g1 ?_
    refine g1 ?_
    refine awp_weak (weak_nilO 0 0 1 67 9 rfl rfl rfl rfl) ?_
    refine awp_ret ?_
    refine fin_mk [1] rfl rfl ?_ (by simp only [hr]; exact objs_cons rfl rfl rfl rfl rfl (.inl rfl) objs_nil) (by decide)
    show D.tup [.agg [.val (.int .i16 (fillR p xs).1), .own 1], .val (.int .i64 (fillR p xs).2.2)] = _
    rw [hr]
    rfl
  · skip
    refine awp_skip ?_
    refine awp_seq ?_
    refine awp_seq ?_
    refine r1 T0_ok hP hm hN ?_
    refine g1 ?_
    refine gc1 ?_ (call1 ok_S_l05Places _ [])
    refine g1 ?_
    refine awp_cond rfl (fun hc1 => ?_) (fun hc1 => ?_)
    · skip
      have hr : fillR p xs = (0, [], 2) := by rw [fillR, if_neg (by rw [hc0]; simp), if_pos hc1]
      refine awp_seq ?_
      refine r1 T0_ok hP hm hN ?_
      refine g1 ?_
      refine g1 ?_
      refine g1 ?_
      refine awp_weak (weak_nilO 0 0 1 67 9 rfl rfl rfl rfl) ?_
      refine awp_ret ?_
      refine fin_mk [1] rfl rfl ?_ (by simp only [hr]; exact objs_cons rfl rfl rfl rfl rfl (.inl rfl) objs_nil) (by decide)
      show D.tup [.agg [.val (.int .i16 (fillR p xs).1), .own 1], .val (.int .i64 (fillR p xs).2.2)] = _
      rw [hr]
      rfl
    · skip
      have hin : 1 ≤ p ∧ p ≤ 60 := inI_iff.1 (by simpa using hc1)
      refine awp_skip ?_
      refine awp_seq ?_
      refine awp_seq ?_
      refine r1 T0_ok hP hm hN ?_
      refine g1 ?_
      refine gc1 ?_ (call1 ok_S_l01Out _ [] (hpre := by (try dsimp only); exact ⟨hv, hl⟩))
      refine g1 ?_
      refine awp_cond rfl (fun hc2 => ?_) (fun hc2 => ?_)
      · skip
        rw [out_sorted] at hc2
        have hr : fillR p xs = (0, [], 4) := by rw [fillR, if_neg (by rw [hc0]; simp), if_neg (by rw [hc1]; simp), if_pos hc2]
        refine awp_seq ?_
        refine r1 T0_ok hP hm hN ?_
        refine g1 ?_
        refine g1 ?_
        refine g1 ?_
        refine awp_weak (weak_nilO 0 0 1 67 9 rfl rfl rfl rfl) ?_
        refine awp_ret ?_
        refine fin_mk [1] rfl rfl ?_ (by simp only [hr]; exact objs_cons rfl rfl rfl rfl rfl (.inl rfl) objs_nil) (by decide)
        show D.tup [.agg [.val (.int .i16 (fillR p xs).1), .own 1], .val (.int .i64 (fillR p xs).2.2)] = _
        rw [hr]
        rfl
      · skip
        rw [out_sorted] at hc2
        
        refine awp_skip ?_
        refine awp_seq ?_
        refine awp_seq ?_
        refine r1 T0_ok hP hm hN ?_
        refine g1 ?_
        refine g1 ?_
        refine g1 ?_
        refine g1 ?_
        refine awp_cond rfl (fun hc3 => ?_) (fun hc3 => ?_)
        · skip
          have hr : fillR p xs = (0, [], 3) := by rw [fillR, if_neg (by rw [hc0]; simp), if_neg (by rw [hc1]; simp), if_neg (by rw [hc2]; simp), if_pos hc3]
          refine awp_seq ?_
          refine r1 T0_ok hP hm hN ?_
          refine g1 ?_
          refine g1 ?_
          refine g1 ?_
          refine awp_weak (weak_nilO 0 0 1 67 9 rfl rfl rfl rfl) ?_
          refine awp_ret ?_
          refine fin_mk [1] rfl rfl ?_ (by simp only [hr]; exact objs_cons rfl rfl rfl rfl rfl (.inl rfl) objs_nil) (by decide)
          show D.tup [.agg [.val (.int .i16 (fillR p xs).1), .own 1], .val (.int .i64 (fillR p xs).2.2)] = _
          rw [hr]
          rfl
        · skip
          have hr : fillR p xs = (p, spF p xs.length xs xs.length, 0) := by rw [fillR, if_neg (by rw [hc0]; simp), if_neg (by rw [hc1]; simp), if_neg (by rw [hc2]; simp), if_neg (by rw [hc3]; simp)]
          refine awp_skip ?_
          refine awp_seq ?_
          refine r1 T0_ok hP hm hN ?_
          refine g1 ?_
          refine g1 ?_
          refine gc1 ?_ (call1 ok_S_l05Spread (_, _) [] (hpre := by (try dsimp only); exact ⟨⟨by omega, by omega⟩, by omega⟩))
          refine g1 ?_
          refine g1 ?_
          refine awp_ret ?_
          refine fin_mk [1] rfl rfl ?_ (by simp only [hr]; exact objs_cons rfl rfl rfl rfl rfl (.inl rfl) objs_nil) (by decide)
          show D.tup [.agg [.val (.int .i16 (fillR p xs).1), .own 1], .val (.int .i64 (fillR p xs).2.2)] = _
          rw [hr]
          rfl

noncomputable abbrev s_I_FillRack : Spec (Int × List Bk) where
  args := fun x => [.val (.int .i64 x.1), .sl 8 (bks x.2)]
  pre := fun x => (∀ b ∈ x.2, isBk b) ∧ x.2.length ≤ 1048576
  new := fun x => [⟨67, 9, false, pls (fillR x.1 x.2).2.1⟩]
  res := fun x => .tup [.agg [.val (.int .i16 (fillR x.1 x.2).1), .own 0], .val (.int .i64 (fillR x.1 x.2).2.2)]

set_option maxRecDepth 20000 in
set_option maxHeartbeats 4000000 in
theorem ok_I_FillRack : FnOk Pr 10 s_I_FillRack := by
  refine fn_ok 2 0 T0_ok Go.Proofs.Try.func10 rfl (enters_of Go.Proofs.Try.func10 rfl rfl) (fun _ => rfl) (fun _ => rfl) (fun _ => rfl) ?_
  rintro ⟨p, xs⟩ ⟨hv, hl⟩ C hP hN hm hG
  change awp C _ _ ⟨[(0, .val (.int .i64 p)), (1, .sl 8 (bks xs))], [], 0⟩
  simp only at hv hl
  refine awp_seq ?_
  refine r1 T0_ok hP hm hN ?_
  refine g1 ?_
  refine g1 ?_
  refine awp_seq ?_
  refine awp_block ?_
  refine awp_seq ?_
  refine r1 T0_ok hP hm hN ?_
  refine g1 ?_
  refine gc1 ?_ (call1 ok_I_ValidBooks _ [] (hpre := by (try dsimp only); omega))
  refine g1 ?_
  refine g1 ?_
  refine awp_cond rfl (fun hc0 => ?_) (fun hc0 => ?_)
  · skip
    have hr : fillR p xs = (0, [], 1) := by rw [fillR, if_pos hc0]
    refine awp_seq ?_
    refine r1 T0_ok hP hm hN ?_
    refine g1 ?_
    refine g1 ?_
    refine g1 ?_
    refine awp_weak (weak_nilO 0 0 1 67 9 rfl rfl rfl rfl) ?_
    refine awp_ret ?_
    refine fin_mk [1] rfl rfl ?_ (by simp only [hr]; exact objs_cons rfl rfl rfl rfl rfl (.inl rfl) objs_nil) (by decide)
    show D.tup [.agg [.val (.int .i16 (fillR p xs).1), .own 1], .val (.int .i64 (fillR p xs).2.2)] = _
    rw [hr]
    rfl
  · skip
    refine awp_seq ?_
    refine r1 T0_ok hP hm hN ?_
    refine g1 ?_
    refine gc1 ?_ (call1 ok_I_isPlaces _ [])
    refine g1 ?_
    refine g1 ?_
    refine awp_cond rfl (fun hc1 => ?_) (fun hc1 => ?_)
    · skip
      have hr : fillR p xs = (0, [], 2) := by rw [fillR, if_neg (by rw [hc0]; simp), if_pos hc1]
      refine awp_seq ?_
      refine r1 T0_ok hP hm hN ?_
      refine g1 ?_
      refine g1 ?_
      refine g1 ?_
      refine awp_weak (weak_nilO 0 0 1 67 9 rfl rfl rfl rfl) ?_
      refine awp_ret ?_
      refine fin_mk [1] rfl rfl ?_ (by simp only [hr]; exact objs_cons rfl rfl rfl rfl rfl (.inl rfl) objs_nil) (by decide)
      show D.tup [.agg [.val (.int .i16 (fillR p xs).1), .own 1], .val (.int .i64 (fillR p xs).2.2)] = _
      rw [hr]
      rfl
    · skip
      have hin : 1 ≤ p ∧ p ≤ 60 := inI_iff.1 (by simpa using hc1)
      refine awp_seq ?_
      refine r1 T0_ok hP hm hN ?_
      refine g1 ?_
      refine gc1 ?_ (call1 ok_I_isSorted _ [] (hpre := by (try dsimp only); omega))
      refine g1 ?_
      refine g1 ?_
      refine awp_cond rfl (fun hc2 => ?_) (fun hc2 => ?_)
      · skip
        have hr : fillR p xs = (0, [], 4) := by rw [fillR, if_neg (by rw [hc0]; simp), if_neg (by rw [hc1]; simp), if_pos hc2]
        refine awp_seq ?_
        refine r1 T0_ok hP hm hN ?_
        refine g1 ?_
        refine g1 ?_
        refine g1 ?_
        refine awp_weak (weak_nilO 0 0 1 67 9 rfl rfl rfl rfl) ?_
        refine awp_ret ?_
        refine fin_mk [1] rfl rfl ?_ (by simp only [hr]; exact objs_cons rfl rfl rfl rfl rfl (.inl rfl) objs_nil) (by decide)
        show D.tup [.agg [.val (.int .i16 (fillR p xs).1), .own 1], .val (.int .i64 (fillR p xs).2.2)] = _
        rw [hr]
        rfl
      · skip
        refine awp_seq ?_
        refine r1 T0_ok hP hm hN ?_
        refine g1 ?_
        refine g1 ?_
        refine g1 ?_
        refine g1 ?_
        refine g1 ?_
        refine awp_cond rfl (fun hc3 => ?_) (fun hc3 => ?_)
        · skip
          have hr : fillR p xs = (0, [], 3) := by rw [fillR, if_neg (by rw [hc0]; simp), if_neg (by rw [hc1]; simp), if_neg (by rw [hc2]; simp), if_pos hc3]
          refine awp_seq ?_
          refine r1 T0_ok hP hm hN ?_
          refine g1 ?_
          refine g1 ?_
          refine g1 ?_
          refine awp_weak (weak_nilO 0 0 1 67 9 rfl rfl rfl rfl) ?_
          refine awp_ret ?_
          refine fin_mk [1] rfl rfl ?_ (by simp only [hr]; exact objs_cons rfl rfl rfl rfl rfl (.inl rfl) objs_nil) (by decide)
          show D.tup [.agg [.val (.int .i16 (fillR p xs).1), .own 1], .val (.int .i64 (fillR p xs).2.2)] = _
          rw [hr]
          rfl
        · skip
          have hr : fillR p xs = (p, spF p xs.length xs xs.length, 0) := by rw [fillR, if_neg (by rw [hc0]; simp), if_neg (by rw [hc1]; simp), if_neg (by rw [hc2]; simp), if_neg (by rw [hc3]; simp)]
          refine awp_skip ?_
          refine awp_seq ?_
          refine r1 T0_ok hP hm hN ?_
          refine g1 ?_
          refine g1 ?_
          refine gc1 ?_ (call1 ok_I_spread (_, _) [] (hpre := by (try dsimp only); exact ⟨⟨by omega, by omega⟩, by omega⟩))
          refine g1 ?_
          refine g1 ?_
          refine awp_ret ?_
          refine fin_mk [1] rfl rfl ?_ (by simp only [hr]; exact objs_cons rfl rfl rfl rfl rfl (.inl rfl) objs_nil) (by decide)
          show D.tup [.agg [.val (.int .i16 (fillR p xs).1), .own 1], .val (.int .i64 (fillR p xs).2.2)] = _
          rw [hr]
          rfl
end Go.Proofs.Ytlmpclapnpajhaa.Abs
