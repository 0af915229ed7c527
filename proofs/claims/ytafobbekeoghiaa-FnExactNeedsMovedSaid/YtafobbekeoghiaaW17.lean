import Derived.Test.YtafobbekeoghiaaW15
set_option linter.unusedVariables false
set_option linter.unusedSimpArgs false
namespace Go.Proofs.Ytafobbekeoghiaa.Abs
open Go Go.RowKit
def takenF (n : Nat) (xs : List Pl) : Nat → List Bool
  | 0 => List.replicate n false
  | i + 1 => (takenF n xs i).set (xs.getD i pl0).1.toNat true
theorem takenF_len (n : Nat) (xs : List Pl) : ∀ i, (takenF n xs i).length = n
  | 0 => by simp [takenF]
  | i + 1 => by simp [takenF, takenF_len n xs i]
theorem boolD_rep (n : Nat) (b : Bool) : boolD (List.replicate n b) = List.replicate n [.val (.bool b)] := by simp
theorem boolD_set (bs : List Bool) (i : Nat) (b : Bool) : boolD (bs.set i b) = (boolD bs).set i [.val (.bool b)] := by simp
/-- The array of 60 and the slice of n say the same of the first n. -/
theorem takenF_same {n : Nat} {xs : List Pl} (hn : n ≤ 60) : ∀ i, (∀ j, j < i → (xs.getD j pl0).1.toNat < n) → ∀ k, k < n → (takenF 60 xs i).getD k false = (takenF n xs i).getD k false
  | 0, _, k, hk => by
    show (List.replicate 60 false).getD k false = (List.replicate n false).getD k false
    simp only [List.getD, List.getElem?_replicate, if_pos hk, if_pos (show k < 60 by omega)]
  | i + 1, h, k, hk => by
    have ih := takenF_same hn i (fun j hj => h j (by omega)) k hk
    have h1 := h i (by omega)
    have l1 := takenF_len 60 xs i
    have l2 := takenF_len n xs i
    unfold takenF
    simp only [List.getD, List.getElem?_set] at ih ⊢
    by_cases e : (xs.getD i pl0).1.toNat = k
    · have e' : ((xs[i]?.getD pl0).1).toNat = k := e
      simp [e', l1, l2, hk, show k < 60 by omega]
    · have e' : ¬ ((xs[i]?.getD pl0).1).toNat = k := e
      simpa [e'] using ih
abbrev atsOk (p : Int) (xs : List Pl) : Prop := ∀ b ∈ xs, 0 ≤ b.1 ∧ b.1 ≤ p - 1
theorem validR_ats {p : Int} {xs : List Pl} (h : validR p xs = true) : (1 ≤ p ∧ p ≤ 60) ∧ atsOk p xs := by
  unfold validR at h
  simp only [Bool.and_eq_true] at h
  refine ⟨inI_iff.1 h.1.1.1, fun b hb => ?_⟩
  have := List.all_eq_true.1 h.1.2 b hb
  simp only [okPl, Bool.and_eq_true] at this
  exact inI_iff.1 this.1
/-- Walking along the places: the best row so far, its length, and where the row at hand begins. -/
def rowF (tk : Nat → Bool) (is : Bool) : Nat → Nat × Nat × Nat
  | 0 => (0, 0, 0)
  | k + 1 => if tk k != is then ((rowF tk is k).1, (rowF tk is k).2.1, k + 1) else if k + 1 - (rowF tk is k).2.2 > (rowF tk is k).2.1 then ((rowF tk is k).2.2, k + 1 - (rowF tk is k).2.2, (rowF tk is k).2.2) else rowF tk is k
theorem rowF_le (tk : Nat → Bool) (is : Bool) : ∀ k, (rowF tk is k).2.2 ≤ k ∧ (rowF tk is k).1 ≤ k ∧ (rowF tk is k).2.1 ≤ k
  | 0 => by simp [rowF]
  | k + 1 => by
    have ih := rowF_le tk is k
    unfold rowF
    repeat' split
    all_goals (first | omega | (simp only; omega))
theorem rowF_congr {tk tk' : Nat → Bool} {is : Bool} : ∀ k, (∀ j, j < k → tk j = tk' j) → rowF tk is k = rowF tk' is k
  | 0, _ => rfl
  | k + 1, h => by
    unfold rowF
    rw [rowF_congr k (fun j hj => h j (by omega)), h k (by omega)]
theorem rowF_not {tk : Nat → Bool} {is : Bool} {k : Nat} (h : (tk k != is) = true) : rowF tk is (k + 1) = ((rowF tk is k).1, (rowF tk is k).2.1, k + 1) := by rw [rowF, if_pos h]
theorem rowF_more {tk : Nat → Bool} {is : Bool} {k : Nat} (h : (tk k != is) = false) (h2 : k + 1 - (rowF tk is k).2.2 > (rowF tk is k).2.1) : rowF tk is (k + 1) = ((rowF tk is k).2.2, k + 1 - (rowF tk is k).2.2, (rowF tk is k).2.2) := by rw [rowF, if_neg (by rw [h]; simp), if_pos h2]
theorem rowF_less {tk : Nat → Bool} {is : Bool} {k : Nat} (h : (tk k != is) = false) (h2 : ¬ k + 1 - (rowF tk is k).2.2 > (rowF tk is k).2.1) : rowF tk is (k + 1) = rowF tk is k := by rw [rowF, if_neg (by rw [h]; simp), if_neg h2]
abbrev tkS (xs : List Pl) (k : Nat) : Bool := (takenF 60 xs xs.length).getD k false
abbrev tkI (p : Int) (xs : List Pl) (k : Nat) : Bool := (takenF p.toNat xs xs.length).getD k false
def longR (ok : Bool) (r : Nat × Nat × Nat) : Int × Int × Int := if !ok then (0, 0, 1) else if (r.2.1 : Int) == 0 then (0, 0, 6) else (r.1, r.2.1, 0)
theorem long_same {p : Int} {xs : List Pl} {is : Bool} : longR (validR p xs) (rowF (tkI p xs) is p.toNat) = longR (okR p xs) (rowF (tkS xs) is p.toNat) := by
  rw [okR_validR]
  cases h : validR p xs with
  | false => rfl
  | true =>
    obtain ⟨⟨h1, h2⟩, h3⟩ := validR_ats h
    rw [rowF_congr (tk := tkI p xs) (tk' := tkS xs) p.toNat (fun j hj => (takenF_same (n := p.toNat) (by omega) xs.length (fun q hq => by have := h3 _ (getD_mem' (d := pl0) hq); omega) j hj).symm)]

noncomputable abbrev s_I_Rack_taken : Spec (Int × List Pl) where
  args := fun x => [rackD x]
  pre := fun x => x.2.length ≤ 1048576 ∧ (1 ≤ x.1 ∧ x.1 ≤ 60) ∧ atsOk x.1 x.2
  new := fun x => [⟨4, 1, false, boolD (takenF x.1.toNat x.2 x.2.length)⟩]
  res := fun x => .own 0

set_option maxRecDepth 20000 in
set_option maxHeartbeats 1000000 in
theorem ok_I_Rack_taken : FnOk Pr 26 s_I_Rack_taken := by
  refine fn_ok 1 0 T0_ok Go.Proofs.Try.func26 rfl (enters_of Go.Proofs.Try.func26 rfl rfl) (fun _ => rfl) (fun _ => rfl) (fun _ => rfl) ?_
  rintro ⟨p, xs⟩ ⟨hl, ⟨hp1, hp2⟩, ha⟩ C hP hN hm hG
  change awp C _ _ ⟨[(0, .agg [.val (.int .i16 p), .sl 9 (pls xs)])], [], 0⟩
  simp only at hl hp1 hp2 ha
  refine awp_seq ?_
  refine r1 T0_ok hP hm hN ?_
  refine g1 ?_
  refine g1 ?_
  refine awp_seq ?_
  refine r1 T0_ok hP hm hN ?_
  refine g1 ?_
  refine g1 ?_
  refine g1 ?_ (hpre := by exact ⟨rfl, by omega, (by show (1 : Nat) * p.toNat ≤ 281474976710656; omega), by omega, Nat.le_of_ble_eq_true rfl, rfl⟩)
  refine g1 ?_
  refine awp_seq ?_
  refine awp_seq ?_
  refine r1 T0_ok hP hm hN ?_
  refine g1 ?_
  refine g1 ?_
  refine g1 ?_
  refine g1 ?_
  refine awp_block ?_
  refine awp_loop (fun n st => ∃ i : Nat, i ≤ xs.length ∧ n = xs.length - i ∧ st = ⟨[(12, .val (.int .i64 (i : Nat))), (11, .val (.int .i64 (xs.length : Nat))), (10, .sl 9 (pls xs)), (3, .own 1)], [(1, ⟨4, 1, false, boolD (takenF p.toNat xs i)⟩), (0, ⟨34, 2, true, [[.val (.int .i16 p), .sl 9 (pls xs)]]⟩)], 2⟩) (xs.length) ⟨_, (by rw [takenF, boolD_rep]; exact weak_sl (sub_cons rfl (sub_cons rfl (sub_cons rfl (sub_cons rfl (sub_nil)))))), 0, by omega, rfl, rfl⟩ ?_
  rintro n st ⟨i, hii, hni, rfl⟩
  refine awp_seq ?_
  refine r1 T0_ok hP hm hN ?_
  refine g1 ?_
  refine awp_seq ?_
  refine awp_cond rfl (fun hc0 => ?_) (fun hc0 => ?_)
  · skip
    have hlti : i < xs.length := by simpa using hc0
    have hat := ha _ (getD_mem' (d := pl0) hlti)
    have htl := takenF_len p.toNat xs i
    refine awp_skip ?_
    refine awp_seq ?_
    refine awp_block ?_
    refine awp_seq ?_
    refine r1 T0_ok hP hm hN ?_
    refine g1 ?_
    refine g1 ?_
    refine g1 ?_
    refine g1 ?_
    refine r1 T0_ok hP hm hN ?_
    refine g1 ?_
    refine g1 ?_
    refine g1 ?_
    refine g1 ?_ (hpre := by exact ⟨rfl, by omega, by (simp only [List.length_map]; omega)⟩)
    refine g1 ?_
    refine r1 T0_ok hP hm hN ?_
    refine g1 ?_
    refine g1 ?_
    refine ⟨xs.length - (i + 1), _, by omega, (by rw [takenF, boolD_set]; exact Weak.trans (weak_drop 2) (Weak.trans (weak_nx (nx' := 2) (by omega) (by rfl)) (weak_sl (sub_cons rfl (sub_cons rfl (sub_cons rfl (sub_cons rfl (sub_nil)))))))), i + 1, by omega, rfl, rfl⟩
  · skip
    have hgei : ¬ i < xs.length := by simpa using hc0
    have heqi : i = xs.length := by omega
    rw [heqi]
    refine awp_exit ?_
    repeat refine thenA_exit ?_
    refine blockA_hit ?_
    refine awp_seq ?_
    refine r1 T0_ok hP hm hN ?_
    refine g1 ?_
    refine g1 ?_
    refine awp_ret ?_
    refine fin_mk [1] rfl rfl ?_ (objs_cons rfl rfl rfl rfl rfl (.inl rfl) objs_nil) (by decide)
    rfl



end Go.Proofs.Ytafobbekeoghiaa.Abs
