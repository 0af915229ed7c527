import Derived.Test.YtheoapoddmmahaaGreatW2
set_option linter.unusedVariables false
set_option linter.unusedSimpArgs false
namespace Go.Proofs.YtheoapoddmmahaaGreat.Abs
open Go Go.RowKit
abbrev i64D (n : Int) : D := .val (.int .i64 n)
abbrev u8D (n : Int) : D := .val (.int .u8 n)
abbrev Says {α : Type} (enc : α → D) (dom : α → Prop) (p : α → Bool) (fn : D) : Prop := Does Pr (fun x => [enc x]) dom (fun x => .val (.bool (p x))) fn
def idxOf {α : Type} (p : α → Bool) (xs : List α) : Int := match xs.findIdx? p with | some i => (i : Int) | none => -1
theorem idxOf_some {α : Type} {d : α} {p : α → Bool} {xs : List α} {i : Nat} (hi : i < xs.length) (h : p (xs.getD i d) = true) (hb : ∀ j, j < i → p (xs.getD j d) = false) : idxOf p xs = i := by
  have : xs.findIdx? p = some i := by
    rw [List.findIdx?_eq_some_iff_getElem]
    refine ⟨hi, by simpa [List.getD, hi] using h, fun j hj => ?_⟩
    have := hb j hj
    simpa [List.getD, show j < xs.length by omega] using this
  simp [idxOf, this]
theorem idxOf_none {α : Type} {d : α} {p : α → Bool} {xs : List α} (h : ∀ j, j < xs.length → p (xs.getD j d) = false) : idxOf p xs = -1 := by
  have : xs.findIdx? p = none := by
    rw [List.findIdx?_eq_none_iff]
    intro x hx
    obtain ⟨j, hj, rfl⟩ := List.getElem_of_mem hx
    have := h j hj
    simpa [List.getD, hj] using this
  simp [idxOf, this]
theorem idxOf_any {α : Type} (p : α → Bool) (xs : List α) : decide (idxOf p xs ≥ 0) = xs.any p := by
  unfold idxOf
  cases h : xs.findIdx? p with
  | none =>
    rw [List.findIdx?_eq_none_iff] at h
    have : xs.any p = false := by rw [List.any_eq_false]; intro x hx; simp [h x hx]
    simp [this]
  | some i =>
    rw [List.findIdx?_eq_some_iff_getElem] at h
    obtain ⟨hi, hp, _⟩ := h
    have : xs.any p = true := List.any_eq_true.2 ⟨_, List.getElem_mem hi, hp⟩
    simp [this]
theorem idxOf_lt {α : Type} (p : α → Bool) (xs : List α) : -1 ≤ idxOf p xs ∧ idxOf p xs < xs.length := by
  unfold idxOf
  cases h : xs.findIdx? p with
  | none => simp only; omega
  | some i =>
    rw [List.findIdx?_eq_some_iff_getElem] at h
    obtain ⟨hi, _⟩ := h
    simp only; omega
theorem getD_mem {xs : List Int} {i : Nat} (h : i < xs.length) : xs.getD i 0 ∈ xs := getD_mem' h
theorem any_not {α : Type} (p : α → Bool) (xs : List α) : (!xs.any (fun n => !p n)) = xs.all p := by
  rw [← List.not_all_eq_any_not, Bool.not_not]
theorem all_false {α : Type} {p : α → Bool} {xs : List α} {i : Nat} {d : α} (hi : i < xs.length) (h : p (xs.getD i d) = false) : xs.all p = false := by
  rw [List.all_eq_false]; exact ⟨xs.getD i d, getD_mem' hi, by rw [h]; simp⟩
theorem all_true {α : Type} {p : α → Bool} {xs : List α} {d : α} (h : ∀ i, i < xs.length → p (xs.getD i d) = true) : xs.all p = true := by
  rw [List.all_eq_true]; intro x hx
  obtain ⟨i, hi, rfl⟩ := List.getElem_of_mem hx
  have := h i hi
  simpa [List.getD, hi] using this
theorem upto_step {p : Nat → Prop} {i : Nat} (h : ∀ j, j < i → p j) (hi : p i) : ∀ j, j < i + 1 → p j := fun j hj => by
  by_cases e : j = i
  · rw [e]; exact hi
  · exact h j (by omega)

noncomputable abbrev s_slices_IndexFunc_int64_int64 : Spec (List Int × D × (Int → Bool)) where
  args := fun x => [.sl 1 (i64s x.1), x.2.1]
  pre := fun x => x.1.length ≤ 9223372036854775807 ∧ Says i64D (· ∈ x.1) x.2.2 x.2.1
  res := fun x => .val (.int .i64 (idxOf x.2.2 x.1))

set_option maxRecDepth 20000 in
set_option maxHeartbeats 1000000 in
theorem ok_slices_IndexFunc_int64_int64 : FnOk Pr 108 s_slices_IndexFunc_int64_int64 := by
 refine fn_ok 2 0 T0_ok Go.Proofs.Tryz.func108 rfl (enters_of Go.Proofs.Tryz.func108 rfl rfl) (fun _ => rfl) (fun _ => rfl) (fun _ => rfl) ?_
 rintro ⟨xs, fn, p⟩ ⟨hp, hask⟩ C hP hN hm hG
 change awp C _ _ ⟨[(0, .sl 1 (i64s xs)), (1, fn)], [], 0⟩
 simp only at hp hask
 refine awp_seq ?_
 refine r1 T0_ok hP hm hN ?_
 refine g1 ?_
 refine awp_seq ?_
 refine awp_seq ?_
 refine r1 T0_ok hP hm hN ?_
 iterate 3 refine g1 ?_
 refine awp_block ?_
 refine awp_loop (fun n st => ∃ i : Nat, i ≤ xs.length ∧ (∀ j, j < i → p (xs.getD j 0) = false) ∧ n = xs.length - i ∧ st = ⟨[(8, .val (.int .i64 (i : Nat))), (7, .val (.int .i64 (xs.length : Nat))), (0, .sl 1 (i64s xs)), (1, fn)], [], 0⟩) (xs.length) ⟨_, weak_sl (sub_cons rfl (sub_cons rfl (sub_cons rfl (sub_cons rfl (sub_nil))))), 0, by omega, fun j h1 => by omega, rfl, rfl⟩ ?_
 rintro n st ⟨i, hii, hall, hni, rfl⟩
 refine awp_seq ?_
 refine r1 T0_ok hP hm hN ?_
 refine g1 ?_
 refine awp_seq ?_
 refine awp_cond rfl (fun hc0 => ?_) (fun hc0 => ?_)
 ·
  have hlti : i < xs.length := by simpa using hc0
  refine awp_skip ?_
  refine awp_seq ?_
  refine awp_block ?_
  refine awp_seq ?_
  refine r1 T0_ok hP hm hN ?_
  iterate 2 refine g1 ?_
  refine awp_seq ?_
  refine r1 T0_ok hP hm hN ?_
  iterate 5 refine g1 ?_
  refine gc1 ?_ (OpRel.does hask _ (by first | exact getD_mem' hlti | exact hn) rfl rfl rfl rfl rfl rfl)
  refine awp_cond rfl (fun hc1 => ?_) (fun hc1 => ?_)
  ·
   refine awp_seq ?_
   refine r1 T0_ok hP hm hN ?_
   iterate 2 refine g1 ?_
   refine awp_ret ?_
   refine fin_mk [] rfl rfl ?_ trivial (by decide)
   show D.val (.int .i64 (idxOf p xs)) = _
   rw [idxOf_some (d := 0) hlti hc1 (fun j hj => hall j hj)]
   rfl
  ·
   refine awp_skip ?_
   refine r1 T0_ok hP hm hN ?_
   iterate 2 refine g1 ?_
   refine ⟨xs.length - (i + 1), _, by omega, weak_sl (sub_cons rfl (sub_cons rfl (sub_cons rfl (sub_cons rfl (sub_nil))))), i + 1, by omega, upto_step hall hc1, rfl, rfl⟩
 ·
  have hgei : ¬ i < xs.length := by simpa using hc0
  have heqi : i = xs.length := by omega
  refine awp_exit ?_
  repeat refine thenA_exit ?_
  refine blockA_hit ?_
  refine awp_seq ?_
  refine r1 T0_ok hP hm hN ?_
  refine g1 ?_
  refine awp_ret ?_
  refine fin_mk [] rfl rfl ?_ trivial (by decide)
  show D.val (.int .i64 (idxOf p xs)) = _
  rw [idxOf_none (d := 0) (fun j hj => hall j (by omega))]
  rfl

noncomputable abbrev s_slices_ContainsFunc_int64_int64 : Spec (List Int × D × (Int → Bool)) where
  args := fun x => [.sl 1 (i64s x.1), x.2.1]
  pre := fun x => x.1.length ≤ 9223372036854775807 ∧ Says i64D (· ∈ x.1) x.2.2 x.2.1
  res := fun x => .val (.bool (x.1.any x.2.2))

set_option maxRecDepth 20000 in
set_option maxHeartbeats 1000000 in
theorem ok_slices_ContainsFunc_int64_int64 : FnOk Pr 101 s_slices_ContainsFunc_int64_int64 := by
 refine fn_ok 2 0 T0_ok Go.Proofs.Tryz.func101 rfl (enters_of Go.Proofs.Tryz.func101 rfl rfl) (fun _ => rfl) (fun _ => rfl) (fun _ => rfl) ?_
 rintro ⟨xs, fn, p⟩ hp C hP hN hm hG
 change awp C _ _ ⟨[(0, .sl 1 (i64s xs)), (1, fn)], [], 0⟩
 refine awp_seq ?_
 refine r1 T0_ok hP hm hN ?_
 refine g1 ?_
 refine awp_seq ?_
 refine r1 T0_ok hP hm hN ?_
 iterate 2 refine g1 ?_
 refine gc1 ?_ (call1 ok_slices_IndexFunc_int64_int64 (_, _, p) [] (hargs := (by exact args_cons arga_slsl (args_cons (arga_does (by exact hp.2)) args_nil))) (hpre := by (try dsimp only); exact hp))
 iterate 2 refine g1 ?_
 refine awp_ret ?_
 refine fin_mk [] rfl rfl ?_ trivial (by decide)
 show D.val (.bool (xs.any p)) = _
 rw [← idxOf_any]
 rfl

noncomputable abbrev s_I_areAll_int64_1 (fn : D) (dom : Int → Prop) (p : Int → Bool) : Spec Int where
  args := fun n => [i64D n, .rptr 1 [[fn]] 0 0]
  pre := fun n => dom n
  res := fun n => .val (.bool (!p n))

set_option maxRecDepth 20000 in
set_option maxHeartbeats 1000000 in
theorem ok_I_areAll_int64_1 (fn : D) (dom : Int → Prop) (p : Int → Bool) (hask : Says i64D dom p fn) : FnOk Pr 102 (s_I_areAll_int64_1 fn dom p) := by
 refine fn_ok 2 0 T0_ok Go.Proofs.Tryz.func102 rfl (enters_of Go.Proofs.Tryz.func102 rfl rfl) (fun _ => rfl) (fun _ => rfl) (fun _ => rfl) ?_
 rintro n hn C hP hN hm hG
 change awp C _ _ ⟨[(0, i64D n), (1, .rptr 1 [[fn]] 0 0)], [], 0⟩
 refine awp_seq ?_
 refine r1 T0_ok hP hm hN ?_
 refine g1 ?_
 refine awp_seq ?_
 refine r1 T0_ok hP hm hN ?_
 iterate 2 refine g1 ?_
 refine gc1 ?_ (OpRel.does hask _ (by first | exact getD_mem' hlti | exact hn) rfl rfl rfl rfl rfl rfl)
 iterate 2 refine g1 ?_
 refine awp_ret ?_
 refine fin_mk [] rfl rfl ?_ trivial (by decide)
 rfl

theorem says_not_int64 {fn : D} {dom : Int → Prop} {p : Int → Bool} (h : Says i64D dom p fn) : Says i64D dom (fun n => !p n) (.clo (.func 102) [.rptr 1 [[fn]] 0 0]) :=
  ⟨102, [], [.rptr 1 [[fn]] 0 0], s_I_areAll_int64_1 fn dom p, rfl, rfl, rfl, ok_I_areAll_int64_1 fn dom p h, fun _ => rfl, fun _ h => h, fun _ => rfl, fun _ => rfl, fun _ => rfl, fun _ => rfl⟩

noncomputable abbrev s_I_areAll_int64 : Spec (List Int × D × (Int → Bool)) where
  args := fun x => [.sl 1 (i64s x.1), x.2.1]
  pre := fun x => x.1.length ≤ 9223372036854775807 ∧ fnCell x.2.1 = true ∧ Says i64D (· ∈ x.1) x.2.2 x.2.1
  res := fun x => .val (.bool (x.1.all x.2.2))

set_option maxRecDepth 20000 in
set_option maxHeartbeats 1000000 in
theorem ok_I_areAll_int64 : FnOk Pr 79 s_I_areAll_int64 := by
 refine fn_ok 2 0 T0_ok Go.Proofs.Tryz.func79 rfl (enters_of Go.Proofs.Tryz.func79 rfl rfl) (fun _ => rfl) (fun _ => rfl) (fun _ => rfl) ?_
 rintro ⟨xs, fn, p⟩ ⟨hp, hf0, hask⟩ C hP hN hm hG
 change awp C _ _ ⟨[(0, .sl 1 (i64s xs)), (1, fn)], [], 0⟩
 simp only at hp hf0 hask
 obtain ⟨hdc, hcl, hhf, hsf⟩ := fnCell_ok hf0
 have xn1 := hdc
 refine awp_seq ?_
 refine r1 T0_ok hP hm hN ?_
 refine g1 ?_ (hpre := by exact hcl)
 refine g1 ?_
 refine awp_seq ?_
 refine r1 T0_ok hP hm hN ?_
 iterate 2 refine g1 ?_
 refine gc1 ?_ (call1 ok_slices_ContainsFunc_int64_int64 (_, _, fun n => !p n) [] (hpre := by (try dsimp only); exact ⟨hp, says_not_int64 hask⟩))
 iterate 2 refine g1 ?_
 refine awp_ret ?_
 refine fin_mk [] rfl rfl ?_ trivial (by decide)
 show D.val (.bool (xs.all p)) = _
 rw [← any_not]
 rfl
end Go.Proofs.YtheoapoddmmahaaGreat.Abs

