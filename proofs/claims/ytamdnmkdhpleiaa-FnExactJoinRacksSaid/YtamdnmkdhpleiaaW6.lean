import Derived.Test.YtamdnmkdhpleiaaW3
set_option linter.unusedVariables false
set_option linter.unusedSimpArgs false
namespace Go.Proofs.Ytamdnmkdhpleiaa.Abs
open Go Go.RowKit
abbrev a3D (x : Int × Int × Int) : D := .val (.agg #[.int .u8 x.1, .int .u8 x.2.1, .int .u8 x.2.2])
/-- The first i of a list, the rest as it was made. -/
def cpyD {α : Type} (d : α) (xs : List α) (i : Nat) : List α := xs.take i ++ List.replicate (xs.length - i) d
theorem cpyD_zero {α : Type} (d : α) (xs : List α) : cpyD d xs 0 = List.replicate xs.length d := by simp [cpyD]
theorem cpyD_len {α : Type} (d : α) (xs : List α) (i : Nat) (h : i ≤ xs.length) : (cpyD d xs i).length = xs.length := by simp [cpyD]; omega
theorem cpyD_all {α : Type} (d : α) (xs : List α) : cpyD d xs xs.length = xs := by simp [cpyD]
theorem cpyD_set {α : Type} (d : α) (xs : List α) (i : Nat) (h : i < xs.length) : (cpyD d xs i).set i (xs.getD i d) = cpyD d xs (i + 1) := by
  unfold cpyD
  apply List.ext_getElem?
  intro j
  rw [List.getElem?_set]
  simp only [List.length_append, List.length_take, List.length_replicate]
  by_cases e : i = j
  · subst e
    rw [if_pos rfl, if_pos (by omega), List.getElem?_append_left (by simp; omega)]
    simp [List.getElem?_take, List.getD, h]
  · rw [if_neg e]
    by_cases h1 : j < i
    · rw [List.getElem?_append_left (by simp; omega), List.getElem?_append_left (by simp; omega)]
      simp [List.getElem?_take, h1, show j < i + 1 by omega]
    · rw [List.getElem?_append_right (by simp; omega), List.getElem?_append_right (by simp; omega)]
      simp only [List.length_take, List.getElem?_replicate]
      by_cases h2 : j < xs.length
      · rw [if_pos (by omega), if_pos (by omega)]
      · rw [if_neg (by omega), if_neg (by omega)]

noncomputable abbrev s_L_toByteA3 : Spec (Int × Int × Int) where
  args := fun x => [a3D x]
  res := fun x => a3D x

set_option maxRecDepth 20000 in
set_option maxHeartbeats 1000000 in
theorem ok_L_toByteA3 : FnOk Pr 55 s_L_toByteA3 := by
  refine fn_ok 1 0 T0_ok Go.Proofs.Try.func55 rfl (enters_of Go.Proofs.Try.func55 rfl rfl) (fun _ => rfl) (fun _ => rfl) (fun _ => rfl) ?_
  rintro ⟨a, b, c⟩ - C hP hN hm hG
  change awp C _ _ ⟨[(0, .val (.agg #[.int .u8 a, .int .u8 b, .int .u8 c]))], [], 0⟩
  refine awp_seq ?_
  refine r1 T0_ok hP hm hN ?_
  refine g1 ?_
  refine g1 ?_
  refine awp_seq ?_
  refine r1 T0_ok hP hm hN ?_
  refine g1 ?_
  refine awp_seq ?_
  refine awp_seq ?_
  refine r1 T0_ok hP hm hN ?_
  refine g1 ?_
  refine awp_block ?_
  refine awp_loop (fun n st => (n = 3 ∧ st = ⟨[(4, .val (.int .i64 0)), (1, .ptr 0 0 0), (2, .ptr 1 0 0), (3, .ptr 2 0 0)], [(2, ⟨43, 3, true, [[.val (.int .u8 0), .val (.int .u8 0), .val (.int .u8 0)]]⟩), (1, ⟨43, 3, true, [[.val (.int .u8 0), .val (.int .u8 0), .val (.int .u8 0)]]⟩), (0, ⟨43, 3, true, [[.val (.int .u8 a), .val (.int .u8 b), .val (.int .u8 c)]]⟩)], 3⟩) ∨ (n = 2 ∧ st = ⟨[(4, .val (.int .i64 1)), (1, .ptr 0 0 0), (2, .ptr 1 0 0), (3, .ptr 2 0 0)], [(2, ⟨43, 3, true, [[.val (.int .u8 a), .val (.int .u8 0), .val (.int .u8 0)]]⟩), (1, ⟨43, 3, true, [[.val (.int .u8 0), .val (.int .u8 0), .val (.int .u8 0)]]⟩), (0, ⟨43, 3, true, [[.val (.int .u8 a), .val (.int .u8 b), .val (.int .u8 c)]]⟩)], 3⟩) ∨ (n = 1 ∧ st = ⟨[(4, .val (.int .i64 2)), (1, .ptr 0 0 0), (2, .ptr 1 0 0), (3, .ptr 2 0 0)], [(2, ⟨43, 3, true, [[.val (.int .u8 a), .val (.int .u8 b), .val (.int .u8 0)]]⟩), (1, ⟨43, 3, true, [[.val (.int .u8 0), .val (.int .u8 0), .val (.int .u8 0)]]⟩), (0, ⟨43, 3, true, [[.val (.int .u8 a), .val (.int .u8 b), .val (.int .u8 c)]]⟩)], 3⟩) ∨ (n = 0 ∧ st = ⟨[(4, .val (.int .i64 3)), (1, .ptr 0 0 0), (2, .ptr 1 0 0), (3, .ptr 2 0 0)], [(2, ⟨43, 3, true, [[.val (.int .u8 a), .val (.int .u8 b), .val (.int .u8 c)]]⟩), (1, ⟨43, 3, true, [[.val (.int .u8 0), .val (.int .u8 0), .val (.int .u8 0)]]⟩), (0, ⟨43, 3, true, [[.val (.int .u8 a), .val (.int .u8 b), .val (.int .u8 c)]]⟩)], 3⟩)) 3 ⟨_, weak_sl (sub_cons rfl (sub_cons rfl (sub_cons rfl (sub_cons rfl (sub_nil))))), .inl ⟨rfl, rfl⟩⟩ ?_
  rintro n st (⟨rfl, rfl⟩ | ⟨rfl, rfl⟩ | ⟨rfl, rfl⟩ | ⟨rfl, rfl⟩)
  · skip
    refine awp_seq ?_
    refine awp_seq ?_
    refine r1 T0_ok hP hm hN ?_
    refine g1 ?_
    refine g1 ?_
    refine awp_cond rfl (fun hc => ?_) (fun hc => absurd hc (by decide))
    refine awp_skip ?_
    refine awp_seq ?_
    refine awp_block ?_
    refine r1 T0_ok hP hm hN ?_
    refine g1 ?_
    refine g1 ?_
    refine g1 ?_
    refine g1 ?_
    refine g1 ?_
    refine g1 ?_
    refine r1 T0_ok hP hm hN ?_
    refine g1 ?_
    refine g1 ?_
    refine g1 ?_
    exact ⟨2, _, by omega, weak_sl (sub_cons rfl (sub_cons rfl (sub_cons rfl (sub_cons rfl (sub_nil))))), .inr (.inl ⟨rfl, rfl⟩)⟩
  · skip
    refine awp_seq ?_
    refine awp_seq ?_
    refine r1 T0_ok hP hm hN ?_
    refine g1 ?_
    refine g1 ?_
    refine awp_cond rfl (fun hc => ?_) (fun hc => absurd hc (by decide))
    refine awp_skip ?_
    refine awp_seq ?_
    refine awp_block ?_
    refine r1 T0_ok hP hm hN ?_
    refine g1 ?_
    refine g1 ?_
    refine g1 ?_
    refine g1 ?_
    refine g1 ?_
    refine g1 ?_
    refine r1 T0_ok hP hm hN ?_
    refine g1 ?_
    refine g1 ?_
    refine g1 ?_
    exact ⟨1, _, by omega, weak_sl (sub_cons rfl (sub_cons rfl (sub_cons rfl (sub_cons rfl (sub_nil))))), .inr (.inr (.inl ⟨rfl, rfl⟩))⟩
  · skip
    refine awp_seq ?_
    refine awp_seq ?_
    refine r1 T0_ok hP hm hN ?_
    refine g1 ?_
    refine g1 ?_
    refine awp_cond rfl (fun hc => ?_) (fun hc => absurd hc (by decide))
    refine awp_skip ?_
    refine awp_seq ?_
    refine awp_block ?_
    refine r1 T0_ok hP hm hN ?_
    refine g1 ?_
    refine g1 ?_
    refine g1 ?_
    refine g1 ?_
    refine g1 ?_
    refine g1 ?_
    refine r1 T0_ok hP hm hN ?_
    refine g1 ?_
    refine g1 ?_
    refine g1 ?_
    exact ⟨0, _, by omega, weak_sl (sub_cons rfl (sub_cons rfl (sub_cons rfl (sub_cons rfl (sub_nil))))), .inr (.inr (.inr (⟨rfl, rfl⟩)))⟩
  · skip
    refine awp_seq ?_
    refine awp_seq ?_
    refine r1 T0_ok hP hm hN ?_
    refine g1 ?_
    refine g1 ?_
    refine awp_cond rfl (fun hc => absurd hc (by decide)) (fun hc => ?_)
    refine awp_exit ?_
    repeat refine thenA_exit ?_
    refine blockA_hit ?_
    refine awp_seq ?_
    refine r1 T0_ok hP hm hN ?_
    refine g1 ?_
    refine g1 ?_
    refine awp_ret ?_
    refine fin_mk [] rfl rfl ?_ trivial (by decide)
    rfl

noncomputable abbrev s_L_toBook : Spec Bk where
  args := fun x => [bkD x]
  res := fun x => bkD x

set_option maxRecDepth 20000 in
set_option maxHeartbeats 1000000 in
theorem ok_L_toBook : FnOk Pr 45 s_L_toBook := by
  refine fn_ok 1 0 T0_ok Go.Proofs.Try.func45 rfl (enters_of Go.Proofs.Try.func45 rfl rfl) (fun _ => rfl) (fun _ => rfl) (fun _ => rfl) ?_
  rintro x - C hP hN hm hG
  change awp C _ _ ⟨[(0, .val (.agg #[.int .i16 x.cls, .int .u8 x.m0, .int .u8 x.m1, .int .u8 x.m2, .int .i16 x.vol, .int .i16 x.wide, .int .i16 x.high, .int .i16 x.weight]))], [], 0⟩
  refine awp_seq ?_
  refine r1 T0_ok hP hm hN ?_
  refine g1 ?_
  refine g1 ?_
  refine awp_seq ?_
  refine r1 T0_ok hP hm hN ?_
  refine g1 ?_
  refine awp_seq ?_
  refine r1 T0_ok hP hm hN ?_
  refine g1 ?_
  refine g1 ?_
  refine g1 ?_
  refine g1 ?_
  refine awp_seq ?_
  refine r1 T0_ok hP hm hN ?_
  refine g1 ?_
  refine g1 ?_
  refine gc1 ?_ (call1 ok_L_toByteA3 (_, _, _) [])
  refine g1 ?_
  refine g1 ?_
  refine awp_seq ?_
  refine r1 T0_ok hP hm hN ?_
  refine g1 ?_
  refine g1 ?_
  refine g1 ?_
  refine g1 ?_
  refine awp_seq ?_
  refine r1 T0_ok hP hm hN ?_
  refine g1 ?_
  refine g1 ?_
  refine g1 ?_
  refine g1 ?_
  refine awp_seq ?_
  refine r1 T0_ok hP hm hN ?_
  refine g1 ?_
  refine g1 ?_
  refine g1 ?_
  refine g1 ?_
  refine awp_seq ?_
  refine r1 T0_ok hP hm hN ?_
  refine g1 ?_
  refine g1 ?_
  refine g1 ?_
  refine g1 ?_
  refine awp_seq ?_
  refine r1 T0_ok hP hm hN ?_
  refine g1 ?_
  refine g1 ?_
  refine awp_ret ?_
  refine fin_mk [] rfl rfl ?_ trivial (by decide)
  rfl

/-- One asks a after b. -/
theorem ask_and {p q : Prop} : ask (p ∧ q) = (ask p && ask q) := by
  by_cases h1 : p <;> by_cases h2 : q <;> simp [ask, h1, h2]

noncomputable abbrev s_L_eqByteA3 : Spec ((Int × Int × Int) × (Int × Int × Int)) where
  args := fun x => [a3D x.1, a3D x.2]
  res := fun x => .val (.bool (ask (x.1 = x.2)))

set_option maxRecDepth 20000 in
set_option maxHeartbeats 1000000 in
theorem ok_L_eqByteA3 : FnOk Pr 59 s_L_eqByteA3 := by
  refine fn_ok 2 0 T0_ok Go.Proofs.Try.func59 rfl (enters_of Go.Proofs.Try.func59 rfl rfl) (fun _ => rfl) (fun _ => rfl) (fun _ => rfl) ?_
  rintro ⟨⟨a, b, c⟩, a', b', c'⟩ - C hP hN hm hG
  change awp C _ _ ⟨[(0, .val (.agg #[.int .u8 a, .int .u8 b, .int .u8 c])), (1, .val (.agg #[.int .u8 a', .int .u8 b', .int .u8 c']))], [], 0⟩
  refine awp_seq ?_
  refine r1 T0_ok hP hm hN ?_
  refine g1 ?_
  refine g1 ?_
  refine g1 ?_
  refine awp_seq ?_
  refine awp_seq ?_
  refine r1 T0_ok hP hm hN ?_
  refine g1 ?_
  refine awp_block ?_
  refine awp_loop (fun n st => (n = 3 ∧ st = ⟨[(5, .val (.int .i64 0)), (2, .ptr 0 0 0), (3, .ptr 1 0 0)], [(1, ⟨43, 3, true, [[.val (.int .u8 a'), .val (.int .u8 b'), .val (.int .u8 c')]]⟩), (0, ⟨43, 3, true, [[.val (.int .u8 a), .val (.int .u8 b), .val (.int .u8 c)]]⟩)], 2⟩ ∧ True) ∨ (n = 2 ∧ st = ⟨[(5, .val (.int .i64 1)), (2, .ptr 0 0 0), (3, .ptr 1 0 0)], [(1, ⟨43, 3, true, [[.val (.int .u8 a'), .val (.int .u8 b'), .val (.int .u8 c')]]⟩), (0, ⟨43, 3, true, [[.val (.int .u8 a), .val (.int .u8 b), .val (.int .u8 c)]]⟩)], 2⟩ ∧ a = a') ∨ (n = 1 ∧ st = ⟨[(5, .val (.int .i64 2)), (2, .ptr 0 0 0), (3, .ptr 1 0 0)], [(1, ⟨43, 3, true, [[.val (.int .u8 a'), .val (.int .u8 b'), .val (.int .u8 c')]]⟩), (0, ⟨43, 3, true, [[.val (.int .u8 a), .val (.int .u8 b), .val (.int .u8 c)]]⟩)], 2⟩ ∧ a = a' ∧ b = b') ∨ (n = 0 ∧ st = ⟨[(5, .val (.int .i64 3)), (2, .ptr 0 0 0), (3, .ptr 1 0 0)], [(1, ⟨43, 3, true, [[.val (.int .u8 a'), .val (.int .u8 b'), .val (.int .u8 c')]]⟩), (0, ⟨43, 3, true, [[.val (.int .u8 a), .val (.int .u8 b), .val (.int .u8 c)]]⟩)], 2⟩ ∧ a = a' ∧ b = b' ∧ c = c')) 3 ⟨_, weak_sl (sub_cons rfl (sub_cons rfl (sub_cons rfl (sub_nil)))), .inl ⟨rfl, rfl, trivial⟩⟩ ?_
  rintro n st (⟨rfl, rfl, hf⟩ | ⟨rfl, rfl, hf⟩ | ⟨rfl, rfl, hf⟩ | ⟨rfl, rfl, hf⟩)
  · skip
    refine awp_seq ?_
    refine awp_seq ?_
    refine r1 T0_ok hP hm hN ?_
    refine g1 ?_
    refine g1 ?_
    refine awp_cond rfl (fun hc => ?_) (fun hc => absurd hc (by decide))
    refine awp_skip ?_
    refine awp_seq ?_
    refine awp_block ?_
    refine awp_seq ?_
    refine awp_draw T0_ok hP hm hN Pr_mix [0, 1, 2, 3, 4, 5, 6, 7, 8, 9, 10, 11] [] _ rfl (by rfl) ?_
    refine d1 T0_ok ?_
    refine d1 T0_ok ?_
    refine d1 T0_ok ?_
    refine d1 T0_ok ?_
    refine d1 T0_ok ?_
    refine d1 T0_ok ?_
    refine d1 T0_ok ?_
    refine dreg_nil ?_
    refine awp_cond rfl (fun hc0 => ?_) (fun hc0 => ?_)
    · skip
      refine awp_seq ?_
      refine r1 T0_ok hP hm hN ?_
      refine g1 ?_
      refine awp_ret ?_
      refine fin_mk [] rfl rfl ?_ trivial (by decide)
      show D.val (.bool (ask ((a, b, c) = (a', b', c')))) = D.val (.bool false)
      rw [ask_false (fun h => by simp only [Prod.mk.injEq] at h; simp_all)]
    · skip
      refine awp_skip ?_
      refine r1 T0_ok hP hm hN ?_
      refine g1 ?_
      refine g1 ?_
      refine g1 ?_
      exact ⟨2, _, by omega, weak_sl (sub_cons rfl (sub_cons rfl (sub_cons rfl (sub_nil)))), .inr (.inl ⟨rfl, rfl, by simpa using hc0⟩)⟩
  · skip
    refine awp_seq ?_
    refine awp_seq ?_
    refine r1 T0_ok hP hm hN ?_
    refine g1 ?_
    refine g1 ?_
    refine awp_cond rfl (fun hc => ?_) (fun hc => absurd hc (by decide))
    refine awp_skip ?_
    refine awp_seq ?_
    refine awp_block ?_
    refine awp_seq ?_
    refine awp_draw T0_ok hP hm hN Pr_mix [0, 1, 2, 3, 4, 5, 6, 7, 8, 9, 10, 11] [] _ rfl (by rfl) ?_
    refine d1 T0_ok ?_
    refine d1 T0_ok ?_
    refine d1 T0_ok ?_
    refine d1 T0_ok ?_
    refine d1 T0_ok ?_
    refine d1 T0_ok ?_
    refine d1 T0_ok ?_
    refine dreg_nil ?_
    refine awp_cond rfl (fun hc1 => ?_) (fun hc1 => ?_)
    · skip
      refine awp_seq ?_
      refine r1 T0_ok hP hm hN ?_
      refine g1 ?_
      refine awp_ret ?_
      refine fin_mk [] rfl rfl ?_ trivial (by decide)
      show D.val (.bool (ask ((a, b, c) = (a', b', c')))) = D.val (.bool false)
      rw [ask_false (fun h => by simp only [Prod.mk.injEq] at h; simp_all)]
    · skip
      refine awp_skip ?_
      refine r1 T0_ok hP hm hN ?_
      refine g1 ?_
      refine g1 ?_
      refine g1 ?_
      exact ⟨1, _, by omega, weak_sl (sub_cons rfl (sub_cons rfl (sub_cons rfl (sub_nil)))), .inr (.inr (.inl ⟨rfl, rfl, ⟨hf, by simpa using hc1⟩⟩))⟩
  · skip
    refine awp_seq ?_
    refine awp_seq ?_
    refine r1 T0_ok hP hm hN ?_
    refine g1 ?_
    refine g1 ?_
    refine awp_cond rfl (fun hc => ?_) (fun hc => absurd hc (by decide))
    refine awp_skip ?_
    refine awp_seq ?_
    refine awp_block ?_
    refine awp_seq ?_
    refine awp_draw T0_ok hP hm hN Pr_mix [0, 1, 2, 3, 4, 5, 6, 7, 8, 9, 10, 11] [] _ rfl (by rfl) ?_
    refine d1 T0_ok ?_
    refine d1 T0_ok ?_
    refine d1 T0_ok ?_
    refine d1 T0_ok ?_
    refine d1 T0_ok ?_
    refine d1 T0_ok ?_
    refine d1 T0_ok ?_
    refine dreg_nil ?_
    refine awp_cond rfl (fun hc2 => ?_) (fun hc2 => ?_)
    · skip
      refine awp_seq ?_
      refine r1 T0_ok hP hm hN ?_
      refine g1 ?_
      refine awp_ret ?_
      refine fin_mk [] rfl rfl ?_ trivial (by decide)
      show D.val (.bool (ask ((a, b, c) = (a', b', c')))) = D.val (.bool false)
      rw [ask_false (fun h => by simp only [Prod.mk.injEq] at h; simp_all)]
    · skip
      refine awp_skip ?_
      refine r1 T0_ok hP hm hN ?_
      refine g1 ?_
      refine g1 ?_
      refine g1 ?_
      exact ⟨0, _, by omega, weak_sl (sub_cons rfl (sub_cons rfl (sub_cons rfl (sub_nil)))), .inr (.inr (.inr (⟨rfl, rfl, ⟨hf.1, hf.2, by simpa using hc2⟩⟩)))⟩
  · skip
    refine awp_seq ?_
    refine awp_seq ?_
    refine r1 T0_ok hP hm hN ?_
    refine g1 ?_
    refine g1 ?_
    refine awp_cond rfl (fun hc => absurd hc (by decide)) (fun hc => ?_)
    refine awp_exit ?_
    repeat refine thenA_exit ?_
    refine blockA_hit ?_
    refine awp_seq ?_
    refine r1 T0_ok hP hm hN ?_
    refine g1 ?_
    refine awp_ret ?_
    refine fin_mk [] rfl rfl ?_ trivial (by decide)
    show D.val (.bool (ask ((a, b, c) = (a', b', c')))) = D.val (.bool true)
    rw [ask_true (by obtain ⟨rfl, rfl, rfl⟩ := hf; rfl)]

noncomputable abbrev s_L_eqBook : Spec (Bk × Bk) where
  args := fun x => [bkD x.1, bkD x.2]
  res := fun x => .val (.bool (ask (x.1 = x.2)))

set_option maxRecDepth 20000 in
set_option maxHeartbeats 1000000 in
theorem ok_L_eqBook : FnOk Pr 50 s_L_eqBook := by
  refine fn_ok 2 0 T0_ok Go.Proofs.Try.func50 rfl (enters_of Go.Proofs.Try.func50 rfl rfl) (fun _ => rfl) (fun _ => rfl) (fun _ => rfl) ?_
  rintro ⟨x, y⟩ - C hP hN hm hG
  change awp C _ _ ⟨[(0, .val (.agg #[.int .i16 x.cls, .int .u8 x.m0, .int .u8 x.m1, .int .u8 x.m2, .int .i16 x.vol, .int .i16 x.wide, .int .i16 x.high, .int .i16 x.weight])), (1, .val (.agg #[.int .i16 y.cls, .int .u8 y.m0, .int .u8 y.m1, .int .u8 y.m2, .int .i16 y.vol, .int .i16 y.wide, .int .i16 y.high, .int .i16 y.weight]))], [], 0⟩
  refine awp_seq ?_
  refine r1 T0_ok hP hm hN ?_
  refine g1 ?_
  refine g1 ?_
  refine g1 ?_
  refine awp_seq ?_
  refine awp_seq ?_
  refine r1 T0_ok hP hm hN ?_
  refine g1 ?_
  refine g1 ?_
  refine g1 ?_
  refine g1 ?_
  refine g1 ?_
  refine awp_cond rfl (fun hc0 => ?_) (fun hc0 => ?_)
  · skip
    refine awp_seq ?_
    refine r1 T0_ok hP hm hN ?_
    refine g1 ?_
    refine awp_ret ?_
    refine fin_mk [] rfl rfl ?_ trivial (by decide)
    show D.val (.bool (ask (x = y))) = D.val (.bool false)
    rw [ask_false (fun h => by subst h; simp at hc0)]
  · skip
    refine awp_skip ?_
    refine awp_seq ?_
    refine awp_seq ?_
    refine r1 T0_ok hP hm hN ?_
    refine g1 ?_
    refine g1 ?_
    refine g1 ?_
    refine g1 ?_
    refine gc1 ?_ (call1 ok_L_eqByteA3 ((_, _, _), (_, _, _)) [])
    refine g1 ?_
    refine awp_cond rfl (fun hc1 => ?_) (fun hc1 => ?_)
    · skip
      refine awp_seq ?_
      refine r1 T0_ok hP hm hN ?_
      refine g1 ?_
      refine awp_ret ?_
      refine fin_mk [] rfl rfl ?_ trivial (by decide)
      show D.val (.bool (ask (x = y))) = D.val (.bool false)
      rw [ask_false (fun h => by subst h; simp [ask] at hc1)]
    · skip
      refine awp_skip ?_
      refine awp_seq ?_
      refine awp_seq ?_
      refine r1 T0_ok hP hm hN ?_
      refine g1 ?_
      refine g1 ?_
      refine g1 ?_
      refine g1 ?_
      refine g1 ?_
      refine awp_cond rfl (fun hc2 => ?_) (fun hc2 => ?_)
      · skip
        refine awp_seq ?_
        refine r1 T0_ok hP hm hN ?_
        refine g1 ?_
        refine awp_ret ?_
        refine fin_mk [] rfl rfl ?_ trivial (by decide)
        show D.val (.bool (ask (x = y))) = D.val (.bool false)
        rw [ask_false (fun h => by subst h; simp at hc2)]
      · skip
        refine awp_skip ?_
        refine awp_seq ?_
        refine awp_seq ?_
        refine r1 T0_ok hP hm hN ?_
        refine g1 ?_
        refine g1 ?_
        refine g1 ?_
        refine g1 ?_
        refine g1 ?_
        refine awp_cond rfl (fun hc3 => ?_) (fun hc3 => ?_)
        · skip
          refine awp_seq ?_
          refine r1 T0_ok hP hm hN ?_
          refine g1 ?_
          refine awp_ret ?_
          refine fin_mk [] rfl rfl ?_ trivial (by decide)
          show D.val (.bool (ask (x = y))) = D.val (.bool false)
          rw [ask_false (fun h => by subst h; simp at hc3)]
        · skip
          refine awp_skip ?_
          refine awp_seq ?_
          refine awp_seq ?_
          refine r1 T0_ok hP hm hN ?_
          refine g1 ?_
          refine g1 ?_
          refine g1 ?_
          refine g1 ?_
          refine g1 ?_
          refine awp_cond rfl (fun hc4 => ?_) (fun hc4 => ?_)
          · skip
            refine awp_seq ?_
            refine r1 T0_ok hP hm hN ?_
            refine g1 ?_
            refine awp_ret ?_
            refine fin_mk [] rfl rfl ?_ trivial (by decide)
            show D.val (.bool (ask (x = y))) = D.val (.bool false)
            rw [ask_false (fun h => by subst h; simp at hc4)]
          · skip
            refine awp_skip ?_
            refine awp_seq ?_
            refine awp_seq ?_
            refine r1 T0_ok hP hm hN ?_
            refine g1 ?_
            refine g1 ?_
            refine g1 ?_
            refine g1 ?_
            refine g1 ?_
            refine awp_cond rfl (fun hc5 => ?_) (fun hc5 => ?_)
            · skip
              refine awp_seq ?_
              refine r1 T0_ok hP hm hN ?_
              refine g1 ?_
              refine awp_ret ?_
              refine fin_mk [] rfl rfl ?_ trivial (by decide)
              show D.val (.bool (ask (x = y))) = D.val (.bool false)
              rw [ask_false (fun h => by subst h; simp at hc5)]
            · skip
              refine awp_skip ?_
              refine awp_seq ?_
              refine r1 T0_ok hP hm hN ?_
              refine g1 ?_
              refine awp_ret ?_
              refine fin_mk [] rfl rfl ?_ trivial (by decide)
              show D.val (.bool (ask (x = y))) = D.val (.bool true)
              simp only [Bool.not_eq_false', ask_iff, Prod.mk.injEq, bne_eq_false_iff_eq] at hc0 hc1 hc2 hc3 hc4 hc5
              rw [ask_true (Bk.same hc0 hc1.1 hc1.2.1 hc1.2.2 hc2 hc3 hc4 hc5)]



end Go.Proofs.Ytamdnmkdhpleiaa.Abs
