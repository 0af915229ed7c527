import Derived.Test.YtjkhgcmdcjdipaaW3
set_option linter.unusedVariables false
set_option linter.unusedSimpArgs false
namespace Go.Proofs.Ytjkhgcmdcjdipaa.Abs
open Go Go.RowKit
abbrev a3D (x : Int × Int × Int) : D := .val (.agg #[.int .u8 x.1, .int .u8 x.2.1, .int .u8 x.2.2])
/-- The first i of a list, the rest as it was made. -/
def cpyD {α : Type} (d : α) (xs : List α) (i : Nat) : List α := xs.take i ++ List.replicate (xs.length - i) d
theorem cpyD_zero {α : Type} (d : α) (xs : List α) : cpyD d xs 0 = List.replicate xs.length d := by simp [cpyD]
theorem cpyD_len {α : Type} (d : α) (xs : List α) (i : Nat) (h : i ≤ xs.length) : (cpyD d xs i).length = xs.length := by simp [cpyD]; omega
theorem cpyD_all {α : Type} (d : α) (xs : List α) : cpyD d xs xs.length = xs := by simp [cpyD]
theorem cpyD_set {α : Type} (d : α) (xs : List α) (i : Nat) (h : i < xs.length) : (cpyD d xs i).set i (xs.getD i d) = cpyD d xs (i + 1) := by
  unfold cpyD
  apply List.ext_getElem?
  intro j
  rw [List.getElem?_set]
  simp only [List.length_append, List.length_take, List.length_replicate]
  by_cases e : i = j
  · subst e
    rw [if_pos rfl, if_pos (by omega), List.getElem?_append_left (by simp; omega)]
    simp [List.getElem?_take, List.getD, h]
  · rw [if_neg e]
    by_cases h1 : j < i
    · rw [List.getElem?_append_left (by simp; omega), List.getElem?_append_left (by simp; omega)]
      simp [List.getElem?_take, h1, show j < i + 1 by omega]
    · rw [List.getElem?_append_right (by simp; omega), List.getElem?_append_right (by simp; omega)]
      simp only [List.length_take, List.getElem?_replicate]
      by_cases h2 : j < xs.length
      · rw [if_pos (by omega), if_pos (by omega)]
      · rw [if_neg (by omega), if_neg (by omega)]

noncomputable abbrev s_L_toByteA3 : Spec (Int × Int × Int) where
  args := fun x => [a3D x]
  res := fun x => a3D x

set_option maxRecDepth 20000 in
set_option maxHeartbeats 1000000 in
theorem ok_L_toByteA3 : FnOk Pr 32 s_L_toByteA3 := by
 refine fn_ok 1 0 T0_ok Go.Proofs.Try.func32 rfl (enters_of Go.Proofs.Try.func32 rfl rfl) (fun _ => rfl) (fun _ => rfl) (fun _ => rfl) ?_
 rintro ⟨a, b, c⟩ - C hP hN hm hG
 change awp C _ _ ⟨[(0, .val (.agg #[.int .u8 a, .int .u8 b, .int .u8 c]))], [], 0⟩
 refine awp_seq ?_
 refine r1 T0_ok hP hm hN ?_
 iterate 2 refine g1 ?_
 refine awp_seq ?_
 refine r1 T0_ok hP hm hN ?_
 refine g1 ?_
 refine awp_seq ?_
 refine awp_seq ?_
 refine r1 T0_ok hP hm hN ?_
 refine g1 ?_
 refine awp_block ?_
 refine awp_loop (fun n st => (n = 3 ∧ st = ⟨[(4, .val (.int .i64 0)), (1, .ptr 0 0 0), (2, .ptr 1 0 0), (3, .ptr 2 0 0)], [(2, ⟨44, 3, true, [[.val (.int .u8 0), .val (.int .u8 0), .val (.int .u8 0)]]⟩), (1, ⟨44, 3, true, [[.val (.int .u8 0), .val (.int .u8 0), .val (.int .u8 0)]]⟩), (0, ⟨44, 3, true, [[.val (.int .u8 a), .val (.int .u8 b), .val (.int .u8 c)]]⟩)], 3⟩) ∨ (n = 2 ∧ st = ⟨[(4, .val (.int .i64 1)), (1, .ptr 0 0 0), (2, .ptr 1 0 0), (3, .ptr 2 0 0)], [(2, ⟨44, 3, true, [[.val (.int .u8 a), .val (.int .u8 0), .val (.int .u8 0)]]⟩), (1, ⟨44, 3, true, [[.val (.int .u8 0), .val (.int .u8 0), .val (.int .u8 0)]]⟩), (0, ⟨44, 3, true, [[.val (.int .u8 a), .val (.int .u8 b), .val (.int .u8 c)]]⟩)], 3⟩) ∨ (n = 1 ∧ st = ⟨[(4, .val (.int .i64 2)), (1, .ptr 0 0 0), (2, .ptr 1 0 0), (3, .ptr 2 0 0)], [(2, ⟨44, 3, true, [[.val (.int .u8 a), .val (.int .u8 b), .val (.int .u8 0)]]⟩), (1, ⟨44, 3, true, [[.val (.int .u8 0), .val (.int .u8 0), .val (.int .u8 0)]]⟩), (0, ⟨44, 3, true, [[.val (.int .u8 a), .val (.int .u8 b), .val (.int .u8 c)]]⟩)], 3⟩) ∨ (n = 0 ∧ st = ⟨[(4, .val (.int .i64 3)), (1, .ptr 0 0 0), (2, .ptr 1 0 0), (3, .ptr 2 0 0)], [(2, ⟨44, 3, true, [[.val (.int .u8 a), .val (.int .u8 b), .val (.int .u8 c)]]⟩), (1, ⟨44, 3, true, [[.val (.int .u8 0), .val (.int .u8 0), .val (.int .u8 0)]]⟩), (0, ⟨44, 3, true, [[.val (.int .u8 a), .val (.int .u8 b), .val (.int .u8 c)]]⟩)], 3⟩)) 3 ⟨_, weak_sl (sub_cons rfl (sub_cons rfl (sub_cons rfl (sub_cons rfl (sub_nil))))), .inl ⟨rfl, rfl⟩⟩ ?_
 rintro n st (⟨rfl, rfl⟩ | ⟨rfl, rfl⟩ | ⟨rfl, rfl⟩ | ⟨rfl, rfl⟩)
 ·
  refine awp_seq ?_
  refine awp_seq ?_
  refine r1 T0_ok hP hm hN ?_
  iterate 2 refine g1 ?_
  refine awp_cond rfl (fun hc => ?_) (fun hc => absurd hc (by decide))
  refine awp_skip ?_
  refine awp_seq ?_
  refine awp_block ?_
  refine r1 T0_ok hP hm hN ?_
  iterate 6 refine g1 ?_
  refine r1 T0_ok hP hm hN ?_
  iterate 3 refine g1 ?_
  exact ⟨2, _, by omega, weak_sl (sub_cons rfl (sub_cons rfl (sub_cons rfl (sub_cons rfl (sub_nil))))), .inr (.inl ⟨rfl, rfl⟩)⟩
 ·
  refine awp_seq ?_
  refine awp_seq ?_
  refine r1 T0_ok hP hm hN ?_
  iterate 2 refine g1 ?_
  refine awp_cond rfl (fun hc => ?_) (fun hc => absurd hc (by decide))
  refine awp_skip ?_
  refine awp_seq ?_
  refine awp_block ?_
  refine r1 T0_ok hP hm hN ?_
  iterate 6 refine g1 ?_
  refine r1 T0_ok hP hm hN ?_
  iterate 3 refine g1 ?_
  exact ⟨1, _, by omega, weak_sl (sub_cons rfl (sub_cons rfl (sub_cons rfl (sub_cons rfl (sub_nil))))), .inr (.inr (.inl ⟨rfl, rfl⟩))⟩
 ·
  refine awp_seq ?_
  refine awp_seq ?_
  refine r1 T0_ok hP hm hN ?_
  iterate 2 refine g1 ?_
  refine awp_cond rfl (fun hc => ?_) (fun hc => absurd hc (by decide))
  refine awp_skip ?_
  refine awp_seq ?_
  refine awp_block ?_
  refine r1 T0_ok hP hm hN ?_
  iterate 6 refine g1 ?_
  refine r1 T0_ok hP hm hN ?_
  iterate 3 refine g1 ?_
  exact ⟨0, _, by omega, weak_sl (sub_cons rfl (sub_cons rfl (sub_cons rfl (sub_cons rfl (sub_nil))))), .inr (.inr (.inr (⟨rfl, rfl⟩)))⟩
 ·
  refine awp_seq ?_
  refine awp_seq ?_
  refine r1 T0_ok hP hm hN ?_
  iterate 2 refine g1 ?_
  refine awp_cond rfl (fun hc => absurd hc (by decide)) (fun hc => ?_)
  refine awp_exit ?_
  repeat refine thenA_exit ?_
  refine blockA_hit ?_
  refine awp_seq ?_
  refine r1 T0_ok hP hm hN ?_
  iterate 2 refine g1 ?_
  refine awp_ret ?_
  refine fin_mk [] rfl rfl ?_ trivial (by decide)
  rfl

noncomputable abbrev s_L_toBook : Spec Bk where
  args := fun x => [bkD x]
  res := fun x => bkD x

set_option maxRecDepth 20000 in
set_option maxHeartbeats 1000000 in
theorem ok_L_toBook : FnOk Pr 20 s_L_toBook := by
 refine fn_ok 1 0 T0_ok Go.Proofs.Try.func20 rfl (enters_of Go.Proofs.Try.func20 rfl rfl) (fun _ => rfl) (fun _ => rfl) (fun _ => rfl) ?_
 rintro x - C hP hN hm hG
 change awp C _ _ ⟨[(0, .val (.agg #[.int .i16 x.cls, .int .u8 x.m0, .int .u8 x.m1, .int .u8 x.m2, .int .i16 x.vol, .int .i16 x.wide, .int .i16 x.high, .int .i16 x.weight]))], [], 0⟩
 refine awp_seq ?_
 refine r1 T0_ok hP hm hN ?_
 iterate 2 refine g1 ?_
 refine awp_seq ?_
 refine r1 T0_ok hP hm hN ?_
 refine g1 ?_
 refine awp_seq ?_
 refine r1 T0_ok hP hm hN ?_
 iterate 4 refine g1 ?_
 refine awp_seq ?_
 refine r1 T0_ok hP hm hN ?_
 iterate 2 refine g1 ?_
 refine gc1 ?_ (call1 ok_L_toByteA3 (_, _, _) [])
 iterate 2 refine g1 ?_
 refine awp_seq ?_
 refine r1 T0_ok hP hm hN ?_
 iterate 4 refine g1 ?_
 refine awp_seq ?_
 refine r1 T0_ok hP hm hN ?_
 iterate 4 refine g1 ?_
 refine awp_seq ?_
 refine r1 T0_ok hP hm hN ?_
 iterate 4 refine g1 ?_
 refine awp_seq ?_
 refine r1 T0_ok hP hm hN ?_
 iterate 4 refine g1 ?_
 refine awp_seq ?_
 refine r1 T0_ok hP hm hN ?_
 iterate 2 refine g1 ?_
 refine awp_ret ?_
 refine fin_mk [] rfl rfl ?_ trivial (by decide)
 rfl

/-- One asks a after b. -/
theorem ask_and {p q : Prop} : ask (p ∧ q) = (ask p && ask q) := by
  by_cases h1 : p <;> by_cases h2 : q <;> simp [ask, h1, h2]

noncomputable abbrev s_L_eqByteA3 : Spec ((Int × Int × Int) × (Int × Int × Int)) where
  args := fun x => [a3D x.1, a3D x.2]
  res := fun x => .val (.bool (ask (x.1 = x.2)))

set_option maxRecDepth 20000 in
set_option maxHeartbeats 1000000 in
theorem ok_L_eqByteA3 : FnOk Pr 38 s_L_eqByteA3 := by
 refine fn_ok 2 0 T0_ok Go.Proofs.Try.func38 rfl (enters_of Go.Proofs.Try.func38 rfl rfl) (fun _ => rfl) (fun _ => rfl) (fun _ => rfl) ?_
 rintro ⟨⟨a, b, c⟩, a', b', c'⟩ - C hP hN hm hG
 change awp C _ _ ⟨[(0, .val (.agg #[.int .u8 a, .int .u8 b, .int .u8 c])), (1, .val (.agg #[.int .u8 a', .int .u8 b', .int .u8 c']))], [], 0⟩
 refine awp_seq ?_
 refine r1 T0_ok hP hm hN ?_
 iterate 3 refine g1 ?_
 refine awp_seq ?_
 refine awp_seq ?_
 refine r1 T0_ok hP hm hN ?_
 refine g1 ?_
 refine awp_block ?_
 refine awp_loop (fun n st => (n = 3 ∧ st = ⟨[(5, .val (.int .i64 0)), (2, .ptr 0 0 0), (3, .ptr 1 0 0)], [(1, ⟨44, 3, true, [[.val (.int .u8 a'), .val (.int .u8 b'), .val (.int .u8 c')]]⟩), (0, ⟨44, 3, true, [[.val (.int .u8 a), .val (.int .u8 b), .val (.int .u8 c)]]⟩)], 2⟩ ∧ True) ∨ (n = 2 ∧ st = ⟨[(5, .val (.int .i64 1)), (2, .ptr 0 0 0), (3, .ptr 1 0 0)], [(1, ⟨44, 3, true, [[.val (.int .u8 a'), .val (.int .u8 b'), .val (.int .u8 c')]]⟩), (0, ⟨44, 3, true, [[.val (.int .u8 a), .val (.int .u8 b), .val (.int .u8 c)]]⟩)], 2⟩ ∧ a = a') ∨ (n = 1 ∧ st = ⟨[(5, .val (.int .i64 2)), (2, .ptr 0 0 0), (3, .ptr 1 0 0)], [(1, ⟨44, 3, true, [[.val (.int .u8 a'), .val (.int .u8 b'), .val (.int .u8 c')]]⟩), (0, ⟨44, 3, true, [[.val (.int .u8 a), .val (.int .u8 b), .val (.int .u8 c)]]⟩)], 2⟩ ∧ a = a' ∧ b = b') ∨ (n = 0 ∧ st = ⟨[(5, .val (.int .i64 3)), (2, .ptr 0 0 0), (3, .ptr 1 0 0)], [(1, ⟨44, 3, true, [[.val (.int .u8 a'), .val (.int .u8 b'), .val (.int .u8 c')]]⟩), (0, ⟨44, 3, true, [[.val (.int .u8 a), .val (.int .u8 b), .val (.int .u8 c)]]⟩)], 2⟩ ∧ a = a' ∧ b = b' ∧ c = c')) 3 ⟨_, weak_sl (sub_cons rfl (sub_cons rfl (sub_cons rfl (sub_nil)))), .inl ⟨rfl, rfl, trivial⟩⟩ ?_
 rintro n st (⟨rfl, rfl, hf⟩ | ⟨rfl, rfl, hf⟩ | ⟨rfl, rfl, hf⟩ | ⟨rfl, rfl, hf⟩)
 ·
  refine awp_seq ?_
  refine awp_seq ?_
  refine r1 T0_ok hP hm hN ?_
  iterate 2 refine g1 ?_
  refine awp_cond rfl (fun hc => ?_) (fun hc => absurd hc (by decide))
  refine awp_skip ?_
  refine awp_seq ?_
  refine awp_block ?_
  refine awp_seq ?_
  refine awp_draw T0_ok hP hm hN Pr_mix [0, 1, 2, 3, 4, 5, 6, 7, 8, 9, 10, 11] [] _ rfl (by rfl) ?_
  iterate 7 refine d1 T0_ok ?_
  refine dreg_nil ?_
  refine awp_cond rfl (fun hc0 => ?_) (fun hc0 => ?_)
  ·
   refine awp_seq ?_
   refine r1 T0_ok hP hm hN ?_
   refine g1 ?_
   refine awp_ret ?_
   refine fin_mk [] rfl rfl ?_ trivial (by decide)
   show D.val (.bool (ask ((a, b, c) = (a', b', c')))) = D.val (.bool false)
   rw [ask_false (fun h => by simp only [Prod.mk.injEq] at h; simp_all)]
  ·
   refine awp_skip ?_
   refine r1 T0_ok hP hm hN ?_
   iterate 3 refine g1 ?_
   exact ⟨2, _, by omega, weak_sl (sub_cons rfl (sub_cons rfl (sub_cons rfl (sub_nil)))), .inr (.inl ⟨rfl, rfl, by simpa using hc0⟩)⟩
 ·
  refine awp_seq ?_
  refine awp_seq ?_
  refine r1 T0_ok hP hm hN ?_
  iterate 2 refine g1 ?_
  refine awp_cond rfl (fun hc => ?_) (fun hc => absurd hc (by decide))
  refine awp_skip ?_
  refine awp_seq ?_
  refine awp_block ?_
  refine awp_seq ?_
  refine awp_draw T0_ok hP hm hN Pr_mix [0, 1, 2, 3, 4, 5, 6, 7, 8, 9, 10, 11] [] _ rfl (by rfl) ?_
  iterate 7 refine d1 T0_ok ?_
  refine dreg_nil ?_
  refine awp_cond rfl (fun hc1 => ?_) (fun hc1 => ?_)
  ·
   refine awp_seq ?_
   refine r1 T0_ok hP hm hN ?_
   refine g1 ?_
   refine awp_ret ?_
   refine fin_mk [] rfl rfl ?_ trivial (by decide)
   show D.val (.bool (ask ((a, b, c) = (a', b', c')))) = D.val (.bool false)
   rw [ask_false (fun h => by simp only [Prod.mk.injEq] at h; simp_all)]
  ·
   refine awp_skip ?_
   refine r1 T0_ok hP hm hN ?_
   iterate 3 refine g1 ?_
   exact ⟨1, _, by omega, weak_sl (sub_cons rfl (sub_cons rfl (sub_cons rfl (sub_nil)))), .inr (.inr (.inl ⟨rfl, rfl, ⟨hf, by simpa using hc1⟩⟩))⟩
 ·
  refine awp_seq ?_
  refine awp_seq ?_
  refine r1 T0_ok hP hm hN ?_
  iterate 2 refine g1 ?_
  refine awp_cond rfl (fun hc => ?_) (fun hc => absurd hc (by decide))
  refine awp_skip ?_
  refine awp_seq ?_
  refine awp_block ?_
  refine awp_seq ?_
  refine awp_draw T0_ok hP hm hN Pr_mix [0, 1, 2, 3, 4, 5, 6, 7, 8, 9, 10, 11] [] _ rfl (by rfl) ?_
  iterate 7 refine d1 T0_ok ?_
  refine dreg_nil ?_
  refine awp_cond rfl (fun hc2 => ?_) (fun hc2 => ?_)
  ·
   refine awp_seq ?_
   refine r1 T0_ok hP hm hN ?_
   refine g1 ?_
   refine awp_ret ?_
   refine fin_mk [] rfl rfl ?_ trivial (by decide)
   show D.val (.bool (ask ((a, b, c) = (a', b', c')))) = D.val (.bool false)
   rw [ask_false (fun h => by simp only [Prod.mk.injEq] at h; simp_all)]
  ·
   refine awp_skip ?_
   refine r1 T0_ok hP hm hN ?_
   iterate 3 refine g1 ?_
   exact ⟨0, _, by omega, weak_sl (sub_cons rfl (sub_cons rfl (sub_cons rfl (sub_nil)))), .inr (.inr (.inr (⟨rfl, rfl, ⟨hf.1, hf.2, by simpa using hc2⟩⟩)))⟩
 ·
  refine awp_seq ?_
  refine awp_seq ?_
  refine r1 T0_ok hP hm hN ?_
  iterate 2 refine g1 ?_
  refine awp_cond rfl (fun hc => absurd hc (by decide)) (fun hc => ?_)
  refine awp_exit ?_
  repeat refine thenA_exit ?_
  refine blockA_hit ?_
  refine awp_seq ?_
  refine r1 T0_ok hP hm hN ?_
  refine g1 ?_
  refine awp_ret ?_
  refine fin_mk [] rfl rfl ?_ trivial (by decide)
  show D.val (.bool (ask ((a, b, c) = (a', b', c')))) = D.val (.bool true)
  rw [ask_true (by obtain ⟨rfl, rfl, rfl⟩ := hf; rfl)]

noncomputable abbrev s_L_eqBook : Spec (Bk × Bk) where
  args := fun x => [bkD x.1, bkD x.2]
  res := fun x => .val (.bool (ask (x.1 = x.2)))

set_option maxRecDepth 20000 in
set_option maxHeartbeats 1000000 in
theorem ok_L_eqBook : FnOk Pr 24 s_L_eqBook := by
 refine fn_ok 2 0 T0_ok Go.Proofs.Try.func24 rfl (enters_of Go.Proofs.Try.func24 rfl rfl) (fun _ => rfl) (fun _ => rfl) (fun _ => rfl) ?_
 rintro ⟨x, y⟩ - C hP hN hm hG
 change awp C _ _ ⟨[(0, .val (.agg #[.int .i16 x.cls, .int .u8 x.m0, .int .u8 x.m1, .int .u8 x.m2, .int .i16 x.vol, .int .i16 x.wide, .int .i16 x.high, .int .i16 x.weight])), (1, .val (.agg #[.int .i16 y.cls, .int .u8 y.m0, .int .u8 y.m1, .int .u8 y.m2, .int .i16 y.vol, .int .i16 y.wide, .int .i16 y.high, .int .i16 y.weight]))], [], 0⟩
 refine awp_seq ?_
 refine r1 T0_ok hP hm hN ?_
 iterate 3 refine g1 ?_
 refine awp_seq ?_
 refine awp_seq ?_
 refine r1 T0_ok hP hm hN ?_
 iterate 5 refine g1 ?_
 refine awp_cond rfl (fun hc0 => ?_) (fun hc0 => ?_)
 ·
  refine awp_seq ?_
  refine r1 T0_ok hP hm hN ?_
  refine g1 ?_
  refine awp_ret ?_
  refine fin_mk [] rfl rfl ?_ trivial (by decide)
  show D.val (.bool (ask (x = y))) = D.val (.bool false)
  rw [ask_false (fun h => by subst h; simp at hc0)]
 ·
  refine awp_skip ?_
  refine awp_seq ?_
  refine awp_seq ?_
  refine r1 T0_ok hP hm hN ?_
  iterate 4 refine g1 ?_
  refine gc1 ?_ (call1 ok_L_eqByteA3 ((_, _, _), (_, _, _)) [])
  refine g1 ?_
  refine awp_cond rfl (fun hc1 => ?_) (fun hc1 => ?_)
  ·
   refine awp_seq ?_
   refine r1 T0_ok hP hm hN ?_
   refine g1 ?_
   refine awp_ret ?_
   refine fin_mk [] rfl rfl ?_ trivial (by decide)
   show D.val (.bool (ask (x = y))) = D.val (.bool false)
   rw [ask_false (fun h => by subst h; simp [ask] at hc1)]
  ·
   refine awp_skip ?_
   refine awp_seq ?_
   refine awp_seq ?_
   refine r1 T0_ok hP hm hN ?_
   iterate 5 refine g1 ?_
   refine awp_cond rfl (fun hc2 => ?_) (fun hc2 => ?_)
   ·
    refine awp_seq ?_
    refine r1 T0_ok hP hm hN ?_
    refine g1 ?_
    refine awp_ret ?_
    refine fin_mk [] rfl rfl ?_ trivial (by decide)
    show D.val (.bool (ask (x = y))) = D.val (.bool false)
    rw [ask_false (fun h => by subst h; simp at hc2)]
   ·
    refine awp_skip ?_
    refine awp_seq ?_
    refine awp_seq ?_
    refine r1 T0_ok hP hm hN ?_
    iterate 5 refine g1 ?_
    refine awp_cond rfl (fun hc3 => ?_) (fun hc3 => ?_)
    ·
     refine awp_seq ?_
     refine r1 T0_ok hP hm hN ?_
     refine g1 ?_
     refine awp_ret ?_
     refine fin_mk [] rfl rfl ?_ trivial (by decide)
     show D.val (.bool (ask (x = y))) = D.val (.bool false)
     rw [ask_false (fun h => by subst h; simp at hc3)]
    ·
     refine awp_skip ?_
     refine awp_seq ?_
     refine awp_seq ?_
     refine r1 T0_ok hP hm hN ?_
     iterate 5 refine g1 ?_
     refine awp_cond rfl (fun hc4 => ?_) (fun hc4 => ?_)
     ·
      refine awp_seq ?_
      refine r1 T0_ok hP hm hN ?_
      refine g1 ?_
      refine awp_ret ?_
      refine fin_mk [] rfl rfl ?_ trivial (by decide)
      show D.val (.bool (ask (x = y))) = D.val (.bool false)
      rw [ask_false (fun h => by subst h; simp at hc4)]
     ·
      refine awp_skip ?_
      refine awp_seq ?_
      refine awp_seq ?_
      refine r1 T0_ok hP hm hN ?_
      iterate 5 refine g1 ?_
      refine awp_cond rfl (fun hc5 => ?_) (fun hc5 => ?_)
      ·
       refine awp_seq ?_
       refine r1 T0_ok hP hm hN ?_
       refine g1 ?_
       refine awp_ret ?_
       refine fin_mk [] rfl rfl ?_ trivial (by decide)
       show D.val (.bool (ask (x = y))) = D.val (.bool false)
       rw [ask_false (fun h => by subst h; simp at hc5)]
      ·
       refine awp_skip ?_
       refine awp_seq ?_
       refine r1 T0_ok hP hm hN ?_
       refine g1 ?_
       refine awp_ret ?_
       refine fin_mk [] rfl rfl ?_ trivial (by decide)
       show D.val (.bool (ask (x = y))) = D.val (.bool true)
       simp only [Bool.not_eq_false', ask_iff, Prod.mk.injEq, bne_eq_false_iff_eq] at hc0 hc1 hc2 hc3 hc4 hc5
       rw [ask_true (Bk.same hc0 hc1.1 hc1.2.1 hc1.2.2 hc2 hc3 hc4 hc5)]

noncomputable abbrev s_L_toBookS : Spec (List Bk) where
  args := fun xs => [.sl 8 (bks xs)]
  pre := fun xs => xs.length ≤ 1048576
  new := fun xs => [⟨46, 8, false, bks xs⟩]
  res := fun xs => .own 0

set_option maxRecDepth 20000 in
set_option maxHeartbeats 1000000 in
theorem ok_L_toBookS : FnOk Pr 7 s_L_toBookS := by
 refine fn_ok 1 0 T0_ok Go.Proofs.Try.func7 rfl (enters_of Go.Proofs.Try.func7 rfl rfl) (fun _ => rfl) (fun _ => rfl) (fun _ => rfl) ?_
 rintro xs hp C hP hN hm hG
 change awp C _ _ ⟨[(0, .sl 8 (bks xs))], [], 0⟩
 have hp : xs.length ≤ 1048576 := hp
 have xn1 := @List.length_replicate.{0}
 refine awp_seq ?_
 refine r1 T0_ok hP hm hN ?_
 refine g1 ?_
 refine awp_seq ?_
 refine r1 T0_ok hP hm hN ?_
 iterate 4 refine g1 ?_
 refine awp_seq ?_
 refine awp_seq ?_
 refine r1 T0_ok hP hm hN ?_
 refine g1 ?_
 refine awp_block ?_
 refine awp_loop (fun n st => ∃ i : Nat, i ≤ xs.length ∧ n = xs.length - i ∧ st = ⟨[(4, .val (.int .i64 (i : Nat))), (3, .own 0), (0, .sl 8 (bks xs))], [(0, ⟨46, 8, false, bks (cpyD bk0 xs i)⟩)], 1⟩) (xs.length) ⟨_, (by rw [cpyD_zero, bks_rep]; exact weak_sl (sub_cons rfl (sub_cons rfl (sub_cons rfl (sub_nil))))), 0, by omega, rfl, rfl⟩ ?_
 rintro n st ⟨i, hii, hni, rfl⟩
 refine awp_seq ?_
 refine awp_seq ?_
 refine r1 T0_ok hP hm hN ?_
 iterate 4 refine g1 ?_
 refine awp_cond rfl (fun hc0 => ?_) (fun hc0 => ?_)
 ·
  have hlti : i < xs.length := by simpa using hc0
  have hcl := cpyD_len bk0 xs i hii
  refine awp_skip ?_
  refine awp_seq ?_
  refine awp_block ?_
  refine r1 T0_ok hP hm hN ?_
  iterate 6 refine g1 ?_
  refine gc1 ?_ (call1 ok_L_toBook _ [])
  iterate 2 refine g1 ?_
  refine r1 T0_ok hP hm hN ?_
  iterate 3 refine g1 ?_
  refine ⟨xs.length - (i + 1), _, by omega, (by rw [← cpyD_set _ _ _ hlti, bks_set]; exact weak_sl (sub_cons rfl (sub_cons rfl (sub_cons rfl (sub_nil))))), i + 1, by omega, rfl, rfl⟩
 ·
  have hgei : ¬ i < xs.length := by simpa using hc0
  have heqi : i = xs.length := by omega
  rw [heqi, cpyD_all]
  refine awp_exit ?_
  repeat refine thenA_exit ?_
  refine blockA_hit ?_
  refine awp_seq ?_
  refine r1 T0_ok hP hm hN ?_
  iterate 2 refine g1 ?_
  refine awp_ret ?_
  refine fin_mk [0] rfl rfl ?_ (objs_cons rfl rfl rfl rfl rfl (.inl rfl) objs_nil) (by decide)
  rfl

noncomputable abbrev s_L_eqBookS : Spec (List Bk × List Bk) where
  args := fun x => [.sl 8 (bks x.1), .sl 8 (bks x.2)]
  pre := fun x => x.1.length ≤ 9223372036854775807 ∧ x.2.length ≤ 9223372036854775807
  res := fun x => .val (.bool (ask (x.1 = x.2)))

set_option maxRecDepth 20000 in
set_option maxHeartbeats 1000000 in
theorem ok_L_eqBookS : FnOk Pr 9 s_L_eqBookS := by
 refine fn_ok 2 0 T0_ok Go.Proofs.Try.func9 rfl (enters_of Go.Proofs.Try.func9 rfl rfl) (fun _ => rfl) (fun _ => rfl) (fun _ => rfl) ?_
 rintro ⟨xs, ys⟩ ⟨hp, hp2⟩ C hP hN hm hG
 change awp C _ _ ⟨[(0, .sl 8 (bks xs)), (1, .sl 8 (bks ys))], [], 0⟩
 simp only at hp hp2
 refine awp_seq ?_
 refine r1 T0_ok hP hm hN ?_
 refine g1 ?_
 refine awp_seq ?_
 refine awp_seq ?_
 refine r1 T0_ok hP hm hN ?_
 iterate 5 refine g1 ?_
 refine awp_cond rfl (fun hc0 => ?_) (fun hc0 => ?_)
 ·
  refine awp_seq ?_
  refine r1 T0_ok hP hm hN ?_
  refine g1 ?_
  refine awp_ret ?_
  refine fin_mk [] rfl rfl ?_ trivial (by decide)
  show D.val (.bool (ask (xs = ys))) = D.val (.bool false)
  rw [ask_false (fun h => by subst h; simp at hc0)]
 ·
  have hl : xs.length = ys.length := by simp at hc0; omega
  refine awp_skip ?_
  refine awp_seq ?_
  refine awp_seq ?_
  refine r1 T0_ok hP hm hN ?_
  refine g1 ?_
  refine awp_block ?_
  refine awp_loop (fun n st => ∃ i : Nat, i ≤ xs.length ∧ (∀ j, j < i → xs.getD j bk0 = ys.getD j bk0) ∧ n = xs.length - i ∧ st = ⟨[(5, .val (.int .i64 (i : Nat))), (0, .sl 8 (bks xs)), (1, .sl 8 (bks ys))], [], 0⟩) (xs.length) ⟨_, weak_sl (sub_cons rfl (sub_cons rfl (sub_cons rfl (sub_nil)))), 0, by omega, fun j h => by omega, rfl, rfl⟩ ?_
  rintro n st ⟨i, hii, hall, hni, rfl⟩
  refine awp_seq ?_
  refine awp_seq ?_
  refine r1 T0_ok hP hm hN ?_
  iterate 4 refine g1 ?_
  refine awp_cond rfl (fun hc1 => ?_) (fun hc1 => ?_)
  ·
   have hlti : i < xs.length := by simpa using hc1
   refine awp_skip ?_
   refine awp_seq ?_
   refine awp_block ?_
   refine awp_seq ?_
   refine awp_draw T0_ok hP hm hN Pr_mix [0, 1, 2, 3, 4, 5, 6, 7, 8, 9, 10, 11] [8] _ rfl (by rfl) ?_
   iterate 8 refine d1 T0_ok ?_
   refine dp1 ?_ (call1 ok_L_eqBook (_, _) [])
   refine d1 T0_ok ?_
   refine dreg_nil ?_
   refine awp_cond rfl (fun hc2 => ?_) (fun hc2 => ?_)
   ·
    refine awp_seq ?_
    refine r1 T0_ok hP hm hN ?_
    refine g1 ?_
    refine awp_ret ?_
    refine fin_mk [] rfl rfl ?_ trivial (by decide)
    show D.val (.bool (ask (xs = ys))) = D.val (.bool false)
    rw [ask_false (fun h => by subst h; simp [ask] at hc2)]
   ·
    refine awp_skip ?_
    refine r1 T0_ok hP hm hN ?_
    iterate 3 refine g1 ?_
    refine ⟨xs.length - (i + 1), _, by omega, weak_sl (sub_cons rfl (sub_cons rfl (sub_cons rfl (sub_nil)))), i + 1, by omega, upto_step hall (ask_iff.1 (by simpa using hc2)), rfl, rfl⟩
  ·
   have hgei : ¬ i < xs.length := by simpa using hc1
   have heqi : i = xs.length := by omega
   refine awp_exit ?_
   repeat refine thenA_exit ?_
   refine blockA_hit ?_
   refine awp_seq ?_
   refine r1 T0_ok hP hm hN ?_
   refine g1 ?_
   refine awp_ret ?_
   refine fin_mk [] rfl rfl ?_ trivial (by decide)
   show D.val (.bool (ask (xs = ys))) = D.val (.bool true)
   rw [ask_true (list_ext' (d := bk0) hl (fun j hj => hall j (by omega)))]

noncomputable abbrev s_L_szBookS : Spec (List Bk × Int) where
  args := fun x => [.sl 8 (bks x.1), .val (.int .i64 x.2)]
  pre := fun x => x.1.length ≤ 9223372036854775807 ∧ 0 ≤ x.2 ∧ x.2 ≤ 1048576
  res := fun x => .val (.int .i64 (if (x.1.length : Int) ≤ x.2 then x.2 - x.1.length else -1))

set_option maxRecDepth 20000 in
set_option maxHeartbeats 1000000 in
theorem ok_L_szBookS : FnOk Pr 5 s_L_szBookS := by
 refine fn_ok 2 0 T0_ok Go.Proofs.Try.func5 rfl (enters_of Go.Proofs.Try.func5 rfl rfl) (fun _ => rfl) (fun _ => rfl) (fun _ => rfl) ?_
 rintro ⟨xs, k⟩ ⟨hp, hk⟩ C hP hN hm hG
 change awp C _ _ ⟨[(0, .sl 8 (bks xs)), (1, .val (.int .i64 k))], [], 0⟩
 simp only at hp hk
 refine awp_seq ?_
 refine r1 T0_ok hP hm hN ?_
 refine g1 ?_
 refine awp_seq ?_
 refine r1 T0_ok hP hm hN ?_
 iterate 5 refine g1 ?_
 refine awp_seq ?_
 refine awp_seq ?_
 refine r1 T0_ok hP hm hN ?_
 iterate 2 refine g1 ?_
 refine awp_cond rfl (fun hc0 => ?_) (fun hc0 => ?_)
 ·
  refine awp_seq ?_
  refine r1 T0_ok hP hm hN ?_
  refine g1 ?_
  refine awp_ret ?_
  refine fin_mk [] rfl rfl ?_ trivial (by decide)
  simp only [decide_eq_true_eq] at hc0
  show D.val (.int .i64 (if (xs.length : Int) ≤ k then k - xs.length else -1)) = _
  rw [if_neg (by omega)]
  rfl
 ·
  refine awp_skip ?_
  refine awp_seq ?_
  refine r1 T0_ok hP hm hN ?_
  iterate 2 refine g1 ?_
  refine awp_ret ?_
  refine fin_mk [] rfl rfl ?_ trivial (by decide)
  simp only [decide_eq_false_iff_not] at hc0
  show D.val (.int .i64 (if (xs.length : Int) ≤ k then k - xs.length else -1)) = _
  rw [if_pos (by omega)]
  rfl
end Go.Proofs.Ytjkhgcmdcjdipaa.Abs
