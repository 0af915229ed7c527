import Derived.Test.YtpdkhlpmiblflaaGreatW6
set_option linter.unusedVariables false
set_option linter.unusedSimpArgs false
namespace Go.Proofs.YtpdkhlpmiblflaaGreat.Abs
open Go Go.RowKit
abbrev rowK (k : Bool) (z : Int) (b : Bk) : List D := match k with | true => plRow (z, b) | false => bkRow b
abbrev offK (k : Bool) : Nat := match k with | true => 1 | false => 0
def cmpI (a b : Int) : Int := if a < b then -1 else if a > b then 1 else 0
def cmp3 : List Int → List Int → Int
  | x :: xs, y :: ys => if cmpI x y != 0 then cmpI x y else cmp3 xs ys
  | _ :: _, [] => 1
  | [], _ :: _ => -1
  | [], [] => 0
abbrev marks (b : Bk) : List Int := [b.m0, b.m1, b.m2]
def cmpF (f : Int) (a b : Bk) : Int := if f == 1 then cmpI a.cls b.cls else if f == 2 then cmp3 (marks a) (marks b) else if f == 3 then cmpI a.vol b.vol else if f == 4 then cmpI a.wide b.wide else if f == 5 then cmpI a.high b.high else cmpI a.weight b.weight
def fldS (f : Int) : Int := if f < 0 then IntKind.i8.wrap (0 - f) else f
def cmpBy : List Int → Bk → Bk → Int
  | [], _, _ => 0
  | f :: os, a, b => if (if f < 0 then -cmpF (fldS f) a b else cmpF (fldS f) a b) != 0 then (if f < 0 then -cmpF (fldS f) a b else cmpF (fldS f) a b) else cmpBy os a b
abbrev i8D (n : Int) : D := .val (.int .i8 n)
abbrev usualO : List Int := [1, 2, 3]
abbrev cmpU (a b : Bk) : Int := cmpBy usualO a b
theorem cmpI_cases (a b : Int) : cmpI a b = -1 ∨ cmpI a b = 0 ∨ cmpI a b = 1 := by unfold cmpI; split; exact .inl rfl; split; exact .inr (.inr rfl); exact .inr (.inl rfl)
theorem cmp3_cases : ∀ xs ys : List Int, cmp3 xs ys = -1 ∨ cmp3 xs ys = 0 ∨ cmp3 xs ys = 1
  | [], [] => .inr (.inl rfl)
  | [], _ :: _ => .inl rfl
  | _ :: _, [] => .inr (.inr rfl)
  | x :: xs, y :: ys => by
    unfold cmp3
    split
    · exact cmpI_cases x y
    · exact cmp3_cases xs ys
theorem cmpF_cases (f : Int) (a b : Bk) : cmpF f a b = -1 ∨ cmpF f a b = 0 ∨ cmpF f a b = 1 := by
  unfold cmpF
  repeat' split
  all_goals first | exact cmpI_cases _ _ | exact cmp3_cases _ _
theorem cmpBy_drop {os : List Int} {i : Nat} (h : i < os.length) (a b : Bk) : cmpBy (os.drop i) a b = if (if os.getD i 0 < 0 then -cmpF (fldS (os.getD i 0)) a b else cmpF (fldS (os.getD i 0)) a b) != 0 then (if os.getD i 0 < 0 then -cmpF (fldS (os.getD i 0)) a b else cmpF (fldS (os.getD i 0)) a b) else cmpBy (os.drop (i + 1)) a b := by
  rw [List.drop_eq_getElem_cons h, cmpBy]
  simp [List.getD, h]

def small (n : Int) : Bool := inI n 97 122
def mark3 (x : Int × Int × Int) : Bool := [x.1, x.2.1, x.2.2].all small
def validB (b : Bk) : Bool := ((((inI b.cls 0 999 && mark3 (b.m0, b.m1, b.m2)) && inI b.vol 1 99) && inI b.wide 1 100) && inI b.high 50 400) && inI b.weight 1 9999
theorem small_no {n : Int} (h : (decide (n < 97) || decide (n > 122)) = true) : small n = false := by
  unfold small
  rw [Bool.eq_false_iff]
  intro h2
  rw [inI_iff] at h2
  simp at h
  omega
theorem small_yes {n : Int} (h : (decide (n < 97) || decide (n > 122)) = false) : small n = true := by
  simp at h
  unfold small
  rw [inI_iff]
  omega
def validBs (xs : List Bk) : Bool := decide ((xs.length : Int) ≤ 60) && xs.all validB

noncomputable abbrev s_S_l01Class : Spec Int where
  args := fun n => [.val (.int .i64 n)]
  res := fun n => .val (.bool (inI n 0 999))

set_option maxRecDepth 20000 in
set_option maxHeartbeats 1000000 in
theorem ok_S_l01Class : FnOk Pr 78 s_S_l01Class := by
 refine fn_ok 1 0 T0_ok Go.Proofs.Tryz.func78 rfl (enters_of Go.Proofs.Tryz.func78 rfl rfl) (fun _ => rfl) (fun _ => rfl) (fun _ => rfl) ?_
 rintro n - C hP hN hm hG
 change awp C _ _ ⟨[(0, .val (.int .i64 n))], [], 0⟩
 refine awp_seq ?_
 refine r1 T0_ok hP hm hN ?_
 refine g1 ?_
 refine awp_seq ?_
 refine r1 T0_ok hP hm hN ?_
 refine g1 ?_
 refine gc1 ?_ (call1 ok_S_l00In (_, _, _) [])
 refine g1 ?_
 refine awp_ret ?_
 refine fin_mk [] rfl rfl ?_ trivial (by decide)
 rfl

noncomputable abbrev s_S_l01Mark : Spec (Int × Int × Int) where
  args := fun x => [a3D x]
  res := fun x => .val (.bool (mark3 x))

set_option maxRecDepth 20000 in
set_option maxHeartbeats 1000000 in
theorem ok_S_l01Mark : FnOk Pr 79 s_S_l01Mark := by
 refine fn_ok 1 0 T0_ok Go.Proofs.Tryz.func79 rfl (enters_of Go.Proofs.Tryz.func79 rfl rfl) (fun _ => rfl) (fun _ => rfl) (fun _ => rfl) ?_
 rintro ⟨a, b, c⟩ - C hP hN hm hG
 change awp C _ _ ⟨[(0, .val (.agg #[.int .u8 a, .int .u8 b, .int .u8 c]))], [], 0⟩
 refine awp_seq ?_
 refine r1 T0_ok hP hm hN ?_
 iterate 2 refine g1 ?_
 refine awp_seq ?_
 refine awp_seq ?_
 refine r1 T0_ok hP hm hN ?_
 refine g1 ?_
 refine awp_block ?_
 refine awp_loop (fun n st => (n = 3 ∧ st = ⟨[(3, .val (.int .i64 0)), (1, .ptr 0 0 0)], [(0, ⟨71, 3, true, [[.val (.int .u8 a), .val (.int .u8 b), .val (.int .u8 c)]]⟩)], 1⟩ ∧ True) ∨ (n = 2 ∧ st = ⟨[(3, .val (.int .i64 1)), (1, .ptr 0 0 0)], [(0, ⟨71, 3, true, [[.val (.int .u8 a), .val (.int .u8 b), .val (.int .u8 c)]]⟩)], 1⟩ ∧ small a = true) ∨ (n = 1 ∧ st = ⟨[(3, .val (.int .i64 2)), (1, .ptr 0 0 0)], [(0, ⟨71, 3, true, [[.val (.int .u8 a), .val (.int .u8 b), .val (.int .u8 c)]]⟩)], 1⟩ ∧ small a = true ∧ small b = true) ∨ (n = 0 ∧ st = ⟨[(3, .val (.int .i64 3)), (1, .ptr 0 0 0)], [(0, ⟨71, 3, true, [[.val (.int .u8 a), .val (.int .u8 b), .val (.int .u8 c)]]⟩)], 1⟩ ∧ small a = true ∧ small b = true ∧ small c = true)) 3 ⟨_, weak_sl (sub_cons rfl (sub_cons rfl (sub_nil))), .inl ⟨rfl, rfl, trivial⟩⟩ ?_
 rintro n st (⟨rfl, rfl, hf⟩ | ⟨rfl, rfl, hf⟩ | ⟨rfl, rfl, hf⟩ | ⟨rfl, rfl, hf⟩)
 ·
  refine awp_seq ?_
  refine awp_seq ?_
  refine r1 T0_ok hP hm hN ?_
  iterate 2 refine g1 ?_
  refine awp_cond rfl (fun hc => ?_) (fun hc => absurd hc (by decide))
  refine awp_skip ?_
  refine awp_seq ?_
  refine awp_block ?_
  refine awp_seq ?_
  refine r1 T0_ok hP hm hN ?_
  iterate 5 refine g1 ?_
  iterate 4 refine gg1 ?_
  refine g1 ?_
  refine awp_cond rfl (fun hc0 => ?_) (fun hc0 => ?_)
  ·
   refine awp_seq ?_
   refine r1 T0_ok hP hm hN ?_
   refine g1 ?_
   refine awp_ret ?_
   refine fin_mk [] rfl rfl ?_ trivial (by decide)
   show D.val (.bool (mark3 (a, b, c))) = D.val (.bool false)
   rw [mark3]
   simp [small_no hc0]
  ·
   refine awp_skip ?_
   refine r1 T0_ok hP hm hN ?_
   iterate 3 refine g1 ?_
   exact ⟨2, _, by omega, weak_sl (sub_cons rfl (sub_cons rfl (sub_nil))), .inr (.inl ⟨rfl, rfl, small_yes hc0⟩)⟩
 ·
  refine awp_seq ?_
  refine awp_seq ?_
  refine r1 T0_ok hP hm hN ?_
  iterate 2 refine g1 ?_
  refine awp_cond rfl (fun hc => ?_) (fun hc => absurd hc (by decide))
  refine awp_skip ?_
  refine awp_seq ?_
  refine awp_block ?_
  refine awp_seq ?_
  refine r1 T0_ok hP hm hN ?_
  iterate 5 refine g1 ?_
  iterate 4 refine gg1 ?_
  refine g1 ?_
  refine awp_cond rfl (fun hc1 => ?_) (fun hc1 => ?_)
  ·
   refine awp_seq ?_
   refine r1 T0_ok hP hm hN ?_
   refine g1 ?_
   refine awp_ret ?_
   refine fin_mk [] rfl rfl ?_ trivial (by decide)
   show D.val (.bool (mark3 (a, b, c))) = D.val (.bool false)
   rw [mark3]
   simp [small_no hc1]
  ·
   refine awp_skip ?_
   refine r1 T0_ok hP hm hN ?_
   iterate 3 refine g1 ?_
   exact ⟨1, _, by omega, weak_sl (sub_cons rfl (sub_cons rfl (sub_nil))), .inr (.inr (.inl ⟨rfl, rfl, ⟨hf, small_yes hc1⟩⟩))⟩
 ·
  refine awp_seq ?_
  refine awp_seq ?_
  refine r1 T0_ok hP hm hN ?_
  iterate 2 refine g1 ?_
  refine awp_cond rfl (fun hc => ?_) (fun hc => absurd hc (by decide))
  refine awp_skip ?_
  refine awp_seq ?_
  refine awp_block ?_
  refine awp_seq ?_
  refine r1 T0_ok hP hm hN ?_
  iterate 5 refine g1 ?_
  iterate 4 refine gg1 ?_
  refine g1 ?_
  refine awp_cond rfl (fun hc2 => ?_) (fun hc2 => ?_)
  ·
   refine awp_seq ?_
   refine r1 T0_ok hP hm hN ?_
   refine g1 ?_
   refine awp_ret ?_
   refine fin_mk [] rfl rfl ?_ trivial (by decide)
   show D.val (.bool (mark3 (a, b, c))) = D.val (.bool false)
   rw [mark3]
   simp [small_no hc2]
  ·
   refine awp_skip ?_
   refine r1 T0_ok hP hm hN ?_
   iterate 3 refine g1 ?_
   exact ⟨0, _, by omega, weak_sl (sub_cons rfl (sub_cons rfl (sub_nil))), .inr (.inr (.inr (⟨rfl, rfl, ⟨hf.1, hf.2, small_yes hc2⟩⟩)))⟩
 ·
  refine awp_seq ?_
  refine awp_seq ?_
  refine r1 T0_ok hP hm hN ?_
  iterate 2 refine g1 ?_
  refine awp_cond rfl (fun hc => absurd hc (by decide)) (fun hc => ?_)
  refine awp_exit ?_
  repeat refine thenA_exit ?_
  refine blockA_hit ?_
  refine awp_seq ?_
  refine r1 T0_ok hP hm hN ?_
  refine g1 ?_
  refine awp_ret ?_
  refine fin_mk [] rfl rfl ?_ trivial (by decide)
  show D.val (.bool (mark3 (a, b, c))) = D.val (.bool true)
  rw [mark3]
  simp [hf]

noncomputable abbrev s_S_l01Book : Spec (Nat × List (List D) × Nat × Bool × Int × Bk) where
  args := fun x => [.rptr x.1 x.2.1 x.2.2.1 (offK x.2.2.2.1)]
  pre := fun x => x.2.1[x.2.2.1]? = some (rowK x.2.2.2.1 x.2.2.2.2.1 x.2.2.2.2.2) ∧ isBk x.2.2.2.2.2
  res := fun x => .val (.bool (validB x.2.2.2.2.2))

set_option maxRecDepth 20000 in
set_option maxHeartbeats 1000000 in
theorem ok_S_l01Book : FnOk Pr 56 s_S_l01Book := by
 refine fn_ok 1 0 T0_ok Go.Proofs.Tryz.func56 rfl (enters_of Go.Proofs.Tryz.func56 rfl rfl) (fun _ => rfl) (fun _ => rfl) (fun _ => rfl) ?_
 rintro ⟨sz, rows, i, k, z, x⟩ ⟨hrow, hb⟩ C hP hN hm hG
 cases k
 ·
  change awp C _ _ ⟨[(0, .rptr sz rows i 0)], [], 0⟩
  have hrow : rows[i]? = some (bkRow x) := hrow
  obtain ⟨hb_0, hb_1, hb_2, hb_3, hb_4, hb_5, hb_6, hb_7⟩ := hb
  have hb_0 : -32768 ≤ x.cls ∧ x.cls ≤ 32767 := hb_0
  have hb_1 : 0 ≤ x.m0 ∧ x.m0 ≤ 255 := hb_1
  have hb_2 : 0 ≤ x.m1 ∧ x.m1 ≤ 255 := hb_2
  have hb_3 : 0 ≤ x.m2 ∧ x.m2 ≤ 255 := hb_3
  have hb_4 : -32768 ≤ x.vol ∧ x.vol ≤ 32767 := hb_4
  have hb_5 : -32768 ≤ x.wide ∧ x.wide ≤ 32767 := hb_5
  have hb_6 : -32768 ≤ x.high ∧ x.high ≤ 32767 := hb_6
  have hb_7 : -32768 ≤ x.weight ∧ x.weight ≤ 32767 := hb_7
  refine awp_seq ?_
  refine r1 T0_ok hP hm hN ?_
  refine g1 ?_
  refine awp_seq ?_
  refine awp_seq ?_
  refine r1 T0_ok hP hm hN ?_
  iterate 5 refine g1 ?_
  refine gc1 ?_ (call1 ok_S_l01Class _ [])
  iterate 2 refine g1 ?_
  iterate 4 refine gg1 ?_
  refine ggc1 ?_ (hs := by intro hb; simp +decide only [hb, gd_tt, gd_ff, beq_self_eq_true, Bool.true_and, beq_true]; exact ⟨rfl, _, call1 ok_S_l01Mark (_, _, _) [], rfl, rfl, rfl⟩)
  refine gg1 ?_
  iterate 2 refine g1 ?_
  iterate 5 refine gg1 ?_
  refine ggc1 ?_ (hs := by intro hb; simp +decide only [hb, gd_tt, gd_ff, beq_self_eq_true, Bool.true_and, beq_true]; exact ⟨rfl, _, call1 ok_S_l00In (_, _, _) [], rfl, rfl, rfl⟩)
  refine gg1 ?_
  refine g1 ?_
  refine awp_cond rfl (fun hc0 => ?_) (fun hc0 => ?_)
  ·
   refine awp_seq ?_
   refine r1 T0_ok hP hm hN ?_
   refine g1 ?_
   refine awp_ret ?_
   refine fin_mk [] rfl rfl ?_ trivial (by decide)
   show D.val (.bool (validB x)) = D.val (.bool false)
   rw [validB]; revert hc0; cases inI x.cls 0 999 <;> cases mark3 (x.m0, x.m1, x.m2) <;> cases inI x.vol 1 99 <;> simp
  ·
   refine awp_skip ?_
   refine awp_seq ?_
   refine r1 T0_ok hP hm hN ?_
   iterate 5 refine g1 ?_
   refine gc1 ?_ (call1 ok_S_l00In (_, _, _) [])
   refine g1 ?_
   iterate 5 refine gg1 ?_
   refine ggc1 ?_ (hs := by intro hb; simp +decide only [hb, gd_tt, gd_ff, beq_self_eq_true, Bool.true_and, beq_true]; exact ⟨rfl, _, call1 ok_S_l00In (_, _, _) [], rfl, rfl, rfl⟩)
   iterate 2 refine g1 ?_
   iterate 5 refine gg1 ?_
   refine ggc1 ?_ (hs := by intro hb; simp +decide only [hb, gd_tt, gd_ff, beq_self_eq_true, Bool.true_and, beq_true]; exact ⟨rfl, _, call1 ok_S_l00In (_, _, _) [], rfl, rfl, rfl⟩)
   iterate 2 refine g1 ?_
   refine awp_ret ?_
   refine fin_mk [] rfl rfl ?_ trivial (by decide)
   show D.val (.bool (validB x)) = D.val (.bool ((inI x.wide 1 100 && inI x.high 50 400) && inI x.weight 1 9999))
   rw [validB]; revert hc0; cases inI x.cls 0 999 <;> cases mark3 (x.m0, x.m1, x.m2) <;> cases inI x.vol 1 99 <;> simp
 ·
  change awp C _ _ ⟨[(0, .rptr sz rows i 1)], [], 0⟩
  have hrow : rows[i]? = some (plRow (z, x)) := hrow
  obtain ⟨hb_0, hb_1, hb_2, hb_3, hb_4, hb_5, hb_6, hb_7⟩ := hb
  have hb_0 : -32768 ≤ x.cls ∧ x.cls ≤ 32767 := hb_0
  have hb_1 : 0 ≤ x.m0 ∧ x.m0 ≤ 255 := hb_1
  have hb_2 : 0 ≤ x.m1 ∧ x.m1 ≤ 255 := hb_2
  have hb_3 : 0 ≤ x.m2 ∧ x.m2 ≤ 255 := hb_3
  have hb_4 : -32768 ≤ x.vol ∧ x.vol ≤ 32767 := hb_4
  have hb_5 : -32768 ≤ x.wide ∧ x.wide ≤ 32767 := hb_5
  have hb_6 : -32768 ≤ x.high ∧ x.high ≤ 32767 := hb_6
  have hb_7 : -32768 ≤ x.weight ∧ x.weight ≤ 32767 := hb_7
  refine awp_seq ?_
  refine r1 T0_ok hP hm hN ?_
  refine g1 ?_
  refine awp_seq ?_
  refine awp_seq ?_
  refine r1 T0_ok hP hm hN ?_
  iterate 5 refine g1 ?_
  refine gc1 ?_ (call1 ok_S_l01Class _ [])
  iterate 2 refine g1 ?_
  iterate 4 refine gg1 ?_
  refine ggc1 ?_ (hs := by intro hb; simp +decide only [hb, gd_tt, gd_ff, beq_self_eq_true, Bool.true_and, beq_true]; exact ⟨rfl, _, call1 ok_S_l01Mark (_, _, _) [], rfl, rfl, rfl⟩)
  refine gg1 ?_
  iterate 2 refine g1 ?_
  iterate 5 refine gg1 ?_
  refine ggc1 ?_ (hs := by intro hb; simp +decide only [hb, gd_tt, gd_ff, beq_self_eq_true, Bool.true_and, beq_true]; exact ⟨rfl, _, call1 ok_S_l00In (_, _, _) [], rfl, rfl, rfl⟩)
  refine gg1 ?_
  refine g1 ?_
  refine awp_cond rfl (fun hc0 => ?_) (fun hc0 => ?_)
  ·
   refine awp_seq ?_
   refine r1 T0_ok hP hm hN ?_
   refine g1 ?_
   refine awp_ret ?_
   refine fin_mk [] rfl rfl ?_ trivial (by decide)
   show D.val (.bool (validB x)) = D.val (.bool false)
   rw [validB]; revert hc0; cases inI x.cls 0 999 <;> cases mark3 (x.m0, x.m1, x.m2) <;> cases inI x.vol 1 99 <;> simp
  ·
   refine awp_skip ?_
   refine awp_seq ?_
   refine r1 T0_ok hP hm hN ?_
   iterate 5 refine g1 ?_
   refine gc1 ?_ (call1 ok_S_l00In (_, _, _) [])
   refine g1 ?_
   iterate 5 refine gg1 ?_
   refine ggc1 ?_ (hs := by intro hb; simp +decide only [hb, gd_tt, gd_ff, beq_self_eq_true, Bool.true_and, beq_true]; exact ⟨rfl, _, call1 ok_S_l00In (_, _, _) [], rfl, rfl, rfl⟩)
   iterate 2 refine g1 ?_
   iterate 5 refine gg1 ?_
   refine ggc1 ?_ (hs := by intro hb; simp +decide only [hb, gd_tt, gd_ff, beq_self_eq_true, Bool.true_and, beq_true]; exact ⟨rfl, _, call1 ok_S_l00In (_, _, _) [], rfl, rfl, rfl⟩)
   iterate 2 refine g1 ?_
   refine awp_ret ?_
   refine fin_mk [] rfl rfl ?_ trivial (by decide)
   show D.val (.bool (validB x)) = D.val (.bool ((inI x.wide 1 100 && inI x.high 50 400) && inI x.weight 1 9999))
   rw [validB]; revert hc0; cases inI x.cls 0 999 <;> cases mark3 (x.m0, x.m1, x.m2) <;> cases inI x.vol 1 99 <;> simp

noncomputable abbrev s_S_l01Ok : Spec (List Bk) where
  args := fun xs => [.sl 8 (bks xs)]
  pre := fun xs => (∀ b ∈ xs, isBk b) ∧ xs.length ≤ 9223372036854775807
  res := fun xs => .val (.bool (validBs xs))

set_option maxRecDepth 20000 in
set_option maxHeartbeats 1000000 in
theorem ok_S_l01Ok : FnOk Pr 32 s_S_l01Ok := by
 refine fn_ok 1 0 T0_ok Go.Proofs.Tryz.func32 rfl (enters_of Go.Proofs.Tryz.func32 rfl rfl) (fun _ => rfl) (fun _ => rfl) (fun _ => rfl) ?_
 rintro xs ⟨hv, hl⟩ C hP hN hm hG
 change awp C _ _ ⟨[(0, .sl 8 (bks xs))], [], 0⟩
 refine awp_seq ?_
 refine r1 T0_ok hP hm hN ?_
 refine g1 ?_
 refine awp_seq ?_
 refine awp_seq ?_
 refine r1 T0_ok hP hm hN ?_
 refine g1 ?_
 refine awp_block ?_
 refine awp_loop (fun n st => ∃ i : Nat, i ≤ xs.length ∧ (∀ j, j < i → validB (xs.getD j bk0) = true) ∧ n = xs.length - i ∧ st = ⟨[(3, .val (.int .i64 (i : Nat))), (0, .sl 8 (bks xs))], [], 0⟩) (xs.length) ⟨_, weak_sl (sub_cons rfl (sub_cons rfl (sub_nil))), 0, by omega, fun j h => by omega, rfl, rfl⟩ ?_
 rintro n st ⟨i, hii, hall, hni, rfl⟩
 refine awp_seq ?_
 refine awp_seq ?_
 refine r1 T0_ok hP hm hN ?_
 iterate 4 refine g1 ?_
 refine awp_cond rfl (fun hc0 => ?_) (fun hc0 => ?_)
 ·
  have hlti : i < xs.length := by simpa using hc0
  refine awp_skip ?_
  refine awp_seq ?_
  refine awp_block ?_
  refine awp_seq ?_
  refine r1 T0_ok hP hm hN ?_
  iterate 3 refine g1 ?_
  refine gc1 ?_ (call1 ok_S_l01Book (_, _, _, false, 0, _) [] (hpre := by (try dsimp only); exact ⟨bks_get _ _ (by omega), hv _ (getD_mem' (by omega))⟩))
  refine g1 ?_
  refine awp_cond rfl (fun hc1 => ?_) (fun hc1 => ?_)
  ·
   refine awp_seq ?_
   refine r1 T0_ok hP hm hN ?_
   refine g1 ?_
   refine awp_ret ?_
   refine fin_mk [] rfl rfl ?_ trivial (by decide)
   show D.val (.bool (validBs xs)) = D.val (.bool false)
   rw [validBs, all_false (d := bk0) hlti (by simpa using hc1), Bool.and_false]
  ·
   refine awp_skip ?_
   refine r1 T0_ok hP hm hN ?_
   iterate 3 refine g1 ?_
   refine ⟨xs.length - (i + 1), _, by omega, weak_sl (sub_cons rfl (sub_cons rfl (sub_nil))), i + 1, by omega, upto_step hall (by simpa using hc1), rfl, rfl⟩
 ·
  have hgei : ¬ i < xs.length := by simpa using hc0
  have heqi : i = xs.length := by omega
  refine awp_exit ?_
  repeat refine thenA_exit ?_
  refine blockA_hit ?_
  refine awp_seq ?_
  refine r1 T0_ok hP hm hN ?_
  iterate 4 refine g1 ?_
  refine awp_ret ?_
  refine fin_mk [] rfl rfl ?_ trivial (by decide)
  show D.val (.bool (validBs xs)) = D.val (.bool (decide ((xs.length : Int) ≤ 60)))
  rw [validBs, all_true (d := bk0) (fun j hj => hall j (by omega)), Bool.and_true]

noncomputable abbrev s_slices_IndexFunc_byte_byte : Spec (List Int × D × (Int → Bool)) where
  args := fun x => [.sl 1 (ints .u8 x.1), x.2.1]
  pre := fun x => x.1.length ≤ 9223372036854775807 ∧ Says u8D (· ∈ x.1) x.2.2 x.2.1
  res := fun x => .val (.int .i64 (idxOf x.2.2 x.1))

set_option maxRecDepth 20000 in
set_option maxHeartbeats 1000000 in
theorem ok_slices_IndexFunc_byte_byte : FnOk Pr 118 s_slices_IndexFunc_byte_byte := by
 refine fn_ok 2 0 T0_ok Go.Proofs.Tryz.func118 rfl (enters_of Go.Proofs.Tryz.func118 rfl rfl) (fun _ => rfl) (fun _ => rfl) (fun _ => rfl) ?_
 rintro ⟨xs, fn, p⟩ ⟨hp, hask⟩ C hP hN hm hG
 change awp C _ _ ⟨[(0, .sl 1 (ints .u8 xs)), (1, fn)], [], 0⟩
 simp only at hp hask
 refine awp_seq ?_
 refine r1 T0_ok hP hm hN ?_
 refine g1 ?_
 refine awp_seq ?_
 refine awp_seq ?_
 refine r1 T0_ok hP hm hN ?_
 iterate 3 refine g1 ?_
 refine awp_block ?_
 refine awp_loop (fun n st => ∃ i : Nat, i ≤ xs.length ∧ (∀ j, j < i → p (xs.getD j 0) = false) ∧ n = xs.length - i ∧ st = ⟨[(8, .val (.int .i64 (i : Nat))), (7, .val (.int .i64 (xs.length : Nat))), (0, .sl 1 (ints .u8 xs)), (1, fn)], [], 0⟩) (xs.length) ⟨_, weak_sl (sub_cons rfl (sub_cons rfl (sub_cons rfl (sub_cons rfl (sub_nil))))), 0, by omega, fun j h1 => by omega, rfl, rfl⟩ ?_
 rintro n st ⟨i, hii, hall, hni, rfl⟩
 refine awp_seq ?_
 refine r1 T0_ok hP hm hN ?_
 refine g1 ?_
 refine awp_seq ?_
 refine awp_cond rfl (fun hc0 => ?_) (fun hc0 => ?_)
 ·
  have hlti : i < xs.length := by simpa using hc0
  refine awp_skip ?_
  refine awp_seq ?_
  refine awp_block ?_
  refine awp_seq ?_
  refine r1 T0_ok hP hm hN ?_
  iterate 2 refine g1 ?_
  refine awp_seq ?_
  refine r1 T0_ok hP hm hN ?_
  iterate 5 refine g1 ?_
  refine gc1 ?_ (OpRel.does hask _ (by first | exact getD_mem' hlti | exact hn) rfl rfl rfl rfl rfl rfl)
  refine awp_cond rfl (fun hc1 => ?_) (fun hc1 => ?_)
  ·
   refine awp_seq ?_
   refine r1 T0_ok hP hm hN ?_
   iterate 2 refine g1 ?_
   refine awp_ret ?_
   refine fin_mk [] rfl rfl ?_ trivial (by decide)
   show D.val (.int .i64 (idxOf p xs)) = _
   rw [idxOf_some (d := 0) hlti hc1 (fun j hj => hall j hj)]
   rfl
  ·
   refine awp_skip ?_
   refine r1 T0_ok hP hm hN ?_
   iterate 2 refine g1 ?_
   refine ⟨xs.length - (i + 1), _, by omega, weak_sl (sub_cons rfl (sub_cons rfl (sub_cons rfl (sub_cons rfl (sub_nil))))), i + 1, by omega, upto_step hall hc1, rfl, rfl⟩
 ·
  have hgei : ¬ i < xs.length := by simpa using hc0
  have heqi : i = xs.length := by omega
  refine awp_exit ?_
  repeat refine thenA_exit ?_
  refine blockA_hit ?_
  refine awp_seq ?_
  refine r1 T0_ok hP hm hN ?_
  refine g1 ?_
  refine awp_ret ?_
  refine fin_mk [] rfl rfl ?_ trivial (by decide)
  show D.val (.int .i64 (idxOf p xs)) = _
  rw [idxOf_none (d := 0) (fun j hj => hall j (by omega))]
  rfl

noncomputable abbrev s_slices_ContainsFunc_byte_byte : Spec (List Int × D × (Int → Bool)) where
  args := fun x => [.sl 1 (ints .u8 x.1), x.2.1]
  pre := fun x => x.1.length ≤ 9223372036854775807 ∧ Says u8D (· ∈ x.1) x.2.2 x.2.1
  res := fun x => .val (.bool (x.1.any x.2.2))

set_option maxRecDepth 20000 in
set_option maxHeartbeats 1000000 in
theorem ok_slices_ContainsFunc_byte_byte : FnOk Pr 104 s_slices_ContainsFunc_byte_byte := by
 refine fn_ok 2 0 T0_ok Go.Proofs.Tryz.func104 rfl (enters_of Go.Proofs.Tryz.func104 rfl rfl) (fun _ => rfl) (fun _ => rfl) (fun _ => rfl) ?_
 rintro ⟨xs, fn, p⟩ hp C hP hN hm hG
 change awp C _ _ ⟨[(0, .sl 1 (ints .u8 xs)), (1, fn)], [], 0⟩
 refine awp_seq ?_
 refine r1 T0_ok hP hm hN ?_
 refine g1 ?_
 refine awp_seq ?_
 refine r1 T0_ok hP hm hN ?_
 iterate 2 refine g1 ?_
 refine gc1 ?_ (call1 ok_slices_IndexFunc_byte_byte (_, _, p) [] (hargs := (by exact args_cons arga_slsl (args_cons (arga_does (by exact hp.2)) args_nil))) (hpre := by (try dsimp only); exact hp))
 iterate 2 refine g1 ?_
 refine awp_ret ?_
 refine fin_mk [] rfl rfl ?_ trivial (by decide)
 show D.val (.bool (xs.any p)) = _
 rw [← idxOf_any]
 rfl

noncomputable abbrev s_I_areAll_byte_1 (fn : D) (dom : Int → Prop) (p : Int → Bool) : Spec Int where
  args := fun n => [u8D n, .rptr 1 [[fn]] 0 0]
  pre := fun n => dom n
  res := fun n => .val (.bool (!p n))

set_option maxRecDepth 20000 in
set_option maxHeartbeats 1000000 in
theorem ok_I_areAll_byte_1 (fn : D) (dom : Int → Prop) (p : Int → Bool) (hask : Says u8D dom p fn) : FnOk Pr 105 (s_I_areAll_byte_1 fn dom p) := by
 refine fn_ok 2 0 T0_ok Go.Proofs.Tryz.func105 rfl (enters_of Go.Proofs.Tryz.func105 rfl rfl) (fun _ => rfl) (fun _ => rfl) (fun _ => rfl) ?_
 rintro n hn C hP hN hm hG
 change awp C _ _ ⟨[(0, u8D n), (1, .rptr 1 [[fn]] 0 0)], [], 0⟩
 refine awp_seq ?_
 refine r1 T0_ok hP hm hN ?_
 refine g1 ?_
 refine awp_seq ?_
 refine r1 T0_ok hP hm hN ?_
 iterate 2 refine g1 ?_
 refine gc1 ?_ (OpRel.does hask _ (by first | exact getD_mem' hlti | exact hn) rfl rfl rfl rfl rfl rfl)
 iterate 2 refine g1 ?_
 refine awp_ret ?_
 refine fin_mk [] rfl rfl ?_ trivial (by decide)
 rfl

theorem says_not_uint8 {fn : D} {dom : Int → Prop} {p : Int → Bool} (h : Says u8D dom p fn) : Says u8D dom (fun n => !p n) (.clo (.func 105) [.rptr 1 [[fn]] 0 0]) :=
  ⟨105, [], [.rptr 1 [[fn]] 0 0], s_I_areAll_byte_1 fn dom p, rfl, rfl, rfl, ok_I_areAll_byte_1 fn dom p h, fun _ => rfl, fun _ h => h, fun _ => rfl, fun _ => rfl, fun _ => rfl, fun _ => rfl⟩

noncomputable abbrev s_I_areAll_byte : Spec (List Int × D × (Int → Bool)) where
  args := fun x => [.sl 1 (ints .u8 x.1), x.2.1]
  pre := fun x => x.1.length ≤ 9223372036854775807 ∧ fnCell x.2.1 = true ∧ Says u8D (· ∈ x.1) x.2.2 x.2.1
  res := fun x => .val (.bool (x.1.all x.2.2))

set_option maxRecDepth 20000 in
set_option maxHeartbeats 1000000 in
theorem ok_I_areAll_byte : FnOk Pr 83 s_I_areAll_byte := by
 refine fn_ok 2 0 T0_ok Go.Proofs.Tryz.func83 rfl (enters_of Go.Proofs.Tryz.func83 rfl rfl) (fun _ => rfl) (fun _ => rfl) (fun _ => rfl) ?_
 rintro ⟨xs, fn, p⟩ ⟨hp, hf0, hask⟩ C hP hN hm hG
 change awp C _ _ ⟨[(0, .sl 1 (ints .u8 xs)), (1, fn)], [], 0⟩
 simp only at hp hf0 hask
 obtain ⟨hdc, hcl, hhf, hsf⟩ := fnCell_ok hf0
 have xn1 := hdc
 refine awp_seq ?_
 refine r1 T0_ok hP hm hN ?_
 refine g1 ?_ (hpre := by exact hcl)
 refine g1 ?_
 refine awp_seq ?_
 refine r1 T0_ok hP hm hN ?_
 iterate 2 refine g1 ?_
 refine gc1 ?_ (call1 ok_slices_ContainsFunc_byte_byte (_, _, fun n => !p n) [] (hpre := by (try dsimp only); exact ⟨hp, says_not_uint8 hask⟩))
 iterate 2 refine g1 ?_
 refine awp_ret ?_
 refine fin_mk [] rfl rfl ?_ trivial (by decide)
 show D.val (.bool (xs.all p)) = _
 rw [← any_not]
 rfl

noncomputable abbrev s_I_isSmall : Spec Int where
  args := fun n => [u8D n]
  res := fun n => .val (.bool (small n))

set_option maxRecDepth 20000 in
set_option maxHeartbeats 1000000 in
theorem ok_I_isSmall : FnOk Pr 84 s_I_isSmall := by
 refine fn_ok 1 0 T0_ok Go.Proofs.Tryz.func84 rfl (enters_of Go.Proofs.Tryz.func84 rfl rfl) (fun _ => rfl) (fun _ => rfl) (fun _ => rfl) ?_
 rintro n - C hP hN hm hG
 change awp C _ _ ⟨[(0, u8D n)], [], 0⟩
 refine awp_seq ?_
 refine r1 T0_ok hP hm hN ?_
 refine g1 ?_
 refine awp_seq ?_
 refine r1 T0_ok hP hm hN ?_
 iterate 3 refine g1 ?_
 iterate 2 refine gg1 ?_
 iterate 2 refine g1 ?_
 refine awp_ret ?_
 refine fin_mk [] rfl rfl ?_ trivial (by decide)
 rfl

theorem says_small (dom : Int → Prop) : Says u8D dom small (.val (.func (.func 84) #[] #[])) :=
  ⟨84, [], [], s_I_isSmall, rfl, rfl, rfl, ok_I_isSmall, fun _ => rfl, fun _ _ => trivial, fun _ => rfl, fun _ => rfl, fun _ => rfl, fun _ => rfl⟩

noncomputable abbrev s_I_ValidBook : Spec Bk where
  args := fun x => [bkD x]
  res := fun x => .val (.bool (validB x))

set_option maxRecDepth 20000 in
set_option maxHeartbeats 1000000 in
theorem ok_I_ValidBook : FnOk Pr 60 s_I_ValidBook := by
 refine fn_ok 1 0 T0_ok Go.Proofs.Tryz.func60 rfl (enters_of Go.Proofs.Tryz.func60 rfl rfl) (fun _ => rfl) (fun _ => rfl) (fun _ => rfl) ?_
 rintro x - C hP hN hm hG
 change awp C _ _ ⟨[(0, .val (.agg #[.int .i16 x.cls, .int .u8 x.m0, .int .u8 x.m1, .int .u8 x.m2, .int .i16 x.vol, .int .i16 x.wide, .int .i16 x.high, .int .i16 x.weight]))], [], 0⟩
 refine awp_seq ?_
 refine r1 T0_ok hP hm hN ?_
 iterate 2 refine g1 ?_
 refine awp_seq ?_
 refine r1 T0_ok hP hm hN ?_
 iterate 2 refine g1 ?_
 refine gc1 ?_ (call1 ok_I_within_int16 (_, _, _) [])
 refine g1 ?_
 iterate 2 refine gg1 ?_
 refine ggc1 ?_ (hs := by intro hb; simp +decide only [hb, gd_tt, gd_ff, beq_self_eq_true, Bool.true_and, beq_true]; exact ⟨rfl, _, call1 ok_I_areAll_byte ([x.m0, x.m1, x.m2], .val (.func (.func 84) #[] #[]), small) [] (hpre := by (try dsimp only); exact ⟨by simp, rfl, says_small _⟩), rfl, rfl, rfl⟩)
 iterate 2 refine g1 ?_
 iterate 2 refine gg1 ?_
 refine ggc1 ?_ (hs := by intro hb; simp +decide only [hb, gd_tt, gd_ff, beq_self_eq_true, Bool.true_and, beq_true]; exact ⟨rfl, _, call1 ok_I_within_int16 (_, _, _) [], rfl, rfl, rfl⟩)
 iterate 2 refine g1 ?_
 iterate 2 refine gg1 ?_
 refine ggc1 ?_ (hs := by intro hb; simp +decide only [hb, gd_tt, gd_ff, beq_self_eq_true, Bool.true_and, beq_true]; exact ⟨rfl, _, call1 ok_I_within_int16 (_, _, _) [], rfl, rfl, rfl⟩)
 iterate 2 refine g1 ?_
 iterate 2 refine gg1 ?_
 refine ggc1 ?_ (hs := by intro hb; simp +decide only [hb, gd_tt, gd_ff, beq_self_eq_true, Bool.true_and, beq_true]; exact ⟨rfl, _, call1 ok_I_within_int16 (_, _, _) [], rfl, rfl, rfl⟩)
 iterate 2 refine g1 ?_
 iterate 2 refine gg1 ?_
 refine ggc1 ?_ (hs := by intro hb; simp +decide only [hb, gd_tt, gd_ff, beq_self_eq_true, Bool.true_and, beq_true]; exact ⟨rfl, _, call1 ok_I_within_int16 (_, _, _) [], rfl, rfl, rfl⟩)
 iterate 2 refine g1 ?_
 refine awp_ret ?_
 refine fin_mk [] rfl rfl ?_ trivial (by decide)
 rfl

noncomputable abbrev s_slices_IndexFunc_I_Book_I_Book : Spec (List Bk × D × (Bk → Bool)) where
  args := fun x => [.sl 8 (bks x.1), x.2.1]
  pre := fun x => x.1.length ≤ 9223372036854775807 ∧ Says bkD (· ∈ x.1) x.2.2 x.2.1
  res := fun x => .val (.int .i64 (idxOf x.2.2 x.1))

set_option maxRecDepth 20000 in
set_option maxHeartbeats 1000000 in
theorem ok_slices_IndexFunc_I_Book_I_Book : FnOk Pr 103 s_slices_IndexFunc_I_Book_I_Book := by
 refine fn_ok 2 0 T0_ok Go.Proofs.Tryz.func103 rfl (enters_of Go.Proofs.Tryz.func103 rfl rfl) (fun _ => rfl) (fun _ => rfl) (fun _ => rfl) ?_
 rintro ⟨xs, fn, p⟩ ⟨hp, hask⟩ C hP hN hm hG
 change awp C _ _ ⟨[(0, .sl 8 (bks xs)), (1, fn)], [], 0⟩
 simp only at hp hask
 refine awp_seq ?_
 refine r1 T0_ok hP hm hN ?_
 refine g1 ?_
 refine awp_seq ?_
 refine awp_seq ?_
 refine r1 T0_ok hP hm hN ?_
 iterate 3 refine g1 ?_
 refine awp_block ?_
 refine awp_loop (fun n st => ∃ i : Nat, i ≤ xs.length ∧ (∀ j, j < i → p (xs.getD j bk0) = false) ∧ n = xs.length - i ∧ st = ⟨[(8, .val (.int .i64 (i : Nat))), (7, .val (.int .i64 (xs.length : Nat))), (0, .sl 8 (bks xs)), (1, fn)], [], 0⟩) (xs.length) ⟨_, weak_sl (sub_cons rfl (sub_cons rfl (sub_cons rfl (sub_cons rfl (sub_nil))))), 0, by omega, fun j h1 => by omega, rfl, rfl⟩ ?_
 rintro n st ⟨i, hii, hall, hni, rfl⟩
 refine awp_seq ?_
 refine r1 T0_ok hP hm hN ?_
 refine g1 ?_
 refine awp_seq ?_
 refine awp_cond rfl (fun hc0 => ?_) (fun hc0 => ?_)
 ·
  have hlti : i < xs.length := by simpa using hc0
  refine awp_skip ?_
  refine awp_seq ?_
  refine awp_block ?_
  refine awp_seq ?_
  refine r1 T0_ok hP hm hN ?_
  iterate 2 refine g1 ?_
  refine awp_seq ?_
  refine r1 T0_ok hP hm hN ?_
  iterate 5 refine g1 ?_
  refine gc1 ?_ (OpRel.does hask _ (by first | exact getD_mem' hlti | exact hn) rfl rfl rfl rfl rfl rfl)
  refine awp_cond rfl (fun hc1 => ?_) (fun hc1 => ?_)
  ·
   refine awp_seq ?_
   refine r1 T0_ok hP hm hN ?_
   iterate 2 refine g1 ?_
   refine awp_ret ?_
   refine fin_mk [] rfl rfl ?_ trivial (by decide)
   show D.val (.int .i64 (idxOf p xs)) = _
   rw [idxOf_some (d := bk0) hlti hc1 (fun j hj => hall j hj)]
   rfl
  ·
   refine awp_skip ?_
   refine r1 T0_ok hP hm hN ?_
   iterate 2 refine g1 ?_
   refine ⟨xs.length - (i + 1), _, by omega, weak_sl (sub_cons rfl (sub_cons rfl (sub_cons rfl (sub_cons rfl (sub_nil))))), i + 1, by omega, upto_step hall hc1, rfl, rfl⟩
 ·
  have hgei : ¬ i < xs.length := by simpa using hc0
  have heqi : i = xs.length := by omega
  refine awp_exit ?_
  repeat refine thenA_exit ?_
  refine blockA_hit ?_
  refine awp_seq ?_
  refine r1 T0_ok hP hm hN ?_
  refine g1 ?_
  refine awp_ret ?_
  refine fin_mk [] rfl rfl ?_ trivial (by decide)
  show D.val (.int .i64 (idxOf p xs)) = _
  rw [idxOf_none (d := bk0) (fun j hj => hall j (by omega))]
  rfl

noncomputable abbrev s_slices_ContainsFunc_I_Book_I_Book : Spec (List Bk × D × (Bk → Bool)) where
  args := fun x => [.sl 8 (bks x.1), x.2.1]
  pre := fun x => x.1.length ≤ 9223372036854775807 ∧ Says bkD (· ∈ x.1) x.2.2 x.2.1
  res := fun x => .val (.bool (x.1.any x.2.2))

set_option maxRecDepth 20000 in
set_option maxHeartbeats 1000000 in
theorem ok_slices_ContainsFunc_I_Book_I_Book : FnOk Pr 80 s_slices_ContainsFunc_I_Book_I_Book := by
 refine fn_ok 2 0 T0_ok Go.Proofs.Tryz.func80 rfl (enters_of Go.Proofs.Tryz.func80 rfl rfl) (fun _ => rfl) (fun _ => rfl) (fun _ => rfl) ?_
 rintro ⟨xs, fn, p⟩ hp C hP hN hm hG
 change awp C _ _ ⟨[(0, .sl 8 (bks xs)), (1, fn)], [], 0⟩
 refine awp_seq ?_
 refine r1 T0_ok hP hm hN ?_
 refine g1 ?_
 refine awp_seq ?_
 refine r1 T0_ok hP hm hN ?_
 iterate 2 refine g1 ?_
 refine gc1 ?_ (call1 ok_slices_IndexFunc_I_Book_I_Book (_, _, p) [] (hargs := (by exact args_cons arga_slsl (args_cons (arga_does (by exact hp.2)) args_nil))) (hpre := by (try dsimp only); exact hp))
 iterate 2 refine g1 ?_
 refine awp_ret ?_
 refine fin_mk [] rfl rfl ?_ trivial (by decide)
 show D.val (.bool (xs.any p)) = _
 rw [← idxOf_any]
 rfl

noncomputable abbrev s_I_areAll_I_Book_1 (fn : D) (dom : Bk → Prop) (p : Bk → Bool) : Spec Bk where
  args := fun n => [bkD n, .rptr 1 [[fn]] 0 0]
  pre := fun n => dom n
  res := fun n => .val (.bool (!p n))

set_option maxRecDepth 20000 in
set_option maxHeartbeats 1000000 in
theorem ok_I_areAll_I_Book_1 (fn : D) (dom : Bk → Prop) (p : Bk → Bool) (hask : Says bkD dom p fn) : FnOk Pr 81 (s_I_areAll_I_Book_1 fn dom p) := by
 refine fn_ok 2 0 T0_ok Go.Proofs.Tryz.func81 rfl (enters_of Go.Proofs.Tryz.func81 rfl rfl) (fun _ => rfl) (fun _ => rfl) (fun _ => rfl) ?_
 rintro n hn C hP hN hm hG
 change awp C _ _ ⟨[(0, bkD n), (1, .rptr 1 [[fn]] 0 0)], [], 0⟩
 refine awp_seq ?_
 refine r1 T0_ok hP hm hN ?_
 iterate 2 refine g1 ?_
 refine awp_seq ?_
 refine r1 T0_ok hP hm hN ?_
 iterate 2 refine g1 ?_
 refine gc1 ?_ (OpRel.does hask _ (by first | exact getD_mem' hlti | exact hn) rfl rfl rfl rfl rfl rfl)
 iterate 2 refine g1 ?_
 refine awp_ret ?_
 refine fin_mk [] rfl rfl ?_ trivial (by decide)
 rfl

theorem says_not_book {fn : D} {dom : Bk → Prop} {p : Bk → Bool} (h : Says bkD dom p fn) : Says bkD dom (fun n => !p n) (.clo (.func 81) [.rptr 1 [[fn]] 0 0]) :=
  ⟨81, [], [.rptr 1 [[fn]] 0 0], s_I_areAll_I_Book_1 fn dom p, rfl, rfl, rfl, ok_I_areAll_I_Book_1 fn dom p h, fun _ => rfl, fun _ h => h, fun _ => rfl, fun _ => rfl, fun _ => rfl, fun _ => rfl⟩

noncomputable abbrev s_I_areAll_I_Book : Spec (List Bk × D × (Bk → Bool)) where
  args := fun x => [.sl 8 (bks x.1), x.2.1]
  pre := fun x => x.1.length ≤ 9223372036854775807 ∧ fnCell x.2.1 = true ∧ Says bkD (· ∈ x.1) x.2.2 x.2.1
  res := fun x => .val (.bool (x.1.all x.2.2))

set_option maxRecDepth 20000 in
set_option maxHeartbeats 1000000 in
theorem ok_I_areAll_I_Book : FnOk Pr 59 s_I_areAll_I_Book := by
 refine fn_ok 2 0 T0_ok Go.Proofs.Tryz.func59 rfl (enters_of Go.Proofs.Tryz.func59 rfl rfl) (fun _ => rfl) (fun _ => rfl) (fun _ => rfl) ?_
 rintro ⟨xs, fn, p⟩ ⟨hp, hf0, hask⟩ C hP hN hm hG
 change awp C _ _ ⟨[(0, .sl 8 (bks xs)), (1, fn)], [], 0⟩
 simp only at hp hf0 hask
 obtain ⟨hdc, hcl, hhf, hsf⟩ := fnCell_ok hf0
 have xn1 := hdc
 refine awp_seq ?_
 refine r1 T0_ok hP hm hN ?_
 refine g1 ?_ (hpre := by exact hcl)
 refine g1 ?_
 refine awp_seq ?_
 refine r1 T0_ok hP hm hN ?_
 iterate 2 refine g1 ?_
 refine gc1 ?_ (call1 ok_slices_ContainsFunc_I_Book_I_Book (_, _, fun n => !p n) [] (hpre := by (try dsimp only); exact ⟨hp, says_not_book hask⟩))
 iterate 2 refine g1 ?_
 refine awp_ret ?_
 refine fin_mk [] rfl rfl ?_ trivial (by decide)
 show D.val (.bool (xs.all p)) = _
 rw [← any_not]
 rfl

theorem says_valid (dom : Bk → Prop) : Says bkD dom validB (.val (.func (.func 60) #[] #[])) :=
  ⟨60, [], [], s_I_ValidBook, rfl, rfl, rfl, ok_I_ValidBook, fun _ => rfl, fun _ _ => trivial, fun _ => rfl, fun _ => rfl, fun _ => rfl, fun _ => rfl⟩

noncomputable abbrev s_I_ValidBooks : Spec (List Bk) where
  args := fun xs => [.sl 8 (bks xs)]
  pre := fun xs => xs.length ≤ 9223372036854775807
  res := fun xs => .val (.bool (validBs xs))

set_option maxRecDepth 20000 in
set_option maxHeartbeats 1000000 in
theorem ok_I_ValidBooks : FnOk Pr 34 s_I_ValidBooks := by
 refine fn_ok 1 0 T0_ok Go.Proofs.Tryz.func34 rfl (enters_of Go.Proofs.Tryz.func34 rfl rfl) (fun _ => rfl) (fun _ => rfl) (fun _ => rfl) ?_
 rintro xs hl C hP hN hm hG
 change awp C _ _ ⟨[(0, .sl 8 (bks xs))], [], 0⟩
 have hl : xs.length ≤ 9223372036854775807 := hl
 refine awp_seq ?_
 refine r1 T0_ok hP hm hN ?_
 refine g1 ?_
 refine awp_seq ?_
 refine r1 T0_ok hP hm hN ?_
 iterate 4 refine g1 ?_
 refine gg1 ?_
 refine ggc1 ?_ (hs := by intro hb; simp +decide only [hb, gd_tt, gd_ff, beq_self_eq_true, Bool.true_and, beq_true]; exact ⟨rfl, _, call1 ok_I_areAll_I_Book (_, .val (.func (.func 60) #[] #[]), validB) [] (hpre := by (try dsimp only); exact ⟨hl, rfl, says_valid _⟩), rfl, rfl, rfl⟩)
 iterate 2 refine g1 ?_
 refine awp_ret ?_
 refine fin_mk [] rfl rfl ?_ trivial (by decide)
 rfl
end Go.Proofs.YtpdkhlpmiblflaaGreat.Abs

