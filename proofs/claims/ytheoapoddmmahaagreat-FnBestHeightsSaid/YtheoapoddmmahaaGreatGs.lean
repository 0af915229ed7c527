import Derived.Test.YtheoapoddmmahaaGreatG4
set_option linter.unusedVariables false
set_option linter.unusedSimpArgs false
namespace Go.Proofs.YtheoapoddmmahaaGreat.Abs
open Go Go.RowKit
theorem codeS_1 {a b c : Int} {hs : List Int} {bs : List Bk} {wide : Int} (h : (!validH a b c hs || !validBs bs) = true) : codeS a b c hs bs wide = 1 := by rw [codeS, if_pos h]
theorem codeS_2 {a b c : Int} {hs : List Int} {bs : List Bk} {wide : Int} (h : (!validH a b c hs || !validBs bs) = false) (h2 : (!inI wide 1 2000) = true) : codeS a b c hs bs wide = 2 := by rw [codeS, if_neg (by rw [h]; simp), if_pos h2]
theorem codeS_6 {a b c : Int} {hs : List Int} {bs : List Bk} {wide : Int} (h : (!validH a b c hs || !validBs bs) = false) (h2 : (!inI wide 1 2000) = false) (h3 : ask (allG hs bs) = false) : codeS a b c hs bs wide = 6 := by rw [codeS, if_neg (by rw [h]; simp), if_neg (by rw [h2]; simp), if_pos (by rw [h3]; rfl)]
theorem codeS_4 {a b c : Int} {hs : List Int} {bs : List Bk} {wide : Int} (h : (!validH a b c hs || !validBs bs) = false) (h2 : (!inI wide 1 2000) = false) (h3 : ask (allG hs bs) = true) (h4 : bs.any (fun b => decide (b.wide > wide)) = true) : codeS a b c hs bs wide = 4 := by rw [codeS, if_neg (by rw [h]; simp), if_neg (by rw [h2]; simp), if_neg (by rw [h3]; simp), if_pos h4]
theorem codeS_0 {a b c : Int} {hs : List Int} {bs : List Bk} {wide : Int} (h : (!validH a b c hs || !validBs bs) = false) (h2 : (!inI wide 1 2000) = false) (h3 : ask (allG hs bs) = true) (h4 : bs.any (fun b => decide (b.wide > wide)) = false) : codeS a b c hs bs wide = 0 := by rw [codeS, if_neg (by rw [h]; simp), if_neg (by rw [h2]; simp), if_neg (by rw [h3]; simp), if_neg (by rw [h4]; simp)]
theorem askR_no {a b c : Int} {hs : List Int} {bs : List Bk} (h : (askR a b c hs bs != 0) = true) : (!validH a b c hs || !validBs bs) = true := by
  unfold askR at h
  split at h
  · assumption
  · simp at h
theorem askR_yes {a b c : Int} {hs : List Int} {bs : List Bk} (h : (askR a b c hs bs != 0) = false) : (!validH a b c hs || !validBs bs) = false := by
  unfold askR at h
  split at h
  · simp at h
  · rename_i h2; simpa using h2

noncomputable abbrev s_I_isShelfWide : Spec Int where
  args := fun n => [.val (.int .i64 n)]
  res := fun n => .val (.bool (inI n 1 2000))

set_option maxRecDepth 20000 in
set_option maxHeartbeats 1000000 in
theorem ok_I_isShelfWide : FnOk Pr 50 s_I_isShelfWide := by
 refine fn_ok 1 0 T0_ok Go.Proofs.Tryz.func50 rfl (enters_of Go.Proofs.Tryz.func50 rfl rfl) (fun _ => rfl) (fun _ => rfl) (fun _ => rfl) ?_
 rintro n - C hP hN hm hG
 change awp C _ _ ⟨[(0, .val (.int .i64 n))], [], 0⟩
 refine awp_seq ?_
 refine r1 T0_ok hP hm hN ?_
 refine g1 ?_
 refine awp_seq ?_
 refine r1 T0_ok hP hm hN ?_
 refine g1 ?_
 refine gc1 ?_ (call1 ok_I_within_int64 (_, _, _) [])
 refine g1 ?_
 refine awp_ret ?_
 refine fin_mk [] rfl rfl ?_ trivial (by decide)
 rfl

noncomputable abbrev s_S_l04Shelved : Spec ((Int × Int × Int) × List Int × List Bk × Int) where
  args := fun x => [pegs x.1, .sl 1 (i64s x.2.1), .sl 8 (bks x.2.2.1), .val (.int .i64 x.2.2.2)]
  pre := fun x => isPegs x.1 ∧ x.2.1.length ≤ 1048576 ∧ ((∀ b ∈ x.2.2.1, isBk b) ∧ x.2.2.1.length ≤ 1048576) ∧ -9223372036854775808 ≤ x.2.2.2 ∧ x.2.2.2 ≤ 9223372036854775807
  res := fun x => .val (.int .i64 (codeS x.1.1 x.1.2.1 x.1.2.2 x.2.1 x.2.2.1 x.2.2.2))

set_option maxRecDepth 20000 in
set_option maxHeartbeats 8000000 in
theorem ok_S_l04Shelved : FnOk Pr 60 s_S_l04Shelved := by
 refine fn_ok 4 0 T0_ok Go.Proofs.Tryz.func60 rfl (enters_of Go.Proofs.Tryz.func60 rfl rfl) (fun _ => rfl) (fun _ => rfl) (fun _ => rfl) ?_
 rintro ⟨⟨a, b, c⟩, hs, bs, wide⟩ ⟨hp, hhl, ⟨hv, hl⟩, hw1, hw2⟩ C hP hN hm hG
 change awp C _ _ ⟨[(0, .val (.agg #[.int .i16 a, .int .i16 b, .int .i16 c])), (1, .sl 1 (i64s hs)), (2, .sl 8 (bks bs)), (3, .val (.int .i64 wide))], [], 0⟩
 simp only at hhl hv hl hw1 hw2
 refine awp_seq ?_
 refine r1 T0_ok hP hm hN ?_
 iterate 2 refine g1 ?_
 refine awp_seq ?_
 refine awp_block ?_
 refine awp_seq ?_
 refine r1 T0_ok hP hm hN ?_
 iterate 3 refine g1 ?_
 refine gc1 ?_ (call1 ok_S_l04Asked ((_, _, _), _, _) [] (hpre := by (try dsimp only); exact ⟨hp, by omega, hv, by omega⟩))
 iterate 2 refine g1 ?_
 refine awp_cond rfl (fun hc0 => ?_) (fun hc0 => ?_)
 ·
  have h0 := askR_no hc0
  refine awp_seq ?_
  refine r1 T0_ok hP hm hN ?_
  refine g1 ?_
  refine awp_ret ?_
  refine fin_mk [] rfl rfl ?_ trivial (by decide)
  show D.val (.int .i64 (codeS a b c hs bs wide)) = _
  rw [codeS_1 h0]
  rfl
 ·
  have h0 := askR_yes hc0
  refine awp_seq ?_
  refine r1 T0_ok hP hm hN ?_
  refine g1 ?_
  refine gc1 ?_ (call1 ok_S_l00In (_, _, _) [])
  iterate 2 refine g1 ?_
  refine awp_cond rfl (fun hc1 => ?_) (fun hc1 => ?_)
  ·
   refine awp_seq ?_
   refine r1 T0_ok hP hm hN ?_
   refine g1 ?_
   refine awp_ret ?_
   refine fin_mk [] rfl rfl ?_ trivial (by decide)
   show D.val (.int .i64 (codeS a b c hs bs wide)) = _
   rw [codeS_2 h0 hc1]
   rfl
  ·
   refine awp_seq ?_
   refine r1 T0_ok hP hm hN ?_
   iterate 2 refine g1 ?_
   refine gc1 ?_ (call1 ok_S_l04All (_, _) [] (hpre := by (try dsimp only); exact ⟨hv, by omega, by omega⟩))
   iterate 2 refine g1 ?_
   refine awp_cond rfl (fun hc2 => ?_) (fun hc2 => ?_)
   ·
    refine awp_seq ?_
    refine r1 T0_ok hP hm hN ?_
    refine g1 ?_
    refine awp_ret ?_
    refine fin_mk [] rfl rfl ?_ trivial (by decide)
    show D.val (.int .i64 (codeS a b c hs bs wide)) = _
    rw [codeS_6 h0 hc1 (by simpa using hc2)]
    rfl
   ·
    refine awp_seq ?_
    refine r1 T0_ok hP hm hN ?_
    iterate 2 refine g1 ?_
    refine gc1 ?_ (call1 ok_S_l04Wide (bs, wide) [] (hpre := by (try dsimp only); exact ⟨hv, by omega⟩))
    iterate 2 refine g1 ?_
    refine awp_cond rfl (fun hc3 => ?_) (fun hc3 => ?_)
    ·
     rw [Bool.not_not] at hc3
     refine awp_seq ?_
     refine r1 T0_ok hP hm hN ?_
     refine g1 ?_
     refine awp_ret ?_
     refine fin_mk [] rfl rfl ?_ trivial (by decide)
     show D.val (.int .i64 (codeS a b c hs bs wide)) = _
     rw [codeS_4 h0 hc1 (by simpa using hc2) hc3]
     rfl
    ·
     rw [Bool.not_not] at hc3
     refine awp_skip ?_
     refine awp_seq ?_
     refine r1 T0_ok hP hm hN ?_
     refine g1 ?_
     refine awp_ret ?_
     refine fin_mk [] rfl rfl ?_ trivial (by decide)
     show D.val (.int .i64 (codeS a b c hs bs wide)) = _
     rw [codeS_0 h0 hc1 (by simpa using hc2) hc3]
     rfl
end Go.Proofs.YtheoapoddmmahaaGreat.Abs

