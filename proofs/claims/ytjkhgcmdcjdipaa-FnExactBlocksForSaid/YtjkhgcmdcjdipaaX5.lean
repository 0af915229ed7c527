import Derived.Test.YtjkhgcmdcjdipaaX3i
set_option linter.unusedVariables false
set_option linter.unusedSimpArgs false
namespace Go.Proofs.Ytjkhgcmdcjdipaa.Abs
open Go Go.RowKit
/-- What marking makes of an element. -/
def mk_book (k : Int) : Bk := ⟨IntKind.i16.wrap (k), IntKind.u8.wrap (k + 1), IntKind.u8.wrap (k + 1 + 1), IntKind.u8.wrap (k + 1 + 1 + 1), IntKind.i16.wrap (k + 1 + 1 + 1 + 1), IntKind.i16.wrap (k + 1 + 1 + 1 + 1 + 1), IntKind.i16.wrap (k + 1 + 1 + 1 + 1 + 1 + 1), IntKind.i16.wrap (k + 1 + 1 + 1 + 1 + 1 + 1 + 1)⟩
def mkd_book (n : Nat) (k : Int) : List Bk := (List.range n).map fun (j : Nat) => mk_book (k + 8 * (j : Int))
def mix_book (xs : List Bk) (k : Int) (i : Nat) : List Bk := mkd_book i k ++ xs.drop i
theorem mkd_book_len (n : Nat) (k : Int) : (mkd_book n k).length = n := by simp [mkd_book]
theorem mkd_book_get {n : Nat} {k : Int} {j : Nat} (h : j < n) : (mkd_book n k).getD j bk0 = mk_book (k + 8 * (j : Int)) := by simp [mkd_book, List.getD, h]
theorem mix_book_zero (xs : List Bk) (k : Int) : mix_book xs k 0 = xs := by simp [mix_book, mkd_book]
theorem mix_book_all (xs : List Bk) (k : Int) : mix_book xs k xs.length = mkd_book xs.length k := by simp [mix_book]
theorem mix_book_len (xs : List Bk) (k : Int) {i : Nat} (h : i ≤ xs.length) : (mix_book xs k i).length = xs.length := by simp [mix_book, mkd_book]; omega
theorem mix_book_set (xs : List Bk) (k : Int) {i : Nat} (h : i < xs.length) : (mix_book xs k i).set i (mk_book (k + 8 * (i : Int))) = mix_book xs k (i + 1) := by
  have e : mkd_book (i + 1) k = mkd_book i k ++ [mk_book (k + 8 * (i : Int))] := by simp [mkd_book, List.range_succ]
  unfold mix_book
  rw [e, List.set_append_right _ _ (by simp [mkd_book]), mkd_book_len, Nat.sub_self, List.drop_eq_getElem_cons h, List.set_cons_zero, List.append_assoc]
  rfl
/-- What the check of marks says. -/
noncomputable def heldR_book (xs : List Bk) (k : Int) : Int := if ask (xs = mkd_book xs.length k) then k + 8 * xs.length else -1
theorem heldR_book_no {xs : List Bk} {k : Int} {i : Nat} (hi : i < xs.length) (h : xs.getD i bk0 ≠ mk_book (k + 8 * (i : Int))) : heldR_book xs k = -1 := by
  unfold heldR_book
  rw [ask_false (fun e => h (by rw [e, mkd_book_get hi]))]
  rfl
theorem heldR_book_yes {xs : List Bk} {k : Int} (h : ∀ i, i < xs.length → xs.getD i bk0 = mk_book (k + 8 * (i : Int))) : heldR_book xs k = k + 8 * xs.length := by
  unfold heldR_book
  rw [ask_true (list_ext' (d := bk0) (mkd_book_len _ _).symm (fun j hj => by rw [h j hj, mkd_book_get hj]))]
  rfl
theorem heldR_book_mkd (n : Nat) (k : Int) : heldR_book (mkd_book n k) k = k + 8 * n := by
  rw [heldR_book_yes (fun i hi => by rw [mkd_book_len] at hi; exact mkd_book_get hi), mkd_book_len]

noncomputable abbrev s_L_markBookS : Spec (List Bk × Int) where
  args := fun x => [.own 0, .val (.int .i64 x.2)]
  pre := fun x => x.1.length ≤ 4611686018427387904 ∧ 0 ≤ x.2 ∧ x.2 + 8 * x.1.length ≤ 4611686018427387904
  obs := fun x => [⟨46, 8, false, bks x.1⟩]
  out := fun x => [⟨46, 8, false, bks (mkd_book x.1.length x.2)⟩]
  res := fun x => .val (.int .i64 (x.2 + 8 * x.1.length))

set_option maxRecDepth 20000 in
set_option maxHeartbeats 4000000 in
theorem ok_L_markBookS : FnOk Pr 13 s_L_markBookS := by
 refine fn_ok 2 1 T0_ok Go.Proofs.Try.func13 rfl (enters_of Go.Proofs.Try.func13 rfl rfl) (fun _ => rfl) (fun _ => rfl) (fun _ => rfl) ?_
 rintro ⟨xs, k⟩ ⟨hl, hk0, hk⟩ C hP hN hm hG
 change awp C _ _ ⟨[(0, .own 0), (1, .val (.int .i64 k))], [(0, ⟨46, 8, false, bks xs⟩)], 1⟩
 simp only at hl hk0 hk
 have xn1 := @List.set_set.{0}
 refine awp_seq ?_
 refine r1 T0_ok hP hm hN ?_
 refine g1 ?_
 refine awp_seq ?_
 refine awp_seq ?_
 refine r1 T0_ok hP hm hN ?_
 refine g1 ?_
 refine awp_block ?_
 refine awp_loop (fun n st => ∃ i : Nat, i ≤ xs.length ∧ n = xs.length - i ∧ st = ⟨[(5, .val (.int .i64 (i : Nat))), (1, .val (.int .i64 (k + 8 * ((i : Nat) : Int)))), (0, .own 0)], [(0, ⟨46, 8, false, bks (mix_book xs k i)⟩)], 1⟩) (xs.length) ⟨_, (by rw [mix_book_zero, show k + 8 * ((0 : Nat) : Int) = k by omega]; exact weak_sl (sub_cons rfl (sub_cons rfl (sub_cons rfl (sub_nil))))), 0, by omega, rfl, rfl⟩ ?_
 rintro n st ⟨i, hii, hni, rfl⟩
 have hml := mix_book_len xs k hii
 refine awp_seq ?_
 refine awp_seq ?_
 refine r1 T0_ok hP hm hN ?_
 iterate 4 refine g1 ?_
 refine awp_cond rfl (fun hc0 => ?_) (fun hc0 => ?_)
 ·
  have hlti : i < xs.length := by simp [hml] at hc0; exact hc0
  refine awp_skip ?_
  refine awp_seq ?_
  refine awp_block ?_
  refine awp_seq ?_
  refine r1 T0_ok hP hm hN ?_
  iterate 7 refine g1 ?_
  refine awp_seq ?_
  refine r1 T0_ok hP hm hN ?_
  iterate 3 refine g1 ?_
  refine awp_seq ?_
  refine awp_seq ?_
  refine r1 T0_ok hP hm hN ?_
  refine g1 ?_
  refine awp_block ?_
  refine awp_loop (fun n st => (n = 3 ∧ st = ⟨[(6, .val (.int .i64 0)), (1, .val (.int .i64 (k + 8 * (i : Int) + 1))), (5, .val (.int .i64 (i : Nat))), (0, .own 0)], [(0, ⟨46, 8, false, (bks (mix_book xs k i)).set i [.val (.int .i16 (IntKind.i16.wrap (k + 8 * (i : Int)))), .val (.int .u8 (((mix_book xs k i).getD i bk0).m0)), .val (.int .u8 (((mix_book xs k i).getD i bk0).m1)), .val (.int .u8 (((mix_book xs k i).getD i bk0).m2)), .val (.int .i16 (((mix_book xs k i).getD i bk0).vol)), .val (.int .i16 (((mix_book xs k i).getD i bk0).wide)), .val (.int .i16 (((mix_book xs k i).getD i bk0).high)), .val (.int .i16 (((mix_book xs k i).getD i bk0).weight))]⟩)], 1⟩) ∨ (n = 2 ∧ st = ⟨[(6, .val (.int .i64 1)), (1, .val (.int .i64 (k + 8 * (i : Int) + 1 + 1))), (5, .val (.int .i64 (i : Nat))), (0, .own 0)], [(0, ⟨46, 8, false, (bks (mix_book xs k i)).set i [.val (.int .i16 (IntKind.i16.wrap (k + 8 * (i : Int)))), .val (.int .u8 (IntKind.u8.wrap (k + 8 * (i : Int) + 1))), .val (.int .u8 (((mix_book xs k i).getD i bk0).m1)), .val (.int .u8 (((mix_book xs k i).getD i bk0).m2)), .val (.int .i16 (((mix_book xs k i).getD i bk0).vol)), .val (.int .i16 (((mix_book xs k i).getD i bk0).wide)), .val (.int .i16 (((mix_book xs k i).getD i bk0).high)), .val (.int .i16 (((mix_book xs k i).getD i bk0).weight))]⟩)], 1⟩) ∨ (n = 1 ∧ st = ⟨[(6, .val (.int .i64 2)), (1, .val (.int .i64 (k + 8 * (i : Int) + 1 + 1 + 1))), (5, .val (.int .i64 (i : Nat))), (0, .own 0)], [(0, ⟨46, 8, false, (bks (mix_book xs k i)).set i [.val (.int .i16 (IntKind.i16.wrap (k + 8 * (i : Int)))), .val (.int .u8 (IntKind.u8.wrap (k + 8 * (i : Int) + 1))), .val (.int .u8 (IntKind.u8.wrap (k + 8 * (i : Int) + 1 + 1))), .val (.int .u8 (((mix_book xs k i).getD i bk0).m2)), .val (.int .i16 (((mix_book xs k i).getD i bk0).vol)), .val (.int .i16 (((mix_book xs k i).getD i bk0).wide)), .val (.int .i16 (((mix_book xs k i).getD i bk0).high)), .val (.int .i16 (((mix_book xs k i).getD i bk0).weight))]⟩)], 1⟩) ∨ (n = 0 ∧ st = ⟨[(6, .val (.int .i64 3)), (1, .val (.int .i64 (k + 8 * (i : Int) + 1 + 1 + 1 + 1))), (5, .val (.int .i64 (i : Nat))), (0, .own 0)], [(0, ⟨46, 8, false, (bks (mix_book xs k i)).set i [.val (.int .i16 (IntKind.i16.wrap (k + 8 * (i : Int)))), .val (.int .u8 (IntKind.u8.wrap (k + 8 * (i : Int) + 1))), .val (.int .u8 (IntKind.u8.wrap (k + 8 * (i : Int) + 1 + 1))), .val (.int .u8 (IntKind.u8.wrap (k + 8 * (i : Int) + 1 + 1 + 1))), .val (.int .i16 (((mix_book xs k i).getD i bk0).vol)), .val (.int .i16 (((mix_book xs k i).getD i bk0).wide)), .val (.int .i16 (((mix_book xs k i).getD i bk0).high)), .val (.int .i16 (((mix_book xs k i).getD i bk0).weight))]⟩)], 1⟩)) 3 ⟨_, weak_sl (sub_cons rfl (sub_cons rfl (sub_cons rfl (sub_cons rfl (sub_nil))))), .inl ⟨rfl, rfl⟩⟩ ?_
  rintro n st (⟨rfl, rfl⟩ | ⟨rfl, rfl⟩ | ⟨rfl, rfl⟩ | ⟨rfl, rfl⟩)
  ·
   refine awp_seq ?_
   refine awp_seq ?_
   refine r1 T0_ok hP hm hN ?_
   iterate 2 refine g1 ?_
   refine awp_cond rfl (fun hc => ?_) (fun hc => absurd hc (by decide))
   refine awp_skip ?_
   refine awp_seq ?_
   refine awp_block ?_
   refine awp_seq ?_
   refine r1 T0_ok hP hm hN ?_
   iterate 9 refine g1 ?_
   refine r1 T0_ok hP hm hN ?_
   iterate 3 refine g1 ?_
   refine r1 T0_ok hP hm hN ?_
   iterate 3 refine g1 ?_
   exact ⟨2, _, by omega, weak_sl (sub_cons rfl (sub_cons rfl (sub_cons rfl (sub_cons rfl (sub_nil))))), .inr (.inl ⟨rfl, rfl⟩)⟩
  ·
   refine awp_seq ?_
   refine awp_seq ?_
   refine r1 T0_ok hP hm hN ?_
   iterate 2 refine g1 ?_
   refine awp_cond rfl (fun hc => ?_) (fun hc => absurd hc (by decide))
   refine awp_skip ?_
   refine awp_seq ?_
   refine awp_block ?_
   refine awp_seq ?_
   refine r1 T0_ok hP hm hN ?_
   iterate 9 refine g1 ?_
   refine r1 T0_ok hP hm hN ?_
   iterate 3 refine g1 ?_
   refine r1 T0_ok hP hm hN ?_
   iterate 3 refine g1 ?_
   exact ⟨1, _, by omega, weak_sl (sub_cons rfl (sub_cons rfl (sub_cons rfl (sub_cons rfl (sub_nil))))), .inr (.inr (.inl ⟨rfl, rfl⟩))⟩
  ·
   refine awp_seq ?_
   refine awp_seq ?_
   refine r1 T0_ok hP hm hN ?_
   iterate 2 refine g1 ?_
   refine awp_cond rfl (fun hc => ?_) (fun hc => absurd hc (by decide))
   refine awp_skip ?_
   refine awp_seq ?_
   refine awp_block ?_
   refine awp_seq ?_
   refine r1 T0_ok hP hm hN ?_
   iterate 9 refine g1 ?_
   refine r1 T0_ok hP hm hN ?_
   iterate 3 refine g1 ?_
   refine r1 T0_ok hP hm hN ?_
   iterate 3 refine g1 ?_
   exact ⟨0, _, by omega, weak_sl (sub_cons rfl (sub_cons rfl (sub_cons rfl (sub_cons rfl (sub_nil))))), .inr (.inr (.inr (⟨rfl, rfl⟩)))⟩
  ·
   refine awp_seq ?_
   refine awp_seq ?_
   refine r1 T0_ok hP hm hN ?_
   iterate 2 refine g1 ?_
   refine awp_cond rfl (fun hc => absurd hc (by decide)) (fun hc => ?_)
   refine awp_exit ?_
   repeat refine thenA_exit ?_
   refine blockA_hit ?_
   refine awp_seq ?_
   refine r1 T0_ok hP hm hN ?_
   iterate 7 refine g1 ?_
   refine awp_seq ?_
   refine r1 T0_ok hP hm hN ?_
   iterate 3 refine g1 ?_
   refine awp_seq ?_
   refine r1 T0_ok hP hm hN ?_
   iterate 7 refine g1 ?_
   refine awp_seq ?_
   refine r1 T0_ok hP hm hN ?_
   iterate 3 refine g1 ?_
   refine awp_seq ?_
   refine r1 T0_ok hP hm hN ?_
   iterate 7 refine g1 ?_
   refine awp_seq ?_
   refine r1 T0_ok hP hm hN ?_
   iterate 3 refine g1 ?_
   refine awp_seq ?_
   refine r1 T0_ok hP hm hN ?_
   iterate 7 refine g1 ?_
   refine r1 T0_ok hP hm hN ?_
   iterate 3 refine g1 ?_
   refine r1 T0_ok hP hm hN ?_
   iterate 3 refine g1 ?_
   refine ⟨xs.length - (i + 1), _, by omega, (by rw [← mix_book_set xs k hlti, bks_set, show k + 8 * ((i + 1 : Nat) : Int) = k + 8 * (i : Int) + 1 + 1 + 1 + 1 + 1 + 1 + 1 + 1 by omega]; exact weak_sl (sub_cons rfl (sub_cons rfl (sub_cons rfl (sub_nil))))), i + 1, by omega, rfl, rfl⟩
 ·
  have hgei : ¬ i < xs.length := by simp [hml] at hc0; omega
  have heqi : i = xs.length := by omega
  rw [heqi, mix_book_all]
  refine awp_exit ?_
  repeat refine thenA_exit ?_
  refine blockA_hit ?_
  refine awp_seq ?_
  refine r1 T0_ok hP hm hN ?_
  iterate 2 refine g1 ?_
  refine awp_ret ?_
  refine fin_mk [] rfl rfl ?_ (objs_cons rfl rfl rfl rfl rfl (.inl rfl) objs_nil) (by decide)
  rfl

/-- What marking makes of an element. -/
def mk_block (k : Int) : Blk := (IntKind.i16.wrap (k), IntKind.i16.wrap (k + 1), IntKind.i16.wrap (k + 1 + 1))
def mkd_block (n : Nat) (k : Int) : List Blk := (List.range n).map fun (j : Nat) => mk_block (k + 3 * (j : Int))
def mix_block (xs : List Blk) (k : Int) (i : Nat) : List Blk := mkd_block i k ++ xs.drop i
theorem mkd_block_len (n : Nat) (k : Int) : (mkd_block n k).length = n := by simp [mkd_block]
theorem mkd_block_get {n : Nat} {k : Int} {j : Nat} (h : j < n) : (mkd_block n k).getD j br0 = mk_block (k + 3 * (j : Int)) := by simp [mkd_block, List.getD, h]
theorem mix_block_zero (xs : List Blk) (k : Int) : mix_block xs k 0 = xs := by simp [mix_block, mkd_block]
theorem mix_block_all (xs : List Blk) (k : Int) : mix_block xs k xs.length = mkd_block xs.length k := by simp [mix_block]
theorem mix_block_len (xs : List Blk) (k : Int) {i : Nat} (h : i ≤ xs.length) : (mix_block xs k i).length = xs.length := by simp [mix_block, mkd_block]; omega
theorem mix_block_set (xs : List Blk) (k : Int) {i : Nat} (h : i < xs.length) : (mix_block xs k i).set i (mk_block (k + 3 * (i : Int))) = mix_block xs k (i + 1) := by
  have e : mkd_block (i + 1) k = mkd_block i k ++ [mk_block (k + 3 * (i : Int))] := by simp [mkd_block, List.range_succ]
  unfold mix_block
  rw [e, List.set_append_right _ _ (by simp [mkd_block]), mkd_block_len, Nat.sub_self, List.drop_eq_getElem_cons h, List.set_cons_zero, List.append_assoc]
  rfl
/-- What the check of marks says. -/
noncomputable def heldR_block (xs : List Blk) (k : Int) : Int := if ask (xs = mkd_block xs.length k) then k + 3 * xs.length else -1
theorem heldR_block_no {xs : List Blk} {k : Int} {i : Nat} (hi : i < xs.length) (h : xs.getD i br0 ≠ mk_block (k + 3 * (i : Int))) : heldR_block xs k = -1 := by
  unfold heldR_block
  rw [ask_false (fun e => h (by rw [e, mkd_block_get hi]))]
  rfl
theorem heldR_block_yes {xs : List Blk} {k : Int} (h : ∀ i, i < xs.length → xs.getD i br0 = mk_block (k + 3 * (i : Int))) : heldR_block xs k = k + 3 * xs.length := by
  unfold heldR_block
  rw [ask_true (list_ext' (d := br0) (mkd_block_len _ _).symm (fun j hj => by rw [h j hj, mkd_block_get hj]))]
  rfl
theorem heldR_block_mkd (n : Nat) (k : Int) : heldR_block (mkd_block n k) k = k + 3 * n := by
  rw [heldR_block_yes (fun i hi => by rw [mkd_block_len] at hi; exact mkd_block_get hi), mkd_block_len]

noncomputable abbrev s_L_eqBlock : Spec (Blk × Blk) where
  args := fun x => [blkD x.1, blkD x.2]
  res := fun x => .val (.bool (ask (x.1 = x.2)))

set_option maxRecDepth 20000 in
set_option maxHeartbeats 1000000 in
theorem ok_L_eqBlock : FnOk Pr 28 s_L_eqBlock := by
 refine fn_ok 2 0 T0_ok Go.Proofs.Try.func28 rfl (enters_of Go.Proofs.Try.func28 rfl rfl) (fun _ => rfl) (fun _ => rfl) (fun _ => rfl) ?_
 rintro ⟨⟨a, b, c⟩, ⟨d, e, f⟩⟩ - C hP hN hm hG
 change awp C _ _ ⟨[(0, blkD (a, b, c)), (1, blkD (d, e, f))], [], 0⟩
 refine awp_seq ?_
 refine r1 T0_ok hP hm hN ?_
 iterate 3 refine g1 ?_
 refine awp_seq ?_
 refine awp_seq ?_
 refine r1 T0_ok hP hm hN ?_
 iterate 5 refine g1 ?_
 refine awp_cond rfl (fun hc0 => ?_) (fun hc0 => ?_)
 ·
  refine awp_seq ?_
  refine r1 T0_ok hP hm hN ?_
  refine g1 ?_
  refine awp_ret ?_
  refine fin_mk [] rfl rfl ?_ trivial (by decide)
  show D.val (.bool (ask ((a, b, c) = (d, e, f)))) = D.val (.bool false)
  rw [ask_false (fun h => by cases h; simp at hc0)]
 ·
  refine awp_skip ?_
  refine awp_seq ?_
  refine awp_seq ?_
  refine r1 T0_ok hP hm hN ?_
  iterate 5 refine g1 ?_
  refine awp_cond rfl (fun hc1 => ?_) (fun hc1 => ?_)
  ·
   refine awp_seq ?_
   refine r1 T0_ok hP hm hN ?_
   refine g1 ?_
   refine awp_ret ?_
   refine fin_mk [] rfl rfl ?_ trivial (by decide)
   show D.val (.bool (ask ((a, b, c) = (d, e, f)))) = D.val (.bool false)
   rw [ask_false (fun h => by cases h; simp at hc1)]
  ·
   refine awp_skip ?_
   refine awp_seq ?_
   refine awp_seq ?_
   refine r1 T0_ok hP hm hN ?_
   iterate 5 refine g1 ?_
   refine awp_cond rfl (fun hc2 => ?_) (fun hc2 => ?_)
   ·
    refine awp_seq ?_
    refine r1 T0_ok hP hm hN ?_
    refine g1 ?_
    refine awp_ret ?_
    refine fin_mk [] rfl rfl ?_ trivial (by decide)
    show D.val (.bool (ask ((a, b, c) = (d, e, f)))) = D.val (.bool false)
    rw [ask_false (fun h => by cases h; simp at hc2)]
   ·
    refine awp_skip ?_
    refine awp_seq ?_
    refine r1 T0_ok hP hm hN ?_
    refine g1 ?_
    refine awp_ret ?_
    refine fin_mk [] rfl rfl ?_ trivial (by decide)
    show D.val (.bool (ask ((a, b, c) = (d, e, f)))) = D.val (.bool true)
    rw [ask_true (by simp only [bne_eq_false_iff_eq] at hc0 hc1 hc2; rw [hc0, hc1, hc2])]

noncomputable abbrev s_L_eqBlockS : Spec (List Blk × List Blk) where
  args := fun x => [.sl 3 (brs x.1), .sl 3 (brs x.2)]
  pre := fun x => x.1.length ≤ 9223372036854775807 ∧ x.2.length ≤ 9223372036854775807
  res := fun x => .val (.bool (ask (x.1 = x.2)))

set_option maxRecDepth 20000 in
set_option maxHeartbeats 1000000 in
theorem ok_L_eqBlockS : FnOk Pr 12 s_L_eqBlockS := by
 refine fn_ok 2 0 T0_ok Go.Proofs.Try.func12 rfl (enters_of Go.Proofs.Try.func12 rfl rfl) (fun _ => rfl) (fun _ => rfl) (fun _ => rfl) ?_
 rintro ⟨xs, ys⟩ ⟨hp, hp2⟩ C hP hN hm hG
 change awp C _ _ ⟨[(0, .sl 3 (brs xs)), (1, .sl 3 (brs ys))], [], 0⟩
 simp only at hp hp2
 refine awp_seq ?_
 refine r1 T0_ok hP hm hN ?_
 refine g1 ?_
 refine awp_seq ?_
 refine awp_seq ?_
 refine r1 T0_ok hP hm hN ?_
 iterate 5 refine g1 ?_
 refine awp_cond rfl (fun hc0 => ?_) (fun hc0 => ?_)
 ·
  refine awp_seq ?_
  refine r1 T0_ok hP hm hN ?_
  refine g1 ?_
  refine awp_ret ?_
  refine fin_mk [] rfl rfl ?_ trivial (by decide)
  show D.val (.bool (ask (xs = ys))) = D.val (.bool false)
  rw [ask_false (fun h => by subst h; simp at hc0)]
 ·
  have hl : xs.length = ys.length := by simp at hc0; omega
  refine awp_skip ?_
  refine awp_seq ?_
  refine awp_seq ?_
  refine r1 T0_ok hP hm hN ?_
  refine g1 ?_
  refine awp_block ?_
  refine awp_loop (fun n st => ∃ i : Nat, i ≤ xs.length ∧ (∀ j, j < i → xs.getD j br0 = ys.getD j br0) ∧ n = xs.length - i ∧ st = ⟨[(5, .val (.int .i64 (i : Nat))), (0, .sl 3 (brs xs)), (1, .sl 3 (brs ys))], [], 0⟩) (xs.length) ⟨_, weak_sl (sub_cons rfl (sub_cons rfl (sub_cons rfl (sub_nil)))), 0, by omega, fun j h => by omega, rfl, rfl⟩ ?_
  rintro n st ⟨i, hii, hall, hni, rfl⟩
  refine awp_seq ?_
  refine awp_seq ?_
  refine r1 T0_ok hP hm hN ?_
  iterate 4 refine g1 ?_
  refine awp_cond rfl (fun hc1 => ?_) (fun hc1 => ?_)
  ·
   have hlti : i < xs.length := by simpa using hc1
   have hgx := brs_get xs i hlti
   have hgy := brs_get ys i (by omega)
   refine awp_skip ?_
   refine awp_seq ?_
   refine awp_block ?_
   refine awp_seq ?_
   refine awp_draw T0_ok hP hm hN Pr_mix [0, 1, 2, 3, 4, 5, 6, 7, 8, 9, 10, 11] [8] _ rfl (by rfl) ?_
   iterate 8 refine d1 T0_ok ?_
   refine dp1 ?_ (call1 ok_L_eqBlock (_, _) [])
   refine d1 T0_ok ?_
   refine dreg_nil ?_
   refine awp_cond rfl (fun hc2 => ?_) (fun hc2 => ?_)
   ·
    refine awp_seq ?_
    refine r1 T0_ok hP hm hN ?_
    refine g1 ?_
    refine awp_ret ?_
    refine fin_mk [] rfl rfl ?_ trivial (by decide)
    show D.val (.bool (ask (xs = ys))) = D.val (.bool false)
    rw [ask_false (fun h => by subst h; simp [ask] at hc2)]
   ·
    refine awp_skip ?_
    refine r1 T0_ok hP hm hN ?_
    iterate 3 refine g1 ?_
    refine ⟨xs.length - (i + 1), _, by omega, weak_sl (sub_cons rfl (sub_cons rfl (sub_cons rfl (sub_nil)))), i + 1, by omega, upto_step hall (ask_iff.1 (by simpa using hc2)), rfl, rfl⟩
  ·
   have hgei : ¬ i < xs.length := by simpa using hc1
   have heqi : i = xs.length := by omega
   refine awp_exit ?_
   repeat refine thenA_exit ?_
   refine blockA_hit ?_
   refine awp_seq ?_
   refine r1 T0_ok hP hm hN ?_
   refine g1 ?_
   refine awp_ret ?_
   refine fin_mk [] rfl rfl ?_ trivial (by decide)
   show D.val (.bool (ask (xs = ys))) = D.val (.bool true)
   rw [ask_true (list_ext' (d := br0) hl (fun j hj => hall j (by omega)))]

noncomputable abbrev s_L_markBlockS : Spec (List Blk × Int) where
  args := fun x => [.own 0, .val (.int .i64 x.2)]
  pre := fun x => x.1.length ≤ 3074457345618258602 ∧ 0 ≤ x.2 ∧ x.2 + 3 * x.1.length ≤ 4611686018427387904
  obs := fun x => [⟨54, 3, false, brs x.1⟩]
  out := fun x => [⟨54, 3, false, brs (mkd_block x.1.length x.2)⟩]
  res := fun x => .val (.int .i64 (x.2 + 3 * x.1.length))

set_option maxRecDepth 20000 in
set_option maxHeartbeats 4000000 in
theorem ok_L_markBlockS : FnOk Pr 14 s_L_markBlockS := by
 refine fn_ok 2 1 T0_ok Go.Proofs.Try.func14 rfl (enters_of Go.Proofs.Try.func14 rfl rfl) (fun _ => rfl) (fun _ => rfl) (fun _ => rfl) ?_
 rintro ⟨xs, k⟩ ⟨hl, hk0, hk⟩ C hP hN hm hG
 change awp C _ _ ⟨[(0, .own 0), (1, .val (.int .i64 k))], [(0, ⟨54, 3, false, brs xs⟩)], 1⟩
 simp only at hl hk0 hk
 have xn1 := @List.set_set.{0}
 refine awp_seq ?_
 refine r1 T0_ok hP hm hN ?_
 refine g1 ?_
 refine awp_seq ?_
 refine awp_seq ?_
 refine r1 T0_ok hP hm hN ?_
 refine g1 ?_
 refine awp_block ?_
 refine awp_loop (fun n st => ∃ i : Nat, i ≤ xs.length ∧ n = xs.length - i ∧ st = ⟨[(5, .val (.int .i64 (i : Nat))), (1, .val (.int .i64 (k + 3 * ((i : Nat) : Int)))), (0, .own 0)], [(0, ⟨54, 3, false, brs (mix_block xs k i)⟩)], 1⟩) (xs.length) ⟨_, (by rw [mix_block_zero, show k + 3 * ((0 : Nat) : Int) = k by omega]; exact weak_sl (sub_cons rfl (sub_cons rfl (sub_cons rfl (sub_nil))))), 0, by omega, rfl, rfl⟩ ?_
 rintro n st ⟨i, hii, hni, rfl⟩
 have hml := mix_block_len xs k hii
 refine awp_seq ?_
 refine awp_seq ?_
 refine r1 T0_ok hP hm hN ?_
 iterate 4 refine g1 ?_
 refine awp_cond rfl (fun hc0 => ?_) (fun hc0 => ?_)
 ·
  have hlti : i < xs.length := by simp [hml] at hc0; exact hc0
  have hgm := brs_get (mix_block xs k i) i (by omega)
  refine awp_skip ?_
  refine awp_seq ?_
  refine awp_block ?_
  refine awp_seq ?_
  refine r1 T0_ok hP hm hN ?_
  iterate 7 refine g1 ?_
  refine awp_seq ?_
  refine r1 T0_ok hP hm hN ?_
  iterate 3 refine g1 ?_
  refine awp_seq ?_
  refine r1 T0_ok hP hm hN ?_
  iterate 7 refine g1 ?_
  refine awp_seq ?_
  refine r1 T0_ok hP hm hN ?_
  iterate 3 refine g1 ?_
  refine awp_seq ?_
  refine r1 T0_ok hP hm hN ?_
  iterate 7 refine g1 ?_
  refine r1 T0_ok hP hm hN ?_
  iterate 3 refine g1 ?_
  refine r1 T0_ok hP hm hN ?_
  iterate 3 refine g1 ?_
  refine ⟨xs.length - (i + 1), _, by omega, (by rw [← mix_block_set xs k hlti, brs_set, show k + 3 * ((i + 1 : Nat) : Int) = k + 3 * (i : Int) + 1 + 1 + 1 by omega]; exact weak_sl (sub_cons rfl (sub_cons rfl (sub_cons rfl (sub_nil))))), i + 1, by omega, rfl, rfl⟩
 ·
  have hgei : ¬ i < xs.length := by simp [hml] at hc0; omega
  have heqi : i = xs.length := by omega
  rw [heqi, mix_block_all]
  refine awp_exit ?_
  repeat refine thenA_exit ?_
  refine blockA_hit ?_
  refine awp_seq ?_
  refine r1 T0_ok hP hm hN ?_
  iterate 2 refine g1 ?_
  refine awp_ret ?_
  refine fin_mk [] rfl rfl ?_ (objs_cons rfl rfl rfl rfl rfl (.inl rfl) objs_nil) (by decide)
  rfl

noncomputable abbrev s_L_heldBlockS : Spec (List Blk × Int) where
  args := fun x => [.sl 3 (brs x.1), .val (.int .i64 x.2)]
  pre := fun x => x.1.length ≤ 3074457345618258602 ∧ 0 ≤ x.2 ∧ x.2 + 3 * x.1.length ≤ 4611686018427387904
  res := fun x => .val (.int .i64 (heldR_block x.1 x.2))

set_option maxRecDepth 20000 in
set_option maxHeartbeats 1000000 in
theorem ok_L_heldBlockS : FnOk Pr 15 s_L_heldBlockS := by
 refine fn_ok 2 0 T0_ok Go.Proofs.Try.func15 rfl (enters_of Go.Proofs.Try.func15 rfl rfl) (fun _ => rfl) (fun _ => rfl) (fun _ => rfl) ?_
 rintro ⟨xs, k⟩ ⟨hl, hk0, hk⟩ C hP hN hm hG
 change awp C _ _ ⟨[(0, .sl 3 (brs xs)), (1, .val (.int .i64 k))], [], 0⟩
 simp only at hl hk0 hk
 refine awp_seq ?_
 refine r1 T0_ok hP hm hN ?_
 refine g1 ?_
 refine awp_seq ?_
 refine awp_seq ?_
 refine r1 T0_ok hP hm hN ?_
 refine g1 ?_
 refine awp_block ?_
 refine awp_loop (fun n st => ∃ i : Nat, i ≤ xs.length ∧ (∀ j, j < i → xs.getD j br0 = mk_block (k + 3 * (j : Int))) ∧ n = xs.length - i ∧ st = ⟨[(5, .val (.int .i64 (i : Nat))), (1, .val (.int .i64 (k + 3 * ((i : Nat) : Int)))), (0, .sl 3 (brs xs))], [], 0⟩) (xs.length) ⟨_, (by rw [show k + 3 * ((0 : Nat) : Int) = k by omega]; exact weak_sl (sub_cons rfl (sub_cons rfl (sub_cons rfl (sub_nil))))), 0, by omega, fun j h => by omega, rfl, rfl⟩ ?_
 rintro n st ⟨i, hii, hall, hni, rfl⟩
 refine awp_seq ?_
 refine awp_seq ?_
 refine r1 T0_ok hP hm hN ?_
 iterate 4 refine g1 ?_
 refine awp_cond rfl (fun hc0 => ?_) (fun hc0 => ?_)
 ·
  have hlti : i < xs.length := by simpa using hc0
  have hgx := brs_get xs i hlti
  refine awp_skip ?_
  refine awp_seq ?_
  refine awp_block ?_
  refine awp_seq ?_
  refine awp_seq ?_
  refine r1 T0_ok hP hm hN ?_
  iterate 8 refine g1 ?_
  refine awp_cond rfl (fun hc1 => ?_) (fun hc1 => ?_)
  ·
   refine awp_seq ?_
   refine r1 T0_ok hP hm hN ?_
   refine g1 ?_
   refine awp_ret ?_
   refine fin_mk [] rfl rfl ?_ trivial (by decide)
   show D.val (.int .i64 (heldR_block xs k)) = D.val (.int .i64 (-1))
   rw [heldR_block_no hlti (fun e => by rw [e] at hc1; simp [mk_block] at hc1)]
  ·
   refine awp_skip ?_
   refine awp_seq ?_
   refine r1 T0_ok hP hm hN ?_
   iterate 3 refine g1 ?_
   refine awp_seq ?_
   refine awp_seq ?_
   refine r1 T0_ok hP hm hN ?_
   iterate 8 refine g1 ?_
   refine awp_cond rfl (fun hc2 => ?_) (fun hc2 => ?_)
   ·
    refine awp_seq ?_
    refine r1 T0_ok hP hm hN ?_
    refine g1 ?_
    refine awp_ret ?_
    refine fin_mk [] rfl rfl ?_ trivial (by decide)
    show D.val (.int .i64 (heldR_block xs k)) = D.val (.int .i64 (-1))
    rw [heldR_block_no hlti (fun e => by rw [e] at hc2; simp [mk_block] at hc2)]
   ·
    refine awp_skip ?_
    refine awp_seq ?_
    refine r1 T0_ok hP hm hN ?_
    iterate 3 refine g1 ?_
    refine awp_seq ?_
    refine awp_seq ?_
    refine r1 T0_ok hP hm hN ?_
    iterate 8 refine g1 ?_
    refine awp_cond rfl (fun hc3 => ?_) (fun hc3 => ?_)
    ·
     refine awp_seq ?_
     refine r1 T0_ok hP hm hN ?_
     refine g1 ?_
     refine awp_ret ?_
     refine fin_mk [] rfl rfl ?_ trivial (by decide)
     show D.val (.int .i64 (heldR_block xs k)) = D.val (.int .i64 (-1))
     rw [heldR_block_no hlti (fun e => by rw [e] at hc3; simp [mk_block] at hc3)]
    ·
     refine awp_skip ?_
     refine r1 T0_ok hP hm hN ?_
     iterate 3 refine g1 ?_
     refine r1 T0_ok hP hm hN ?_
     iterate 3 refine g1 ?_
     refine ⟨xs.length - (i + 1), _, by omega, (by rw [show k + 3 * ((i + 1 : Nat) : Int) = k + 3 * (i : Int) + 1 + 1 + 1 by omega]; exact weak_sl (sub_cons rfl (sub_cons rfl (sub_cons rfl (sub_nil))))), i + 1, by omega, upto_step hall (by have h1 := hc1; have h2 := hc2; have h3 := hc3; simp only [bne_eq_false_iff_eq] at h1 h2 h3; exact Prod.ext h1 (Prod.ext h2 h3)), rfl, rfl⟩
 ·
  have hgei : ¬ i < xs.length := by simpa using hc0
  have heqi : i = xs.length := by omega
  refine awp_exit ?_
  repeat refine thenA_exit ?_
  refine blockA_hit ?_
  refine awp_seq ?_
  refine r1 T0_ok hP hm hN ?_
  iterate 2 refine g1 ?_
  refine awp_ret ?_
  refine fin_mk [] rfl rfl ?_ trivial (by decide)
  show D.val (.int .i64 (heldR_block xs k)) = _
  rw [heldR_block_yes (fun j hj => hall j (by omega)), ← heqi]
  rfl

noncomputable abbrev s_L_FnExactBlocksFor : Spec (List Bk) where
  args := fun x => [.sl 8 (bks x)]
  pre := fun x => ((∀ b ∈ x, isBk b) ∧ x.length ≤ 9223372036854775807)
  res := fun x => .val (.bool true)

set_option maxRecDepth 20000 in
set_option maxHeartbeats 8000000 in
theorem ok_L_FnExactBlocksFor : FnOk Pr 4 s_L_FnExactBlocksFor := by
 refine fn_ok 1 0 T0_ok Go.Proofs.Try.func4 rfl (enters_of Go.Proofs.Try.func4 rfl rfl) (fun _ => rfl) (fun _ => rfl) (fun _ => rfl) ?_
 rintro xs ⟨hv, hl0⟩ C hP hN hm hG
 change awp C _ _ ⟨[(0, .sl 8 (bks xs))], [], 0⟩
 have hs := bfR_len xs
 refine awp_seq ?_
 refine r1 T0_ok hP hm hN ?_
 refine g1 ?_
 refine awp_seq ?_
 refine r1 T0_ok hP hm hN ?_
 refine g1 ?_
 refine awp_seq ?_
 refine r1 T0_ok hP hm hN ?_
 iterate 2 refine g1 ?_
 refine gc1 ?_ (call1 ok_L_szBookS (_, _) [] (hpre := by (try dsimp only); exact ⟨hl0, by omega, by omega⟩))
 refine g1 ?_
 refine awp_seq ?_
 refine awp_seq ?_
 refine r1 T0_ok hP hm hN ?_
 iterate 2 refine g1 ?_
 refine awp_cond rfl (fun hc0 => ?_) (fun hc0 => ?_)
 ·
  refine awp_seq ?_
  refine r1 T0_ok hP hm hN ?_
  refine g1 ?_
  refine awp_ret ?_
  refine fin_mk [] rfl rfl ?_ trivial (by decide)
  rfl
 ·
  have hl : xs.length ≤ 1048576 := by simp only [decide_eq_false_iff_not] at hc0; split at hc0 <;> omega
  refine awp_skip ?_
  refine awp_seq ?_
  refine r1 T0_ok hP hm hN ?_
  refine g1 ?_
  refine gc1 ?_ (call1 ok_L_toBookS _ [] (hpre := by (try dsimp only); exact hl))
  refine gc1 ?_ (call1 ok_S_BlocksFor _ [] (hpre := by (try dsimp only); exact ⟨hv, hl⟩) (hfo := by exact fm_cons (flat_brs _ _ _ _) fm_nil))
  iterate 5 refine g1 ?_
  refine awp_seq ?_
  refine r1 T0_ok hP hm hN ?_
  refine g1 ?_
  refine gc1 ?_ (call1 ok_L_toBookS _ [] (hpre := by (try dsimp only); exact hl))
  refine g1 ?_
  refine awp_seq ?_
  refine r1 T0_ok hP hm hN ?_
  refine g1 ?_
  refine gc1 ?_ (call1 ok_I_BlocksFor _ [] (hpre := by (try dsimp only); exact ⟨hv, hl⟩) (hfo := by exact fm_cons (flat_brs _ _ _ _) fm_nil))
  iterate 5 refine g1 ?_
  refine awp_seq ?_
  refine awp_seq ?_
  refine r1 T0_ok hP hm hN ?_
  iterate 2 refine g1 ?_
  refine gc1 ?_ (call1 ok_L_eqBlockS ((bfR xs).1, (bfR xs).1) [] (hpre := by (try dsimp only); exact ⟨by omega, by omega⟩))
  iterate 2 refine g1 ?_
  iterate 3 refine gg1 ?_
  refine g1 ?_
  refine awp_cond rfl (fun hc1 => ?_) (fun hc1 => ?_)
  ·
   exfalso; first | (simp [ask] at hc1; done) | (simp [ask] at hc1; omega)
  ·
   refine awp_skip ?_
   refine awp_seq ?_
   refine awp_seq ?_
   refine r1 T0_ok hP hm hN ?_
   iterate 2 refine g1 ?_
   refine gc1 ?_ (call1 ok_L_toBookS _ [] (hpre := by (try dsimp only); exact hl))
   refine gc1 ?_ (call1 ok_L_eqBookS (_, _) [] (hpre := by (try dsimp only); exact ⟨by omega, by omega⟩))
   refine g1 ?_
   refine awp_cond rfl (fun hc2 => ?_) (fun hc2 => ?_)
   ·
    exfalso; first | (simp [ask] at hc2; done) | (simp [ask] at hc2; omega)
   ·
    refine awp_skip ?_
    refine awp_seq ?_
    refine r1 T0_ok hP hm hN ?_
    refine g1 ?_
    refine awp_seq ?_
    refine r1 T0_ok hP hm hN ?_
    iterate 2 refine g1 ?_
    refine gc1 ?_ (call1 ok_L_markBookS (xs, _) [2] (hpre := by (try dsimp only); exact ⟨by omega, by omega, by omega⟩))
    refine g1 ?_
    refine awp_seq ?_
    refine awp_seq ?_
    refine r1 T0_ok hP hm hN ?_
    iterate 3 refine g1 ?_
    iterate 2 refine gg1 ?_
    refine ggc1 ?_ (hs := by intro hb; simp +decide only [hb, gd_tt, gd_ff, beq_self_eq_true, Bool.true_and, beq_true]; exact ⟨rfl, _, call1 ok_L_eqBlockS ((bfR xs).1, (bfR xs).1) [] (hpre := by (try dsimp only); exact ⟨by omega, by omega⟩), rfl, rfl, rfl⟩)
    refine gg1 ?_
    iterate 2 refine g1 ?_
    iterate 3 refine gg1 ?_
    refine g1 ?_
    refine awp_cond rfl (fun hc3 => ?_) (fun hc3 => ?_)
    ·
     exfalso; first | (simp [ask] at hc3; done) | (simp [ask] at hc3; omega)
    ·
     refine awp_skip ?_
     refine awp_seq ?_
     refine r1 T0_ok hP hm hN ?_
     refine g1 ?_
     refine awp_seq ?_
     refine r1 T0_ok hP hm hN ?_
     iterate 2 refine g1 ?_
     refine gc1 ?_ (call1 ok_L_markBlockS ((bfR xs).1, _) [3] (hpre := by (try dsimp only); exact ⟨by omega, by omega, by omega⟩) (hfo := by intro o ho; first | cases ho; done | (simp only [List.mem_append, List.mem_cons, List.not_mem_nil, or_false, false_or] at ho; (try rcases ho with rfl | rfl); (try subst ho); exact flat_brs _ _ _ _) | (simp only [List.nil_append, List.mem_singleton] at ho; subst ho; exact flat_brs _ _ _ _)))
     refine g1 ?_
     refine awp_seq ?_
     refine r1 T0_ok hP hm hN ?_
     refine g1 ?_
     refine awp_seq ?_
     refine r1 T0_ok hP hm hN ?_
     iterate 2 refine g1 ?_
     refine gc1 ?_ (call1 ok_L_heldBlockS (mkd_block (bfR xs).1.length 1, _) [] (hpre := by (try dsimp only); exact ⟨by rw [mkd_block_len]; omega, by omega, by rw [mkd_block_len]; omega⟩)) (hst := by simp +decide (disch := omega) only [nrm, lk_nrm, dc_nrm, mk_nrm, mf_nrm, ti_nrm, ls_nrm, mp_nrm, nb_nrm, hset, pick_and, pick_or, ↓reduceIte, Nat.reduceAdd, wI64, wI32, wI16, wI8, wU8, List.length_map, Int.toNat_natCast, xn1, xn2, heldR_block_mkd]; rfl)
     refine g1 ?_
     refine awp_seq ?_
     refine awp_seq ?_
     refine r1 T0_ok hP hm hN ?_
     iterate 2 refine g1 ?_
     refine awp_cond rfl (fun hc4 => ?_) (fun hc4 => ?_)
     ·
      exfalso; first | (simp [ask] at hc4; done) | (simp [ask] at hc4; omega)
     ·
      refine awp_skip ?_
      refine awp_seq ?_
      refine awp_seq ?_
      refine r1 T0_ok hP hm hN ?_
      iterate 3 refine g1 ?_
      refine awp_cond rfl (fun hc5 => ?_) (fun hc5 => ?_)
      ·
       exfalso; first | (simp [ask] at hc5; done) | (simp [ask] at hc5; omega)
      ·
       refine awp_skip ?_
       refine awp_seq ?_
       refine r1 T0_ok hP hm hN ?_
       refine g1 ?_
       refine gc1 ?_ (call1 ok_L_toBookS _ [] (hpre := by (try dsimp only); exact hl))
       refine gc1 ?_ (call1 ok_I_BlocksFor _ [] (hpre := by (try dsimp only); exact ⟨hv, hl⟩) (hfo := by exact fm_cons (flat_brs _ _ _ _) fm_nil))
       iterate 5 refine g1 ?_
       refine awp_seq ?_
       refine awp_seq ?_
       refine r1 T0_ok hP hm hN ?_
       iterate 2 refine g1 ?_
       refine gc1 ?_ (call1 ok_L_eqBlockS ((bfR xs).1, (bfR xs).1) [] (hpre := by (try dsimp only); exact ⟨by omega, by omega⟩))
       iterate 2 refine g1 ?_
       iterate 3 refine gg1 ?_
       refine g1 ?_
       refine awp_cond rfl (fun hc6 => ?_) (fun hc6 => ?_)
       ·
        exfalso; first | (simp [ask] at hc6; done) | (simp [ask] at hc6; omega)
       ·
        refine awp_skip ?_
        refine awp_seq ?_
        refine r1 T0_ok hP hm hN ?_
        refine g1 ?_
        refine awp_seq ?_
        refine r1 T0_ok hP hm hN ?_
        iterate 2 refine g1 ?_
        refine gc1 ?_ (call1 ok_L_heldBlockS (mkd_block (bfR xs).1.length 1, _) [] (hpre := by (try dsimp only); exact ⟨by rw [mkd_block_len]; omega, by omega, by rw [mkd_block_len]; omega⟩)) (hst := by simp +decide (disch := omega) only [nrm, lk_nrm, dc_nrm, mk_nrm, mf_nrm, ti_nrm, ls_nrm, mp_nrm, nb_nrm, hset, pick_and, pick_or, ↓reduceIte, Nat.reduceAdd, wI64, wI32, wI16, wI8, wU8, List.length_map, Int.toNat_natCast, xn1, xn2, heldR_block_mkd]; rfl)
        refine g1 ?_
        refine awp_seq ?_
        refine awp_seq ?_
        refine r1 T0_ok hP hm hN ?_
        iterate 2 refine g1 ?_
        refine awp_cond rfl (fun hc7 => ?_) (fun hc7 => ?_)
        ·
         exfalso; first | (simp [ask] at hc7; done) | (simp [ask] at hc7; omega)
        ·
         refine awp_skip ?_
         refine awp_seq ?_
         refine awp_seq ?_
         refine r1 T0_ok hP hm hN ?_
         iterate 3 refine g1 ?_
         refine awp_cond rfl (fun hc8 => ?_) (fun hc8 => ?_)
         ·
          exfalso; first | (simp [ask] at hc8; done) | (simp [ask] at hc8; omega)
         ·
          refine awp_skip ?_
          refine awp_seq ?_
          refine r1 T0_ok hP hm hN ?_
          refine g1 ?_
          refine awp_ret ?_
          refine fin_mk [] rfl rfl ?_ trivial (by decide)
          rfl
end Go.Proofs.Ytjkhgcmdcjdipaa.Abs
