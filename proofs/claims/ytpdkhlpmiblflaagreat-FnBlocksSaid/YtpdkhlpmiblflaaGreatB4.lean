import Derived.Test.YtpdkhlpmiblflaaGreatB1
set_option linter.unusedVariables false
set_option linter.unusedSimpArgs false
namespace Go.Proofs.YtpdkhlpmiblflaaGreat.Abs
open Go Go.RowKit
noncomputable abbrev s_slices_Clone_I_Book_I_Book : Spec (List Bk) where
  args := fun xs => [.sl 8 (bks xs)]
  pre := fun xs => xs.length ≤ 1048576
  new := fun xs => [⟨73, 8, false, bks xs⟩]
  res := fun xs => .own 0

set_option maxRecDepth 20000 in
set_option maxHeartbeats 1000000 in
theorem ok_slices_Clone_I_Book_I_Book : FnOk Pr 67 s_slices_Clone_I_Book_I_Book := by
 refine fn_ok 1 0 T0_ok Go.Proofs.Tryz.func67 rfl (enters_of Go.Proofs.Tryz.func67 rfl rfl) (fun _ => rfl) (fun _ => rfl) (fun _ => rfl) ?_
 rintro xs hl C hP hN hm hG
 change awp C _ _ ⟨[(0, .sl 8 (bks xs))], [], 0⟩
 have hl : xs.length ≤ 1048576 := hl
 refine awp_seq ?_
 refine r1 T0_ok hP hm hN ?_
 refine g1 ?_
 refine awp_seq ?_
 refine awp_seq ?_
 refine awp_sreg rfl ?_
 refine sg1 T0_ok hP hm hN ?_
 refine sreg_nilcmp T0_ok hP hN (by decide) rfl rfl (fun bz hbz => ?_)
 refine sreg_rest T0_ok hP hm hN ?_
 refine awp_cond rfl (fun hc0 => ?_) (fun hc0 => ?_)
 ·
  have hxs : xs = [] := by have h := hbz hc0; simpa using h
  subst hxs
  refine awp_seq ?_
  refine r1 T0_ok hP hm hN ?_
  refine g1 ?_
  refine awp_weak (weak_nil 2 73 8 rfl) ?_
  refine awp_ret ?_
  refine fin_mk [0] rfl rfl ?_ (objs_cons rfl rfl rfl rfl rfl (.inl rfl) objs_nil) (by decide)
  rfl
 ·
  refine awp_skip ?_
  refine awp_seq ?_
  refine r1 T0_ok hP hm hN ?_
  iterate 2 refine g1 ?_
  refine ga1 ?_
  refine g1 ?_
  refine awp_ret ?_
  refine fin_mk [0] rfl rfl ?_ (objs_cons rfl rfl rfl rfl rfl (.inl rfl) objs_nil) (by decide)
  rfl

theorem splice_map {α β : Type} (f : α → β) (l : List α) (p : Nat) (m : List α) : splice (l.map f) p (m.map f) = (splice l p m).map f := by simp [splice]
def carried {α : Type} (xs : List α) (i c t : Nat) : List α := (xs.take i ++ xs.drop (i + c)).take t ++ (xs.drop i).take c ++ (xs.take i ++ xs.drop (i + c)).drop t
theorem del_eq {α : Type} (z : α) (xs : List α) {i c : Nat} (hc : i + c ≤ xs.length) : splice (splice xs i (xs.drop (i + c))) (xs.length - c) (List.replicate c z) = (xs.take i ++ xs.drop (i + c)) ++ List.replicate c z := by
  have h1 : splice xs i (xs.drop (i + c)) = (xs.take i ++ xs.drop (i + c)) ++ xs.drop (xs.length - c) := by
    unfold splice
    congr 2
    simp; omega
  have hl : (xs.take i ++ xs.drop (i + c)).length = xs.length - c := by simp; omega
  rw [h1]
  unfold splice
  rw [List.take_append_of_le_length (by rw [hl]; exact Nat.le_refl _), List.take_of_length_le (by rw [hl]; exact Nat.le_refl _), List.length_replicate]
  have hd : ((xs.take i ++ xs.drop (i + c)) ++ xs.drop (xs.length - c)).drop (xs.length - c + c) = [] := List.drop_of_length_le (by rw [List.length_append, hl, List.length_drop]; omega)
  rw [hd, List.append_nil]
theorem ins_eq {α : Type} (rest own : List α) (tail : List α) {t : Nat} (ht : t < rest.length) (htl : tail.length = own.length) :
    splice (splice (rest ++ tail) (t + own.length) (((rest ++ tail).drop t).take (rest.length - t))) t own = rest.take t ++ own ++ rest.drop t := by
  have e1 : ((rest ++ tail).drop t).take (rest.length - t) = rest.drop t := by
    rw [List.drop_append_of_le_length (by omega), List.take_append_of_le_length (by simp), List.take_of_length_le (by simp)]
  have e2 : splice (rest ++ tail) (t + own.length) (rest.drop t) = (rest ++ tail).take (t + own.length) ++ rest.drop t := by
    unfold splice
    have hd : (rest ++ tail).drop (t + own.length + (rest.drop t).length) = [] := List.drop_of_length_le (by rw [List.length_append, List.length_drop]; omega)
    rw [hd, List.append_nil]
  rw [e1, e2]
  unfold splice
  have hl : ((rest ++ tail).take (t + own.length)).length = t + own.length := by simp; omega
  rw [List.take_append_of_le_length (by omega), List.take_take, Nat.min_eq_left (by omega), List.take_append_of_le_length (by omega)]
  congr 1
  exact List.drop_left' hl

theorem del_rows {α : Type} (f : α → List D) (z : α) (xs : List α) {i j : Nat} (hij : i < j) (hj : j ≤ xs.length) : splice (splice (xs.map f) i (((xs.map f).drop j).take (xs.length - j))) (i + (xs.length - j)) (List.replicate (j - i) (f z)) = (xs.take i ++ xs.drop j ++ List.replicate (j - i) z).map f := by
  obtain ⟨c, rfl⟩ : ∃ c, j = i + c := ⟨j - i, by omega⟩
  rw [← List.map_drop, List.take_of_length_le (by simp), splice_map, Nat.add_sub_cancel_left, map_rep, splice_map, show i + (xs.length - (i + c)) = xs.length - c by omega, del_eq z xs hj]
theorem ins_rowsA {α : Type} (f : α → List D) (rest tail vs : List α) (h : tail.length = vs.length) : splice ((rest ++ tail).map f) rest.length (vs.map f) = (rest.take rest.length ++ vs ++ rest.drop rest.length).map f := by
  rw [splice_map]
  congr 1
  unfold splice
  rw [List.take_append_of_le_length (Nat.le_refl _), List.drop_of_length_le (l := rest ++ tail) (by rw [List.length_append]; omega), List.drop_of_length_le (Nat.le_refl _)]
theorem ins_rowsB {α : Type} (f : α → List D) (rest tail vs : List α) {i : Nat} (hi : i < rest.length) (h : tail.length = vs.length) : splice (splice ((rest ++ tail).map f) (i + vs.length) (((((rest ++ tail).map f).drop i).take ((rest ++ tail).length - i)).take ((rest ++ tail).length - (i + vs.length)))) i ((vs.map f).take vs.length) = (rest.take i ++ vs ++ rest.drop i).map f := by
  rw [← List.map_drop, List.take_of_length_le (i := (rest ++ tail).length - i) (by simp), ← List.map_take, splice_map, List.take_of_length_le (l := vs.map f) (by simp), splice_map, show (rest ++ tail).length - (i + vs.length) = rest.length - i by rw [List.length_append]; omega, ins_eq rest vs tail hi h]

noncomputable abbrev s_slices_Delete_I_Book_I_Book0 : Spec (List Bk × Nat × Nat) where
  args := fun x => [.own 0, .val (.int .i64 ((x.2.1 : Nat) : Int)), .val (.int .i64 ((x.2.2 : Nat) : Int))]
  pre := fun x => x.2.1 < x.2.2 ∧ x.2.2 ≤ x.1.length ∧ x.1.length ≤ 1048576
  obs := fun x => [⟨73, 8, false, bks x.1⟩]
  out := fun x => [⟨73, 8, false, splice (splice (bks x.1) x.2.1 (((bks x.1).drop x.2.2).take (x.1.length - x.2.2))) (x.2.1 + (x.1.length - x.2.2)) (List.replicate (x.2.2 - x.2.1) (bkRow bk0))⟩]
  res := fun x => .vw 0 0 (x.2.1 + (x.1.length - x.2.2))

set_option maxRecDepth 20000 in
set_option maxHeartbeats 1000000 in
theorem ok_slices_Delete_I_Book_I_Book0 : FnOk Pr 69 s_slices_Delete_I_Book_I_Book0 := by
 refine fn_ok 3 1 T0_ok Go.Proofs.Tryz.func69 rfl (enters_of Go.Proofs.Tryz.func69 rfl rfl) (fun _ => rfl) (fun _ => rfl) (fun _ => rfl) ?_
 rintro ⟨xs, i, j⟩ ⟨hij, hj, hl⟩ C hP hN hm hG
 change awp C _ _ ⟨[(0, .own 0), (1, .val (.int .i64 ((i : Nat) : Int))), (2, .val (.int .i64 ((j : Nat) : Int)))], [(0, ⟨73, 8, false, (bks xs)⟩)], 1⟩
 simp only at hij hj hl
 have htl : (List.take (xs.length - j) (List.drop j (bks xs))).length = xs.length - j := by simp
 have hsp : i + (List.take (xs.length - j) (List.drop j (bks xs))).length ≤ ((bks xs)).length := by rw [htl, List.length_map]; omega
 refine awp_seq ?_
 refine r1 T0_ok hP hm hN ?_
 refine g1 ?_
 refine awp_seq ?_
 refine r1 T0_ok hP hm hN ?_
 iterate 5 refine g1 ?_
 refine gc1 ?_ (oprel_slice3 T0_ok rfl rfl rfl rfl rfl rfl rfl rfl (by omega) (by omega) (by omega) (by simp only [List.length_map]; omega))
 refine awp_seq ?_
 refine awp_seq ?_
 refine r1 T0_ok hP hm hN ?_
 iterate 3 refine g1 ?_
 refine awp_cond rfl (fun hc0 => ?_) (fun hc0 => ?_)
 ·
  exfalso; simp at hc0; omega
 ·
  refine awp_skip ?_
  refine awp_seq ?_
  refine r1 T0_ok hP hm hN ?_
  iterate 3 refine g1 ?_
  refine awp_seq ?_
  refine awp_drawS T0_ok hP hm hN Pr_mix [0, 1, 2, 3, 4, 5, 6, 7, 8, 9, 10, 11] [] 6 _ rfl rfl rfl (by rfl) ?_
  iterate 2 refine d1 T0_ok ?_
  refine d1 T0_ok ?_ (hdn := by simp +decide (disch := omega) only [nrm, lk_nrm, dc_nrm, mk_nrm, mf_nrm, ti_nrm, ls_nrm, mp_nrm, nb_nrm, hset, pick_and, pick_or, ↓reduceIte, Nat.reduceAdd, wI64, wI32, wI16, wI8, wU8, List.length_map, Int.toNat_natCast, xn1, xn2, mask_nrm, Int.toNat_zero, Nat.sub_zero]; rfl) (hsl := by simp +decide (disch := omega) only [nrm, lk_nrm, dc_nrm, mk_nrm, mf_nrm, ti_nrm, ls_nrm, mp_nrm, nb_nrm, hset, pick_and, pick_or, ↓reduceIte, Nat.reduceAdd, wI64, wI32, wI16, wI8, wU8, List.length_map, Int.toNat_natCast, xn1, xn2, mask_nrm, Int.toNat_zero, Nat.sub_zero]; rfl)
  iterate 3 refine d1 T0_ok ?_
  refine dreg_nil ?_
  refine gc1 ?cont (oprel_app_vw T0_ok rfl rfl rfl rfl rfl rfl rfl rfl (by rfl) ?hf ?hn)
  case hf => (simp only [List.length_take, List.length_drop, List.length_map]; omega)
  case hn => (simp only [List.length_take, List.length_drop, List.length_map]; omega)
  refine g1 ?_
  refine awp_seq ?_
  refine r1 T0_ok hP hm hN ?_
  iterate 4 refine g1 ?_
  refine g1 ?_ (hpre := by exact ⟨rfl, by omega, by omega, .inr (by simp only [splice_len hsp, List.length_map]; omega)⟩)
  refine gc1 ?_ (oprel_clear_vw T0_ok rfl rfl rfl rfl rfl rfl rfl (by (simp only [List.length_take, List.length_drop, List.length_map]; omega)) rfl rfl)
  refine awp_seq ?_
  refine r1 T0_ok hP hm hN ?_
  iterate 2 refine g1 ?_
  refine awp_ret ?_
  refine fin_mk [] rfl rfl ?_ (objs_cons rfl rfl rfl (by show splice (splice _ _ _) _ _ = splice (splice _ _ _) _ _; rw [htl, Nat.zero_add, show xs.length - (i + (xs.length - j)) = j - i by omega]; rfl) rfl (.inl rfl) objs_nil) (by decide)
  show D.vw 0 0 (i + (xs.length - j)) = D.vw 0 0 (i + (List.take (xs.length - j) (List.drop j (bks xs))).length)
  rw [htl]

noncomputable abbrev s_slices_Delete_I_Book_I_Book : Spec (List Bk × Nat × Nat) where
  args := fun x => [.own 0, .val (.int .i64 ((x.2.1 : Nat) : Int)), .val (.int .i64 ((x.2.2 : Nat) : Int))]
  pre := fun x => x.2.1 < x.2.2 ∧ x.2.2 ≤ x.1.length ∧ x.1.length ≤ 1048576
  obs := fun x => [⟨73, 8, false, bks (x.1)⟩]
  out := fun x => [⟨73, 8, false, bks (x.1.take x.2.1 ++ x.1.drop x.2.2 ++ List.replicate (x.2.2 - x.2.1) bk0)⟩]
  res := fun x => .vw 0 0 (x.2.1 + (x.1.length - x.2.2))
theorem ok_slices_Delete_I_Book_I_Book : FnOk Pr 69 s_slices_Delete_I_Book_I_Book := FnOk.sub ok_slices_Delete_I_Book_I_Book0 (fun ⟨xs, i, j⟩ ⟨h1, h2, h3⟩ => ⟨(xs, i, j), ⟨h1, h2, h3⟩, rfl, rfl, congrArg (fun r => [(⟨73, 8, false, r⟩ : Ob)]) (del_rows bkRow bk0 xs h1 h2), rfl, rfl⟩)

set_option maxRecDepth 100000 in
theorem hov_book (args : Array Value) (w : World) : (callFunc 87 args).run Pr w = ((Extern.SlicesOverlaps.overlaps #[24, 24] #[4] args).run Pr w).andThen fun v w' => .ok (.value v) w' :=
  run_callFunc_extern Go.Proofs.Tryz.func87 (by kernel_rfl) (by kernel_rfl) (by kernel_rfl) (e := Extern.SlicesOverlaps.overlaps #[24, 24] #[4]) (by kernel_rfl) args w

noncomputable abbrev s_slices_Insert_I_Book_I_Book0 : Spec (List Bk × Nat × List Bk × Nat) where
  args := fun x => [.vw 0 0 x.2.1, .val (.int .i64 ((x.2.2.2 : Nat) : Int)), .own 1]
  pre := fun x => 0 < x.2.2.1.length ∧ x.1.length = x.2.1 + x.2.2.1.length ∧ x.2.2.2 ≤ x.2.1 ∧ x.1.length ≤ 1048576
  obs := fun x => [⟨73, 8, false, bks x.1⟩, ⟨73, 8, false, bks x.2.2.1⟩]
  out := fun x => [⟨73, 8, false, (if x.2.2.2 = x.2.1 then splice (bks x.1) x.2.1 (bks x.2.2.1) else splice (splice (bks x.1) (x.2.2.2 + x.2.2.1.length) ((((bks x.1).drop x.2.2.2).take (x.1.length - x.2.2.2)).take (x.1.length - (x.2.2.2 + x.2.2.1.length)))) x.2.2.2 ((bks x.2.2.1).take x.2.2.1.length))⟩, ⟨73, 8, false, bks x.2.2.1⟩]
  res := fun x => .vw 0 0 (x.2.1 + x.2.2.1.length)

set_option maxRecDepth 20000 in
set_option maxHeartbeats 4000000 in
theorem ok_slices_Insert_I_Book_I_Book0 : FnOk Pr 68 s_slices_Insert_I_Book_I_Book0 := by
 refine fn_ok 3 2 T0_ok Go.Proofs.Tryz.func68 rfl (enters_of Go.Proofs.Tryz.func68 rfl rfl) (fun _ => rfl) (fun _ => rfl) (fun _ => rfl) ?_
 rintro ⟨zs, n, vs, i⟩ ⟨hv0, hzl, hin, hl⟩ C hP hN hm hG
 change awp C _ _ ⟨[(0, .vw 0 0 n), (1, .val (.int .i64 ((i : Nat) : Int))), (2, .own 1)], [(0, ⟨73, 8, false, (bks zs)⟩), (1, ⟨73, 8, false, (bks vs)⟩)], 2⟩
 simp only at hv0 hzl hin hl
 have hA1 : 0 + Int.toNat 0 + ((i : Int) + (vs.length : Int)).toNat = i + vs.length := by omega
 have hA2 : ((n : Int) + (vs.length : Int)).toNat - Int.toNat 0 - i = zs.length - i := by omega
 have hA3 : 0 + Int.toNat 0 + i = i := by omega
 refine awp_seq ?_
 refine r1 T0_ok hP hm hN ?_
 refine g1 ?_
 refine awp_seq ?_
 refine r1 T0_ok hP hm hN ?_
 iterate 3 refine g1 ?_
 refine awp_seq ?_
 refine r1 T0_ok hP hm hN ?_
 iterate 3 refine g1 ?_
 refine awp_seq ?_
 refine awp_seq ?_
 refine r1 T0_ok hP hm hN ?_
 iterate 2 refine g1 ?_
 refine awp_cond rfl (fun hc0 => ?_) (fun hc0 => ?_)
 ·
  exfalso; simp at hc0; rw [hc0] at hv0; simp at hv0
 ·
  refine awp_skip ?_
  refine awp_seq ?_
  refine r1 T0_ok hP hm hN ?_
  iterate 3 refine g1 ?_
  refine awp_seq ?_
  refine awp_seq ?_
  refine r1 T0_ok hP hm hN ?_
  iterate 3 refine g1 ?_
  refine awp_cond rfl (fun hc1 => ?_) (fun hc1 => ?_)
  ·
   have hie : i = n := by simp at hc1; omega
   subst hie
   refine awp_seq ?_
   refine r1 T0_ok hP hm hN ?_
   iterate 2 refine g1 ?_
   refine gc1 ?_ (oprel_app_vw T0_ok rfl rfl rfl rfl rfl rfl rfl rfl (by rfl) ?_ ?_)
   rotate_left 1
   · exact (by simp only [List.length_map, hzl]; omega)
   · exact (by simp only [List.length_map, hzl]; omega)
   refine g1 ?_
   refine awp_ret ?_
   refine fin_mk [] rfl rfl ?_ (by first | (simp only [if_neg hie]; exact objs_cons rfl rfl rfl (by show splice _ _ _ = splice _ _ _; rw [hA1, hA2, hA3]) rfl (.inl rfl) (objs_cons rfl rfl rfl rfl rfl (.inl rfl) objs_nil)) | (simp only [if_true, ↓reduceIte]; exact objs_cons rfl rfl rfl rfl rfl (.inl rfl) (objs_cons rfl rfl rfl rfl rfl (.inl rfl) objs_nil))) (by decide)
   rfl
  ·
   have hie : ¬ i = n := by simp at hc1; omega
   refine awp_skip ?_
   refine awp_seq ?_
   refine awp_seq ?_
   refine awp_sreg rfl ?_
   refine sg1 T0_ok hP hm hN ?_
   refine sg1 T0_ok hP hm hN ?_
   refine sg1 T0_ok hP hm hN ?_
   refine sg1 T0_ok hP hm hN ?_
   refine sreg_cap T0_ok hP hN (by decide) rfl rfl rfl (fun cz hcz1 hcz2 => ?_)
   refine sreg_rest T0_ok hP hm hN ?_
   refine g1 ?_
   refine awp_cond rfl (fun hc2 => ?_) (fun hc2 => ?_)
   ·
    exfalso; simp only [decide_eq_true_eq] at hc2; simp only [List.length_map] at hcz1; omega
   ·
    refine awp_skip ?_
    refine awp_seq ?_
    refine r1 T0_ok hP hm hN ?_
    iterate 6 refine g1 ?_
    refine awp_seq ?_
    refine awp_seq ?_
    refine r1 T0_ok hP hm hN ?_
    iterate 6 refine g1 ?_
    refine gc1 ?_ (oprel_overlaps T0_ok rfl hov_book rfl rfl rfl rfl (by decide) ?_ ?_ rfl rfl rfl (by decide))
    rotate_left 1
    · exact (by ((try simp only [List.length_take, List.length_drop, List.length_map]); omega))
    · exact (by ((try simp only [List.length_take, List.length_drop, List.length_map]); omega))
    refine g1 ?_
    refine awp_cond rfl (fun h68 => ?_) (fun h68 => ?_)
    ·
     refine awp_seq ?_
     refine awp_any hP Pr_mix _ rfl 9 rfl ?_
     refine anyS_float T0_ok hP hm hN (by rfl) 0 rfl rfl rfl (by rfl) (by rfl) (by rfl) ?_
     refine g1 ?_
     refine anyS_float T0_ok hP hm hN (by rfl) 1 rfl rfl rfl (by rfl) (by rfl) (by rfl) ?_
     refine g1 ?_
     refine anyS_float T0_ok hP hm hN (by rfl) 2 rfl rfl rfl (by rfl) (by rfl) (by rfl) ?_
     refine g1 ?_
     refine anyS_float T0_ok hP hm hN (by rfl) 5 rfl rfl rfl (by rfl) (by rfl) (by rfl) ?_
     refine g1 ?_
     refine anyS_float T0_ok hP hm hN (by rfl) 6 rfl rfl rfl (by rfl) (by rfl) (by rfl) ?_
     refine g1 ?_
     refine anyS_cons T0_ok hP hm hN (by rfl) [3, 7] (by rfl) rfl ?_
     refine ⟨⟨_, rfl, rfl, ?_⟩, ?_⟩
     ·
      refine g1 ?_
      refine anyS_cons T0_ok hP hm hN (by rfl) [4, 7] (by rfl) rfl ?_
      refine ⟨⟨_, rfl, rfl, ?_⟩, ?_⟩
      ·
       refine g1 ?_
       refine anyS_cons T0_ok hP hm hN (by rfl) [7] (by rfl) rfl ?_
       refine ⟨⟨_, rfl, rfl, ?_⟩, trivial⟩
       refine g1 ?_
       refine anyS_cons T0_ok hP hm hN (by rfl) [8] (by rfl) rfl ?_
       refine ⟨⟨_, rfl, rfl, ?_⟩, trivial⟩
       refine gc1 ?_ (oprel_copy_vw (q := zs.length - (i + vs.length)) T0_ok rfl rfl rfl rfl rfl rfl rfl rfl (by rfl) ?_ ?_ ?_)
       rotate_left 1
       · exact (by ((try simp only [List.length_take, List.length_drop, List.length_map]); omega))
       · exact (by ((try simp only [List.length_take, List.length_drop, List.length_map]); omega))
       · exact (by ((try simp only [List.length_take, List.length_drop, List.length_map]); omega))
       refine anyS_done (by rfl) ?_
       refine awp_seq ?_
       refine r1 T0_ok hP hm hN ?_
       iterate 4 refine g1 ?_
       refine gc1 ?_ (oprel_copy_vw (q := vs.length) T0_ok rfl rfl rfl rfl rfl rfl rfl rfl (by rfl) ?_ ?_ ?_)
       rotate_left 1
       · exact (by ((try simp only [List.length_take, List.length_drop, List.length_map]); omega))
       · exact (by ((try simp only [List.length_take, List.length_drop, List.length_map]); omega))
       · exact (by ((try simp only [List.length_take, List.length_drop, List.length_map]); omega))
       refine awp_seq ?_
       refine r1 T0_ok hP hm hN ?_
       iterate 2 refine g1 ?_
       refine awp_ret ?_
       refine fin_mk [] rfl rfl ?_ (by first | (simp only [if_neg hie]; exact objs_cons rfl rfl rfl (by show splice _ _ _ = splice _ _ _; rw [hA1, hA2, hA3]) rfl (.inl rfl) (objs_cons rfl rfl rfl rfl rfl (.inl rfl) objs_nil)) | (simp only [if_true, ↓reduceIte]; exact objs_cons rfl rfl rfl rfl rfl (.inl rfl) (objs_cons rfl rfl rfl rfl rfl (.inl rfl) objs_nil))) (by decide)
       rfl
      refine ⟨⟨_, rfl, rfl, ?_⟩, trivial⟩
      refine g1 ?_
      refine anyS_cons T0_ok hP hm hN (by rfl) [4] (by rfl) rfl ?_
      refine ⟨⟨_, rfl, rfl, ?_⟩, trivial⟩
      refine g1 ?_
      refine anyS_cons T0_ok hP hm hN (by rfl) [8] (by rfl) rfl ?_
      refine ⟨⟨_, rfl, rfl, ?_⟩, trivial⟩
      refine gc1 ?_ (oprel_copy_vw (q := zs.length - (i + vs.length)) T0_ok rfl rfl rfl rfl rfl rfl rfl rfl (by rfl) ?_ ?_ ?_)
      rotate_left 1
      · exact (by ((try simp only [List.length_take, List.length_drop, List.length_map]); omega))
      · exact (by ((try simp only [List.length_take, List.length_drop, List.length_map]); omega))
      · exact (by ((try simp only [List.length_take, List.length_drop, List.length_map]); omega))
      refine anyS_done (by rfl) ?_
      refine awp_seq ?_
      refine r1 T0_ok hP hm hN ?_
      iterate 4 refine g1 ?_
      refine gc1 ?_ (oprel_copy_vw (q := vs.length) T0_ok rfl rfl rfl rfl rfl rfl rfl rfl (by rfl) ?_ ?_ ?_)
      rotate_left 1
      · exact (by ((try simp only [List.length_take, List.length_drop, List.length_map]); omega))
      · exact (by ((try simp only [List.length_take, List.length_drop, List.length_map]); omega))
      · exact (by ((try simp only [List.length_take, List.length_drop, List.length_map]); omega))
      refine awp_seq ?_
      refine r1 T0_ok hP hm hN ?_
      iterate 2 refine g1 ?_
      refine awp_ret ?_
      refine fin_mk [] rfl rfl ?_ (by first | (simp only [if_neg hie]; exact objs_cons rfl rfl rfl (by show splice _ _ _ = splice _ _ _; rw [hA1, hA2, hA3]) rfl (.inl rfl) (objs_cons rfl rfl rfl rfl rfl (.inl rfl) objs_nil)) | (simp only [if_true, ↓reduceIte]; exact objs_cons rfl rfl rfl rfl rfl (.inl rfl) (objs_cons rfl rfl rfl rfl rfl (.inl rfl) objs_nil))) (by decide)
      rfl
     refine ⟨⟨_, rfl, rfl, ?_⟩, trivial⟩
     refine g1 ?_
     refine anyS_cons T0_ok hP hm hN (by rfl) [3] (by rfl) rfl ?_
     refine ⟨⟨_, rfl, rfl, ?_⟩, trivial⟩
     refine g1 ?_
     refine anyS_cons T0_ok hP hm hN (by rfl) [4] (by rfl) rfl ?_
     refine ⟨⟨_, rfl, rfl, ?_⟩, trivial⟩
     refine g1 ?_
     refine anyS_cons T0_ok hP hm hN (by rfl) [8] (by rfl) rfl ?_
     refine ⟨⟨_, rfl, rfl, ?_⟩, trivial⟩
     refine gc1 ?_ (oprel_copy_vw (q := zs.length - (i + vs.length)) T0_ok rfl rfl rfl rfl rfl rfl rfl rfl (by rfl) ?_ ?_ ?_)
     rotate_left 1
     · exact (by ((try simp only [List.length_take, List.length_drop, List.length_map]); omega))
     · exact (by ((try simp only [List.length_take, List.length_drop, List.length_map]); omega))
     · exact (by ((try simp only [List.length_take, List.length_drop, List.length_map]); omega))
     refine anyS_done (by rfl) ?_
     refine awp_seq ?_
     refine r1 T0_ok hP hm hN ?_
     iterate 4 refine g1 ?_
     refine gc1 ?_ (oprel_copy_vw (q := vs.length) T0_ok rfl rfl rfl rfl rfl rfl rfl rfl (by rfl) ?_ ?_ ?_)
     rotate_left 1
     · exact (by ((try simp only [List.length_take, List.length_drop, List.length_map]); omega))
     · exact (by ((try simp only [List.length_take, List.length_drop, List.length_map]); omega))
     · exact (by ((try simp only [List.length_take, List.length_drop, List.length_map]); omega))
     refine awp_seq ?_
     refine r1 T0_ok hP hm hN ?_
     iterate 2 refine g1 ?_
     refine awp_ret ?_
     refine fin_mk [] rfl rfl ?_ (by first | (simp only [if_neg hie]; exact objs_cons rfl rfl rfl (by show splice _ _ _ = splice _ _ _; rw [hA1, hA2, hA3]) rfl (.inl rfl) (objs_cons rfl rfl rfl rfl rfl (.inl rfl) objs_nil)) | (simp only [if_true, ↓reduceIte]; exact objs_cons rfl rfl rfl rfl rfl (.inl rfl) (objs_cons rfl rfl rfl rfl rfl (.inl rfl) objs_nil))) (by decide)
     rfl
    ·
     exfalso; simp at h68

noncomputable abbrev s_slices_Insert_I_Book_I_Book : Spec (List Bk × List Bk × List Bk × Nat) where
  args := fun x => [.vw 0 0 x.1.length, .val (.int .i64 ((x.2.2.2 : Nat) : Int)), .own 1]
  pre := fun x => 0 < x.2.2.1.length ∧ x.2.1.length = x.2.2.1.length ∧ x.2.2.2 ≤ x.1.length ∧ x.1.length + x.2.2.1.length ≤ 1048576
  obs := fun x => [⟨73, 8, false, bks (x.1 ++ x.2.1)⟩, ⟨73, 8, false, bks (x.2.2.1)⟩]
  out := fun x => [⟨73, 8, false, bks (x.1.take x.2.2.2 ++ x.2.2.1 ++ x.1.drop x.2.2.2)⟩, ⟨73, 8, false, bks (x.2.2.1)⟩]
  res := fun x => .vw 0 0 (x.1.length + x.2.2.1.length)
theorem ok_slices_Insert_I_Book_I_Book : FnOk Pr 68 s_slices_Insert_I_Book_I_Book := FnOk.sub ok_slices_Insert_I_Book_I_Book0 (fun ⟨rest, tail, vs, i⟩ ⟨h1, h2, h3, h4⟩ => by
  simp only at h1 h2 h3 h4
  exact ⟨(rest ++ tail, rest.length, vs, i), ⟨h1, (by simp only [List.length_append]; omega), h3, (by simp only [List.length_append]; omega)⟩, rfl, rfl, (by
  show [(⟨73, 8, false, _⟩ : Ob), _] = [(⟨73, 8, false, _⟩ : Ob), _]
  congr 2
  by_cases h : i = rest.length
  · subst h
    rw [if_pos rfl]
    exact ins_rowsA bkRow rest tail vs h2
  · rw [if_neg h]
    exact ins_rowsB bkRow rest tail vs (Nat.lt_of_le_of_ne h3 h) h2), rfl, rfl⟩)
end Go.Proofs.YtpdkhlpmiblflaaGreat.Abs

