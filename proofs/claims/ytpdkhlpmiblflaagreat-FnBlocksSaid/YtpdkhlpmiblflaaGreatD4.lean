import Derived.Test.YtpdkhlpmiblflaaGreatD3
set_option linter.unusedVariables false
set_option linter.unusedSimpArgs false
namespace Go.Proofs.YtpdkhlpmiblflaaGreat.Abs
open Go Go.RowKit
noncomputable abbrev s_slices_Clone_byte_byte : Spec (List Int) where
  args := fun xs => [.sl 1 (ints .u8 xs)]
  pre := fun xs => xs.length ≤ 1048576
  new := fun xs => [⟨5, 1, false, ints .u8 xs⟩]
  res := fun xs => .own 0

set_option maxRecDepth 20000 in
set_option maxHeartbeats 1000000 in
theorem ok_slices_Clone_byte_byte : FnOk Pr 53 s_slices_Clone_byte_byte := by
 refine fn_ok 1 0 T0_ok Go.Proofs.Tryz.func53 rfl (enters_of Go.Proofs.Tryz.func53 rfl rfl) (fun _ => rfl) (fun _ => rfl) (fun _ => rfl) ?_
 rintro xs hl C hP hN hm hG
 change awp C _ _ ⟨[(0, .sl 1 (ints .u8 xs))], [], 0⟩
 have hl : xs.length ≤ 1048576 := hl
 refine awp_seq ?_
 refine r1 T0_ok hP hm hN ?_
 refine g1 ?_
 refine awp_seq ?_
 refine awp_seq ?_
 refine awp_sreg rfl ?_
 refine sg1 T0_ok hP hm hN ?_
 refine sreg_nilcmp T0_ok hP hN (by decide) rfl rfl (fun bz hbz => ?_)
 refine sreg_rest T0_ok hP hm hN ?_
 refine awp_cond rfl (fun hc0 => ?_) (fun hc0 => ?_)
 ·
  have hxs : xs = [] := by have h := hbz hc0; simpa using h
  subst hxs
  refine awp_seq ?_
  refine r1 T0_ok hP hm hN ?_
  refine g1 ?_
  refine awp_weak (weak_nil 2 5 1 rfl) ?_
  refine awp_ret ?_
  refine fin_mk [0] rfl rfl ?_ (objs_cons rfl rfl rfl rfl rfl (.inl rfl) objs_nil) (by decide)
  rfl
 ·
  refine awp_skip ?_
  refine awp_seq ?_
  refine r1 T0_ok hP hm hN ?_
  iterate 2 refine g1 ?_
  refine ga1 ?_
  refine g1 ?_
  refine awp_ret ?_
  refine fin_mk [0] rfl rfl ?_ (objs_cons rfl rfl rfl rfl rfl (.inl rfl) objs_nil) (by decide)
  rfl

noncomputable abbrev s_slices_Delete_byte_byte0 : Spec (List Int × Nat × Nat) where
  args := fun x => [.own 0, .val (.int .i64 ((x.2.1 : Nat) : Int)), .val (.int .i64 ((x.2.2 : Nat) : Int))]
  pre := fun x => x.2.1 < x.2.2 ∧ x.2.2 ≤ x.1.length ∧ x.1.length ≤ 1048576
  obs := fun x => [⟨5, 1, false, ints .u8 x.1⟩]
  out := fun x => [⟨5, 1, false, splice (splice (ints .u8 x.1) x.2.1 (((ints .u8 x.1).drop x.2.2).take (x.1.length - x.2.2))) (x.2.1 + (x.1.length - x.2.2)) (List.replicate (x.2.2 - x.2.1) ([.val (.int .u8 0)]))⟩]
  res := fun x => .vw 0 0 (x.2.1 + (x.1.length - x.2.2))

set_option maxRecDepth 20000 in
set_option maxHeartbeats 1000000 in
theorem ok_slices_Delete_byte_byte0 : FnOk Pr 55 s_slices_Delete_byte_byte0 := by
 refine fn_ok 3 1 T0_ok Go.Proofs.Tryz.func55 rfl (enters_of Go.Proofs.Tryz.func55 rfl rfl) (fun _ => rfl) (fun _ => rfl) (fun _ => rfl) ?_
 rintro ⟨xs, i, j⟩ ⟨hij, hj, hl⟩ C hP hN hm hG
 change awp C _ _ ⟨[(0, .own 0), (1, .val (.int .i64 ((i : Nat) : Int))), (2, .val (.int .i64 ((j : Nat) : Int)))], [(0, ⟨5, 1, false, (ints .u8 xs)⟩)], 1⟩
 simp only at hij hj hl
 have htl : (List.take (xs.length - j) (List.drop j (ints .u8 xs))).length = xs.length - j := by simp
 have hsp : i + (List.take (xs.length - j) (List.drop j (ints .u8 xs))).length ≤ ((ints .u8 xs)).length := by rw [htl, List.length_map]; omega
 refine awp_seq ?_
 refine r1 T0_ok hP hm hN ?_
 refine g1 ?_
 refine awp_seq ?_
 refine r1 T0_ok hP hm hN ?_
 iterate 5 refine g1 ?_
 refine gc1 ?_ (oprel_slice3 T0_ok rfl rfl rfl rfl rfl rfl rfl rfl (by omega) (by omega) (by omega) (by simp only [List.length_map]; omega))
 refine awp_seq ?_
 refine awp_seq ?_
 refine r1 T0_ok hP hm hN ?_
 iterate 3 refine g1 ?_
 refine awp_cond rfl (fun hc0 => ?_) (fun hc0 => ?_)
 ·
  exfalso; simp at hc0; omega
 ·
  refine awp_skip ?_
  refine awp_seq ?_
  refine r1 T0_ok hP hm hN ?_
  iterate 3 refine g1 ?_
  refine awp_seq ?_
  refine awp_drawS T0_ok hP hm hN Pr_mix [0, 1, 2, 3, 4, 5, 6, 7, 8, 9, 10, 11] [] 6 _ rfl rfl rfl (by rfl) ?_
  iterate 2 refine d1 T0_ok ?_
  refine d1 T0_ok ?_ (hdn := by simp +decide (disch := omega) only [nrm, lk_nrm, dc_nrm, mk_nrm, mf_nrm, ti_nrm, ls_nrm, mp_nrm, nb_nrm, hset, pick_and, pick_or, ↓reduceIte, Nat.reduceAdd, wI64, wI32, wI16, wI8, wU8, List.length_map, Int.toNat_natCast, xn1, xn2, mask_nrm, Int.toNat_zero, Nat.sub_zero]; rfl) (hsl := by simp +decide (disch := omega) only [nrm, lk_nrm, dc_nrm, mk_nrm, mf_nrm, ti_nrm, ls_nrm, mp_nrm, nb_nrm, hset, pick_and, pick_or, ↓reduceIte, Nat.reduceAdd, wI64, wI32, wI16, wI8, wU8, List.length_map, Int.toNat_natCast, xn1, xn2, mask_nrm, Int.toNat_zero, Nat.sub_zero]; rfl)
  iterate 3 refine d1 T0_ok ?_
  refine dreg_nil ?_
  refine gc1 ?cont (oprel_app_vw T0_ok rfl rfl rfl rfl rfl rfl rfl rfl (by rfl) ?hf ?hn)
  case hf => (simp only [List.length_take, List.length_drop, List.length_map]; omega)
  case hn => (simp only [List.length_take, List.length_drop, List.length_map]; omega)
  refine g1 ?_
  refine awp_seq ?_
  refine r1 T0_ok hP hm hN ?_
  iterate 4 refine g1 ?_
  refine g1 ?_ (hpre := by exact ⟨rfl, by omega, by omega, .inr (by simp only [splice_len hsp, List.length_map]; omega)⟩)
  refine gc1 ?_ (oprel_clear_vw T0_ok rfl rfl rfl rfl rfl rfl rfl (by (simp only [List.length_take, List.length_drop, List.length_map]; omega)) rfl rfl)
  refine awp_seq ?_
  refine r1 T0_ok hP hm hN ?_
  iterate 2 refine g1 ?_
  refine awp_ret ?_
  refine fin_mk [] rfl rfl ?_ (objs_cons rfl rfl rfl (by show splice (splice _ _ _) _ _ = splice (splice _ _ _) _ _; rw [htl, Nat.zero_add, show xs.length - (i + (xs.length - j)) = j - i by omega]; rfl) rfl (.inl rfl) objs_nil) (by decide)
  show D.vw 0 0 (i + (xs.length - j)) = D.vw 0 0 (i + (List.take (xs.length - j) (List.drop j (ints .u8 xs))).length)
  rw [htl]

noncomputable abbrev s_slices_Delete_byte_byte : Spec (List Int × Nat × Nat) where
  args := fun x => [.own 0, .val (.int .i64 ((x.2.1 : Nat) : Int)), .val (.int .i64 ((x.2.2 : Nat) : Int))]
  pre := fun x => x.2.1 < x.2.2 ∧ x.2.2 ≤ x.1.length ∧ x.1.length ≤ 1048576
  obs := fun x => [⟨5, 1, false, ints .u8 (x.1)⟩]
  out := fun x => [⟨5, 1, false, ints .u8 (x.1.take x.2.1 ++ x.1.drop x.2.2 ++ List.replicate (x.2.2 - x.2.1) 0)⟩]
  res := fun x => .vw 0 0 (x.2.1 + (x.1.length - x.2.2))
theorem ok_slices_Delete_byte_byte : FnOk Pr 55 s_slices_Delete_byte_byte := FnOk.sub ok_slices_Delete_byte_byte0 (fun ⟨xs, i, j⟩ ⟨h1, h2, h3⟩ => ⟨(xs, i, j), ⟨h1, h2, h3⟩, rfl, rfl, congrArg (fun r => [(⟨5, 1, false, r⟩ : Ob)]) (del_rows (fun n : Int => [D.val (.int .u8 n)]) 0 xs h1 h2), rfl, rfl⟩)

set_option maxRecDepth 100000 in
theorem hov_byte (args : Array Value) (w : World) : (callFunc 76 args).run Pr w = ((Extern.SlicesOverlaps.overlaps #[22, 22] #[4] args).run Pr w).andThen fun v w' => .ok (.value v) w' :=
  run_callFunc_extern Go.Proofs.Tryz.func76 (by kernel_rfl) (by kernel_rfl) (by kernel_rfl) (e := Extern.SlicesOverlaps.overlaps #[22, 22] #[4]) (by kernel_rfl) args w

noncomputable abbrev s_slices_Insert_byte_byte0 : Spec (List Int × Nat × List Int × Nat) where
  args := fun x => [.vw 0 0 x.2.1, .val (.int .i64 ((x.2.2.2 : Nat) : Int)), .own 1]
  pre := fun x => 0 < x.2.2.1.length ∧ x.1.length = x.2.1 + x.2.2.1.length ∧ x.2.2.2 ≤ x.2.1 ∧ x.1.length ≤ 1048576
  obs := fun x => [⟨5, 1, false, ints .u8 x.1⟩, ⟨5, 1, false, ints .u8 x.2.2.1⟩]
  out := fun x => [⟨5, 1, false, (if x.2.2.2 = x.2.1 then splice (ints .u8 x.1) x.2.1 (ints .u8 x.2.2.1) else splice (splice (ints .u8 x.1) (x.2.2.2 + x.2.2.1.length) ((((ints .u8 x.1).drop x.2.2.2).take (x.1.length - x.2.2.2)).take (x.1.length - (x.2.2.2 + x.2.2.1.length)))) x.2.2.2 ((ints .u8 x.2.2.1).take x.2.2.1.length))⟩, ⟨5, 1, false, ints .u8 x.2.2.1⟩]
  res := fun x => .vw 0 0 (x.2.1 + x.2.2.1.length)

set_option maxRecDepth 20000 in
set_option maxHeartbeats 4000000 in
theorem ok_slices_Insert_byte_byte0 : FnOk Pr 54 s_slices_Insert_byte_byte0 := by
 refine fn_ok 3 2 T0_ok Go.Proofs.Tryz.func54 rfl (enters_of Go.Proofs.Tryz.func54 rfl rfl) (fun _ => rfl) (fun _ => rfl) (fun _ => rfl) ?_
 rintro ⟨zs, n, vs, i⟩ ⟨hv0, hzl, hin, hl⟩ C hP hN hm hG
 change awp C _ _ ⟨[(0, .vw 0 0 n), (1, .val (.int .i64 ((i : Nat) : Int))), (2, .own 1)], [(0, ⟨5, 1, false, (ints .u8 zs)⟩), (1, ⟨5, 1, false, (ints .u8 vs)⟩)], 2⟩
 simp only at hv0 hzl hin hl
 have hA1 : 0 + Int.toNat 0 + ((i : Int) + (vs.length : Int)).toNat = i + vs.length := by omega
 have hA2 : ((n : Int) + (vs.length : Int)).toNat - Int.toNat 0 - i = zs.length - i := by omega
 have hA3 : 0 + Int.toNat 0 + i = i := by omega
 refine awp_seq ?_
 refine r1 T0_ok hP hm hN ?_
 refine g1 ?_
 refine awp_seq ?_
 refine r1 T0_ok hP hm hN ?_
 iterate 3 refine g1 ?_
 refine awp_seq ?_
 refine r1 T0_ok hP hm hN ?_
 iterate 3 refine g1 ?_
 refine awp_seq ?_
 refine awp_seq ?_
 refine r1 T0_ok hP hm hN ?_
 iterate 2 refine g1 ?_
 refine awp_cond rfl (fun hc0 => ?_) (fun hc0 => ?_)
 ·
  exfalso; simp at hc0; rw [hc0] at hv0; simp at hv0
 ·
  refine awp_skip ?_
  refine awp_seq ?_
  refine r1 T0_ok hP hm hN ?_
  iterate 3 refine g1 ?_
  refine awp_seq ?_
  refine awp_seq ?_
  refine r1 T0_ok hP hm hN ?_
  iterate 3 refine g1 ?_
  refine awp_cond rfl (fun hc1 => ?_) (fun hc1 => ?_)
  ·
   have hie : i = n := by simp at hc1; omega
   subst hie
   refine awp_seq ?_
   refine r1 T0_ok hP hm hN ?_
   iterate 2 refine g1 ?_
   refine gc1 ?_ (oprel_app_vw T0_ok rfl rfl rfl rfl rfl rfl rfl rfl (by rfl) ?_ ?_)
   rotate_left 1
   · exact (by simp only [List.length_map, hzl]; omega)
   · exact (by simp only [List.length_map, hzl]; omega)
   refine g1 ?_
   refine awp_ret ?_
   refine fin_mk [] rfl rfl ?_ (by first | (simp only [if_neg hie]; exact objs_cons rfl rfl rfl (by show splice _ _ _ = splice _ _ _; rw [hA1, hA2, hA3]) rfl (.inl rfl) (objs_cons rfl rfl rfl rfl rfl (.inl rfl) objs_nil)) | (simp only [if_true, ↓reduceIte]; exact objs_cons rfl rfl rfl rfl rfl (.inl rfl) (objs_cons rfl rfl rfl rfl rfl (.inl rfl) objs_nil))) (by decide)
   rfl
  ·
   have hie : ¬ i = n := by simp at hc1; omega
   refine awp_skip ?_
   refine awp_seq ?_
   refine awp_seq ?_
   refine awp_sreg rfl ?_
   refine sg1 T0_ok hP hm hN ?_
   refine sg1 T0_ok hP hm hN ?_
   refine sg1 T0_ok hP hm hN ?_
   refine sg1 T0_ok hP hm hN ?_
   refine sreg_cap T0_ok hP hN (by decide) rfl rfl rfl (fun cz hcz1 hcz2 => ?_)
   refine sreg_rest T0_ok hP hm hN ?_
   refine g1 ?_
   refine awp_cond rfl (fun hc2 => ?_) (fun hc2 => ?_)
   ·
    exfalso; simp only [decide_eq_true_eq] at hc2; simp only [List.length_map] at hcz1; omega
   ·
    refine awp_skip ?_
    refine awp_seq ?_
    refine r1 T0_ok hP hm hN ?_
    iterate 6 refine g1 ?_
    refine awp_seq ?_
    refine awp_seq ?_
    refine r1 T0_ok hP hm hN ?_
    iterate 6 refine g1 ?_
    refine gc1 ?_ (oprel_overlaps T0_ok rfl hov_byte rfl rfl rfl rfl (by decide) ?_ ?_ rfl rfl rfl (by decide))
    rotate_left 1
    · exact (by ((try simp only [List.length_take, List.length_drop, List.length_map]); omega))
    · exact (by ((try simp only [List.length_take, List.length_drop, List.length_map]); omega))
    refine g1 ?_
    refine awp_cond rfl (fun h68 => ?_) (fun h68 => ?_)
    ·
     refine awp_seq ?_
     refine awp_any hP Pr_mix _ rfl 9 rfl ?_
     refine anyS_float T0_ok hP hm hN (by rfl) 0 rfl rfl rfl (by rfl) (by rfl) (by rfl) ?_
     refine g1 ?_
     refine anyS_float T0_ok hP hm hN (by rfl) 1 rfl rfl rfl (by rfl) (by rfl) (by rfl) ?_
     refine g1 ?_
     refine anyS_float T0_ok hP hm hN (by rfl) 2 rfl rfl rfl (by rfl) (by rfl) (by rfl) ?_
     refine g1 ?_
     refine anyS_float T0_ok hP hm hN (by rfl) 5 rfl rfl rfl (by rfl) (by rfl) (by rfl) ?_
     refine g1 ?_
     refine anyS_float T0_ok hP hm hN (by rfl) 6 rfl rfl rfl (by rfl) (by rfl) (by rfl) ?_
     refine g1 ?_
     refine anyS_cons T0_ok hP hm hN (by rfl) [3, 7] (by rfl) rfl ?_
     refine ⟨⟨_, rfl, rfl, ?_⟩, ?_⟩
     ·
      refine g1 ?_
      refine anyS_cons T0_ok hP hm hN (by rfl) [4, 7] (by rfl) rfl ?_
      refine ⟨⟨_, rfl, rfl, ?_⟩, ?_⟩
      ·
       refine g1 ?_
       refine anyS_cons T0_ok hP hm hN (by rfl) [7] (by rfl) rfl ?_
       refine ⟨⟨_, rfl, rfl, ?_⟩, trivial⟩
       refine g1 ?_
       refine anyS_cons T0_ok hP hm hN (by rfl) [8] (by rfl) rfl ?_
       refine ⟨⟨_, rfl, rfl, ?_⟩, trivial⟩
       refine gc1 ?_ (oprel_copy_vw (q := zs.length - (i + vs.length)) T0_ok rfl rfl rfl rfl rfl rfl rfl rfl (by rfl) ?_ ?_ ?_)
       rotate_left 1
       · exact (by ((try simp only [List.length_take, List.length_drop, List.length_map]); omega))
       · exact (by ((try simp only [List.length_take, List.length_drop, List.length_map]); omega))
       · exact (by ((try simp only [List.length_take, List.length_drop, List.length_map]); omega))
       refine anyS_done (by rfl) ?_
       refine awp_seq ?_
       refine r1 T0_ok hP hm hN ?_
       iterate 4 refine g1 ?_
       refine gc1 ?_ (oprel_copy_vw (q := vs.length) T0_ok rfl rfl rfl rfl rfl rfl rfl rfl (by rfl) ?_ ?_ ?_)
       rotate_left 1
       · exact (by ((try simp only [List.length_take, List.length_drop, List.length_map]); omega))
       · exact (by ((try simp only [List.length_take, List.length_drop, List.length_map]); omega))
       · exact (by ((try simp only [List.length_take, List.length_drop, List.length_map]); omega))
       refine awp_seq ?_
       refine r1 T0_ok hP hm hN ?_
       iterate 2 refine g1 ?_
       refine awp_ret ?_
       refine fin_mk [] rfl rfl ?_ (by first | (simp only [if_neg hie]; exact objs_cons rfl rfl rfl (by show splice _ _ _ = splice _ _ _; rw [hA1, hA2, hA3]) rfl (.inl rfl) (objs_cons rfl rfl rfl rfl rfl (.inl rfl) objs_nil)) | (simp only [if_true, ↓reduceIte]; exact objs_cons rfl rfl rfl rfl rfl (.inl rfl) (objs_cons rfl rfl rfl rfl rfl (.inl rfl) objs_nil))) (by decide)
       rfl
      refine ⟨⟨_, rfl, rfl, ?_⟩, trivial⟩
      refine g1 ?_
      refine anyS_cons T0_ok hP hm hN (by rfl) [4] (by rfl) rfl ?_
      refine ⟨⟨_, rfl, rfl, ?_⟩, trivial⟩
      refine g1 ?_
      refine anyS_cons T0_ok hP hm hN (by rfl) [8] (by rfl) rfl ?_
      refine ⟨⟨_, rfl, rfl, ?_⟩, trivial⟩
      refine gc1 ?_ (oprel_copy_vw (q := zs.length - (i + vs.length)) T0_ok rfl rfl rfl rfl rfl rfl rfl rfl (by rfl) ?_ ?_ ?_)
      rotate_left 1
      · exact (by ((try simp only [List.length_take, List.length_drop, List.length_map]); omega))
      · exact (by ((try simp only [List.length_take, List.length_drop, List.length_map]); omega))
      · exact (by ((try simp only [List.length_take, List.length_drop, List.length_map]); omega))
      refine anyS_done (by rfl) ?_
      refine awp_seq ?_
      refine r1 T0_ok hP hm hN ?_
      iterate 4 refine g1 ?_
      refine gc1 ?_ (oprel_copy_vw (q := vs.length) T0_ok rfl rfl rfl rfl rfl rfl rfl rfl (by rfl) ?_ ?_ ?_)
      rotate_left 1
      · exact (by ((try simp only [List.length_take, List.length_drop, List.length_map]); omega))
      · exact (by ((try simp only [List.length_take, List.length_drop, List.length_map]); omega))
      · exact (by ((try simp only [List.length_take, List.length_drop, List.length_map]); omega))
      refine awp_seq ?_
      refine r1 T0_ok hP hm hN ?_
      iterate 2 refine g1 ?_
      refine awp_ret ?_
      refine fin_mk [] rfl rfl ?_ (by first | (simp only [if_neg hie]; exact objs_cons rfl rfl rfl (by show splice _ _ _ = splice _ _ _; rw [hA1, hA2, hA3]) rfl (.inl rfl) (objs_cons rfl rfl rfl rfl rfl (.inl rfl) objs_nil)) | (simp only [if_true, ↓reduceIte]; exact objs_cons rfl rfl rfl rfl rfl (.inl rfl) (objs_cons rfl rfl rfl rfl rfl (.inl rfl) objs_nil))) (by decide)
      rfl
     refine ⟨⟨_, rfl, rfl, ?_⟩, trivial⟩
     refine g1 ?_
     refine anyS_cons T0_ok hP hm hN (by rfl) [3] (by rfl) rfl ?_
     refine ⟨⟨_, rfl, rfl, ?_⟩, trivial⟩
     refine g1 ?_
     refine anyS_cons T0_ok hP hm hN (by rfl) [4] (by rfl) rfl ?_
     refine ⟨⟨_, rfl, rfl, ?_⟩, trivial⟩
     refine g1 ?_
     refine anyS_cons T0_ok hP hm hN (by rfl) [8] (by rfl) rfl ?_
     refine ⟨⟨_, rfl, rfl, ?_⟩, trivial⟩
     refine gc1 ?_ (oprel_copy_vw (q := zs.length - (i + vs.length)) T0_ok rfl rfl rfl rfl rfl rfl rfl rfl (by rfl) ?_ ?_ ?_)
     rotate_left 1
     · exact (by ((try simp only [List.length_take, List.length_drop, List.length_map]); omega))
     · exact (by ((try simp only [List.length_take, List.length_drop, List.length_map]); omega))
     · exact (by ((try simp only [List.length_take, List.length_drop, List.length_map]); omega))
     refine anyS_done (by rfl) ?_
     refine awp_seq ?_
     refine r1 T0_ok hP hm hN ?_
     iterate 4 refine g1 ?_
     refine gc1 ?_ (oprel_copy_vw (q := vs.length) T0_ok rfl rfl rfl rfl rfl rfl rfl rfl (by rfl) ?_ ?_ ?_)
     rotate_left 1
     · exact (by ((try simp only [List.length_take, List.length_drop, List.length_map]); omega))
     · exact (by ((try simp only [List.length_take, List.length_drop, List.length_map]); omega))
     · exact (by ((try simp only [List.length_take, List.length_drop, List.length_map]); omega))
     refine awp_seq ?_
     refine r1 T0_ok hP hm hN ?_
     iterate 2 refine g1 ?_
     refine awp_ret ?_
     refine fin_mk [] rfl rfl ?_ (by first | (simp only [if_neg hie]; exact objs_cons rfl rfl rfl (by show splice _ _ _ = splice _ _ _; rw [hA1, hA2, hA3]) rfl (.inl rfl) (objs_cons rfl rfl rfl rfl rfl (.inl rfl) objs_nil)) | (simp only [if_true, ↓reduceIte]; exact objs_cons rfl rfl rfl rfl rfl (.inl rfl) (objs_cons rfl rfl rfl rfl rfl (.inl rfl) objs_nil))) (by decide)
     rfl
    ·
     exfalso; simp at h68

noncomputable abbrev s_slices_Insert_byte_byte : Spec (List Int × List Int × List Int × Nat) where
  args := fun x => [.vw 0 0 x.1.length, .val (.int .i64 ((x.2.2.2 : Nat) : Int)), .own 1]
  pre := fun x => 0 < x.2.2.1.length ∧ x.2.1.length = x.2.2.1.length ∧ x.2.2.2 ≤ x.1.length ∧ x.1.length + x.2.2.1.length ≤ 1048576
  obs := fun x => [⟨5, 1, false, ints .u8 (x.1 ++ x.2.1)⟩, ⟨5, 1, false, ints .u8 (x.2.2.1)⟩]
  out := fun x => [⟨5, 1, false, ints .u8 (x.1.take x.2.2.2 ++ x.2.2.1 ++ x.1.drop x.2.2.2)⟩, ⟨5, 1, false, ints .u8 (x.2.2.1)⟩]
  res := fun x => .vw 0 0 (x.1.length + x.2.2.1.length)
theorem ok_slices_Insert_byte_byte : FnOk Pr 54 s_slices_Insert_byte_byte := FnOk.sub ok_slices_Insert_byte_byte0 (fun ⟨rest, tail, vs, i⟩ ⟨h1, h2, h3, h4⟩ => by
  simp only at h1 h2 h3 h4
  exact ⟨(rest ++ tail, rest.length, vs, i), ⟨h1, (by simp only [List.length_append]; omega), h3, (by simp only [List.length_append]; omega)⟩, rfl, rfl, (by
  show [(⟨5, 1, false, _⟩ : Ob), _] = [(⟨5, 1, false, _⟩ : Ob), _]
  congr 2
  by_cases h : i = rest.length
  · subst h
    rw [if_pos rfl]
    exact ins_rowsA (fun n : Int => [D.val (.int .u8 n)]) rest tail vs h2
  · rw [if_neg h]
    exact ins_rowsB (fun n : Int => [D.val (.int .u8 n)]) rest tail vs (Nat.lt_of_le_of_ne h3 h) h2), rfl, rfl⟩)

def bmN (xs : List Int) (b : Blk) : List Int × Bool := if blkBad xs.length b then ([], false) else (carried xs b.1.toNat b.2.1.toNat b.2.2.toNat, true)

noncomputable abbrev s_I_blockMoved_byte : Spec (List Int × Blk) where
  args := fun x => [.sl 1 (ints .u8 x.1), blkD x.2]
  pre := fun x => x.1.length ≤ 1048576 ∧ isBlk x.2
  new := fun x => [⟨5, 1, false, ints .u8 (bmN x.1 x.2).1⟩]
  res := fun x => .tup [.own 0, .val (.bool (bmN x.1 x.2).2)]

set_option maxRecDepth 20000 in
set_option maxHeartbeats 4000000 in
theorem ok_I_blockMoved_byte : FnOk Pr 30 s_I_blockMoved_byte := by
 refine fn_ok 2 0 T0_ok Go.Proofs.Tryz.func30 rfl (enters_of Go.Proofs.Tryz.func30 rfl rfl) (fun _ => rfl) (fun _ => rfl) (fun _ => rfl) ?_
 rintro ⟨xs, b1, b2, b3⟩ ⟨hl, hb1, hb2, hb3⟩ C hP hN hm hG
 change awp C _ _ ⟨[(0, .sl 1 (ints .u8 xs)), (1, blkD (b1, b2, b3))], [], 0⟩
 simp only at hl hb1 hb2 hb3
 refine awp_seq ?_
 refine r1 T0_ok hP hm hN ?_
 iterate 3 refine g1 ?_
 refine awp_seq ?_
 refine awp_draw T0_ok hP hm hN Pr_mix [0, 1, 2, 3, 4, 5, 6, 7, 8, 9, 10, 11] [] _ rfl (by rfl) ?_
 iterate 12 refine d1 T0_ok ?_
 refine dreg_nil ?_
 refine awp_seq ?_
 refine awp_seq ?_
 refine r1 T0_ok hP hm hN ?_
 iterate 3 refine g1 ?_
 iterate 2 refine gg1 ?_
 iterate 2 refine g1 ?_
 iterate 6 refine gg1 ?_
 iterate 2 refine g1 ?_
 iterate 5 refine gg1 ?_
 refine ggc1 ?_ (hs := by intro hb; simp +decide only [hb, gd_tt, gd_ff, beq_self_eq_true, Bool.true_and, beq_true]; exact ⟨rfl, _, call1 ok_I_within_int (_, _, _) [], rfl, rfl, rfl⟩)
 refine gg1 ?_
 refine g1 ?_
 refine awp_cond rfl (fun hc0 => ?_) (fun hc0 => ?_)
 ·
  have hr : bmN xs (b1, b2, b3) = ([], false) := by rw [bmN, if_pos (show blkBad xs.length (b1, b2, b3) = true from hc0)]
  refine awp_seq ?_
  refine r1 T0_ok hP hm hN ?_
  iterate 2 refine g1 ?_
  refine awp_weak (weak_nil 4 5 1 rfl) ?_
  refine awp_ret ?_
  refine fin_mk [1] rfl rfl ?_ (by simp only [hr]; first | exact objs_cons rfl rfl rfl rfl rfl (.inl rfl) objs_nil | (rw [hcar]; exact objs_cons rfl rfl rfl rfl rfl (.inl rfl) objs_nil)) (by decide)
  show D.tup [_, .val (.bool (bmN xs (b1, b2, b3)).2)] = _
  rw [hr]
  rfl
 ·
  have hr : bmN xs (b1, b2, b3) = (carried xs b1.toNat b2.toNat b3.toNat, true) := by rw [bmN, if_neg (by rw [show blkBad xs.length (b1, b2, b3) = false from hc0]; simp)]
  obtain ⟨f, c, t, rfl, rfl, rfl, hc1, hfc, htc⟩ := blk_nat hc0
  have hcar : carried xs ((f : Nat) : Int).toNat ((c : Nat) : Int).toNat ((t : Nat) : Int).toNat = (xs.take f ++ xs.drop (f + c)).take t ++ (xs.drop f).take c ++ (xs.take f ++ xs.drop (f + c)).drop t := rfl
  have hfe : f + c - f = c := by omega
  have hrl : (xs.take f ++ xs.drop (f + c)).length = xs.length - c := by simp only [List.length_append, List.length_take, List.length_drop]; omega
  refine awp_skip ?_
  refine awp_seq ?_
  refine r1 T0_ok hP hm hN ?_
  iterate 4 refine g1 ?_
  refine g1 ?_ (hst := by simp +decide (disch := omega) only [nrm, lk_nrm, dc_nrm, mk_nrm, mf_nrm, ti_nrm, ls_nrm, mp_nrm, nb_nrm, hset, pick_and, pick_or, ↓reduceIte, Nat.reduceAdd, wI64, wI32, wI16, wI8, wU8, List.length_map, Int.toNat_natCast, xn1, xn2, natadd']; rfl)
  refine g1 ?_ (hpre := by exact ⟨rfl, by omega, by omega, by simp only [List.length_map]; omega⟩) (hst := by simp +decide (disch := omega) only [nrm, lk_nrm, dc_nrm, mk_nrm, mf_nrm, ti_nrm, ls_nrm, mp_nrm, nb_nrm, hset, pick_and, pick_or, ↓reduceIte, Nat.reduceAdd, wI64, wI32, wI16, wI8, wU8, List.length_map, Int.toNat_natCast, xn1, xn2, natadd', Int.toNat_natCast, ← List.map_drop, ← List.map_take, hfe]; rfl)
  refine gc1 ?_ (call1 ok_slices_Clone_byte_byte _ [] (hpre := by (try dsimp only); (simp only [List.length_take, List.length_drop]; omega)))
  refine g1 ?_
  refine awp_seq ?_
  refine r1 T0_ok hP hm hN ?_
  refine g1 ?_
  refine gc1 ?_ (call1 ok_slices_Clone_byte_byte _ [] (hpre := by (try dsimp only); omega))
  iterate 3 refine g1 ?_
  refine g1 ?_ (hst := by simp +decide (disch := omega) only [nrm, lk_nrm, dc_nrm, mk_nrm, mf_nrm, ti_nrm, ls_nrm, mp_nrm, nb_nrm, hset, pick_and, pick_or, ↓reduceIte, Nat.reduceAdd, wI64, wI32, wI16, wI8, wU8, List.length_map, Int.toNat_natCast, xn1, xn2, natadd']; rfl)
  refine gc1 ?_ (call1 ok_slices_Delete_byte_byte (xs, f, f + c) [2] (hpre := by (try dsimp only); exact ⟨by omega, by omega, by omega⟩) (hfo := by exact fm_cons (flat_ints _ _ _ _ _) fm_nil)) (hst := by simp +decide (disch := omega) only [nrm, lk_nrm, dc_nrm, mk_nrm, mf_nrm, ti_nrm, ls_nrm, mp_nrm, nb_nrm, hset, pick_and, pick_or, ↓reduceIte, Nat.reduceAdd, wI64, wI32, wI16, wI8, wU8, List.length_map, Int.toNat_natCast, xn1, xn2, hfe]; rfl)
  iterate 2 refine g1 ?_
  refine gc1 ?_ (call1 ok_slices_Insert_byte_byte (xs.take f ++ xs.drop (f + c), List.replicate c 0, (xs.drop f).take c, t) [2, 1] (hargs := (by (try dsimp only); exact args_cons (arga_vw rfl rfl (by rw [hrl]; omega)) (args_cons arga_val (args_cons (arga_own rfl) args_nil)))) (hpre := by (try dsimp only); exact ⟨by simp only [List.length_take, List.length_drop]; omega, by simp only [List.length_replicate, List.length_take, List.length_drop]; omega, by omega, by simp only [List.length_take, List.length_drop]; omega⟩) (hobs := (by first | exact objs_cons rfl rfl rfl rfl rfl (.inl rfl) (objs_cons rfl rfl rfl rfl rfl (.inl rfl) objs_nil))) (hfo := by exact fm_cons (flat_ints _ _ _ _ _) (fm_cons (flat_ints _ _ _ _ _) fm_nil)))
  iterate 2 refine g1 ?_
  refine awp_weak (weak_vw_own (t := 4) rfl rfl (by simp only [List.length_map, List.length_append, List.length_take, List.length_drop]; omega) (by simp only [List.length_take, List.length_drop]; omega)) ?_
  refine awp_ret ?_
  refine fin_mk [2] rfl rfl ?_ (by simp only [hr]; first | exact objs_cons rfl rfl rfl rfl rfl (.inl rfl) objs_nil | (rw [hcar]; exact objs_cons rfl rfl rfl rfl rfl (.inl rfl) objs_nil)) (by decide)
  show D.tup [_, .val (.bool (bmN xs ((f : Int), (c : Int), (t : Int))).2)] = _
  rw [hr]
  rfl
end Go.Proofs.YtpdkhlpmiblflaaGreat.Abs

