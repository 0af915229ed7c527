import Derived.Test.YtheoapoddmmahaaGreatF1
set_option linter.unusedVariables false
set_option linter.unusedSimpArgs false
namespace Go.Proofs.YtheoapoddmmahaaGreat.Abs
open Go Go.RowKit
noncomputable abbrev s_I_groups : Spec (List Int × List Bk) where
  args := fun x => [.sl 1 (i64s x.1), .sl 8 (bks x.2)]
  pre := fun x => (∀ b ∈ x.2, isBk b) ∧ x.2.length ≤ 1048576 ∧ 1 ≤ x.1.length ∧ x.1.length ≤ 6
  new := fun x => [⟨31, 1, false, i64ss ((grpR x.1 x.2).1)⟩]
  res := fun x => .tup [.own 0, .val (.bool (grpR x.1 x.2).2)]

set_option maxRecDepth 20000 in
set_option maxHeartbeats 16000000 in
theorem ok_I_groups : FnOk Pr 52 s_I_groups := by
 refine fn_ok0 2 T0_ok Go.Proofs.Tryz.func52 rfl (enters_of Go.Proofs.Tryz.func52 rfl rfl) (fun _ => rfl) (fun _ => rfl) (fun _ => rfl) ?_
 rintro ⟨hs, bs⟩ ⟨hv, hl, hh1, hh6⟩ C hP hN hm hG hS0
 simp only at hv hl hh1 hh6
 obtain hn6 | hn6 | hn6 | hn6 | hn6 | hn6 : hs.length = 1 ∨ hs.length = 2 ∨ hs.length = 3 ∨ hs.length = 4 ∨ hs.length = 5 ∨ hs.length = 6 := by omega
 ·
  change awp C _ _ ⟨[(0, .sl 1 (i64s hs)), (1, .sl 8 (bks bs))], [], 0⟩
  have hn : hs.length = 1 := hn6
  refine awp_seq ?_
  refine r1 T0_ok hP hm hN ?_
  iterate 2 refine g1 ?_
  refine awp_seq ?_
  refine r1 T0_ok hP hm hN ?_
  iterate 2 refine g1 ?_
  refine g1 ?_ (hst := by simp +decide (disch := omega) only [nrm, lk_nrm, dc_nrm, mk_nrm, mf_nrm, ti_nrm, ls_nrm, mp_nrm, nb_nrm, hset, pick_and, pick_or, ↓reduceIte, Nat.reduceAdd, wI64, wI32, wI16, wI8, wU8, List.length_map, Int.toNat_natCast, xn1, xn2, hn]; rfl)
  refine g1 ?_
  refine awp_seq ?_
  refine awp_seq ?_
  refine r1 T0_ok hP hm hN ?_
  iterate 3 refine g1 ?_
  refine awp_block ?_
  refine awp_loop (fun n st => ∃ i : Nat, i ≤ bs.length ∧ (∀ j, j < i → (gF hs bs j == (hs.length : Int)) = false) ∧ n = bs.length - i ∧ st = ⟨[(15, .val (.int .i64 ((i : Nat) : Int))), (14, .val (.int .i64 ((bs.length : Nat) : Int))), (13, .sl 8 (bks bs)), (6, .own 0), (0, .sl 1 (i64s hs))], [(1, ⟨2, 1, false, i64s (selK (gF hs bs) 0 i)⟩), (0, ⟨31, 1, true, [[.own 1]]⟩)], 2⟩) (bs.length) ⟨_, (by exact Weak.trans (weak_deep 0 true rfl (fun h => by cases h)) (Weak.trans (weak_nilO 0 0 0 2 1 rfl rfl rfl rfl) (weak_sl (sub_cons rfl (sub_cons rfl (sub_cons rfl (sub_cons rfl (sub_cons rfl (sub_nil))))))))), 0, by omega, fun j h => by omega, rfl, rfl⟩ ?_
  rintro n st ⟨i, hii, hall, hni, rfl⟩
  have hsl0 := selK_len (gF hs bs) 0 i
  refine awp_seq ?_
  refine r1 T0_ok hP hm hN ?_
  refine g1 ?_
  refine awp_seq ?_
  refine awp_cond rfl (fun hc0 => ?_) (fun hc0 => ?_)
  ·
   have hlti : i < bs.length := by simpa using hc0
   refine awp_skip ?_
   refine awp_seq ?_
   refine awp_block ?_
   refine awp_seq ?_
   refine r1 T0_ok hP hm hN ?_
   iterate 6 refine g1 ?_
   refine awp_seq ?_
   refine r1 T0_ok hP hm hN ?_
   iterate 2 refine g1 ?_
   refine gc1 ?_ (call1 ok_I_heightFor (hs, bs.getD i bk0) [] (hpre := by (try dsimp only); exact ⟨by omega, hv _ (getD_mem' (by omega))⟩))
   refine g1 ?_
   refine awp_seq ?_
   refine awp_seq ?_
   refine r1 T0_ok hP hm hN ?_
   iterate 4 refine g1 ?_
   refine awp_cond rfl (fun hc1 => ?_) (fun hc1 => ?_)
   ·
    have hr : grpR hs bs = ([], false) := by rw [grpR, ask_false (fun h => by have := h i hlti; rw [show (gF hs bs i == (hs.length : Int)) = true from hc1] at this; cases this)]; rfl
    refine awp_seq ?_
    refine r1 T0_ok hP hm hN ?_
    iterate 2 refine g1 ?_
    refine awp_weak (weak_nil 4 31 1 rfl) ?_
    refine awp_ret ?_
    refine fin_mk [3] rfl rfl ?_ (by simp only [hr]; first | exact objs_cons rfl rfl rfl rfl rfl (.inl rfl) objs_nil | exact objs_cons rfl rfl rfl (by show _ = i64ss (grpF (gF hs bs) hs.length bs.length); rw [hn]; rfl) rfl (.inl rfl) objs_nil) (by decide)
    show D.tup [_, .val (.bool (grpR hs bs).2)] = _
    rw [hr]
    rfl
   ·
    have hnx : (gF hs bs i == (hs.length : Int)) = false := hc1
    refine awp_skip ?_
    have hkk : gF hs bs i = ((0 : Nat) : Int) := by
      have h := gF_b hs bs i
      simp only [beq_eq_false_iff_ne, ne_eq] at hnx
      omega
    have hk := hkk
    ·
     have hk2 : fstOf (isHigh (bs.getD i bk0).high) hs = ((0 : Nat) : Int) := hk
     simp only [hk2]
     refine r1 T0_ok hP hm hN ?_
     iterate 8 refine g1 ?_
     refine ga1 ?_
     iterate 2 refine g1 ?_
     refine r1 T0_ok hP hm hN ?_
     iterate 2 refine g1 ?_
     first
       | exact ⟨bs.length - (i + 1), _, by omega, (by rw [selK_yes hk, i64s_app4]; exact Weak.trans (weak_drop 2) (Weak.trans (weak_drop 3) (Weak.trans (weak_nx (nx' := 2) (by omega) (by rfl)) (weak_sl (sub_cons rfl (sub_cons rfl (sub_cons rfl (sub_cons rfl (sub_cons rfl (sub_nil)))))))))), i + 1, by omega, upto_step hall hnx, rfl, rfl⟩
  ·
   have hgei : ¬ i < bs.length := by simpa using hc0
   obtain rfl : i = bs.length := by omega
   have hall2 : allG hs bs := hall
   have hr : grpR hs bs = (grpL hs bs, true) := by rw [grpR, ask_true hall2]; rfl
   refine awp_exit ?_
   repeat refine thenA_exit ?_
   refine blockA_hit ?_
   refine awp_seq ?_
   refine r1 T0_ok hP hm hN ?_
   iterate 3 refine g1 ?_
   refine awp_weak (weak_frz 1 hS0 hG rfl (.inl rfl)) ?_
   refine awp_weak (weak_deep 0 false rfl (fun _ _ => fm_cons rfl (fm_nil))) ?_
   refine awp_ret ?_
   refine fin_mk [0] rfl rfl ?_ (by simp only [hr]; first | exact objs_cons rfl rfl rfl rfl rfl (.inl rfl) objs_nil | exact objs_cons rfl rfl rfl (by show _ = i64ss (grpF (gF hs bs) hs.length bs.length); rw [hn]; rfl) rfl (.inl rfl) objs_nil) (by decide)
   show D.tup [_, .val (.bool (grpR hs bs).2)] = _
   rw [hr]
   rfl
 ·
  change awp C _ _ ⟨[(0, .sl 1 (i64s hs)), (1, .sl 8 (bks bs))], [], 0⟩
  have hn : hs.length = 2 := hn6
  refine awp_seq ?_
  refine r1 T0_ok hP hm hN ?_
  iterate 2 refine g1 ?_
  refine awp_seq ?_
  refine r1 T0_ok hP hm hN ?_
  iterate 2 refine g1 ?_
  refine g1 ?_ (hst := by simp +decide (disch := omega) only [nrm, lk_nrm, dc_nrm, mk_nrm, mf_nrm, ti_nrm, ls_nrm, mp_nrm, nb_nrm, hset, pick_and, pick_or, ↓reduceIte, Nat.reduceAdd, wI64, wI32, wI16, wI8, wU8, List.length_map, Int.toNat_natCast, xn1, xn2, hn]; rfl)
  refine g1 ?_
  refine awp_seq ?_
  refine awp_seq ?_
  refine r1 T0_ok hP hm hN ?_
  iterate 3 refine g1 ?_
  refine awp_block ?_
  refine awp_loop (fun n st => ∃ i : Nat, i ≤ bs.length ∧ (∀ j, j < i → (gF hs bs j == (hs.length : Int)) = false) ∧ n = bs.length - i ∧ st = ⟨[(15, .val (.int .i64 ((i : Nat) : Int))), (14, .val (.int .i64 ((bs.length : Nat) : Int))), (13, .sl 8 (bks bs)), (6, .own 0), (0, .sl 1 (i64s hs))], [(2, ⟨2, 1, false, i64s (selK (gF hs bs) 1 i)⟩), (1, ⟨2, 1, false, i64s (selK (gF hs bs) 0 i)⟩), (0, ⟨31, 1, true, [[.own 1], [.own 2]]⟩)], 3⟩) (bs.length) ⟨_, (by exact Weak.trans (weak_deep 0 true rfl (fun h => by cases h)) (Weak.trans (weak_nilO 0 0 0 2 1 rfl rfl rfl rfl) (Weak.trans (weak_nilO 0 1 0 2 1 rfl rfl rfl rfl) (weak_sl (sub_cons rfl (sub_cons rfl (sub_cons rfl (sub_cons rfl (sub_cons rfl (sub_nil)))))))))), 0, by omega, fun j h => by omega, rfl, rfl⟩ ?_
  rintro n st ⟨i, hii, hall, hni, rfl⟩
  have hsl0 := selK_len (gF hs bs) 0 i
  have hsl1 := selK_len (gF hs bs) 1 i
  refine awp_seq ?_
  refine r1 T0_ok hP hm hN ?_
  refine g1 ?_
  refine awp_seq ?_
  refine awp_cond rfl (fun hc0 => ?_) (fun hc0 => ?_)
  ·
   have hlti : i < bs.length := by simpa using hc0
   refine awp_skip ?_
   refine awp_seq ?_
   refine awp_block ?_
   refine awp_seq ?_
   refine r1 T0_ok hP hm hN ?_
   iterate 6 refine g1 ?_
   refine awp_seq ?_
   refine r1 T0_ok hP hm hN ?_
   iterate 2 refine g1 ?_
   refine gc1 ?_ (call1 ok_I_heightFor (hs, bs.getD i bk0) [] (hpre := by (try dsimp only); exact ⟨by omega, hv _ (getD_mem' (by omega))⟩))
   refine g1 ?_
   refine awp_seq ?_
   refine awp_seq ?_
   refine r1 T0_ok hP hm hN ?_
   iterate 4 refine g1 ?_
   refine awp_cond rfl (fun hc1 => ?_) (fun hc1 => ?_)
   ·
    have hr : grpR hs bs = ([], false) := by rw [grpR, ask_false (fun h => by have := h i hlti; rw [show (gF hs bs i == (hs.length : Int)) = true from hc1] at this; cases this)]; rfl
    refine awp_seq ?_
    refine r1 T0_ok hP hm hN ?_
    iterate 2 refine g1 ?_
    refine awp_weak (weak_nil 4 31 1 rfl) ?_
    refine awp_ret ?_
    refine fin_mk [4] rfl rfl ?_ (by simp only [hr]; first | exact objs_cons rfl rfl rfl rfl rfl (.inl rfl) objs_nil | exact objs_cons rfl rfl rfl (by show _ = i64ss (grpF (gF hs bs) hs.length bs.length); rw [hn]; rfl) rfl (.inl rfl) objs_nil) (by decide)
    show D.tup [_, .val (.bool (grpR hs bs).2)] = _
    rw [hr]
    rfl
   ·
    have hnx : (gF hs bs i == (hs.length : Int)) = false := hc1
    refine awp_skip ?_
    have hkk : gF hs bs i = ((0 : Nat) : Int) ∨ gF hs bs i = ((1 : Nat) : Int) := by
      have h := gF_b hs bs i
      simp only [beq_eq_false_iff_ne, ne_eq] at hnx
      omega
    obtain hk | hk := hkk
    ·
     have hn1 : ¬ gF hs bs i = ((1 : Nat) : Int) := by omega
     have hk2 : fstOf (isHigh (bs.getD i bk0).high) hs = ((0 : Nat) : Int) := hk
     simp only [hk2]
     refine r1 T0_ok hP hm hN ?_
     iterate 8 refine g1 ?_
     refine ga1 ?_
     iterate 2 refine g1 ?_
     refine r1 T0_ok hP hm hN ?_
     iterate 2 refine g1 ?_
     first
       | exact ⟨bs.length - (i + 1), _, by omega, (by rw [selK_yes hk, selK_no (k := 1) hn1, i64s_app4]; exact Weak.trans (weak_drop 3) (Weak.trans (weak_drop 4) (Weak.trans (weak_nx (nx' := 3) (by omega) (by rfl)) (weak_sl (sub_cons rfl (sub_cons rfl (sub_cons rfl (sub_cons rfl (sub_cons rfl (sub_nil)))))))))), i + 1, by omega, upto_step hall hnx, rfl, rfl⟩
       | exact ⟨bs.length - (i + 1), _, by omega, (by rw [selK_no (k := 0) hn0, selK_yes hk, i64s_app4]; exact Weak.trans (weak_drop 3) (Weak.trans (weak_drop 4) (Weak.trans (weak_nx (nx' := 3) (by omega) (by rfl)) (weak_sl (sub_cons rfl (sub_cons rfl (sub_cons rfl (sub_cons rfl (sub_cons rfl (sub_nil)))))))))), i + 1, by omega, upto_step hall hnx, rfl, rfl⟩
    ·
     have hn0 : ¬ gF hs bs i = ((0 : Nat) : Int) := by omega
     have hk2 : fstOf (isHigh (bs.getD i bk0).high) hs = ((1 : Nat) : Int) := hk
     simp only [hk2]
     refine r1 T0_ok hP hm hN ?_
     iterate 8 refine g1 ?_
     refine ga1 ?_
     iterate 2 refine g1 ?_
     refine r1 T0_ok hP hm hN ?_
     iterate 2 refine g1 ?_
     first
       | exact ⟨bs.length - (i + 1), _, by omega, (by rw [selK_yes hk, selK_no (k := 1) hn1, i64s_app4]; exact Weak.trans (weak_drop 3) (Weak.trans (weak_drop 4) (Weak.trans (weak_nx (nx' := 3) (by omega) (by rfl)) (weak_sl (sub_cons rfl (sub_cons rfl (sub_cons rfl (sub_cons rfl (sub_cons rfl (sub_nil)))))))))), i + 1, by omega, upto_step hall hnx, rfl, rfl⟩
       | exact ⟨bs.length - (i + 1), _, by omega, (by rw [selK_no (k := 0) hn0, selK_yes hk, i64s_app4]; exact Weak.trans (weak_drop 3) (Weak.trans (weak_drop 4) (Weak.trans (weak_nx (nx' := 3) (by omega) (by rfl)) (weak_sl (sub_cons rfl (sub_cons rfl (sub_cons rfl (sub_cons rfl (sub_cons rfl (sub_nil)))))))))), i + 1, by omega, upto_step hall hnx, rfl, rfl⟩
  ·
   have hgei : ¬ i < bs.length := by simpa using hc0
   obtain rfl : i = bs.length := by omega
   have hall2 : allG hs bs := hall
   have hr : grpR hs bs = (grpL hs bs, true) := by rw [grpR, ask_true hall2]; rfl
   refine awp_exit ?_
   repeat refine thenA_exit ?_
   refine blockA_hit ?_
   refine awp_seq ?_
   refine r1 T0_ok hP hm hN ?_
   iterate 3 refine g1 ?_
   refine awp_weak (weak_frz 1 hS0 hG rfl (.inl rfl)) ?_
   refine awp_weak (weak_frz 2 hS0 hG rfl (.inl rfl)) ?_
   refine awp_weak (weak_deep 0 false rfl (fun _ _ => fm_cons rfl (fm_cons rfl (fm_nil)))) ?_
   refine awp_ret ?_
   refine fin_mk [0] rfl rfl ?_ (by simp only [hr]; first | exact objs_cons rfl rfl rfl rfl rfl (.inl rfl) objs_nil | exact objs_cons rfl rfl rfl (by show _ = i64ss (grpF (gF hs bs) hs.length bs.length); rw [hn]; rfl) rfl (.inl rfl) objs_nil) (by decide)
   show D.tup [_, .val (.bool (grpR hs bs).2)] = _
   rw [hr]
   rfl
 ·
  change awp C _ _ ⟨[(0, .sl 1 (i64s hs)), (1, .sl 8 (bks bs))], [], 0⟩
  have hn : hs.length = 3 := hn6
  refine awp_seq ?_
  refine r1 T0_ok hP hm hN ?_
  iterate 2 refine g1 ?_
  refine awp_seq ?_
  refine r1 T0_ok hP hm hN ?_
  iterate 2 refine g1 ?_
  refine g1 ?_ (hst := by simp +decide (disch := omega) only [nrm, lk_nrm, dc_nrm, mk_nrm, mf_nrm, ti_nrm, ls_nrm, mp_nrm, nb_nrm, hset, pick_and, pick_or, ↓reduceIte, Nat.reduceAdd, wI64, wI32, wI16, wI8, wU8, List.length_map, Int.toNat_natCast, xn1, xn2, hn]; rfl)
  refine g1 ?_
  refine awp_seq ?_
  refine awp_seq ?_
  refine r1 T0_ok hP hm hN ?_
  iterate 3 refine g1 ?_
  refine awp_block ?_
  refine awp_loop (fun n st => ∃ i : Nat, i ≤ bs.length ∧ (∀ j, j < i → (gF hs bs j == (hs.length : Int)) = false) ∧ n = bs.length - i ∧ st = ⟨[(15, .val (.int .i64 ((i : Nat) : Int))), (14, .val (.int .i64 ((bs.length : Nat) : Int))), (13, .sl 8 (bks bs)), (6, .own 0), (0, .sl 1 (i64s hs))], [(3, ⟨2, 1, false, i64s (selK (gF hs bs) 2 i)⟩), (2, ⟨2, 1, false, i64s (selK (gF hs bs) 1 i)⟩), (1, ⟨2, 1, false, i64s (selK (gF hs bs) 0 i)⟩), (0, ⟨31, 1, true, [[.own 1], [.own 2], [.own 3]]⟩)], 4⟩) (bs.length) ⟨_, (by exact Weak.trans (weak_deep 0 true rfl (fun h => by cases h)) (Weak.trans (weak_nilO 0 0 0 2 1 rfl rfl rfl rfl) (Weak.trans (weak_nilO 0 1 0 2 1 rfl rfl rfl rfl) (Weak.trans (weak_nilO 0 2 0 2 1 rfl rfl rfl rfl) (weak_sl (sub_cons rfl (sub_cons rfl (sub_cons rfl (sub_cons rfl (sub_cons rfl (sub_nil))))))))))), 0, by omega, fun j h => by omega, rfl, rfl⟩ ?_
  rintro n st ⟨i, hii, hall, hni, rfl⟩
  have hsl0 := selK_len (gF hs bs) 0 i
  have hsl1 := selK_len (gF hs bs) 1 i
  have hsl2 := selK_len (gF hs bs) 2 i
  refine awp_seq ?_
  refine r1 T0_ok hP hm hN ?_
  refine g1 ?_
  refine awp_seq ?_
  refine awp_cond rfl (fun hc0 => ?_) (fun hc0 => ?_)
  ·
   have hlti : i < bs.length := by simpa using hc0
   refine awp_skip ?_
   refine awp_seq ?_
   refine awp_block ?_
   refine awp_seq ?_
   refine r1 T0_ok hP hm hN ?_
   iterate 6 refine g1 ?_
   refine awp_seq ?_
   refine r1 T0_ok hP hm hN ?_
   iterate 2 refine g1 ?_
   refine gc1 ?_ (call1 ok_I_heightFor (hs, bs.getD i bk0) [] (hpre := by (try dsimp only); exact ⟨by omega, hv _ (getD_mem' (by omega))⟩))
   refine g1 ?_
   refine awp_seq ?_
   refine awp_seq ?_
   refine r1 T0_ok hP hm hN ?_
   iterate 4 refine g1 ?_
   refine awp_cond rfl (fun hc1 => ?_) (fun hc1 => ?_)
   ·
    have hr : grpR hs bs = ([], false) := by rw [grpR, ask_false (fun h => by have := h i hlti; rw [show (gF hs bs i == (hs.length : Int)) = true from hc1] at this; cases this)]; rfl
    refine awp_seq ?_
    refine r1 T0_ok hP hm hN ?_
    iterate 2 refine g1 ?_
    refine awp_weak (weak_nil 4 31 1 rfl) ?_
    refine awp_ret ?_
    refine fin_mk [5] rfl rfl ?_ (by simp only [hr]; first | exact objs_cons rfl rfl rfl rfl rfl (.inl rfl) objs_nil | exact objs_cons rfl rfl rfl (by show _ = i64ss (grpF (gF hs bs) hs.length bs.length); rw [hn]; rfl) rfl (.inl rfl) objs_nil) (by decide)
    show D.tup [_, .val (.bool (grpR hs bs).2)] = _
    rw [hr]
    rfl
   ·
    have hnx : (gF hs bs i == (hs.length : Int)) = false := hc1
    refine awp_skip ?_
    have hkk : gF hs bs i = ((0 : Nat) : Int) ∨ gF hs bs i = ((1 : Nat) : Int) ∨ gF hs bs i = ((2 : Nat) : Int) := by
      have h := gF_b hs bs i
      simp only [beq_eq_false_iff_ne, ne_eq] at hnx
      omega
    obtain hk | hk | hk := hkk
    ·
     have hn1 : ¬ gF hs bs i = ((1 : Nat) : Int) := by omega
     have hn2 : ¬ gF hs bs i = ((2 : Nat) : Int) := by omega
     have hk2 : fstOf (isHigh (bs.getD i bk0).high) hs = ((0 : Nat) : Int) := hk
     simp only [hk2]
     refine r1 T0_ok hP hm hN ?_
     iterate 8 refine g1 ?_
     refine ga1 ?_
     iterate 2 refine g1 ?_
     refine r1 T0_ok hP hm hN ?_
     iterate 2 refine g1 ?_
     first
       | exact ⟨bs.length - (i + 1), _, by omega, (by rw [selK_yes hk, selK_no (k := 1) hn1, selK_no (k := 2) hn2, i64s_app4]; exact Weak.trans (weak_drop 4) (Weak.trans (weak_drop 5) (Weak.trans (weak_nx (nx' := 4) (by omega) (by rfl)) (weak_sl (sub_cons rfl (sub_cons rfl (sub_cons rfl (sub_cons rfl (sub_cons rfl (sub_nil)))))))))), i + 1, by omega, upto_step hall hnx, rfl, rfl⟩
       | exact ⟨bs.length - (i + 1), _, by omega, (by rw [selK_no (k := 0) hn0, selK_yes hk, selK_no (k := 2) hn2, i64s_app4]; exact Weak.trans (weak_drop 4) (Weak.trans (weak_drop 5) (Weak.trans (weak_nx (nx' := 4) (by omega) (by rfl)) (weak_sl (sub_cons rfl (sub_cons rfl (sub_cons rfl (sub_cons rfl (sub_cons rfl (sub_nil)))))))))), i + 1, by omega, upto_step hall hnx, rfl, rfl⟩
       | exact ⟨bs.length - (i + 1), _, by omega, (by rw [selK_no (k := 0) hn0, selK_no (k := 1) hn1, selK_yes hk, i64s_app4]; exact Weak.trans (weak_drop 4) (Weak.trans (weak_drop 5) (Weak.trans (weak_nx (nx' := 4) (by omega) (by rfl)) (weak_sl (sub_cons rfl (sub_cons rfl (sub_cons rfl (sub_cons rfl (sub_cons rfl (sub_nil)))))))))), i + 1, by omega, upto_step hall hnx, rfl, rfl⟩
    ·
     have hn0 : ¬ gF hs bs i = ((0 : Nat) : Int) := by omega
     have hn2 : ¬ gF hs bs i = ((2 : Nat) : Int) := by omega
     have hk2 : fstOf (isHigh (bs.getD i bk0).high) hs = ((1 : Nat) : Int) := hk
     simp only [hk2]
     refine r1 T0_ok hP hm hN ?_
     iterate 8 refine g1 ?_
     refine ga1 ?_
     iterate 2 refine g1 ?_
     refine r1 T0_ok hP hm hN ?_
     iterate 2 refine g1 ?_
     first
       | exact ⟨bs.length - (i + 1), _, by omega, (by rw [selK_yes hk, selK_no (k := 1) hn1, selK_no (k := 2) hn2, i64s_app4]; exact Weak.trans (weak_drop 4) (Weak.trans (weak_drop 5) (Weak.trans (weak_nx (nx' := 4) (by omega) (by rfl)) (weak_sl (sub_cons rfl (sub_cons rfl (sub_cons rfl (sub_cons rfl (sub_cons rfl (sub_nil)))))))))), i + 1, by omega, upto_step hall hnx, rfl, rfl⟩
       | exact ⟨bs.length - (i + 1), _, by omega, (by rw [selK_no (k := 0) hn0, selK_yes hk, selK_no (k := 2) hn2, i64s_app4]; exact Weak.trans (weak_drop 4) (Weak.trans (weak_drop 5) (Weak.trans (weak_nx (nx' := 4) (by omega) (by rfl)) (weak_sl (sub_cons rfl (sub_cons rfl (sub_cons rfl (sub_cons rfl (sub_cons rfl (sub_nil)))))))))), i + 1, by omega, upto_step hall hnx, rfl, rfl⟩
       | exact ⟨bs.length - (i + 1), _, by omega, (by rw [selK_no (k := 0) hn0, selK_no (k := 1) hn1, selK_yes hk, i64s_app4]; exact Weak.trans (weak_drop 4) (Weak.trans (weak_drop 5) (Weak.trans (weak_nx (nx' := 4) (by omega) (by rfl)) (weak_sl (sub_cons rfl (sub_cons rfl (sub_cons rfl (sub_cons rfl (sub_cons rfl (sub_nil)))))))))), i + 1, by omega, upto_step hall hnx, rfl, rfl⟩
    ·
     have hn0 : ¬ gF hs bs i = ((0 : Nat) : Int) := by omega
     have hn1 : ¬ gF hs bs i = ((1 : Nat) : Int) := by omega
     have hk2 : fstOf (isHigh (bs.getD i bk0).high) hs = ((2 : Nat) : Int) := hk
     simp only [hk2]
     refine r1 T0_ok hP hm hN ?_
     iterate 8 refine g1 ?_
     refine ga1 ?_
     iterate 2 refine g1 ?_
     refine r1 T0_ok hP hm hN ?_
     iterate 2 refine g1 ?_
     first
       | exact ⟨bs.length - (i + 1), _, by omega, (by rw [selK_yes hk, selK_no (k := 1) hn1, selK_no (k := 2) hn2, i64s_app4]; exact Weak.trans (weak_drop 4) (Weak.trans (weak_drop 5) (Weak.trans (weak_nx (nx' := 4) (by omega) (by rfl)) (weak_sl (sub_cons rfl (sub_cons rfl (sub_cons rfl (sub_cons rfl (sub_cons rfl (sub_nil)))))))))), i + 1, by omega, upto_step hall hnx, rfl, rfl⟩
       | exact ⟨bs.length - (i + 1), _, by omega, (by rw [selK_no (k := 0) hn0, selK_yes hk, selK_no (k := 2) hn2, i64s_app4]; exact Weak.trans (weak_drop 4) (Weak.trans (weak_drop 5) (Weak.trans (weak_nx (nx' := 4) (by omega) (by rfl)) (weak_sl (sub_cons rfl (sub_cons rfl (sub_cons rfl (sub_cons rfl (sub_cons rfl (sub_nil)))))))))), i + 1, by omega, upto_step hall hnx, rfl, rfl⟩
       | exact ⟨bs.length - (i + 1), _, by omega, (by rw [selK_no (k := 0) hn0, selK_no (k := 1) hn1, selK_yes hk, i64s_app4]; exact Weak.trans (weak_drop 4) (Weak.trans (weak_drop 5) (Weak.trans (weak_nx (nx' := 4) (by omega) (by rfl)) (weak_sl (sub_cons rfl (sub_cons rfl (sub_cons rfl (sub_cons rfl (sub_cons rfl (sub_nil)))))))))), i + 1, by omega, upto_step hall hnx, rfl, rfl⟩
  ·
   have hgei : ¬ i < bs.length := by simpa using hc0
   obtain rfl : i = bs.length := by omega
   have hall2 : allG hs bs := hall
   have hr : grpR hs bs = (grpL hs bs, true) := by rw [grpR, ask_true hall2]; rfl
   refine awp_exit ?_
   repeat refine thenA_exit ?_
   refine blockA_hit ?_
   refine awp_seq ?_
   refine r1 T0_ok hP hm hN ?_
   iterate 3 refine g1 ?_
   refine awp_weak (weak_frz 1 hS0 hG rfl (.inl rfl)) ?_
   refine awp_weak (weak_frz 2 hS0 hG rfl (.inl rfl)) ?_
   refine awp_weak (weak_frz 3 hS0 hG rfl (.inl rfl)) ?_
   refine awp_weak (weak_deep 0 false rfl (fun _ _ => fm_cons rfl (fm_cons rfl (fm_cons rfl (fm_nil))))) ?_
   refine awp_ret ?_
   refine fin_mk [0] rfl rfl ?_ (by simp only [hr]; first | exact objs_cons rfl rfl rfl rfl rfl (.inl rfl) objs_nil | exact objs_cons rfl rfl rfl (by show _ = i64ss (grpF (gF hs bs) hs.length bs.length); rw [hn]; rfl) rfl (.inl rfl) objs_nil) (by decide)
   show D.tup [_, .val (.bool (grpR hs bs).2)] = _
   rw [hr]
   rfl
 ·
  change awp C _ _ ⟨[(0, .sl 1 (i64s hs)), (1, .sl 8 (bks bs))], [], 0⟩
  have hn : hs.length = 4 := hn6
  refine awp_seq ?_
  refine r1 T0_ok hP hm hN ?_
  iterate 2 refine g1 ?_
  refine awp_seq ?_
  refine r1 T0_ok hP hm hN ?_
  iterate 2 refine g1 ?_
  refine g1 ?_ (hst := by simp +decide (disch := omega) only [nrm, lk_nrm, dc_nrm, mk_nrm, mf_nrm, ti_nrm, ls_nrm, mp_nrm, nb_nrm, hset, pick_and, pick_or, ↓reduceIte, Nat.reduceAdd, wI64, wI32, wI16, wI8, wU8, List.length_map, Int.toNat_natCast, xn1, xn2, hn]; rfl)
  refine g1 ?_
  refine awp_seq ?_
  refine awp_seq ?_
  refine r1 T0_ok hP hm hN ?_
  iterate 3 refine g1 ?_
  refine awp_block ?_
  refine awp_loop (fun n st => ∃ i : Nat, i ≤ bs.length ∧ (∀ j, j < i → (gF hs bs j == (hs.length : Int)) = false) ∧ n = bs.length - i ∧ st = ⟨[(15, .val (.int .i64 ((i : Nat) : Int))), (14, .val (.int .i64 ((bs.length : Nat) : Int))), (13, .sl 8 (bks bs)), (6, .own 0), (0, .sl 1 (i64s hs))], [(4, ⟨2, 1, false, i64s (selK (gF hs bs) 3 i)⟩), (3, ⟨2, 1, false, i64s (selK (gF hs bs) 2 i)⟩), (2, ⟨2, 1, false, i64s (selK (gF hs bs) 1 i)⟩), (1, ⟨2, 1, false, i64s (selK (gF hs bs) 0 i)⟩), (0, ⟨31, 1, true, [[.own 1], [.own 2], [.own 3], [.own 4]]⟩)], 5⟩) (bs.length) ⟨_, (by exact Weak.trans (weak_deep 0 true rfl (fun h => by cases h)) (Weak.trans (weak_nilO 0 0 0 2 1 rfl rfl rfl rfl) (Weak.trans (weak_nilO 0 1 0 2 1 rfl rfl rfl rfl) (Weak.trans (weak_nilO 0 2 0 2 1 rfl rfl rfl rfl) (Weak.trans (weak_nilO 0 3 0 2 1 rfl rfl rfl rfl) (weak_sl (sub_cons rfl (sub_cons rfl (sub_cons rfl (sub_cons rfl (sub_cons rfl (sub_nil)))))))))))), 0, by omega, fun j h => by omega, rfl, rfl⟩ ?_
  rintro n st ⟨i, hii, hall, hni, rfl⟩
  have hsl0 := selK_len (gF hs bs) 0 i
  have hsl1 := selK_len (gF hs bs) 1 i
  have hsl2 := selK_len (gF hs bs) 2 i
  have hsl3 := selK_len (gF hs bs) 3 i
  refine awp_seq ?_
  refine r1 T0_ok hP hm hN ?_
  refine g1 ?_
  refine awp_seq ?_
  refine awp_cond rfl (fun hc0 => ?_) (fun hc0 => ?_)
  ·
   have hlti : i < bs.length := by simpa using hc0
   refine awp_skip ?_
   refine awp_seq ?_
   refine awp_block ?_
   refine awp_seq ?_
   refine r1 T0_ok hP hm hN ?_
   iterate 6 refine g1 ?_
   refine awp_seq ?_
   refine r1 T0_ok hP hm hN ?_
   iterate 2 refine g1 ?_
   refine gc1 ?_ (call1 ok_I_heightFor (hs, bs.getD i bk0) [] (hpre := by (try dsimp only); exact ⟨by omega, hv _ (getD_mem' (by omega))⟩))
   refine g1 ?_
   refine awp_seq ?_
   refine awp_seq ?_
   refine r1 T0_ok hP hm hN ?_
   iterate 4 refine g1 ?_
   refine awp_cond rfl (fun hc1 => ?_) (fun hc1 => ?_)
   ·
    have hr : grpR hs bs = ([], false) := by rw [grpR, ask_false (fun h => by have := h i hlti; rw [show (gF hs bs i == (hs.length : Int)) = true from hc1] at this; cases this)]; rfl
    refine awp_seq ?_
    refine r1 T0_ok hP hm hN ?_
    iterate 2 refine g1 ?_
    refine awp_weak (weak_nil 4 31 1 rfl) ?_
    refine awp_ret ?_
    refine fin_mk [6] rfl rfl ?_ (by simp only [hr]; first | exact objs_cons rfl rfl rfl rfl rfl (.inl rfl) objs_nil | exact objs_cons rfl rfl rfl (by show _ = i64ss (grpF (gF hs bs) hs.length bs.length); rw [hn]; rfl) rfl (.inl rfl) objs_nil) (by decide)
    show D.tup [_, .val (.bool (grpR hs bs).2)] = _
    rw [hr]
    rfl
   ·
    have hnx : (gF hs bs i == (hs.length : Int)) = false := hc1
    refine awp_skip ?_
    have hkk : gF hs bs i = ((0 : Nat) : Int) ∨ gF hs bs i = ((1 : Nat) : Int) ∨ gF hs bs i = ((2 : Nat) : Int) ∨ gF hs bs i = ((3 : Nat) : Int) := by
      have h := gF_b hs bs i
      simp only [beq_eq_false_iff_ne, ne_eq] at hnx
      omega
    obtain hk | hk | hk | hk := hkk
    ·
     have hn1 : ¬ gF hs bs i = ((1 : Nat) : Int) := by omega
     have hn2 : ¬ gF hs bs i = ((2 : Nat) : Int) := by omega
     have hn3 : ¬ gF hs bs i = ((3 : Nat) : Int) := by omega
     have hk2 : fstOf (isHigh (bs.getD i bk0).high) hs = ((0 : Nat) : Int) := hk
     simp only [hk2]
     refine r1 T0_ok hP hm hN ?_
     iterate 8 refine g1 ?_
     refine ga1 ?_
     iterate 2 refine g1 ?_
     refine r1 T0_ok hP hm hN ?_
     iterate 2 refine g1 ?_
     first
       | exact ⟨bs.length - (i + 1), _, by omega, (by rw [selK_yes hk, selK_no (k := 1) hn1, selK_no (k := 2) hn2, selK_no (k := 3) hn3, i64s_app4]; exact Weak.trans (weak_drop 5) (Weak.trans (weak_drop 6) (Weak.trans (weak_nx (nx' := 5) (by omega) (by rfl)) (weak_sl (sub_cons rfl (sub_cons rfl (sub_cons rfl (sub_cons rfl (sub_cons rfl (sub_nil)))))))))), i + 1, by omega, upto_step hall hnx, rfl, rfl⟩
       | exact ⟨bs.length - (i + 1), _, by omega, (by rw [selK_no (k := 0) hn0, selK_yes hk, selK_no (k := 2) hn2, selK_no (k := 3) hn3, i64s_app4]; exact Weak.trans (weak_drop 5) (Weak.trans (weak_drop 6) (Weak.trans (weak_nx (nx' := 5) (by omega) (by rfl)) (weak_sl (sub_cons rfl (sub_cons rfl (sub_cons rfl (sub_cons rfl (sub_cons rfl (sub_nil)))))))))), i + 1, by omega, upto_step hall hnx, rfl, rfl⟩
       | exact ⟨bs.length - (i + 1), _, by omega, (by rw [selK_no (k := 0) hn0, selK_no (k := 1) hn1, selK_yes hk, selK_no (k := 3) hn3, i64s_app4]; exact Weak.trans (weak_drop 5) (Weak.trans (weak_drop 6) (Weak.trans (weak_nx (nx' := 5) (by omega) (by rfl)) (weak_sl (sub_cons rfl (sub_cons rfl (sub_cons rfl (sub_cons rfl (sub_cons rfl (sub_nil)))))))))), i + 1, by omega, upto_step hall hnx, rfl, rfl⟩
       | exact ⟨bs.length - (i + 1), _, by omega, (by rw [selK_no (k := 0) hn0, selK_no (k := 1) hn1, selK_no (k := 2) hn2, selK_yes hk, i64s_app4]; exact Weak.trans (weak_drop 5) (Weak.trans (weak_drop 6) (Weak.trans (weak_nx (nx' := 5) (by omega) (by rfl)) (weak_sl (sub_cons rfl (sub_cons rfl (sub_cons rfl (sub_cons rfl (sub_cons rfl (sub_nil)))))))))), i + 1, by omega, upto_step hall hnx, rfl, rfl⟩
    ·
     have hn0 : ¬ gF hs bs i = ((0 : Nat) : Int) := by omega
     have hn2 : ¬ gF hs bs i = ((2 : Nat) : Int) := by omega
     have hn3 : ¬ gF hs bs i = ((3 : Nat) : Int) := by omega
     have hk2 : fstOf (isHigh (bs.getD i bk0).high) hs = ((1 : Nat) : Int) := hk
     simp only [hk2]
     refine r1 T0_ok hP hm hN ?_
     iterate 8 refine g1 ?_
     refine ga1 ?_
     iterate 2 refine g1 ?_
     refine r1 T0_ok hP hm hN ?_
     iterate 2 refine g1 ?_
     first
       | exact ⟨bs.length - (i + 1), _, by omega, (by rw [selK_yes hk, selK_no (k := 1) hn1, selK_no (k := 2) hn2, selK_no (k := 3) hn3, i64s_app4]; exact Weak.trans (weak_drop 5) (Weak.trans (weak_drop 6) (Weak.trans (weak_nx (nx' := 5) (by omega) (by rfl)) (weak_sl (sub_cons rfl (sub_cons rfl (sub_cons rfl (sub_cons rfl (sub_cons rfl (sub_nil)))))))))), i + 1, by omega, upto_step hall hnx, rfl, rfl⟩
       | exact ⟨bs.length - (i + 1), _, by omega, (by rw [selK_no (k := 0) hn0, selK_yes hk, selK_no (k := 2) hn2, selK_no (k := 3) hn3, i64s_app4]; exact Weak.trans (weak_drop 5) (Weak.trans (weak_drop 6) (Weak.trans (weak_nx (nx' := 5) (by omega) (by rfl)) (weak_sl (sub_cons rfl (sub_cons rfl (sub_cons rfl (sub_cons rfl (sub_cons rfl (sub_nil)))))))))), i + 1, by omega, upto_step hall hnx, rfl, rfl⟩
       | exact ⟨bs.length - (i + 1), _, by omega, (by rw [selK_no (k := 0) hn0, selK_no (k := 1) hn1, selK_yes hk, selK_no (k := 3) hn3, i64s_app4]; exact Weak.trans (weak_drop 5) (Weak.trans (weak_drop 6) (Weak.trans (weak_nx (nx' := 5) (by omega) (by rfl)) (weak_sl (sub_cons rfl (sub_cons rfl (sub_cons rfl (sub_cons rfl (sub_cons rfl (sub_nil)))))))))), i + 1, by omega, upto_step hall hnx, rfl, rfl⟩
       | exact ⟨bs.length - (i + 1), _, by omega, (by rw [selK_no (k := 0) hn0, selK_no (k := 1) hn1, selK_no (k := 2) hn2, selK_yes hk, i64s_app4]; exact Weak.trans (weak_drop 5) (Weak.trans (weak_drop 6) (Weak.trans (weak_nx (nx' := 5) (by omega) (by rfl)) (weak_sl (sub_cons rfl (sub_cons rfl (sub_cons rfl (sub_cons rfl (sub_cons rfl (sub_nil)))))))))), i + 1, by omega, upto_step hall hnx, rfl, rfl⟩
    ·
     have hn0 : ¬ gF hs bs i = ((0 : Nat) : Int) := by omega
     have hn1 : ¬ gF hs bs i = ((1 : Nat) : Int) := by omega
     have hn3 : ¬ gF hs bs i = ((3 : Nat) : Int) := by omega
     have hk2 : fstOf (isHigh (bs.getD i bk0).high) hs = ((2 : Nat) : Int) := hk
     simp only [hk2]
     refine r1 T0_ok hP hm hN ?_
     iterate 8 refine g1 ?_
     refine ga1 ?_
     iterate 2 refine g1 ?_
     refine r1 T0_ok hP hm hN ?_
     iterate 2 refine g1 ?_
     first
       | exact ⟨bs.length - (i + 1), _, by omega, (by rw [selK_yes hk, selK_no (k := 1) hn1, selK_no (k := 2) hn2, selK_no (k := 3) hn3, i64s_app4]; exact Weak.trans (weak_drop 5) (Weak.trans (weak_drop 6) (Weak.trans (weak_nx (nx' := 5) (by omega) (by rfl)) (weak_sl (sub_cons rfl (sub_cons rfl (sub_cons rfl (sub_cons rfl (sub_cons rfl (sub_nil)))))))))), i + 1, by omega, upto_step hall hnx, rfl, rfl⟩
       | exact ⟨bs.length - (i + 1), _, by omega, (by rw [selK_no (k := 0) hn0, selK_yes hk, selK_no (k := 2) hn2, selK_no (k := 3) hn3, i64s_app4]; exact Weak.trans (weak_drop 5) (Weak.trans (weak_drop 6) (Weak.trans (weak_nx (nx' := 5) (by omega) (by rfl)) (weak_sl (sub_cons rfl (sub_cons rfl (sub_cons rfl (sub_cons rfl (sub_cons rfl (sub_nil)))))))))), i + 1, by omega, upto_step hall hnx, rfl, rfl⟩
       | exact ⟨bs.length - (i + 1), _, by omega, (by rw [selK_no (k := 0) hn0, selK_no (k := 1) hn1, selK_yes hk, selK_no (k := 3) hn3, i64s_app4]; exact Weak.trans (weak_drop 5) (Weak.trans (weak_drop 6) (Weak.trans (weak_nx (nx' := 5) (by omega) (by rfl)) (weak_sl (sub_cons rfl (sub_cons rfl (sub_cons rfl (sub_cons rfl (sub_cons rfl (sub_nil)))))))))), i + 1, by omega, upto_step hall hnx, rfl, rfl⟩
       | exact ⟨bs.length - (i + 1), _, by omega, (by rw [selK_no (k := 0) hn0, selK_no (k := 1) hn1, selK_no (k := 2) hn2, selK_yes hk, i64s_app4]; exact Weak.trans (weak_drop 5) (Weak.trans (weak_drop 6) (Weak.trans (weak_nx (nx' := 5) (by omega) (by rfl)) (weak_sl (sub_cons rfl (sub_cons rfl (sub_cons rfl (sub_cons rfl (sub_cons rfl (sub_nil)))))))))), i + 1, by omega, upto_step hall hnx, rfl, rfl⟩
    ·
     have hn0 : ¬ gF hs bs i = ((0 : Nat) : Int) := by omega
     have hn1 : ¬ gF hs bs i = ((1 : Nat) : Int) := by omega
     have hn2 : ¬ gF hs bs i = ((2 : Nat) : Int) := by omega
     have hk2 : fstOf (isHigh (bs.getD i bk0).high) hs = ((3 : Nat) : Int) := hk
     simp only [hk2]
     refine r1 T0_ok hP hm hN ?_
     iterate 8 refine g1 ?_
     refine ga1 ?_
     iterate 2 refine g1 ?_
     refine r1 T0_ok hP hm hN ?_
     iterate 2 refine g1 ?_
     first
       | exact ⟨bs.length - (i + 1), _, by omega, (by rw [selK_yes hk, selK_no (k := 1) hn1, selK_no (k := 2) hn2, selK_no (k := 3) hn3, i64s_app4]; exact Weak.trans (weak_drop 5) (Weak.trans (weak_drop 6) (Weak.trans (weak_nx (nx' := 5) (by omega) (by rfl)) (weak_sl (sub_cons rfl (sub_cons rfl (sub_cons rfl (sub_cons rfl (sub_cons rfl (sub_nil)))))))))), i + 1, by omega, upto_step hall hnx, rfl, rfl⟩
       | exact ⟨bs.length - (i + 1), _, by omega, (by rw [selK_no (k := 0) hn0, selK_yes hk, selK_no (k := 2) hn2, selK_no (k := 3) hn3, i64s_app4]; exact Weak.trans (weak_drop 5) (Weak.trans (weak_drop 6) (Weak.trans (weak_nx (nx' := 5) (by omega) (by rfl)) (weak_sl (sub_cons rfl (sub_cons rfl (sub_cons rfl (sub_cons rfl (sub_cons rfl (sub_nil)))))))))), i + 1, by omega, upto_step hall hnx, rfl, rfl⟩
       | exact ⟨bs.length - (i + 1), _, by omega, (by rw [selK_no (k := 0) hn0, selK_no (k := 1) hn1, selK_yes hk, selK_no (k := 3) hn3, i64s_app4]; exact Weak.trans (weak_drop 5) (Weak.trans (weak_drop 6) (Weak.trans (weak_nx (nx' := 5) (by omega) (by rfl)) (weak_sl (sub_cons rfl (sub_cons rfl (sub_cons rfl (sub_cons rfl (sub_cons rfl (sub_nil)))))))))), i + 1, by omega, upto_step hall hnx, rfl, rfl⟩
       | exact ⟨bs.length - (i + 1), _, by omega, (by rw [selK_no (k := 0) hn0, selK_no (k := 1) hn1, selK_no (k := 2) hn2, selK_yes hk, i64s_app4]; exact Weak.trans (weak_drop 5) (Weak.trans (weak_drop 6) (Weak.trans (weak_nx (nx' := 5) (by omega) (by rfl)) (weak_sl (sub_cons rfl (sub_cons rfl (sub_cons rfl (sub_cons rfl (sub_cons rfl (sub_nil)))))))))), i + 1, by omega, upto_step hall hnx, rfl, rfl⟩
  ·
   have hgei : ¬ i < bs.length := by simpa using hc0
   obtain rfl : i = bs.length := by omega
   have hall2 : allG hs bs := hall
   have hr : grpR hs bs = (grpL hs bs, true) := by rw [grpR, ask_true hall2]; rfl
   refine awp_exit ?_
   repeat refine thenA_exit ?_
   refine blockA_hit ?_
   refine awp_seq ?_
   refine r1 T0_ok hP hm hN ?_
   iterate 3 refine g1 ?_
   refine awp_weak (weak_frz 1 hS0 hG rfl (.inl rfl)) ?_
   refine awp_weak (weak_frz 2 hS0 hG rfl (.inl rfl)) ?_
   refine awp_weak (weak_frz 3 hS0 hG rfl (.inl rfl)) ?_
   refine awp_weak (weak_frz 4 hS0 hG rfl (.inl rfl)) ?_
   refine awp_weak (weak_deep 0 false rfl (fun _ _ => fm_cons rfl (fm_cons rfl (fm_cons rfl (fm_cons rfl (fm_nil)))))) ?_
   refine awp_ret ?_
   refine fin_mk [0] rfl rfl ?_ (by simp only [hr]; first | exact objs_cons rfl rfl rfl rfl rfl (.inl rfl) objs_nil | exact objs_cons rfl rfl rfl (by show _ = i64ss (grpF (gF hs bs) hs.length bs.length); rw [hn]; rfl) rfl (.inl rfl) objs_nil) (by decide)
   show D.tup [_, .val (.bool (grpR hs bs).2)] = _
   rw [hr]
   rfl
 ·
  change awp C _ _ ⟨[(0, .sl 1 (i64s hs)), (1, .sl 8 (bks bs))], [], 0⟩
  have hn : hs.length = 5 := hn6
  refine awp_seq ?_
  refine r1 T0_ok hP hm hN ?_
  iterate 2 refine g1 ?_
  refine awp_seq ?_
  refine r1 T0_ok hP hm hN ?_
  iterate 2 refine g1 ?_
  refine g1 ?_ (hst := by simp +decide (disch := omega) only [nrm, lk_nrm, dc_nrm, mk_nrm, mf_nrm, ti_nrm, ls_nrm, mp_nrm, nb_nrm, hset, pick_and, pick_or, ↓reduceIte, Nat.reduceAdd, wI64, wI32, wI16, wI8, wU8, List.length_map, Int.toNat_natCast, xn1, xn2, hn]; rfl)
  refine g1 ?_
  refine awp_seq ?_
  refine awp_seq ?_
  refine r1 T0_ok hP hm hN ?_
  iterate 3 refine g1 ?_
  refine awp_block ?_
  refine awp_loop (fun n st => ∃ i : Nat, i ≤ bs.length ∧ (∀ j, j < i → (gF hs bs j == (hs.length : Int)) = false) ∧ n = bs.length - i ∧ st = ⟨[(15, .val (.int .i64 ((i : Nat) : Int))), (14, .val (.int .i64 ((bs.length : Nat) : Int))), (13, .sl 8 (bks bs)), (6, .own 0), (0, .sl 1 (i64s hs))], [(5, ⟨2, 1, false, i64s (selK (gF hs bs) 4 i)⟩), (4, ⟨2, 1, false, i64s (selK (gF hs bs) 3 i)⟩), (3, ⟨2, 1, false, i64s (selK (gF hs bs) 2 i)⟩), (2, ⟨2, 1, false, i64s (selK (gF hs bs) 1 i)⟩), (1, ⟨2, 1, false, i64s (selK (gF hs bs) 0 i)⟩), (0, ⟨31, 1, true, [[.own 1], [.own 2], [.own 3], [.own 4], [.own 5]]⟩)], 6⟩) (bs.length) ⟨_, (by exact Weak.trans (weak_deep 0 true rfl (fun h => by cases h)) (Weak.trans (weak_nilO 0 0 0 2 1 rfl rfl rfl rfl) (Weak.trans (weak_nilO 0 1 0 2 1 rfl rfl rfl rfl) (Weak.trans (weak_nilO 0 2 0 2 1 rfl rfl rfl rfl) (Weak.trans (weak_nilO 0 3 0 2 1 rfl rfl rfl rfl) (Weak.trans (weak_nilO 0 4 0 2 1 rfl rfl rfl rfl) (weak_sl (sub_cons rfl (sub_cons rfl (sub_cons rfl (sub_cons rfl (sub_cons rfl (sub_nil))))))))))))), 0, by omega, fun j h => by omega, rfl, rfl⟩ ?_
  rintro n st ⟨i, hii, hall, hni, rfl⟩
  have hsl0 := selK_len (gF hs bs) 0 i
  have hsl1 := selK_len (gF hs bs) 1 i
  have hsl2 := selK_len (gF hs bs) 2 i
  have hsl3 := selK_len (gF hs bs) 3 i
  have hsl4 := selK_len (gF hs bs) 4 i
  refine awp_seq ?_
  refine r1 T0_ok hP hm hN ?_
  refine g1 ?_
  refine awp_seq ?_
  refine awp_cond rfl (fun hc0 => ?_) (fun hc0 => ?_)
  ·
   have hlti : i < bs.length := by simpa using hc0
   refine awp_skip ?_
   refine awp_seq ?_
   refine awp_block ?_
   refine awp_seq ?_
   refine r1 T0_ok hP hm hN ?_
   iterate 6 refine g1 ?_
   refine awp_seq ?_
   refine r1 T0_ok hP hm hN ?_
   iterate 2 refine g1 ?_
   refine gc1 ?_ (call1 ok_I_heightFor (hs, bs.getD i bk0) [] (hpre := by (try dsimp only); exact ⟨by omega, hv _ (getD_mem' (by omega))⟩))
   refine g1 ?_
   refine awp_seq ?_
   refine awp_seq ?_
   refine r1 T0_ok hP hm hN ?_
   iterate 4 refine g1 ?_
   refine awp_cond rfl (fun hc1 => ?_) (fun hc1 => ?_)
   ·
    have hr : grpR hs bs = ([], false) := by rw [grpR, ask_false (fun h => by have := h i hlti; rw [show (gF hs bs i == (hs.length : Int)) = true from hc1] at this; cases this)]; rfl
    refine awp_seq ?_
    refine r1 T0_ok hP hm hN ?_
    iterate 2 refine g1 ?_
    refine awp_weak (weak_nil 4 31 1 rfl) ?_
    refine awp_ret ?_
    refine fin_mk [7] rfl rfl ?_ (by simp only [hr]; first | exact objs_cons rfl rfl rfl rfl rfl (.inl rfl) objs_nil | exact objs_cons rfl rfl rfl (by show _ = i64ss (grpF (gF hs bs) hs.length bs.length); rw [hn]; rfl) rfl (.inl rfl) objs_nil) (by decide)
    show D.tup [_, .val (.bool (grpR hs bs).2)] = _
    rw [hr]
    rfl
   ·
    have hnx : (gF hs bs i == (hs.length : Int)) = false := hc1
    refine awp_skip ?_
    have hkk : gF hs bs i = ((0 : Nat) : Int) ∨ gF hs bs i = ((1 : Nat) : Int) ∨ gF hs bs i = ((2 : Nat) : Int) ∨ gF hs bs i = ((3 : Nat) : Int) ∨ gF hs bs i = ((4 : Nat) : Int) := by
      have h := gF_b hs bs i
      simp only [beq_eq_false_iff_ne, ne_eq] at hnx
      omega
    obtain hk | hk | hk | hk | hk := hkk
    ·
     have hn1 : ¬ gF hs bs i = ((1 : Nat) : Int) := by omega
     have hn2 : ¬ gF hs bs i = ((2 : Nat) : Int) := by omega
     have hn3 : ¬ gF hs bs i = ((3 : Nat) : Int) := by omega
     have hn4 : ¬ gF hs bs i = ((4 : Nat) : Int) := by omega
     have hk2 : fstOf (isHigh (bs.getD i bk0).high) hs = ((0 : Nat) : Int) := hk
     simp only [hk2]
     refine r1 T0_ok hP hm hN ?_
     iterate 8 refine g1 ?_
     refine ga1 ?_
     iterate 2 refine g1 ?_
     refine r1 T0_ok hP hm hN ?_
     iterate 2 refine g1 ?_
     first
       | exact ⟨bs.length - (i + 1), _, by omega, (by rw [selK_yes hk, selK_no (k := 1) hn1, selK_no (k := 2) hn2, selK_no (k := 3) hn3, selK_no (k := 4) hn4, i64s_app4]; exact Weak.trans (weak_drop 6) (Weak.trans (weak_drop 7) (Weak.trans (weak_nx (nx' := 6) (by omega) (by rfl)) (weak_sl (sub_cons rfl (sub_cons rfl (sub_cons rfl (sub_cons rfl (sub_cons rfl (sub_nil)))))))))), i + 1, by omega, upto_step hall hnx, rfl, rfl⟩
       | exact ⟨bs.length - (i + 1), _, by omega, (by rw [selK_no (k := 0) hn0, selK_yes hk, selK_no (k := 2) hn2, selK_no (k := 3) hn3, selK_no (k := 4) hn4, i64s_app4]; exact Weak.trans (weak_drop 6) (Weak.trans (weak_drop 7) (Weak.trans (weak_nx (nx' := 6) (by omega) (by rfl)) (weak_sl (sub_cons rfl (sub_cons rfl (sub_cons rfl (sub_cons rfl (sub_cons rfl (sub_nil)))))))))), i + 1, by omega, upto_step hall hnx, rfl, rfl⟩
       | exact ⟨bs.length - (i + 1), _, by omega, (by rw [selK_no (k := 0) hn0, selK_no (k := 1) hn1, selK_yes hk, selK_no (k := 3) hn3, selK_no (k := 4) hn4, i64s_app4]; exact Weak.trans (weak_drop 6) (Weak.trans (weak_drop 7) (Weak.trans (weak_nx (nx' := 6) (by omega) (by rfl)) (weak_sl (sub_cons rfl (sub_cons rfl (sub_cons rfl (sub_cons rfl (sub_cons rfl (sub_nil)))))))))), i + 1, by omega, upto_step hall hnx, rfl, rfl⟩
       | exact ⟨bs.length - (i + 1), _, by omega, (by rw [selK_no (k := 0) hn0, selK_no (k := 1) hn1, selK_no (k := 2) hn2, selK_yes hk, selK_no (k := 4) hn4, i64s_app4]; exact Weak.trans (weak_drop 6) (Weak.trans (weak_drop 7) (Weak.trans (weak_nx (nx' := 6) (by omega) (by rfl)) (weak_sl (sub_cons rfl (sub_cons rfl (sub_cons rfl (sub_cons rfl (sub_cons rfl (sub_nil)))))))))), i + 1, by omega, upto_step hall hnx, rfl, rfl⟩
       | exact ⟨bs.length - (i + 1), _, by omega, (by rw [selK_no (k := 0) hn0, selK_no (k := 1) hn1, selK_no (k := 2) hn2, selK_no (k := 3) hn3, selK_yes hk, i64s_app4]; exact Weak.trans (weak_drop 6) (Weak.trans (weak_drop 7) (Weak.trans (weak_nx (nx' := 6) (by omega) (by rfl)) (weak_sl (sub_cons rfl (sub_cons rfl (sub_cons rfl (sub_cons rfl (sub_cons rfl (sub_nil)))))))))), i + 1, by omega, upto_step hall hnx, rfl, rfl⟩
    ·
     have hn0 : ¬ gF hs bs i = ((0 : Nat) : Int) := by omega
     have hn2 : ¬ gF hs bs i = ((2 : Nat) : Int) := by omega
     have hn3 : ¬ gF hs bs i = ((3 : Nat) : Int) := by omega
     have hn4 : ¬ gF hs bs i = ((4 : Nat) : Int) := by omega
     have hk2 : fstOf (isHigh (bs.getD i bk0).high) hs = ((1 : Nat) : Int) := hk
     simp only [hk2]
     refine r1 T0_ok hP hm hN ?_
     iterate 8 refine g1 ?_
     refine ga1 ?_
     iterate 2 refine g1 ?_
     refine r1 T0_ok hP hm hN ?_
     iterate 2 refine g1 ?_
     first
       | exact ⟨bs.length - (i + 1), _, by omega, (by rw [selK_yes hk, selK_no (k := 1) hn1, selK_no (k := 2) hn2, selK_no (k := 3) hn3, selK_no (k := 4) hn4, i64s_app4]; exact Weak.trans (weak_drop 6) (Weak.trans (weak_drop 7) (Weak.trans (weak_nx (nx' := 6) (by omega) (by rfl)) (weak_sl (sub_cons rfl (sub_cons rfl (sub_cons rfl (sub_cons rfl (sub_cons rfl (sub_nil)))))))))), i + 1, by omega, upto_step hall hnx, rfl, rfl⟩
       | exact ⟨bs.length - (i + 1), _, by omega, (by rw [selK_no (k := 0) hn0, selK_yes hk, selK_no (k := 2) hn2, selK_no (k := 3) hn3, selK_no (k := 4) hn4, i64s_app4]; exact Weak.trans (weak_drop 6) (Weak.trans (weak_drop 7) (Weak.trans (weak_nx (nx' := 6) (by omega) (by rfl)) (weak_sl (sub_cons rfl (sub_cons rfl (sub_cons rfl (sub_cons rfl (sub_cons rfl (sub_nil)))))))))), i + 1, by omega, upto_step hall hnx, rfl, rfl⟩
       | exact ⟨bs.length - (i + 1), _, by omega, (by rw [selK_no (k := 0) hn0, selK_no (k := 1) hn1, selK_yes hk, selK_no (k := 3) hn3, selK_no (k := 4) hn4, i64s_app4]; exact Weak.trans (weak_drop 6) (Weak.trans (weak_drop 7) (Weak.trans (weak_nx (nx' := 6) (by omega) (by rfl)) (weak_sl (sub_cons rfl (sub_cons rfl (sub_cons rfl (sub_cons rfl (sub_cons rfl (sub_nil)))))))))), i + 1, by omega, upto_step hall hnx, rfl, rfl⟩
       | exact ⟨bs.length - (i + 1), _, by omega, (by rw [selK_no (k := 0) hn0, selK_no (k := 1) hn1, selK_no (k := 2) hn2, selK_yes hk, selK_no (k := 4) hn4, i64s_app4]; exact Weak.trans (weak_drop 6) (Weak.trans (weak_drop 7) (Weak.trans (weak_nx (nx' := 6) (by omega) (by rfl)) (weak_sl (sub_cons rfl (sub_cons rfl (sub_cons rfl (sub_cons rfl (sub_cons rfl (sub_nil)))))))))), i + 1, by omega, upto_step hall hnx, rfl, rfl⟩
       | exact ⟨bs.length - (i + 1), _, by omega, (by rw [selK_no (k := 0) hn0, selK_no (k := 1) hn1, selK_no (k := 2) hn2, selK_no (k := 3) hn3, selK_yes hk, i64s_app4]; exact Weak.trans (weak_drop 6) (Weak.trans (weak_drop 7) (Weak.trans (weak_nx (nx' := 6) (by omega) (by rfl)) (weak_sl (sub_cons rfl (sub_cons rfl (sub_cons rfl (sub_cons rfl (sub_cons rfl (sub_nil)))))))))), i + 1, by omega, upto_step hall hnx, rfl, rfl⟩
    ·
     have hn0 : ¬ gF hs bs i = ((0 : Nat) : Int) := by omega
     have hn1 : ¬ gF hs bs i = ((1 : Nat) : Int) := by omega
     have hn3 : ¬ gF hs bs i = ((3 : Nat) : Int) := by omega
     have hn4 : ¬ gF hs bs i = ((4 : Nat) : Int) := by omega
     have hk2 : fstOf (isHigh (bs.getD i bk0).high) hs = ((2 : Nat) : Int) := hk
     simp only [hk2]
     refine r1 T0_ok hP hm hN ?_
     iterate 8 refine g1 ?_
     refine ga1 ?_
     iterate 2 refine g1 ?_
     refine r1 T0_ok hP hm hN ?_
     iterate 2 refine g1 ?_
     first
       | exact ⟨bs.length - (i + 1), _, by omega, (by rw [selK_yes hk, selK_no (k := 1) hn1, selK_no (k := 2) hn2, selK_no (k := 3) hn3, selK_no (k := 4) hn4, i64s_app4]; exact Weak.trans (weak_drop 6) (Weak.trans (weak_drop 7) (Weak.trans (weak_nx (nx' := 6) (by omega) (by rfl)) (weak_sl (sub_cons rfl (sub_cons rfl (sub_cons rfl (sub_cons rfl (sub_cons rfl (sub_nil)))))))))), i + 1, by omega, upto_step hall hnx, rfl, rfl⟩
       | exact ⟨bs.length - (i + 1), _, by omega, (by rw [selK_no (k := 0) hn0, selK_yes hk, selK_no (k := 2) hn2, selK_no (k := 3) hn3, selK_no (k := 4) hn4, i64s_app4]; exact Weak.trans (weak_drop 6) (Weak.trans (weak_drop 7) (Weak.trans (weak_nx (nx' := 6) (by omega) (by rfl)) (weak_sl (sub_cons rfl (sub_cons rfl (sub_cons rfl (sub_cons rfl (sub_cons rfl (sub_nil)))))))))), i + 1, by omega, upto_step hall hnx, rfl, rfl⟩
       | exact ⟨bs.length - (i + 1), _, by omega, (by rw [selK_no (k := 0) hn0, selK_no (k := 1) hn1, selK_yes hk, selK_no (k := 3) hn3, selK_no (k := 4) hn4, i64s_app4]; exact Weak.trans (weak_drop 6) (Weak.trans (weak_drop 7) (Weak.trans (weak_nx (nx' := 6) (by omega) (by rfl)) (weak_sl (sub_cons rfl (sub_cons rfl (sub_cons rfl (sub_cons rfl (sub_cons rfl (sub_nil)))))))))), i + 1, by omega, upto_step hall hnx, rfl, rfl⟩
       | exact ⟨bs.length - (i + 1), _, by omega, (by rw [selK_no (k := 0) hn0, selK_no (k := 1) hn1, selK_no (k := 2) hn2, selK_yes hk, selK_no (k := 4) hn4, i64s_app4]; exact Weak.trans (weak_drop 6) (Weak.trans (weak_drop 7) (Weak.trans (weak_nx (nx' := 6) (by omega) (by rfl)) (weak_sl (sub_cons rfl (sub_cons rfl (sub_cons rfl (sub_cons rfl (sub_cons rfl (sub_nil)))))))))), i + 1, by omega, upto_step hall hnx, rfl, rfl⟩
       | exact ⟨bs.length - (i + 1), _, by omega, (by rw [selK_no (k := 0) hn0, selK_no (k := 1) hn1, selK_no (k := 2) hn2, selK_no (k := 3) hn3, selK_yes hk, i64s_app4]; exact Weak.trans (weak_drop 6) (Weak.trans (weak_drop 7) (Weak.trans (weak_nx (nx' := 6) (by omega) (by rfl)) (weak_sl (sub_cons rfl (sub_cons rfl (sub_cons rfl (sub_cons rfl (sub_cons rfl (sub_nil)))))))))), i + 1, by omega, upto_step hall hnx, rfl, rfl⟩
    ·
     have hn0 : ¬ gF hs bs i = ((0 : Nat) : Int) := by omega
     have hn1 : ¬ gF hs bs i = ((1 : Nat) : Int) := by omega
     have hn2 : ¬ gF hs bs i = ((2 : Nat) : Int) := by omega
     have hn4 : ¬ gF hs bs i = ((4 : Nat) : Int) := by omega
     have hk2 : fstOf (isHigh (bs.getD i bk0).high) hs = ((3 : Nat) : Int) := hk
     simp only [hk2]
     refine r1 T0_ok hP hm hN ?_
     iterate 8 refine g1 ?_
     refine ga1 ?_
     iterate 2 refine g1 ?_
     refine r1 T0_ok hP hm hN ?_
     iterate 2 refine g1 ?_
     first
       | exact ⟨bs.length - (i + 1), _, by omega, (by rw [selK_yes hk, selK_no (k := 1) hn1, selK_no (k := 2) hn2, selK_no (k := 3) hn3, selK_no (k := 4) hn4, i64s_app4]; exact Weak.trans (weak_drop 6) (Weak.trans (weak_drop 7) (Weak.trans (weak_nx (nx' := 6) (by omega) (by rfl)) (weak_sl (sub_cons rfl (sub_cons rfl (sub_cons rfl (sub_cons rfl (sub_cons rfl (sub_nil)))))))))), i + 1, by omega, upto_step hall hnx, rfl, rfl⟩
       | exact ⟨bs.length - (i + 1), _, by omega, (by rw [selK_no (k := 0) hn0, selK_yes hk, selK_no (k := 2) hn2, selK_no (k := 3) hn3, selK_no (k := 4) hn4, i64s_app4]; exact Weak.trans (weak_drop 6) (Weak.trans (weak_drop 7) (Weak.trans (weak_nx (nx' := 6) (by omega) (by rfl)) (weak_sl (sub_cons rfl (sub_cons rfl (sub_cons rfl (sub_cons rfl (sub_cons rfl (sub_nil)))))))))), i + 1, by omega, upto_step hall hnx, rfl, rfl⟩
       | exact ⟨bs.length - (i + 1), _, by omega, (by rw [selK_no (k := 0) hn0, selK_no (k := 1) hn1, selK_yes hk, selK_no (k := 3) hn3, selK_no (k := 4) hn4, i64s_app4]; exact Weak.trans (weak_drop 6) (Weak.trans (weak_drop 7) (Weak.trans (weak_nx (nx' := 6) (by omega) (by rfl)) (weak_sl (sub_cons rfl (sub_cons rfl (sub_cons rfl (sub_cons rfl (sub_cons rfl (sub_nil)))))))))), i + 1, by omega, upto_step hall hnx, rfl, rfl⟩
       | exact ⟨bs.length - (i + 1), _, by omega, (by rw [selK_no (k := 0) hn0, selK_no (k := 1) hn1, selK_no (k := 2) hn2, selK_yes hk, selK_no (k := 4) hn4, i64s_app4]; exact Weak.trans (weak_drop 6) (Weak.trans (weak_drop 7) (Weak.trans (weak_nx (nx' := 6) (by omega) (by rfl)) (weak_sl (sub_cons rfl (sub_cons rfl (sub_cons rfl (sub_cons rfl (sub_cons rfl (sub_nil)))))))))), i + 1, by omega, upto_step hall hnx, rfl, rfl⟩
       | exact ⟨bs.length - (i + 1), _, by omega, (by rw [selK_no (k := 0) hn0, selK_no (k := 1) hn1, selK_no (k := 2) hn2, selK_no (k := 3) hn3, selK_yes hk, i64s_app4]; exact Weak.trans (weak_drop 6) (Weak.trans (weak_drop 7) (Weak.trans (weak_nx (nx' := 6) (by omega) (by rfl)) (weak_sl (sub_cons rfl (sub_cons rfl (sub_cons rfl (sub_cons rfl (sub_cons rfl (sub_nil)))))))))), i + 1, by omega, upto_step hall hnx, rfl, rfl⟩
    ·
     have hn0 : ¬ gF hs bs i = ((0 : Nat) : Int) := by omega
     have hn1 : ¬ gF hs bs i = ((1 : Nat) : Int) := by omega
     have hn2 : ¬ gF hs bs i = ((2 : Nat) : Int) := by omega
     have hn3 : ¬ gF hs bs i = ((3 : Nat) : Int) := by omega
     have hk2 : fstOf (isHigh (bs.getD i bk0).high) hs = ((4 : Nat) : Int) := hk
     simp only [hk2]
     refine r1 T0_ok hP hm hN ?_
     iterate 8 refine g1 ?_
     refine ga1 ?_
     iterate 2 refine g1 ?_
     refine r1 T0_ok hP hm hN ?_
     iterate 2 refine g1 ?_
     first
       | exact ⟨bs.length - (i + 1), _, by omega, (by rw [selK_yes hk, selK_no (k := 1) hn1, selK_no (k := 2) hn2, selK_no (k := 3) hn3, selK_no (k := 4) hn4, i64s_app4]; exact Weak.trans (weak_drop 6) (Weak.trans (weak_drop 7) (Weak.trans (weak_nx (nx' := 6) (by omega) (by rfl)) (weak_sl (sub_cons rfl (sub_cons rfl (sub_cons rfl (sub_cons rfl (sub_cons rfl (sub_nil)))))))))), i + 1, by omega, upto_step hall hnx, rfl, rfl⟩
       | exact ⟨bs.length - (i + 1), _, by omega, (by rw [selK_no (k := 0) hn0, selK_yes hk, selK_no (k := 2) hn2, selK_no (k := 3) hn3, selK_no (k := 4) hn4, i64s_app4]; exact Weak.trans (weak_drop 6) (Weak.trans (weak_drop 7) (Weak.trans (weak_nx (nx' := 6) (by omega) (by rfl)) (weak_sl (sub_cons rfl (sub_cons rfl (sub_cons rfl (sub_cons rfl (sub_cons rfl (sub_nil)))))))))), i + 1, by omega, upto_step hall hnx, rfl, rfl⟩
       | exact ⟨bs.length - (i + 1), _, by omega, (by rw [selK_no (k := 0) hn0, selK_no (k := 1) hn1, selK_yes hk, selK_no (k := 3) hn3, selK_no (k := 4) hn4, i64s_app4]; exact Weak.trans (weak_drop 6) (Weak.trans (weak_drop 7) (Weak.trans (weak_nx (nx' := 6) (by omega) (by rfl)) (weak_sl (sub_cons rfl (sub_cons rfl (sub_cons rfl (sub_cons rfl (sub_cons rfl (sub_nil)))))))))), i + 1, by omega, upto_step hall hnx, rfl, rfl⟩
       | exact ⟨bs.length - (i + 1), _, by omega, (by rw [selK_no (k := 0) hn0, selK_no (k := 1) hn1, selK_no (k := 2) hn2, selK_yes hk, selK_no (k := 4) hn4, i64s_app4]; exact Weak.trans (weak_drop 6) (Weak.trans (weak_drop 7) (Weak.trans (weak_nx (nx' := 6) (by omega) (by rfl)) (weak_sl (sub_cons rfl (sub_cons rfl (sub_cons rfl (sub_cons rfl (sub_cons rfl (sub_nil)))))))))), i + 1, by omega, upto_step hall hnx, rfl, rfl⟩
       | exact ⟨bs.length - (i + 1), _, by omega, (by rw [selK_no (k := 0) hn0, selK_no (k := 1) hn1, selK_no (k := 2) hn2, selK_no (k := 3) hn3, selK_yes hk, i64s_app4]; exact Weak.trans (weak_drop 6) (Weak.trans (weak_drop 7) (Weak.trans (weak_nx (nx' := 6) (by omega) (by rfl)) (weak_sl (sub_cons rfl (sub_cons rfl (sub_cons rfl (sub_cons rfl (sub_cons rfl (sub_nil)))))))))), i + 1, by omega, upto_step hall hnx, rfl, rfl⟩
  ·
   have hgei : ¬ i < bs.length := by simpa using hc0
   obtain rfl : i = bs.length := by omega
   have hall2 : allG hs bs := hall
   have hr : grpR hs bs = (grpL hs bs, true) := by rw [grpR, ask_true hall2]; rfl
   refine awp_exit ?_
   repeat refine thenA_exit ?_
   refine blockA_hit ?_
   refine awp_seq ?_
   refine r1 T0_ok hP hm hN ?_
   iterate 3 refine g1 ?_
   refine awp_weak (weak_frz 1 hS0 hG rfl (.inl rfl)) ?_
   refine awp_weak (weak_frz 2 hS0 hG rfl (.inl rfl)) ?_
   refine awp_weak (weak_frz 3 hS0 hG rfl (.inl rfl)) ?_
   refine awp_weak (weak_frz 4 hS0 hG rfl (.inl rfl)) ?_
   refine awp_weak (weak_frz 5 hS0 hG rfl (.inl rfl)) ?_
   refine awp_weak (weak_deep 0 false rfl (fun _ _ => fm_cons rfl (fm_cons rfl (fm_cons rfl (fm_cons rfl (fm_cons rfl (fm_nil))))))) ?_
   refine awp_ret ?_
   refine fin_mk [0] rfl rfl ?_ (by simp only [hr]; first | exact objs_cons rfl rfl rfl rfl rfl (.inl rfl) objs_nil | exact objs_cons rfl rfl rfl (by show _ = i64ss (grpF (gF hs bs) hs.length bs.length); rw [hn]; rfl) rfl (.inl rfl) objs_nil) (by decide)
   show D.tup [_, .val (.bool (grpR hs bs).2)] = _
   rw [hr]
   rfl
 ·
  change awp C _ _ ⟨[(0, .sl 1 (i64s hs)), (1, .sl 8 (bks bs))], [], 0⟩
  have hn : hs.length = 6 := hn6
  refine awp_seq ?_
  refine r1 T0_ok hP hm hN ?_
  iterate 2 refine g1 ?_
  refine awp_seq ?_
  refine r1 T0_ok hP hm hN ?_
  iterate 2 refine g1 ?_
  refine g1 ?_ (hst := by simp +decide (disch := omega) only [nrm, lk_nrm, dc_nrm, mk_nrm, mf_nrm, ti_nrm, ls_nrm, mp_nrm, nb_nrm, hset, pick_and, pick_or, ↓reduceIte, Nat.reduceAdd, wI64, wI32, wI16, wI8, wU8, List.length_map, Int.toNat_natCast, xn1, xn2, hn]; rfl)
  refine g1 ?_
  refine awp_seq ?_
  refine awp_seq ?_
  refine r1 T0_ok hP hm hN ?_
  iterate 3 refine g1 ?_
  refine awp_block ?_
  refine awp_loop (fun n st => ∃ i : Nat, i ≤ bs.length ∧ (∀ j, j < i → (gF hs bs j == (hs.length : Int)) = false) ∧ n = bs.length - i ∧ st = ⟨[(15, .val (.int .i64 ((i : Nat) : Int))), (14, .val (.int .i64 ((bs.length : Nat) : Int))), (13, .sl 8 (bks bs)), (6, .own 0), (0, .sl 1 (i64s hs))], [(6, ⟨2, 1, false, i64s (selK (gF hs bs) 5 i)⟩), (5, ⟨2, 1, false, i64s (selK (gF hs bs) 4 i)⟩), (4, ⟨2, 1, false, i64s (selK (gF hs bs) 3 i)⟩), (3, ⟨2, 1, false, i64s (selK (gF hs bs) 2 i)⟩), (2, ⟨2, 1, false, i64s (selK (gF hs bs) 1 i)⟩), (1, ⟨2, 1, false, i64s (selK (gF hs bs) 0 i)⟩), (0, ⟨31, 1, true, [[.own 1], [.own 2], [.own 3], [.own 4], [.own 5], [.own 6]]⟩)], 7⟩) (bs.length) ⟨_, (by exact Weak.trans (weak_deep 0 true rfl (fun h => by cases h)) (Weak.trans (weak_nilO 0 0 0 2 1 rfl rfl rfl rfl) (Weak.trans (weak_nilO 0 1 0 2 1 rfl rfl rfl rfl) (Weak.trans (weak_nilO 0 2 0 2 1 rfl rfl rfl rfl) (Weak.trans (weak_nilO 0 3 0 2 1 rfl rfl rfl rfl) (Weak.trans (weak_nilO 0 4 0 2 1 rfl rfl rfl rfl) (Weak.trans (weak_nilO 0 5 0 2 1 rfl rfl rfl rfl) (weak_sl (sub_cons rfl (sub_cons rfl (sub_cons rfl (sub_cons rfl (sub_cons rfl (sub_nil)))))))))))))), 0, by omega, fun j h => by omega, rfl, rfl⟩ ?_
  rintro n st ⟨i, hii, hall, hni, rfl⟩
  have hsl0 := selK_len (gF hs bs) 0 i
  have hsl1 := selK_len (gF hs bs) 1 i
  have hsl2 := selK_len (gF hs bs) 2 i
  have hsl3 := selK_len (gF hs bs) 3 i
  have hsl4 := selK_len (gF hs bs) 4 i
  have hsl5 := selK_len (gF hs bs) 5 i
  refine awp_seq ?_
  refine r1 T0_ok hP hm hN ?_
  refine g1 ?_
  refine awp_seq ?_
  refine awp_cond rfl (fun hc0 => ?_) (fun hc0 => ?_)
  ·
   have hlti : i < bs.length := by simpa using hc0
   refine awp_skip ?_
   refine awp_seq ?_
   refine awp_block ?_
   refine awp_seq ?_
   refine r1 T0_ok hP hm hN ?_
   iterate 6 refine g1 ?_
   refine awp_seq ?_
   refine r1 T0_ok hP hm hN ?_
   iterate 2 refine g1 ?_
   refine gc1 ?_ (call1 ok_I_heightFor (hs, bs.getD i bk0) [] (hpre := by (try dsimp only); exact ⟨by omega, hv _ (getD_mem' (by omega))⟩))
   refine g1 ?_
   refine awp_seq ?_
   refine awp_seq ?_
   refine r1 T0_ok hP hm hN ?_
   iterate 4 refine g1 ?_
   refine awp_cond rfl (fun hc1 => ?_) (fun hc1 => ?_)
   ·
    have hr : grpR hs bs = ([], false) := by rw [grpR, ask_false (fun h => by have := h i hlti; rw [show (gF hs bs i == (hs.length : Int)) = true from hc1] at this; cases this)]; rfl
    refine awp_seq ?_
    refine r1 T0_ok hP hm hN ?_
    iterate 2 refine g1 ?_
    refine awp_weak (weak_nil 4 31 1 rfl) ?_
    refine awp_ret ?_
    refine fin_mk [8] rfl rfl ?_ (by simp only [hr]; first | exact objs_cons rfl rfl rfl rfl rfl (.inl rfl) objs_nil | exact objs_cons rfl rfl rfl (by show _ = i64ss (grpF (gF hs bs) hs.length bs.length); rw [hn]; rfl) rfl (.inl rfl) objs_nil) (by decide)
    show D.tup [_, .val (.bool (grpR hs bs).2)] = _
    rw [hr]
    rfl
   ·
    have hnx : (gF hs bs i == (hs.length : Int)) = false := hc1
    refine awp_skip ?_
    have hkk : gF hs bs i = ((0 : Nat) : Int) ∨ gF hs bs i = ((1 : Nat) : Int) ∨ gF hs bs i = ((2 : Nat) : Int) ∨ gF hs bs i = ((3 : Nat) : Int) ∨ gF hs bs i = ((4 : Nat) : Int) ∨ gF hs bs i = ((5 : Nat) : Int) := by
      have h := gF_b hs bs i
      simp only [beq_eq_false_iff_ne, ne_eq] at hnx
      omega
    obtain hk | hk | hk | hk | hk | hk := hkk
    ·
     have hn1 : ¬ gF hs bs i = ((1 : Nat) : Int) := by omega
     have hn2 : ¬ gF hs bs i = ((2 : Nat) : Int) := by omega
     have hn3 : ¬ gF hs bs i = ((3 : Nat) : Int) := by omega
     have hn4 : ¬ gF hs bs i = ((4 : Nat) : Int) := by omega
     have hn5 : ¬ gF hs bs i = ((5 : Nat) : Int) := by omega
     have hk2 : fstOf (isHigh (bs.getD i bk0).high) hs = ((0 : Nat) : Int) := hk
     simp only [hk2]
     refine r1 T0_ok hP hm hN ?_
     iterate 8 refine g1 ?_
     refine ga1 ?_
     iterate 2 refine g1 ?_
     refine r1 T0_ok hP hm hN ?_
     iterate 2 refine g1 ?_
     first
       | exact ⟨bs.length - (i + 1), _, by omega, (by rw [selK_yes hk, selK_no (k := 1) hn1, selK_no (k := 2) hn2, selK_no (k := 3) hn3, selK_no (k := 4) hn4, selK_no (k := 5) hn5, i64s_app4]; exact Weak.trans (weak_drop 7) (Weak.trans (weak_drop 8) (Weak.trans (weak_nx (nx' := 7) (by omega) (by rfl)) (weak_sl (sub_cons rfl (sub_cons rfl (sub_cons rfl (sub_cons rfl (sub_cons rfl (sub_nil)))))))))), i + 1, by omega, upto_step hall hnx, rfl, rfl⟩
       | exact ⟨bs.length - (i + 1), _, by omega, (by rw [selK_no (k := 0) hn0, selK_yes hk, selK_no (k := 2) hn2, selK_no (k := 3) hn3, selK_no (k := 4) hn4, selK_no (k := 5) hn5, i64s_app4]; exact Weak.trans (weak_drop 7) (Weak.trans (weak_drop 8) (Weak.trans (weak_nx (nx' := 7) (by omega) (by rfl)) (weak_sl (sub_cons rfl (sub_cons rfl (sub_cons rfl (sub_cons rfl (sub_cons rfl (sub_nil)))))))))), i + 1, by omega, upto_step hall hnx, rfl, rfl⟩
       | exact ⟨bs.length - (i + 1), _, by omega, (by rw [selK_no (k := 0) hn0, selK_no (k := 1) hn1, selK_yes hk, selK_no (k := 3) hn3, selK_no (k := 4) hn4, selK_no (k := 5) hn5, i64s_app4]; exact Weak.trans (weak_drop 7) (Weak.trans (weak_drop 8) (Weak.trans (weak_nx (nx' := 7) (by omega) (by rfl)) (weak_sl (sub_cons rfl (sub_cons rfl (sub_cons rfl (sub_cons rfl (sub_cons rfl (sub_nil)))))))))), i + 1, by omega, upto_step hall hnx, rfl, rfl⟩
       | exact ⟨bs.length - (i + 1), _, by omega, (by rw [selK_no (k := 0) hn0, selK_no (k := 1) hn1, selK_no (k := 2) hn2, selK_yes hk, selK_no (k := 4) hn4, selK_no (k := 5) hn5, i64s_app4]; exact Weak.trans (weak_drop 7) (Weak.trans (weak_drop 8) (Weak.trans (weak_nx (nx' := 7) (by omega) (by rfl)) (weak_sl (sub_cons rfl (sub_cons rfl (sub_cons rfl (sub_cons rfl (sub_cons rfl (sub_nil)))))))))), i + 1, by omega, upto_step hall hnx, rfl, rfl⟩
       | exact ⟨bs.length - (i + 1), _, by omega, (by rw [selK_no (k := 0) hn0, selK_no (k := 1) hn1, selK_no (k := 2) hn2, selK_no (k := 3) hn3, selK_yes hk, selK_no (k := 5) hn5, i64s_app4]; exact Weak.trans (weak_drop 7) (Weak.trans (weak_drop 8) (Weak.trans (weak_nx (nx' := 7) (by omega) (by rfl)) (weak_sl (sub_cons rfl (sub_cons rfl (sub_cons rfl (sub_cons rfl (sub_cons rfl (sub_nil)))))))))), i + 1, by omega, upto_step hall hnx, rfl, rfl⟩
       | exact ⟨bs.length - (i + 1), _, by omega, (by rw [selK_no (k := 0) hn0, selK_no (k := 1) hn1, selK_no (k := 2) hn2, selK_no (k := 3) hn3, selK_no (k := 4) hn4, selK_yes hk, i64s_app4]; exact Weak.trans (weak_drop 7) (Weak.trans (weak_drop 8) (Weak.trans (weak_nx (nx' := 7) (by omega) (by rfl)) (weak_sl (sub_cons rfl (sub_cons rfl (sub_cons rfl (sub_cons rfl (sub_cons rfl (sub_nil)))))))))), i + 1, by omega, upto_step hall hnx, rfl, rfl⟩
    ·
     have hn0 : ¬ gF hs bs i = ((0 : Nat) : Int) := by omega
     have hn2 : ¬ gF hs bs i = ((2 : Nat) : Int) := by omega
     have hn3 : ¬ gF hs bs i = ((3 : Nat) : Int) := by omega
     have hn4 : ¬ gF hs bs i = ((4 : Nat) : Int) := by omega
     have hn5 : ¬ gF hs bs i = ((5 : Nat) : Int) := by omega
     have hk2 : fstOf (isHigh (bs.getD i bk0).high) hs = ((1 : Nat) : Int) := hk
     simp only [hk2]
     refine r1 T0_ok hP hm hN ?_
     iterate 8 refine g1 ?_
     refine ga1 ?_
     iterate 2 refine g1 ?_
     refine r1 T0_ok hP hm hN ?_
     iterate 2 refine g1 ?_
     first
       | exact ⟨bs.length - (i + 1), _, by omega, (by rw [selK_yes hk, selK_no (k := 1) hn1, selK_no (k := 2) hn2, selK_no (k := 3) hn3, selK_no (k := 4) hn4, selK_no (k := 5) hn5, i64s_app4]; exact Weak.trans (weak_drop 7) (Weak.trans (weak_drop 8) (Weak.trans (weak_nx (nx' := 7) (by omega) (by rfl)) (weak_sl (sub_cons rfl (sub_cons rfl (sub_cons rfl (sub_cons rfl (sub_cons rfl (sub_nil)))))))))), i + 1, by omega, upto_step hall hnx, rfl, rfl⟩
       | exact ⟨bs.length - (i + 1), _, by omega, (by rw [selK_no (k := 0) hn0, selK_yes hk, selK_no (k := 2) hn2, selK_no (k := 3) hn3, selK_no (k := 4) hn4, selK_no (k := 5) hn5, i64s_app4]; exact Weak.trans (weak_drop 7) (Weak.trans (weak_drop 8) (Weak.trans (weak_nx (nx' := 7) (by omega) (by rfl)) (weak_sl (sub_cons rfl (sub_cons rfl (sub_cons rfl (sub_cons rfl (sub_cons rfl (sub_nil)))))))))), i + 1, by omega, upto_step hall hnx, rfl, rfl⟩
       | exact ⟨bs.length - (i + 1), _, by omega, (by rw [selK_no (k := 0) hn0, selK_no (k := 1) hn1, selK_yes hk, selK_no (k := 3) hn3, selK_no (k := 4) hn4, selK_no (k := 5) hn5, i64s_app4]; exact Weak.trans (weak_drop 7) (Weak.trans (weak_drop 8) (Weak.trans (weak_nx (nx' := 7) (by omega) (by rfl)) (weak_sl (sub_cons rfl (sub_cons rfl (sub_cons rfl (sub_cons rfl (sub_cons rfl (sub_nil)))))))))), i + 1, by omega, upto_step hall hnx, rfl, rfl⟩
       | exact ⟨bs.length - (i + 1), _, by omega, (by rw [selK_no (k := 0) hn0, selK_no (k := 1) hn1, selK_no (k := 2) hn2, selK_yes hk, selK_no (k := 4) hn4, selK_no (k := 5) hn5, i64s_app4]; exact Weak.trans (weak_drop 7) (Weak.trans (weak_drop 8) (Weak.trans (weak_nx (nx' := 7) (by omega) (by rfl)) (weak_sl (sub_cons rfl (sub_cons rfl (sub_cons rfl (sub_cons rfl (sub_cons rfl (sub_nil)))))))))), i + 1, by omega, upto_step hall hnx, rfl, rfl⟩
       | exact ⟨bs.length - (i + 1), _, by omega, (by rw [selK_no (k := 0) hn0, selK_no (k := 1) hn1, selK_no (k := 2) hn2, selK_no (k := 3) hn3, selK_yes hk, selK_no (k := 5) hn5, i64s_app4]; exact Weak.trans (weak_drop 7) (Weak.trans (weak_drop 8) (Weak.trans (weak_nx (nx' := 7) (by omega) (by rfl)) (weak_sl (sub_cons rfl (sub_cons rfl (sub_cons rfl (sub_cons rfl (sub_cons rfl (sub_nil)))))))))), i + 1, by omega, upto_step hall hnx, rfl, rfl⟩
       | exact ⟨bs.length - (i + 1), _, by omega, (by rw [selK_no (k := 0) hn0, selK_no (k := 1) hn1, selK_no (k := 2) hn2, selK_no (k := 3) hn3, selK_no (k := 4) hn4, selK_yes hk, i64s_app4]; exact Weak.trans (weak_drop 7) (Weak.trans (weak_drop 8) (Weak.trans (weak_nx (nx' := 7) (by omega) (by rfl)) (weak_sl (sub_cons rfl (sub_cons rfl (sub_cons rfl (sub_cons rfl (sub_cons rfl (sub_nil)))))))))), i + 1, by omega, upto_step hall hnx, rfl, rfl⟩
    ·
     have hn0 : ¬ gF hs bs i = ((0 : Nat) : Int) := by omega
     have hn1 : ¬ gF hs bs i = ((1 : Nat) : Int) := by omega
     have hn3 : ¬ gF hs bs i = ((3 : Nat) : Int) := by omega
     have hn4 : ¬ gF hs bs i = ((4 : Nat) : Int) := by omega
     have hn5 : ¬ gF hs bs i = ((5 : Nat) : Int) := by omega
     have hk2 : fstOf (isHigh (bs.getD i bk0).high) hs = ((2 : Nat) : Int) := hk
     simp only [hk2]
     refine r1 T0_ok hP hm hN ?_
     iterate 8 refine g1 ?_
     refine ga1 ?_
     iterate 2 refine g1 ?_
     refine r1 T0_ok hP hm hN ?_
     iterate 2 refine g1 ?_
     first
       | exact ⟨bs.length - (i + 1), _, by omega, (by rw [selK_yes hk, selK_no (k := 1) hn1, selK_no (k := 2) hn2, selK_no (k := 3) hn3, selK_no (k := 4) hn4, selK_no (k := 5) hn5, i64s_app4]; exact Weak.trans (weak_drop 7) (Weak.trans (weak_drop 8) (Weak.trans (weak_nx (nx' := 7) (by omega) (by rfl)) (weak_sl (sub_cons rfl (sub_cons rfl (sub_cons rfl (sub_cons rfl (sub_cons rfl (sub_nil)))))))))), i + 1, by omega, upto_step hall hnx, rfl, rfl⟩
       | exact ⟨bs.length - (i + 1), _, by omega, (by rw [selK_no (k := 0) hn0, selK_yes hk, selK_no (k := 2) hn2, selK_no (k := 3) hn3, selK_no (k := 4) hn4, selK_no (k := 5) hn5, i64s_app4]; exact Weak.trans (weak_drop 7) (Weak.trans (weak_drop 8) (Weak.trans (weak_nx (nx' := 7) (by omega) (by rfl)) (weak_sl (sub_cons rfl (sub_cons rfl (sub_cons rfl (sub_cons rfl (sub_cons rfl (sub_nil)))))))))), i + 1, by omega, upto_step hall hnx, rfl, rfl⟩
       | exact ⟨bs.length - (i + 1), _, by omega, (by rw [selK_no (k := 0) hn0, selK_no (k := 1) hn1, selK_yes hk, selK_no (k := 3) hn3, selK_no (k := 4) hn4, selK_no (k := 5) hn5, i64s_app4]; exact Weak.trans (weak_drop 7) (Weak.trans (weak_drop 8) (Weak.trans (weak_nx (nx' := 7) (by omega) (by rfl)) (weak_sl (sub_cons rfl (sub_cons rfl (sub_cons rfl (sub_cons rfl (sub_cons rfl (sub_nil)))))))))), i + 1, by omega, upto_step hall hnx, rfl, rfl⟩
       | exact ⟨bs.length - (i + 1), _, by omega, (by rw [selK_no (k := 0) hn0, selK_no (k := 1) hn1, selK_no (k := 2) hn2, selK_yes hk, selK_no (k := 4) hn4, selK_no (k := 5) hn5, i64s_app4]; exact Weak.trans (weak_drop 7) (Weak.trans (weak_drop 8) (Weak.trans (weak_nx (nx' := 7) (by omega) (by rfl)) (weak_sl (sub_cons rfl (sub_cons rfl (sub_cons rfl (sub_cons rfl (sub_cons rfl (sub_nil)))))))))), i + 1, by omega, upto_step hall hnx, rfl, rfl⟩
       | exact ⟨bs.length - (i + 1), _, by omega, (by rw [selK_no (k := 0) hn0, selK_no (k := 1) hn1, selK_no (k := 2) hn2, selK_no (k := 3) hn3, selK_yes hk, selK_no (k := 5) hn5, i64s_app4]; exact Weak.trans (weak_drop 7) (Weak.trans (weak_drop 8) (Weak.trans (weak_nx (nx' := 7) (by omega) (by rfl)) (weak_sl (sub_cons rfl (sub_cons rfl (sub_cons rfl (sub_cons rfl (sub_cons rfl (sub_nil)))))))))), i + 1, by omega, upto_step hall hnx, rfl, rfl⟩
       | exact ⟨bs.length - (i + 1), _, by omega, (by rw [selK_no (k := 0) hn0, selK_no (k := 1) hn1, selK_no (k := 2) hn2, selK_no (k := 3) hn3, selK_no (k := 4) hn4, selK_yes hk, i64s_app4]; exact Weak.trans (weak_drop 7) (Weak.trans (weak_drop 8) (Weak.trans (weak_nx (nx' := 7) (by omega) (by rfl)) (weak_sl (sub_cons rfl (sub_cons rfl (sub_cons rfl (sub_cons rfl (sub_cons rfl (sub_nil)))))))))), i + 1, by omega, upto_step hall hnx, rfl, rfl⟩
    ·
     have hn0 : ¬ gF hs bs i = ((0 : Nat) : Int) := by omega
     have hn1 : ¬ gF hs bs i = ((1 : Nat) : Int) := by omega
     have hn2 : ¬ gF hs bs i = ((2 : Nat) : Int) := by omega
     have hn4 : ¬ gF hs bs i = ((4 : Nat) : Int) := by omega
     have hn5 : ¬ gF hs bs i = ((5 : Nat) : Int) := by omega
     have hk2 : fstOf (isHigh (bs.getD i bk0).high) hs = ((3 : Nat) : Int) := hk
     simp only [hk2]
     refine r1 T0_ok hP hm hN ?_
     iterate 8 refine g1 ?_
     refine ga1 ?_
     iterate 2 refine g1 ?_
     refine r1 T0_ok hP hm hN ?_
     iterate 2 refine g1 ?_
     first
       | exact ⟨bs.length - (i + 1), _, by omega, (by rw [selK_yes hk, selK_no (k := 1) hn1, selK_no (k := 2) hn2, selK_no (k := 3) hn3, selK_no (k := 4) hn4, selK_no (k := 5) hn5, i64s_app4]; exact Weak.trans (weak_drop 7) (Weak.trans (weak_drop 8) (Weak.trans (weak_nx (nx' := 7) (by omega) (by rfl)) (weak_sl (sub_cons rfl (sub_cons rfl (sub_cons rfl (sub_cons rfl (sub_cons rfl (sub_nil)))))))))), i + 1, by omega, upto_step hall hnx, rfl, rfl⟩
       | exact ⟨bs.length - (i + 1), _, by omega, (by rw [selK_no (k := 0) hn0, selK_yes hk, selK_no (k := 2) hn2, selK_no (k := 3) hn3, selK_no (k := 4) hn4, selK_no (k := 5) hn5, i64s_app4]; exact Weak.trans (weak_drop 7) (Weak.trans (weak_drop 8) (Weak.trans (weak_nx (nx' := 7) (by omega) (by rfl)) (weak_sl (sub_cons rfl (sub_cons rfl (sub_cons rfl (sub_cons rfl (sub_cons rfl (sub_nil)))))))))), i + 1, by omega, upto_step hall hnx, rfl, rfl⟩
       | exact ⟨bs.length - (i + 1), _, by omega, (by rw [selK_no (k := 0) hn0, selK_no (k := 1) hn1, selK_yes hk, selK_no (k := 3) hn3, selK_no (k := 4) hn4, selK_no (k := 5) hn5, i64s_app4]; exact Weak.trans (weak_drop 7) (Weak.trans (weak_drop 8) (Weak.trans (weak_nx (nx' := 7) (by omega) (by rfl)) (weak_sl (sub_cons rfl (sub_cons rfl (sub_cons rfl (sub_cons rfl (sub_cons rfl (sub_nil)))))))))), i + 1, by omega, upto_step hall hnx, rfl, rfl⟩
       | exact ⟨bs.length - (i + 1), _, by omega, (by rw [selK_no (k := 0) hn0, selK_no (k := 1) hn1, selK_no (k := 2) hn2, selK_yes hk, selK_no (k := 4) hn4, selK_no (k := 5) hn5, i64s_app4]; exact Weak.trans (weak_drop 7) (Weak.trans (weak_drop 8) (Weak.trans (weak_nx (nx' := 7) (by omega) (by rfl)) (weak_sl (sub_cons rfl (sub_cons rfl (sub_cons rfl (sub_cons rfl (sub_cons rfl (sub_nil)))))))))), i + 1, by omega, upto_step hall hnx, rfl, rfl⟩
       | exact ⟨bs.length - (i + 1), _, by omega, (by rw [selK_no (k := 0) hn0, selK_no (k := 1) hn1, selK_no (k := 2) hn2, selK_no (k := 3) hn3, selK_yes hk, selK_no (k := 5) hn5, i64s_app4]; exact Weak.trans (weak_drop 7) (Weak.trans (weak_drop 8) (Weak.trans (weak_nx (nx' := 7) (by omega) (by rfl)) (weak_sl (sub_cons rfl (sub_cons rfl (sub_cons rfl (sub_cons rfl (sub_cons rfl (sub_nil)))))))))), i + 1, by omega, upto_step hall hnx, rfl, rfl⟩
       | exact ⟨bs.length - (i + 1), _, by omega, (by rw [selK_no (k := 0) hn0, selK_no (k := 1) hn1, selK_no (k := 2) hn2, selK_no (k := 3) hn3, selK_no (k := 4) hn4, selK_yes hk, i64s_app4]; exact Weak.trans (weak_drop 7) (Weak.trans (weak_drop 8) (Weak.trans (weak_nx (nx' := 7) (by omega) (by rfl)) (weak_sl (sub_cons rfl (sub_cons rfl (sub_cons rfl (sub_cons rfl (sub_cons rfl (sub_nil)))))))))), i + 1, by omega, upto_step hall hnx, rfl, rfl⟩
    ·
     have hn0 : ¬ gF hs bs i = ((0 : Nat) : Int) := by omega
     have hn1 : ¬ gF hs bs i = ((1 : Nat) : Int) := by omega
     have hn2 : ¬ gF hs bs i = ((2 : Nat) : Int) := by omega
     have hn3 : ¬ gF hs bs i = ((3 : Nat) : Int) := by omega
     have hn5 : ¬ gF hs bs i = ((5 : Nat) : Int) := by omega
     have hk2 : fstOf (isHigh (bs.getD i bk0).high) hs = ((4 : Nat) : Int) := hk
     simp only [hk2]
     refine r1 T0_ok hP hm hN ?_
     iterate 8 refine g1 ?_
     refine ga1 ?_
     iterate 2 refine g1 ?_
     refine r1 T0_ok hP hm hN ?_
     iterate 2 refine g1 ?_
     first
       | exact ⟨bs.length - (i + 1), _, by omega, (by rw [selK_yes hk, selK_no (k := 1) hn1, selK_no (k := 2) hn2, selK_no (k := 3) hn3, selK_no (k := 4) hn4, selK_no (k := 5) hn5, i64s_app4]; exact Weak.trans (weak_drop 7) (Weak.trans (weak_drop 8) (Weak.trans (weak_nx (nx' := 7) (by omega) (by rfl)) (weak_sl (sub_cons rfl (sub_cons rfl (sub_cons rfl (sub_cons rfl (sub_cons rfl (sub_nil)))))))))), i + 1, by omega, upto_step hall hnx, rfl, rfl⟩
       | exact ⟨bs.length - (i + 1), _, by omega, (by rw [selK_no (k := 0) hn0, selK_yes hk, selK_no (k := 2) hn2, selK_no (k := 3) hn3, selK_no (k := 4) hn4, selK_no (k := 5) hn5, i64s_app4]; exact Weak.trans (weak_drop 7) (Weak.trans (weak_drop 8) (Weak.trans (weak_nx (nx' := 7) (by omega) (by rfl)) (weak_sl (sub_cons rfl (sub_cons rfl (sub_cons rfl (sub_cons rfl (sub_cons rfl (sub_nil)))))))))), i + 1, by omega, upto_step hall hnx, rfl, rfl⟩
       | exact ⟨bs.length - (i + 1), _, by omega, (by rw [selK_no (k := 0) hn0, selK_no (k := 1) hn1, selK_yes hk, selK_no (k := 3) hn3, selK_no (k := 4) hn4, selK_no (k := 5) hn5, i64s_app4]; exact Weak.trans (weak_drop 7) (Weak.trans (weak_drop 8) (Weak.trans (weak_nx (nx' := 7) (by omega) (by rfl)) (weak_sl (sub_cons rfl (sub_cons rfl (sub_cons rfl (sub_cons rfl (sub_cons rfl (sub_nil)))))))))), i + 1, by omega, upto_step hall hnx, rfl, rfl⟩
       | exact ⟨bs.length - (i + 1), _, by omega, (by rw [selK_no (k := 0) hn0, selK_no (k := 1) hn1, selK_no (k := 2) hn2, selK_yes hk, selK_no (k := 4) hn4, selK_no (k := 5) hn5, i64s_app4]; exact Weak.trans (weak_drop 7) (Weak.trans (weak_drop 8) (Weak.trans (weak_nx (nx' := 7) (by omega) (by rfl)) (weak_sl (sub_cons rfl (sub_cons rfl (sub_cons rfl (sub_cons rfl (sub_cons rfl (sub_nil)))))))))), i + 1, by omega, upto_step hall hnx, rfl, rfl⟩
       | exact ⟨bs.length - (i + 1), _, by omega, (by rw [selK_no (k := 0) hn0, selK_no (k := 1) hn1, selK_no (k := 2) hn2, selK_no (k := 3) hn3, selK_yes hk, selK_no (k := 5) hn5, i64s_app4]; exact Weak.trans (weak_drop 7) (Weak.trans (weak_drop 8) (Weak.trans (weak_nx (nx' := 7) (by omega) (by rfl)) (weak_sl (sub_cons rfl (sub_cons rfl (sub_cons rfl (sub_cons rfl (sub_cons rfl (sub_nil)))))))))), i + 1, by omega, upto_step hall hnx, rfl, rfl⟩
       | exact ⟨bs.length - (i + 1), _, by omega, (by rw [selK_no (k := 0) hn0, selK_no (k := 1) hn1, selK_no (k := 2) hn2, selK_no (k := 3) hn3, selK_no (k := 4) hn4, selK_yes hk, i64s_app4]; exact Weak.trans (weak_drop 7) (Weak.trans (weak_drop 8) (Weak.trans (weak_nx (nx' := 7) (by omega) (by rfl)) (weak_sl (sub_cons rfl (sub_cons rfl (sub_cons rfl (sub_cons rfl (sub_cons rfl (sub_nil)))))))))), i + 1, by omega, upto_step hall hnx, rfl, rfl⟩
    ·
     have hn0 : ¬ gF hs bs i = ((0 : Nat) : Int) := by omega
     have hn1 : ¬ gF hs bs i = ((1 : Nat) : Int) := by omega
     have hn2 : ¬ gF hs bs i = ((2 : Nat) : Int) := by omega
     have hn3 : ¬ gF hs bs i = ((3 : Nat) : Int) := by omega
     have hn4 : ¬ gF hs bs i = ((4 : Nat) : Int) := by omega
     have hk2 : fstOf (isHigh (bs.getD i bk0).high) hs = ((5 : Nat) : Int) := hk
     simp only [hk2]
     refine r1 T0_ok hP hm hN ?_
     iterate 8 refine g1 ?_
     refine ga1 ?_
     iterate 2 refine g1 ?_
     refine r1 T0_ok hP hm hN ?_
     iterate 2 refine g1 ?_
     first
       | exact ⟨bs.length - (i + 1), _, by omega, (by rw [selK_yes hk, selK_no (k := 1) hn1, selK_no (k := 2) hn2, selK_no (k := 3) hn3, selK_no (k := 4) hn4, selK_no (k := 5) hn5, i64s_app4]; exact Weak.trans (weak_drop 7) (Weak.trans (weak_drop 8) (Weak.trans (weak_nx (nx' := 7) (by omega) (by rfl)) (weak_sl (sub_cons rfl (sub_cons rfl (sub_cons rfl (sub_cons rfl (sub_cons rfl (sub_nil)))))))))), i + 1, by omega, upto_step hall hnx, rfl, rfl⟩
       | exact ⟨bs.length - (i + 1), _, by omega, (by rw [selK_no (k := 0) hn0, selK_yes hk, selK_no (k := 2) hn2, selK_no (k := 3) hn3, selK_no (k := 4) hn4, selK_no (k := 5) hn5, i64s_app4]; exact Weak.trans (weak_drop 7) (Weak.trans (weak_drop 8) (Weak.trans (weak_nx (nx' := 7) (by omega) (by rfl)) (weak_sl (sub_cons rfl (sub_cons rfl (sub_cons rfl (sub_cons rfl (sub_cons rfl (sub_nil)))))))))), i + 1, by omega, upto_step hall hnx, rfl, rfl⟩
       | exact ⟨bs.length - (i + 1), _, by omega, (by rw [selK_no (k := 0) hn0, selK_no (k := 1) hn1, selK_yes hk, selK_no (k := 3) hn3, selK_no (k := 4) hn4, selK_no (k := 5) hn5, i64s_app4]; exact Weak.trans (weak_drop 7) (Weak.trans (weak_drop 8) (Weak.trans (weak_nx (nx' := 7) (by omega) (by rfl)) (weak_sl (sub_cons rfl (sub_cons rfl (sub_cons rfl (sub_cons rfl (sub_cons rfl (sub_nil)))))))))), i + 1, by omega, upto_step hall hnx, rfl, rfl⟩
       | exact ⟨bs.length - (i + 1), _, by omega, (by rw [selK_no (k := 0) hn0, selK_no (k := 1) hn1, selK_no (k := 2) hn2, selK_yes hk, selK_no (k := 4) hn4, selK_no (k := 5) hn5, i64s_app4]; exact Weak.trans (weak_drop 7) (Weak.trans (weak_drop 8) (Weak.trans (weak_nx (nx' := 7) (by omega) (by rfl)) (weak_sl (sub_cons rfl (sub_cons rfl (sub_cons rfl (sub_cons rfl (sub_cons rfl (sub_nil)))))))))), i + 1, by omega, upto_step hall hnx, rfl, rfl⟩
       | exact ⟨bs.length - (i + 1), _, by omega, (by rw [selK_no (k := 0) hn0, selK_no (k := 1) hn1, selK_no (k := 2) hn2, selK_no (k := 3) hn3, selK_yes hk, selK_no (k := 5) hn5, i64s_app4]; exact Weak.trans (weak_drop 7) (Weak.trans (weak_drop 8) (Weak.trans (weak_nx (nx' := 7) (by omega) (by rfl)) (weak_sl (sub_cons rfl (sub_cons rfl (sub_cons rfl (sub_cons rfl (sub_cons rfl (sub_nil)))))))))), i + 1, by omega, upto_step hall hnx, rfl, rfl⟩
       | exact ⟨bs.length - (i + 1), _, by omega, (by rw [selK_no (k := 0) hn0, selK_no (k := 1) hn1, selK_no (k := 2) hn2, selK_no (k := 3) hn3, selK_no (k := 4) hn4, selK_yes hk, i64s_app4]; exact Weak.trans (weak_drop 7) (Weak.trans (weak_drop 8) (Weak.trans (weak_nx (nx' := 7) (by omega) (by rfl)) (weak_sl (sub_cons rfl (sub_cons rfl (sub_cons rfl (sub_cons rfl (sub_cons rfl (sub_nil)))))))))), i + 1, by omega, upto_step hall hnx, rfl, rfl⟩
  ·
   have hgei : ¬ i < bs.length := by simpa using hc0
   obtain rfl : i = bs.length := by omega
   have hall2 : allG hs bs := hall
   have hr : grpR hs bs = (grpL hs bs, true) := by rw [grpR, ask_true hall2]; rfl
   refine awp_exit ?_
   repeat refine thenA_exit ?_
   refine blockA_hit ?_
   refine awp_seq ?_
   refine r1 T0_ok hP hm hN ?_
   iterate 3 refine g1 ?_
   refine awp_weak (weak_frz 1 hS0 hG rfl (.inl rfl)) ?_
   refine awp_weak (weak_frz 2 hS0 hG rfl (.inl rfl)) ?_
   refine awp_weak (weak_frz 3 hS0 hG rfl (.inl rfl)) ?_
   refine awp_weak (weak_frz 4 hS0 hG rfl (.inl rfl)) ?_
   refine awp_weak (weak_frz 5 hS0 hG rfl (.inl rfl)) ?_
   refine awp_weak (weak_frz 6 hS0 hG rfl (.inl rfl)) ?_
   refine awp_weak (weak_deep 0 false rfl (fun _ _ => fm_cons rfl (fm_cons rfl (fm_cons rfl (fm_cons rfl (fm_cons rfl (fm_cons rfl (fm_nil)))))))) ?_
   refine awp_ret ?_
   refine fin_mk [0] rfl rfl ?_ (by simp only [hr]; first | exact objs_cons rfl rfl rfl rfl rfl (.inl rfl) objs_nil | exact objs_cons rfl rfl rfl (by show _ = i64ss (grpF (gF hs bs) hs.length bs.length); rw [hn]; rfl) rfl (.inl rfl) objs_nil) (by decide)
   show D.tup [_, .val (.bool (grpR hs bs).2)] = _
   rw [hr]
   rfl
end Go.Proofs.YtheoapoddmmahaaGreat.Abs

