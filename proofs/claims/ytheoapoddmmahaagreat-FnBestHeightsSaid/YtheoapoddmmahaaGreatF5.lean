import Derived.Test.YtheoapoddmmahaaGreatF4
set_option linter.unusedVariables false
set_option linter.unusedSimpArgs false
namespace Go.Proofs.YtheoapoddmmahaaGreat.Abs
open Go Go.RowKit

theorem i64s_snocA (xs : List Int) (x : Int) : i64s xs ++ [[D.val (.int .i64 x)]] = i64s (xs ++ [x]) := by simp
theorem putI_len1 {l : List Int} (h : l.Pairwise (· < ·)) (n : Int) : (putI l n).length ≤ l.length + 1 := by
  have h1 := putF_len l n l.length
  unfold putI
  split
  · rename_i hf
    rw [((putF_inv h n l.length (Nat.le_refl _)).1 (by simpa using hf)).1]
    simp
  · exact h1
theorem of_ask {p : Prop} (h : ask p = true) : p := by simpa [ask] using h
theorem rises_pw {xs : List Int} (h : risesP xs) : xs.Pairwise (· < ·) := by
  rw [List.pairwise_iff_getElem]
  have key : ∀ d i, i + d + 1 < xs.length → xs.getD i 0 < xs.getD (i + d + 1) 0 := by
    intro d
    induction d with
    | zero => intro i hi; exact h i hi
    | succ d ih => intro i hi; have h1 := ih i (by omega); have h2 := h (i + d + 1) hi; rw [show i + (d + 1) + 1 = i + d + 1 + 1 by omega]; omega
  intro i j hi hj hij
  have := key (j - i - 1) i (by omega)
  rw [show i + (j - i - 1) + 1 = j by omega] at this
  simpa [List.getD, hi, hj] using this
theorem validH_pw {a b c : Int} {xs : List Int} (h : validH a b c xs = true) : xs.Pairwise (· < ·) := by
  simp only [validH, Bool.and_eq_true] at h
  exact rises_pw (of_ask h.1.2)
theorem set_put {hs : List Int} {h : Int} (hr : hs.Pairwise (· < ·)) : setI (hs ++ [h]) = putI hs h :=
  rising_ext (setI_rise _) (putI_rise hr h).1 (fun a => by rw [setI_mem, (putI_rise hr h).2]; simp only [List.mem_append, List.mem_singleton]; exact ⟨fun h => h.elim .inr .inl, fun h => h.elim .inr .inl⟩)
theorem preG_put {hs : List Int} {bs : List Bk} {h : Int} (hp : PreG hs bs) (hr : hs.Pairwise (· < ·)) (h5 : hs.length ≤ 5) (hh : 50 ≤ h ∧ h ≤ 1000) : PreG (putI hs h) bs := by
  obtain ⟨h1, h2, h3, h4⟩ := hp
  have h6 := putI_len1 hr h
  refine ⟨h1, fun n hn => ?_, ?_, by omega⟩
  · rcases ((putI_rise hr h).2 n).1 hn with rfl | hn
    · exact hh
    · exact h2 n hn
  · have : h ∈ putI hs h := ((putI_rise hr h).2 h).2 (.inl rfl)
    exact List.length_pos_iff.2 (fun e => by rw [e] at this; cases this)
noncomputable def addS (hs : List Int) (bs : List Bk) (s : Int × Int × Bool) (h : Int) : Int × Int × Bool :=
  if hasB hs h = true then s else if ((wasteI (putI hs h) bs).2 && (!s.2.2 || decide ((wasteI (putI hs h) bs).1 < s.2.1))) = true then (h, (wasteI (putI hs h) bs).1, true) else s
noncomputable def addF (hs : List Int) (bs : List Bk) (L : List Int) : Nat → Int × Int × Bool
  | 0 => (0, 0, false)
  | i + 1 => addS hs bs (addF hs bs L i) (L.getD i 0)
theorem addF_b {hs : List Int} {bs : List Bk} {L : List Int} (h : ∀ x ∈ L, 0 ≤ x) : ∀ i, i ≤ L.length → (addF hs bs L i).2.2 = true → 0 ≤ (addF hs bs L i).1
  | 0, _, h0 => by simp [addF] at h0
  | i + 1, hi, h0 => by
    have ih := addF_b (hs := hs) (bs := bs) h i (by omega)
    rw [addF, addS] at h0 ⊢
    split
    · rename_i h1; rw [if_pos h1] at h0; exact ih h0
    · rename_i h1
      rw [if_neg h1] at h0
      split
      · exact h _ (getD_mem' (d := 0) (by omega))
      · rename_i h2; rw [if_neg h2] at h0; exact ih h0
noncomputable def addR (a b c : Int) (hs : List Int) (bs : List Bk) : Int × Int × Int :=
  if (!validH a b c hs || !validBs bs) = true then (0, 0, 1) else if ((hs.length : Int) == 6) = true then (0, 0, 3) else
    if (!(addF hs bs (htsI a b bs) (htsI a b bs).length).2.2) = true then (0, 0, 6) else ((addF hs bs (htsI a b bs) (htsI a b bs).length).1, (addF hs bs (htsI a b bs) (htsI a b bs).length).2.1, 0)
theorem hts_b {a b c : Int} {bs : List Bk} (hok : pegsOk a b c = true) (ho : ∀ b ∈ bs, okB2 b) : ∀ x ∈ htsI a b bs, 50 ≤ x ∧ x ≤ 1000 := fun x hx => by
  rw [htsI, setI_mem, List.mem_map] at hx
  obtain ⟨y, hy, rfl⟩ := hx
  obtain ⟨ha, hb, _⟩ := pegsOk_iff.1 hok
  have h1 := pegH_bounds (a := a) (b := b) (high := y.high) (by omega)
  have h2 := (ho y hy).2
  omega
theorem validH_peg {a b c : Int} {xs : List Int} (h : validH a b c xs = true) : pegsOk a b c = true := by
  simp only [validH, Bool.and_eq_true] at h
  exact h.1.1.1

noncomputable abbrev s_I_AddHeight : Spec ((Int × Int × Int) × List Int × List Bk) where
  args := fun x => [pegs x.1, .sl 1 (i64s x.2.1), .sl 8 (bks x.2.2)]
  pre := fun x => isPegs x.1 ∧ x.2.1.length ≤ 1048576 ∧ (∀ b ∈ x.2.2, isBk b) ∧ x.2.2.length ≤ 1048576
  res := fun x => .tup [.val (.int .i64 (addR x.1.1 x.1.2.1 x.1.2.2 x.2.1 x.2.2).1), .val (.int .i64 (addR x.1.1 x.1.2.1 x.1.2.2 x.2.1 x.2.2).2.1), .val (.int .i64 (addR x.1.1 x.1.2.1 x.1.2.2 x.2.1 x.2.2).2.2)]

set_option maxRecDepth 20000 in
set_option maxHeartbeats 8000000 in
theorem ok_I_AddHeight : FnOk Pr 17 s_I_AddHeight := by
 refine fn_ok 3 0 T0_ok Go.Proofs.Tryz.func17 rfl (enters_of Go.Proofs.Tryz.func17 rfl rfl) (fun _ => rfl) (fun _ => rfl) (fun _ => rfl) ?_
 rintro ⟨⟨a, b, c⟩, hs, bs⟩ ⟨hp, hhl, hv, hl⟩ C hP hN hm hG
 change awp C _ _ ⟨[(0, .val (.agg #[.int .i16 a, .int .i16 b, .int .i16 c])), (1, .sl 1 (i64s hs)), (2, .sl 8 (bks bs))], [], 0⟩
 simp only at hhl hv hl
 refine awp_seq ?_
 refine r1 T0_ok hP hm hN ?_
 iterate 4 refine g1 ?_
 refine awp_seq ?_
 refine awp_block ?_
 refine awp_seq ?_
 refine r1 T0_ok hP hm hN ?_
 iterate 2 refine g1 ?_
 refine gc1 ?_ (call1 ok_I_ValidHeights ((_, _, _), _) [] (hpre := by (try dsimp only); exact ⟨hp, by omega⟩))
 iterate 2 refine g1 ?_
 refine gg1 ?_
 refine ggc1 ?_ (hs := by intro hb; simp +decide only [hb, gd_tt, gd_ff, beq_self_eq_true, Bool.true_and, beq_true]; exact ⟨rfl, _, call1 ok_I_ValidBooks _ [] (hpre := by (try dsimp only); omega), rfl, rfl, rfl⟩)
 refine gg1 ?_
 iterate 2 refine g1 ?_
 refine awp_cond rfl (fun hc0 => ?_) (fun hc0 => ?_)
 ·
  have hr : addR a b c hs bs = (0, 0, 1) := by rw [addR, if_pos hc0]
  refine awp_seq ?_
  refine r1 T0_ok hP hm hN ?_
  iterate 3 refine g1 ?_
  refine awp_ret ?_
  refine fin_mk [] rfl rfl ?_ trivial (by decide)
  show D.tup [.val (.int .i64 (addR a b c hs bs).1), .val (.int .i64 (addR a b c hs bs).2.1), .val (.int .i64 (addR a b c hs bs).2.2)] = _
  rw [hr]
  rfl
 ·
  have hpg := preG_of hv hc0
  have hvh : validH a b c hs = true := by have h := orb_false hc0; simpa using h.1
  have hvb : validBs bs = true := by have h := orb_false hc0; simpa using h.2
  have hok := validH_peg hvh
  have hrs := validH_pw hvh
  obtain ⟨hob, hl60⟩ := validBs_b2 hvb
  have h6 := hpg.2.2.2
  have hhb := hts_b hok hob
  have hll := htsI_len a b bs
  refine awp_seq ?_
  refine r1 T0_ok hP hm hN ?_
  iterate 4 refine g1 ?_
  refine awp_cond rfl (fun hc1 => ?_) (fun hc1 => ?_)
  ·
   have hr : addR a b c hs bs = (0, 0, 3) := by rw [addR, if_neg (by rw [hc0]; simp), if_pos hc1]
   refine awp_seq ?_
   refine r1 T0_ok hP hm hN ?_
   iterate 3 refine g1 ?_
   refine awp_ret ?_
   refine fin_mk [] rfl rfl ?_ trivial (by decide)
   show D.tup [.val (.int .i64 (addR a b c hs bs).1), .val (.int .i64 (addR a b c hs bs).2.1), .val (.int .i64 (addR a b c hs bs).2.2)] = _
   rw [hr]
   rfl
  ·
   have h5 : hs.length ≤ 5 := by
     have h := hc1
     simp only [beq_eq_false_iff_ne, ne_eq] at h
     omega
   refine awp_skip ?_
   refine awp_seq ?_
   refine r1 T0_ok hP hm hN ?_
   iterate 3 refine g1 ?_
   refine awp_seq ?_
   refine awp_seq ?_
   refine r1 T0_ok hP hm hN ?_
   iterate 2 refine g1 ?_
   refine gc1 ?_ (call1 ok_I_Pegs_heightsOf ((_, _, _), _) [] (hpre := by (try dsimp only); exact ⟨hok, hp, hv, by omega⟩))
   iterate 2 refine g1 ?_
   refine awp_block ?_
   refine awp_loop (fun n st => ∃ i : Nat, i ≤ (htsI a b bs).length ∧ n = (htsI a b bs).length - i ∧ st = ⟨[(34, .val (.int .i64 (i : Nat))), (33, .val (.int .i64 ((htsI a b bs).length : Nat))), (32, .own 1), (9, .val (.int .i64 (addF hs bs (htsI a b bs) i).1)), (10, .val (.int .i64 (addF hs bs (htsI a b bs) i).2.1)), (11, .val (.bool (addF hs bs (htsI a b bs) i).2.2)), (1, .sl 1 (i64s hs)), (2, .sl 8 (bks bs))], [(1, ⟨2, 1, false, i64s ((htsI a b bs))⟩)], 2⟩) ((htsI a b bs).length) ⟨_, (by exact Weak.trans (weak_drop 0) (weak_sl (sub_cons rfl (sub_cons rfl (sub_cons rfl (sub_cons rfl (sub_cons rfl (sub_cons rfl (sub_cons rfl (sub_cons rfl (sub_nil))))))))))), 0, by omega, rfl, rfl⟩ ?_
   rintro n st ⟨i, hii, hni, rfl⟩
   obtain ⟨s, hsd⟩ : ∃ s, s = (addF hs bs (htsI a b bs) i) := ⟨_, rfl⟩
   rw [← hsd]
   refine awp_seq ?_
   refine r1 T0_ok hP hm hN ?_
   refine g1 ?_
   refine awp_seq ?_
   refine awp_cond rfl (fun hc2 => ?_) (fun hc2 => ?_)
   ·
    have hlti : i < (htsI a b bs).length := by simpa using hc2
    refine awp_skip ?_
    refine awp_seq ?_
    refine awp_block ?_
    refine awp_seq ?_
    refine r1 T0_ok hP hm hN ?_
    iterate 3 refine g1 ?_
    refine awp_seq ?_
    refine awp_seq ?_
    refine r1 T0_ok hP hm hN ?_
    iterate 2 refine g1 ?_
    refine gc1 ?_ (call1 ok_slices_Contains_int64_int64 (_, _) [] (hpre := by (try dsimp only); (try simp only [List.length_map]); omega))
    refine awp_cond rfl (fun hc3 => ?_) (fun hc3 => ?_)
    ·
     have hst : (addF hs bs (htsI a b bs) (i + 1)) = s := by rw [addF, ← hsd, addS, if_pos hc3]
     refine awp_exit ?_
     repeat refine thenA_exit ?_
     refine blockA_hit ?_
     refine r1 T0_ok hP hm hN ?_
     iterate 2 refine g1 ?_
     first
       | exact ⟨(htsI a b bs).length - (i + 1), _, by omega, (by rw [hst]; exact weak_sl (sub_cons rfl (sub_cons rfl (sub_cons rfl (sub_cons rfl (sub_cons rfl (sub_cons rfl (sub_cons rfl (sub_cons rfl (sub_nil)))))))))), i + 1, by omega, rfl, rfl⟩
       | exact ⟨(htsI a b bs).length - (i + 1), _, by omega, (by rw [hst]; exact Weak.trans (weak_drop 4) (Weak.trans (weak_drop 3) (Weak.trans (weak_drop 2) (Weak.trans (weak_nx (nx' := 2) (by omega) (by rfl)) (weak_sl (sub_cons rfl (sub_cons rfl (sub_cons rfl (sub_cons rfl (sub_cons rfl (sub_cons rfl (sub_cons rfl (sub_cons rfl (sub_nil)))))))))))))), i + 1, by omega, rfl, rfl⟩
    ·
     have hpp := preG_put hpg hrs h5 (hhb _ (getD_mem' (d := 0) hlti))
     have hsp := set_put (h := ((htsI a b bs).getD i 0)) hrs
     refine awp_skip ?_
     refine awp_seq ?_
     refine r1 T0_ok hP hm hN ?_
     refine g1 ?_
     refine gc1 ?_ (call1 ok_slices_Clone_int64_int64 _ [] (hpre := by (try dsimp only); omega))
     iterate 2 refine g1 ?_
     refine ga1 ?_ (hst := by simp +decide (disch := omega) only [nrm, lk_nrm, dc_nrm, mk_nrm, mf_nrm, ti_nrm, ls_nrm, mp_nrm, nb_nrm, hset, pick_and, pick_or, ↓reduceIte, Nat.reduceAdd, wI64, wI32, wI16, wI8, wU8, List.length_map, Int.toNat_natCast, xn1, xn2, kl_nrm, i64s_snocA]; rfl)
     refine gc1 ?_ (call1 ok_I_setList (hs ++ [((htsI a b bs).getD i 0)]) [] (hpre := by (try dsimp only); simp only [List.length_append, List.length_cons, List.length_nil]; omega)) (hst := by simp +decide (disch := omega) only [nrm, lk_nrm, dc_nrm, mk_nrm, mf_nrm, ti_nrm, ls_nrm, mp_nrm, nb_nrm, hset, pick_and, pick_or, ↓reduceIte, Nat.reduceAdd, wI64, wI32, wI16, wI8, wU8, List.length_map, Int.toNat_natCast, xn1, xn2, hsp]; rfl)
     refine g1 ?_
     refine gc1 ?_ (call1 ok_I_waste ((putI hs ((htsI a b bs).getD i 0)), bs) [] (hpre := by (try dsimp only); exact hpp))
     iterate 5 refine g1 ?_
     refine awp_seq ?_
     refine r1 T0_ok hP hm hN ?_
     iterate 2 refine g1 ?_
     cases hs0 : (wasteI (putI hs ((htsI a b bs).getD i 0)) bs).2
     ·
      iterate 7 (first | refine gn1 ?_ | refine gu1 ?_)
      refine g1 ?_
      refine awp_cond rfl (fun h61 => ?_) (fun h61 => ?_)
      ·
       have hst : (addF hs bs (htsI a b bs) (i + 1)) = (((htsI a b bs).getD i 0), (wasteI (putI hs ((htsI a b bs).getD i 0)) bs).1, true) := by
         rw [addF, ← hsd, addS, if_neg (by rw [hc3]; simp)]
         exact if_pos (by first | (rw [hs0, hs1]; rfl) | (rw [hs0, hs1, h61]; rfl) | exact absurd h61 (by decide))
       refine r1 T0_ok hP hm hN ?_
       iterate 5 refine g1 ?_
       refine r1 T0_ok hP hm hN ?_
       iterate 2 refine g1 ?_
       first
         | exact ⟨(htsI a b bs).length - (i + 1), _, by omega, (by rw [hst]; exact weak_sl (sub_cons rfl (sub_cons rfl (sub_cons rfl (sub_cons rfl (sub_cons rfl (sub_cons rfl (sub_cons rfl (sub_cons rfl (sub_nil)))))))))), i + 1, by omega, rfl, rfl⟩
         | exact ⟨(htsI a b bs).length - (i + 1), _, by omega, (by rw [hst]; exact Weak.trans (weak_drop 4) (Weak.trans (weak_drop 3) (Weak.trans (weak_drop 2) (Weak.trans (weak_nx (nx' := 2) (by omega) (by rfl)) (weak_sl (sub_cons rfl (sub_cons rfl (sub_cons rfl (sub_cons rfl (sub_cons rfl (sub_cons rfl (sub_cons rfl (sub_cons rfl (sub_nil)))))))))))))), i + 1, by omega, rfl, rfl⟩
      ·
       have hst : (addF hs bs (htsI a b bs) (i + 1)) = s := by
         rw [addF, ← hsd, addS, if_neg (by rw [hc3]; simp)]
         exact if_neg (by first | (rw [hs0]; simp; done) | (rw [hs0, hs1, h61]; simp; done) | exact absurd h61 (by decide))
       refine awp_skip ?_
       refine r1 T0_ok hP hm hN ?_
       iterate 2 refine g1 ?_
       first
         | exact ⟨(htsI a b bs).length - (i + 1), _, by omega, (by rw [hst]; exact weak_sl (sub_cons rfl (sub_cons rfl (sub_cons rfl (sub_cons rfl (sub_cons rfl (sub_cons rfl (sub_cons rfl (sub_cons rfl (sub_nil)))))))))), i + 1, by omega, rfl, rfl⟩
         | exact ⟨(htsI a b bs).length - (i + 1), _, by omega, (by rw [hst]; exact Weak.trans (weak_drop 4) (Weak.trans (weak_drop 3) (Weak.trans (weak_drop 2) (Weak.trans (weak_nx (nx' := 2) (by omega) (by rfl)) (weak_sl (sub_cons rfl (sub_cons rfl (sub_cons rfl (sub_cons rfl (sub_cons rfl (sub_cons rfl (sub_cons rfl (sub_cons rfl (sub_nil)))))))))))))), i + 1, by omega, rfl, rfl⟩
     ·
      iterate 3 refine gy1 ?_
      cases hs1 : (!s.2.2)
      ·
       iterate 4 refine gy1 ?_
       refine g1 ?_
       refine awp_cond rfl (fun h61 => ?_) (fun h61 => ?_)
       ·
        have hst : (addF hs bs (htsI a b bs) (i + 1)) = (((htsI a b bs).getD i 0), (wasteI (putI hs ((htsI a b bs).getD i 0)) bs).1, true) := by
          rw [addF, ← hsd, addS, if_neg (by rw [hc3]; simp)]
          exact if_pos (by first | (rw [hs0, hs1]; rfl) | (rw [hs0, hs1, h61]; rfl) | exact absurd h61 (by decide))
        refine r1 T0_ok hP hm hN ?_
        iterate 5 refine g1 ?_
        refine r1 T0_ok hP hm hN ?_
        iterate 2 refine g1 ?_
        first
          | exact ⟨(htsI a b bs).length - (i + 1), _, by omega, (by rw [hst]; exact weak_sl (sub_cons rfl (sub_cons rfl (sub_cons rfl (sub_cons rfl (sub_cons rfl (sub_cons rfl (sub_cons rfl (sub_cons rfl (sub_nil)))))))))), i + 1, by omega, rfl, rfl⟩
          | exact ⟨(htsI a b bs).length - (i + 1), _, by omega, (by rw [hst]; exact Weak.trans (weak_drop 4) (Weak.trans (weak_drop 3) (Weak.trans (weak_drop 2) (Weak.trans (weak_nx (nx' := 2) (by omega) (by rfl)) (weak_sl (sub_cons rfl (sub_cons rfl (sub_cons rfl (sub_cons rfl (sub_cons rfl (sub_cons rfl (sub_cons rfl (sub_cons rfl (sub_nil)))))))))))))), i + 1, by omega, rfl, rfl⟩
       ·
        have hst : (addF hs bs (htsI a b bs) (i + 1)) = s := by
          rw [addF, ← hsd, addS, if_neg (by rw [hc3]; simp)]
          exact if_neg (by first | (rw [hs0]; simp; done) | (rw [hs0, hs1, h61]; simp; done) | exact absurd h61 (by decide))
        refine awp_skip ?_
        refine r1 T0_ok hP hm hN ?_
        iterate 2 refine g1 ?_
        first
          | exact ⟨(htsI a b bs).length - (i + 1), _, by omega, (by rw [hst]; exact weak_sl (sub_cons rfl (sub_cons rfl (sub_cons rfl (sub_cons rfl (sub_cons rfl (sub_cons rfl (sub_cons rfl (sub_cons rfl (sub_nil)))))))))), i + 1, by omega, rfl, rfl⟩
          | exact ⟨(htsI a b bs).length - (i + 1), _, by omega, (by rw [hst]; exact Weak.trans (weak_drop 4) (Weak.trans (weak_drop 3) (Weak.trans (weak_drop 2) (Weak.trans (weak_nx (nx' := 2) (by omega) (by rfl)) (weak_sl (sub_cons rfl (sub_cons rfl (sub_cons rfl (sub_cons rfl (sub_cons rfl (sub_cons rfl (sub_cons rfl (sub_cons rfl (sub_nil)))))))))))))), i + 1, by omega, rfl, rfl⟩
      ·
       iterate 3 (first | refine gn1 ?_ | refine gu1 ?_)
       refine gy1 ?_
       refine g1 ?_
       refine awp_cond rfl (fun h61 => ?_) (fun h61 => ?_)
       ·
        have hst : (addF hs bs (htsI a b bs) (i + 1)) = (((htsI a b bs).getD i 0), (wasteI (putI hs ((htsI a b bs).getD i 0)) bs).1, true) := by
          rw [addF, ← hsd, addS, if_neg (by rw [hc3]; simp)]
          exact if_pos (by first | (rw [hs0, hs1]; rfl) | (rw [hs0, hs1, h61]; rfl) | exact absurd h61 (by decide))
        refine r1 T0_ok hP hm hN ?_
        iterate 5 refine g1 ?_
        refine r1 T0_ok hP hm hN ?_
        iterate 2 refine g1 ?_
        first
          | exact ⟨(htsI a b bs).length - (i + 1), _, by omega, (by rw [hst]; exact weak_sl (sub_cons rfl (sub_cons rfl (sub_cons rfl (sub_cons rfl (sub_cons rfl (sub_cons rfl (sub_cons rfl (sub_cons rfl (sub_nil)))))))))), i + 1, by omega, rfl, rfl⟩
          | exact ⟨(htsI a b bs).length - (i + 1), _, by omega, (by rw [hst]; exact Weak.trans (weak_drop 4) (Weak.trans (weak_drop 3) (Weak.trans (weak_drop 2) (Weak.trans (weak_nx (nx' := 2) (by omega) (by rfl)) (weak_sl (sub_cons rfl (sub_cons rfl (sub_cons rfl (sub_cons rfl (sub_cons rfl (sub_cons rfl (sub_cons rfl (sub_cons rfl (sub_nil)))))))))))))), i + 1, by omega, rfl, rfl⟩
       ·
        have hst : (addF hs bs (htsI a b bs) (i + 1)) = s := by
          rw [addF, ← hsd, addS, if_neg (by rw [hc3]; simp)]
          exact if_neg (by first | (rw [hs0]; simp; done) | (rw [hs0, hs1, h61]; simp; done) | exact absurd h61 (by decide))
        refine awp_skip ?_
        refine r1 T0_ok hP hm hN ?_
        iterate 2 refine g1 ?_
        first
          | exact ⟨(htsI a b bs).length - (i + 1), _, by omega, (by rw [hst]; exact weak_sl (sub_cons rfl (sub_cons rfl (sub_cons rfl (sub_cons rfl (sub_cons rfl (sub_cons rfl (sub_cons rfl (sub_cons rfl (sub_nil)))))))))), i + 1, by omega, rfl, rfl⟩
          | exact ⟨(htsI a b bs).length - (i + 1), _, by omega, (by rw [hst]; exact Weak.trans (weak_drop 4) (Weak.trans (weak_drop 3) (Weak.trans (weak_drop 2) (Weak.trans (weak_nx (nx' := 2) (by omega) (by rfl)) (weak_sl (sub_cons rfl (sub_cons rfl (sub_cons rfl (sub_cons rfl (sub_cons rfl (sub_cons rfl (sub_cons rfl (sub_cons rfl (sub_nil)))))))))))))), i + 1, by omega, rfl, rfl⟩
   ·
    have hgei : ¬ i < (htsI a b bs).length := by simpa using hc2
    obtain rfl : i = (htsI a b bs).length := by omega
    subst hsd
    refine awp_exit ?_
    repeat refine thenA_exit ?_
    refine blockA_hit ?_
    refine awp_seq ?_
    refine awp_seq ?_
    refine r1 T0_ok hP hm hN ?_
    iterate 2 refine g1 ?_
    refine awp_cond rfl (fun h66 => ?_) (fun h66 => ?_)
    ·
     have hr : addR a b c hs bs = (0, 0, 6) := by rw [addR, if_neg (by rw [hc0]; simp), if_neg (by rw [hc1]; simp), if_pos h66]
     refine awp_seq ?_
     refine r1 T0_ok hP hm hN ?_
     iterate 3 refine g1 ?_
     refine awp_ret ?_
     refine fin_mk [] rfl rfl ?_ trivial (by decide)
     show D.tup [.val (.int .i64 (addR a b c hs bs).1), .val (.int .i64 (addR a b c hs bs).2.1), .val (.int .i64 (addR a b c hs bs).2.2)] = _
     rw [hr]
     rfl
    ·
     have hr : addR a b c hs bs = ((addF hs bs (htsI a b bs) (htsI a b bs).length).1, (addF hs bs (htsI a b bs) (htsI a b bs).length).2.1, 0) := by rw [addR, if_neg (by rw [hc0]; simp), if_neg (by rw [hc1]; simp), if_neg (by rw [h66]; simp)]
     refine awp_skip ?_
     refine awp_seq ?_
     refine r1 T0_ok hP hm hN ?_
     iterate 5 refine g1 ?_
     refine awp_ret ?_
     refine fin_mk [] rfl rfl ?_ trivial (by decide)
     show D.tup [.val (.int .i64 (addR a b c hs bs).1), .val (.int .i64 (addR a b c hs bs).2.1), .val (.int .i64 (addR a b c hs bs).2.2)] = _
     rw [hr]
     rfl

noncomputable abbrev s_S_AddHeight : Spec ((Int × Int × Int) × List Int × List Bk) where
  args := fun x => [pegs x.1, .sl 1 (i64s x.2.1), .sl 8 (bks x.2.2)]
  pre := fun x => isPegs x.1 ∧ x.2.1.length ≤ 1048576 ∧ (∀ b ∈ x.2.2, isBk b) ∧ x.2.2.length ≤ 1048576
  res := fun x => .tup [.val (.int .i64 (addR x.1.1 x.1.2.1 x.1.2.2 x.2.1 x.2.2).1), .val (.int .i64 (addR x.1.1 x.1.2.1 x.1.2.2 x.2.1 x.2.2).2.1), .val (.int .i64 (addR x.1.1 x.1.2.1 x.1.2.2 x.2.1 x.2.2).2.2)]

set_option maxRecDepth 20000 in
set_option maxHeartbeats 8000000 in
theorem ok_S_AddHeight : FnOk Pr 18 s_S_AddHeight := by
 refine fn_ok 3 0 T0_ok Go.Proofs.Tryz.func18 rfl (enters_of Go.Proofs.Tryz.func18 rfl rfl) (fun _ => rfl) (fun _ => rfl) (fun _ => rfl) ?_
 rintro ⟨⟨a, b, c⟩, hs, bs⟩ ⟨hp, hhl, hv, hl⟩ C hP hN hm hG
 change awp C _ _ ⟨[(0, .val (.agg #[.int .i16 a, .int .i16 b, .int .i16 c])), (1, .sl 1 (i64s hs)), (2, .sl 8 (bks bs))], [], 0⟩
 simp only at hhl hv hl
 refine awp_seq ?_
 refine r1 T0_ok hP hm hN ?_
 iterate 4 refine g1 ?_
 refine awp_seq ?_
 refine awp_seq ?_
 refine r1 T0_ok hP hm hN ?_
 iterate 3 refine g1 ?_
 refine gc1 ?_ (call1 ok_S_l04Asked ((_, _, _), _, _) [] (hpre := by (try dsimp only); exact ⟨hp, by omega, hv, by omega⟩))
 refine g1 ?_
 refine awp_seq ?_
 refine r1 T0_ok hP hm hN ?_
 iterate 2 refine g1 ?_
 refine awp_cond rfl (fun hc0 => ?_) (fun hc0 => ?_)
 ·
  have hb1 : (!validH a b c hs || !validBs bs) = true := by
    rcases hx : (!validH a b c hs || !validBs bs) with _ | _
    · rw [askR, if_neg (by rw [hx]; simp)] at hc0; simp at hc0
    · rfl
  have hb2 : askR a b c hs bs = 1 := by rw [askR, if_pos hb1]
  have hr : addR a b c hs bs = (0, 0, 1) := by rw [addR, if_pos hb1]
  refine awp_seq ?_
  refine r1 T0_ok hP hm hN ?_
  refine g1 ?_ (hst := by simp +decide (disch := omega) only [nrm, lk_nrm, dc_nrm, mk_nrm, mf_nrm, ti_nrm, ls_nrm, mp_nrm, nb_nrm, hset, pick_and, pick_or, ↓reduceIte, Nat.reduceAdd, wI64, wI32, wI16, wI8, wU8, List.length_map, Int.toNat_natCast, xn1, xn2, hb2]; rfl)
  iterate 3 refine g1 ?_
  refine awp_ret ?_
  refine fin_mk [] rfl rfl ?_ trivial (by decide)
  show D.tup [.val (.int .i64 (addR a b c hs bs).1), .val (.int .i64 (addR a b c hs bs).2.1), .val (.int .i64 (addR a b c hs bs).2.2)] = _
  rw [hr]
  rfl
 ·
  have hb1 : (!validH a b c hs || !validBs bs) = false := by
    rcases hx : (!validH a b c hs || !validBs bs) with _ | _
    · rfl
    · rw [askR, if_pos hx] at hc0; simp at hc0
  have hpg := preG_of hv hb1
  have hvh : validH a b c hs = true := by have h := orb_false hb1; simpa using h.1
  have hvb : validBs bs = true := by have h := orb_false hb1; simpa using h.2
  have hok := validH_peg hvh
  have hrs := validH_pw hvh
  obtain ⟨hob, hl60⟩ := validBs_b2 hvb
  have h6 := hpg.2.2.2
  have hhb := hts_b hok hob
  have hll := htsI_len a b bs
  refine awp_skip ?_
  refine awp_seq ?_
  refine awp_seq ?_
  refine r1 T0_ok hP hm hN ?_
  iterate 3 refine g1 ?_
  refine awp_cond rfl (fun hc1 => ?_) (fun hc1 => ?_)
  ·
   have hr : addR a b c hs bs = (0, 0, 3) := by rw [addR, if_neg (by rw [hb1]; simp), if_pos hc1]
   refine awp_seq ?_
   refine r1 T0_ok hP hm hN ?_
   iterate 3 refine g1 ?_
   refine awp_ret ?_
   refine fin_mk [] rfl rfl ?_ trivial (by decide)
   show D.tup [.val (.int .i64 (addR a b c hs bs).1), .val (.int .i64 (addR a b c hs bs).2.1), .val (.int .i64 (addR a b c hs bs).2.2)] = _
   rw [hr]
   rfl
  ·
   have h5 : hs.length ≤ 5 := by
     have h := hc1
     simp only [beq_eq_false_iff_ne, ne_eq] at h
     omega
   refine awp_skip ?_
   refine awp_seq ?_
   refine r1 T0_ok hP hm hN ?_
   iterate 2 refine g1 ?_
   refine gc1 ?_ (call1 ok_S_l04Heights ((_, _, _), _) [] (hpre := by (try dsimp only); exact ⟨hok, hp, hv, by omega⟩))
   refine g1 ?_
   refine awp_seq ?_
   refine r1 T0_ok hP hm hN ?_
   refine g1 ?_
   refine awp_seq ?_
   refine r1 T0_ok hP hm hN ?_
   refine g1 ?_
   refine awp_seq ?_
   refine awp_seq ?_
   refine r1 T0_ok hP hm hN ?_
   refine g1 ?_
   refine awp_block ?_
   refine awp_loop (fun n st => ∃ i : Nat, i ≤ (htsI a b bs).length ∧ n = (htsI a b bs).length - i ∧ st = ⟨[(13, .val (.int .i64 (i : Nat))), (10, .own 1), (11, .val (.int .i64 (if (addF hs bs (htsI a b bs) i).2.2 = true then (addF hs bs (htsI a b bs) i).1 else -1))), (12, .val (.int .i64 (addF hs bs (htsI a b bs) i).2.1)), (1, .sl 1 (i64s hs)), (2, .sl 8 (bks bs))], [(1, ⟨2, 1, false, i64s ((htsI a b bs))⟩)], 2⟩) ((htsI a b bs).length) ⟨_, (by exact Weak.trans (weak_drop 0) (weak_sl (sub_cons rfl (sub_cons rfl (sub_cons rfl (sub_cons rfl (sub_cons rfl (sub_cons rfl (sub_nil))))))))), 0, by omega, rfl, rfl⟩ ?_
   rintro n st ⟨i, hii, hni, rfl⟩
   have hab := addF_b (hs := hs) (bs := bs) (fun x hx => (by have := (hhb x hx).1; omega : 0 ≤ x)) i (by omega)
   obtain ⟨s, hsd⟩ : ∃ s, s = (addF hs bs (htsI a b bs) i) := ⟨_, rfl⟩
   rw [← hsd] at hab ⊢
   have hbl : decide ((if s.2.2 = true then s.1 else -1) < 0) = !s.2.2 := by
     cases hf : s.2.2 with
     | true => have := hab hf; simp; omega
     | false => simp
   refine awp_seq ?_
   refine awp_seq ?_
   refine r1 T0_ok hP hm hN ?_
   iterate 4 refine g1 ?_
   refine awp_cond rfl (fun hc2 => ?_) (fun hc2 => ?_)
   ·
    have hlti : i < (htsI a b bs).length := by simpa using hc2
    have hgi := i64s_get (htsI a b bs) i hlti
    have hpp := preG_put hpg hrs h5 (hhb _ (getD_mem' (d := 0) hlti))
    have hsp := set_put (h := ((htsI a b bs).getD i 0)) hrs
    refine awp_skip ?_
    refine awp_seq ?_
    refine awp_block ?_
    refine awp_seq ?_
    refine awp_draw T0_ok hP hm hN Pr_mix [0, 1, 2, 3, 4, 5, 6, 7, 8, 9, 10, 11] [1, 6] _ rfl (by rfl) ?_
    refine d1 T0_ok ?_
    refine dp1 ?_ (call1 ok_S_l00Own _ [] (hpre := by (try dsimp only); omega))
    iterate 3 refine d1 T0_ok ?_
    refine d1 T0_ok ?_ (hs := by first | rfl | exact astep_load_p (by rfl) (by rfl) (by rfl) (by exact hgi) (by rfl))
    refine dp1 ?_ (call1 ok_S_l00Put (_, _) [] (hpre := by (try dsimp only); omega))
    refine d1 T0_ok ?_
    refine dreg_nil ?_
    refine awp_seq ?_
    refine awp_seq ?_
    refine r1 T0_ok hP hm hN ?_
    iterate 4 refine g1 ?_
    refine g1 ?_ (hs := by first | rfl | exact astep_load_p (by rfl) (by rfl) (by rfl) (by exact hgi) (by rfl))
    refine gc1 ?_ (call1 ok_S_l00Has (_, _) [] (hpre := by (try dsimp only); (try simp only [List.length_map]); omega))
    refine g1 ?_
    iterate 2 refine gg1 ?_
    refine ggc1 ?_ (hs := by intro hb; simp +decide only [hb, gd_tt, gd_ff, beq_self_eq_true, Bool.true_and, beq_true]; exact ⟨rfl, _, call1 ok_S_l04All ((putI hs ((htsI a b bs).getD i 0)), bs) [] (hpre := by (try dsimp only); exact ⟨hv, by omega, by have := putI_len hs ((htsI a b bs).getD i 0); omega⟩), rfl, rfl, rfl⟩)
    refine gg1 ?_
    refine g1 ?_
    refine awp_cond rfl (fun hc3 => ?_) (fun hc3 => ?_)
    ·
     have hst : (addF hs bs (htsI a b bs) (i + 1)) = s := by
       have h3 : (hasB hs ((htsI a b bs).getD i 0) || !ask (allG (putI hs ((htsI a b bs).getD i 0)) bs)) = true := hc3
       rw [addF, ← hsd, addS]
       split
       · rfl
       · rename_i hn
         have hn2 : hasB hs ((htsI a b bs).getD i 0) = false := by simpa using hn
         rw [hn2, Bool.false_or] at h3
         rw [if_neg (by rw [wasteI_eq, if_neg (by simpa using h3)]; simp)]
     refine awp_exit ?_
     repeat refine thenA_exit ?_
     refine blockA_hit ?_
     refine r1 T0_ok hP hm hN ?_
     iterate 3 refine g1 ?_
     first
       | exact ⟨(htsI a b bs).length - (i + 1), _, by omega, (by rw [hst]; exact Weak.trans (weak_drop 3) (Weak.trans (weak_drop 2) (Weak.trans (weak_nx (nx' := 2) (by omega) (by rfl)) (weak_sl (sub_cons rfl (sub_cons rfl (sub_cons rfl (sub_cons rfl (sub_cons rfl (sub_cons rfl (sub_nil))))))))))), i + 1, by omega, rfl, rfl⟩
    ·
     have h3 : (hasB hs ((htsI a b bs).getD i 0) || !ask (allG (putI hs ((htsI a b bs).getD i 0)) bs)) = false := hc3
     have h4 := orb_false h3
     have hag : allG (putI hs ((htsI a b bs).getD i 0)) bs := of_ask (by simpa using h4.2)
     have hwe : (wasteI (putI hs ((htsI a b bs).getD i 0)) bs) = (sumA (wG (putI hs ((htsI a b bs).getD i 0)) bs) (gF (putI hs ((htsI a b bs).getD i 0)) bs) bs.length, true) := by rw [wasteI_eq, if_pos (ask_true hag)]
     refine awp_skip ?_
     refine awp_seq ?_
     refine r1 T0_ok hP hm hN ?_
     iterate 2 refine g1 ?_
     refine gc1 ?_ (call1 ok_S_l04Waste ((putI hs ((htsI a b bs).getD i 0)), bs) [] (hpre := by (try dsimp only); exact ⟨hpp, hag⟩))
     refine g1 ?_
     refine awp_seq ?_
     refine r1 T0_ok hP hm hN ?_
     refine g1 ?_
     refine g1 ?_ (hst := by simp +decide (disch := omega) only [nrm, lk_nrm, dc_nrm, mk_nrm, mf_nrm, ti_nrm, ls_nrm, mp_nrm, nb_nrm, hset, pick_and, pick_or, ↓reduceIte, Nat.reduceAdd, wI64, wI32, wI16, wI8, wU8, List.length_map, Int.toNat_natCast, xn1, xn2, hbl]; rfl)
     refine g1 ?_
     iterate 3 refine gg1 ?_
     refine g1 ?_
     refine awp_cond rfl (fun h63 => ?_) (fun h63 => ?_)
     ·
      have hst : (addF hs bs (htsI a b bs) (i + 1)) = (((htsI a b bs).getD i 0), (sumA (wG (putI hs ((htsI a b bs).getD i 0)) bs) (gF (putI hs ((htsI a b bs).getD i 0)) bs) bs.length), true) := by
        rw [addF, ← hsd, addS, if_neg (by rw [h4.1]; simp), hwe]
        exact if_pos (by rw [Bool.true_and]; exact h63)
      refine awp_seq ?_
      refine r1 T0_ok hP hm hN ?_
      iterate 3 refine g1 ?_
      refine g1 ?_ (hs := by first | rfl | exact astep_load_p (by rfl) (by rfl) (by rfl) (by exact hgi) (by rfl))
      refine g1 ?_
      refine r1 T0_ok hP hm hN ?_
      iterate 2 refine g1 ?_
      refine r1 T0_ok hP hm hN ?_
      iterate 3 refine g1 ?_
      first
        | exact ⟨(htsI a b bs).length - (i + 1), _, by omega, (by rw [hst]; exact Weak.trans (weak_drop 3) (Weak.trans (weak_drop 2) (Weak.trans (weak_nx (nx' := 2) (by omega) (by rfl)) (weak_sl (sub_cons rfl (sub_cons rfl (sub_cons rfl (sub_cons rfl (sub_cons rfl (sub_cons rfl (sub_nil))))))))))), i + 1, by omega, rfl, rfl⟩
     ·
      have hst : (addF hs bs (htsI a b bs) (i + 1)) = s := by
        rw [addF, ← hsd, addS, if_neg (by rw [h4.1]; simp), hwe]
        exact if_neg (by rw [Bool.true_and]; simpa using h63)
      refine awp_skip ?_
      refine r1 T0_ok hP hm hN ?_
      iterate 3 refine g1 ?_
      first
        | exact ⟨(htsI a b bs).length - (i + 1), _, by omega, (by rw [hst]; exact Weak.trans (weak_drop 3) (Weak.trans (weak_drop 2) (Weak.trans (weak_nx (nx' := 2) (by omega) (by rfl)) (weak_sl (sub_cons rfl (sub_cons rfl (sub_cons rfl (sub_cons rfl (sub_cons rfl (sub_cons rfl (sub_nil))))))))))), i + 1, by omega, rfl, rfl⟩
   ·
    have hgei : ¬ i < (htsI a b bs).length := by simpa using hc2
    obtain rfl : i = (htsI a b bs).length := by omega
    subst hsd
    refine awp_exit ?_
    repeat refine thenA_exit ?_
    refine blockA_hit ?_
    refine awp_seq ?_
    refine awp_seq ?_
    refine r1 T0_ok hP hm hN ?_
    refine g1 ?_
    refine g1 ?_ (hst := by simp +decide (disch := omega) only [nrm, lk_nrm, dc_nrm, mk_nrm, mf_nrm, ti_nrm, ls_nrm, mp_nrm, nb_nrm, hset, pick_and, pick_or, ↓reduceIte, Nat.reduceAdd, wI64, wI32, wI16, wI8, wU8, List.length_map, Int.toNat_natCast, xn1, xn2, hbl]; rfl)
    refine awp_cond rfl (fun h70 => ?_) (fun h70 => ?_)
    ·
     have hr : addR a b c hs bs = (0, 0, 6) := by rw [addR, if_neg (by rw [hb1]; simp), if_neg (by rw [hc1]; simp), if_pos h70]
     refine awp_seq ?_
     refine r1 T0_ok hP hm hN ?_
     iterate 3 refine g1 ?_
     refine awp_ret ?_
     refine fin_mk [] rfl rfl ?_ trivial (by decide)
     show D.tup [.val (.int .i64 (addR a b c hs bs).1), .val (.int .i64 (addR a b c hs bs).2.1), .val (.int .i64 (addR a b c hs bs).2.2)] = _
     rw [hr]
     rfl
    ·
     have hfo : (addF hs bs (htsI a b bs) (htsI a b bs).length).2.2 = true := by simpa using h70
     have hr : addR a b c hs bs = ((addF hs bs (htsI a b bs) (htsI a b bs).length).1, (addF hs bs (htsI a b bs) (htsI a b bs).length).2.1, 0) := by rw [addR, if_neg (by rw [hb1]; simp), if_neg (by rw [hc1]; simp), if_neg (by rw [h70]; simp)]
     simp only [hfo, if_true]
     refine awp_skip ?_
     refine awp_seq ?_
     refine r1 T0_ok hP hm hN ?_
     iterate 5 refine g1 ?_
     refine awp_ret ?_
     refine fin_mk [] rfl rfl ?_ trivial (by decide)
     show D.tup [.val (.int .i64 (addR a b c hs bs).1), .val (.int .i64 (addR a b c hs bs).2.1), .val (.int .i64 (addR a b c hs bs).2.2)] = _
     rw [hr]
     rfl

end Go.Proofs.YtheoapoddmmahaaGreat.Abs

