import Derived.Test.YtamdnmkdhpleiaaW11
set_option linter.unusedVariables false
set_option linter.unusedSimpArgs false
namespace Go.Proofs.Ytamdnmkdhpleiaa.Abs
open Go Go.RowKit
def elemR (p : Int) (xs : List Pl) (i : Nat) : Prop := (inI (xs.getD i pl0).1 0 (p - 1) = true ∧ validB (xs.getD i pl0).2 = true) ∧ (0 < i → (xs.getD (i - 1) pl0).1 < (xs.getD i pl0).1 ∧ ¬ cmpU (xs.getD i pl0).2 (xs.getD (i - 1) pl0).2 < 0)
noncomputable def okR (p : Int) (xs : List Pl) : Bool := inI p 1 60 && ask (∀ i, i < xs.length → elemR p xs i)
theorem elemR_eq {p : Int} {xs : List Pl} {i : Nat} (h1 : (!inI (xs.getD i pl0).1 0 (p - 1) || !validB (xs.getD i pl0).2) = false) : elemR p xs i ↔ (decide ((i : Int) > 0) && (decide ((xs.getD i pl0).1 ≤ (xs.getD ((i : Int) - 1).toNat pl0).1) || decide (cmpU (xs.getD i pl0).2 (xs.getD ((i : Int) - 1).toNat pl0).2 < 0))) = false := by
  have e : ((i : Int) - 1).toNat = i - 1 := by omega
  rw [e]
  simp only [Bool.or_eq_false_iff, Bool.not_eq_false'] at h1
  simp only [elemR, h1, true_and, and_self, Bool.and_eq_false_iff, Bool.or_eq_false_iff, decide_eq_false_iff_not]
  constructor
  · intro h
    by_cases hi : 0 < i
    · have := h hi; right; exact ⟨by omega, this.2⟩
    · left; omega
  · rintro (h | h) hi
    · omega
    · exact ⟨by omega, h.2⟩
theorem elemR_bad {p : Int} {xs : List Pl} {i : Nat} (h1 : (!inI (xs.getD i pl0).1 0 (p - 1) || !validB (xs.getD i pl0).2) = true) : ¬ elemR p xs i := fun h => by
  rw [h.1.1, h.1.2] at h1
  cases h1
theorem pick_or2 (t x : Bool) : (if t = true then .val (.bool true) else gd (t == false) true (.val (.bool x))) = .val (.bool (t || x)) := by cases t <;> rfl
theorem okR_validR {p : Int} {xs : List Pl} : okR p xs = validR p xs := by
  unfold okR validR
  cases hp : inI p 1 60 with
  | false => rfl
  | true =>
    simp only [Bool.true_and]
    rw [Bool.eq_iff_iff, Bool.and_eq_true, Bool.and_eq_true, ask_iff, ask_iff, List.all_eq_true, sortedB, ask_iff]
    have hg : ∀ j, j < xs.length → (xs.map Prod.fst).getD j 0 = (xs.getD j pl0).1 := fun j hj => by simp [List.getD, hj]
    have hg2 : ∀ j, j < xs.length → (xs.map Prod.snd).getD j bk0 = (xs.getD j pl0).2 := fun j hj => by simp [List.getD, hj]
    constructor
    · intro h
      refine ⟨⟨fun j hj => ?_, fun x hx => ?_⟩, fun q hq => ?_⟩
      · rw [List.length_map] at hj
        rw [hg j (by omega), hg (j + 1) hj]
        have := ((h (j + 1) hj).2 (by omega)).1
        simpa using this
      · obtain ⟨i, hi, rfl⟩ := List.getElem_of_mem hx
        have := (h i hi).1
        rw [show xs[i] = xs.getD i pl0 by simp [List.getD, hi]]
        simp only [okPl, this.1, this.2, Bool.and_self]
      · rw [List.length_map] at hq
        rw [hg2 q (by omega), hg2 (q + 1) hq]
        have := ((h (q + 1) hq).2 (by omega)).2
        simpa using this
    · rintro ⟨⟨hr, ha⟩, hs⟩ i hi
      have hx := ha _ (getD_mem' (d := pl0) hi)
      simp only [okPl, Bool.and_eq_true] at hx
      refine ⟨hx, fun h0 => ⟨?_, ?_⟩⟩
      · have := hr (i - 1) (by rw [List.length_map]; omega)
        rw [hg _ (by omega), hg _ (by omega), show i - 1 + 1 = i by omega] at this
        exact this
      · have := hs (i - 1) (by rw [List.length_map]; omega)
        rw [hg2 _ (by omega), hg2 _ (by omega), show i - 1 + 1 = i by omega] at this
        exact this

noncomputable abbrev s_S_l05Places : Spec Int where
  args := fun n => [.val (.int .i64 n)]
  res := fun n => .val (.bool (inI n 1 60))

set_option maxRecDepth 20000 in
set_option maxHeartbeats 1000000 in
theorem ok_S_l05Places : FnOk Pr 27 s_S_l05Places := by
  refine fn_ok 1 0 T0_ok Go.Proofs.Try.func27 rfl (enters_of Go.Proofs.Try.func27 rfl rfl) (fun _ => rfl) (fun _ => rfl) (fun _ => rfl) ?_
  rintro n - C hP hN hm hG
  change awp C _ _ ⟨[(0, .val (.int .i64 n))], [], 0⟩
  refine awp_seq ?_
  refine r1 T0_ok hP hm hN ?_
  refine g1 ?_
  refine awp_seq ?_
  refine r1 T0_ok hP hm hN ?_
  refine g1 ?_
  refine gc1 ?_ (call1 ok_S_l00In (_, _, _) [])
  refine g1 ?_
  refine awp_ret ?_
  refine fin_mk [] rfl rfl ?_ trivial (by decide)
  rfl

noncomputable abbrev s_S_l05Ok : Spec (Int × List Pl) where
  args := fun x => [.rptr 2 [[.val (.int .i16 x.1), .sl 9 (pls x.2)]] 0 0]
  pre := fun x => (isI16 x.1 ∧ ∀ b ∈ x.2, isPl b) ∧ x.2.length ≤ 1048576
  res := fun x => .val (.bool (okR x.1 x.2))

set_option maxRecDepth 20000 in
set_option maxHeartbeats 4000000 in
theorem ok_S_l05Ok : FnOk Pr 15 s_S_l05Ok := by
  refine fn_ok 1 0 T0_ok Go.Proofs.Try.func15 rfl (enters_of Go.Proofs.Try.func15 rfl rfl) (fun _ => rfl) (fun _ => rfl) (fun _ => rfl) ?_
  rintro ⟨p, xs⟩ ⟨⟨hpp, hv⟩, hl⟩ C hP hN hm hG
  change awp C _ _ ⟨[(0, .rptr 2 [[.val (.int .i16 p), .sl 9 (pls xs)]] 0 0)], [], 0⟩
  simp only at hv hl
  have hpp : -32768 ≤ p ∧ p ≤ 32767 := hpp
  refine awp_seq ?_
  refine r1 T0_ok hP hm hN ?_
  refine g1 ?_
  refine awp_seq ?_
  refine awp_seq ?_
  refine r1 T0_ok hP hm hN ?_
  refine g1 ?_
  refine g1 ?_
  refine g1 ?_
  refine g1 ?_
  refine g1 ?_
  refine gc1 ?_ (call1 ok_S_l05Places _ [])
  refine g1 ?_
  refine awp_cond rfl (fun hc0 => ?_) (fun hc0 => ?_)
  · skip
    refine awp_seq ?_
    refine r1 T0_ok hP hm hN ?_
    refine g1 ?_
    refine awp_ret ?_
    refine fin_mk [] rfl rfl ?_ trivial (by decide)
    show D.val (.bool (okR p xs)) = D.val (.bool false)
    rw [okR, show inI p 1 60 = false by simpa using hc0, Bool.false_and]
  · skip
    have hin : inI p 1 60 = true := by simpa using hc0
    have hin2 := inI_iff.1 hin
    refine awp_skip ?_
    refine awp_seq ?_
    refine awp_seq ?_
    refine r1 T0_ok hP hm hN ?_
    refine g1 ?_
    refine awp_block ?_
    refine awp_loop (fun n st => ∃ i : Nat, i ≤ xs.length ∧ (∀ j, j < i → elemR p xs j) ∧ n = xs.length - i ∧ st = ⟨[(3, .val (.int .i64 (i : Nat))), (0, .rptr 2 [[.val (.int .i16 p), .sl 9 (pls xs)]] 0 0)], [], 0⟩) (xs.length) ⟨_, weak_sl (sub_cons rfl (sub_cons rfl (sub_nil))), 0, by omega, fun j h => by omega, rfl, rfl⟩ ?_
    rintro n st ⟨i, hii, hall, hni, rfl⟩
    refine awp_seq ?_
    refine awp_seq ?_
    refine r1 T0_ok hP hm hN ?_
    refine g1 ?_
    refine g1 ?_
    refine g1 ?_
    refine g1 ?_
    refine g1 ?_
    refine g1 ?_
    refine g1 ?_
    refine awp_cond rfl (fun hc1 => ?_) (fun hc1 => ?_)
    · skip
      have hlti : i < xs.length := by simpa using hc1
      have hb := hv _ (getD_mem' (d := pl0) hlti)
      have hb1 : -32768 ≤ (xs.getD i pl0).1 ∧ (xs.getD i pl0).1 ≤ 32767 := hb.1
      have hlt2 : ((i : Int) - 1).toNat < xs.length := by omega
      have hb' := hv _ (getD_mem' (d := pl0) hlt2)
      have hb2 : -32768 ≤ (xs.getD ((i : Int) - 1).toNat pl0).1 ∧ (xs.getD ((i : Int) - 1).toNat pl0).1 ≤ 32767 := hb'.1
      refine awp_skip ?_
      refine awp_seq ?_
      refine awp_block ?_
      refine awp_seq ?_
      refine r1 T0_ok hP hm hN ?_
      refine g1 ?_
      refine g1 ?_
      refine g1 ?_
      refine g1 ?_
      refine g1 ?_
      refine g1 ?_
      refine g1 ?_
      refine g1 ?_
      refine g1 ?_
      refine g1 ?_
      refine awp_seq ?_
      refine awp_seq ?_
      refine r1 T0_ok hP hm hN ?_
      refine g1 ?_
      refine g1 ?_
      refine g1 ?_
      refine g1 ?_
      refine g1 ?_
      refine g1 ?_
      refine g1 ?_
      refine gc1 ?_ (call1 ok_S_l00In (_, _, _) [])
      refine g1 ?_
      refine g1 ?_
      refine gg1 ?_
      refine gg1 ?_
      refine gg1 ?_
      refine gg1 ?_
      refine gg1 ?_
      refine gg1 ?_
      refine gg1 ?_
      refine ggc1 ?_ (hs := by intro hb; simp +decide only [hb, gd_tt, gd_ff, beq_self_eq_true, Bool.true_and, beq_true]; exact ⟨rfl, _, call1 ok_S_l01Book (_, _, _, true, (xs.getD i pl0).1, (xs.getD i pl0).2) [] (hpre := by (try dsimp only); exact ⟨pls_get _ _ (by omega), (hv _ (getD_mem' (by omega))).2⟩), rfl, rfl, rfl⟩)
      refine gg1 ?_
      refine g1 ?_
      refine awp_cond rfl (fun hc2 => ?_) (fun hc2 => ?_)
      · skip
        refine awp_seq ?_
        refine r1 T0_ok hP hm hN ?_
        refine g1 ?_
        refine awp_ret ?_
        refine fin_mk [] rfl rfl ?_ trivial (by decide)
        show D.val (.bool (okR p xs)) = D.val (.bool false)
        rw [okR, ask_false (fun h => elemR_bad hc2 (h i hlti)), Bool.and_false]
      · skip
        refine awp_skip ?_
        refine awp_seq ?_
        refine awp_draw T0_ok hP hm hN Pr_mix [0, 1, 2, 3, 4, 5, 6, 7, 8, 9, 10, 11] [31] _ rfl (by rfl) ?_
        refine d1 T0_ok ?_
        refine d1 T0_ok ?_
        refine d1 T0_ok ?_
        refine dg1 T0_ok ?_
        refine dg1 T0_ok ?_
        refine dg1 T0_ok ?_
        refine dg1 T0_ok ?_
        refine dg1 T0_ok ?_
        refine dg1 T0_ok ?_
        refine dg1 T0_ok ?_
        refine dg1 T0_ok ?_ (hs := by intro hb; simp +decide only [hb, gd_tt, gd_ff, beq_self_eq_true, Bool.true_and, beq_true]; exact ⟨_, by first | rfl | exact astep_load_r (by rfl) (by rfl) (by exact i64s_get _ _ (by omega)) (by rfl) | exact astep_load_r (by rfl) (by rfl) (by first | exact bks_get _ _ (by omega) | exact pls_get _ _ (by omega) | exact ints_get _ _ _ (by omega) | exact boolD_get _ _ (by omega) | exact i64ss_get _ _ (by omega) | assumption) (by rfl) | exact astep_store_p (by rfl) (by rfl) (by rfl) (by rfl) (by exact i64s_get _ _ (by omega)), by exact ⟨rfl, (by simp at hb; omega), (by simp only [List.length_map]; omega)⟩⟩)
        refine dg1 T0_ok ?_
        refine dg1 T0_ok ?_
        refine dg1 T0_ok ?_
        refine dg1 T0_ok ?_
        refine dg1 T0_ok ?_
        refine dgg1 T0_ok ?_
        refine dgg1 T0_ok ?_
        refine dgg1 T0_ok ?_
        refine dgg1 T0_ok ?_
        refine dgg1 T0_ok ?_
        refine dgg1 T0_ok ?_
        refine dgg1 T0_ok ?_
        refine dgg1 T0_ok ?_
        refine dgg1 T0_ok ?_
        refine dgg1 T0_ok ?_
        refine dgg1 T0_ok ?_
        refine dgg1 T0_ok ?_
        refine dgg1 T0_ok ?_
        refine dgg1 T0_ok ?_ (hs := by intro he hb; simp +decide only [he, hb, gd_tt, gd_ff, beq_self_eq_true, Bool.true_and, beq_true]; exact ⟨_, by first | rfl | exact astep_load_r (by rfl) (by rfl) (by exact i64s_get _ _ (by omega)) (by rfl) | exact astep_load_r (by rfl) (by rfl) (by first | exact bks_get _ _ (by omega) | exact pls_get _ _ (by omega) | exact ints_get _ _ _ (by omega) | exact boolD_get _ _ (by omega) | exact i64ss_get _ _ (by omega) | assumption) (by rfl) | exact astep_store_p (by rfl) (by rfl) (by rfl) (by rfl) (by exact i64s_get _ _ (by omega)), by exact ⟨rfl, (by simp at he; omega), (by simp only [List.length_map]; omega)⟩⟩)
        refine dgg1 T0_ok ?_
        refine dgp2 ?_ (hr := by intro he hb; simp +decide only [he, hb, gd_tt, gd_ff, beq_self_eq_true, Bool.true_and, beq_true]; exact ⟨_, call1 ok_S_l01Usual ((_, _, _, (xs.getD i pl0).1, (xs.getD i pl0).2), (_, _, _, (xs.getD ((i : Int) - 1).toNat pl0).1, (xs.getD ((i : Int) - 1).toNat pl0).2), true) [] (hpre := by (try dsimp only); exact ⟨⟨pls_get _ _ (by omega), (hv _ (getD_mem' (by omega))).2⟩, ⟨pls_get _ _ (by omega), (hv _ (getD_mem' (by omega))).2⟩⟩), rfl, rfl, rfl⟩)
        refine dgg1 T0_ok ?_
        refine dg1 T0_ok ?_ (hdn := by simp +decide (disch := omega) only [nrm, lk_nrm, dc_nrm, mk_nrm, mf_nrm, ti_nrm, ls_nrm, mp_nrm, nb_nrm, hset, pick_and, pick_or, ↓reduceIte, Nat.reduceAdd, wI64, wI32, wI16, wI8, wU8, List.length_map, Int.toNat_natCast, mask_nrm, pick_or2]; rfl) (hsl := by simp +decide (disch := omega) only [nrm, lk_nrm, dc_nrm, mk_nrm, mf_nrm, ti_nrm, ls_nrm, mp_nrm, nb_nrm, hset, pick_and, pick_or, ↓reduceIte, Nat.reduceAdd, wI64, wI32, wI16, wI8, wU8, List.length_map, Int.toNat_natCast, mask_nrm, pick_or2]; rfl)
        refine d1 T0_ok ?_
        refine dreg_nil ?_
        refine awp_cond rfl (fun hc3 => ?_) (fun hc3 => ?_)
        · skip
          refine awp_seq ?_
          refine r1 T0_ok hP hm hN ?_
          refine g1 ?_
          refine awp_ret ?_
          refine fin_mk [] rfl rfl ?_ trivial (by decide)
          show D.val (.bool (okR p xs)) = D.val (.bool false)
          rw [okR, ask_false (fun h => Bool.noConfusion (((elemR_eq hc2).1 (h i hlti)).symm.trans hc3)), Bool.and_false]
        · skip
          refine awp_skip ?_
          refine r1 T0_ok hP hm hN ?_
          refine g1 ?_
          refine g1 ?_
          refine g1 ?_
          refine ⟨xs.length - (i + 1), _, by omega, weak_sl (sub_cons rfl (sub_cons rfl (sub_nil))), i + 1, by omega, upto_step hall ((elemR_eq hc2).2 hc3), rfl, rfl⟩
    · skip
      have hgei : ¬ i < xs.length := by simpa using hc1
      have heqi : i = xs.length := by omega
      refine awp_exit ?_
      repeat refine thenA_exit ?_
      refine blockA_hit ?_
      refine awp_seq ?_
      refine r1 T0_ok hP hm hN ?_
      refine g1 ?_
      refine awp_ret ?_
      refine fin_mk [] rfl rfl ?_ trivial (by decide)
      show D.val (.bool (okR p xs)) = D.val (.bool true)
      rw [okR, hin, ask_true (fun j hj => hall j (by omega))]
      rfl


end Go.Proofs.Ytamdnmkdhpleiaa.Abs
