import Derived.Test.YtkfbpfkomppefaaU3
set_option linter.unusedVariables false
set_option linter.unusedSimpArgs false
namespace Go.Proofs.Ytkfbpfkomppefaa.Abs
open Go Go.RowKit
def SubHP (hp : HP) : HP → Prop
  | [] => True
  | (k, o) :: l => lk k hp = some o ∧ SubHP hp l
theorem subhp_nil {hp : HP} : SubHP hp [] := trivial
theorem subhp_cons {hp l : HP} {k : Nat} {o : Ob} (h : lk k hp = some o) (hl : SubHP hp l) : SubHP hp ((k, o) :: l) := ⟨h, hl⟩
theorem subHP_lk {hp : HP} : ∀ {l : HP}, SubHP hp l → ∀ k o, lk k l = some o → lk k hp = some o
  | (k0, o0) :: l, h, k, o, hl => by
    rw [lk_cons] at hl
    split at hl
    · rename_i e; subst e; cases hl; exact h.1
    · exact subHP_lk h.2 k o hl
  | [], _, k, o, hl => by simp [lk] at hl
theorem weak_perm {C : Ctx} {sl : List (Nat × D)} {hp hp' : HP} {nx : Nat} (h1 : SubHP hp hp') (h2 : SubHP hp' hp) : Weak C ⟨sl, hp, nx⟩ ⟨sl, hp', nx⟩ := fun a w ⟨hv, hH, hk, hm, hpn, hS⟩ => by
  have e : ∀ k, lk k hp' = lk k hp := fun k => by
    cases h : lk k hp with
    | some o => exact subHP_lk h2 k o h
    | none =>
      cases h' : lk k hp' with
      | none => rfl
      | some o => rw [subHP_lk h1 k o h'] at h; cases h
  have eL : LOf hv hp' = LOf hv hp := by funext k; simp only [LOf, e]
  have eF : FOf C.G hv hp' w = FOf C.G hv hp w := by funext b; simp only [FOf, e]
  refine ⟨hv, ⟨fun k ob hl => ?_, fun k k' ob ob' hl hl' hne => ?_, fun k ob c hl hc => ?_, hH.keeps⟩, fun k ob hl => ?_, hm, fun k ob hl hlt => ?_, ?_⟩
  · simp only at hl ⊢
    rw [eL, eF]
    exact hH.obs k ob (by rw [← e]; exact hl)
  · exact hH.inj k k' ob ob' (by rw [← e]; exact hl) (by rw [← e]; exact hl') hne
  · exact hH.base k ob c (by rw [← e]; exact hl) hc
  · exact hk k ob (by rw [← e]; exact hl)
  · exact hpn k ob (by rw [← e]; exact hl) hlt
  · simp only at hS ⊢
    rw [eL, eF]
    exact hS

noncomputable abbrev s_S_MovesFor : Spec (List Bk) where
  args := fun xs => [.sl 8 (bks xs)]
  pre := fun xs => (∀ b ∈ xs, isBk b) ∧ xs.length ≤ 1048576
  new := fun xs => [⟨39, 2, false, mvs ((mvforR xs).1)⟩]
  res := fun xs => .tup [.own 0, .val (.int .i64 (mvforR xs).2)]

set_option maxRecDepth 20000 in
set_option maxHeartbeats 8000000 in
theorem ok_S_MovesFor : FnOk Pr 27 s_S_MovesFor := by
  refine fn_ok 1 0 T0_ok Go.Proofs.Try.func27 rfl (enters_of Go.Proofs.Try.func27 rfl rfl) (fun _ => rfl) (fun _ => rfl) (fun _ => rfl) ?_
  rintro xs ⟨hv, hl⟩ C hP hN hm hG
  change awp C _ _ ⟨[(0, .sl 8 (bks xs))], [], 0⟩
  refine awp_seq ?_
  refine r1 T0_ok hP hm hN ?_
  refine g1 ?_
  refine g1 ?_
  refine awp_seq ?_
  refine awp_seq ?_
  refine r1 T0_ok hP hm hN ?_
  refine g1 ?_
  refine gc1 ?_ (call1 ok_S_l01Ok _ [] (hpre := by (try dsimp only); exact ⟨hv, by omega⟩))
  refine g1 ?_
  refine awp_cond rfl (fun hc0 => ?_) (fun hc0 => ?_)
  · skip
    have hr : mvforR xs = ([], 1) := by rw [mvforR, if_pos hc0]
    refine awp_seq ?_
    refine r1 T0_ok hP hm hN ?_
    refine g1 ?_
    refine g1 ?_
    refine g1 ?_
    refine awp_ret ?_
    refine fin_mk [0] rfl rfl ?_ (by first | (simp only [hr]; exact objs_cons rfl rfl rfl rfl rfl (.inl rfl) objs_nil) | (simp only [hr, hfin]; exact objs_cons rfl rfl rfl rfl rfl (.inl rfl) objs_nil)) (by decide)
    show D.tup [_, .val (.int .i64 (mvforR xs).2)] = _
    rw [hr]
    rfl
  · skip
    have h60 := valid60 hc0
    have hkl := keptL_len xs
    refine awp_skip ?_
    refine awp_seq ?_
    refine r1 T0_ok hP hm hN ?_
    refine g1 ?_
    refine gc1 ?_ (call1 ok_S_l03Kept _ [] (hpre := by (try dsimp only); exact ⟨hv, hl⟩))
    refine g1 ?_
    refine awp_seq ?_
    refine r1 T0_ok hP hm hN ?_
    refine g1 ?_ (hst := by simp +decide (disch := omega) only [nrm, lk_nrm, dc_nrm, mk_nrm, mf_nrm, ti_nrm, ls_nrm, mp_nrm, nb_nrm, hset, pick_and, pick_or, ↓reduceIte, Nat.reduceAdd, wI64, wI32, wI16, wI8, wU8, List.length_map, Int.toNat_natCast, List.all_nil, Bool.not_true]; rfl)
    refine g1 ?_
    refine awp_seq ?_
    refine awp_seq ?_
    refine r1 T0_ok hP hm hN ?_
    refine g1 ?_
    refine awp_block ?_
    refine awp_loop (fun n st => ∃ i : Nat, i ≤ xs.length ∧ n = xs.length - i ∧ st = ⟨[(6, .val (.int .i64 ((i : Nat) : Int))), (5, .own 1), (4, .own 0), (0, .sl 8 (bks xs))], [(1, ⟨2, 1, false, i64s (iotaL i)⟩), (0, ⟨2, 1, false, i64s (keptL xs)⟩)], 2⟩) (xs.length) ⟨_, weak_sl (sub_cons rfl (sub_cons rfl (sub_cons rfl (sub_cons rfl (sub_nil))))), 0, by omega, rfl, rfl⟩ ?_
    rintro n st ⟨i, hii, hni, rfl⟩
    have hil := iotaL_len i
    refine awp_seq ?_
    refine awp_seq ?_
    refine r1 T0_ok hP hm hN ?_
    refine g1 ?_
    refine g1 ?_
    refine g1 ?_
    refine g1 ?_
    refine awp_cond rfl (fun hc1 => ?_) (fun hc1 => ?_)
    · skip
      have hlti : i < xs.length := by simpa using hc1
      refine awp_skip ?_
      refine awp_seq ?_
      refine awp_block ?_
      refine r1 T0_ok hP hm hN ?_
      refine g1 ?_
      refine g1 ?_
      refine g1 ?_
      refine ga1 ?_
      refine g1 ?_
      refine r1 T0_ok hP hm hN ?_
      refine g1 ?_
      refine g1 ?_
      refine g1 ?_
      refine ⟨xs.length - (i + 1), _, by omega, (by rw [iotaL_suc, i64s_app3]; exact Weak.trans (weak_drop 2) (Weak.trans (weak_nx (nx' := 2) (by omega) (by rfl)) (weak_sl (sub_cons rfl (sub_cons rfl (sub_cons rfl (sub_cons rfl (sub_nil)))))))), i + 1, by omega, rfl, rfl⟩
    · skip
      have hgei : ¬ i < xs.length := by simpa using hc1
      have heqi : i = xs.length := by omega
      rw [heqi]
      refine awp_exit ?_
      repeat refine thenA_exit ?_
      refine blockA_hit ?_
      refine awp_seq ?_
      refine r1 T0_ok hP hm hN ?_
      refine g1 ?_ (hst := by simp +decide (disch := omega) only [nrm, lk_nrm, dc_nrm, mk_nrm, mf_nrm, ti_nrm, ls_nrm, mp_nrm, nb_nrm, hset, pick_and, pick_or, ↓reduceIte, Nat.reduceAdd, wI64, wI32, wI16, wI8, wU8, List.length_map, Int.toNat_natCast, List.all_nil, Bool.not_true]; rfl)
      refine g1 ?_
      refine awp_seq ?_
      refine awp_seq ?_
      refine r1 T0_ok hP hm hN ?_
      refine g1 ?_
      refine awp_block ?_
      refine awp_loop (fun n st => ∃ (i : Nat) (s : List Int × List Int × List Mv), i ≤ xs.length ∧ s = mvSt xs i ∧ n = xs.length - i ∧ st = ⟨[(8, .val (.int .i64 ((i : Nat) : Int))), (7, .own 2), (5, .own 1), (4, .own 0), (0, .sl 8 (bks xs))], [(2, ⟨39, 2, false, mvs (s.2.2)⟩), (1, ⟨2, 1, false, i64s (s.1)⟩), (0, ⟨2, 1, false, i64s (s.2.1)⟩)], 3⟩) xs.length ⟨_, weak_sl (sub_cons rfl (sub_cons rfl (sub_cons rfl (sub_cons rfl (sub_cons rfl (sub_nil)))))), 0, (iotaL xs.length, keptL xs, []), by omega, rfl, rfl, rfl⟩ ?_
      rintro n st ⟨i, s, hi, hs, hn, rfl⟩
      have hok := mvS_ok (okU xs) (keptL_len xs) i hi
      rw [show mvS (okU xs) xs.length (keptL xs) i = s from hs.symm] at hok
      have hsl := hok.len
      have hol := hok.ol
      have hml := hok.ml
      refine awp_seq ?_
      refine awp_seq ?_
      refine r1 T0_ok hP hm hN ?_
      refine g1 ?_
      refine g1 ?_
      refine g1 ?_
      refine g1 ?_
      refine awp_cond rfl (fun hc2 => ?_) (fun hc2 => ?_)
      · skip
        have hlti : i < xs.length := by simpa using hc2
        have hgx := bks_get xs i hlti
        refine awp_skip ?_
        refine awp_seq ?_
        refine awp_block ?_
        refine awp_seq ?_
        refine awp_seq ?_
        refine r1 T0_ok hP hm hN ?_
        refine g1 ?_
        refine g1 ?_
        refine gc1 ?_ (call1 ok_S_l00Has (_, _) [] (hpre := by (try dsimp only); (try simp only [List.length_map]); omega))
        refine awp_cond rfl (fun hc3 => ?_) (fun hc3 => ?_)
        · skip
          have hyes : hasB s.2.1 (i : Int) = true := hc3
          refine awp_exit ?_
          repeat refine thenA_exit ?_
          refine blockA_hit ?_
          refine r1 T0_ok hP hm hN ?_
          refine g1 ?_
          refine g1 ?_
          refine g1 ?_
          first
            | exact ⟨_, _, by omega, weak_sl (sub_cons rfl (sub_cons rfl (sub_cons rfl (sub_cons rfl (sub_cons rfl (sub_nil)))))), i + 1, s, by omega, mvS_same hs hyes, rfl, rfl⟩
            | exact ⟨_, _, by omega, (by dsimp only; rw [mvs_app, i64s_app3 s.2.1, i64s_app3 ((restL s.1 (i : Int)).take (toF (okU xs s.2.1 i) (restL s.1 (i : Int)) (restL s.1 (i : Int)).length) ++ [(i : Int)]), i64s_app3 ((restL s.1 (i : Int)).take (toF (okU xs s.2.1 i) (restL s.1 (i : Int)) (restL s.1 (i : Int)).length))]; exact Weak.trans (weak_drop 1) (Weak.trans (weak_swap 1 6 (by omega) (by omega) (by decide) (by decide)) (Weak.trans (weak_drop 3) (Weak.trans (weak_drop 4) (Weak.trans (weak_drop 5) (Weak.trans (weak_drop 7) (Weak.trans (weak_drop 6) (Weak.trans (weak_nx (nx' := 3) (by omega) (by rfl)) (Weak.trans (weak_perm (subhp_cons rfl (subhp_cons rfl (subhp_cons rfl subhp_nil))) (subhp_cons rfl (subhp_cons rfl (subhp_cons rfl subhp_nil)))) (weak_sl (sub_cons rfl (sub_cons rfl (sub_cons rfl (sub_cons rfl (sub_cons rfl (sub_nil)))))))))))))))), i + 1, _, by omega, mvS_next hs hno, rfl, rfl⟩
        · skip
          have hno : hasB s.2.1 (i : Int) = false := hc3
          have hmi := hok.mem hlti
          have hpl := posI_lt hmi
          have hpg := posI_get hmi
          have hrl := rest_len hmi
          have hrr := fun y hy => hok.rest_rng hmi (y := y) hy
          have htl := toF_le (okU xs s.2.1 i) (restL s.1 (i : Int)) (restL s.1 (i : Int)).length
          refine awp_skip ?_
          refine awp_seq ?_
          refine r1 T0_ok hP hm hN ?_
          refine g1 ?_ (hst := by simp +decide (disch := omega) only [nrm, lk_nrm, dc_nrm, mk_nrm, mf_nrm, ti_nrm, ls_nrm, mp_nrm, nb_nrm, hset, pick_and, pick_or, ↓reduceIte, Nat.reduceAdd, wI64, wI32, wI16, wI8, wU8, List.length_map, Int.toNat_natCast, List.all_nil, Bool.not_true]; rfl)
          refine g1 ?_
          refine awp_seq ?_
          refine r1 T0_ok hP hm hN ?_
          refine g1 ?_
          refine awp_seq ?_
          refine r1 T0_ok hP hm hN ?_
          refine g1 ?_
          refine awp_seq ?_
          refine awp_seq ?_
          refine r1 T0_ok hP hm hN ?_
          refine g1 ?_
          refine awp_block ?_
          refine awp_loop (fun n st => ∃ k : Nat, k ≤ s.1.length ∧ n = s.1.length - k ∧ st = ⟨[(12, .val (.int .i64 ((k : Nat) : Int))), (11, .val (.int .i64 (((toF (okU xs s.2.1 i) (restF s.1 (i : Int) k) (restF s.1 (i : Int) k).length) : Nat) : Int))), (10, .val (.int .i64 (frF (posI s.1 (i : Int)) k))), (9, .own 3), (8, .val (.int .i64 ((i : Nat) : Int))), (7, .own 2), (5, .own 1), (4, .own 0), (0, .sl 8 (bks xs))], [(3, ⟨2, 1, false, i64s ((restF s.1 (i : Int) k))⟩), (2, ⟨39, 2, false, mvs (s.2.2)⟩), (1, ⟨2, 1, false, i64s (s.1)⟩), (0, ⟨2, 1, false, i64s (s.2.1)⟩)], 4⟩) (s.1.length) ⟨_, weak_sl (sub_cons rfl (sub_cons rfl (sub_cons rfl (sub_cons rfl (sub_cons rfl (sub_cons rfl (sub_cons rfl (sub_cons rfl (sub_cons rfl (sub_nil)))))))))), 0, by omega, rfl, rfl⟩ ?_
          rintro n st ⟨k, hik, hnk, rfl⟩
          have hrf := restF_len s.1 (i : Int) k
          have htk0 := toF_le (okU xs s.2.1 i) (restF s.1 (i : Int) k) (restF s.1 (i : Int) k).length
          refine awp_seq ?_
          refine awp_seq ?_
          refine r1 T0_ok hP hm hN ?_
          refine g1 ?_
          refine g1 ?_
          refine g1 ?_
          refine g1 ?_
          refine awp_cond rfl (fun hc4 => ?_) (fun hc4 => ?_)
          · skip
            have hltk : k < s.1.length := by simpa using hc4
            have hyr := hok.rng (getD_mem3 hltk)
            refine awp_skip ?_
            refine awp_seq ?_
            refine awp_block ?_
            refine awp_seq ?_
            refine awp_seq ?_
            refine r1 T0_ok hP hm hN ?_
            refine g1 ?_
            refine g1 ?_
            refine g1 ?_
            refine g1 ?_
            refine g1 ?_
            refine g1 ?_
            refine awp_cond rfl (fun hc5 => ?_) (fun hc5 => ?_)
            · skip
              have hky : s.1.getD k 0 = (i : Int) := by simpa using hc5
              have hkp : k = posI s.1 (i : Int) := nd_inj hok.nd hltk hpl (by rw [hky, hpg])
              refine awp_seq ?_
              refine r1 T0_ok hP hm hN ?_
              refine g1 ?_
              refine g1 ?_
              refine awp_exit ?_
              repeat refine thenA_exit ?_
              refine blockA_hit ?_
              refine r1 T0_ok hP hm hN ?_
              refine g1 ?_
              refine g1 ?_
              refine g1 ?_
              first
                | exact ⟨s.1.length - (k + 1), _, by omega, (by rw [restF_same hltk hky, ← hkp, frF_hit]; exact weak_sl (sub_cons rfl (sub_cons rfl (sub_cons rfl (sub_cons rfl (sub_cons rfl (sub_cons rfl (sub_cons rfl (sub_cons rfl (sub_cons rfl (sub_nil))))))))))), k + 1, by omega, rfl, rfl⟩
                | exact ⟨s.1.length - (k + 1), _, by omega, (by rw [restF_next hltk hky, toF_snoc, if_pos hok4, frF_same hkp, i64s_app3]; exact Weak.trans (weak_drop 4) (Weak.trans (weak_nx (nx' := 4) (by omega) (by rfl)) (weak_sl (sub_cons rfl (sub_cons rfl (sub_cons rfl (sub_cons rfl (sub_cons rfl (sub_cons rfl (sub_cons rfl (sub_cons rfl (sub_cons rfl (sub_nil))))))))))))), k + 1, by omega, rfl, rfl⟩
                | exact ⟨s.1.length - (k + 1), _, by omega, (by rw [restF_next hltk hky, toF_snoc, if_neg (by rw [hok4]; simp), frF_same hkp, i64s_app3]; exact Weak.trans (weak_drop 4) (Weak.trans (weak_nx (nx' := 4) (by omega) (by rfl)) (weak_sl (sub_cons rfl (sub_cons rfl (sub_cons rfl (sub_cons rfl (sub_cons rfl (sub_cons rfl (sub_cons rfl (sub_cons rfl (sub_cons rfl (sub_nil))))))))))))), k + 1, by omega, rfl, rfl⟩
            · skip
              have hky : s.1.getD k 0 ≠ (i : Int) := by simpa using hc5
              have hkp : k ≠ posI s.1 (i : Int) := fun e => hky (by rw [e, hpg])
              have hgy := bks_get xs (s.1.getD k 0).toNat (by omega)
              have hby := hv _ (getD_mem' (d := bk0) (show (s.1.getD k 0).toNat < xs.length by omega))
              have hbi := hv _ (getD_mem' (d := bk0) hlti)
              refine awp_skip ?_
              refine awp_seq ?_
              refine r1 T0_ok hP hm hN ?_
              refine g1 ?_
              refine g1 ?_
              refine g1 ?_
              refine g1 ?_
              refine g1 ?_
              refine g1 ?_
              refine ga1 ?_
              refine g1 ?_
              refine awp_seq ?_
              refine awp_draw T0_ok hP hm hN Pr_mix [0, 1, 2, 3, 4, 5, 6, 7, 8, 9, 10, 11] [5, 16] _ rfl (by rfl) ?_
              refine d1 T0_ok ?_
              refine d1 T0_ok ?_
              refine d1 T0_ok ?_
              refine d1 T0_ok ?_
              refine d1 T0_ok ?_
              refine dp1 ?_ (call1 ok_S_l00Has (_, _) [] (hpre := by (try dsimp only); (try simp only [List.length_map]); omega))
              refine d1 T0_ok ?_
              refine dg1 T0_ok ?_
              refine dg1 T0_ok ?_
              refine dg1 T0_ok ?_
              refine dg1 T0_ok ?_
              refine dg1 T0_ok ?_
              refine dg1 T0_ok ?_
              refine dg1 T0_ok ?_
              refine dg1 T0_ok ?_
              refine dg1 T0_ok ?_
              refine dgp1 ?_ (hr := by intro hb; simp +decide only [hb, gd_tt, gd_ff, beq_self_eq_true, Bool.true_and, beq_true]; exact ⟨_, call1 ok_S_l01Usual ((_, _, _, 0, xs.getD (s.1.getD k 0).toNat bk0), (_, _, _, 0, xs.getD i bk0), false) [] (hpre := by (try dsimp only); exact ⟨⟨hgy, hby⟩, ⟨hgx, hbi⟩⟩), rfl, rfl, rfl⟩)
              refine dg1 T0_ok ?_
              refine d1 T0_ok ?_
              refine dreg_nil ?_
              refine awp_cond rfl (fun hc6 => ?_) (fun hc6 => ?_)
              · skip
                have hok4 : okU xs s.2.1 i (s.1.getD k 0) = true := hc6
                refine r1 T0_ok hP hm hN ?_
                refine g1 ?_
                refine g1 ?_ (hst := by simp +decide (disch := omega) only [nrm, lk_nrm, dc_nrm, mk_nrm, mf_nrm, ti_nrm, ls_nrm, mp_nrm, nb_nrm, hset, pick_and, pick_or, ↓reduceIte, Nat.reduceAdd, wI64, wI32, wI16, wI8, wU8, List.length_map, Int.toNat_natCast, List.length_append, List.length_map, List.length_cons, List.length_nil, Nat.zero_add]; rfl)
                refine g1 ?_
                refine r1 T0_ok hP hm hN ?_
                refine g1 ?_
                refine g1 ?_
                refine g1 ?_
                first
                  | exact ⟨s.1.length - (k + 1), _, by omega, (by rw [restF_same hltk hky, ← hkp, frF_hit]; exact weak_sl (sub_cons rfl (sub_cons rfl (sub_cons rfl (sub_cons rfl (sub_cons rfl (sub_cons rfl (sub_cons rfl (sub_cons rfl (sub_cons rfl (sub_nil))))))))))), k + 1, by omega, rfl, rfl⟩
                  | exact ⟨s.1.length - (k + 1), _, by omega, (by rw [restF_next hltk hky, toF_snoc, if_pos hok4, frF_same hkp, i64s_app3]; exact Weak.trans (weak_drop 4) (Weak.trans (weak_nx (nx' := 4) (by omega) (by rfl)) (weak_sl (sub_cons rfl (sub_cons rfl (sub_cons rfl (sub_cons rfl (sub_cons rfl (sub_cons rfl (sub_cons rfl (sub_cons rfl (sub_cons rfl (sub_nil))))))))))))), k + 1, by omega, rfl, rfl⟩
                  | exact ⟨s.1.length - (k + 1), _, by omega, (by rw [restF_next hltk hky, toF_snoc, if_neg (by rw [hok4]; simp), frF_same hkp, i64s_app3]; exact Weak.trans (weak_drop 4) (Weak.trans (weak_nx (nx' := 4) (by omega) (by rfl)) (weak_sl (sub_cons rfl (sub_cons rfl (sub_cons rfl (sub_cons rfl (sub_cons rfl (sub_cons rfl (sub_cons rfl (sub_cons rfl (sub_cons rfl (sub_nil))))))))))))), k + 1, by omega, rfl, rfl⟩
              · skip
                have hok4 : okU xs s.2.1 i (s.1.getD k 0) = false := hc6
                refine awp_skip ?_
                refine r1 T0_ok hP hm hN ?_
                refine g1 ?_
                refine g1 ?_
                refine g1 ?_
                first
                  | exact ⟨s.1.length - (k + 1), _, by omega, (by rw [restF_same hltk hky, ← hkp, frF_hit]; exact weak_sl (sub_cons rfl (sub_cons rfl (sub_cons rfl (sub_cons rfl (sub_cons rfl (sub_cons rfl (sub_cons rfl (sub_cons rfl (sub_cons rfl (sub_nil))))))))))), k + 1, by omega, rfl, rfl⟩
                  | exact ⟨s.1.length - (k + 1), _, by omega, (by rw [restF_next hltk hky, toF_snoc, if_pos hok4, frF_same hkp, i64s_app3]; exact Weak.trans (weak_drop 4) (Weak.trans (weak_nx (nx' := 4) (by omega) (by rfl)) (weak_sl (sub_cons rfl (sub_cons rfl (sub_cons rfl (sub_cons rfl (sub_cons rfl (sub_cons rfl (sub_cons rfl (sub_cons rfl (sub_cons rfl (sub_nil))))))))))))), k + 1, by omega, rfl, rfl⟩
                  | exact ⟨s.1.length - (k + 1), _, by omega, (by rw [restF_next hltk hky, toF_snoc, if_neg (by rw [hok4]; simp), frF_same hkp, i64s_app3]; exact Weak.trans (weak_drop 4) (Weak.trans (weak_nx (nx' := 4) (by omega) (by rfl)) (weak_sl (sub_cons rfl (sub_cons rfl (sub_cons rfl (sub_cons rfl (sub_cons rfl (sub_cons rfl (sub_cons rfl (sub_cons rfl (sub_cons rfl (sub_nil))))))))))))), k + 1, by omega, rfl, rfl⟩
          · skip
            have hgek : ¬ k < s.1.length := by simpa using hc4
            obtain rfl : k = s.1.length := by omega
            have hral : restF s.1 (i : Int) s.1.length = restL s.1 (i : Int) := restF_all hok.nd hmi
            have hfr : frF (posI s.1 (i : Int)) s.1.length = ((posI s.1 (i : Int) : Nat) : Int) := if_pos hpl
            rw [hral, hfr]
            have hd3 : (((restL s.1 (i : Int)).drop (toF (okU xs s.2.1 i) (restL s.1 (i : Int)) (restL s.1 (i : Int)).length)).map fun n : Int => [D.val (.int .i64 n)]).take ((restL s.1 (i : Int)).length - (toF (okU xs s.2.1 i) (restL s.1 (i : Int)) (restL s.1 (i : Int)).length)) = ((restL s.1 (i : Int)).drop (toF (okU xs s.2.1 i) (restL s.1 (i : Int)) (restL s.1 (i : Int)).length)).map fun n : Int => [D.val (.int .i64 n)] := List.take_of_length_le (by simp only [List.length_map, List.length_drop]; omega)
            refine awp_exit ?_
            repeat refine thenA_exit ?_
            refine blockA_hit ?_
            refine awp_seq ?_
            refine r1 T0_ok hP hm hN ?_
            refine g1 ?_
            refine g1 ?_
            refine g1 ?_
            refine g1 ?_
            refine g1 ?_
            refine g1 ?_
            refine g1 ?_
            refine ga1 ?_
            refine g1 ?_
            refine awp_seq ?_
            refine r1 T0_ok hP hm hN ?_
            refine g1 ?_
            refine g1 ?_
            refine g1 ?_
            refine ga1 ?_
            refine g1 ?_
            refine awp_seq ?_
            refine r1 T0_ok hP hm hN ?_
            refine g1 ?_ (hst := by simp +decide (disch := omega) only [nrm, lk_nrm, dc_nrm, mk_nrm, mf_nrm, ti_nrm, ls_nrm, mp_nrm, nb_nrm, hset, pick_and, pick_or, ↓reduceIte, Nat.reduceAdd, wI64, wI32, wI16, wI8, wU8, List.length_map, Int.toNat_natCast, List.all_nil, Bool.not_true]; rfl)
            refine g1 ?_
            refine g1 ?_
            refine g1 ?_ (hpre := by exact ⟨rfl, by omega, by (try simp only [List.length_map, List.length_append, List.length_take, List.length_drop]); omega, by (try simp only [List.length_map, List.length_append, List.length_take, List.length_drop]); omega⟩) (hst := by simp +decide (disch := omega) only [nrm, lk_nrm, dc_nrm, mk_nrm, mf_nrm, ti_nrm, ls_nrm, mp_nrm, nb_nrm, hset, pick_and, pick_or, ↓reduceIte, Nat.reduceAdd, wI64, wI32, wI16, wI8, wU8, List.length_map, Int.toNat_natCast, Int.toNat_natCast, Int.toNat_zero, List.drop_zero, Nat.sub_zero]; rfl)
            refine ga1 ?_ (hpre := by refine ⟨?_, ?_, ?_, ?_, ?_, ?_, ?_⟩ <;> first | trivial | rfl | exact Nat.le_of_ble_eq_true rfl | (intro h; cases h; done) | (simp only [List.length_map, List.length_append, List.length_cons, List.length_nil, List.length_take, List.length_drop]; omega)) (hst := by simp +decide (disch := omega) only [nrm, lk_nrm, dc_nrm, mk_nrm, mf_nrm, ti_nrm, ls_nrm, mp_nrm, nb_nrm, hset, pick_and, pick_or, ↓reduceIte, Nat.reduceAdd, wI64, wI32, wI16, wI8, wU8, List.length_map, Int.toNat_natCast, kl_nrm, List.nil_append, ← List.map_take]; rfl)
            refine g1 ?_
            refine g1 ?_
            refine ga1 ?_ (hpre := by refine ⟨?_, ?_, ?_, ?_, ?_, ?_, ?_⟩ <;> first | trivial | rfl | exact Nat.le_of_ble_eq_true rfl | (intro h; cases h; done) | (simp only [List.length_map, List.length_append, List.length_cons, List.length_nil, List.length_take, List.length_drop]; omega)) (hst := by simp +decide (disch := omega) only [nrm, lk_nrm, dc_nrm, mk_nrm, mf_nrm, ti_nrm, ls_nrm, mp_nrm, nb_nrm, hset, pick_and, pick_or, ↓reduceIte, Nat.reduceAdd, wI64, wI32, wI16, wI8, wU8, List.length_map, Int.toNat_natCast, kl_nrm, List.nil_append]; rfl)
            refine g1 ?_
            refine r1 T0_ok hP hm hN ?_
            refine g1 ?_
            refine g1 ?_
            refine g1 ?_
            refine g1 ?_ (hpre := by exact ⟨rfl, by omega, by (try simp only [List.length_map, List.length_append, List.length_take, List.length_drop]); omega, by (try simp only [List.length_map, List.length_append, List.length_take, List.length_drop]); omega⟩) (hst := by simp +decide (disch := omega) only [nrm, lk_nrm, dc_nrm, mk_nrm, mf_nrm, ti_nrm, ls_nrm, mp_nrm, nb_nrm, hset, pick_and, pick_or, ↓reduceIte, Nat.reduceAdd, wI64, wI32, wI16, wI8, wU8, List.length_map, Int.toNat_natCast, Int.toNat_natCast, Int.toNat_zero, List.drop_zero, Nat.sub_zero]; rfl)
            refine ga1 ?_ (hpre := by refine ⟨?_, ?_, ?_, ?_, ?_, ?_, ?_⟩ <;> first | trivial | rfl | exact Nat.le_of_ble_eq_true rfl | (intro h; cases h; done) | (simp only [List.length_map, List.length_append, List.length_cons, List.length_nil, List.length_take, List.length_drop]; omega)) (hst := by simp +decide (disch := omega) only [nrm, lk_nrm, dc_nrm, mk_nrm, mf_nrm, ti_nrm, ls_nrm, mp_nrm, nb_nrm, hset, pick_and, pick_or, ↓reduceIte, Nat.reduceAdd, wI64, wI32, wI16, wI8, wU8, List.length_map, Int.toNat_natCast, kl_nrm, List.nil_append, ← List.map_drop, hd3]; rfl)
            refine g1 ?_
            refine r1 T0_ok hP hm hN ?_
            refine g1 ?_
            refine g1 ?_
            refine g1 ?_
            first
              | exact ⟨_, _, by omega, weak_sl (sub_cons rfl (sub_cons rfl (sub_cons rfl (sub_cons rfl (sub_cons rfl (sub_nil)))))), i + 1, s, by omega, mvS_same hs hyes, rfl, rfl⟩
              | exact ⟨_, _, by omega, (by dsimp only; rw [mvs_app, i64s_app3 s.2.1, i64s_app3 ((restL s.1 (i : Int)).take (toF (okU xs s.2.1 i) (restL s.1 (i : Int)) (restL s.1 (i : Int)).length) ++ [(i : Int)]), i64s_app3 ((restL s.1 (i : Int)).take (toF (okU xs s.2.1 i) (restL s.1 (i : Int)) (restL s.1 (i : Int)).length))]; exact Weak.trans (weak_drop 1) (Weak.trans (weak_swap 1 6 (by omega) (by omega) (by decide) (by decide)) (Weak.trans (weak_drop 3) (Weak.trans (weak_drop 4) (Weak.trans (weak_drop 5) (Weak.trans (weak_drop 7) (Weak.trans (weak_drop 6) (Weak.trans (weak_nx (nx' := 3) (by omega) (by rfl)) (Weak.trans (weak_perm (subhp_cons rfl (subhp_cons rfl (subhp_cons rfl subhp_nil))) (subhp_cons rfl (subhp_cons rfl (subhp_cons rfl subhp_nil)))) (weak_sl (sub_cons rfl (sub_cons rfl (sub_cons rfl (sub_cons rfl (sub_cons rfl (sub_nil)))))))))))))))), i + 1, _, by omega, mvS_next hs hno, rfl, rfl⟩
      · skip
        have hgei : ¬ i < xs.length := by simpa using hc2
        obtain rfl : i = xs.length := by omega
        have hfin : mvforL xs = s.2.2 := by rw [mvforL, ← hs]
        have hr : mvforR xs = (mvforL xs, 0) := by rw [mvforR, if_neg (by rw [hc0]; simp)]
        refine awp_exit ?_
        repeat refine thenA_exit ?_
        refine blockA_hit ?_
        refine awp_seq ?_
        refine r1 T0_ok hP hm hN ?_
        refine g1 ?_
        refine g1 ?_
        refine g1 ?_
        refine awp_ret ?_
        refine fin_mk [2] rfl rfl ?_ (by first | (simp only [hr]; exact objs_cons rfl rfl rfl rfl rfl (.inl rfl) objs_nil) | (simp only [hr, hfin]; exact objs_cons rfl rfl rfl rfl rfl (.inl rfl) objs_nil)) (by decide)
        show D.tup [_, .val (.int .i64 (mvforR xs).2)] = _
        rw [hr]
        rfl
end Go.Proofs.Ytkfbpfkomppefaa.Abs
