import Derived.Test.YtoincpeodnmfmaaDoorH2
set_option linter.unusedVariables false
set_option linter.unusedSimpArgs false
namespace Go.Proofs.YtoincpeodnmfmaaDoor.Abs
open Go Go.RowKit
/-- A whole row is a part of itself. -/
theorem weak_own_vw {C : Ctx} {t h : Nat} {sl : List (Nat × D)} {hp : HP} {nx : Nat} {ob : Ob} (ht : lk t sl = some (.own h)) (hl : lk h hp = some ob) : Weak C ⟨sl, hp, nx⟩ ⟨(t, .vw h 0 ob.xs.length) :: sl, hp, nx⟩ := fun a w ⟨hv, hH, hk, hm, hpn, hS⟩ => by
  refine ⟨hv, hH, hk, hm, hpn, hS.defers, hS.size, fun t' d hd => ?_⟩
  rw [lk_cons] at hd
  split at hd
  · rename_i e
    subst e
    cases hd
    have h1 := hS.at_ _ _ ht
    obtain ⟨s, hL⟩ := h1
    have hL' := hL
    rw [LOf_eq hl] at hL'
    simp only [Option.some.injEq, Prod.mk.injEq] at hL'
    obtain ⟨hvk, rfl⟩ := hL'
    obtain ⟨vs, hown, _, _⟩ := hH.obs h ob hl
    rcases hown.2 with ⟨hx, h0⟩ | ⟨g, cap, cur, hvs, _, _, hc1, hc2, _⟩
    · exact ⟨none, 0, 0, 0, ob.sz, none, by rw [← hvk, hx, h0], by show LOf hv hp h = _; rw [LOf_eq hl, hx], by omega, ⟨by omega, Nat.zero_le _, by omega⟩, fun _ => rfl, fun h => absurd h (by omega)⟩
    · exact ⟨some ⟨g, 0, none⟩, cap, ob.xs.length, cap, ob.sz, some ⟨g, 0, none⟩, by rw [← hvk, hvs], by show LOf hv hp h = _; rw [LOf_eq hl, hvs], by omega, ⟨hc1, hc2, by omega⟩, (fun h => by cases h), fun _ => ⟨g, rfl, by simp⟩⟩
  · exact hS.at_ t' d hd

theorem num_cond (w : Bs) : (!(numR w).2 || decide ((numR w).1 > 1000)) = !good w := by
  unfold numR good
  by_cases h : numOk w = true
  · rw [if_pos h, h]
    simp only [Bool.not_true, Bool.false_or, Bool.true_and]
    rw [← decide_not]
    exact decide_eq_decide.2 (by omega)
  · rw [if_neg h, show numOk w = false by simpa using h]; rfl
theorem num_val {w : Bs} (h : good w = true) : (numR w).1 = valI w ∧ 0 ≤ valI w ∧ valI w ≤ 1000 := by
  simp only [good, Bool.and_eq_true, decide_eq_true_eq] at h
  exact ⟨by rw [numR, if_pos h.1], by show (0 : Int) ≤ (valL w : Int); omega, by show (valL w : Int) ≤ 1000; omega⟩
theorem all_good (s : ByteArray) : (spl 32 s.data.toList).all good = (splP 32 s).all fun w => good w.data.toList := by rw [← splP_list, List.all_map]; rfl
theorem rhS_bad {s : ByteArray} {i : Nat} (h : i < (splP 32 s).length) (hb : good ((splP 32 s).getD i baZ).data.toList = false) : rhS s = badH := by
  rw [rhS, readHS, all_good, if_pos]
  rw [Bool.not_eq_true', List.all_eq_false]
  exact ⟨_, getD_mem' (d := baZ) h, by rw [hb]; simp⟩
theorem good_all {s : ByteArray} (h : ∀ j, j < (splP 32 s).length → good ((splP 32 s).getD j baZ).data.toList = true) : (spl 32 s.data.toList).all good = true := by
  rw [all_good, List.all_eq_true]
  intro w hw
  obtain ⟨j, hj, rfl⟩ := List.mem_iff_getElem.1 hw
  have := h j hj
  rwa [List.getD, List.getElem?_eq_getElem hj] at this
theorem rhS_few {s : ByteArray} (h : ∀ j, j < (splP 32 s).length → good ((splP 32 s).getD j baZ).data.toList = true) (hl : (splP 32 s).length < 4) : rhS s = badH := by
  rw [rhS, readHS, good_all h, splP_len2, if_neg (by simp), if_pos (decide_eq_true hl)]
theorem rhS_cond {s : ByteArray} (h : ∀ j, j < (splP 32 s).length → good ((splP 32 s).getD j baZ).data.toList = true) (hl : ¬ (splP 32 s).length < 4) : rhS s = if validH (((splP 32 s).map vlW).getD 0 0) (((splP 32 s).map vlW).getD 1 0) (((splP 32 s).map vlW).getD 2 0) (((splP 32 s).map vlW).drop 3) then
    ((((splP 32 s).map vlW).getD 0 0, ((splP 32 s).map vlW).getD 1 0, ((splP 32 s).map vlW).getD 2 0), ((splP 32 s).map vlW).drop 3, 0) else badH := by
  rw [rhS, readHS, good_all h, splP_len2, if_neg (by simp), if_neg (by simpa using hl), map_vl]
theorem vl_in {s : ByteArray} (h : ∀ j, j < (splP 32 s).length → good ((splP 32 s).getD j baZ).data.toList = true) (j : Nat) (hj : j < (splP 32 s).length) : 0 ≤ ((splP 32 s).map vlW).getD j 0 ∧ ((splP 32 s).map vlW).getD j 0 ≤ 1000 := by
  rw [map_getD _ _ j hj]
  exact (num_val (h j hj)).2
/-- All numbers, and how many are no heights. -/
noncomputable def fullH (s : ByteArray) : List Int := if (rhS s).2.2 = 0 then (splP 32 s).map vlW else []
noncomputable def fromH (s : ByteArray) : Nat := if (rhS s).2.2 = 0 then 3 else 0
theorem fullH_ok {s : ByteArray} (h : (rhS s).2.2 = 0) : fullH s = (splP 32 s).map vlW ∧ fromH s = 3 := ⟨by rw [fullH, if_pos h], by rw [fromH, if_pos h]⟩
theorem fullH_bad {s : ByteArray} (h : rhS s = badH) : fullH s = [] ∧ fromH s = 0 := by
  constructor
  · rw [fullH, h]; rfl
  · rw [fromH, h]; rfl

theorem drop_i64s (xs : List Int) (n : Nat) (h : n = xs.length - 3) : ((i64s xs).drop 3).take n = i64s (xs.drop 3) := by
  subst h
  rw [List.take_of_length_le (by simp)]
  simp

noncomputable abbrev s_S_ReadHeights : Spec ByteArray where
  args := fun s => [.val (.string s)]
  pre := fun s => s.size ≤ 1048576
  new := fun s => [⟨2, 1, false, i64s (fullH s)⟩]
  res := fun s => .tup [.val (.agg #[.int .i16 (rhS s).1.1, .int .i16 (rhS s).1.2.1, .int .i16 (rhS s).1.2.2]), .vw 0 (fromH s) (rhS s).2.1.length, .val (.int .i64 (rhS s).2.2)]

set_option maxRecDepth 20000 in
set_option maxHeartbeats 8000000 in
theorem ok_S_ReadHeights : FnOk Pr 10 s_S_ReadHeights := by
  refine fn_ok 1 0 T0_ok Go.Proofs.Tryd.func10 rfl (enters_of Go.Proofs.Tryd.func10 rfl rfl) (fun _ => rfl) (fun _ => rfl) (fun _ => rfl) ?_
  rintro s hs C hP hN hm hG
  change awp C _ _ ⟨[(0, .val (.string s))], [], 0⟩
  have hs : s.size ≤ 1048576 := hs
  have hsl := splP_len 32 s
  refine awp_seq ?_
  refine r1 T0_ok hP hm hN ?_
  refine g1 ?_
  refine g1 ?_
  refine g1 ?_
  refine awp_seq ?_
  refine r1 T0_ok hP hm hN ?_
  refine g1 ?_
  refine gc1 ?_ (call1 ok_S_l01Split (s, 32) [] (hpre := by (try dsimp only); exact hs) (hfo := by intro o ho; simp only [List.nil_append, List.mem_singleton] at ho; subst ho; exact flat_strs _ _ _ _))
  refine g1 ?_
  refine awp_seq ?_
  refine r1 T0_ok hP hm hN ?_
  refine g1 ?_
  refine g1 ?_
  refine awp_seq ?_
  refine awp_seq ?_
  refine r1 T0_ok hP hm hN ?_
  refine g1 ?_
  refine awp_block ?_
  refine awp_loop (fun n st => ∃ i : Nat, i ≤ (splP 32 s).length ∧ (∀ j, j < i → good ((splP 32 s).getD j baZ).data.toList = true) ∧ n = (splP 32 s).length - i ∧ st = ⟨[(7, .val (.int .i64 (i : Nat))), (6, .own 2), (5, .own 1), (4, .val (.int .i64 0)), (3, .nil), (2, .ptr 0 0 0), (0, .val (.string s))], [(2, ⟨2, 1, false, i64s (mapF vlW (splP 32 s) i)⟩), (1, ⟨9, 1, false, strs (splP 32 s)⟩), (0, ⟨30, 3, true, [[.val (.int .i16 0), .val (.int .i16 0), .val (.int .i16 0)]]⟩)], 3⟩) ((splP 32 s).length) ⟨_, weak_sl (sub_cons rfl (sub_cons rfl (sub_cons rfl (sub_cons rfl (sub_cons rfl (sub_cons rfl (sub_cons rfl (sub_nil)))))))), 0, by omega, fun j h => by omega, rfl, rfl⟩ ?_
  rintro n st ⟨i, hii, hall, hni, rfl⟩
  have hml := mapF_len vlW (splP 32 s) hii
  refine awp_seq ?_
  refine awp_seq ?_
  refine r1 T0_ok hP hm hN ?_
  refine g1 ?_
  refine g1 ?_
  refine g1 ?_
  refine g1 ?_
  refine awp_cond rfl (fun hc0 => ?_) (fun hc0 => ?_)
  · skip
    have hlti : i < (splP 32 s).length := by simpa using hc0
    have hgw := strs_get (splP 32 s) i hlti
    have hz := splP_sz (getD_mem' (d := baZ) hlti)
    refine awp_skip ?_
    refine awp_seq ?_
    refine awp_block ?_
    refine awp_seq ?_
    refine r1 T0_ok hP hm hN ?_
    refine g1 ?_
    refine g1 ?_
    refine g1 ?_
    refine g1 ?_
    refine gc1 ?_ (call1 ok_S_l01Number ((splP 32 s).getD i baZ) [] (hpre := by (try dsimp only); omega))
    refine g1 ?_
    refine g1 ?_
    refine g1 ?_
    refine g1 ?_
    refine g1 ?_
    refine awp_seq ?_
    refine awp_seq ?_
    refine r1 T0_ok hP hm hN ?_
    refine g1 ?_
    refine g1 ?_
    refine g1 ?_
    refine gg1 ?_
    refine gg1 ?_
    refine g1 ?_
    refine awp_cond rfl (fun hc1 => ?_) (fun hc1 => ?_)
    · skip
      have hr : rhS s = badH := rhS_bad hlti (by rw [num_cond] at hc1; simpa using hc1)
      refine awp_seq ?_
      refine r1 T0_ok hP hm hN ?_
      refine g1 ?_
      refine g1 ?_
      refine g1 ?_
      refine g1 ?_
      refine g1 ?_
      refine awp_weak (weak_own_vw (t := 3) (h := 3) rfl rfl) ?_
      refine awp_ret ?_
      refine fin_mk [3] rfl rfl ?_ (by show Objs _ _ [⟨2, 1, false, i64s (fullH s)⟩]; first | (rw [(fullH_bad hr).1]; exact objs_cons rfl rfl rfl rfl rfl (.inl rfl) objs_nil) | (rw [hf1]; exact objs_cons rfl rfl rfl rfl rfl (.inl rfl) objs_nil)) (by decide)
      show D.tup [.val (.agg #[.int .i16 (rhS s).1.1, .int .i16 (rhS s).1.2.1, .int .i16 (rhS s).1.2.2]), .vw 3 (fromH s) (rhS s).2.1.length, .val (.int .i64 (rhS s).2.2)] = _
      rw [hr, (fullH_bad hr).2]
      rfl
    · skip
      have hgk : good ((splP 32 s).getD i baZ).data.toList = true := by rw [num_cond] at hc1; simpa using hc1
      obtain ⟨hnv, hn0, hn1⟩ := num_val hgk
      have hnv2 : vlW ((splP 32 s).getD i baZ) = (numR ((splP 32 s).getD i baZ).data.toList).1 := hnv.symm
      refine awp_skip ?_
      refine r1 T0_ok hP hm hN ?_
      refine g1 ?_
      refine g1 ?_
      refine g1 ?_
      refine ga1 ?_
      refine g1 ?_
      refine r1 T0_ok hP hm hN ?_
      refine g1 ?_
      refine g1 ?_
      refine g1 ?_
      refine ⟨(splP 32 s).length - (i + 1), _, by omega, (by rw [mapF_succ (d := baZ) vlW hlti, i64s_app, hnv2]; exact Weak.trans (weak_drop 3) (Weak.trans (weak_nx (nx' := 3) (by omega) (by rfl)) (weak_sl (sub_cons rfl (sub_cons rfl (sub_cons rfl (sub_cons rfl (sub_cons rfl (sub_cons rfl (sub_cons rfl (sub_nil))))))))))), i + 1, by omega, upto_step hall hgk, rfl, rfl⟩
  · skip
    have hge0 : ¬ i < (splP 32 s).length := by simpa using hc0
    have heqi : i = (splP 32 s).length := by omega
    have hgd : ∀ j, j < (splP 32 s).length → good ((splP 32 s).getD j baZ).data.toList = true := fun j hj => hall j (by omega)
    rw [heqi, mapF_all]
    refine awp_exit ?_
    repeat refine thenA_exit ?_
    refine blockA_hit ?_
    refine awp_seq ?_
    refine awp_seq ?_
    refine r1 T0_ok hP hm hN ?_
    refine g1 ?_
    refine g1 ?_
    refine g1 ?_
    refine awp_cond rfl (fun hc2 => ?_) (fun hc2 => ?_)
    · skip
      have hr : rhS s = badH := rhS_few hgd (by simp at hc2; omega)
      refine awp_seq ?_
      refine r1 T0_ok hP hm hN ?_
      refine g1 ?_
      refine g1 ?_
      refine g1 ?_
      refine g1 ?_
      refine g1 ?_
      refine awp_weak (weak_own_vw (t := 3) (h := 3) rfl rfl) ?_
      refine awp_ret ?_
      refine fin_mk [3] rfl rfl ?_ (by show Objs _ _ [⟨2, 1, false, i64s (fullH s)⟩]; first | (rw [(fullH_bad hr).1]; exact objs_cons rfl rfl rfl rfl rfl (.inl rfl) objs_nil) | (rw [hf1]; exact objs_cons rfl rfl rfl rfl rfl (.inl rfl) objs_nil)) (by decide)
      show D.tup [.val (.agg #[.int .i16 (rhS s).1.1, .int .i16 (rhS s).1.2.1, .int .i16 (rhS s).1.2.2]), .vw 3 (fromH s) (rhS s).2.1.length, .val (.int .i64 (rhS s).2.2)] = _
      rw [hr, (fullH_bad hr).2]
      rfl
    · skip
      have hl4 : ¬ (splP 32 s).length < 4 := by simp at hc2; omega
      have hrc := rhS_cond hgd hl4
      have hq0 := vl_in hgd 0 (by omega)
      have hg0 := ints_get .i64 ((splP 32 s).map vlW) 0 (by rw [List.length_map]; omega)
      have hq1 := vl_in hgd 1 (by omega)
      have hg1 := ints_get .i64 ((splP 32 s).map vlW) 1 (by rw [List.length_map]; omega)
      have hq2 := vl_in hgd 2 (by omega)
      have hg2 := ints_get .i64 ((splP 32 s).map vlW) 2 (by rw [List.length_map]; omega)
      have hpg : isPegs ((((splP 32 s).map vlW).getD 0 0), (((splP 32 s).map vlW).getD 1 0), (((splP 32 s).map vlW).getD 2 0)) := by unfold isPegs; dsimp only; omega
      refine awp_skip ?_
      refine awp_seq ?_
      refine awp_join (st1 := ⟨[(10, .ptr 3 0 0), (6, .own 2), (5, .own 1), (4, .val (.int .i64 0)), (3, .nil), (2, .ptr 0 0 0), (0, .val (.string s))], [(3, ⟨30, 3, true, [[.val (.int .i16 (((splP 32 s).map vlW).getD 0 0)), .val (.int .i16 (((splP 32 s).map vlW).getD 1 0)), .val (.int .i16 (((splP 32 s).map vlW).getD 2 0))]]⟩), (2, ⟨2, 1, false, i64s ((splP 32 s).map vlW)⟩), (1, ⟨9, 1, false, strs (splP 32 s)⟩), (0, ⟨30, 3, true, [[.val (.int .i16 0), .val (.int .i16 0), .val (.int .i16 0)]]⟩)], 4⟩) ?_ ?_
      · skip
        refine awp_any hP Pr_mix _ rfl 15 rfl ?_
        refine anyS_cut (fuel' := 0) (listed' := #[true, true, true, true, true, true, true, true, true, true, true, true, true, true, true]) (st' := ⟨[(10, .ptr 3 0 0), (6, .own 2), (5, .own 1), (4, .val (.int .i64 0)), (3, .nil), (2, .ptr 0 0 0), (0, .val (.string s))], [(3, ⟨30, 3, true, [[.val (.int .i16 (((splP 32 s).map vlW).getD 0 0)), .val (.int .i16 (((splP 32 s).map vlW).getD 1 0)), .val (.int .i16 (((splP 32 s).map vlW).getD 2 0))]]⟩), (2, ⟨2, 1, false, i64s ((splP 32 s).map vlW)⟩), (1, ⟨9, 1, false, strs (splP 32 s)⟩), (0, ⟨30, 3, true, [[.val (.int .i16 0), .val (.int .i16 0), .val (.int .i16 0)]]⟩)], 4⟩) ?_ (fun hS0 => ?_)
        · skip
          refine anyS_done (by rfl) ?_
          exact ⟨rfl, rfl⟩
        refine anyS_cut (fuel' := 1) (listed' := #[true, true, true, true, true, true, true, true, true, true, true, true, true, true, false]) (st' := ⟨[(57, .val (.agg #[.int .i16 (((splP 32 s).map vlW).getD 0 0), .int .i16 (((splP 32 s).map vlW).getD 1 0), .int .i16 (((splP 32 s).map vlW).getD 2 0)])), (10, .ptr 3 0 0), (6, .own 2), (5, .own 1), (4, .val (.int .i64 0)), (3, .nil), (2, .ptr 0 0 0), (0, .val (.string s))], [(3, ⟨30, 3, true, [[.val (.int .i16 0), .val (.int .i16 0), .val (.int .i16 0)]]⟩), (2, ⟨2, 1, false, i64s ((splP 32 s).map vlW)⟩), (1, ⟨9, 1, false, strs (splP 32 s)⟩), (0, ⟨30, 3, true, [[.val (.int .i16 0), .val (.int .i16 0), .val (.int .i16 0)]]⟩)], 4⟩) ?_ (fun hS1 => ?_)
        · skip
          refine anyS_cons T0_ok hP hm hN (by rfl) [14] (by rfl) rfl ?_
          refine ⟨⟨_, rfl, rfl, ?_⟩, trivial⟩
          refine g1 ?_
          exact anyS_weak (st' := ⟨[(10, .ptr 3 0 0), (6, .own 2), (5, .own 1), (4, .val (.int .i64 0)), (3, .nil), (2, .ptr 0 0 0), (0, .val (.string s))], [(3, ⟨30, 3, true, [[.val (.int .i16 (((splP 32 s).map vlW).getD 0 0)), .val (.int .i16 (((splP 32 s).map vlW).getD 1 0)), .val (.int .i16 (((splP 32 s).map vlW).getD 2 0))]]⟩), (2, ⟨2, 1, false, i64s ((splP 32 s).map vlW)⟩), (1, ⟨9, 1, false, strs (splP 32 s)⟩), (0, ⟨30, 3, true, [[.val (.int .i16 0), .val (.int .i16 0), .val (.int .i16 0)]]⟩)], 4⟩) (by exact weak_sl (sub_cons rfl (sub_cons rfl (sub_cons rfl (sub_cons rfl (sub_cons rfl (sub_cons rfl (sub_cons rfl (sub_nil))))))))) hS0
        refine anyS_cut (fuel' := 2) (listed' := #[true, true, true, true, true, true, true, true, true, true, true, true, true, false, false]) (st' := ⟨[(57, .val (.agg #[.int .i16 (((splP 32 s).map vlW).getD 0 0), .int .i16 (((splP 32 s).map vlW).getD 1 0), .int .i16 (((splP 32 s).map vlW).getD 2 0)])), (6, .own 2), (5, .own 1), (4, .val (.int .i64 0)), (3, .nil), (2, .ptr 0 0 0), (0, .val (.string s))], [(2, ⟨2, 1, false, i64s ((splP 32 s).map vlW)⟩), (1, ⟨9, 1, false, strs (splP 32 s)⟩), (0, ⟨30, 3, true, [[.val (.int .i16 0), .val (.int .i16 0), .val (.int .i16 0)]]⟩)], 3⟩) ?_ (fun hS2 => ?_)
        · skip
          refine anyS_cons T0_ok hP hm hN (by rfl) [13] (by rfl) rfl ?_
          refine ⟨⟨_, rfl, rfl, ?_⟩, trivial⟩
          refine g1 ?_
          exact anyS_weak (st' := ⟨[(57, .val (.agg #[.int .i16 (((splP 32 s).map vlW).getD 0 0), .int .i16 (((splP 32 s).map vlW).getD 1 0), .int .i16 (((splP 32 s).map vlW).getD 2 0)])), (10, .ptr 3 0 0), (6, .own 2), (5, .own 1), (4, .val (.int .i64 0)), (3, .nil), (2, .ptr 0 0 0), (0, .val (.string s))], [(3, ⟨30, 3, true, [[.val (.int .i16 0), .val (.int .i16 0), .val (.int .i16 0)]]⟩), (2, ⟨2, 1, false, i64s ((splP 32 s).map vlW)⟩), (1, ⟨9, 1, false, strs (splP 32 s)⟩), (0, ⟨30, 3, true, [[.val (.int .i16 0), .val (.int .i16 0), .val (.int .i16 0)]]⟩)], 4⟩) (by exact weak_sl (sub_cons rfl (sub_cons rfl (sub_cons rfl (sub_cons rfl (sub_cons rfl (sub_cons rfl (sub_cons rfl (sub_cons rfl (sub_nil)))))))))) hS1
        refine anyS_cut (fuel' := 2) (listed' := #[true, true, true, true, true, true, true, true, true, true, true, true, false, true, false]) (st' := ⟨[(48, .val (.int .i16 (((splP 32 s).map vlW).getD 0 0))), (52, .val (.int .i16 (((splP 32 s).map vlW).getD 1 0))), (56, .val (.int .i16 (((splP 32 s).map vlW).getD 2 0))), (10, .ptr 3 0 0), (6, .own 2), (5, .own 1), (4, .val (.int .i64 0)), (3, .nil), (2, .ptr 0 0 0), (0, .val (.string s))], [(3, ⟨30, 3, true, [[.val (.int .i16 0), .val (.int .i16 0), .val (.int .i16 0)]]⟩), (2, ⟨2, 1, false, i64s ((splP 32 s).map vlW)⟩), (1, ⟨9, 1, false, strs (splP 32 s)⟩), (0, ⟨30, 3, true, [[.val (.int .i16 0), .val (.int .i16 0), .val (.int .i16 0)]]⟩)], 4⟩) ?_ (fun hS3 => ?_)
        · skip
          refine anyS_cons T0_ok hP hm hN (by rfl) [12] (by rfl) rfl ?_
          refine ⟨⟨_, rfl, rfl, ?_⟩, trivial⟩
          refine g1 ?_
          exact anyS_weak (st' := ⟨[(57, .val (.agg #[.int .i16 (((splP 32 s).map vlW).getD 0 0), .int .i16 (((splP 32 s).map vlW).getD 1 0), .int .i16 (((splP 32 s).map vlW).getD 2 0)])), (10, .ptr 3 0 0), (6, .own 2), (5, .own 1), (4, .val (.int .i64 0)), (3, .nil), (2, .ptr 0 0 0), (0, .val (.string s))], [(3, ⟨30, 3, true, [[.val (.int .i16 0), .val (.int .i16 0), .val (.int .i16 0)]]⟩), (2, ⟨2, 1, false, i64s ((splP 32 s).map vlW)⟩), (1, ⟨9, 1, false, strs (splP 32 s)⟩), (0, ⟨30, 3, true, [[.val (.int .i16 0), .val (.int .i16 0), .val (.int .i16 0)]]⟩)], 4⟩) (by exact weak_sl (sub_cons rfl (sub_cons rfl (sub_cons rfl (sub_cons rfl (sub_cons rfl (sub_cons rfl (sub_cons rfl (sub_cons rfl (sub_nil)))))))))) hS1
        refine anyS_cut (fuel' := 3) (listed' := #[true, true, true, true, true, true, true, true, true, true, true, true, false, false, false]) (st' := ⟨[(48, .val (.int .i16 (((splP 32 s).map vlW).getD 0 0))), (52, .val (.int .i16 (((splP 32 s).map vlW).getD 1 0))), (56, .val (.int .i16 (((splP 32 s).map vlW).getD 2 0))), (6, .own 2), (5, .own 1), (4, .val (.int .i64 0)), (3, .nil), (2, .ptr 0 0 0), (0, .val (.string s))], [(2, ⟨2, 1, false, i64s ((splP 32 s).map vlW)⟩), (1, ⟨9, 1, false, strs (splP 32 s)⟩), (0, ⟨30, 3, true, [[.val (.int .i16 0), .val (.int .i16 0), .val (.int .i16 0)]]⟩)], 3⟩) ?_ (fun hS4 => ?_)
        · skip
          refine anyS_cons T0_ok hP hm hN (by rfl) [12, 13] (by rfl) rfl ?_
          refine ⟨⟨_, rfl, rfl, ?_⟩, ?_⟩
          · skip
            refine g1 ?_
            exact anyS_weak (st' := ⟨[(57, .val (.agg #[.int .i16 (((splP 32 s).map vlW).getD 0 0), .int .i16 (((splP 32 s).map vlW).getD 1 0), .int .i16 (((splP 32 s).map vlW).getD 2 0)])), (6, .own 2), (5, .own 1), (4, .val (.int .i64 0)), (3, .nil), (2, .ptr 0 0 0), (0, .val (.string s))], [(2, ⟨2, 1, false, i64s ((splP 32 s).map vlW)⟩), (1, ⟨9, 1, false, strs (splP 32 s)⟩), (0, ⟨30, 3, true, [[.val (.int .i16 0), .val (.int .i16 0), .val (.int .i16 0)]]⟩)], 3⟩) (by exact weak_sl (sub_cons rfl (sub_cons rfl (sub_cons rfl (sub_cons rfl (sub_cons rfl (sub_cons rfl (sub_cons rfl (sub_nil))))))))) hS2
          refine ⟨⟨_, rfl, rfl, ?_⟩, trivial⟩
          refine g1 ?_
          exact anyS_weak (st' := ⟨[(48, .val (.int .i16 (((splP 32 s).map vlW).getD 0 0))), (52, .val (.int .i16 (((splP 32 s).map vlW).getD 1 0))), (56, .val (.int .i16 (((splP 32 s).map vlW).getD 2 0))), (10, .ptr 3 0 0), (6, .own 2), (5, .own 1), (4, .val (.int .i64 0)), (3, .nil), (2, .ptr 0 0 0), (0, .val (.string s))], [(3, ⟨30, 3, true, [[.val (.int .i16 0), .val (.int .i16 0), .val (.int .i16 0)]]⟩), (2, ⟨2, 1, false, i64s ((splP 32 s).map vlW)⟩), (1, ⟨9, 1, false, strs (splP 32 s)⟩), (0, ⟨30, 3, true, [[.val (.int .i16 0), .val (.int .i16 0), .val (.int .i16 0)]]⟩)], 4⟩) (by exact weak_sl (sub_cons rfl (sub_cons rfl (sub_cons rfl (sub_cons rfl (sub_cons rfl (sub_cons rfl (sub_cons rfl (sub_cons rfl (sub_cons rfl (sub_cons rfl (sub_nil)))))))))))) hS3
        refine anyS_cut (fuel' := 4) (listed' := #[true, true, true, true, true, true, true, true, true, true, false, false, false, true, false]) (st' := ⟨[(48, .val (.int .i16 (((splP 32 s).map vlW).getD 0 0))), (52, .val (.int .i16 (((splP 32 s).map vlW).getD 1 0))), (54, .ptr 2 2 0), (10, .ptr 3 0 0), (6, .own 2), (5, .own 1), (4, .val (.int .i64 0)), (3, .nil), (2, .ptr 0 0 0), (0, .val (.string s))], [(3, ⟨30, 3, true, [[.val (.int .i16 0), .val (.int .i16 0), .val (.int .i16 0)]]⟩), (2, ⟨2, 1, false, i64s ((splP 32 s).map vlW)⟩), (1, ⟨9, 1, false, strs (splP 32 s)⟩), (0, ⟨30, 3, true, [[.val (.int .i16 0), .val (.int .i16 0), .val (.int .i16 0)]]⟩)], 4⟩) ?_ (fun hS5 => ?_)
        · skip
          refine anyS_cons T0_ok hP hm hN (by rfl) [10] (by rfl) rfl ?_
          refine ⟨⟨_, rfl, rfl, ?_⟩, trivial⟩
          refine g1 ?_
          refine anyS_floatV T0_ok hP hm hN (by rfl) 11 rfl rfl (by rfl) (by rfl) (by first | trivial | rfl | exact ⟨rfl, rfl⟩ | exact ⟨rfl, rfl, fun _ => rfl, Nat.le_of_ble_eq_true rfl, .inl rfl⟩ | exact ⟨rfl, rfl, fun h => (nomatch h), Nat.le_of_ble_eq_true rfl, .inl rfl⟩ | exact ⟨rfl, rfl, fun _ => rfl, Nat.le_of_ble_eq_true rfl, .inr rfl⟩ | exact ⟨rfl, rfl, fun h => (nomatch h), Nat.le_of_ble_eq_true rfl, .inr rfl⟩ | omega | exact ⟨rfl, by (repeat (first | exact fm_nil | refine fm_cons ⟨rfl, rfl⟩ ?_)), Nat.le_of_ble_eq_true rfl, Nat.le_of_ble_eq_true rfl⟩ | (refine ⟨?_, ?_, ?_, ?_, ?_, ?_, ?_⟩ <;> first | omega | exact Nat.le_of_ble_eq_true rfl) | exact ⟨rfl, by omega, by (try simp only [List.length_map, List.length_set]); omega⟩ | exact ⟨rfl, by omega, by simp only [Int.toNat_natCast]; omega, by omega, Nat.le_of_ble_eq_true rfl, rfl⟩) rfl (by rfl) (by rfl) (by rfl) ?_
          refine g1 ?_
          exact anyS_weak (st' := ⟨[(48, .val (.int .i16 (((splP 32 s).map vlW).getD 0 0))), (52, .val (.int .i16 (((splP 32 s).map vlW).getD 1 0))), (56, .val (.int .i16 (((splP 32 s).map vlW).getD 2 0))), (10, .ptr 3 0 0), (6, .own 2), (5, .own 1), (4, .val (.int .i64 0)), (3, .nil), (2, .ptr 0 0 0), (0, .val (.string s))], [(3, ⟨30, 3, true, [[.val (.int .i16 0), .val (.int .i16 0), .val (.int .i16 0)]]⟩), (2, ⟨2, 1, false, i64s ((splP 32 s).map vlW)⟩), (1, ⟨9, 1, false, strs (splP 32 s)⟩), (0, ⟨30, 3, true, [[.val (.int .i16 0), .val (.int .i16 0), .val (.int .i16 0)]]⟩)], 4⟩) (by exact weak_sl (sub_cons rfl (sub_cons rfl (sub_cons rfl (sub_cons rfl (sub_cons rfl (sub_cons rfl (sub_cons rfl (sub_cons rfl (sub_cons rfl (sub_cons rfl (sub_nil)))))))))))) hS3
        refine anyS_cut (fuel' := 4) (listed' := #[true, true, true, true, true, true, false, false, true, true, true, true, false, true, false]) (st' := ⟨[(48, .val (.int .i16 (((splP 32 s).map vlW).getD 0 0))), (50, .ptr 2 1 0), (56, .val (.int .i16 (((splP 32 s).map vlW).getD 2 0))), (10, .ptr 3 0 0), (6, .own 2), (5, .own 1), (4, .val (.int .i64 0)), (3, .nil), (2, .ptr 0 0 0), (0, .val (.string s))], [(3, ⟨30, 3, true, [[.val (.int .i16 0), .val (.int .i16 0), .val (.int .i16 0)]]⟩), (2, ⟨2, 1, false, i64s ((splP 32 s).map vlW)⟩), (1, ⟨9, 1, false, strs (splP 32 s)⟩), (0, ⟨30, 3, true, [[.val (.int .i16 0), .val (.int .i16 0), .val (.int .i16 0)]]⟩)], 4⟩) ?_ (fun hS6 => ?_)
        · skip
          refine anyS_cons T0_ok hP hm hN (by rfl) [6] (by rfl) rfl ?_
          refine ⟨⟨_, rfl, rfl, ?_⟩, trivial⟩
          refine g1 ?_
          refine anyS_floatV T0_ok hP hm hN (by rfl) 7 rfl rfl (by rfl) (by rfl) (by first | trivial | rfl | exact ⟨rfl, rfl⟩ | exact ⟨rfl, rfl, fun _ => rfl, Nat.le_of_ble_eq_true rfl, .inl rfl⟩ | exact ⟨rfl, rfl, fun h => (nomatch h), Nat.le_of_ble_eq_true rfl, .inl rfl⟩ | exact ⟨rfl, rfl, fun _ => rfl, Nat.le_of_ble_eq_true rfl, .inr rfl⟩ | exact ⟨rfl, rfl, fun h => (nomatch h), Nat.le_of_ble_eq_true rfl, .inr rfl⟩ | omega | exact ⟨rfl, by (repeat (first | exact fm_nil | refine fm_cons ⟨rfl, rfl⟩ ?_)), Nat.le_of_ble_eq_true rfl, Nat.le_of_ble_eq_true rfl⟩ | (refine ⟨?_, ?_, ?_, ?_, ?_, ?_, ?_⟩ <;> first | omega | exact Nat.le_of_ble_eq_true rfl) | exact ⟨rfl, by omega, by (try simp only [List.length_map, List.length_set]); omega⟩ | exact ⟨rfl, by omega, by simp only [Int.toNat_natCast]; omega, by omega, Nat.le_of_ble_eq_true rfl, rfl⟩) rfl (by rfl) (by rfl) (by rfl) ?_
          refine g1 ?_
          exact anyS_weak (st' := ⟨[(48, .val (.int .i16 (((splP 32 s).map vlW).getD 0 0))), (52, .val (.int .i16 (((splP 32 s).map vlW).getD 1 0))), (56, .val (.int .i16 (((splP 32 s).map vlW).getD 2 0))), (10, .ptr 3 0 0), (6, .own 2), (5, .own 1), (4, .val (.int .i64 0)), (3, .nil), (2, .ptr 0 0 0), (0, .val (.string s))], [(3, ⟨30, 3, true, [[.val (.int .i16 0), .val (.int .i16 0), .val (.int .i16 0)]]⟩), (2, ⟨2, 1, false, i64s ((splP 32 s).map vlW)⟩), (1, ⟨9, 1, false, strs (splP 32 s)⟩), (0, ⟨30, 3, true, [[.val (.int .i16 0), .val (.int .i16 0), .val (.int .i16 0)]]⟩)], 4⟩) (by exact weak_sl (sub_cons rfl (sub_cons rfl (sub_cons rfl (sub_cons rfl (sub_cons rfl (sub_cons rfl (sub_cons rfl (sub_cons rfl (sub_cons rfl (sub_cons rfl (sub_nil)))))))))))) hS3
        refine anyS_cut (fuel' := 4) (listed' := #[true, true, false, false, true, true, true, true, true, true, true, true, false, true, false]) (st' := ⟨[(46, .ptr 2 0 0), (52, .val (.int .i16 (((splP 32 s).map vlW).getD 1 0))), (56, .val (.int .i16 (((splP 32 s).map vlW).getD 2 0))), (10, .ptr 3 0 0), (6, .own 2), (5, .own 1), (4, .val (.int .i64 0)), (3, .nil), (2, .ptr 0 0 0), (0, .val (.string s))], [(3, ⟨30, 3, true, [[.val (.int .i16 0), .val (.int .i16 0), .val (.int .i16 0)]]⟩), (2, ⟨2, 1, false, i64s ((splP 32 s).map vlW)⟩), (1, ⟨9, 1, false, strs (splP 32 s)⟩), (0, ⟨30, 3, true, [[.val (.int .i16 0), .val (.int .i16 0), .val (.int .i16 0)]]⟩)], 4⟩) ?_ (fun hS7 => ?_)
        · skip
          refine anyS_cons T0_ok hP hm hN (by rfl) [2] (by rfl) rfl ?_
          refine ⟨⟨_, rfl, rfl, ?_⟩, trivial⟩
          refine g1 ?_
          refine anyS_floatV T0_ok hP hm hN (by rfl) 3 rfl rfl (by rfl) (by rfl) (by first | trivial | rfl | exact ⟨rfl, rfl⟩ | exact ⟨rfl, rfl, fun _ => rfl, Nat.le_of_ble_eq_true rfl, .inl rfl⟩ | exact ⟨rfl, rfl, fun h => (nomatch h), Nat.le_of_ble_eq_true rfl, .inl rfl⟩ | exact ⟨rfl, rfl, fun _ => rfl, Nat.le_of_ble_eq_true rfl, .inr rfl⟩ | exact ⟨rfl, rfl, fun h => (nomatch h), Nat.le_of_ble_eq_true rfl, .inr rfl⟩ | omega | exact ⟨rfl, by (repeat (first | exact fm_nil | refine fm_cons ⟨rfl, rfl⟩ ?_)), Nat.le_of_ble_eq_true rfl, Nat.le_of_ble_eq_true rfl⟩ | (refine ⟨?_, ?_, ?_, ?_, ?_, ?_, ?_⟩ <;> first | omega | exact Nat.le_of_ble_eq_true rfl) | exact ⟨rfl, by omega, by (try simp only [List.length_map, List.length_set]); omega⟩ | exact ⟨rfl, by omega, by simp only [Int.toNat_natCast]; omega, by omega, Nat.le_of_ble_eq_true rfl, rfl⟩) rfl (by rfl) (by rfl) (by rfl) ?_
          refine g1 ?_
          exact anyS_weak (st' := ⟨[(48, .val (.int .i16 (((splP 32 s).map vlW).getD 0 0))), (52, .val (.int .i16 (((splP 32 s).map vlW).getD 1 0))), (56, .val (.int .i16 (((splP 32 s).map vlW).getD 2 0))), (10, .ptr 3 0 0), (6, .own 2), (5, .own 1), (4, .val (.int .i64 0)), (3, .nil), (2, .ptr 0 0 0), (0, .val (.string s))], [(3, ⟨30, 3, true, [[.val (.int .i16 0), .val (.int .i16 0), .val (.int .i16 0)]]⟩), (2, ⟨2, 1, false, i64s ((splP 32 s).map vlW)⟩), (1, ⟨9, 1, false, strs (splP 32 s)⟩), (0, ⟨30, 3, true, [[.val (.int .i16 0), .val (.int .i16 0), .val (.int .i16 0)]]⟩)], 4⟩) (by exact weak_sl (sub_cons rfl (sub_cons rfl (sub_cons rfl (sub_cons rfl (sub_cons rfl (sub_cons rfl (sub_cons rfl (sub_cons rfl (sub_cons rfl (sub_cons rfl (sub_nil)))))))))))) hS3
        refine anyS_cut (fuel' := 5) (listed' := #[true, true, true, true, true, true, true, true, true, true, false, false, false, false, false]) (st' := ⟨[(48, .val (.int .i16 (((splP 32 s).map vlW).getD 0 0))), (52, .val (.int .i16 (((splP 32 s).map vlW).getD 1 0))), (54, .ptr 2 2 0), (6, .own 2), (5, .own 1), (4, .val (.int .i64 0)), (3, .nil), (2, .ptr 0 0 0), (0, .val (.string s))], [(2, ⟨2, 1, false, i64s ((splP 32 s).map vlW)⟩), (1, ⟨9, 1, false, strs (splP 32 s)⟩), (0, ⟨30, 3, true, [[.val (.int .i16 0), .val (.int .i16 0), .val (.int .i16 0)]]⟩)], 3⟩) ?_ (fun hS8 => ?_)
        · skip
          refine anyS_cons T0_ok hP hm hN (by rfl) [10, 13] (by rfl) rfl ?_
          refine ⟨⟨_, rfl, rfl, ?_⟩, ?_⟩
          · skip
            refine g1 ?_
            refine anyS_floatV T0_ok hP hm hN (by rfl) 11 rfl rfl (by rfl) (by rfl) (by first | trivial | rfl | exact ⟨rfl, rfl⟩ | exact ⟨rfl, rfl, fun _ => rfl, Nat.le_of_ble_eq_true rfl, .inl rfl⟩ | exact ⟨rfl, rfl, fun h => (nomatch h), Nat.le_of_ble_eq_true rfl, .inl rfl⟩ | exact ⟨rfl, rfl, fun _ => rfl, Nat.le_of_ble_eq_true rfl, .inr rfl⟩ | exact ⟨rfl, rfl, fun h => (nomatch h), Nat.le_of_ble_eq_true rfl, .inr rfl⟩ | omega | exact ⟨rfl, by (repeat (first | exact fm_nil | refine fm_cons ⟨rfl, rfl⟩ ?_)), Nat.le_of_ble_eq_true rfl, Nat.le_of_ble_eq_true rfl⟩ | (refine ⟨?_, ?_, ?_, ?_, ?_, ?_, ?_⟩ <;> first | omega | exact Nat.le_of_ble_eq_true rfl) | exact ⟨rfl, by omega, by (try simp only [List.length_map, List.length_set]); omega⟩ | exact ⟨rfl, by omega, by simp only [Int.toNat_natCast]; omega, by omega, Nat.le_of_ble_eq_true rfl, rfl⟩) rfl (by rfl) (by rfl) (by rfl) ?_
            refine g1 ?_
            exact anyS_weak (st' := ⟨[(48, .val (.int .i16 (((splP 32 s).map vlW).getD 0 0))), (52, .val (.int .i16 (((splP 32 s).map vlW).getD 1 0))), (56, .val (.int .i16 (((splP 32 s).map vlW).getD 2 0))), (6, .own 2), (5, .own 1), (4, .val (.int .i64 0)), (3, .nil), (2, .ptr 0 0 0), (0, .val (.string s))], [(2, ⟨2, 1, false, i64s ((splP 32 s).map vlW)⟩), (1, ⟨9, 1, false, strs (splP 32 s)⟩), (0, ⟨30, 3, true, [[.val (.int .i16 0), .val (.int .i16 0), .val (.int .i16 0)]]⟩)], 3⟩) (by exact weak_sl (sub_cons rfl (sub_cons rfl (sub_cons rfl (sub_cons rfl (sub_cons rfl (sub_cons rfl (sub_cons rfl (sub_cons rfl (sub_cons rfl (sub_nil))))))))))) hS4
          refine ⟨⟨_, rfl, rfl, ?_⟩, trivial⟩
          refine g1 ?_
          exact anyS_weak (st' := ⟨[(48, .val (.int .i16 (((splP 32 s).map vlW).getD 0 0))), (52, .val (.int .i16 (((splP 32 s).map vlW).getD 1 0))), (54, .ptr 2 2 0), (10, .ptr 3 0 0), (6, .own 2), (5, .own 1), (4, .val (.int .i64 0)), (3, .nil), (2, .ptr 0 0 0), (0, .val (.string s))], [(3, ⟨30, 3, true, [[.val (.int .i16 0), .val (.int .i16 0), .val (.int .i16 0)]]⟩), (2, ⟨2, 1, false, i64s ((splP 32 s).map vlW)⟩), (1, ⟨9, 1, false, strs (splP 32 s)⟩), (0, ⟨30, 3, true, [[.val (.int .i16 0), .val (.int .i16 0), .val (.int .i16 0)]]⟩)], 4⟩) (by exact weak_sl (sub_cons rfl (sub_cons rfl (sub_cons rfl (sub_cons rfl (sub_cons rfl (sub_cons rfl (sub_cons rfl (sub_cons rfl (sub_cons rfl (sub_cons rfl (sub_nil)))))))))))) hS5
        refine anyS_cut (fuel' := 5) (listed' := #[true, true, true, true, true, true, true, true, true, false, false, false, false, true, false]) (st' := ⟨[(48, .val (.int .i16 (((splP 32 s).map vlW).getD 0 0))), (52, .val (.int .i16 (((splP 32 s).map vlW).getD 1 0))), (53, .own 2), (10, .ptr 3 0 0), (6, .own 2), (5, .own 1), (4, .val (.int .i64 0)), (3, .nil), (2, .ptr 0 0 0), (0, .val (.string s))], [(3, ⟨30, 3, true, [[.val (.int .i16 0), .val (.int .i16 0), .val (.int .i16 0)]]⟩), (2, ⟨2, 1, false, i64s ((splP 32 s).map vlW)⟩), (1, ⟨9, 1, false, strs (splP 32 s)⟩), (0, ⟨30, 3, true, [[.val (.int .i16 0), .val (.int .i16 0), .val (.int .i16 0)]]⟩)], 4⟩) ?_ (fun hS9 => ?_)
        · skip
          refine anyS_cons T0_ok hP hm hN (by rfl) [9] (by rfl) rfl ?_
          refine ⟨⟨_, rfl, rfl, ?_⟩, trivial⟩
          refine g1 ?_
          exact anyS_weak (st' := ⟨[(48, .val (.int .i16 (((splP 32 s).map vlW).getD 0 0))), (52, .val (.int .i16 (((splP 32 s).map vlW).getD 1 0))), (54, .ptr 2 2 0), (10, .ptr 3 0 0), (6, .own 2), (5, .own 1), (4, .val (.int .i64 0)), (3, .nil), (2, .ptr 0 0 0), (0, .val (.string s))], [(3, ⟨30, 3, true, [[.val (.int .i16 0), .val (.int .i16 0), .val (.int .i16 0)]]⟩), (2, ⟨2, 1, false, i64s ((splP 32 s).map vlW)⟩), (1, ⟨9, 1, false, strs (splP 32 s)⟩), (0, ⟨30, 3, true, [[.val (.int .i16 0), .val (.int .i16 0), .val (.int .i16 0)]]⟩)], 4⟩) (by exact weak_sl (sub_cons rfl (sub_cons rfl (sub_cons rfl (sub_cons rfl (sub_cons rfl (sub_cons rfl (sub_cons rfl (sub_cons rfl (sub_cons rfl (sub_cons rfl (sub_nil)))))))))))) hS5
        refine anyS_cut (fuel' := 5) (listed' := #[true, true, true, true, true, true, false, false, true, true, true, true, false, false, false]) (st' := ⟨[(48, .val (.int .i16 (((splP 32 s).map vlW).getD 0 0))), (50, .ptr 2 1 0), (56, .val (.int .i16 (((splP 32 s).map vlW).getD 2 0))), (6, .own 2), (5, .own 1), (4, .val (.int .i64 0)), (3, .nil), (2, .ptr 0 0 0), (0, .val (.string s))], [(2, ⟨2, 1, false, i64s ((splP 32 s).map vlW)⟩), (1, ⟨9, 1, false, strs (splP 32 s)⟩), (0, ⟨30, 3, true, [[.val (.int .i16 0), .val (.int .i16 0), .val (.int .i16 0)]]⟩)], 3⟩) ?_ (fun hS10 => ?_)
        · skip
          refine anyS_cons T0_ok hP hm hN (by rfl) [6, 13] (by rfl) rfl ?_
          refine ⟨⟨_, rfl, rfl, ?_⟩, ?_⟩
          · skip
            refine g1 ?_
            refine anyS_floatV T0_ok hP hm hN (by rfl) 7 rfl rfl (by rfl) (by rfl) (by first | trivial | rfl | exact ⟨rfl, rfl⟩ | exact ⟨rfl, rfl, fun _ => rfl, Nat.le_of_ble_eq_true rfl, .inl rfl⟩ | exact ⟨rfl, rfl, fun h => (nomatch h), Nat.le_of_ble_eq_true rfl, .inl rfl⟩ | exact ⟨rfl, rfl, fun _ => rfl, Nat.le_of_ble_eq_true rfl, .inr rfl⟩ | exact ⟨rfl, rfl, fun h => (nomatch h), Nat.le_of_ble_eq_true rfl, .inr rfl⟩ | omega | exact ⟨rfl, by (repeat (first | exact fm_nil | refine fm_cons ⟨rfl, rfl⟩ ?_)), Nat.le_of_ble_eq_true rfl, Nat.le_of_ble_eq_true rfl⟩ | (refine ⟨?_, ?_, ?_, ?_, ?_, ?_, ?_⟩ <;> first | omega | exact Nat.le_of_ble_eq_true rfl) | exact ⟨rfl, by omega, by (try simp only [List.length_map, List.length_set]); omega⟩ | exact ⟨rfl, by omega, by simp only [Int.toNat_natCast]; omega, by omega, Nat.le_of_ble_eq_true rfl, rfl⟩) rfl (by rfl) (by rfl) (by rfl) ?_
            refine g1 ?_
            exact anyS_weak (st' := ⟨[(48, .val (.int .i16 (((splP 32 s).map vlW).getD 0 0))), (52, .val (.int .i16 (((splP 32 s).map vlW).getD 1 0))), (56, .val (.int .i16 (((splP 32 s).map vlW).getD 2 0))), (6, .own 2), (5, .own 1), (4, .val (.int .i64 0)), (3, .nil), (2, .ptr 0 0 0), (0, .val (.string s))], [(2, ⟨2, 1, false, i64s ((splP 32 s).map vlW)⟩), (1, ⟨9, 1, false, strs (splP 32 s)⟩), (0, ⟨30, 3, true, [[.val (.int .i16 0), .val (.int .i16 0), .val (.int .i16 0)]]⟩)], 3⟩) (by exact weak_sl (sub_cons rfl (sub_cons rfl (sub_cons rfl (sub_cons rfl (sub_cons rfl (sub_cons rfl (sub_cons rfl (sub_cons rfl (sub_cons rfl (sub_nil))))))))))) hS4
          refine ⟨⟨_, rfl, rfl, ?_⟩, trivial⟩
          refine g1 ?_
          exact anyS_weak (st' := ⟨[(48, .val (.int .i16 (((splP 32 s).map vlW).getD 0 0))), (50, .ptr 2 1 0), (56, .val (.int .i16 (((splP 32 s).map vlW).getD 2 0))), (10, .ptr 3 0 0), (6, .own 2), (5, .own 1), (4, .val (.int .i64 0)), (3, .nil), (2, .ptr 0 0 0), (0, .val (.string s))], [(3, ⟨30, 3, true, [[.val (.int .i16 0), .val (.int .i16 0), .val (.int .i16 0)]]⟩), (2, ⟨2, 1, false, i64s ((splP 32 s).map vlW)⟩), (1, ⟨9, 1, false, strs (splP 32 s)⟩), (0, ⟨30, 3, true, [[.val (.int .i16 0), .val (.int .i16 0), .val (.int .i16 0)]]⟩)], 4⟩) (by exact weak_sl (sub_cons rfl (sub_cons rfl (sub_cons rfl (sub_cons rfl (sub_cons rfl (sub_cons rfl (sub_cons rfl (sub_cons rfl (sub_cons rfl (sub_cons rfl (sub_nil)))))))))))) hS6
        refine anyS_cut (fuel' := 5) (listed' := #[true, true, true, true, true, false, false, false, true, true, true, true, false, true, false]) (st' := ⟨[(48, .val (.int .i16 (((splP 32 s).map vlW).getD 0 0))), (49, .own 2), (56, .val (.int .i16 (((splP 32 s).map vlW).getD 2 0))), (10, .ptr 3 0 0), (6, .own 2), (5, .own 1), (4, .val (.int .i64 0)), (3, .nil), (2, .ptr 0 0 0), (0, .val (.string s))], [(3, ⟨30, 3, true, [[.val (.int .i16 0), .val (.int .i16 0), .val (.int .i16 0)]]⟩), (2, ⟨2, 1, false, i64s ((splP 32 s).map vlW)⟩), (1, ⟨9, 1, false, strs (splP 32 s)⟩), (0, ⟨30, 3, true, [[.val (.int .i16 0), .val (.int .i16 0), .val (.int .i16 0)]]⟩)], 4⟩) ?_ (fun hS11 => ?_)
        · skip
          refine anyS_cons T0_ok hP hm hN (by rfl) [5] (by rfl) rfl ?_
          refine ⟨⟨_, rfl, rfl, ?_⟩, trivial⟩
          refine g1 ?_
          exact anyS_weak (st' := ⟨[(48, .val (.int .i16 (((splP 32 s).map vlW).getD 0 0))), (50, .ptr 2 1 0), (56, .val (.int .i16 (((splP 32 s).map vlW).getD 2 0))), (10, .ptr 3 0 0), (6, .own 2), (5, .own 1), (4, .val (.int .i64 0)), (3, .nil), (2, .ptr 0 0 0), (0, .val (.string s))], [(3, ⟨30, 3, true, [[.val (.int .i16 0), .val (.int .i16 0), .val (.int .i16 0)]]⟩), (2, ⟨2, 1, false, i64s ((splP 32 s).map vlW)⟩), (1, ⟨9, 1, false, strs (splP 32 s)⟩), (0, ⟨30, 3, true, [[.val (.int .i16 0), .val (.int .i16 0), .val (.int .i16 0)]]⟩)], 4⟩) (by exact weak_sl (sub_cons rfl (sub_cons rfl (sub_cons rfl (sub_cons rfl (sub_cons rfl (sub_cons rfl (sub_cons rfl (sub_cons rfl (sub_cons rfl (sub_cons rfl (sub_nil)))))))))))) hS6
        refine anyS_cut (fuel' := 5) (listed' := #[true, true, false, false, true, true, true, true, true, true, true, true, false, false, false]) (st' := ⟨[(46, .ptr 2 0 0), (52, .val (.int .i16 (((splP 32 s).map vlW).getD 1 0))), (56, .val (.int .i16 (((splP 32 s).map vlW).getD 2 0))), (6, .own 2), (5, .own 1), (4, .val (.int .i64 0)), (3, .nil), (2, .ptr 0 0 0), (0, .val (.string s))], [(2, ⟨2, 1, false, i64s ((splP 32 s).map vlW)⟩), (1, ⟨9, 1, false, strs (splP 32 s)⟩), (0, ⟨30, 3, true, [[.val (.int .i16 0), .val (.int .i16 0), .val (.int .i16 0)]]⟩)], 3⟩) ?_ (fun hS12 => ?_)
        · skip
          refine anyS_cons T0_ok hP hm hN (by rfl) [2, 13] (by rfl) rfl ?_
          refine ⟨⟨_, rfl, rfl, ?_⟩, ?_⟩
          · skip
            refine g1 ?_
            refine anyS_floatV T0_ok hP hm hN (by rfl) 3 rfl rfl (by rfl) (by rfl) (by first | trivial | rfl | exact ⟨rfl, rfl⟩ | exact ⟨rfl, rfl, fun _ => rfl, Nat.le_of_ble_eq_true rfl, .inl rfl⟩ | exact ⟨rfl, rfl, fun h => (nomatch h), Nat.le_of_ble_eq_true rfl, .inl rfl⟩ | exact ⟨rfl, rfl, fun _ => rfl, Nat.le_of_ble_eq_true rfl, .inr rfl⟩ | exact ⟨rfl, rfl, fun h => (nomatch h), Nat.le_of_ble_eq_true rfl, .inr rfl⟩ | omega | exact ⟨rfl, by (repeat (first | exact fm_nil | refine fm_cons ⟨rfl, rfl⟩ ?_)), Nat.le_of_ble_eq_true rfl, Nat.le_of_ble_eq_true rfl⟩ | (refine ⟨?_, ?_, ?_, ?_, ?_, ?_, ?_⟩ <;> first | omega | exact Nat.le_of_ble_eq_true rfl) | exact ⟨rfl, by omega, by (try simp only [List.length_map, List.length_set]); omega⟩ | exact ⟨rfl, by omega, by simp only [Int.toNat_natCast]; omega, by omega, Nat.le_of_ble_eq_true rfl, rfl⟩) rfl (by rfl) (by rfl) (by rfl) ?_
            refine g1 ?_
            exact anyS_weak (st' := ⟨[(48, .val (.int .i16 (((splP 32 s).map vlW).getD 0 0))), (52, .val (.int .i16 (((splP 32 s).map vlW).getD 1 0))), (56, .val (.int .i16 (((splP 32 s).map vlW).getD 2 0))), (6, .own 2), (5, .own 1), (4, .val (.int .i64 0)), (3, .nil), (2, .ptr 0 0 0), (0, .val (.string s))], [(2, ⟨2, 1, false, i64s ((splP 32 s).map vlW)⟩), (1, ⟨9, 1, false, strs (splP 32 s)⟩), (0, ⟨30, 3, true, [[.val (.int .i16 0), .val (.int .i16 0), .val (.int .i16 0)]]⟩)], 3⟩) (by exact weak_sl (sub_cons rfl (sub_cons rfl (sub_cons rfl (sub_cons rfl (sub_cons rfl (sub_cons rfl (sub_cons rfl (sub_cons rfl (sub_cons rfl (sub_nil))))))))))) hS4
          refine ⟨⟨_, rfl, rfl, ?_⟩, trivial⟩
          refine g1 ?_
          exact anyS_weak (st' := ⟨[(46, .ptr 2 0 0), (52, .val (.int .i16 (((splP 32 s).map vlW).getD 1 0))), (56, .val (.int .i16 (((splP 32 s).map vlW).getD 2 0))), (10, .ptr 3 0 0), (6, .own 2), (5, .own 1), (4, .val (.int .i64 0)), (3, .nil), (2, .ptr 0 0 0), (0, .val (.string s))], [(3, ⟨30, 3, true, [[.val (.int .i16 0), .val (.int .i16 0), .val (.int .i16 0)]]⟩), (2, ⟨2, 1, false, i64s ((splP 32 s).map vlW)⟩), (1, ⟨9, 1, false, strs (splP 32 s)⟩), (0, ⟨30, 3, true, [[.val (.int .i16 0), .val (.int .i16 0), .val (.int .i16 0)]]⟩)], 4⟩) (by exact weak_sl (sub_cons rfl (sub_cons rfl (sub_cons rfl (sub_cons rfl (sub_cons rfl (sub_cons rfl (sub_cons rfl (sub_cons rfl (sub_cons rfl (sub_cons rfl (sub_nil)))))))))))) hS7
        refine anyS_cut (fuel' := 5) (listed' := #[true, false, false, false, true, true, true, true, true, true, true, true, false, true, false]) (st' := ⟨[(45, .own 2), (52, .val (.int .i16 (((splP 32 s).map vlW).getD 1 0))), (56, .val (.int .i16 (((splP 32 s).map vlW).getD 2 0))), (10, .ptr 3 0 0), (6, .own 2), (5, .own 1), (4, .val (.int .i64 0)), (3, .nil), (2, .ptr 0 0 0), (0, .val (.string s))], [(3, ⟨30, 3, true, [[.val (.int .i16 0), .val (.int .i16 0), .val (.int .i16 0)]]⟩), (2, ⟨2, 1, false, i64s ((splP 32 s).map vlW)⟩), (1, ⟨9, 1, false, strs (splP 32 s)⟩), (0, ⟨30, 3, true, [[.val (.int .i16 0), .val (.int .i16 0), .val (.int .i16 0)]]⟩)], 4⟩) ?_ (fun hS13 => ?_)
        · skip
          refine anyS_cons T0_ok hP hm hN (by rfl) [1] (by rfl) rfl ?_
          refine ⟨⟨_, rfl, rfl, ?_⟩, trivial⟩
          refine g1 ?_
          exact anyS_weak (st' := ⟨[(46, .ptr 2 0 0), (52, .val (.int .i16 (((splP 32 s).map vlW).getD 1 0))), (56, .val (.int .i16 (((splP 32 s).map vlW).getD 2 0))), (10, .ptr 3 0 0), (6, .own 2), (5, .own 1), (4, .val (.int .i64 0)), (3, .nil), (2, .ptr 0 0 0), (0, .val (.string s))], [(3, ⟨30, 3, true, [[.val (.int .i16 0), .val (.int .i16 0), .val (.int .i16 0)]]⟩), (2, ⟨2, 1, false, i64s ((splP 32 s).map vlW)⟩), (1, ⟨9, 1, false, strs (splP 32 s)⟩), (0, ⟨30, 3, true, [[.val (.int .i16 0), .val (.int .i16 0), .val (.int .i16 0)]]⟩)], 4⟩) (by exact weak_sl (sub_cons rfl (sub_cons rfl (sub_cons rfl (sub_cons rfl (sub_cons rfl (sub_cons rfl (sub_cons rfl (sub_cons rfl (sub_cons rfl (sub_cons rfl (sub_nil)))))))))))) hS7
        refine anyS_cut (fuel' := 6) (listed' := #[true, true, true, true, true, true, true, true, true, false, false, false, false, false, false]) (st' := ⟨[(48, .val (.int .i16 (((splP 32 s).map vlW).getD 0 0))), (52, .val (.int .i16 (((splP 32 s).map vlW).getD 1 0))), (53, .own 2), (6, .own 2), (5, .own 1), (4, .val (.int .i64 0)), (3, .nil), (2, .ptr 0 0 0), (0, .val (.string s))], [(2, ⟨2, 1, false, i64s ((splP 32 s).map vlW)⟩), (1, ⟨9, 1, false, strs (splP 32 s)⟩), (0, ⟨30, 3, true, [[.val (.int .i16 0), .val (.int .i16 0), .val (.int .i16 0)]]⟩)], 3⟩) ?_ (fun hS14 => ?_)
        · skip
          refine anyS_cons T0_ok hP hm hN (by rfl) [9, 13] (by rfl) rfl ?_
          refine ⟨⟨_, rfl, rfl, ?_⟩, ?_⟩
          · skip
            refine g1 ?_
            exact anyS_weak (st' := ⟨[(48, .val (.int .i16 (((splP 32 s).map vlW).getD 0 0))), (52, .val (.int .i16 (((splP 32 s).map vlW).getD 1 0))), (54, .ptr 2 2 0), (6, .own 2), (5, .own 1), (4, .val (.int .i64 0)), (3, .nil), (2, .ptr 0 0 0), (0, .val (.string s))], [(2, ⟨2, 1, false, i64s ((splP 32 s).map vlW)⟩), (1, ⟨9, 1, false, strs (splP 32 s)⟩), (0, ⟨30, 3, true, [[.val (.int .i16 0), .val (.int .i16 0), .val (.int .i16 0)]]⟩)], 3⟩) (by exact weak_sl (sub_cons rfl (sub_cons rfl (sub_cons rfl (sub_cons rfl (sub_cons rfl (sub_cons rfl (sub_cons rfl (sub_cons rfl (sub_cons rfl (sub_nil))))))))))) hS8
          refine ⟨⟨_, rfl, rfl, ?_⟩, trivial⟩
          refine g1 ?_
          exact anyS_weak (st' := ⟨[(48, .val (.int .i16 (((splP 32 s).map vlW).getD 0 0))), (52, .val (.int .i16 (((splP 32 s).map vlW).getD 1 0))), (53, .own 2), (10, .ptr 3 0 0), (6, .own 2), (5, .own 1), (4, .val (.int .i64 0)), (3, .nil), (2, .ptr 0 0 0), (0, .val (.string s))], [(3, ⟨30, 3, true, [[.val (.int .i16 0), .val (.int .i16 0), .val (.int .i16 0)]]⟩), (2, ⟨2, 1, false, i64s ((splP 32 s).map vlW)⟩), (1, ⟨9, 1, false, strs (splP 32 s)⟩), (0, ⟨30, 3, true, [[.val (.int .i16 0), .val (.int .i16 0), .val (.int .i16 0)]]⟩)], 4⟩) (by exact weak_sl (sub_cons rfl (sub_cons rfl (sub_cons rfl (sub_cons rfl (sub_cons rfl (sub_cons rfl (sub_cons rfl (sub_cons rfl (sub_cons rfl (sub_cons rfl (sub_nil)))))))))))) hS9
        refine anyS_cut (fuel' := 6) (listed' := #[true, true, true, true, true, true, false, false, true, true, false, false, false, true, false]) (st' := ⟨[(48, .val (.int .i16 (((splP 32 s).map vlW).getD 0 0))), (50, .ptr 2 1 0), (54, .ptr 2 2 0), (10, .ptr 3 0 0), (6, .own 2), (5, .own 1), (4, .val (.int .i64 0)), (3, .nil), (2, .ptr 0 0 0), (0, .val (.string s))], [(3, ⟨30, 3, true, [[.val (.int .i16 0), .val (.int .i16 0), .val (.int .i16 0)]]⟩), (2, ⟨2, 1, false, i64s ((splP 32 s).map vlW)⟩), (1, ⟨9, 1, false, strs (splP 32 s)⟩), (0, ⟨30, 3, true, [[.val (.int .i16 0), .val (.int .i16 0), .val (.int .i16 0)]]⟩)], 4⟩) ?_ (fun hS15 => ?_)
        · skip
          refine anyS_cons T0_ok hP hm hN (by rfl) [6, 10] (by rfl) rfl ?_
          refine ⟨⟨_, rfl, rfl, ?_⟩, ?_⟩
          · skip
            refine g1 ?_
            refine anyS_floatV T0_ok hP hm hN (by rfl) 7 rfl rfl (by rfl) (by rfl) (by first | trivial | rfl | exact ⟨rfl, rfl⟩ | exact ⟨rfl, rfl, fun _ => rfl, Nat.le_of_ble_eq_true rfl, .inl rfl⟩ | exact ⟨rfl, rfl, fun h => (nomatch h), Nat.le_of_ble_eq_true rfl, .inl rfl⟩ | exact ⟨rfl, rfl, fun _ => rfl, Nat.le_of_ble_eq_true rfl, .inr rfl⟩ | exact ⟨rfl, rfl, fun h => (nomatch h), Nat.le_of_ble_eq_true rfl, .inr rfl⟩ | omega | exact ⟨rfl, by (repeat (first | exact fm_nil | refine fm_cons ⟨rfl, rfl⟩ ?_)), Nat.le_of_ble_eq_true rfl, Nat.le_of_ble_eq_true rfl⟩ | (refine ⟨?_, ?_, ?_, ?_, ?_, ?_, ?_⟩ <;> first | omega | exact Nat.le_of_ble_eq_true rfl) | exact ⟨rfl, by omega, by (try simp only [List.length_map, List.length_set]); omega⟩ | exact ⟨rfl, by omega, by simp only [Int.toNat_natCast]; omega, by omega, Nat.le_of_ble_eq_true rfl, rfl⟩) rfl (by rfl) (by rfl) (by rfl) ?_
            refine g1 ?_
            exact anyS_weak (st' := ⟨[(48, .val (.int .i16 (((splP 32 s).map vlW).getD 0 0))), (52, .val (.int .i16 (((splP 32 s).map vlW).getD 1 0))), (54, .ptr 2 2 0), (10, .ptr 3 0 0), (6, .own 2), (5, .own 1), (4, .val (.int .i64 0)), (3, .nil), (2, .ptr 0 0 0), (0, .val (.string s))], [(3, ⟨30, 3, true, [[.val (.int .i16 0), .val (.int .i16 0), .val (.int .i16 0)]]⟩), (2, ⟨2, 1, false, i64s ((splP 32 s).map vlW)⟩), (1, ⟨9, 1, false, strs (splP 32 s)⟩), (0, ⟨30, 3, true, [[.val (.int .i16 0), .val (.int .i16 0), .val (.int .i16 0)]]⟩)], 4⟩) (by exact weak_sl (sub_cons rfl (sub_cons rfl (sub_cons rfl (sub_cons rfl (sub_cons rfl (sub_cons rfl (sub_cons rfl (sub_cons rfl (sub_cons rfl (sub_cons rfl (sub_nil)))))))))))) hS5
          refine ⟨⟨_, rfl, rfl, ?_⟩, trivial⟩
          refine g1 ?_
          refine anyS_floatV T0_ok hP hm hN (by rfl) 11 rfl rfl (by rfl) (by rfl) (by first | trivial | rfl | exact ⟨rfl, rfl⟩ | exact ⟨rfl, rfl, fun _ => rfl, Nat.le_of_ble_eq_true rfl, .inl rfl⟩ | exact ⟨rfl, rfl, fun h => (nomatch h), Nat.le_of_ble_eq_true rfl, .inl rfl⟩ | exact ⟨rfl, rfl, fun _ => rfl, Nat.le_of_ble_eq_true rfl, .inr rfl⟩ | exact ⟨rfl, rfl, fun h => (nomatch h), Nat.le_of_ble_eq_true rfl, .inr rfl⟩ | omega | exact ⟨rfl, by (repeat (first | exact fm_nil | refine fm_cons ⟨rfl, rfl⟩ ?_)), Nat.le_of_ble_eq_true rfl, Nat.le_of_ble_eq_true rfl⟩ | (refine ⟨?_, ?_, ?_, ?_, ?_, ?_, ?_⟩ <;> first | omega | exact Nat.le_of_ble_eq_true rfl) | exact ⟨rfl, by omega, by (try simp only [List.length_map, List.length_set]); omega⟩ | exact ⟨rfl, by omega, by simp only [Int.toNat_natCast]; omega, by omega, Nat.le_of_ble_eq_true rfl, rfl⟩) rfl (by rfl) (by rfl) (by rfl) ?_
          refine g1 ?_
          exact anyS_weak (st' := ⟨[(48, .val (.int .i16 (((splP 32 s).map vlW).getD 0 0))), (50, .ptr 2 1 0), (56, .val (.int .i16 (((splP 32 s).map vlW).getD 2 0))), (10, .ptr 3 0 0), (6, .own 2), (5, .own 1), (4, .val (.int .i64 0)), (3, .nil), (2, .ptr 0 0 0), (0, .val (.string s))], [(3, ⟨30, 3, true, [[.val (.int .i16 0), .val (.int .i16 0), .val (.int .i16 0)]]⟩), (2, ⟨2, 1, false, i64s ((splP 32 s).map vlW)⟩), (1, ⟨9, 1, false, strs (splP 32 s)⟩), (0, ⟨30, 3, true, [[.val (.int .i16 0), .val (.int .i16 0), .val (.int .i16 0)]]⟩)], 4⟩) (by exact weak_sl (sub_cons rfl (sub_cons rfl (sub_cons rfl (sub_cons rfl (sub_cons rfl (sub_cons rfl (sub_cons rfl (sub_cons rfl (sub_cons rfl (sub_cons rfl (sub_nil)))))))))))) hS6
        refine anyS_cut (fuel' := 6) (listed' := #[true, true, true, true, true, false, false, false, true, true, true, true, false, false, false]) (st' := ⟨[(48, .val (.int .i16 (((splP 32 s).map vlW).getD 0 0))), (49, .own 2), (56, .val (.int .i16 (((splP 32 s).map vlW).getD 2 0))), (6, .own 2), (5, .own 1), (4, .val (.int .i64 0)), (3, .nil), (2, .ptr 0 0 0), (0, .val (.string s))], [(2, ⟨2, 1, false, i64s ((splP 32 s).map vlW)⟩), (1, ⟨9, 1, false, strs (splP 32 s)⟩), (0, ⟨30, 3, true, [[.val (.int .i16 0), .val (.int .i16 0), .val (.int .i16 0)]]⟩)], 3⟩) ?_ (fun hS16 => ?_)
        · skip
          refine anyS_cons T0_ok hP hm hN (by rfl) [5, 13] (by rfl) rfl ?_
          refine ⟨⟨_, rfl, rfl, ?_⟩, ?_⟩
          · skip
            refine g1 ?_
            exact anyS_weak (st' := ⟨[(48, .val (.int .i16 (((splP 32 s).map vlW).getD 0 0))), (50, .ptr 2 1 0), (56, .val (.int .i16 (((splP 32 s).map vlW).getD 2 0))), (6, .own 2), (5, .own 1), (4, .val (.int .i64 0)), (3, .nil), (2, .ptr 0 0 0), (0, .val (.string s))], [(2, ⟨2, 1, false, i64s ((splP 32 s).map vlW)⟩), (1, ⟨9, 1, false, strs (splP 32 s)⟩), (0, ⟨30, 3, true, [[.val (.int .i16 0), .val (.int .i16 0), .val (.int .i16 0)]]⟩)], 3⟩) (by exact weak_sl (sub_cons rfl (sub_cons rfl (sub_cons rfl (sub_cons rfl (sub_cons rfl (sub_cons rfl (sub_cons rfl (sub_cons rfl (sub_cons rfl (sub_nil))))))))))) hS10
          refine ⟨⟨_, rfl, rfl, ?_⟩, trivial⟩
          refine g1 ?_
          exact anyS_weak (st' := ⟨[(48, .val (.int .i16 (((splP 32 s).map vlW).getD 0 0))), (49, .own 2), (56, .val (.int .i16 (((splP 32 s).map vlW).getD 2 0))), (10, .ptr 3 0 0), (6, .own 2), (5, .own 1), (4, .val (.int .i64 0)), (3, .nil), (2, .ptr 0 0 0), (0, .val (.string s))], [(3, ⟨30, 3, true, [[.val (.int .i16 0), .val (.int .i16 0), .val (.int .i16 0)]]⟩), (2, ⟨2, 1, false, i64s ((splP 32 s).map vlW)⟩), (1, ⟨9, 1, false, strs (splP 32 s)⟩), (0, ⟨30, 3, true, [[.val (.int .i16 0), .val (.int .i16 0), .val (.int .i16 0)]]⟩)], 4⟩) (by exact weak_sl (sub_cons rfl (sub_cons rfl (sub_cons rfl (sub_cons rfl (sub_cons rfl (sub_cons rfl (sub_cons rfl (sub_cons rfl (sub_cons rfl (sub_cons rfl (sub_nil)))))))))))) hS11
        refine anyS_cut (fuel' := 6) (listed' := #[true, true, false, false, true, true, true, true, true, true, false, false, false, true, false]) (st' := ⟨[(46, .ptr 2 0 0), (52, .val (.int .i16 (((splP 32 s).map vlW).getD 1 0))), (54, .ptr 2 2 0), (10, .ptr 3 0 0), (6, .own 2), (5, .own 1), (4, .val (.int .i64 0)), (3, .nil), (2, .ptr 0 0 0), (0, .val (.string s))], [(3, ⟨30, 3, true, [[.val (.int .i16 0), .val (.int .i16 0), .val (.int .i16 0)]]⟩), (2, ⟨2, 1, false, i64s ((splP 32 s).map vlW)⟩), (1, ⟨9, 1, false, strs (splP 32 s)⟩), (0, ⟨30, 3, true, [[.val (.int .i16 0), .val (.int .i16 0), .val (.int .i16 0)]]⟩)], 4⟩) ?_ (fun hS17 => ?_)
        · skip
          refine anyS_cons T0_ok hP hm hN (by rfl) [2, 10] (by rfl) rfl ?_
          refine ⟨⟨_, rfl, rfl, ?_⟩, ?_⟩
          · skip
            refine g1 ?_
            refine anyS_floatV T0_ok hP hm hN (by rfl) 3 rfl rfl (by rfl) (by rfl) (by first | trivial | rfl | exact ⟨rfl, rfl⟩ | exact ⟨rfl, rfl, fun _ => rfl, Nat.le_of_ble_eq_true rfl, .inl rfl⟩ | exact ⟨rfl, rfl, fun h => (nomatch h), Nat.le_of_ble_eq_true rfl, .inl rfl⟩ | exact ⟨rfl, rfl, fun _ => rfl, Nat.le_of_ble_eq_true rfl, .inr rfl⟩ | exact ⟨rfl, rfl, fun h => (nomatch h), Nat.le_of_ble_eq_true rfl, .inr rfl⟩ | omega | exact ⟨rfl, by (repeat (first | exact fm_nil | refine fm_cons ⟨rfl, rfl⟩ ?_)), Nat.le_of_ble_eq_true rfl, Nat.le_of_ble_eq_true rfl⟩ | (refine ⟨?_, ?_, ?_, ?_, ?_, ?_, ?_⟩ <;> first | omega | exact Nat.le_of_ble_eq_true rfl) | exact ⟨rfl, by omega, by (try simp only [List.length_map, List.length_set]); omega⟩ | exact ⟨rfl, by omega, by simp only [Int.toNat_natCast]; omega, by omega, Nat.le_of_ble_eq_true rfl, rfl⟩) rfl (by rfl) (by rfl) (by rfl) ?_
            refine g1 ?_
            exact anyS_weak (st' := ⟨[(48, .val (.int .i16 (((splP 32 s).map vlW).getD 0 0))), (52, .val (.int .i16 (((splP 32 s).map vlW).getD 1 0))), (54, .ptr 2 2 0), (10, .ptr 3 0 0), (6, .own 2), (5, .own 1), (4, .val (.int .i64 0)), (3, .nil), (2, .ptr 0 0 0), (0, .val (.string s))], [(3, ⟨30, 3, true, [[.val (.int .i16 0), .val (.int .i16 0), .val (.int .i16 0)]]⟩), (2, ⟨2, 1, false, i64s ((splP 32 s).map vlW)⟩), (1, ⟨9, 1, false, strs (splP 32 s)⟩), (0, ⟨30, 3, true, [[.val (.int .i16 0), .val (.int .i16 0), .val (.int .i16 0)]]⟩)], 4⟩) (by exact weak_sl (sub_cons rfl (sub_cons rfl (sub_cons rfl (sub_cons rfl (sub_cons rfl (sub_cons rfl (sub_cons rfl (sub_cons rfl (sub_cons rfl (sub_cons rfl (sub_nil)))))))))))) hS5
          refine ⟨⟨_, rfl, rfl, ?_⟩, trivial⟩
          refine g1 ?_
          refine anyS_floatV T0_ok hP hm hN (by rfl) 11 rfl rfl (by rfl) (by rfl) (by first | trivial | rfl | exact ⟨rfl, rfl⟩ | exact ⟨rfl, rfl, fun _ => rfl, Nat.le_of_ble_eq_true rfl, .inl rfl⟩ | exact ⟨rfl, rfl, fun h => (nomatch h), Nat.le_of_ble_eq_true rfl, .inl rfl⟩ | exact ⟨rfl, rfl, fun _ => rfl, Nat.le_of_ble_eq_true rfl, .inr rfl⟩ | exact ⟨rfl, rfl, fun h => (nomatch h), Nat.le_of_ble_eq_true rfl, .inr rfl⟩ | omega | exact ⟨rfl, by (repeat (first | exact fm_nil | refine fm_cons ⟨rfl, rfl⟩ ?_)), Nat.le_of_ble_eq_true rfl, Nat.le_of_ble_eq_true rfl⟩ | (refine ⟨?_, ?_, ?_, ?_, ?_, ?_, ?_⟩ <;> first | omega | exact Nat.le_of_ble_eq_true rfl) | exact ⟨rfl, by omega, by (try simp only [List.length_map, List.length_set]); omega⟩ | exact ⟨rfl, by omega, by simp only [Int.toNat_natCast]; omega, by omega, Nat.le_of_ble_eq_true rfl, rfl⟩) rfl (by rfl) (by rfl) (by rfl) ?_
          refine g1 ?_
          exact anyS_weak (st' := ⟨[(46, .ptr 2 0 0), (52, .val (.int .i16 (((splP 32 s).map vlW).getD 1 0))), (56, .val (.int .i16 (((splP 32 s).map vlW).getD 2 0))), (10, .ptr 3 0 0), (6, .own 2), (5, .own 1), (4, .val (.int .i64 0)), (3, .nil), (2, .ptr 0 0 0), (0, .val (.string s))], [(3, ⟨30, 3, true, [[.val (.int .i16 0), .val (.int .i16 0), .val (.int .i16 0)]]⟩), (2, ⟨2, 1, false, i64s ((splP 32 s).map vlW)⟩), (1, ⟨9, 1, false, strs (splP 32 s)⟩), (0, ⟨30, 3, true, [[.val (.int .i16 0), .val (.int .i16 0), .val (.int .i16 0)]]⟩)], 4⟩) (by exact weak_sl (sub_cons rfl (sub_cons rfl (sub_cons rfl (sub_cons rfl (sub_cons rfl (sub_cons rfl (sub_cons rfl (sub_cons rfl (sub_cons rfl (sub_cons rfl (sub_nil)))))))))))) hS7
        refine anyS_cut (fuel' := 6) (listed' := #[true, true, false, false, true, true, false, false, true, true, true, true, false, true, false]) (st' := ⟨[(46, .ptr 2 0 0), (50, .ptr 2 1 0), (56, .val (.int .i16 (((splP 32 s).map vlW).getD 2 0))), (10, .ptr 3 0 0), (6, .own 2), (5, .own 1), (4, .val (.int .i64 0)), (3, .nil), (2, .ptr 0 0 0), (0, .val (.string s))], [(3, ⟨30, 3, true, [[.val (.int .i16 0), .val (.int .i16 0), .val (.int .i16 0)]]⟩), (2, ⟨2, 1, false, i64s ((splP 32 s).map vlW)⟩), (1, ⟨9, 1, false, strs (splP 32 s)⟩), (0, ⟨30, 3, true, [[.val (.int .i16 0), .val (.int .i16 0), .val (.int .i16 0)]]⟩)], 4⟩) ?_ (fun hS18 => ?_)
        · skip
          refine anyS_cons T0_ok hP hm hN (by rfl) [2, 6] (by rfl) rfl ?_
          refine ⟨⟨_, rfl, rfl, ?_⟩, ?_⟩
          · skip
            refine g1 ?_
            refine anyS_floatV T0_ok hP hm hN (by rfl) 3 rfl rfl (by rfl) (by rfl) (by first | trivial | rfl | exact ⟨rfl, rfl⟩ | exact ⟨rfl, rfl, fun _ => rfl, Nat.le_of_ble_eq_true rfl, .inl rfl⟩ | exact ⟨rfl, rfl, fun h => (nomatch h), Nat.le_of_ble_eq_true rfl, .inl rfl⟩ | exact ⟨rfl, rfl, fun _ => rfl, Nat.le_of_ble_eq_true rfl, .inr rfl⟩ | exact ⟨rfl, rfl, fun h => (nomatch h), Nat.le_of_ble_eq_true rfl, .inr rfl⟩ | omega | exact ⟨rfl, by (repeat (first | exact fm_nil | refine fm_cons ⟨rfl, rfl⟩ ?_)), Nat.le_of_ble_eq_true rfl, Nat.le_of_ble_eq_true rfl⟩ | (refine ⟨?_, ?_, ?_, ?_, ?_, ?_, ?_⟩ <;> first | omega | exact Nat.le_of_ble_eq_true rfl) | exact ⟨rfl, by omega, by (try simp only [List.length_map, List.length_set]); omega⟩ | exact ⟨rfl, by omega, by simp only [Int.toNat_natCast]; omega, by omega, Nat.le_of_ble_eq_true rfl, rfl⟩) rfl (by rfl) (by rfl) (by rfl) ?_
            refine g1 ?_
            exact anyS_weak (st' := ⟨[(48, .val (.int .i16 (((splP 32 s).map vlW).getD 0 0))), (50, .ptr 2 1 0), (56, .val (.int .i16 (((splP 32 s).map vlW).getD 2 0))), (10, .ptr 3 0 0), (6, .own 2), (5, .own 1), (4, .val (.int .i64 0)), (3, .nil), (2, .ptr 0 0 0), (0, .val (.string s))], [(3, ⟨30, 3, true, [[.val (.int .i16 0), .val (.int .i16 0), .val (.int .i16 0)]]⟩), (2, ⟨2, 1, false, i64s ((splP 32 s).map vlW)⟩), (1, ⟨9, 1, false, strs (splP 32 s)⟩), (0, ⟨30, 3, true, [[.val (.int .i16 0), .val (.int .i16 0), .val (.int .i16 0)]]⟩)], 4⟩) (by exact weak_sl (sub_cons rfl (sub_cons rfl (sub_cons rfl (sub_cons rfl (sub_cons rfl (sub_cons rfl (sub_cons rfl (sub_cons rfl (sub_cons rfl (sub_cons rfl (sub_nil)))))))))))) hS6
          refine ⟨⟨_, rfl, rfl, ?_⟩, trivial⟩
          refine g1 ?_
          refine anyS_floatV T0_ok hP hm hN (by rfl) 7 rfl rfl (by rfl) (by rfl) (by first | trivial | rfl | exact ⟨rfl, rfl⟩ | exact ⟨rfl, rfl, fun _ => rfl, Nat.le_of_ble_eq_true rfl, .inl rfl⟩ | exact ⟨rfl, rfl, fun h => (nomatch h), Nat.le_of_ble_eq_true rfl, .inl rfl⟩ | exact ⟨rfl, rfl, fun _ => rfl, Nat.le_of_ble_eq_true rfl, .inr rfl⟩ | exact ⟨rfl, rfl, fun h => (nomatch h), Nat.le_of_ble_eq_true rfl, .inr rfl⟩ | omega | exact ⟨rfl, by (repeat (first | exact fm_nil | refine fm_cons ⟨rfl, rfl⟩ ?_)), Nat.le_of_ble_eq_true rfl, Nat.le_of_ble_eq_true rfl⟩ | (refine ⟨?_, ?_, ?_, ?_, ?_, ?_, ?_⟩ <;> first | omega | exact Nat.le_of_ble_eq_true rfl) | exact ⟨rfl, by omega, by (try simp only [List.length_map, List.length_set]); omega⟩ | exact ⟨rfl, by omega, by simp only [Int.toNat_natCast]; omega, by omega, Nat.le_of_ble_eq_true rfl, rfl⟩) rfl (by rfl) (by rfl) (by rfl) ?_
          refine g1 ?_
          exact anyS_weak (st' := ⟨[(46, .ptr 2 0 0), (52, .val (.int .i16 (((splP 32 s).map vlW).getD 1 0))), (56, .val (.int .i16 (((splP 32 s).map vlW).getD 2 0))), (10, .ptr 3 0 0), (6, .own 2), (5, .own 1), (4, .val (.int .i64 0)), (3, .nil), (2, .ptr 0 0 0), (0, .val (.string s))], [(3, ⟨30, 3, true, [[.val (.int .i16 0), .val (.int .i16 0), .val (.int .i16 0)]]⟩), (2, ⟨2, 1, false, i64s ((splP 32 s).map vlW)⟩), (1, ⟨9, 1, false, strs (splP 32 s)⟩), (0, ⟨30, 3, true, [[.val (.int .i16 0), .val (.int .i16 0), .val (.int .i16 0)]]⟩)], 4⟩) (by exact weak_sl (sub_cons rfl (sub_cons rfl (sub_cons rfl (sub_cons rfl (sub_cons rfl (sub_cons rfl (sub_cons rfl (sub_cons rfl (sub_cons rfl (sub_cons rfl (sub_nil)))))))))))) hS7
        refine anyS_cut (fuel' := 6) (listed' := #[true, false, false, false, true, true, true, true, true, true, true, true, false, false, false]) (st' := ⟨[(45, .own 2), (52, .val (.int .i16 (((splP 32 s).map vlW).getD 1 0))), (56, .val (.int .i16 (((splP 32 s).map vlW).getD 2 0))), (6, .own 2), (5, .own 1), (4, .val (.int .i64 0)), (3, .nil), (2, .ptr 0 0 0), (0, .val (.string s))], [(2, ⟨2, 1, false, i64s ((splP 32 s).map vlW)⟩), (1, ⟨9, 1, false, strs (splP 32 s)⟩), (0, ⟨30, 3, true, [[.val (.int .i16 0), .val (.int .i16 0), .val (.int .i16 0)]]⟩)], 3⟩) ?_ (fun hS19 => ?_)
        · skip
          refine anyS_cons T0_ok hP hm hN (by rfl) [1, 13] (by rfl) rfl ?_
          refine ⟨⟨_, rfl, rfl, ?_⟩, ?_⟩
          · skip
            refine g1 ?_
            exact anyS_weak (st' := ⟨[(46, .ptr 2 0 0), (52, .val (.int .i16 (((splP 32 s).map vlW).getD 1 0))), (56, .val (.int .i16 (((splP 32 s).map vlW).getD 2 0))), (6, .own 2), (5, .own 1), (4, .val (.int .i64 0)), (3, .nil), (2, .ptr 0 0 0), (0, .val (.string s))], [(2, ⟨2, 1, false, i64s ((splP 32 s).map vlW)⟩), (1, ⟨9, 1, false, strs (splP 32 s)⟩), (0, ⟨30, 3, true, [[.val (.int .i16 0), .val (.int .i16 0), .val (.int .i16 0)]]⟩)], 3⟩) (by exact weak_sl (sub_cons rfl (sub_cons rfl (sub_cons rfl (sub_cons rfl (sub_cons rfl (sub_cons rfl (sub_cons rfl (sub_cons rfl (sub_cons rfl (sub_nil))))))))))) hS12
          refine ⟨⟨_, rfl, rfl, ?_⟩, trivial⟩
          refine g1 ?_
          exact anyS_weak (st' := ⟨[(45, .own 2), (52, .val (.int .i16 (((splP 32 s).map vlW).getD 1 0))), (56, .val (.int .i16 (((splP 32 s).map vlW).getD 2 0))), (10, .ptr 3 0 0), (6, .own 2), (5, .own 1), (4, .val (.int .i64 0)), (3, .nil), (2, .ptr 0 0 0), (0, .val (.string s))], [(3, ⟨30, 3, true, [[.val (.int .i16 0), .val (.int .i16 0), .val (.int .i16 0)]]⟩), (2, ⟨2, 1, false, i64s ((splP 32 s).map vlW)⟩), (1, ⟨9, 1, false, strs (splP 32 s)⟩), (0, ⟨30, 3, true, [[.val (.int .i16 0), .val (.int .i16 0), .val (.int .i16 0)]]⟩)], 4⟩) (by exact weak_sl (sub_cons rfl (sub_cons rfl (sub_cons rfl (sub_cons rfl (sub_cons rfl (sub_cons rfl (sub_cons rfl (sub_cons rfl (sub_cons rfl (sub_cons rfl (sub_nil)))))))))))) hS13
        refine anyS_cut (fuel' := 7) (listed' := #[true, true, true, true, true, true, false, false, true, true, false, false, false, false, false]) (st' := ⟨[(48, .val (.int .i16 (((splP 32 s).map vlW).getD 0 0))), (50, .ptr 2 1 0), (54, .ptr 2 2 0), (6, .own 2), (5, .own 1), (4, .val (.int .i64 0)), (3, .nil), (2, .ptr 0 0 0), (0, .val (.string s))], [(2, ⟨2, 1, false, i64s ((splP 32 s).map vlW)⟩), (1, ⟨9, 1, false, strs (splP 32 s)⟩), (0, ⟨30, 3, true, [[.val (.int .i16 0), .val (.int .i16 0), .val (.int .i16 0)]]⟩)], 3⟩) ?_ (fun hS20 => ?_)
        · skip
          refine anyS_cons T0_ok hP hm hN (by rfl) [6, 10, 13] (by rfl) rfl ?_
          refine ⟨⟨_, rfl, rfl, ?_⟩, ?_⟩
          · skip
            refine g1 ?_
            refine anyS_floatV T0_ok hP hm hN (by rfl) 7 rfl rfl (by rfl) (by rfl) (by first | trivial | rfl | exact ⟨rfl, rfl⟩ | exact ⟨rfl, rfl, fun _ => rfl, Nat.le_of_ble_eq_true rfl, .inl rfl⟩ | exact ⟨rfl, rfl, fun h => (nomatch h), Nat.le_of_ble_eq_true rfl, .inl rfl⟩ | exact ⟨rfl, rfl, fun _ => rfl, Nat.le_of_ble_eq_true rfl, .inr rfl⟩ | exact ⟨rfl, rfl, fun h => (nomatch h), Nat.le_of_ble_eq_true rfl, .inr rfl⟩ | omega | exact ⟨rfl, by (repeat (first | exact fm_nil | refine fm_cons ⟨rfl, rfl⟩ ?_)), Nat.le_of_ble_eq_true rfl, Nat.le_of_ble_eq_true rfl⟩ | (refine ⟨?_, ?_, ?_, ?_, ?_, ?_, ?_⟩ <;> first | omega | exact Nat.le_of_ble_eq_true rfl) | exact ⟨rfl, by omega, by (try simp only [List.length_map, List.length_set]); omega⟩ | exact ⟨rfl, by omega, by simp only [Int.toNat_natCast]; omega, by omega, Nat.le_of_ble_eq_true rfl, rfl⟩) rfl (by rfl) (by rfl) (by rfl) ?_
            refine g1 ?_
            exact anyS_weak (st' := ⟨[(48, .val (.int .i16 (((splP 32 s).map vlW).getD 0 0))), (52, .val (.int .i16 (((splP 32 s).map vlW).getD 1 0))), (54, .ptr 2 2 0), (6, .own 2), (5, .own 1), (4, .val (.int .i64 0)), (3, .nil), (2, .ptr 0 0 0), (0, .val (.string s))], [(2, ⟨2, 1, false, i64s ((splP 32 s).map vlW)⟩), (1, ⟨9, 1, false, strs (splP 32 s)⟩), (0, ⟨30, 3, true, [[.val (.int .i16 0), .val (.int .i16 0), .val (.int .i16 0)]]⟩)], 3⟩) (by exact weak_sl (sub_cons rfl (sub_cons rfl (sub_cons rfl (sub_cons rfl (sub_cons rfl (sub_cons rfl (sub_cons rfl (sub_cons rfl (sub_cons rfl (sub_nil))))))))))) hS8
          refine ⟨⟨_, rfl, rfl, ?_⟩, ?_⟩
          · skip
            refine g1 ?_
            refine anyS_floatV T0_ok hP hm hN (by rfl) 11 rfl rfl (by rfl) (by rfl) (by first | trivial | rfl | exact ⟨rfl, rfl⟩ | exact ⟨rfl, rfl, fun _ => rfl, Nat.le_of_ble_eq_true rfl, .inl rfl⟩ | exact ⟨rfl, rfl, fun h => (nomatch h), Nat.le_of_ble_eq_true rfl, .inl rfl⟩ | exact ⟨rfl, rfl, fun _ => rfl, Nat.le_of_ble_eq_true rfl, .inr rfl⟩ | exact ⟨rfl, rfl, fun h => (nomatch h), Nat.le_of_ble_eq_true rfl, .inr rfl⟩ | omega | exact ⟨rfl, by (repeat (first | exact fm_nil | refine fm_cons ⟨rfl, rfl⟩ ?_)), Nat.le_of_ble_eq_true rfl, Nat.le_of_ble_eq_true rfl⟩ | (refine ⟨?_, ?_, ?_, ?_, ?_, ?_, ?_⟩ <;> first | omega | exact Nat.le_of_ble_eq_true rfl) | exact ⟨rfl, by omega, by (try simp only [List.length_map, List.length_set]); omega⟩ | exact ⟨rfl, by omega, by simp only [Int.toNat_natCast]; omega, by omega, Nat.le_of_ble_eq_true rfl, rfl⟩) rfl (by rfl) (by rfl) (by rfl) ?_
            refine g1 ?_
            exact anyS_weak (st' := ⟨[(48, .val (.int .i16 (((splP 32 s).map vlW).getD 0 0))), (50, .ptr 2 1 0), (56, .val (.int .i16 (((splP 32 s).map vlW).getD 2 0))), (6, .own 2), (5, .own 1), (4, .val (.int .i64 0)), (3, .nil), (2, .ptr 0 0 0), (0, .val (.string s))], [(2, ⟨2, 1, false, i64s ((splP 32 s).map vlW)⟩), (1, ⟨9, 1, false, strs (splP 32 s)⟩), (0, ⟨30, 3, true, [[.val (.int .i16 0), .val (.int .i16 0), .val (.int .i16 0)]]⟩)], 3⟩) (by exact weak_sl (sub_cons rfl (sub_cons rfl (sub_cons rfl (sub_cons rfl (sub_cons rfl (sub_cons rfl (sub_cons rfl (sub_cons rfl (sub_cons rfl (sub_nil))))))))))) hS10
          refine ⟨⟨_, rfl, rfl, ?_⟩, trivial⟩
          refine g1 ?_
          exact anyS_weak (st' := ⟨[(48, .val (.int .i16 (((splP 32 s).map vlW).getD 0 0))), (50, .ptr 2 1 0), (54, .ptr 2 2 0), (10, .ptr 3 0 0), (6, .own 2), (5, .own 1), (4, .val (.int .i64 0)), (3, .nil), (2, .ptr 0 0 0), (0, .val (.string s))], [(3, ⟨30, 3, true, [[.val (.int .i16 0), .val (.int .i16 0), .val (.int .i16 0)]]⟩), (2, ⟨2, 1, false, i64s ((splP 32 s).map vlW)⟩), (1, ⟨9, 1, false, strs (splP 32 s)⟩), (0, ⟨30, 3, true, [[.val (.int .i16 0), .val (.int .i16 0), .val (.int .i16 0)]]⟩)], 4⟩) (by exact weak_sl (sub_cons rfl (sub_cons rfl (sub_cons rfl (sub_cons rfl (sub_cons rfl (sub_cons rfl (sub_cons rfl (sub_cons rfl (sub_cons rfl (sub_cons rfl (sub_nil)))))))))))) hS15
        refine anyS_cut (fuel' := 7) (listed' := #[true, true, true, true, true, true, false, false, true, false, false, false, false, true, false]) (st' := ⟨[(48, .val (.int .i16 (((splP 32 s).map vlW).getD 0 0))), (50, .ptr 2 1 0), (53, .own 2), (10, .ptr 3 0 0), (6, .own 2), (5, .own 1), (4, .val (.int .i64 0)), (3, .nil), (2, .ptr 0 0 0), (0, .val (.string s))], [(3, ⟨30, 3, true, [[.val (.int .i16 0), .val (.int .i16 0), .val (.int .i16 0)]]⟩), (2, ⟨2, 1, false, i64s ((splP 32 s).map vlW)⟩), (1, ⟨9, 1, false, strs (splP 32 s)⟩), (0, ⟨30, 3, true, [[.val (.int .i16 0), .val (.int .i16 0), .val (.int .i16 0)]]⟩)], 4⟩) ?_ (fun hS21 => ?_)
        · skip
          refine anyS_cons T0_ok hP hm hN (by rfl) [6, 9] (by rfl) rfl ?_
          refine ⟨⟨_, rfl, rfl, ?_⟩, ?_⟩
          · skip
            refine g1 ?_
            refine anyS_floatV T0_ok hP hm hN (by rfl) 7 rfl rfl (by rfl) (by rfl) (by first | trivial | rfl | exact ⟨rfl, rfl⟩ | exact ⟨rfl, rfl, fun _ => rfl, Nat.le_of_ble_eq_true rfl, .inl rfl⟩ | exact ⟨rfl, rfl, fun h => (nomatch h), Nat.le_of_ble_eq_true rfl, .inl rfl⟩ | exact ⟨rfl, rfl, fun _ => rfl, Nat.le_of_ble_eq_true rfl, .inr rfl⟩ | exact ⟨rfl, rfl, fun h => (nomatch h), Nat.le_of_ble_eq_true rfl, .inr rfl⟩ | omega | exact ⟨rfl, by (repeat (first | exact fm_nil | refine fm_cons ⟨rfl, rfl⟩ ?_)), Nat.le_of_ble_eq_true rfl, Nat.le_of_ble_eq_true rfl⟩ | (refine ⟨?_, ?_, ?_, ?_, ?_, ?_, ?_⟩ <;> first | omega | exact Nat.le_of_ble_eq_true rfl) | exact ⟨rfl, by omega, by (try simp only [List.length_map, List.length_set]); omega⟩ | exact ⟨rfl, by omega, by simp only [Int.toNat_natCast]; omega, by omega, Nat.le_of_ble_eq_true rfl, rfl⟩) rfl (by rfl) (by rfl) (by rfl) ?_
            refine g1 ?_
            exact anyS_weak (st' := ⟨[(48, .val (.int .i16 (((splP 32 s).map vlW).getD 0 0))), (52, .val (.int .i16 (((splP 32 s).map vlW).getD 1 0))), (53, .own 2), (10, .ptr 3 0 0), (6, .own 2), (5, .own 1), (4, .val (.int .i64 0)), (3, .nil), (2, .ptr 0 0 0), (0, .val (.string s))], [(3, ⟨30, 3, true, [[.val (.int .i16 0), .val (.int .i16 0), .val (.int .i16 0)]]⟩), (2, ⟨2, 1, false, i64s ((splP 32 s).map vlW)⟩), (1, ⟨9, 1, false, strs (splP 32 s)⟩), (0, ⟨30, 3, true, [[.val (.int .i16 0), .val (.int .i16 0), .val (.int .i16 0)]]⟩)], 4⟩) (by exact weak_sl (sub_cons rfl (sub_cons rfl (sub_cons rfl (sub_cons rfl (sub_cons rfl (sub_cons rfl (sub_cons rfl (sub_cons rfl (sub_cons rfl (sub_cons rfl (sub_nil)))))))))))) hS9
          refine ⟨⟨_, rfl, rfl, ?_⟩, trivial⟩
          refine g1 ?_
          exact anyS_weak (st' := ⟨[(48, .val (.int .i16 (((splP 32 s).map vlW).getD 0 0))), (50, .ptr 2 1 0), (54, .ptr 2 2 0), (10, .ptr 3 0 0), (6, .own 2), (5, .own 1), (4, .val (.int .i64 0)), (3, .nil), (2, .ptr 0 0 0), (0, .val (.string s))], [(3, ⟨30, 3, true, [[.val (.int .i16 0), .val (.int .i16 0), .val (.int .i16 0)]]⟩), (2, ⟨2, 1, false, i64s ((splP 32 s).map vlW)⟩), (1, ⟨9, 1, false, strs (splP 32 s)⟩), (0, ⟨30, 3, true, [[.val (.int .i16 0), .val (.int .i16 0), .val (.int .i16 0)]]⟩)], 4⟩) (by exact weak_sl (sub_cons rfl (sub_cons rfl (sub_cons rfl (sub_cons rfl (sub_cons rfl (sub_cons rfl (sub_cons rfl (sub_cons rfl (sub_cons rfl (sub_cons rfl (sub_nil)))))))))))) hS15
        refine anyS_cut (fuel' := 7) (listed' := #[true, true, true, true, true, false, false, false, true, true, false, false, false, true, false]) (st' := ⟨[(48, .val (.int .i16 (((splP 32 s).map vlW).getD 0 0))), (49, .own 2), (54, .ptr 2 2 0), (10, .ptr 3 0 0), (6, .own 2), (5, .own 1), (4, .val (.int .i64 0)), (3, .nil), (2, .ptr 0 0 0), (0, .val (.string s))], [(3, ⟨30, 3, true, [[.val (.int .i16 0), .val (.int .i16 0), .val (.int .i16 0)]]⟩), (2, ⟨2, 1, false, i64s ((splP 32 s).map vlW)⟩), (1, ⟨9, 1, false, strs (splP 32 s)⟩), (0, ⟨30, 3, true, [[.val (.int .i16 0), .val (.int .i16 0), .val (.int .i16 0)]]⟩)], 4⟩) ?_ (fun hS22 => ?_)
        · skip
          refine anyS_cons T0_ok hP hm hN (by rfl) [5, 10] (by rfl) rfl ?_
          refine ⟨⟨_, rfl, rfl, ?_⟩, ?_⟩
          · skip
            refine g1 ?_
            exact anyS_weak (st' := ⟨[(48, .val (.int .i16 (((splP 32 s).map vlW).getD 0 0))), (50, .ptr 2 1 0), (54, .ptr 2 2 0), (10, .ptr 3 0 0), (6, .own 2), (5, .own 1), (4, .val (.int .i64 0)), (3, .nil), (2, .ptr 0 0 0), (0, .val (.string s))], [(3, ⟨30, 3, true, [[.val (.int .i16 0), .val (.int .i16 0), .val (.int .i16 0)]]⟩), (2, ⟨2, 1, false, i64s ((splP 32 s).map vlW)⟩), (1, ⟨9, 1, false, strs (splP 32 s)⟩), (0, ⟨30, 3, true, [[.val (.int .i16 0), .val (.int .i16 0), .val (.int .i16 0)]]⟩)], 4⟩) (by exact weak_sl (sub_cons rfl (sub_cons rfl (sub_cons rfl (sub_cons rfl (sub_cons rfl (sub_cons rfl (sub_cons rfl (sub_cons rfl (sub_cons rfl (sub_cons rfl (sub_nil)))))))))))) hS15
          refine ⟨⟨_, rfl, rfl, ?_⟩, trivial⟩
          refine g1 ?_
          refine anyS_floatV T0_ok hP hm hN (by rfl) 11 rfl rfl (by rfl) (by rfl) (by first | trivial | rfl | exact ⟨rfl, rfl⟩ | exact ⟨rfl, rfl, fun _ => rfl, Nat.le_of_ble_eq_true rfl, .inl rfl⟩ | exact ⟨rfl, rfl, fun h => (nomatch h), Nat.le_of_ble_eq_true rfl, .inl rfl⟩ | exact ⟨rfl, rfl, fun _ => rfl, Nat.le_of_ble_eq_true rfl, .inr rfl⟩ | exact ⟨rfl, rfl, fun h => (nomatch h), Nat.le_of_ble_eq_true rfl, .inr rfl⟩ | omega | exact ⟨rfl, by (repeat (first | exact fm_nil | refine fm_cons ⟨rfl, rfl⟩ ?_)), Nat.le_of_ble_eq_true rfl, Nat.le_of_ble_eq_true rfl⟩ | (refine ⟨?_, ?_, ?_, ?_, ?_, ?_, ?_⟩ <;> first | omega | exact Nat.le_of_ble_eq_true rfl) | exact ⟨rfl, by omega, by (try simp only [List.length_map, List.length_set]); omega⟩ | exact ⟨rfl, by omega, by simp only [Int.toNat_natCast]; omega, by omega, Nat.le_of_ble_eq_true rfl, rfl⟩) rfl (by rfl) (by rfl) (by rfl) ?_
          refine g1 ?_
          exact anyS_weak (st' := ⟨[(48, .val (.int .i16 (((splP 32 s).map vlW).getD 0 0))), (49, .own 2), (56, .val (.int .i16 (((splP 32 s).map vlW).getD 2 0))), (10, .ptr 3 0 0), (6, .own 2), (5, .own 1), (4, .val (.int .i64 0)), (3, .nil), (2, .ptr 0 0 0), (0, .val (.string s))], [(3, ⟨30, 3, true, [[.val (.int .i16 0), .val (.int .i16 0), .val (.int .i16 0)]]⟩), (2, ⟨2, 1, false, i64s ((splP 32 s).map vlW)⟩), (1, ⟨9, 1, false, strs (splP 32 s)⟩), (0, ⟨30, 3, true, [[.val (.int .i16 0), .val (.int .i16 0), .val (.int .i16 0)]]⟩)], 4⟩) (by exact weak_sl (sub_cons rfl (sub_cons rfl (sub_cons rfl (sub_cons rfl (sub_cons rfl (sub_cons rfl (sub_cons rfl (sub_cons rfl (sub_cons rfl (sub_cons rfl (sub_nil)))))))))))) hS11
        refine anyS_cut (fuel' := 7) (listed' := #[true, true, false, false, true, true, true, true, true, true, false, false, false, false, false]) (st' := ⟨[(46, .ptr 2 0 0), (52, .val (.int .i16 (((splP 32 s).map vlW).getD 1 0))), (54, .ptr 2 2 0), (6, .own 2), (5, .own 1), (4, .val (.int .i64 0)), (3, .nil), (2, .ptr 0 0 0), (0, .val (.string s))], [(2, ⟨2, 1, false, i64s ((splP 32 s).map vlW)⟩), (1, ⟨9, 1, false, strs (splP 32 s)⟩), (0, ⟨30, 3, true, [[.val (.int .i16 0), .val (.int .i16 0), .val (.int .i16 0)]]⟩)], 3⟩) ?_ (fun hS23 => ?_)
        · skip
          refine anyS_cons T0_ok hP hm hN (by rfl) [2, 10, 13] (by rfl) rfl ?_
          refine ⟨⟨_, rfl, rfl, ?_⟩, ?_⟩
          · skip
            refine g1 ?_
            refine anyS_floatV T0_ok hP hm hN (by rfl) 3 rfl rfl (by rfl) (by rfl) (by first | trivial | rfl | exact ⟨rfl, rfl⟩ | exact ⟨rfl, rfl, fun _ => rfl, Nat.le_of_ble_eq_true rfl, .inl rfl⟩ | exact ⟨rfl, rfl, fun h => (nomatch h), Nat.le_of_ble_eq_true rfl, .inl rfl⟩ | exact ⟨rfl, rfl, fun _ => rfl, Nat.le_of_ble_eq_true rfl, .inr rfl⟩ | exact ⟨rfl, rfl, fun h => (nomatch h), Nat.le_of_ble_eq_true rfl, .inr rfl⟩ | omega | exact ⟨rfl, by (repeat (first | exact fm_nil | refine fm_cons ⟨rfl, rfl⟩ ?_)), Nat.le_of_ble_eq_true rfl, Nat.le_of_ble_eq_true rfl⟩ | (refine ⟨?_, ?_, ?_, ?_, ?_, ?_, ?_⟩ <;> first | omega | exact Nat.le_of_ble_eq_true rfl) | exact ⟨rfl, by omega, by (try simp only [List.length_map, List.length_set]); omega⟩ | exact ⟨rfl, by omega, by simp only [Int.toNat_natCast]; omega, by omega, Nat.le_of_ble_eq_true rfl, rfl⟩) rfl (by rfl) (by rfl) (by rfl) ?_
            refine g1 ?_
            exact anyS_weak (st' := ⟨[(48, .val (.int .i16 (((splP 32 s).map vlW).getD 0 0))), (52, .val (.int .i16 (((splP 32 s).map vlW).getD 1 0))), (54, .ptr 2 2 0), (6, .own 2), (5, .own 1), (4, .val (.int .i64 0)), (3, .nil), (2, .ptr 0 0 0), (0, .val (.string s))], [(2, ⟨2, 1, false, i64s ((splP 32 s).map vlW)⟩), (1, ⟨9, 1, false, strs (splP 32 s)⟩), (0, ⟨30, 3, true, [[.val (.int .i16 0), .val (.int .i16 0), .val (.int .i16 0)]]⟩)], 3⟩) (by exact weak_sl (sub_cons rfl (sub_cons rfl (sub_cons rfl (sub_cons rfl (sub_cons rfl (sub_cons rfl (sub_cons rfl (sub_cons rfl (sub_cons rfl (sub_nil))))))))))) hS8
          refine ⟨⟨_, rfl, rfl, ?_⟩, ?_⟩
          · skip
            refine g1 ?_
            refine anyS_floatV T0_ok hP hm hN (by rfl) 11 rfl rfl (by rfl) (by rfl) (by first | trivial | rfl | exact ⟨rfl, rfl⟩ | exact ⟨rfl, rfl, fun _ => rfl, Nat.le_of_ble_eq_true rfl, .inl rfl⟩ | exact ⟨rfl, rfl, fun h => (nomatch h), Nat.le_of_ble_eq_true rfl, .inl rfl⟩ | exact ⟨rfl, rfl, fun _ => rfl, Nat.le_of_ble_eq_true rfl, .inr rfl⟩ | exact ⟨rfl, rfl, fun h => (nomatch h), Nat.le_of_ble_eq_true rfl, .inr rfl⟩ | omega | exact ⟨rfl, by (repeat (first | exact fm_nil | refine fm_cons ⟨rfl, rfl⟩ ?_)), Nat.le_of_ble_eq_true rfl, Nat.le_of_ble_eq_true rfl⟩ | (refine ⟨?_, ?_, ?_, ?_, ?_, ?_, ?_⟩ <;> first | omega | exact Nat.le_of_ble_eq_true rfl) | exact ⟨rfl, by omega, by (try simp only [List.length_map, List.length_set]); omega⟩ | exact ⟨rfl, by omega, by simp only [Int.toNat_natCast]; omega, by omega, Nat.le_of_ble_eq_true rfl, rfl⟩) rfl (by rfl) (by rfl) (by rfl) ?_
            refine g1 ?_
            exact anyS_weak (st' := ⟨[(46, .ptr 2 0 0), (52, .val (.int .i16 (((splP 32 s).map vlW).getD 1 0))), (56, .val (.int .i16 (((splP 32 s).map vlW).getD 2 0))), (6, .own 2), (5, .own 1), (4, .val (.int .i64 0)), (3, .nil), (2, .ptr 0 0 0), (0, .val (.string s))], [(2, ⟨2, 1, false, i64s ((splP 32 s).map vlW)⟩), (1, ⟨9, 1, false, strs (splP 32 s)⟩), (0, ⟨30, 3, true, [[.val (.int .i16 0), .val (.int .i16 0), .val (.int .i16 0)]]⟩)], 3⟩) (by exact weak_sl (sub_cons rfl (sub_cons rfl (sub_cons rfl (sub_cons rfl (sub_cons rfl (sub_cons rfl (sub_cons rfl (sub_cons rfl (sub_cons rfl (sub_nil))))))))))) hS12
          refine ⟨⟨_, rfl, rfl, ?_⟩, trivial⟩
          refine g1 ?_
          exact anyS_weak (st' := ⟨[(46, .ptr 2 0 0), (52, .val (.int .i16 (((splP 32 s).map vlW).getD 1 0))), (54, .ptr 2 2 0), (10, .ptr 3 0 0), (6, .own 2), (5, .own 1), (4, .val (.int .i64 0)), (3, .nil), (2, .ptr 0 0 0), (0, .val (.string s))], [(3, ⟨30, 3, true, [[.val (.int .i16 0), .val (.int .i16 0), .val (.int .i16 0)]]⟩), (2, ⟨2, 1, false, i64s ((splP 32 s).map vlW)⟩), (1, ⟨9, 1, false, strs (splP 32 s)⟩), (0, ⟨30, 3, true, [[.val (.int .i16 0), .val (.int .i16 0), .val (.int .i16 0)]]⟩)], 4⟩) (by exact weak_sl (sub_cons rfl (sub_cons rfl (sub_cons rfl (sub_cons rfl (sub_cons rfl (sub_cons rfl (sub_cons rfl (sub_cons rfl (sub_cons rfl (sub_cons rfl (sub_nil)))))))))))) hS17
        refine anyS_cut (fuel' := 7) (listed' := #[true, true, false, false, true, true, true, true, true, false, false, false, false, true, false]) (st' := ⟨[(46, .ptr 2 0 0), (52, .val (.int .i16 (((splP 32 s).map vlW).getD 1 0))), (53, .own 2), (10, .ptr 3 0 0), (6, .own 2), (5, .own 1), (4, .val (.int .i64 0)), (3, .nil), (2, .ptr 0 0 0), (0, .val (.string s))], [(3, ⟨30, 3, true, [[.val (.int .i16 0), .val (.int .i16 0), .val (.int .i16 0)]]⟩), (2, ⟨2, 1, false, i64s ((splP 32 s).map vlW)⟩), (1, ⟨9, 1, false, strs (splP 32 s)⟩), (0, ⟨30, 3, true, [[.val (.int .i16 0), .val (.int .i16 0), .val (.int .i16 0)]]⟩)], 4⟩) ?_ (fun hS24 => ?_)
        · skip
          refine anyS_cons T0_ok hP hm hN (by rfl) [2, 9] (by rfl) rfl ?_
          refine ⟨⟨_, rfl, rfl, ?_⟩, ?_⟩
          · skip
            refine g1 ?_
            refine anyS_floatV T0_ok hP hm hN (by rfl) 3 rfl rfl (by rfl) (by rfl) (by first | trivial | rfl | exact ⟨rfl, rfl⟩ | exact ⟨rfl, rfl, fun _ => rfl, Nat.le_of_ble_eq_true rfl, .inl rfl⟩ | exact ⟨rfl, rfl, fun h => (nomatch h), Nat.le_of_ble_eq_true rfl, .inl rfl⟩ | exact ⟨rfl, rfl, fun _ => rfl, Nat.le_of_ble_eq_true rfl, .inr rfl⟩ | exact ⟨rfl, rfl, fun h => (nomatch h), Nat.le_of_ble_eq_true rfl, .inr rfl⟩ | omega | exact ⟨rfl, by (repeat (first | exact fm_nil | refine fm_cons ⟨rfl, rfl⟩ ?_)), Nat.le_of_ble_eq_true rfl, Nat.le_of_ble_eq_true rfl⟩ | (refine ⟨?_, ?_, ?_, ?_, ?_, ?_, ?_⟩ <;> first | omega | exact Nat.le_of_ble_eq_true rfl) | exact ⟨rfl, by omega, by (try simp only [List.length_map, List.length_set]); omega⟩ | exact ⟨rfl, by omega, by simp only [Int.toNat_natCast]; omega, by omega, Nat.le_of_ble_eq_true rfl, rfl⟩) rfl (by rfl) (by rfl) (by rfl) ?_
            refine g1 ?_
            exact anyS_weak (st' := ⟨[(48, .val (.int .i16 (((splP 32 s).map vlW).getD 0 0))), (52, .val (.int .i16 (((splP 32 s).map vlW).getD 1 0))), (53, .own 2), (10, .ptr 3 0 0), (6, .own 2), (5, .own 1), (4, .val (.int .i64 0)), (3, .nil), (2, .ptr 0 0 0), (0, .val (.string s))], [(3, ⟨30, 3, true, [[.val (.int .i16 0), .val (.int .i16 0), .val (.int .i16 0)]]⟩), (2, ⟨2, 1, false, i64s ((splP 32 s).map vlW)⟩), (1, ⟨9, 1, false, strs (splP 32 s)⟩), (0, ⟨30, 3, true, [[.val (.int .i16 0), .val (.int .i16 0), .val (.int .i16 0)]]⟩)], 4⟩) (by exact weak_sl (sub_cons rfl (sub_cons rfl (sub_cons rfl (sub_cons rfl (sub_cons rfl (sub_cons rfl (sub_cons rfl (sub_cons rfl (sub_cons rfl (sub_cons rfl (sub_nil)))))))))))) hS9
          refine ⟨⟨_, rfl, rfl, ?_⟩, trivial⟩
          refine g1 ?_
          exact anyS_weak (st' := ⟨[(46, .ptr 2 0 0), (52, .val (.int .i16 (((splP 32 s).map vlW).getD 1 0))), (54, .ptr 2 2 0), (10, .ptr 3 0 0), (6, .own 2), (5, .own 1), (4, .val (.int .i64 0)), (3, .nil), (2, .ptr 0 0 0), (0, .val (.string s))], [(3, ⟨30, 3, true, [[.val (.int .i16 0), .val (.int .i16 0), .val (.int .i16 0)]]⟩), (2, ⟨2, 1, false, i64s ((splP 32 s).map vlW)⟩), (1, ⟨9, 1, false, strs (splP 32 s)⟩), (0, ⟨30, 3, true, [[.val (.int .i16 0), .val (.int .i16 0), .val (.int .i16 0)]]⟩)], 4⟩) (by exact weak_sl (sub_cons rfl (sub_cons rfl (sub_cons rfl (sub_cons rfl (sub_cons rfl (sub_cons rfl (sub_cons rfl (sub_cons rfl (sub_cons rfl (sub_cons rfl (sub_nil)))))))))))) hS17
        refine anyS_cut (fuel' := 7) (listed' := #[true, true, false, false, true, true, false, false, true, true, true, true, false, false, false]) (st' := ⟨[(46, .ptr 2 0 0), (50, .ptr 2 1 0), (56, .val (.int .i16 (((splP 32 s).map vlW).getD 2 0))), (6, .own 2), (5, .own 1), (4, .val (.int .i64 0)), (3, .nil), (2, .ptr 0 0 0), (0, .val (.string s))], [(2, ⟨2, 1, false, i64s ((splP 32 s).map vlW)⟩), (1, ⟨9, 1, false, strs (splP 32 s)⟩), (0, ⟨30, 3, true, [[.val (.int .i16 0), .val (.int .i16 0), .val (.int .i16 0)]]⟩)], 3⟩) ?_ (fun hS25 => ?_)
        · skip
          refine anyS_cons T0_ok hP hm hN (by rfl) [2, 6, 13] (by rfl) rfl ?_
          refine ⟨⟨_, rfl, rfl, ?_⟩, ?_⟩
          · skip
            refine g1 ?_
            refine anyS_floatV T0_ok hP hm hN (by rfl) 3 rfl rfl (by rfl) (by rfl) (by first | trivial | rfl | exact ⟨rfl, rfl⟩ | exact ⟨rfl, rfl, fun _ => rfl, Nat.le_of_ble_eq_true rfl, .inl rfl⟩ | exact ⟨rfl, rfl, fun h => (nomatch h), Nat.le_of_ble_eq_true rfl, .inl rfl⟩ | exact ⟨rfl, rfl, fun _ => rfl, Nat.le_of_ble_eq_true rfl, .inr rfl⟩ | exact ⟨rfl, rfl, fun h => (nomatch h), Nat.le_of_ble_eq_true rfl, .inr rfl⟩ | omega | exact ⟨rfl, by (repeat (first | exact fm_nil | refine fm_cons ⟨rfl, rfl⟩ ?_)), Nat.le_of_ble_eq_true rfl, Nat.le_of_ble_eq_true rfl⟩ | (refine ⟨?_, ?_, ?_, ?_, ?_, ?_, ?_⟩ <;> first | omega | exact Nat.le_of_ble_eq_true rfl) | exact ⟨rfl, by omega, by (try simp only [List.length_map, List.length_set]); omega⟩ | exact ⟨rfl, by omega, by simp only [Int.toNat_natCast]; omega, by omega, Nat.le_of_ble_eq_true rfl, rfl⟩) rfl (by rfl) (by rfl) (by rfl) ?_
            refine g1 ?_
            exact anyS_weak (st' := ⟨[(48, .val (.int .i16 (((splP 32 s).map vlW).getD 0 0))), (50, .ptr 2 1 0), (56, .val (.int .i16 (((splP 32 s).map vlW).getD 2 0))), (6, .own 2), (5, .own 1), (4, .val (.int .i64 0)), (3, .nil), (2, .ptr 0 0 0), (0, .val (.string s))], [(2, ⟨2, 1, false, i64s ((splP 32 s).map vlW)⟩), (1, ⟨9, 1, false, strs (splP 32 s)⟩), (0, ⟨30, 3, true, [[.val (.int .i16 0), .val (.int .i16 0), .val (.int .i16 0)]]⟩)], 3⟩) (by exact weak_sl (sub_cons rfl (sub_cons rfl (sub_cons rfl (sub_cons rfl (sub_cons rfl (sub_cons rfl (sub_cons rfl (sub_cons rfl (sub_cons rfl (sub_nil))))))))))) hS10
          refine ⟨⟨_, rfl, rfl, ?_⟩, ?_⟩
          · skip
            refine g1 ?_
            refine anyS_floatV T0_ok hP hm hN (by rfl) 7 rfl rfl (by rfl) (by rfl) (by first | trivial | rfl | exact ⟨rfl, rfl⟩ | exact ⟨rfl, rfl, fun _ => rfl, Nat.le_of_ble_eq_true rfl, .inl rfl⟩ | exact ⟨rfl, rfl, fun h => (nomatch h), Nat.le_of_ble_eq_true rfl, .inl rfl⟩ | exact ⟨rfl, rfl, fun _ => rfl, Nat.le_of_ble_eq_true rfl, .inr rfl⟩ | exact ⟨rfl, rfl, fun h => (nomatch h), Nat.le_of_ble_eq_true rfl, .inr rfl⟩ | omega | exact ⟨rfl, by (repeat (first | exact fm_nil | refine fm_cons ⟨rfl, rfl⟩ ?_)), Nat.le_of_ble_eq_true rfl, Nat.le_of_ble_eq_true rfl⟩ | (refine ⟨?_, ?_, ?_, ?_, ?_, ?_, ?_⟩ <;> first | omega | exact Nat.le_of_ble_eq_true rfl) | exact ⟨rfl, by omega, by (try simp only [List.length_map, List.length_set]); omega⟩ | exact ⟨rfl, by omega, by simp only [Int.toNat_natCast]; omega, by omega, Nat.le_of_ble_eq_true rfl, rfl⟩) rfl (by rfl) (by rfl) (by rfl) ?_
            refine g1 ?_
            exact anyS_weak (st' := ⟨[(46, .ptr 2 0 0), (52, .val (.int .i16 (((splP 32 s).map vlW).getD 1 0))), (56, .val (.int .i16 (((splP 32 s).map vlW).getD 2 0))), (6, .own 2), (5, .own 1), (4, .val (.int .i64 0)), (3, .nil), (2, .ptr 0 0 0), (0, .val (.string s))], [(2, ⟨2, 1, false, i64s ((splP 32 s).map vlW)⟩), (1, ⟨9, 1, false, strs (splP 32 s)⟩), (0, ⟨30, 3, true, [[.val (.int .i16 0), .val (.int .i16 0), .val (.int .i16 0)]]⟩)], 3⟩) (by exact weak_sl (sub_cons rfl (sub_cons rfl (sub_cons rfl (sub_cons rfl (sub_cons rfl (sub_cons rfl (sub_cons rfl (sub_cons rfl (sub_cons rfl (sub_nil))))))))))) hS12
          refine ⟨⟨_, rfl, rfl, ?_⟩, trivial⟩
          refine g1 ?_
          exact anyS_weak (st' := ⟨[(46, .ptr 2 0 0), (50, .ptr 2 1 0), (56, .val (.int .i16 (((splP 32 s).map vlW).getD 2 0))), (10, .ptr 3 0 0), (6, .own 2), (5, .own 1), (4, .val (.int .i64 0)), (3, .nil), (2, .ptr 0 0 0), (0, .val (.string s))], [(3, ⟨30, 3, true, [[.val (.int .i16 0), .val (.int .i16 0), .val (.int .i16 0)]]⟩), (2, ⟨2, 1, false, i64s ((splP 32 s).map vlW)⟩), (1, ⟨9, 1, false, strs (splP 32 s)⟩), (0, ⟨30, 3, true, [[.val (.int .i16 0), .val (.int .i16 0), .val (.int .i16 0)]]⟩)], 4⟩) (by exact weak_sl (sub_cons rfl (sub_cons rfl (sub_cons rfl (sub_cons rfl (sub_cons rfl (sub_cons rfl (sub_cons rfl (sub_cons rfl (sub_cons rfl (sub_cons rfl (sub_nil)))))))))))) hS18
        refine anyS_cut (fuel' := 7) (listed' := #[true, true, false, false, true, false, false, false, true, true, true, true, false, true, false]) (st' := ⟨[(46, .ptr 2 0 0), (49, .own 2), (56, .val (.int .i16 (((splP 32 s).map vlW).getD 2 0))), (10, .ptr 3 0 0), (6, .own 2), (5, .own 1), (4, .val (.int .i64 0)), (3, .nil), (2, .ptr 0 0 0), (0, .val (.string s))], [(3, ⟨30, 3, true, [[.val (.int .i16 0), .val (.int .i16 0), .val (.int .i16 0)]]⟩), (2, ⟨2, 1, false, i64s ((splP 32 s).map vlW)⟩), (1, ⟨9, 1, false, strs (splP 32 s)⟩), (0, ⟨30, 3, true, [[.val (.int .i16 0), .val (.int .i16 0), .val (.int .i16 0)]]⟩)], 4⟩) ?_ (fun hS26 => ?_)
        · skip
          refine anyS_cons T0_ok hP hm hN (by rfl) [2, 5] (by rfl) rfl ?_
          refine ⟨⟨_, rfl, rfl, ?_⟩, ?_⟩
          · skip
            refine g1 ?_
            refine anyS_floatV T0_ok hP hm hN (by rfl) 3 rfl rfl (by rfl) (by rfl) (by first | trivial | rfl | exact ⟨rfl, rfl⟩ | exact ⟨rfl, rfl, fun _ => rfl, Nat.le_of_ble_eq_true rfl, .inl rfl⟩ | exact ⟨rfl, rfl, fun h => (nomatch h), Nat.le_of_ble_eq_true rfl, .inl rfl⟩ | exact ⟨rfl, rfl, fun _ => rfl, Nat.le_of_ble_eq_true rfl, .inr rfl⟩ | exact ⟨rfl, rfl, fun h => (nomatch h), Nat.le_of_ble_eq_true rfl, .inr rfl⟩ | omega | exact ⟨rfl, by (repeat (first | exact fm_nil | refine fm_cons ⟨rfl, rfl⟩ ?_)), Nat.le_of_ble_eq_true rfl, Nat.le_of_ble_eq_true rfl⟩ | (refine ⟨?_, ?_, ?_, ?_, ?_, ?_, ?_⟩ <;> first | omega | exact Nat.le_of_ble_eq_true rfl) | exact ⟨rfl, by omega, by (try simp only [List.length_map, List.length_set]); omega⟩ | exact ⟨rfl, by omega, by simp only [Int.toNat_natCast]; omega, by omega, Nat.le_of_ble_eq_true rfl, rfl⟩) rfl (by rfl) (by rfl) (by rfl) ?_
            refine g1 ?_
            exact anyS_weak (st' := ⟨[(48, .val (.int .i16 (((splP 32 s).map vlW).getD 0 0))), (49, .own 2), (56, .val (.int .i16 (((splP 32 s).map vlW).getD 2 0))), (10, .ptr 3 0 0), (6, .own 2), (5, .own 1), (4, .val (.int .i64 0)), (3, .nil), (2, .ptr 0 0 0), (0, .val (.string s))], [(3, ⟨30, 3, true, [[.val (.int .i16 0), .val (.int .i16 0), .val (.int .i16 0)]]⟩), (2, ⟨2, 1, false, i64s ((splP 32 s).map vlW)⟩), (1, ⟨9, 1, false, strs (splP 32 s)⟩), (0, ⟨30, 3, true, [[.val (.int .i16 0), .val (.int .i16 0), .val (.int .i16 0)]]⟩)], 4⟩) (by exact weak_sl (sub_cons rfl (sub_cons rfl (sub_cons rfl (sub_cons rfl (sub_cons rfl (sub_cons rfl (sub_cons rfl (sub_cons rfl (sub_cons rfl (sub_cons rfl (sub_nil)))))))))))) hS11
          refine ⟨⟨_, rfl, rfl, ?_⟩, trivial⟩
          refine g1 ?_
          exact anyS_weak (st' := ⟨[(46, .ptr 2 0 0), (50, .ptr 2 1 0), (56, .val (.int .i16 (((splP 32 s).map vlW).getD 2 0))), (10, .ptr 3 0 0), (6, .own 2), (5, .own 1), (4, .val (.int .i64 0)), (3, .nil), (2, .ptr 0 0 0), (0, .val (.string s))], [(3, ⟨30, 3, true, [[.val (.int .i16 0), .val (.int .i16 0), .val (.int .i16 0)]]⟩), (2, ⟨2, 1, false, i64s ((splP 32 s).map vlW)⟩), (1, ⟨9, 1, false, strs (splP 32 s)⟩), (0, ⟨30, 3, true, [[.val (.int .i16 0), .val (.int .i16 0), .val (.int .i16 0)]]⟩)], 4⟩) (by exact weak_sl (sub_cons rfl (sub_cons rfl (sub_cons rfl (sub_cons rfl (sub_cons rfl (sub_cons rfl (sub_cons rfl (sub_cons rfl (sub_cons rfl (sub_cons rfl (sub_nil)))))))))))) hS18
        refine anyS_cut (fuel' := 7) (listed' := #[true, false, false, false, true, true, true, true, true, true, false, false, false, true, false]) (st' := ⟨[(45, .own 2), (52, .val (.int .i16 (((splP 32 s).map vlW).getD 1 0))), (54, .ptr 2 2 0), (10, .ptr 3 0 0), (6, .own 2), (5, .own 1), (4, .val (.int .i64 0)), (3, .nil), (2, .ptr 0 0 0), (0, .val (.string s))], [(3, ⟨30, 3, true, [[.val (.int .i16 0), .val (.int .i16 0), .val (.int .i16 0)]]⟩), (2, ⟨2, 1, false, i64s ((splP 32 s).map vlW)⟩), (1, ⟨9, 1, false, strs (splP 32 s)⟩), (0, ⟨30, 3, true, [[.val (.int .i16 0), .val (.int .i16 0), .val (.int .i16 0)]]⟩)], 4⟩) ?_ (fun hS27 => ?_)
        · skip
          refine anyS_cons T0_ok hP hm hN (by rfl) [1, 10] (by rfl) rfl ?_
          refine ⟨⟨_, rfl, rfl, ?_⟩, ?_⟩
          · skip
            refine g1 ?_
            exact anyS_weak (st' := ⟨[(46, .ptr 2 0 0), (52, .val (.int .i16 (((splP 32 s).map vlW).getD 1 0))), (54, .ptr 2 2 0), (10, .ptr 3 0 0), (6, .own 2), (5, .own 1), (4, .val (.int .i64 0)), (3, .nil), (2, .ptr 0 0 0), (0, .val (.string s))], [(3, ⟨30, 3, true, [[.val (.int .i16 0), .val (.int .i16 0), .val (.int .i16 0)]]⟩), (2, ⟨2, 1, false, i64s ((splP 32 s).map vlW)⟩), (1, ⟨9, 1, false, strs (splP 32 s)⟩), (0, ⟨30, 3, true, [[.val (.int .i16 0), .val (.int .i16 0), .val (.int .i16 0)]]⟩)], 4⟩) (by exact weak_sl (sub_cons rfl (sub_cons rfl (sub_cons rfl (sub_cons rfl (sub_cons rfl (sub_cons rfl (sub_cons rfl (sub_cons rfl (sub_cons rfl (sub_cons rfl (sub_nil)))))))))))) hS17
          refine ⟨⟨_, rfl, rfl, ?_⟩, trivial⟩
          refine g1 ?_
          refine anyS_floatV T0_ok hP hm hN (by rfl) 11 rfl rfl (by rfl) (by rfl) (by first | trivial | rfl | exact ⟨rfl, rfl⟩ | exact ⟨rfl, rfl, fun _ => rfl, Nat.le_of_ble_eq_true rfl, .inl rfl⟩ | exact ⟨rfl, rfl, fun h => (nomatch h), Nat.le_of_ble_eq_true rfl, .inl rfl⟩ | exact ⟨rfl, rfl, fun _ => rfl, Nat.le_of_ble_eq_true rfl, .inr rfl⟩ | exact ⟨rfl, rfl, fun h => (nomatch h), Nat.le_of_ble_eq_true rfl, .inr rfl⟩ | omega | exact ⟨rfl, by (repeat (first | exact fm_nil | refine fm_cons ⟨rfl, rfl⟩ ?_)), Nat.le_of_ble_eq_true rfl, Nat.le_of_ble_eq_true rfl⟩ | (refine ⟨?_, ?_, ?_, ?_, ?_, ?_, ?_⟩ <;> first | omega | exact Nat.le_of_ble_eq_true rfl) | exact ⟨rfl, by omega, by (try simp only [List.length_map, List.length_set]); omega⟩ | exact ⟨rfl, by omega, by simp only [Int.toNat_natCast]; omega, by omega, Nat.le_of_ble_eq_true rfl, rfl⟩) rfl (by rfl) (by rfl) (by rfl) ?_
          refine g1 ?_
          exact anyS_weak (st' := ⟨[(45, .own 2), (52, .val (.int .i16 (((splP 32 s).map vlW).getD 1 0))), (56, .val (.int .i16 (((splP 32 s).map vlW).getD 2 0))), (10, .ptr 3 0 0), (6, .own 2), (5, .own 1), (4, .val (.int .i64 0)), (3, .nil), (2, .ptr 0 0 0), (0, .val (.string s))], [(3, ⟨30, 3, true, [[.val (.int .i16 0), .val (.int .i16 0), .val (.int .i16 0)]]⟩), (2, ⟨2, 1, false, i64s ((splP 32 s).map vlW)⟩), (1, ⟨9, 1, false, strs (splP 32 s)⟩), (0, ⟨30, 3, true, [[.val (.int .i16 0), .val (.int .i16 0), .val (.int .i16 0)]]⟩)], 4⟩) (by exact weak_sl (sub_cons rfl (sub_cons rfl (sub_cons rfl (sub_cons rfl (sub_cons rfl (sub_cons rfl (sub_cons rfl (sub_cons rfl (sub_cons rfl (sub_cons rfl (sub_nil)))))))))))) hS13
        refine anyS_cut (fuel' := 7) (listed' := #[true, false, false, false, true, true, false, false, true, true, true, true, false, true, false]) (st' := ⟨[(45, .own 2), (50, .ptr 2 1 0), (56, .val (.int .i16 (((splP 32 s).map vlW).getD 2 0))), (10, .ptr 3 0 0), (6, .own 2), (5, .own 1), (4, .val (.int .i64 0)), (3, .nil), (2, .ptr 0 0 0), (0, .val (.string s))], [(3, ⟨30, 3, true, [[.val (.int .i16 0), .val (.int .i16 0), .val (.int .i16 0)]]⟩), (2, ⟨2, 1, false, i64s ((splP 32 s).map vlW)⟩), (1, ⟨9, 1, false, strs (splP 32 s)⟩), (0, ⟨30, 3, true, [[.val (.int .i16 0), .val (.int .i16 0), .val (.int .i16 0)]]⟩)], 4⟩) ?_ (fun hS28 => ?_)
        · skip
          refine anyS_cons T0_ok hP hm hN (by rfl) [1, 6] (by rfl) rfl ?_
          refine ⟨⟨_, rfl, rfl, ?_⟩, ?_⟩
          · skip
            refine g1 ?_
            exact anyS_weak (st' := ⟨[(46, .ptr 2 0 0), (50, .ptr 2 1 0), (56, .val (.int .i16 (((splP 32 s).map vlW).getD 2 0))), (10, .ptr 3 0 0), (6, .own 2), (5, .own 1), (4, .val (.int .i64 0)), (3, .nil), (2, .ptr 0 0 0), (0, .val (.string s))], [(3, ⟨30, 3, true, [[.val (.int .i16 0), .val (.int .i16 0), .val (.int .i16 0)]]⟩), (2, ⟨2, 1, false, i64s ((splP 32 s).map vlW)⟩), (1, ⟨9, 1, false, strs (splP 32 s)⟩), (0, ⟨30, 3, true, [[.val (.int .i16 0), .val (.int .i16 0), .val (.int .i16 0)]]⟩)], 4⟩) (by exact weak_sl (sub_cons rfl (sub_cons rfl (sub_cons rfl (sub_cons rfl (sub_cons rfl (sub_cons rfl (sub_cons rfl (sub_cons rfl (sub_cons rfl (sub_cons rfl (sub_nil)))))))))))) hS18
          refine ⟨⟨_, rfl, rfl, ?_⟩, trivial⟩
          refine g1 ?_
          refine anyS_floatV T0_ok hP hm hN (by rfl) 7 rfl rfl (by rfl) (by rfl) (by first | trivial | rfl | exact ⟨rfl, rfl⟩ | exact ⟨rfl, rfl, fun _ => rfl, Nat.le_of_ble_eq_true rfl, .inl rfl⟩ | exact ⟨rfl, rfl, fun h => (nomatch h), Nat.le_of_ble_eq_true rfl, .inl rfl⟩ | exact ⟨rfl, rfl, fun _ => rfl, Nat.le_of_ble_eq_true rfl, .inr rfl⟩ | exact ⟨rfl, rfl, fun h => (nomatch h), Nat.le_of_ble_eq_true rfl, .inr rfl⟩ | omega | exact ⟨rfl, by (repeat (first | exact fm_nil | refine fm_cons ⟨rfl, rfl⟩ ?_)), Nat.le_of_ble_eq_true rfl, Nat.le_of_ble_eq_true rfl⟩ | (refine ⟨?_, ?_, ?_, ?_, ?_, ?_, ?_⟩ <;> first | omega | exact Nat.le_of_ble_eq_true rfl) | exact ⟨rfl, by omega, by (try simp only [List.length_map, List.length_set]); omega⟩ | exact ⟨rfl, by omega, by simp only [Int.toNat_natCast]; omega, by omega, Nat.le_of_ble_eq_true rfl, rfl⟩) rfl (by rfl) (by rfl) (by rfl) ?_
          refine g1 ?_
          exact anyS_weak (st' := ⟨[(45, .own 2), (52, .val (.int .i16 (((splP 32 s).map vlW).getD 1 0))), (56, .val (.int .i16 (((splP 32 s).map vlW).getD 2 0))), (10, .ptr 3 0 0), (6, .own 2), (5, .own 1), (4, .val (.int .i64 0)), (3, .nil), (2, .ptr 0 0 0), (0, .val (.string s))], [(3, ⟨30, 3, true, [[.val (.int .i16 0), .val (.int .i16 0), .val (.int .i16 0)]]⟩), (2, ⟨2, 1, false, i64s ((splP 32 s).map vlW)⟩), (1, ⟨9, 1, false, strs (splP 32 s)⟩), (0, ⟨30, 3, true, [[.val (.int .i16 0), .val (.int .i16 0), .val (.int .i16 0)]]⟩)], 4⟩) (by exact weak_sl (sub_cons rfl (sub_cons rfl (sub_cons rfl (sub_cons rfl (sub_cons rfl (sub_cons rfl (sub_cons rfl (sub_cons rfl (sub_cons rfl (sub_cons rfl (sub_nil)))))))))))) hS13
        refine anyS_cut (fuel' := 8) (listed' := #[true, true, true, true, true, true, false, false, true, false, false, false, false, false, false]) (st' := ⟨[(48, .val (.int .i16 (((splP 32 s).map vlW).getD 0 0))), (50, .ptr 2 1 0), (53, .own 2), (6, .own 2), (5, .own 1), (4, .val (.int .i64 0)), (3, .nil), (2, .ptr 0 0 0), (0, .val (.string s))], [(2, ⟨2, 1, false, i64s ((splP 32 s).map vlW)⟩), (1, ⟨9, 1, false, strs (splP 32 s)⟩), (0, ⟨30, 3, true, [[.val (.int .i16 0), .val (.int .i16 0), .val (.int .i16 0)]]⟩)], 3⟩) ?_ (fun hS29 => ?_)
        · skip
          refine anyS_cons T0_ok hP hm hN (by rfl) [6, 9, 13] (by rfl) rfl ?_
          refine ⟨⟨_, rfl, rfl, ?_⟩, ?_⟩
          · skip
            refine g1 ?_
            refine anyS_floatV T0_ok hP hm hN (by rfl) 7 rfl rfl (by rfl) (by rfl) (by first | trivial | rfl | exact ⟨rfl, rfl⟩ | exact ⟨rfl, rfl, fun _ => rfl, Nat.le_of_ble_eq_true rfl, .inl rfl⟩ | exact ⟨rfl, rfl, fun h => (nomatch h), Nat.le_of_ble_eq_true rfl, .inl rfl⟩ | exact ⟨rfl, rfl, fun _ => rfl, Nat.le_of_ble_eq_true rfl, .inr rfl⟩ | exact ⟨rfl, rfl, fun h => (nomatch h), Nat.le_of_ble_eq_true rfl, .inr rfl⟩ | omega | exact ⟨rfl, by (repeat (first | exact fm_nil | refine fm_cons ⟨rfl, rfl⟩ ?_)), Nat.le_of_ble_eq_true rfl, Nat.le_of_ble_eq_true rfl⟩ | (refine ⟨?_, ?_, ?_, ?_, ?_, ?_, ?_⟩ <;> first | omega | exact Nat.le_of_ble_eq_true rfl) | exact ⟨rfl, by omega, by (try simp only [List.length_map, List.length_set]); omega⟩ | exact ⟨rfl, by omega, by simp only [Int.toNat_natCast]; omega, by omega, Nat.le_of_ble_eq_true rfl, rfl⟩) rfl (by rfl) (by rfl) (by rfl) ?_
            refine g1 ?_
            exact anyS_weak (st' := ⟨[(48, .val (.int .i16 (((splP 32 s).map vlW).getD 0 0))), (52, .val (.int .i16 (((splP 32 s).map vlW).getD 1 0))), (53, .own 2), (6, .own 2), (5, .own 1), (4, .val (.int .i64 0)), (3, .nil), (2, .ptr 0 0 0), (0, .val (.string s))], [(2, ⟨2, 1, false, i64s ((splP 32 s).map vlW)⟩), (1, ⟨9, 1, false, strs (splP 32 s)⟩), (0, ⟨30, 3, true, [[.val (.int .i16 0), .val (.int .i16 0), .val (.int .i16 0)]]⟩)], 3⟩) (by exact weak_sl (sub_cons rfl (sub_cons rfl (sub_cons rfl (sub_cons rfl (sub_cons rfl (sub_cons rfl (sub_cons rfl (sub_cons rfl (sub_cons rfl (sub_nil))))))))))) hS14
          refine ⟨⟨_, rfl, rfl, ?_⟩, ?_⟩
          · skip
            refine g1 ?_
            exact anyS_weak (st' := ⟨[(48, .val (.int .i16 (((splP 32 s).map vlW).getD 0 0))), (50, .ptr 2 1 0), (54, .ptr 2 2 0), (6, .own 2), (5, .own 1), (4, .val (.int .i64 0)), (3, .nil), (2, .ptr 0 0 0), (0, .val (.string s))], [(2, ⟨2, 1, false, i64s ((splP 32 s).map vlW)⟩), (1, ⟨9, 1, false, strs (splP 32 s)⟩), (0, ⟨30, 3, true, [[.val (.int .i16 0), .val (.int .i16 0), .val (.int .i16 0)]]⟩)], 3⟩) (by exact weak_sl (sub_cons rfl (sub_cons rfl (sub_cons rfl (sub_cons rfl (sub_cons rfl (sub_cons rfl (sub_cons rfl (sub_cons rfl (sub_cons rfl (sub_nil))))))))))) hS20
          refine ⟨⟨_, rfl, rfl, ?_⟩, trivial⟩
          refine g1 ?_
          exact anyS_weak (st' := ⟨[(48, .val (.int .i16 (((splP 32 s).map vlW).getD 0 0))), (50, .ptr 2 1 0), (53, .own 2), (10, .ptr 3 0 0), (6, .own 2), (5, .own 1), (4, .val (.int .i64 0)), (3, .nil), (2, .ptr 0 0 0), (0, .val (.string s))], [(3, ⟨30, 3, true, [[.val (.int .i16 0), .val (.int .i16 0), .val (.int .i16 0)]]⟩), (2, ⟨2, 1, false, i64s ((splP 32 s).map vlW)⟩), (1, ⟨9, 1, false, strs (splP 32 s)⟩), (0, ⟨30, 3, true, [[.val (.int .i16 0), .val (.int .i16 0), .val (.int .i16 0)]]⟩)], 4⟩) (by exact weak_sl (sub_cons rfl (sub_cons rfl (sub_cons rfl (sub_cons rfl (sub_cons rfl (sub_cons rfl (sub_cons rfl (sub_cons rfl (sub_cons rfl (sub_cons rfl (sub_nil)))))))))))) hS21
        refine anyS_cut (fuel' := 8) (listed' := #[true, true, true, true, true, false, false, false, true, true, false, false, false, false, false]) (st' := ⟨[(48, .val (.int .i16 (((splP 32 s).map vlW).getD 0 0))), (49, .own 2), (54, .ptr 2 2 0), (6, .own 2), (5, .own 1), (4, .val (.int .i64 0)), (3, .nil), (2, .ptr 0 0 0), (0, .val (.string s))], [(2, ⟨2, 1, false, i64s ((splP 32 s).map vlW)⟩), (1, ⟨9, 1, false, strs (splP 32 s)⟩), (0, ⟨30, 3, true, [[.val (.int .i16 0), .val (.int .i16 0), .val (.int .i16 0)]]⟩)], 3⟩) ?_ (fun hS30 => ?_)
        · skip
          refine anyS_cons T0_ok hP hm hN (by rfl) [5, 10, 13] (by rfl) rfl ?_
          refine ⟨⟨_, rfl, rfl, ?_⟩, ?_⟩
          · skip
            refine g1 ?_
            exact anyS_weak (st' := ⟨[(48, .val (.int .i16 (((splP 32 s).map vlW).getD 0 0))), (50, .ptr 2 1 0), (54, .ptr 2 2 0), (6, .own 2), (5, .own 1), (4, .val (.int .i64 0)), (3, .nil), (2, .ptr 0 0 0), (0, .val (.string s))], [(2, ⟨2, 1, false, i64s ((splP 32 s).map vlW)⟩), (1, ⟨9, 1, false, strs (splP 32 s)⟩), (0, ⟨30, 3, true, [[.val (.int .i16 0), .val (.int .i16 0), .val (.int .i16 0)]]⟩)], 3⟩) (by exact weak_sl (sub_cons rfl (sub_cons rfl (sub_cons rfl (sub_cons rfl (sub_cons rfl (sub_cons rfl (sub_cons rfl (sub_cons rfl (sub_cons rfl (sub_nil))))))))))) hS20
          refine ⟨⟨_, rfl, rfl, ?_⟩, ?_⟩
          · skip
            refine g1 ?_
            refine anyS_floatV T0_ok hP hm hN (by rfl) 11 rfl rfl (by rfl) (by rfl) (by first | trivial | rfl | exact ⟨rfl, rfl⟩ | exact ⟨rfl, rfl, fun _ => rfl, Nat.le_of_ble_eq_true rfl, .inl rfl⟩ | exact ⟨rfl, rfl, fun h => (nomatch h), Nat.le_of_ble_eq_true rfl, .inl rfl⟩ | exact ⟨rfl, rfl, fun _ => rfl, Nat.le_of_ble_eq_true rfl, .inr rfl⟩ | exact ⟨rfl, rfl, fun h => (nomatch h), Nat.le_of_ble_eq_true rfl, .inr rfl⟩ | omega | exact ⟨rfl, by (repeat (first | exact fm_nil | refine fm_cons ⟨rfl, rfl⟩ ?_)), Nat.le_of_ble_eq_true rfl, Nat.le_of_ble_eq_true rfl⟩ | (refine ⟨?_, ?_, ?_, ?_, ?_, ?_, ?_⟩ <;> first | omega | exact Nat.le_of_ble_eq_true rfl) | exact ⟨rfl, by omega, by (try simp only [List.length_map, List.length_set]); omega⟩ | exact ⟨rfl, by omega, by simp only [Int.toNat_natCast]; omega, by omega, Nat.le_of_ble_eq_true rfl, rfl⟩) rfl (by rfl) (by rfl) (by rfl) ?_
            refine g1 ?_
            exact anyS_weak (st' := ⟨[(48, .val (.int .i16 (((splP 32 s).map vlW).getD 0 0))), (49, .own 2), (56, .val (.int .i16 (((splP 32 s).map vlW).getD 2 0))), (6, .own 2), (5, .own 1), (4, .val (.int .i64 0)), (3, .nil), (2, .ptr 0 0 0), (0, .val (.string s))], [(2, ⟨2, 1, false, i64s ((splP 32 s).map vlW)⟩), (1, ⟨9, 1, false, strs (splP 32 s)⟩), (0, ⟨30, 3, true, [[.val (.int .i16 0), .val (.int .i16 0), .val (.int .i16 0)]]⟩)], 3⟩) (by exact weak_sl (sub_cons rfl (sub_cons rfl (sub_cons rfl (sub_cons rfl (sub_cons rfl (sub_cons rfl (sub_cons rfl (sub_cons rfl (sub_cons rfl (sub_nil))))))))))) hS16
          refine ⟨⟨_, rfl, rfl, ?_⟩, trivial⟩
          refine g1 ?_
          exact anyS_weak (st' := ⟨[(48, .val (.int .i16 (((splP 32 s).map vlW).getD 0 0))), (49, .own 2), (54, .ptr 2 2 0), (10, .ptr 3 0 0), (6, .own 2), (5, .own 1), (4, .val (.int .i64 0)), (3, .nil), (2, .ptr 0 0 0), (0, .val (.string s))], [(3, ⟨30, 3, true, [[.val (.int .i16 0), .val (.int .i16 0), .val (.int .i16 0)]]⟩), (2, ⟨2, 1, false, i64s ((splP 32 s).map vlW)⟩), (1, ⟨9, 1, false, strs (splP 32 s)⟩), (0, ⟨30, 3, true, [[.val (.int .i16 0), .val (.int .i16 0), .val (.int .i16 0)]]⟩)], 4⟩) (by exact weak_sl (sub_cons rfl (sub_cons rfl (sub_cons rfl (sub_cons rfl (sub_cons rfl (sub_cons rfl (sub_cons rfl (sub_cons rfl (sub_cons rfl (sub_cons rfl (sub_nil)))))))))))) hS22
        refine anyS_cut (fuel' := 8) (listed' := #[true, true, true, true, true, false, false, false, true, false, false, false, false, true, false]) (st' := ⟨[(48, .val (.int .i16 (((splP 32 s).map vlW).getD 0 0))), (49, .own 2), (53, .own 2), (10, .ptr 3 0 0), (6, .own 2), (5, .own 1), (4, .val (.int .i64 0)), (3, .nil), (2, .ptr 0 0 0), (0, .val (.string s))], [(3, ⟨30, 3, true, [[.val (.int .i16 0), .val (.int .i16 0), .val (.int .i16 0)]]⟩), (2, ⟨2, 1, false, i64s ((splP 32 s).map vlW)⟩), (1, ⟨9, 1, false, strs (splP 32 s)⟩), (0, ⟨30, 3, true, [[.val (.int .i16 0), .val (.int .i16 0), .val (.int .i16 0)]]⟩)], 4⟩) ?_ (fun hS31 => ?_)
        · skip
          refine anyS_cons T0_ok hP hm hN (by rfl) [5, 9] (by rfl) rfl ?_
          refine ⟨⟨_, rfl, rfl, ?_⟩, ?_⟩
          · skip
            refine g1 ?_
            exact anyS_weak (st' := ⟨[(48, .val (.int .i16 (((splP 32 s).map vlW).getD 0 0))), (50, .ptr 2 1 0), (53, .own 2), (10, .ptr 3 0 0), (6, .own 2), (5, .own 1), (4, .val (.int .i64 0)), (3, .nil), (2, .ptr 0 0 0), (0, .val (.string s))], [(3, ⟨30, 3, true, [[.val (.int .i16 0), .val (.int .i16 0), .val (.int .i16 0)]]⟩), (2, ⟨2, 1, false, i64s ((splP 32 s).map vlW)⟩), (1, ⟨9, 1, false, strs (splP 32 s)⟩), (0, ⟨30, 3, true, [[.val (.int .i16 0), .val (.int .i16 0), .val (.int .i16 0)]]⟩)], 4⟩) (by exact weak_sl (sub_cons rfl (sub_cons rfl (sub_cons rfl (sub_cons rfl (sub_cons rfl (sub_cons rfl (sub_cons rfl (sub_cons rfl (sub_cons rfl (sub_cons rfl (sub_nil)))))))))))) hS21
          refine ⟨⟨_, rfl, rfl, ?_⟩, trivial⟩
          refine g1 ?_
          exact anyS_weak (st' := ⟨[(48, .val (.int .i16 (((splP 32 s).map vlW).getD 0 0))), (49, .own 2), (54, .ptr 2 2 0), (10, .ptr 3 0 0), (6, .own 2), (5, .own 1), (4, .val (.int .i64 0)), (3, .nil), (2, .ptr 0 0 0), (0, .val (.string s))], [(3, ⟨30, 3, true, [[.val (.int .i16 0), .val (.int .i16 0), .val (.int .i16 0)]]⟩), (2, ⟨2, 1, false, i64s ((splP 32 s).map vlW)⟩), (1, ⟨9, 1, false, strs (splP 32 s)⟩), (0, ⟨30, 3, true, [[.val (.int .i16 0), .val (.int .i16 0), .val (.int .i16 0)]]⟩)], 4⟩) (by exact weak_sl (sub_cons rfl (sub_cons rfl (sub_cons rfl (sub_cons rfl (sub_cons rfl (sub_cons rfl (sub_cons rfl (sub_cons rfl (sub_cons rfl (sub_cons rfl (sub_nil)))))))))))) hS22
        refine anyS_cut (fuel' := 8) (listed' := #[true, true, false, false, true, true, true, true, true, false, false, false, false, false, false]) (st' := ⟨[(46, .ptr 2 0 0), (52, .val (.int .i16 (((splP 32 s).map vlW).getD 1 0))), (53, .own 2), (6, .own 2), (5, .own 1), (4, .val (.int .i64 0)), (3, .nil), (2, .ptr 0 0 0), (0, .val (.string s))], [(2, ⟨2, 1, false, i64s ((splP 32 s).map vlW)⟩), (1, ⟨9, 1, false, strs (splP 32 s)⟩), (0, ⟨30, 3, true, [[.val (.int .i16 0), .val (.int .i16 0), .val (.int .i16 0)]]⟩)], 3⟩) ?_ (fun hS32 => ?_)
        · skip
          refine anyS_cons T0_ok hP hm hN (by rfl) [2, 9, 13] (by rfl) rfl ?_
          refine ⟨⟨_, rfl, rfl, ?_⟩, ?_⟩
          · skip
            refine g1 ?_
            refine anyS_floatV T0_ok hP hm hN (by rfl) 3 rfl rfl (by rfl) (by rfl) (by first | trivial | rfl | exact ⟨rfl, rfl⟩ | exact ⟨rfl, rfl, fun _ => rfl, Nat.le_of_ble_eq_true rfl, .inl rfl⟩ | exact ⟨rfl, rfl, fun h => (nomatch h), Nat.le_of_ble_eq_true rfl, .inl rfl⟩ | exact ⟨rfl, rfl, fun _ => rfl, Nat.le_of_ble_eq_true rfl, .inr rfl⟩ | exact ⟨rfl, rfl, fun h => (nomatch h), Nat.le_of_ble_eq_true rfl, .inr rfl⟩ | omega | exact ⟨rfl, by (repeat (first | exact fm_nil | refine fm_cons ⟨rfl, rfl⟩ ?_)), Nat.le_of_ble_eq_true rfl, Nat.le_of_ble_eq_true rfl⟩ | (refine ⟨?_, ?_, ?_, ?_, ?_, ?_, ?_⟩ <;> first | omega | exact Nat.le_of_ble_eq_true rfl) | exact ⟨rfl, by omega, by (try simp only [List.length_map, List.length_set]); omega⟩ | exact ⟨rfl, by omega, by simp only [Int.toNat_natCast]; omega, by omega, Nat.le_of_ble_eq_true rfl, rfl⟩) rfl (by rfl) (by rfl) (by rfl) ?_
            refine g1 ?_
            exact anyS_weak (st' := ⟨[(48, .val (.int .i16 (((splP 32 s).map vlW).getD 0 0))), (52, .val (.int .i16 (((splP 32 s).map vlW).getD 1 0))), (53, .own 2), (6, .own 2), (5, .own 1), (4, .val (.int .i64 0)), (3, .nil), (2, .ptr 0 0 0), (0, .val (.string s))], [(2, ⟨2, 1, false, i64s ((splP 32 s).map vlW)⟩), (1, ⟨9, 1, false, strs (splP 32 s)⟩), (0, ⟨30, 3, true, [[.val (.int .i16 0), .val (.int .i16 0), .val (.int .i16 0)]]⟩)], 3⟩) (by exact weak_sl (sub_cons rfl (sub_cons rfl (sub_cons rfl (sub_cons rfl (sub_cons rfl (sub_cons rfl (sub_cons rfl (sub_cons rfl (sub_cons rfl (sub_nil))))))))))) hS14
          refine ⟨⟨_, rfl, rfl, ?_⟩, ?_⟩
          · skip
            refine g1 ?_
            exact anyS_weak (st' := ⟨[(46, .ptr 2 0 0), (52, .val (.int .i16 (((splP 32 s).map vlW).getD 1 0))), (54, .ptr 2 2 0), (6, .own 2), (5, .own 1), (4, .val (.int .i64 0)), (3, .nil), (2, .ptr 0 0 0), (0, .val (.string s))], [(2, ⟨2, 1, false, i64s ((splP 32 s).map vlW)⟩), (1, ⟨9, 1, false, strs (splP 32 s)⟩), (0, ⟨30, 3, true, [[.val (.int .i16 0), .val (.int .i16 0), .val (.int .i16 0)]]⟩)], 3⟩) (by exact weak_sl (sub_cons rfl (sub_cons rfl (sub_cons rfl (sub_cons rfl (sub_cons rfl (sub_cons rfl (sub_cons rfl (sub_cons rfl (sub_cons rfl (sub_nil))))))))))) hS23
          refine ⟨⟨_, rfl, rfl, ?_⟩, trivial⟩
          refine g1 ?_
          exact anyS_weak (st' := ⟨[(46, .ptr 2 0 0), (52, .val (.int .i16 (((splP 32 s).map vlW).getD 1 0))), (53, .own 2), (10, .ptr 3 0 0), (6, .own 2), (5, .own 1), (4, .val (.int .i64 0)), (3, .nil), (2, .ptr 0 0 0), (0, .val (.string s))], [(3, ⟨30, 3, true, [[.val (.int .i16 0), .val (.int .i16 0), .val (.int .i16 0)]]⟩), (2, ⟨2, 1, false, i64s ((splP 32 s).map vlW)⟩), (1, ⟨9, 1, false, strs (splP 32 s)⟩), (0, ⟨30, 3, true, [[.val (.int .i16 0), .val (.int .i16 0), .val (.int .i16 0)]]⟩)], 4⟩) (by exact weak_sl (sub_cons rfl (sub_cons rfl (sub_cons rfl (sub_cons rfl (sub_cons rfl (sub_cons rfl (sub_cons rfl (sub_cons rfl (sub_cons rfl (sub_cons rfl (sub_nil)))))))))))) hS24
        refine anyS_cut (fuel' := 8) (listed' := #[true, true, false, false, true, true, false, false, true, true, false, false, false, true, false]) (st' := ⟨[(46, .ptr 2 0 0), (50, .ptr 2 1 0), (54, .ptr 2 2 0), (10, .ptr 3 0 0), (6, .own 2), (5, .own 1), (4, .val (.int .i64 0)), (3, .nil), (2, .ptr 0 0 0), (0, .val (.string s))], [(3, ⟨30, 3, true, [[.val (.int .i16 0), .val (.int .i16 0), .val (.int .i16 0)]]⟩), (2, ⟨2, 1, false, i64s ((splP 32 s).map vlW)⟩), (1, ⟨9, 1, false, strs (splP 32 s)⟩), (0, ⟨30, 3, true, [[.val (.int .i16 0), .val (.int .i16 0), .val (.int .i16 0)]]⟩)], 4⟩) ?_ (fun hS33 => ?_)
        · skip
          refine anyS_cons T0_ok hP hm hN (by rfl) [2, 6, 10] (by rfl) rfl ?_
          refine ⟨⟨_, rfl, rfl, ?_⟩, ?_⟩
          · skip
            refine g1 ?_
            refine anyS_floatV T0_ok hP hm hN (by rfl) 3 rfl rfl (by rfl) (by rfl) (by first | trivial | rfl | exact ⟨rfl, rfl⟩ | exact ⟨rfl, rfl, fun _ => rfl, Nat.le_of_ble_eq_true rfl, .inl rfl⟩ | exact ⟨rfl, rfl, fun h => (nomatch h), Nat.le_of_ble_eq_true rfl, .inl rfl⟩ | exact ⟨rfl, rfl, fun _ => rfl, Nat.le_of_ble_eq_true rfl, .inr rfl⟩ | exact ⟨rfl, rfl, fun h => (nomatch h), Nat.le_of_ble_eq_true rfl, .inr rfl⟩ | omega | exact ⟨rfl, by (repeat (first | exact fm_nil | refine fm_cons ⟨rfl, rfl⟩ ?_)), Nat.le_of_ble_eq_true rfl, Nat.le_of_ble_eq_true rfl⟩ | (refine ⟨?_, ?_, ?_, ?_, ?_, ?_, ?_⟩ <;> first | omega | exact Nat.le_of_ble_eq_true rfl) | exact ⟨rfl, by omega, by (try simp only [List.length_map, List.length_set]); omega⟩ | exact ⟨rfl, by omega, by simp only [Int.toNat_natCast]; omega, by omega, Nat.le_of_ble_eq_true rfl, rfl⟩) rfl (by rfl) (by rfl) (by rfl) ?_
            refine g1 ?_
            exact anyS_weak (st' := ⟨[(48, .val (.int .i16 (((splP 32 s).map vlW).getD 0 0))), (50, .ptr 2 1 0), (54, .ptr 2 2 0), (10, .ptr 3 0 0), (6, .own 2), (5, .own 1), (4, .val (.int .i64 0)), (3, .nil), (2, .ptr 0 0 0), (0, .val (.string s))], [(3, ⟨30, 3, true, [[.val (.int .i16 0), .val (.int .i16 0), .val (.int .i16 0)]]⟩), (2, ⟨2, 1, false, i64s ((splP 32 s).map vlW)⟩), (1, ⟨9, 1, false, strs (splP 32 s)⟩), (0, ⟨30, 3, true, [[.val (.int .i16 0), .val (.int .i16 0), .val (.int .i16 0)]]⟩)], 4⟩) (by exact weak_sl (sub_cons rfl (sub_cons rfl (sub_cons rfl (sub_cons rfl (sub_cons rfl (sub_cons rfl (sub_cons rfl (sub_cons rfl (sub_cons rfl (sub_cons rfl (sub_nil)))))))))))) hS15
          refine ⟨⟨_, rfl, rfl, ?_⟩, ?_⟩
          · skip
            refine g1 ?_
            refine anyS_floatV T0_ok hP hm hN (by rfl) 7 rfl rfl (by rfl) (by rfl) (by first | trivial | rfl | exact ⟨rfl, rfl⟩ | exact ⟨rfl, rfl, fun _ => rfl, Nat.le_of_ble_eq_true rfl, .inl rfl⟩ | exact ⟨rfl, rfl, fun h => (nomatch h), Nat.le_of_ble_eq_true rfl, .inl rfl⟩ | exact ⟨rfl, rfl, fun _ => rfl, Nat.le_of_ble_eq_true rfl, .inr rfl⟩ | exact ⟨rfl, rfl, fun h => (nomatch h), Nat.le_of_ble_eq_true rfl, .inr rfl⟩ | omega | exact ⟨rfl, by (repeat (first | exact fm_nil | refine fm_cons ⟨rfl, rfl⟩ ?_)), Nat.le_of_ble_eq_true rfl, Nat.le_of_ble_eq_true rfl⟩ | (refine ⟨?_, ?_, ?_, ?_, ?_, ?_, ?_⟩ <;> first | omega | exact Nat.le_of_ble_eq_true rfl) | exact ⟨rfl, by omega, by (try simp only [List.length_map, List.length_set]); omega⟩ | exact ⟨rfl, by omega, by simp only [Int.toNat_natCast]; omega, by omega, Nat.le_of_ble_eq_true rfl, rfl⟩) rfl (by rfl) (by rfl) (by rfl) ?_
            refine g1 ?_
            exact anyS_weak (st' := ⟨[(46, .ptr 2 0 0), (52, .val (.int .i16 (((splP 32 s).map vlW).getD 1 0))), (54, .ptr 2 2 0), (10, .ptr 3 0 0), (6, .own 2), (5, .own 1), (4, .val (.int .i64 0)), (3, .nil), (2, .ptr 0 0 0), (0, .val (.string s))], [(3, ⟨30, 3, true, [[.val (.int .i16 0), .val (.int .i16 0), .val (.int .i16 0)]]⟩), (2, ⟨2, 1, false, i64s ((splP 32 s).map vlW)⟩), (1, ⟨9, 1, false, strs (splP 32 s)⟩), (0, ⟨30, 3, true, [[.val (.int .i16 0), .val (.int .i16 0), .val (.int .i16 0)]]⟩)], 4⟩) (by exact weak_sl (sub_cons rfl (sub_cons rfl (sub_cons rfl (sub_cons rfl (sub_cons rfl (sub_cons rfl (sub_cons rfl (sub_cons rfl (sub_cons rfl (sub_cons rfl (sub_nil)))))))))))) hS17
          refine ⟨⟨_, rfl, rfl, ?_⟩, trivial⟩
          refine g1 ?_
          refine anyS_floatV T0_ok hP hm hN (by rfl) 11 rfl rfl (by rfl) (by rfl) (by first | trivial | rfl | exact ⟨rfl, rfl⟩ | exact ⟨rfl, rfl, fun _ => rfl, Nat.le_of_ble_eq_true rfl, .inl rfl⟩ | exact ⟨rfl, rfl, fun h => (nomatch h), Nat.le_of_ble_eq_true rfl, .inl rfl⟩ | exact ⟨rfl, rfl, fun _ => rfl, Nat.le_of_ble_eq_true rfl, .inr rfl⟩ | exact ⟨rfl, rfl, fun h => (nomatch h), Nat.le_of_ble_eq_true rfl, .inr rfl⟩ | omega | exact ⟨rfl, by (repeat (first | exact fm_nil | refine fm_cons ⟨rfl, rfl⟩ ?_)), Nat.le_of_ble_eq_true rfl, Nat.le_of_ble_eq_true rfl⟩ | (refine ⟨?_, ?_, ?_, ?_, ?_, ?_, ?_⟩ <;> first | omega | exact Nat.le_of_ble_eq_true rfl) | exact ⟨rfl, by omega, by (try simp only [List.length_map, List.length_set]); omega⟩ | exact ⟨rfl, by omega, by simp only [Int.toNat_natCast]; omega, by omega, Nat.le_of_ble_eq_true rfl, rfl⟩) rfl (by rfl) (by rfl) (by rfl) ?_
          refine g1 ?_
          exact anyS_weak (st' := ⟨[(46, .ptr 2 0 0), (50, .ptr 2 1 0), (56, .val (.int .i16 (((splP 32 s).map vlW).getD 2 0))), (10, .ptr 3 0 0), (6, .own 2), (5, .own 1), (4, .val (.int .i64 0)), (3, .nil), (2, .ptr 0 0 0), (0, .val (.string s))], [(3, ⟨30, 3, true, [[.val (.int .i16 0), .val (.int .i16 0), .val (.int .i16 0)]]⟩), (2, ⟨2, 1, false, i64s ((splP 32 s).map vlW)⟩), (1, ⟨9, 1, false, strs (splP 32 s)⟩), (0, ⟨30, 3, true, [[.val (.int .i16 0), .val (.int .i16 0), .val (.int .i16 0)]]⟩)], 4⟩) (by exact weak_sl (sub_cons rfl (sub_cons rfl (sub_cons rfl (sub_cons rfl (sub_cons rfl (sub_cons rfl (sub_cons rfl (sub_cons rfl (sub_cons rfl (sub_cons rfl (sub_nil)))))))))))) hS18
        refine anyS_cut (fuel' := 8) (listed' := #[true, true, false, false, true, false, false, false, true, true, true, true, false, false, false]) (st' := ⟨[(46, .ptr 2 0 0), (49, .own 2), (56, .val (.int .i16 (((splP 32 s).map vlW).getD 2 0))), (6, .own 2), (5, .own 1), (4, .val (.int .i64 0)), (3, .nil), (2, .ptr 0 0 0), (0, .val (.string s))], [(2, ⟨2, 1, false, i64s ((splP 32 s).map vlW)⟩), (1, ⟨9, 1, false, strs (splP 32 s)⟩), (0, ⟨30, 3, true, [[.val (.int .i16 0), .val (.int .i16 0), .val (.int .i16 0)]]⟩)], 3⟩) ?_ (fun hS34 => ?_)
        · skip
          refine anyS_cons T0_ok hP hm hN (by rfl) [2, 5, 13] (by rfl) rfl ?_
          refine ⟨⟨_, rfl, rfl, ?_⟩, ?_⟩
          · skip
            refine g1 ?_
            refine anyS_floatV T0_ok hP hm hN (by rfl) 3 rfl rfl (by rfl) (by rfl) (by first | trivial | rfl | exact ⟨rfl, rfl⟩ | exact ⟨rfl, rfl, fun _ => rfl, Nat.le_of_ble_eq_true rfl, .inl rfl⟩ | exact ⟨rfl, rfl, fun h => (nomatch h), Nat.le_of_ble_eq_true rfl, .inl rfl⟩ | exact ⟨rfl, rfl, fun _ => rfl, Nat.le_of_ble_eq_true rfl, .inr rfl⟩ | exact ⟨rfl, rfl, fun h => (nomatch h), Nat.le_of_ble_eq_true rfl, .inr rfl⟩ | omega | exact ⟨rfl, by (repeat (first | exact fm_nil | refine fm_cons ⟨rfl, rfl⟩ ?_)), Nat.le_of_ble_eq_true rfl, Nat.le_of_ble_eq_true rfl⟩ | (refine ⟨?_, ?_, ?_, ?_, ?_, ?_, ?_⟩ <;> first | omega | exact Nat.le_of_ble_eq_true rfl) | exact ⟨rfl, by omega, by (try simp only [List.length_map, List.length_set]); omega⟩ | exact ⟨rfl, by omega, by simp only [Int.toNat_natCast]; omega, by omega, Nat.le_of_ble_eq_true rfl, rfl⟩) rfl (by rfl) (by rfl) (by rfl) ?_
            refine g1 ?_
            exact anyS_weak (st' := ⟨[(48, .val (.int .i16 (((splP 32 s).map vlW).getD 0 0))), (49, .own 2), (56, .val (.int .i16 (((splP 32 s).map vlW).getD 2 0))), (6, .own 2), (5, .own 1), (4, .val (.int .i64 0)), (3, .nil), (2, .ptr 0 0 0), (0, .val (.string s))], [(2, ⟨2, 1, false, i64s ((splP 32 s).map vlW)⟩), (1, ⟨9, 1, false, strs (splP 32 s)⟩), (0, ⟨30, 3, true, [[.val (.int .i16 0), .val (.int .i16 0), .val (.int .i16 0)]]⟩)], 3⟩) (by exact weak_sl (sub_cons rfl (sub_cons rfl (sub_cons rfl (sub_cons rfl (sub_cons rfl (sub_cons rfl (sub_cons rfl (sub_cons rfl (sub_cons rfl (sub_nil))))))))))) hS16
          refine ⟨⟨_, rfl, rfl, ?_⟩, ?_⟩
          · skip
            refine g1 ?_
            exact anyS_weak (st' := ⟨[(46, .ptr 2 0 0), (50, .ptr 2 1 0), (56, .val (.int .i16 (((splP 32 s).map vlW).getD 2 0))), (6, .own 2), (5, .own 1), (4, .val (.int .i64 0)), (3, .nil), (2, .ptr 0 0 0), (0, .val (.string s))], [(2, ⟨2, 1, false, i64s ((splP 32 s).map vlW)⟩), (1, ⟨9, 1, false, strs (splP 32 s)⟩), (0, ⟨30, 3, true, [[.val (.int .i16 0), .val (.int .i16 0), .val (.int .i16 0)]]⟩)], 3⟩) (by exact weak_sl (sub_cons rfl (sub_cons rfl (sub_cons rfl (sub_cons rfl (sub_cons rfl (sub_cons rfl (sub_cons rfl (sub_cons rfl (sub_cons rfl (sub_nil))))))))))) hS25
          refine ⟨⟨_, rfl, rfl, ?_⟩, trivial⟩
          refine g1 ?_
          exact anyS_weak (st' := ⟨[(46, .ptr 2 0 0), (49, .own 2), (56, .val (.int .i16 (((splP 32 s).map vlW).getD 2 0))), (10, .ptr 3 0 0), (6, .own 2), (5, .own 1), (4, .val (.int .i64 0)), (3, .nil), (2, .ptr 0 0 0), (0, .val (.string s))], [(3, ⟨30, 3, true, [[.val (.int .i16 0), .val (.int .i16 0), .val (.int .i16 0)]]⟩), (2, ⟨2, 1, false, i64s ((splP 32 s).map vlW)⟩), (1, ⟨9, 1, false, strs (splP 32 s)⟩), (0, ⟨30, 3, true, [[.val (.int .i16 0), .val (.int .i16 0), .val (.int .i16 0)]]⟩)], 4⟩) (by exact weak_sl (sub_cons rfl (sub_cons rfl (sub_cons rfl (sub_cons rfl (sub_cons rfl (sub_cons rfl (sub_cons rfl (sub_cons rfl (sub_cons rfl (sub_cons rfl (sub_nil)))))))))))) hS26
        refine anyS_cut (fuel' := 8) (listed' := #[true, false, false, false, true, true, true, true, true, true, false, false, false, false, false]) (st' := ⟨[(45, .own 2), (52, .val (.int .i16 (((splP 32 s).map vlW).getD 1 0))), (54, .ptr 2 2 0), (6, .own 2), (5, .own 1), (4, .val (.int .i64 0)), (3, .nil), (2, .ptr 0 0 0), (0, .val (.string s))], [(2, ⟨2, 1, false, i64s ((splP 32 s).map vlW)⟩), (1, ⟨9, 1, false, strs (splP 32 s)⟩), (0, ⟨30, 3, true, [[.val (.int .i16 0), .val (.int .i16 0), .val (.int .i16 0)]]⟩)], 3⟩) ?_ (fun hS35 => ?_)
        · skip
          refine anyS_cons T0_ok hP hm hN (by rfl) [1, 10, 13] (by rfl) rfl ?_
          refine ⟨⟨_, rfl, rfl, ?_⟩, ?_⟩
          · skip
            refine g1 ?_
            exact anyS_weak (st' := ⟨[(46, .ptr 2 0 0), (52, .val (.int .i16 (((splP 32 s).map vlW).getD 1 0))), (54, .ptr 2 2 0), (6, .own 2), (5, .own 1), (4, .val (.int .i64 0)), (3, .nil), (2, .ptr 0 0 0), (0, .val (.string s))], [(2, ⟨2, 1, false, i64s ((splP 32 s).map vlW)⟩), (1, ⟨9, 1, false, strs (splP 32 s)⟩), (0, ⟨30, 3, true, [[.val (.int .i16 0), .val (.int .i16 0), .val (.int .i16 0)]]⟩)], 3⟩) (by exact weak_sl (sub_cons rfl (sub_cons rfl (sub_cons rfl (sub_cons rfl (sub_cons rfl (sub_cons rfl (sub_cons rfl (sub_cons rfl (sub_cons rfl (sub_nil))))))))))) hS23
          refine ⟨⟨_, rfl, rfl, ?_⟩, ?_⟩
          · skip
            refine g1 ?_
            refine anyS_floatV T0_ok hP hm hN (by rfl) 11 rfl rfl (by rfl) (by rfl) (by first | trivial | rfl | exact ⟨rfl, rfl⟩ | exact ⟨rfl, rfl, fun _ => rfl, Nat.le_of_ble_eq_true rfl, .inl rfl⟩ | exact ⟨rfl, rfl, fun h => (nomatch h), Nat.le_of_ble_eq_true rfl, .inl rfl⟩ | exact ⟨rfl, rfl, fun _ => rfl, Nat.le_of_ble_eq_true rfl, .inr rfl⟩ | exact ⟨rfl, rfl, fun h => (nomatch h), Nat.le_of_ble_eq_true rfl, .inr rfl⟩ | omega | exact ⟨rfl, by (repeat (first | exact fm_nil | refine fm_cons ⟨rfl, rfl⟩ ?_)), Nat.le_of_ble_eq_true rfl, Nat.le_of_ble_eq_true rfl⟩ | (refine ⟨?_, ?_, ?_, ?_, ?_, ?_, ?_⟩ <;> first | omega | exact Nat.le_of_ble_eq_true rfl) | exact ⟨rfl, by omega, by (try simp only [List.length_map, List.length_set]); omega⟩ | exact ⟨rfl, by omega, by simp only [Int.toNat_natCast]; omega, by omega, Nat.le_of_ble_eq_true rfl, rfl⟩) rfl (by rfl) (by rfl) (by rfl) ?_
            refine g1 ?_
            exact anyS_weak (st' := ⟨[(45, .own 2), (52, .val (.int .i16 (((splP 32 s).map vlW).getD 1 0))), (56, .val (.int .i16 (((splP 32 s).map vlW).getD 2 0))), (6, .own 2), (5, .own 1), (4, .val (.int .i64 0)), (3, .nil), (2, .ptr 0 0 0), (0, .val (.string s))], [(2, ⟨2, 1, false, i64s ((splP 32 s).map vlW)⟩), (1, ⟨9, 1, false, strs (splP 32 s)⟩), (0, ⟨30, 3, true, [[.val (.int .i16 0), .val (.int .i16 0), .val (.int .i16 0)]]⟩)], 3⟩) (by exact weak_sl (sub_cons rfl (sub_cons rfl (sub_cons rfl (sub_cons rfl (sub_cons rfl (sub_cons rfl (sub_cons rfl (sub_cons rfl (sub_cons rfl (sub_nil))))))))))) hS19
          refine ⟨⟨_, rfl, rfl, ?_⟩, trivial⟩
          refine g1 ?_
          exact anyS_weak (st' := ⟨[(45, .own 2), (52, .val (.int .i16 (((splP 32 s).map vlW).getD 1 0))), (54, .ptr 2 2 0), (10, .ptr 3 0 0), (6, .own 2), (5, .own 1), (4, .val (.int .i64 0)), (3, .nil), (2, .ptr 0 0 0), (0, .val (.string s))], [(3, ⟨30, 3, true, [[.val (.int .i16 0), .val (.int .i16 0), .val (.int .i16 0)]]⟩), (2, ⟨2, 1, false, i64s ((splP 32 s).map vlW)⟩), (1, ⟨9, 1, false, strs (splP 32 s)⟩), (0, ⟨30, 3, true, [[.val (.int .i16 0), .val (.int .i16 0), .val (.int .i16 0)]]⟩)], 4⟩) (by exact weak_sl (sub_cons rfl (sub_cons rfl (sub_cons rfl (sub_cons rfl (sub_cons rfl (sub_cons rfl (sub_cons rfl (sub_cons rfl (sub_cons rfl (sub_cons rfl (sub_nil)))))))))))) hS27
        refine anyS_cut (fuel' := 8) (listed' := #[true, false, false, false, true, true, true, true, true, false, false, false, false, true, false]) (st' := ⟨[(45, .own 2), (52, .val (.int .i16 (((splP 32 s).map vlW).getD 1 0))), (53, .own 2), (10, .ptr 3 0 0), (6, .own 2), (5, .own 1), (4, .val (.int .i64 0)), (3, .nil), (2, .ptr 0 0 0), (0, .val (.string s))], [(3, ⟨30, 3, true, [[.val (.int .i16 0), .val (.int .i16 0), .val (.int .i16 0)]]⟩), (2, ⟨2, 1, false, i64s ((splP 32 s).map vlW)⟩), (1, ⟨9, 1, false, strs (splP 32 s)⟩), (0, ⟨30, 3, true, [[.val (.int .i16 0), .val (.int .i16 0), .val (.int .i16 0)]]⟩)], 4⟩) ?_ (fun hS36 => ?_)
        · skip
          refine anyS_cons T0_ok hP hm hN (by rfl) [1, 9] (by rfl) rfl ?_
          refine ⟨⟨_, rfl, rfl, ?_⟩, ?_⟩
          · skip
            refine g1 ?_
            exact anyS_weak (st' := ⟨[(46, .ptr 2 0 0), (52, .val (.int .i16 (((splP 32 s).map vlW).getD 1 0))), (53, .own 2), (10, .ptr 3 0 0), (6, .own 2), (5, .own 1), (4, .val (.int .i64 0)), (3, .nil), (2, .ptr 0 0 0), (0, .val (.string s))], [(3, ⟨30, 3, true, [[.val (.int .i16 0), .val (.int .i16 0), .val (.int .i16 0)]]⟩), (2, ⟨2, 1, false, i64s ((splP 32 s).map vlW)⟩), (1, ⟨9, 1, false, strs (splP 32 s)⟩), (0, ⟨30, 3, true, [[.val (.int .i16 0), .val (.int .i16 0), .val (.int .i16 0)]]⟩)], 4⟩) (by exact weak_sl (sub_cons rfl (sub_cons rfl (sub_cons rfl (sub_cons rfl (sub_cons rfl (sub_cons rfl (sub_cons rfl (sub_cons rfl (sub_cons rfl (sub_cons rfl (sub_nil)))))))))))) hS24
          refine ⟨⟨_, rfl, rfl, ?_⟩, trivial⟩
          refine g1 ?_
          exact anyS_weak (st' := ⟨[(45, .own 2), (52, .val (.int .i16 (((splP 32 s).map vlW).getD 1 0))), (54, .ptr 2 2 0), (10, .ptr 3 0 0), (6, .own 2), (5, .own 1), (4, .val (.int .i64 0)), (3, .nil), (2, .ptr 0 0 0), (0, .val (.string s))], [(3, ⟨30, 3, true, [[.val (.int .i16 0), .val (.int .i16 0), .val (.int .i16 0)]]⟩), (2, ⟨2, 1, false, i64s ((splP 32 s).map vlW)⟩), (1, ⟨9, 1, false, strs (splP 32 s)⟩), (0, ⟨30, 3, true, [[.val (.int .i16 0), .val (.int .i16 0), .val (.int .i16 0)]]⟩)], 4⟩) (by exact weak_sl (sub_cons rfl (sub_cons rfl (sub_cons rfl (sub_cons rfl (sub_cons rfl (sub_cons rfl (sub_cons rfl (sub_cons rfl (sub_cons rfl (sub_cons rfl (sub_nil)))))))))))) hS27
        refine anyS_cut (fuel' := 8) (listed' := #[true, false, false, false, true, true, false, false, true, true, true, true, false, false, false]) (st' := ⟨[(45, .own 2), (50, .ptr 2 1 0), (56, .val (.int .i16 (((splP 32 s).map vlW).getD 2 0))), (6, .own 2), (5, .own 1), (4, .val (.int .i64 0)), (3, .nil), (2, .ptr 0 0 0), (0, .val (.string s))], [(2, ⟨2, 1, false, i64s ((splP 32 s).map vlW)⟩), (1, ⟨9, 1, false, strs (splP 32 s)⟩), (0, ⟨30, 3, true, [[.val (.int .i16 0), .val (.int .i16 0), .val (.int .i16 0)]]⟩)], 3⟩) ?_ (fun hS37 => ?_)
        · skip
          refine anyS_cons T0_ok hP hm hN (by rfl) [1, 6, 13] (by rfl) rfl ?_
          refine ⟨⟨_, rfl, rfl, ?_⟩, ?_⟩
          · skip
            refine g1 ?_
            exact anyS_weak (st' := ⟨[(46, .ptr 2 0 0), (50, .ptr 2 1 0), (56, .val (.int .i16 (((splP 32 s).map vlW).getD 2 0))), (6, .own 2), (5, .own 1), (4, .val (.int .i64 0)), (3, .nil), (2, .ptr 0 0 0), (0, .val (.string s))], [(2, ⟨2, 1, false, i64s ((splP 32 s).map vlW)⟩), (1, ⟨9, 1, false, strs (splP 32 s)⟩), (0, ⟨30, 3, true, [[.val (.int .i16 0), .val (.int .i16 0), .val (.int .i16 0)]]⟩)], 3⟩) (by exact weak_sl (sub_cons rfl (sub_cons rfl (sub_cons rfl (sub_cons rfl (sub_cons rfl (sub_cons rfl (sub_cons rfl (sub_cons rfl (sub_cons rfl (sub_nil))))))))))) hS25
          refine ⟨⟨_, rfl, rfl, ?_⟩, ?_⟩
          · skip
            refine g1 ?_
            refine anyS_floatV T0_ok hP hm hN (by rfl) 7 rfl rfl (by rfl) (by rfl) (by first | trivial | rfl | exact ⟨rfl, rfl⟩ | exact ⟨rfl, rfl, fun _ => rfl, Nat.le_of_ble_eq_true rfl, .inl rfl⟩ | exact ⟨rfl, rfl, fun h => (nomatch h), Nat.le_of_ble_eq_true rfl, .inl rfl⟩ | exact ⟨rfl, rfl, fun _ => rfl, Nat.le_of_ble_eq_true rfl, .inr rfl⟩ | exact ⟨rfl, rfl, fun h => (nomatch h), Nat.le_of_ble_eq_true rfl, .inr rfl⟩ | omega | exact ⟨rfl, by (repeat (first | exact fm_nil | refine fm_cons ⟨rfl, rfl⟩ ?_)), Nat.le_of_ble_eq_true rfl, Nat.le_of_ble_eq_true rfl⟩ | (refine ⟨?_, ?_, ?_, ?_, ?_, ?_, ?_⟩ <;> first | omega | exact Nat.le_of_ble_eq_true rfl) | exact ⟨rfl, by omega, by (try simp only [List.length_map, List.length_set]); omega⟩ | exact ⟨rfl, by omega, by simp only [Int.toNat_natCast]; omega, by omega, Nat.le_of_ble_eq_true rfl, rfl⟩) rfl (by rfl) (by rfl) (by rfl) ?_
            refine g1 ?_
            exact anyS_weak (st' := ⟨[(45, .own 2), (52, .val (.int .i16 (((splP 32 s).map vlW).getD 1 0))), (56, .val (.int .i16 (((splP 32 s).map vlW).getD 2 0))), (6, .own 2), (5, .own 1), (4, .val (.int .i64 0)), (3, .nil), (2, .ptr 0 0 0), (0, .val (.string s))], [(2, ⟨2, 1, false, i64s ((splP 32 s).map vlW)⟩), (1, ⟨9, 1, false, strs (splP 32 s)⟩), (0, ⟨30, 3, true, [[.val (.int .i16 0), .val (.int .i16 0), .val (.int .i16 0)]]⟩)], 3⟩) (by exact weak_sl (sub_cons rfl (sub_cons rfl (sub_cons rfl (sub_cons rfl (sub_cons rfl (sub_cons rfl (sub_cons rfl (sub_cons rfl (sub_cons rfl (sub_nil))))))))))) hS19
          refine ⟨⟨_, rfl, rfl, ?_⟩, trivial⟩
          refine g1 ?_
          exact anyS_weak (st' := ⟨[(45, .own 2), (50, .ptr 2 1 0), (56, .val (.int .i16 (((splP 32 s).map vlW).getD 2 0))), (10, .ptr 3 0 0), (6, .own 2), (5, .own 1), (4, .val (.int .i64 0)), (3, .nil), (2, .ptr 0 0 0), (0, .val (.string s))], [(3, ⟨30, 3, true, [[.val (.int .i16 0), .val (.int .i16 0), .val (.int .i16 0)]]⟩), (2, ⟨2, 1, false, i64s ((splP 32 s).map vlW)⟩), (1, ⟨9, 1, false, strs (splP 32 s)⟩), (0, ⟨30, 3, true, [[.val (.int .i16 0), .val (.int .i16 0), .val (.int .i16 0)]]⟩)], 4⟩) (by exact weak_sl (sub_cons rfl (sub_cons rfl (sub_cons rfl (sub_cons rfl (sub_cons rfl (sub_cons rfl (sub_cons rfl (sub_cons rfl (sub_cons rfl (sub_cons rfl (sub_nil)))))))))))) hS28
        refine anyS_cut (fuel' := 8) (listed' := #[true, false, false, false, true, false, false, false, true, true, true, true, false, true, false]) (st' := ⟨[(45, .own 2), (49, .own 2), (56, .val (.int .i16 (((splP 32 s).map vlW).getD 2 0))), (10, .ptr 3 0 0), (6, .own 2), (5, .own 1), (4, .val (.int .i64 0)), (3, .nil), (2, .ptr 0 0 0), (0, .val (.string s))], [(3, ⟨30, 3, true, [[.val (.int .i16 0), .val (.int .i16 0), .val (.int .i16 0)]]⟩), (2, ⟨2, 1, false, i64s ((splP 32 s).map vlW)⟩), (1, ⟨9, 1, false, strs (splP 32 s)⟩), (0, ⟨30, 3, true, [[.val (.int .i16 0), .val (.int .i16 0), .val (.int .i16 0)]]⟩)], 4⟩) ?_ (fun hS38 => ?_)
        · skip
          refine anyS_cons T0_ok hP hm hN (by rfl) [1, 5] (by rfl) rfl ?_
          refine ⟨⟨_, rfl, rfl, ?_⟩, ?_⟩
          · skip
            refine g1 ?_
            exact anyS_weak (st' := ⟨[(46, .ptr 2 0 0), (49, .own 2), (56, .val (.int .i16 (((splP 32 s).map vlW).getD 2 0))), (10, .ptr 3 0 0), (6, .own 2), (5, .own 1), (4, .val (.int .i64 0)), (3, .nil), (2, .ptr 0 0 0), (0, .val (.string s))], [(3, ⟨30, 3, true, [[.val (.int .i16 0), .val (.int .i16 0), .val (.int .i16 0)]]⟩), (2, ⟨2, 1, false, i64s ((splP 32 s).map vlW)⟩), (1, ⟨9, 1, false, strs (splP 32 s)⟩), (0, ⟨30, 3, true, [[.val (.int .i16 0), .val (.int .i16 0), .val (.int .i16 0)]]⟩)], 4⟩) (by exact weak_sl (sub_cons rfl (sub_cons rfl (sub_cons rfl (sub_cons rfl (sub_cons rfl (sub_cons rfl (sub_cons rfl (sub_cons rfl (sub_cons rfl (sub_cons rfl (sub_nil)))))))))))) hS26
          refine ⟨⟨_, rfl, rfl, ?_⟩, trivial⟩
          refine g1 ?_
          exact anyS_weak (st' := ⟨[(45, .own 2), (50, .ptr 2 1 0), (56, .val (.int .i16 (((splP 32 s).map vlW).getD 2 0))), (10, .ptr 3 0 0), (6, .own 2), (5, .own 1), (4, .val (.int .i64 0)), (3, .nil), (2, .ptr 0 0 0), (0, .val (.string s))], [(3, ⟨30, 3, true, [[.val (.int .i16 0), .val (.int .i16 0), .val (.int .i16 0)]]⟩), (2, ⟨2, 1, false, i64s ((splP 32 s).map vlW)⟩), (1, ⟨9, 1, false, strs (splP 32 s)⟩), (0, ⟨30, 3, true, [[.val (.int .i16 0), .val (.int .i16 0), .val (.int .i16 0)]]⟩)], 4⟩) (by exact weak_sl (sub_cons rfl (sub_cons rfl (sub_cons rfl (sub_cons rfl (sub_cons rfl (sub_cons rfl (sub_cons rfl (sub_cons rfl (sub_cons rfl (sub_cons rfl (sub_nil)))))))))))) hS28
        refine anyS_cut (fuel' := 9) (listed' := #[true, true, true, true, true, false, false, false, true, false, false, false, false, false, false]) (st' := ⟨[(48, .val (.int .i16 (((splP 32 s).map vlW).getD 0 0))), (49, .own 2), (53, .own 2), (6, .own 2), (5, .own 1), (4, .val (.int .i64 0)), (3, .nil), (2, .ptr 0 0 0), (0, .val (.string s))], [(2, ⟨2, 1, false, i64s ((splP 32 s).map vlW)⟩), (1, ⟨9, 1, false, strs (splP 32 s)⟩), (0, ⟨30, 3, true, [[.val (.int .i16 0), .val (.int .i16 0), .val (.int .i16 0)]]⟩)], 3⟩) ?_ (fun hS39 => ?_)
        · skip
          refine anyS_cons T0_ok hP hm hN (by rfl) [5, 9, 13] (by rfl) rfl ?_
          refine ⟨⟨_, rfl, rfl, ?_⟩, ?_⟩
          · skip
            refine g1 ?_
            exact anyS_weak (st' := ⟨[(48, .val (.int .i16 (((splP 32 s).map vlW).getD 0 0))), (50, .ptr 2 1 0), (53, .own 2), (6, .own 2), (5, .own 1), (4, .val (.int .i64 0)), (3, .nil), (2, .ptr 0 0 0), (0, .val (.string s))], [(2, ⟨2, 1, false, i64s ((splP 32 s).map vlW)⟩), (1, ⟨9, 1, false, strs (splP 32 s)⟩), (0, ⟨30, 3, true, [[.val (.int .i16 0), .val (.int .i16 0), .val (.int .i16 0)]]⟩)], 3⟩) (by exact weak_sl (sub_cons rfl (sub_cons rfl (sub_cons rfl (sub_cons rfl (sub_cons rfl (sub_cons rfl (sub_cons rfl (sub_cons rfl (sub_cons rfl (sub_nil))))))))))) hS29
          refine ⟨⟨_, rfl, rfl, ?_⟩, ?_⟩
          · skip
            refine g1 ?_
            exact anyS_weak (st' := ⟨[(48, .val (.int .i16 (((splP 32 s).map vlW).getD 0 0))), (49, .own 2), (54, .ptr 2 2 0), (6, .own 2), (5, .own 1), (4, .val (.int .i64 0)), (3, .nil), (2, .ptr 0 0 0), (0, .val (.string s))], [(2, ⟨2, 1, false, i64s ((splP 32 s).map vlW)⟩), (1, ⟨9, 1, false, strs (splP 32 s)⟩), (0, ⟨30, 3, true, [[.val (.int .i16 0), .val (.int .i16 0), .val (.int .i16 0)]]⟩)], 3⟩) (by exact weak_sl (sub_cons rfl (sub_cons rfl (sub_cons rfl (sub_cons rfl (sub_cons rfl (sub_cons rfl (sub_cons rfl (sub_cons rfl (sub_cons rfl (sub_nil))))))))))) hS30
          refine ⟨⟨_, rfl, rfl, ?_⟩, trivial⟩
          refine g1 ?_
          exact anyS_weak (st' := ⟨[(48, .val (.int .i16 (((splP 32 s).map vlW).getD 0 0))), (49, .own 2), (53, .own 2), (10, .ptr 3 0 0), (6, .own 2), (5, .own 1), (4, .val (.int .i64 0)), (3, .nil), (2, .ptr 0 0 0), (0, .val (.string s))], [(3, ⟨30, 3, true, [[.val (.int .i16 0), .val (.int .i16 0), .val (.int .i16 0)]]⟩), (2, ⟨2, 1, false, i64s ((splP 32 s).map vlW)⟩), (1, ⟨9, 1, false, strs (splP 32 s)⟩), (0, ⟨30, 3, true, [[.val (.int .i16 0), .val (.int .i16 0), .val (.int .i16 0)]]⟩)], 4⟩) (by exact weak_sl (sub_cons rfl (sub_cons rfl (sub_cons rfl (sub_cons rfl (sub_cons rfl (sub_cons rfl (sub_cons rfl (sub_cons rfl (sub_cons rfl (sub_cons rfl (sub_nil)))))))))))) hS31
        refine anyS_cut (fuel' := 9) (listed' := #[true, true, false, false, true, true, false, false, true, true, false, false, false, false, false]) (st' := ⟨[(46, .ptr 2 0 0), (50, .ptr 2 1 0), (54, .ptr 2 2 0), (6, .own 2), (5, .own 1), (4, .val (.int .i64 0)), (3, .nil), (2, .ptr 0 0 0), (0, .val (.string s))], [(2, ⟨2, 1, false, i64s ((splP 32 s).map vlW)⟩), (1, ⟨9, 1, false, strs (splP 32 s)⟩), (0, ⟨30, 3, true, [[.val (.int .i16 0), .val (.int .i16 0), .val (.int .i16 0)]]⟩)], 3⟩) ?_ (fun hS40 => ?_)
        · skip
          refine anyS_cons T0_ok hP hm hN (by rfl) [2, 6, 10, 13] (by rfl) rfl ?_
          refine ⟨⟨_, rfl, rfl, ?_⟩, ?_⟩
          · skip
            refine g1 ?_
            refine anyS_floatV T0_ok hP hm hN (by rfl) 3 rfl rfl (by rfl) (by rfl) (by first | trivial | rfl | exact ⟨rfl, rfl⟩ | exact ⟨rfl, rfl, fun _ => rfl, Nat.le_of_ble_eq_true rfl, .inl rfl⟩ | exact ⟨rfl, rfl, fun h => (nomatch h), Nat.le_of_ble_eq_true rfl, .inl rfl⟩ | exact ⟨rfl, rfl, fun _ => rfl, Nat.le_of_ble_eq_true rfl, .inr rfl⟩ | exact ⟨rfl, rfl, fun h => (nomatch h), Nat.le_of_ble_eq_true rfl, .inr rfl⟩ | omega | exact ⟨rfl, by (repeat (first | exact fm_nil | refine fm_cons ⟨rfl, rfl⟩ ?_)), Nat.le_of_ble_eq_true rfl, Nat.le_of_ble_eq_true rfl⟩ | (refine ⟨?_, ?_, ?_, ?_, ?_, ?_, ?_⟩ <;> first | omega | exact Nat.le_of_ble_eq_true rfl) | exact ⟨rfl, by omega, by (try simp only [List.length_map, List.length_set]); omega⟩ | exact ⟨rfl, by omega, by simp only [Int.toNat_natCast]; omega, by omega, Nat.le_of_ble_eq_true rfl, rfl⟩) rfl (by rfl) (by rfl) (by rfl) ?_
            refine g1 ?_
            exact anyS_weak (st' := ⟨[(48, .val (.int .i16 (((splP 32 s).map vlW).getD 0 0))), (50, .ptr 2 1 0), (54, .ptr 2 2 0), (6, .own 2), (5, .own 1), (4, .val (.int .i64 0)), (3, .nil), (2, .ptr 0 0 0), (0, .val (.string s))], [(2, ⟨2, 1, false, i64s ((splP 32 s).map vlW)⟩), (1, ⟨9, 1, false, strs (splP 32 s)⟩), (0, ⟨30, 3, true, [[.val (.int .i16 0), .val (.int .i16 0), .val (.int .i16 0)]]⟩)], 3⟩) (by exact weak_sl (sub_cons rfl (sub_cons rfl (sub_cons rfl (sub_cons rfl (sub_cons rfl (sub_cons rfl (sub_cons rfl (sub_cons rfl (sub_cons rfl (sub_nil))))))))))) hS20
          refine ⟨⟨_, rfl, rfl, ?_⟩, ?_⟩
          · skip
            refine g1 ?_
            refine anyS_floatV T0_ok hP hm hN (by rfl) 7 rfl rfl (by rfl) (by rfl) (by first | trivial | rfl | exact ⟨rfl, rfl⟩ | exact ⟨rfl, rfl, fun _ => rfl, Nat.le_of_ble_eq_true rfl, .inl rfl⟩ | exact ⟨rfl, rfl, fun h => (nomatch h), Nat.le_of_ble_eq_true rfl, .inl rfl⟩ | exact ⟨rfl, rfl, fun _ => rfl, Nat.le_of_ble_eq_true rfl, .inr rfl⟩ | exact ⟨rfl, rfl, fun h => (nomatch h), Nat.le_of_ble_eq_true rfl, .inr rfl⟩ | omega | exact ⟨rfl, by (repeat (first | exact fm_nil | refine fm_cons ⟨rfl, rfl⟩ ?_)), Nat.le_of_ble_eq_true rfl, Nat.le_of_ble_eq_true rfl⟩ | (refine ⟨?_, ?_, ?_, ?_, ?_, ?_, ?_⟩ <;> first | omega | exact Nat.le_of_ble_eq_true rfl) | exact ⟨rfl, by omega, by (try simp only [List.length_map, List.length_set]); omega⟩ | exact ⟨rfl, by omega, by simp only [Int.toNat_natCast]; omega, by omega, Nat.le_of_ble_eq_true rfl, rfl⟩) rfl (by rfl) (by rfl) (by rfl) ?_
            refine g1 ?_
            exact anyS_weak (st' := ⟨[(46, .ptr 2 0 0), (52, .val (.int .i16 (((splP 32 s).map vlW).getD 1 0))), (54, .ptr 2 2 0), (6, .own 2), (5, .own 1), (4, .val (.int .i64 0)), (3, .nil), (2, .ptr 0 0 0), (0, .val (.string s))], [(2, ⟨2, 1, false, i64s ((splP 32 s).map vlW)⟩), (1, ⟨9, 1, false, strs (splP 32 s)⟩), (0, ⟨30, 3, true, [[.val (.int .i16 0), .val (.int .i16 0), .val (.int .i16 0)]]⟩)], 3⟩) (by exact weak_sl (sub_cons rfl (sub_cons rfl (sub_cons rfl (sub_cons rfl (sub_cons rfl (sub_cons rfl (sub_cons rfl (sub_cons rfl (sub_cons rfl (sub_nil))))))))))) hS23
          refine ⟨⟨_, rfl, rfl, ?_⟩, ?_⟩
          · skip
            refine g1 ?_
            refine anyS_floatV T0_ok hP hm hN (by rfl) 11 rfl rfl (by rfl) (by rfl) (by first | trivial | rfl | exact ⟨rfl, rfl⟩ | exact ⟨rfl, rfl, fun _ => rfl, Nat.le_of_ble_eq_true rfl, .inl rfl⟩ | exact ⟨rfl, rfl, fun h => (nomatch h), Nat.le_of_ble_eq_true rfl, .inl rfl⟩ | exact ⟨rfl, rfl, fun _ => rfl, Nat.le_of_ble_eq_true rfl, .inr rfl⟩ | exact ⟨rfl, rfl, fun h => (nomatch h), Nat.le_of_ble_eq_true rfl, .inr rfl⟩ | omega | exact ⟨rfl, by (repeat (first | exact fm_nil | refine fm_cons ⟨rfl, rfl⟩ ?_)), Nat.le_of_ble_eq_true rfl, Nat.le_of_ble_eq_true rfl⟩ | (refine ⟨?_, ?_, ?_, ?_, ?_, ?_, ?_⟩ <;> first | omega | exact Nat.le_of_ble_eq_true rfl) | exact ⟨rfl, by omega, by (try simp only [List.length_map, List.length_set]); omega⟩ | exact ⟨rfl, by omega, by simp only [Int.toNat_natCast]; omega, by omega, Nat.le_of_ble_eq_true rfl, rfl⟩) rfl (by rfl) (by rfl) (by rfl) ?_
            refine g1 ?_
            exact anyS_weak (st' := ⟨[(46, .ptr 2 0 0), (50, .ptr 2 1 0), (56, .val (.int .i16 (((splP 32 s).map vlW).getD 2 0))), (6, .own 2), (5, .own 1), (4, .val (.int .i64 0)), (3, .nil), (2, .ptr 0 0 0), (0, .val (.string s))], [(2, ⟨2, 1, false, i64s ((splP 32 s).map vlW)⟩), (1, ⟨9, 1, false, strs (splP 32 s)⟩), (0, ⟨30, 3, true, [[.val (.int .i16 0), .val (.int .i16 0), .val (.int .i16 0)]]⟩)], 3⟩) (by exact weak_sl (sub_cons rfl (sub_cons rfl (sub_cons rfl (sub_cons rfl (sub_cons rfl (sub_cons rfl (sub_cons rfl (sub_cons rfl (sub_cons rfl (sub_nil))))))))))) hS25
          refine ⟨⟨_, rfl, rfl, ?_⟩, trivial⟩
          refine g1 ?_
          exact anyS_weak (st' := ⟨[(46, .ptr 2 0 0), (50, .ptr 2 1 0), (54, .ptr 2 2 0), (10, .ptr 3 0 0), (6, .own 2), (5, .own 1), (4, .val (.int .i64 0)), (3, .nil), (2, .ptr 0 0 0), (0, .val (.string s))], [(3, ⟨30, 3, true, [[.val (.int .i16 0), .val (.int .i16 0), .val (.int .i16 0)]]⟩), (2, ⟨2, 1, false, i64s ((splP 32 s).map vlW)⟩), (1, ⟨9, 1, false, strs (splP 32 s)⟩), (0, ⟨30, 3, true, [[.val (.int .i16 0), .val (.int .i16 0), .val (.int .i16 0)]]⟩)], 4⟩) (by exact weak_sl (sub_cons rfl (sub_cons rfl (sub_cons rfl (sub_cons rfl (sub_cons rfl (sub_cons rfl (sub_cons rfl (sub_cons rfl (sub_cons rfl (sub_cons rfl (sub_nil)))))))))))) hS33
        refine anyS_cut (fuel' := 9) (listed' := #[true, true, false, false, true, true, false, false, true, false, false, false, false, true, false]) (st' := ⟨[(46, .ptr 2 0 0), (50, .ptr 2 1 0), (53, .own 2), (10, .ptr 3 0 0), (6, .own 2), (5, .own 1), (4, .val (.int .i64 0)), (3, .nil), (2, .ptr 0 0 0), (0, .val (.string s))], [(3, ⟨30, 3, true, [[.val (.int .i16 0), .val (.int .i16 0), .val (.int .i16 0)]]⟩), (2, ⟨2, 1, false, i64s ((splP 32 s).map vlW)⟩), (1, ⟨9, 1, false, strs (splP 32 s)⟩), (0, ⟨30, 3, true, [[.val (.int .i16 0), .val (.int .i16 0), .val (.int .i16 0)]]⟩)], 4⟩) ?_ (fun hS41 => ?_)
        · skip
          refine anyS_cons T0_ok hP hm hN (by rfl) [2, 6, 9] (by rfl) rfl ?_
          refine ⟨⟨_, rfl, rfl, ?_⟩, ?_⟩
          · skip
            refine g1 ?_
            refine anyS_floatV T0_ok hP hm hN (by rfl) 3 rfl rfl (by rfl) (by rfl) (by first | trivial | rfl | exact ⟨rfl, rfl⟩ | exact ⟨rfl, rfl, fun _ => rfl, Nat.le_of_ble_eq_true rfl, .inl rfl⟩ | exact ⟨rfl, rfl, fun h => (nomatch h), Nat.le_of_ble_eq_true rfl, .inl rfl⟩ | exact ⟨rfl, rfl, fun _ => rfl, Nat.le_of_ble_eq_true rfl, .inr rfl⟩ | exact ⟨rfl, rfl, fun h => (nomatch h), Nat.le_of_ble_eq_true rfl, .inr rfl⟩ | omega | exact ⟨rfl, by (repeat (first | exact fm_nil | refine fm_cons ⟨rfl, rfl⟩ ?_)), Nat.le_of_ble_eq_true rfl, Nat.le_of_ble_eq_true rfl⟩ | (refine ⟨?_, ?_, ?_, ?_, ?_, ?_, ?_⟩ <;> first | omega | exact Nat.le_of_ble_eq_true rfl) | exact ⟨rfl, by omega, by (try simp only [List.length_map, List.length_set]); omega⟩ | exact ⟨rfl, by omega, by simp only [Int.toNat_natCast]; omega, by omega, Nat.le_of_ble_eq_true rfl, rfl⟩) rfl (by rfl) (by rfl) (by rfl) ?_
            refine g1 ?_
            exact anyS_weak (st' := ⟨[(48, .val (.int .i16 (((splP 32 s).map vlW).getD 0 0))), (50, .ptr 2 1 0), (53, .own 2), (10, .ptr 3 0 0), (6, .own 2), (5, .own 1), (4, .val (.int .i64 0)), (3, .nil), (2, .ptr 0 0 0), (0, .val (.string s))], [(3, ⟨30, 3, true, [[.val (.int .i16 0), .val (.int .i16 0), .val (.int .i16 0)]]⟩), (2, ⟨2, 1, false, i64s ((splP 32 s).map vlW)⟩), (1, ⟨9, 1, false, strs (splP 32 s)⟩), (0, ⟨30, 3, true, [[.val (.int .i16 0), .val (.int .i16 0), .val (.int .i16 0)]]⟩)], 4⟩) (by exact weak_sl (sub_cons rfl (sub_cons rfl (sub_cons rfl (sub_cons rfl (sub_cons rfl (sub_cons rfl (sub_cons rfl (sub_cons rfl (sub_cons rfl (sub_cons rfl (sub_nil)))))))))))) hS21
          refine ⟨⟨_, rfl, rfl, ?_⟩, ?_⟩
          · skip
            refine g1 ?_
            refine anyS_floatV T0_ok hP hm hN (by rfl) 7 rfl rfl (by rfl) (by rfl) (by first | trivial | rfl | exact ⟨rfl, rfl⟩ | exact ⟨rfl, rfl, fun _ => rfl, Nat.le_of_ble_eq_true rfl, .inl rfl⟩ | exact ⟨rfl, rfl, fun h => (nomatch h), Nat.le_of_ble_eq_true rfl, .inl rfl⟩ | exact ⟨rfl, rfl, fun _ => rfl, Nat.le_of_ble_eq_true rfl, .inr rfl⟩ | exact ⟨rfl, rfl, fun h => (nomatch h), Nat.le_of_ble_eq_true rfl, .inr rfl⟩ | omega | exact ⟨rfl, by (repeat (first | exact fm_nil | refine fm_cons ⟨rfl, rfl⟩ ?_)), Nat.le_of_ble_eq_true rfl, Nat.le_of_ble_eq_true rfl⟩ | (refine ⟨?_, ?_, ?_, ?_, ?_, ?_, ?_⟩ <;> first | omega | exact Nat.le_of_ble_eq_true rfl) | exact ⟨rfl, by omega, by (try simp only [List.length_map, List.length_set]); omega⟩ | exact ⟨rfl, by omega, by simp only [Int.toNat_natCast]; omega, by omega, Nat.le_of_ble_eq_true rfl, rfl⟩) rfl (by rfl) (by rfl) (by rfl) ?_
            refine g1 ?_
            exact anyS_weak (st' := ⟨[(46, .ptr 2 0 0), (52, .val (.int .i16 (((splP 32 s).map vlW).getD 1 0))), (53, .own 2), (10, .ptr 3 0 0), (6, .own 2), (5, .own 1), (4, .val (.int .i64 0)), (3, .nil), (2, .ptr 0 0 0), (0, .val (.string s))], [(3, ⟨30, 3, true, [[.val (.int .i16 0), .val (.int .i16 0), .val (.int .i16 0)]]⟩), (2, ⟨2, 1, false, i64s ((splP 32 s).map vlW)⟩), (1, ⟨9, 1, false, strs (splP 32 s)⟩), (0, ⟨30, 3, true, [[.val (.int .i16 0), .val (.int .i16 0), .val (.int .i16 0)]]⟩)], 4⟩) (by exact weak_sl (sub_cons rfl (sub_cons rfl (sub_cons rfl (sub_cons rfl (sub_cons rfl (sub_cons rfl (sub_cons rfl (sub_cons rfl (sub_cons rfl (sub_cons rfl (sub_nil)))))))))))) hS24
          refine ⟨⟨_, rfl, rfl, ?_⟩, trivial⟩
          refine g1 ?_
          exact anyS_weak (st' := ⟨[(46, .ptr 2 0 0), (50, .ptr 2 1 0), (54, .ptr 2 2 0), (10, .ptr 3 0 0), (6, .own 2), (5, .own 1), (4, .val (.int .i64 0)), (3, .nil), (2, .ptr 0 0 0), (0, .val (.string s))], [(3, ⟨30, 3, true, [[.val (.int .i16 0), .val (.int .i16 0), .val (.int .i16 0)]]⟩), (2, ⟨2, 1, false, i64s ((splP 32 s).map vlW)⟩), (1, ⟨9, 1, false, strs (splP 32 s)⟩), (0, ⟨30, 3, true, [[.val (.int .i16 0), .val (.int .i16 0), .val (.int .i16 0)]]⟩)], 4⟩) (by exact weak_sl (sub_cons rfl (sub_cons rfl (sub_cons rfl (sub_cons rfl (sub_cons rfl (sub_cons rfl (sub_cons rfl (sub_cons rfl (sub_cons rfl (sub_cons rfl (sub_nil)))))))))))) hS33
        refine anyS_cut (fuel' := 9) (listed' := #[true, true, false, false, true, false, false, false, true, true, false, false, false, true, false]) (st' := ⟨[(46, .ptr 2 0 0), (49, .own 2), (54, .ptr 2 2 0), (10, .ptr 3 0 0), (6, .own 2), (5, .own 1), (4, .val (.int .i64 0)), (3, .nil), (2, .ptr 0 0 0), (0, .val (.string s))], [(3, ⟨30, 3, true, [[.val (.int .i16 0), .val (.int .i16 0), .val (.int .i16 0)]]⟩), (2, ⟨2, 1, false, i64s ((splP 32 s).map vlW)⟩), (1, ⟨9, 1, false, strs (splP 32 s)⟩), (0, ⟨30, 3, true, [[.val (.int .i16 0), .val (.int .i16 0), .val (.int .i16 0)]]⟩)], 4⟩) ?_ (fun hS42 => ?_)
        · skip
          refine anyS_cons T0_ok hP hm hN (by rfl) [2, 5, 10] (by rfl) rfl ?_
          refine ⟨⟨_, rfl, rfl, ?_⟩, ?_⟩
          · skip
            refine g1 ?_
            refine anyS_floatV T0_ok hP hm hN (by rfl) 3 rfl rfl (by rfl) (by rfl) (by first | trivial | rfl | exact ⟨rfl, rfl⟩ | exact ⟨rfl, rfl, fun _ => rfl, Nat.le_of_ble_eq_true rfl, .inl rfl⟩ | exact ⟨rfl, rfl, fun h => (nomatch h), Nat.le_of_ble_eq_true rfl, .inl rfl⟩ | exact ⟨rfl, rfl, fun _ => rfl, Nat.le_of_ble_eq_true rfl, .inr rfl⟩ | exact ⟨rfl, rfl, fun h => (nomatch h), Nat.le_of_ble_eq_true rfl, .inr rfl⟩ | omega | exact ⟨rfl, by (repeat (first | exact fm_nil | refine fm_cons ⟨rfl, rfl⟩ ?_)), Nat.le_of_ble_eq_true rfl, Nat.le_of_ble_eq_true rfl⟩ | (refine ⟨?_, ?_, ?_, ?_, ?_, ?_, ?_⟩ <;> first | omega | exact Nat.le_of_ble_eq_true rfl) | exact ⟨rfl, by omega, by (try simp only [List.length_map, List.length_set]); omega⟩ | exact ⟨rfl, by omega, by simp only [Int.toNat_natCast]; omega, by omega, Nat.le_of_ble_eq_true rfl, rfl⟩) rfl (by rfl) (by rfl) (by rfl) ?_
            refine g1 ?_
            exact anyS_weak (st' := ⟨[(48, .val (.int .i16 (((splP 32 s).map vlW).getD 0 0))), (49, .own 2), (54, .ptr 2 2 0), (10, .ptr 3 0 0), (6, .own 2), (5, .own 1), (4, .val (.int .i64 0)), (3, .nil), (2, .ptr 0 0 0), (0, .val (.string s))], [(3, ⟨30, 3, true, [[.val (.int .i16 0), .val (.int .i16 0), .val (.int .i16 0)]]⟩), (2, ⟨2, 1, false, i64s ((splP 32 s).map vlW)⟩), (1, ⟨9, 1, false, strs (splP 32 s)⟩), (0, ⟨30, 3, true, [[.val (.int .i16 0), .val (.int .i16 0), .val (.int .i16 0)]]⟩)], 4⟩) (by exact weak_sl (sub_cons rfl (sub_cons rfl (sub_cons rfl (sub_cons rfl (sub_cons rfl (sub_cons rfl (sub_cons rfl (sub_cons rfl (sub_cons rfl (sub_cons rfl (sub_nil)))))))))))) hS22
          refine ⟨⟨_, rfl, rfl, ?_⟩, ?_⟩
          · skip
            refine g1 ?_
            exact anyS_weak (st' := ⟨[(46, .ptr 2 0 0), (50, .ptr 2 1 0), (54, .ptr 2 2 0), (10, .ptr 3 0 0), (6, .own 2), (5, .own 1), (4, .val (.int .i64 0)), (3, .nil), (2, .ptr 0 0 0), (0, .val (.string s))], [(3, ⟨30, 3, true, [[.val (.int .i16 0), .val (.int .i16 0), .val (.int .i16 0)]]⟩), (2, ⟨2, 1, false, i64s ((splP 32 s).map vlW)⟩), (1, ⟨9, 1, false, strs (splP 32 s)⟩), (0, ⟨30, 3, true, [[.val (.int .i16 0), .val (.int .i16 0), .val (.int .i16 0)]]⟩)], 4⟩) (by exact weak_sl (sub_cons rfl (sub_cons rfl (sub_cons rfl (sub_cons rfl (sub_cons rfl (sub_cons rfl (sub_cons rfl (sub_cons rfl (sub_cons rfl (sub_cons rfl (sub_nil)))))))))))) hS33
          refine ⟨⟨_, rfl, rfl, ?_⟩, trivial⟩
          refine g1 ?_
          refine anyS_floatV T0_ok hP hm hN (by rfl) 11 rfl rfl (by rfl) (by rfl) (by first | trivial | rfl | exact ⟨rfl, rfl⟩ | exact ⟨rfl, rfl, fun _ => rfl, Nat.le_of_ble_eq_true rfl, .inl rfl⟩ | exact ⟨rfl, rfl, fun h => (nomatch h), Nat.le_of_ble_eq_true rfl, .inl rfl⟩ | exact ⟨rfl, rfl, fun _ => rfl, Nat.le_of_ble_eq_true rfl, .inr rfl⟩ | exact ⟨rfl, rfl, fun h => (nomatch h), Nat.le_of_ble_eq_true rfl, .inr rfl⟩ | omega | exact ⟨rfl, by (repeat (first | exact fm_nil | refine fm_cons ⟨rfl, rfl⟩ ?_)), Nat.le_of_ble_eq_true rfl, Nat.le_of_ble_eq_true rfl⟩ | (refine ⟨?_, ?_, ?_, ?_, ?_, ?_, ?_⟩ <;> first | omega | exact Nat.le_of_ble_eq_true rfl) | exact ⟨rfl, by omega, by (try simp only [List.length_map, List.length_set]); omega⟩ | exact ⟨rfl, by omega, by simp only [Int.toNat_natCast]; omega, by omega, Nat.le_of_ble_eq_true rfl, rfl⟩) rfl (by rfl) (by rfl) (by rfl) ?_
          refine g1 ?_
          exact anyS_weak (st' := ⟨[(46, .ptr 2 0 0), (49, .own 2), (56, .val (.int .i16 (((splP 32 s).map vlW).getD 2 0))), (10, .ptr 3 0 0), (6, .own 2), (5, .own 1), (4, .val (.int .i64 0)), (3, .nil), (2, .ptr 0 0 0), (0, .val (.string s))], [(3, ⟨30, 3, true, [[.val (.int .i16 0), .val (.int .i16 0), .val (.int .i16 0)]]⟩), (2, ⟨2, 1, false, i64s ((splP 32 s).map vlW)⟩), (1, ⟨9, 1, false, strs (splP 32 s)⟩), (0, ⟨30, 3, true, [[.val (.int .i16 0), .val (.int .i16 0), .val (.int .i16 0)]]⟩)], 4⟩) (by exact weak_sl (sub_cons rfl (sub_cons rfl (sub_cons rfl (sub_cons rfl (sub_cons rfl (sub_cons rfl (sub_cons rfl (sub_cons rfl (sub_cons rfl (sub_cons rfl (sub_nil)))))))))))) hS26
        refine anyS_cut (fuel' := 9) (listed' := #[true, false, false, false, true, true, true, true, true, false, false, false, false, false, false]) (st' := ⟨[(45, .own 2), (52, .val (.int .i16 (((splP 32 s).map vlW).getD 1 0))), (53, .own 2), (6, .own 2), (5, .own 1), (4, .val (.int .i64 0)), (3, .nil), (2, .ptr 0 0 0), (0, .val (.string s))], [(2, ⟨2, 1, false, i64s ((splP 32 s).map vlW)⟩), (1, ⟨9, 1, false, strs (splP 32 s)⟩), (0, ⟨30, 3, true, [[.val (.int .i16 0), .val (.int .i16 0), .val (.int .i16 0)]]⟩)], 3⟩) ?_ (fun hS43 => ?_)
        · skip
          refine anyS_cons T0_ok hP hm hN (by rfl) [1, 9, 13] (by rfl) rfl ?_
          refine ⟨⟨_, rfl, rfl, ?_⟩, ?_⟩
          · skip
            refine g1 ?_
            exact anyS_weak (st' := ⟨[(46, .ptr 2 0 0), (52, .val (.int .i16 (((splP 32 s).map vlW).getD 1 0))), (53, .own 2), (6, .own 2), (5, .own 1), (4, .val (.int .i64 0)), (3, .nil), (2, .ptr 0 0 0), (0, .val (.string s))], [(2, ⟨2, 1, false, i64s ((splP 32 s).map vlW)⟩), (1, ⟨9, 1, false, strs (splP 32 s)⟩), (0, ⟨30, 3, true, [[.val (.int .i16 0), .val (.int .i16 0), .val (.int .i16 0)]]⟩)], 3⟩) (by exact weak_sl (sub_cons rfl (sub_cons rfl (sub_cons rfl (sub_cons rfl (sub_cons rfl (sub_cons rfl (sub_cons rfl (sub_cons rfl (sub_cons rfl (sub_nil))))))))))) hS32
          refine ⟨⟨_, rfl, rfl, ?_⟩, ?_⟩
          · skip
            refine g1 ?_
            exact anyS_weak (st' := ⟨[(45, .own 2), (52, .val (.int .i16 (((splP 32 s).map vlW).getD 1 0))), (54, .ptr 2 2 0), (6, .own 2), (5, .own 1), (4, .val (.int .i64 0)), (3, .nil), (2, .ptr 0 0 0), (0, .val (.string s))], [(2, ⟨2, 1, false, i64s ((splP 32 s).map vlW)⟩), (1, ⟨9, 1, false, strs (splP 32 s)⟩), (0, ⟨30, 3, true, [[.val (.int .i16 0), .val (.int .i16 0), .val (.int .i16 0)]]⟩)], 3⟩) (by exact weak_sl (sub_cons rfl (sub_cons rfl (sub_cons rfl (sub_cons rfl (sub_cons rfl (sub_cons rfl (sub_cons rfl (sub_cons rfl (sub_cons rfl (sub_nil))))))))))) hS35
          refine ⟨⟨_, rfl, rfl, ?_⟩, trivial⟩
          refine g1 ?_
          exact anyS_weak (st' := ⟨[(45, .own 2), (52, .val (.int .i16 (((splP 32 s).map vlW).getD 1 0))), (53, .own 2), (10, .ptr 3 0 0), (6, .own 2), (5, .own 1), (4, .val (.int .i64 0)), (3, .nil), (2, .ptr 0 0 0), (0, .val (.string s))], [(3, ⟨30, 3, true, [[.val (.int .i16 0), .val (.int .i16 0), .val (.int .i16 0)]]⟩), (2, ⟨2, 1, false, i64s ((splP 32 s).map vlW)⟩), (1, ⟨9, 1, false, strs (splP 32 s)⟩), (0, ⟨30, 3, true, [[.val (.int .i16 0), .val (.int .i16 0), .val (.int .i16 0)]]⟩)], 4⟩) (by exact weak_sl (sub_cons rfl (sub_cons rfl (sub_cons rfl (sub_cons rfl (sub_cons rfl (sub_cons rfl (sub_cons rfl (sub_cons rfl (sub_cons rfl (sub_cons rfl (sub_nil)))))))))))) hS36
        refine anyS_cut (fuel' := 9) (listed' := #[true, false, false, false, true, true, false, false, true, true, false, false, false, true, false]) (st' := ⟨[(45, .own 2), (50, .ptr 2 1 0), (54, .ptr 2 2 0), (10, .ptr 3 0 0), (6, .own 2), (5, .own 1), (4, .val (.int .i64 0)), (3, .nil), (2, .ptr 0 0 0), (0, .val (.string s))], [(3, ⟨30, 3, true, [[.val (.int .i16 0), .val (.int .i16 0), .val (.int .i16 0)]]⟩), (2, ⟨2, 1, false, i64s ((splP 32 s).map vlW)⟩), (1, ⟨9, 1, false, strs (splP 32 s)⟩), (0, ⟨30, 3, true, [[.val (.int .i16 0), .val (.int .i16 0), .val (.int .i16 0)]]⟩)], 4⟩) ?_ (fun hS44 => ?_)
        · skip
          refine anyS_cons T0_ok hP hm hN (by rfl) [1, 6, 10] (by rfl) rfl ?_
          refine ⟨⟨_, rfl, rfl, ?_⟩, ?_⟩
          · skip
            refine g1 ?_
            exact anyS_weak (st' := ⟨[(46, .ptr 2 0 0), (50, .ptr 2 1 0), (54, .ptr 2 2 0), (10, .ptr 3 0 0), (6, .own 2), (5, .own 1), (4, .val (.int .i64 0)), (3, .nil), (2, .ptr 0 0 0), (0, .val (.string s))], [(3, ⟨30, 3, true, [[.val (.int .i16 0), .val (.int .i16 0), .val (.int .i16 0)]]⟩), (2, ⟨2, 1, false, i64s ((splP 32 s).map vlW)⟩), (1, ⟨9, 1, false, strs (splP 32 s)⟩), (0, ⟨30, 3, true, [[.val (.int .i16 0), .val (.int .i16 0), .val (.int .i16 0)]]⟩)], 4⟩) (by exact weak_sl (sub_cons rfl (sub_cons rfl (sub_cons rfl (sub_cons rfl (sub_cons rfl (sub_cons rfl (sub_cons rfl (sub_cons rfl (sub_cons rfl (sub_cons rfl (sub_nil)))))))))))) hS33
          refine ⟨⟨_, rfl, rfl, ?_⟩, ?_⟩
          · skip
            refine g1 ?_
            refine anyS_floatV T0_ok hP hm hN (by rfl) 7 rfl rfl (by rfl) (by rfl) (by first | trivial | rfl | exact ⟨rfl, rfl⟩ | exact ⟨rfl, rfl, fun _ => rfl, Nat.le_of_ble_eq_true rfl, .inl rfl⟩ | exact ⟨rfl, rfl, fun h => (nomatch h), Nat.le_of_ble_eq_true rfl, .inl rfl⟩ | exact ⟨rfl, rfl, fun _ => rfl, Nat.le_of_ble_eq_true rfl, .inr rfl⟩ | exact ⟨rfl, rfl, fun h => (nomatch h), Nat.le_of_ble_eq_true rfl, .inr rfl⟩ | omega | exact ⟨rfl, by (repeat (first | exact fm_nil | refine fm_cons ⟨rfl, rfl⟩ ?_)), Nat.le_of_ble_eq_true rfl, Nat.le_of_ble_eq_true rfl⟩ | (refine ⟨?_, ?_, ?_, ?_, ?_, ?_, ?_⟩ <;> first | omega | exact Nat.le_of_ble_eq_true rfl) | exact ⟨rfl, by omega, by (try simp only [List.length_map, List.length_set]); omega⟩ | exact ⟨rfl, by omega, by simp only [Int.toNat_natCast]; omega, by omega, Nat.le_of_ble_eq_true rfl, rfl⟩) rfl (by rfl) (by rfl) (by rfl) ?_
            refine g1 ?_
            exact anyS_weak (st' := ⟨[(45, .own 2), (52, .val (.int .i16 (((splP 32 s).map vlW).getD 1 0))), (54, .ptr 2 2 0), (10, .ptr 3 0 0), (6, .own 2), (5, .own 1), (4, .val (.int .i64 0)), (3, .nil), (2, .ptr 0 0 0), (0, .val (.string s))], [(3, ⟨30, 3, true, [[.val (.int .i16 0), .val (.int .i16 0), .val (.int .i16 0)]]⟩), (2, ⟨2, 1, false, i64s ((splP 32 s).map vlW)⟩), (1, ⟨9, 1, false, strs (splP 32 s)⟩), (0, ⟨30, 3, true, [[.val (.int .i16 0), .val (.int .i16 0), .val (.int .i16 0)]]⟩)], 4⟩) (by exact weak_sl (sub_cons rfl (sub_cons rfl (sub_cons rfl (sub_cons rfl (sub_cons rfl (sub_cons rfl (sub_cons rfl (sub_cons rfl (sub_cons rfl (sub_cons rfl (sub_nil)))))))))))) hS27
          refine ⟨⟨_, rfl, rfl, ?_⟩, trivial⟩
          refine g1 ?_
          refine anyS_floatV T0_ok hP hm hN (by rfl) 11 rfl rfl (by rfl) (by rfl) (by first | trivial | rfl | exact ⟨rfl, rfl⟩ | exact ⟨rfl, rfl, fun _ => rfl, Nat.le_of_ble_eq_true rfl, .inl rfl⟩ | exact ⟨rfl, rfl, fun h => (nomatch h), Nat.le_of_ble_eq_true rfl, .inl rfl⟩ | exact ⟨rfl, rfl, fun _ => rfl, Nat.le_of_ble_eq_true rfl, .inr rfl⟩ | exact ⟨rfl, rfl, fun h => (nomatch h), Nat.le_of_ble_eq_true rfl, .inr rfl⟩ | omega | exact ⟨rfl, by (repeat (first | exact fm_nil | refine fm_cons ⟨rfl, rfl⟩ ?_)), Nat.le_of_ble_eq_true rfl, Nat.le_of_ble_eq_true rfl⟩ | (refine ⟨?_, ?_, ?_, ?_, ?_, ?_, ?_⟩ <;> first | omega | exact Nat.le_of_ble_eq_true rfl) | exact ⟨rfl, by omega, by (try simp only [List.length_map, List.length_set]); omega⟩ | exact ⟨rfl, by omega, by simp only [Int.toNat_natCast]; omega, by omega, Nat.le_of_ble_eq_true rfl, rfl⟩) rfl (by rfl) (by rfl) (by rfl) ?_
          refine g1 ?_
          exact anyS_weak (st' := ⟨[(45, .own 2), (50, .ptr 2 1 0), (56, .val (.int .i16 (((splP 32 s).map vlW).getD 2 0))), (10, .ptr 3 0 0), (6, .own 2), (5, .own 1), (4, .val (.int .i64 0)), (3, .nil), (2, .ptr 0 0 0), (0, .val (.string s))], [(3, ⟨30, 3, true, [[.val (.int .i16 0), .val (.int .i16 0), .val (.int .i16 0)]]⟩), (2, ⟨2, 1, false, i64s ((splP 32 s).map vlW)⟩), (1, ⟨9, 1, false, strs (splP 32 s)⟩), (0, ⟨30, 3, true, [[.val (.int .i16 0), .val (.int .i16 0), .val (.int .i16 0)]]⟩)], 4⟩) (by exact weak_sl (sub_cons rfl (sub_cons rfl (sub_cons rfl (sub_cons rfl (sub_cons rfl (sub_cons rfl (sub_cons rfl (sub_cons rfl (sub_cons rfl (sub_cons rfl (sub_nil)))))))))))) hS28
        refine anyS_cut (fuel' := 9) (listed' := #[true, false, false, false, true, false, false, false, true, true, true, true, false, false, false]) (st' := ⟨[(45, .own 2), (49, .own 2), (56, .val (.int .i16 (((splP 32 s).map vlW).getD 2 0))), (6, .own 2), (5, .own 1), (4, .val (.int .i64 0)), (3, .nil), (2, .ptr 0 0 0), (0, .val (.string s))], [(2, ⟨2, 1, false, i64s ((splP 32 s).map vlW)⟩), (1, ⟨9, 1, false, strs (splP 32 s)⟩), (0, ⟨30, 3, true, [[.val (.int .i16 0), .val (.int .i16 0), .val (.int .i16 0)]]⟩)], 3⟩) ?_ (fun hS45 => ?_)
        · skip
          refine anyS_cons T0_ok hP hm hN (by rfl) [1, 5, 13] (by rfl) rfl ?_
          refine ⟨⟨_, rfl, rfl, ?_⟩, ?_⟩
          · skip
            refine g1 ?_
            exact anyS_weak (st' := ⟨[(46, .ptr 2 0 0), (49, .own 2), (56, .val (.int .i16 (((splP 32 s).map vlW).getD 2 0))), (6, .own 2), (5, .own 1), (4, .val (.int .i64 0)), (3, .nil), (2, .ptr 0 0 0), (0, .val (.string s))], [(2, ⟨2, 1, false, i64s ((splP 32 s).map vlW)⟩), (1, ⟨9, 1, false, strs (splP 32 s)⟩), (0, ⟨30, 3, true, [[.val (.int .i16 0), .val (.int .i16 0), .val (.int .i16 0)]]⟩)], 3⟩) (by exact weak_sl (sub_cons rfl (sub_cons rfl (sub_cons rfl (sub_cons rfl (sub_cons rfl (sub_cons rfl (sub_cons rfl (sub_cons rfl (sub_cons rfl (sub_nil))))))))))) hS34
          refine ⟨⟨_, rfl, rfl, ?_⟩, ?_⟩
          · skip
            refine g1 ?_
            exact anyS_weak (st' := ⟨[(45, .own 2), (50, .ptr 2 1 0), (56, .val (.int .i16 (((splP 32 s).map vlW).getD 2 0))), (6, .own 2), (5, .own 1), (4, .val (.int .i64 0)), (3, .nil), (2, .ptr 0 0 0), (0, .val (.string s))], [(2, ⟨2, 1, false, i64s ((splP 32 s).map vlW)⟩), (1, ⟨9, 1, false, strs (splP 32 s)⟩), (0, ⟨30, 3, true, [[.val (.int .i16 0), .val (.int .i16 0), .val (.int .i16 0)]]⟩)], 3⟩) (by exact weak_sl (sub_cons rfl (sub_cons rfl (sub_cons rfl (sub_cons rfl (sub_cons rfl (sub_cons rfl (sub_cons rfl (sub_cons rfl (sub_cons rfl (sub_nil))))))))))) hS37
          refine ⟨⟨_, rfl, rfl, ?_⟩, trivial⟩
          refine g1 ?_
          exact anyS_weak (st' := ⟨[(45, .own 2), (49, .own 2), (56, .val (.int .i16 (((splP 32 s).map vlW).getD 2 0))), (10, .ptr 3 0 0), (6, .own 2), (5, .own 1), (4, .val (.int .i64 0)), (3, .nil), (2, .ptr 0 0 0), (0, .val (.string s))], [(3, ⟨30, 3, true, [[.val (.int .i16 0), .val (.int .i16 0), .val (.int .i16 0)]]⟩), (2, ⟨2, 1, false, i64s ((splP 32 s).map vlW)⟩), (1, ⟨9, 1, false, strs (splP 32 s)⟩), (0, ⟨30, 3, true, [[.val (.int .i16 0), .val (.int .i16 0), .val (.int .i16 0)]]⟩)], 4⟩) (by exact weak_sl (sub_cons rfl (sub_cons rfl (sub_cons rfl (sub_cons rfl (sub_cons rfl (sub_cons rfl (sub_cons rfl (sub_cons rfl (sub_cons rfl (sub_cons rfl (sub_nil)))))))))))) hS38
        refine anyS_cut (fuel' := 10) (listed' := #[true, true, false, false, true, true, false, false, true, false, false, false, false, false, false]) (st' := ⟨[(46, .ptr 2 0 0), (50, .ptr 2 1 0), (53, .own 2), (6, .own 2), (5, .own 1), (4, .val (.int .i64 0)), (3, .nil), (2, .ptr 0 0 0), (0, .val (.string s))], [(2, ⟨2, 1, false, i64s ((splP 32 s).map vlW)⟩), (1, ⟨9, 1, false, strs (splP 32 s)⟩), (0, ⟨30, 3, true, [[.val (.int .i16 0), .val (.int .i16 0), .val (.int .i16 0)]]⟩)], 3⟩) ?_ (fun hS46 => ?_)
        · skip
          refine anyS_cons T0_ok hP hm hN (by rfl) [2, 6, 9, 13] (by rfl) rfl ?_
          refine ⟨⟨_, rfl, rfl, ?_⟩, ?_⟩
          · skip
            refine g1 ?_
            refine anyS_floatV T0_ok hP hm hN (by rfl) 3 rfl rfl (by rfl) (by rfl) (by first | trivial | rfl | exact ⟨rfl, rfl⟩ | exact ⟨rfl, rfl, fun _ => rfl, Nat.le_of_ble_eq_true rfl, .inl rfl⟩ | exact ⟨rfl, rfl, fun h => (nomatch h), Nat.le_of_ble_eq_true rfl, .inl rfl⟩ | exact ⟨rfl, rfl, fun _ => rfl, Nat.le_of_ble_eq_true rfl, .inr rfl⟩ | exact ⟨rfl, rfl, fun h => (nomatch h), Nat.le_of_ble_eq_true rfl, .inr rfl⟩ | omega | exact ⟨rfl, by (repeat (first | exact fm_nil | refine fm_cons ⟨rfl, rfl⟩ ?_)), Nat.le_of_ble_eq_true rfl, Nat.le_of_ble_eq_true rfl⟩ | (refine ⟨?_, ?_, ?_, ?_, ?_, ?_, ?_⟩ <;> first | omega | exact Nat.le_of_ble_eq_true rfl) | exact ⟨rfl, by omega, by (try simp only [List.length_map, List.length_set]); omega⟩ | exact ⟨rfl, by omega, by simp only [Int.toNat_natCast]; omega, by omega, Nat.le_of_ble_eq_true rfl, rfl⟩) rfl (by rfl) (by rfl) (by rfl) ?_
            refine g1 ?_
            exact anyS_weak (st' := ⟨[(48, .val (.int .i16 (((splP 32 s).map vlW).getD 0 0))), (50, .ptr 2 1 0), (53, .own 2), (6, .own 2), (5, .own 1), (4, .val (.int .i64 0)), (3, .nil), (2, .ptr 0 0 0), (0, .val (.string s))], [(2, ⟨2, 1, false, i64s ((splP 32 s).map vlW)⟩), (1, ⟨9, 1, false, strs (splP 32 s)⟩), (0, ⟨30, 3, true, [[.val (.int .i16 0), .val (.int .i16 0), .val (.int .i16 0)]]⟩)], 3⟩) (by exact weak_sl (sub_cons rfl (sub_cons rfl (sub_cons rfl (sub_cons rfl (sub_cons rfl (sub_cons rfl (sub_cons rfl (sub_cons rfl (sub_cons rfl (sub_nil))))))))))) hS29
          refine ⟨⟨_, rfl, rfl, ?_⟩, ?_⟩
          · skip
            refine g1 ?_
            refine anyS_floatV T0_ok hP hm hN (by rfl) 7 rfl rfl (by rfl) (by rfl) (by first | trivial | rfl | exact ⟨rfl, rfl⟩ | exact ⟨rfl, rfl, fun _ => rfl, Nat.le_of_ble_eq_true rfl, .inl rfl⟩ | exact ⟨rfl, rfl, fun h => (nomatch h), Nat.le_of_ble_eq_true rfl, .inl rfl⟩ | exact ⟨rfl, rfl, fun _ => rfl, Nat.le_of_ble_eq_true rfl, .inr rfl⟩ | exact ⟨rfl, rfl, fun h => (nomatch h), Nat.le_of_ble_eq_true rfl, .inr rfl⟩ | omega | exact ⟨rfl, by (repeat (first | exact fm_nil | refine fm_cons ⟨rfl, rfl⟩ ?_)), Nat.le_of_ble_eq_true rfl, Nat.le_of_ble_eq_true rfl⟩ | (refine ⟨?_, ?_, ?_, ?_, ?_, ?_, ?_⟩ <;> first | omega | exact Nat.le_of_ble_eq_true rfl) | exact ⟨rfl, by omega, by (try simp only [List.length_map, List.length_set]); omega⟩ | exact ⟨rfl, by omega, by simp only [Int.toNat_natCast]; omega, by omega, Nat.le_of_ble_eq_true rfl, rfl⟩) rfl (by rfl) (by rfl) (by rfl) ?_
            refine g1 ?_
            exact anyS_weak (st' := ⟨[(46, .ptr 2 0 0), (52, .val (.int .i16 (((splP 32 s).map vlW).getD 1 0))), (53, .own 2), (6, .own 2), (5, .own 1), (4, .val (.int .i64 0)), (3, .nil), (2, .ptr 0 0 0), (0, .val (.string s))], [(2, ⟨2, 1, false, i64s ((splP 32 s).map vlW)⟩), (1, ⟨9, 1, false, strs (splP 32 s)⟩), (0, ⟨30, 3, true, [[.val (.int .i16 0), .val (.int .i16 0), .val (.int .i16 0)]]⟩)], 3⟩) (by exact weak_sl (sub_cons rfl (sub_cons rfl (sub_cons rfl (sub_cons rfl (sub_cons rfl (sub_cons rfl (sub_cons rfl (sub_cons rfl (sub_cons rfl (sub_nil))))))))))) hS32
          refine ⟨⟨_, rfl, rfl, ?_⟩, ?_⟩
          · skip
            refine g1 ?_
            exact anyS_weak (st' := ⟨[(46, .ptr 2 0 0), (50, .ptr 2 1 0), (54, .ptr 2 2 0), (6, .own 2), (5, .own 1), (4, .val (.int .i64 0)), (3, .nil), (2, .ptr 0 0 0), (0, .val (.string s))], [(2, ⟨2, 1, false, i64s ((splP 32 s).map vlW)⟩), (1, ⟨9, 1, false, strs (splP 32 s)⟩), (0, ⟨30, 3, true, [[.val (.int .i16 0), .val (.int .i16 0), .val (.int .i16 0)]]⟩)], 3⟩) (by exact weak_sl (sub_cons rfl (sub_cons rfl (sub_cons rfl (sub_cons rfl (sub_cons rfl (sub_cons rfl (sub_cons rfl (sub_cons rfl (sub_cons rfl (sub_nil))))))))))) hS40
          refine ⟨⟨_, rfl, rfl, ?_⟩, trivial⟩
          refine g1 ?_
          exact anyS_weak (st' := ⟨[(46, .ptr 2 0 0), (50, .ptr 2 1 0), (53, .own 2), (10, .ptr 3 0 0), (6, .own 2), (5, .own 1), (4, .val (.int .i64 0)), (3, .nil), (2, .ptr 0 0 0), (0, .val (.string s))], [(3, ⟨30, 3, true, [[.val (.int .i16 0), .val (.int .i16 0), .val (.int .i16 0)]]⟩), (2, ⟨2, 1, false, i64s ((splP 32 s).map vlW)⟩), (1, ⟨9, 1, false, strs (splP 32 s)⟩), (0, ⟨30, 3, true, [[.val (.int .i16 0), .val (.int .i16 0), .val (.int .i16 0)]]⟩)], 4⟩) (by exact weak_sl (sub_cons rfl (sub_cons rfl (sub_cons rfl (sub_cons rfl (sub_cons rfl (sub_cons rfl (sub_cons rfl (sub_cons rfl (sub_cons rfl (sub_cons rfl (sub_nil)))))))))))) hS41
        refine anyS_cut (fuel' := 10) (listed' := #[true, true, false, false, true, false, false, false, true, true, false, false, false, false, false]) (st' := ⟨[(46, .ptr 2 0 0), (49, .own 2), (54, .ptr 2 2 0), (6, .own 2), (5, .own 1), (4, .val (.int .i64 0)), (3, .nil), (2, .ptr 0 0 0), (0, .val (.string s))], [(2, ⟨2, 1, false, i64s ((splP 32 s).map vlW)⟩), (1, ⟨9, 1, false, strs (splP 32 s)⟩), (0, ⟨30, 3, true, [[.val (.int .i16 0), .val (.int .i16 0), .val (.int .i16 0)]]⟩)], 3⟩) ?_ (fun hS47 => ?_)
        · skip
          refine anyS_cons T0_ok hP hm hN (by rfl) [2, 5, 10, 13] (by rfl) rfl ?_
          refine ⟨⟨_, rfl, rfl, ?_⟩, ?_⟩
          · skip
            refine g1 ?_
            refine anyS_floatV T0_ok hP hm hN (by rfl) 3 rfl rfl (by rfl) (by rfl) (by first | trivial | rfl | exact ⟨rfl, rfl⟩ | exact ⟨rfl, rfl, fun _ => rfl, Nat.le_of_ble_eq_true rfl, .inl rfl⟩ | exact ⟨rfl, rfl, fun h => (nomatch h), Nat.le_of_ble_eq_true rfl, .inl rfl⟩ | exact ⟨rfl, rfl, fun _ => rfl, Nat.le_of_ble_eq_true rfl, .inr rfl⟩ | exact ⟨rfl, rfl, fun h => (nomatch h), Nat.le_of_ble_eq_true rfl, .inr rfl⟩ | omega | exact ⟨rfl, by (repeat (first | exact fm_nil | refine fm_cons ⟨rfl, rfl⟩ ?_)), Nat.le_of_ble_eq_true rfl, Nat.le_of_ble_eq_true rfl⟩ | (refine ⟨?_, ?_, ?_, ?_, ?_, ?_, ?_⟩ <;> first | omega | exact Nat.le_of_ble_eq_true rfl) | exact ⟨rfl, by omega, by (try simp only [List.length_map, List.length_set]); omega⟩ | exact ⟨rfl, by omega, by simp only [Int.toNat_natCast]; omega, by omega, Nat.le_of_ble_eq_true rfl, rfl⟩) rfl (by rfl) (by rfl) (by rfl) ?_
            refine g1 ?_
            exact anyS_weak (st' := ⟨[(48, .val (.int .i16 (((splP 32 s).map vlW).getD 0 0))), (49, .own 2), (54, .ptr 2 2 0), (6, .own 2), (5, .own 1), (4, .val (.int .i64 0)), (3, .nil), (2, .ptr 0 0 0), (0, .val (.string s))], [(2, ⟨2, 1, false, i64s ((splP 32 s).map vlW)⟩), (1, ⟨9, 1, false, strs (splP 32 s)⟩), (0, ⟨30, 3, true, [[.val (.int .i16 0), .val (.int .i16 0), .val (.int .i16 0)]]⟩)], 3⟩) (by exact weak_sl (sub_cons rfl (sub_cons rfl (sub_cons rfl (sub_cons rfl (sub_cons rfl (sub_cons rfl (sub_cons rfl (sub_cons rfl (sub_cons rfl (sub_nil))))))))))) hS30
          refine ⟨⟨_, rfl, rfl, ?_⟩, ?_⟩
          · skip
            refine g1 ?_
            exact anyS_weak (st' := ⟨[(46, .ptr 2 0 0), (50, .ptr 2 1 0), (54, .ptr 2 2 0), (6, .own 2), (5, .own 1), (4, .val (.int .i64 0)), (3, .nil), (2, .ptr 0 0 0), (0, .val (.string s))], [(2, ⟨2, 1, false, i64s ((splP 32 s).map vlW)⟩), (1, ⟨9, 1, false, strs (splP 32 s)⟩), (0, ⟨30, 3, true, [[.val (.int .i16 0), .val (.int .i16 0), .val (.int .i16 0)]]⟩)], 3⟩) (by exact weak_sl (sub_cons rfl (sub_cons rfl (sub_cons rfl (sub_cons rfl (sub_cons rfl (sub_cons rfl (sub_cons rfl (sub_cons rfl (sub_cons rfl (sub_nil))))))))))) hS40
          refine ⟨⟨_, rfl, rfl, ?_⟩, ?_⟩
          · skip
            refine g1 ?_
            refine anyS_floatV T0_ok hP hm hN (by rfl) 11 rfl rfl (by rfl) (by rfl) (by first | trivial | rfl | exact ⟨rfl, rfl⟩ | exact ⟨rfl, rfl, fun _ => rfl, Nat.le_of_ble_eq_true rfl, .inl rfl⟩ | exact ⟨rfl, rfl, fun h => (nomatch h), Nat.le_of_ble_eq_true rfl, .inl rfl⟩ | exact ⟨rfl, rfl, fun _ => rfl, Nat.le_of_ble_eq_true rfl, .inr rfl⟩ | exact ⟨rfl, rfl, fun h => (nomatch h), Nat.le_of_ble_eq_true rfl, .inr rfl⟩ | omega | exact ⟨rfl, by (repeat (first | exact fm_nil | refine fm_cons ⟨rfl, rfl⟩ ?_)), Nat.le_of_ble_eq_true rfl, Nat.le_of_ble_eq_true rfl⟩ | (refine ⟨?_, ?_, ?_, ?_, ?_, ?_, ?_⟩ <;> first | omega | exact Nat.le_of_ble_eq_true rfl) | exact ⟨rfl, by omega, by (try simp only [List.length_map, List.length_set]); omega⟩ | exact ⟨rfl, by omega, by simp only [Int.toNat_natCast]; omega, by omega, Nat.le_of_ble_eq_true rfl, rfl⟩) rfl (by rfl) (by rfl) (by rfl) ?_
            refine g1 ?_
            exact anyS_weak (st' := ⟨[(46, .ptr 2 0 0), (49, .own 2), (56, .val (.int .i16 (((splP 32 s).map vlW).getD 2 0))), (6, .own 2), (5, .own 1), (4, .val (.int .i64 0)), (3, .nil), (2, .ptr 0 0 0), (0, .val (.string s))], [(2, ⟨2, 1, false, i64s ((splP 32 s).map vlW)⟩), (1, ⟨9, 1, false, strs (splP 32 s)⟩), (0, ⟨30, 3, true, [[.val (.int .i16 0), .val (.int .i16 0), .val (.int .i16 0)]]⟩)], 3⟩) (by exact weak_sl (sub_cons rfl (sub_cons rfl (sub_cons rfl (sub_cons rfl (sub_cons rfl (sub_cons rfl (sub_cons rfl (sub_cons rfl (sub_cons rfl (sub_nil))))))))))) hS34
          refine ⟨⟨_, rfl, rfl, ?_⟩, trivial⟩
          refine g1 ?_
          exact anyS_weak (st' := ⟨[(46, .ptr 2 0 0), (49, .own 2), (54, .ptr 2 2 0), (10, .ptr 3 0 0), (6, .own 2), (5, .own 1), (4, .val (.int .i64 0)), (3, .nil), (2, .ptr 0 0 0), (0, .val (.string s))], [(3, ⟨30, 3, true, [[.val (.int .i16 0), .val (.int .i16 0), .val (.int .i16 0)]]⟩), (2, ⟨2, 1, false, i64s ((splP 32 s).map vlW)⟩), (1, ⟨9, 1, false, strs (splP 32 s)⟩), (0, ⟨30, 3, true, [[.val (.int .i16 0), .val (.int .i16 0), .val (.int .i16 0)]]⟩)], 4⟩) (by exact weak_sl (sub_cons rfl (sub_cons rfl (sub_cons rfl (sub_cons rfl (sub_cons rfl (sub_cons rfl (sub_cons rfl (sub_cons rfl (sub_cons rfl (sub_cons rfl (sub_nil)))))))))))) hS42
        refine anyS_cut (fuel' := 10) (listed' := #[true, true, false, false, true, false, false, false, true, false, false, false, false, true, false]) (st' := ⟨[(46, .ptr 2 0 0), (49, .own 2), (53, .own 2), (10, .ptr 3 0 0), (6, .own 2), (5, .own 1), (4, .val (.int .i64 0)), (3, .nil), (2, .ptr 0 0 0), (0, .val (.string s))], [(3, ⟨30, 3, true, [[.val (.int .i16 0), .val (.int .i16 0), .val (.int .i16 0)]]⟩), (2, ⟨2, 1, false, i64s ((splP 32 s).map vlW)⟩), (1, ⟨9, 1, false, strs (splP 32 s)⟩), (0, ⟨30, 3, true, [[.val (.int .i16 0), .val (.int .i16 0), .val (.int .i16 0)]]⟩)], 4⟩) ?_ (fun hS48 => ?_)
        · skip
          refine anyS_cons T0_ok hP hm hN (by rfl) [2, 5, 9] (by rfl) rfl ?_
          refine ⟨⟨_, rfl, rfl, ?_⟩, ?_⟩
          · skip
            refine g1 ?_
            refine anyS_floatV T0_ok hP hm hN (by rfl) 3 rfl rfl (by rfl) (by rfl) (by first | trivial | rfl | exact ⟨rfl, rfl⟩ | exact ⟨rfl, rfl, fun _ => rfl, Nat.le_of_ble_eq_true rfl, .inl rfl⟩ | exact ⟨rfl, rfl, fun h => (nomatch h), Nat.le_of_ble_eq_true rfl, .inl rfl⟩ | exact ⟨rfl, rfl, fun _ => rfl, Nat.le_of_ble_eq_true rfl, .inr rfl⟩ | exact ⟨rfl, rfl, fun h => (nomatch h), Nat.le_of_ble_eq_true rfl, .inr rfl⟩ | omega | exact ⟨rfl, by (repeat (first | exact fm_nil | refine fm_cons ⟨rfl, rfl⟩ ?_)), Nat.le_of_ble_eq_true rfl, Nat.le_of_ble_eq_true rfl⟩ | (refine ⟨?_, ?_, ?_, ?_, ?_, ?_, ?_⟩ <;> first | omega | exact Nat.le_of_ble_eq_true rfl) | exact ⟨rfl, by omega, by (try simp only [List.length_map, List.length_set]); omega⟩ | exact ⟨rfl, by omega, by simp only [Int.toNat_natCast]; omega, by omega, Nat.le_of_ble_eq_true rfl, rfl⟩) rfl (by rfl) (by rfl) (by rfl) ?_
            refine g1 ?_
            exact anyS_weak (st' := ⟨[(48, .val (.int .i16 (((splP 32 s).map vlW).getD 0 0))), (49, .own 2), (53, .own 2), (10, .ptr 3 0 0), (6, .own 2), (5, .own 1), (4, .val (.int .i64 0)), (3, .nil), (2, .ptr 0 0 0), (0, .val (.string s))], [(3, ⟨30, 3, true, [[.val (.int .i16 0), .val (.int .i16 0), .val (.int .i16 0)]]⟩), (2, ⟨2, 1, false, i64s ((splP 32 s).map vlW)⟩), (1, ⟨9, 1, false, strs (splP 32 s)⟩), (0, ⟨30, 3, true, [[.val (.int .i16 0), .val (.int .i16 0), .val (.int .i16 0)]]⟩)], 4⟩) (by exact weak_sl (sub_cons rfl (sub_cons rfl (sub_cons rfl (sub_cons rfl (sub_cons rfl (sub_cons rfl (sub_cons rfl (sub_cons rfl (sub_cons rfl (sub_cons rfl (sub_nil)))))))))))) hS31
          refine ⟨⟨_, rfl, rfl, ?_⟩, ?_⟩
          · skip
            refine g1 ?_
            exact anyS_weak (st' := ⟨[(46, .ptr 2 0 0), (50, .ptr 2 1 0), (53, .own 2), (10, .ptr 3 0 0), (6, .own 2), (5, .own 1), (4, .val (.int .i64 0)), (3, .nil), (2, .ptr 0 0 0), (0, .val (.string s))], [(3, ⟨30, 3, true, [[.val (.int .i16 0), .val (.int .i16 0), .val (.int .i16 0)]]⟩), (2, ⟨2, 1, false, i64s ((splP 32 s).map vlW)⟩), (1, ⟨9, 1, false, strs (splP 32 s)⟩), (0, ⟨30, 3, true, [[.val (.int .i16 0), .val (.int .i16 0), .val (.int .i16 0)]]⟩)], 4⟩) (by exact weak_sl (sub_cons rfl (sub_cons rfl (sub_cons rfl (sub_cons rfl (sub_cons rfl (sub_cons rfl (sub_cons rfl (sub_cons rfl (sub_cons rfl (sub_cons rfl (sub_nil)))))))))))) hS41
          refine ⟨⟨_, rfl, rfl, ?_⟩, trivial⟩
          refine g1 ?_
          exact anyS_weak (st' := ⟨[(46, .ptr 2 0 0), (49, .own 2), (54, .ptr 2 2 0), (10, .ptr 3 0 0), (6, .own 2), (5, .own 1), (4, .val (.int .i64 0)), (3, .nil), (2, .ptr 0 0 0), (0, .val (.string s))], [(3, ⟨30, 3, true, [[.val (.int .i16 0), .val (.int .i16 0), .val (.int .i16 0)]]⟩), (2, ⟨2, 1, false, i64s ((splP 32 s).map vlW)⟩), (1, ⟨9, 1, false, strs (splP 32 s)⟩), (0, ⟨30, 3, true, [[.val (.int .i16 0), .val (.int .i16 0), .val (.int .i16 0)]]⟩)], 4⟩) (by exact weak_sl (sub_cons rfl (sub_cons rfl (sub_cons rfl (sub_cons rfl (sub_cons rfl (sub_cons rfl (sub_cons rfl (sub_cons rfl (sub_cons rfl (sub_cons rfl (sub_nil)))))))))))) hS42
        refine anyS_cut (fuel' := 10) (listed' := #[true, false, false, false, true, true, false, false, true, true, false, false, false, false, false]) (st' := ⟨[(45, .own 2), (50, .ptr 2 1 0), (54, .ptr 2 2 0), (6, .own 2), (5, .own 1), (4, .val (.int .i64 0)), (3, .nil), (2, .ptr 0 0 0), (0, .val (.string s))], [(2, ⟨2, 1, false, i64s ((splP 32 s).map vlW)⟩), (1, ⟨9, 1, false, strs (splP 32 s)⟩), (0, ⟨30, 3, true, [[.val (.int .i16 0), .val (.int .i16 0), .val (.int .i16 0)]]⟩)], 3⟩) ?_ (fun hS49 => ?_)
        · skip
          refine anyS_cons T0_ok hP hm hN (by rfl) [1, 6, 10, 13] (by rfl) rfl ?_
          refine ⟨⟨_, rfl, rfl, ?_⟩, ?_⟩
          · skip
            refine g1 ?_
            exact anyS_weak (st' := ⟨[(46, .ptr 2 0 0), (50, .ptr 2 1 0), (54, .ptr 2 2 0), (6, .own 2), (5, .own 1), (4, .val (.int .i64 0)), (3, .nil), (2, .ptr 0 0 0), (0, .val (.string s))], [(2, ⟨2, 1, false, i64s ((splP 32 s).map vlW)⟩), (1, ⟨9, 1, false, strs (splP 32 s)⟩), (0, ⟨30, 3, true, [[.val (.int .i16 0), .val (.int .i16 0), .val (.int .i16 0)]]⟩)], 3⟩) (by exact weak_sl (sub_cons rfl (sub_cons rfl (sub_cons rfl (sub_cons rfl (sub_cons rfl (sub_cons rfl (sub_cons rfl (sub_cons rfl (sub_cons rfl (sub_nil))))))))))) hS40
          refine ⟨⟨_, rfl, rfl, ?_⟩, ?_⟩
          · skip
            refine g1 ?_
            refine anyS_floatV T0_ok hP hm hN (by rfl) 7 rfl rfl (by rfl) (by rfl) (by first | trivial | rfl | exact ⟨rfl, rfl⟩ | exact ⟨rfl, rfl, fun _ => rfl, Nat.le_of_ble_eq_true rfl, .inl rfl⟩ | exact ⟨rfl, rfl, fun h => (nomatch h), Nat.le_of_ble_eq_true rfl, .inl rfl⟩ | exact ⟨rfl, rfl, fun _ => rfl, Nat.le_of_ble_eq_true rfl, .inr rfl⟩ | exact ⟨rfl, rfl, fun h => (nomatch h), Nat.le_of_ble_eq_true rfl, .inr rfl⟩ | omega | exact ⟨rfl, by (repeat (first | exact fm_nil | refine fm_cons ⟨rfl, rfl⟩ ?_)), Nat.le_of_ble_eq_true rfl, Nat.le_of_ble_eq_true rfl⟩ | (refine ⟨?_, ?_, ?_, ?_, ?_, ?_, ?_⟩ <;> first | omega | exact Nat.le_of_ble_eq_true rfl) | exact ⟨rfl, by omega, by (try simp only [List.length_map, List.length_set]); omega⟩ | exact ⟨rfl, by omega, by simp only [Int.toNat_natCast]; omega, by omega, Nat.le_of_ble_eq_true rfl, rfl⟩) rfl (by rfl) (by rfl) (by rfl) ?_
            refine g1 ?_
            exact anyS_weak (st' := ⟨[(45, .own 2), (52, .val (.int .i16 (((splP 32 s).map vlW).getD 1 0))), (54, .ptr 2 2 0), (6, .own 2), (5, .own 1), (4, .val (.int .i64 0)), (3, .nil), (2, .ptr 0 0 0), (0, .val (.string s))], [(2, ⟨2, 1, false, i64s ((splP 32 s).map vlW)⟩), (1, ⟨9, 1, false, strs (splP 32 s)⟩), (0, ⟨30, 3, true, [[.val (.int .i16 0), .val (.int .i16 0), .val (.int .i16 0)]]⟩)], 3⟩) (by exact weak_sl (sub_cons rfl (sub_cons rfl (sub_cons rfl (sub_cons rfl (sub_cons rfl (sub_cons rfl (sub_cons rfl (sub_cons rfl (sub_cons rfl (sub_nil))))))))))) hS35
          refine ⟨⟨_, rfl, rfl, ?_⟩, ?_⟩
          · skip
            refine g1 ?_
            refine anyS_floatV T0_ok hP hm hN (by rfl) 11 rfl rfl (by rfl) (by rfl) (by first | trivial | rfl | exact ⟨rfl, rfl⟩ | exact ⟨rfl, rfl, fun _ => rfl, Nat.le_of_ble_eq_true rfl, .inl rfl⟩ | exact ⟨rfl, rfl, fun h => (nomatch h), Nat.le_of_ble_eq_true rfl, .inl rfl⟩ | exact ⟨rfl, rfl, fun _ => rfl, Nat.le_of_ble_eq_true rfl, .inr rfl⟩ | exact ⟨rfl, rfl, fun h => (nomatch h), Nat.le_of_ble_eq_true rfl, .inr rfl⟩ | omega | exact ⟨rfl, by (repeat (first | exact fm_nil | refine fm_cons ⟨rfl, rfl⟩ ?_)), Nat.le_of_ble_eq_true rfl, Nat.le_of_ble_eq_true rfl⟩ | (refine ⟨?_, ?_, ?_, ?_, ?_, ?_, ?_⟩ <;> first | omega | exact Nat.le_of_ble_eq_true rfl) | exact ⟨rfl, by omega, by (try simp only [List.length_map, List.length_set]); omega⟩ | exact ⟨rfl, by omega, by simp only [Int.toNat_natCast]; omega, by omega, Nat.le_of_ble_eq_true rfl, rfl⟩) rfl (by rfl) (by rfl) (by rfl) ?_
            refine g1 ?_
            exact anyS_weak (st' := ⟨[(45, .own 2), (50, .ptr 2 1 0), (56, .val (.int .i16 (((splP 32 s).map vlW).getD 2 0))), (6, .own 2), (5, .own 1), (4, .val (.int .i64 0)), (3, .nil), (2, .ptr 0 0 0), (0, .val (.string s))], [(2, ⟨2, 1, false, i64s ((splP 32 s).map vlW)⟩), (1, ⟨9, 1, false, strs (splP 32 s)⟩), (0, ⟨30, 3, true, [[.val (.int .i16 0), .val (.int .i16 0), .val (.int .i16 0)]]⟩)], 3⟩) (by exact weak_sl (sub_cons rfl (sub_cons rfl (sub_cons rfl (sub_cons rfl (sub_cons rfl (sub_cons rfl (sub_cons rfl (sub_cons rfl (sub_cons rfl (sub_nil))))))))))) hS37
          refine ⟨⟨_, rfl, rfl, ?_⟩, trivial⟩
          refine g1 ?_
          exact anyS_weak (st' := ⟨[(45, .own 2), (50, .ptr 2 1 0), (54, .ptr 2 2 0), (10, .ptr 3 0 0), (6, .own 2), (5, .own 1), (4, .val (.int .i64 0)), (3, .nil), (2, .ptr 0 0 0), (0, .val (.string s))], [(3, ⟨30, 3, true, [[.val (.int .i16 0), .val (.int .i16 0), .val (.int .i16 0)]]⟩), (2, ⟨2, 1, false, i64s ((splP 32 s).map vlW)⟩), (1, ⟨9, 1, false, strs (splP 32 s)⟩), (0, ⟨30, 3, true, [[.val (.int .i16 0), .val (.int .i16 0), .val (.int .i16 0)]]⟩)], 4⟩) (by exact weak_sl (sub_cons rfl (sub_cons rfl (sub_cons rfl (sub_cons rfl (sub_cons rfl (sub_cons rfl (sub_cons rfl (sub_cons rfl (sub_cons rfl (sub_cons rfl (sub_nil)))))))))))) hS44
        refine anyS_cut (fuel' := 10) (listed' := #[true, false, false, false, true, true, false, false, true, false, false, false, false, true, false]) (st' := ⟨[(45, .own 2), (50, .ptr 2 1 0), (53, .own 2), (10, .ptr 3 0 0), (6, .own 2), (5, .own 1), (4, .val (.int .i64 0)), (3, .nil), (2, .ptr 0 0 0), (0, .val (.string s))], [(3, ⟨30, 3, true, [[.val (.int .i16 0), .val (.int .i16 0), .val (.int .i16 0)]]⟩), (2, ⟨2, 1, false, i64s ((splP 32 s).map vlW)⟩), (1, ⟨9, 1, false, strs (splP 32 s)⟩), (0, ⟨30, 3, true, [[.val (.int .i16 0), .val (.int .i16 0), .val (.int .i16 0)]]⟩)], 4⟩) ?_ (fun hS50 => ?_)
        · skip
          refine anyS_cons T0_ok hP hm hN (by rfl) [1, 6, 9] (by rfl) rfl ?_
          refine ⟨⟨_, rfl, rfl, ?_⟩, ?_⟩
          · skip
            refine g1 ?_
            exact anyS_weak (st' := ⟨[(46, .ptr 2 0 0), (50, .ptr 2 1 0), (53, .own 2), (10, .ptr 3 0 0), (6, .own 2), (5, .own 1), (4, .val (.int .i64 0)), (3, .nil), (2, .ptr 0 0 0), (0, .val (.string s))], [(3, ⟨30, 3, true, [[.val (.int .i16 0), .val (.int .i16 0), .val (.int .i16 0)]]⟩), (2, ⟨2, 1, false, i64s ((splP 32 s).map vlW)⟩), (1, ⟨9, 1, false, strs (splP 32 s)⟩), (0, ⟨30, 3, true, [[.val (.int .i16 0), .val (.int .i16 0), .val (.int .i16 0)]]⟩)], 4⟩) (by exact weak_sl (sub_cons rfl (sub_cons rfl (sub_cons rfl (sub_cons rfl (sub_cons rfl (sub_cons rfl (sub_cons rfl (sub_cons rfl (sub_cons rfl (sub_cons rfl (sub_nil)))))))))))) hS41
          refine ⟨⟨_, rfl, rfl, ?_⟩, ?_⟩
          · skip
            refine g1 ?_
            refine anyS_floatV T0_ok hP hm hN (by rfl) 7 rfl rfl (by rfl) (by rfl) (by first | trivial | rfl | exact ⟨rfl, rfl⟩ | exact ⟨rfl, rfl, fun _ => rfl, Nat.le_of_ble_eq_true rfl, .inl rfl⟩ | exact ⟨rfl, rfl, fun h => (nomatch h), Nat.le_of_ble_eq_true rfl, .inl rfl⟩ | exact ⟨rfl, rfl, fun _ => rfl, Nat.le_of_ble_eq_true rfl, .inr rfl⟩ | exact ⟨rfl, rfl, fun h => (nomatch h), Nat.le_of_ble_eq_true rfl, .inr rfl⟩ | omega | exact ⟨rfl, by (repeat (first | exact fm_nil | refine fm_cons ⟨rfl, rfl⟩ ?_)), Nat.le_of_ble_eq_true rfl, Nat.le_of_ble_eq_true rfl⟩ | (refine ⟨?_, ?_, ?_, ?_, ?_, ?_, ?_⟩ <;> first | omega | exact Nat.le_of_ble_eq_true rfl) | exact ⟨rfl, by omega, by (try simp only [List.length_map, List.length_set]); omega⟩ | exact ⟨rfl, by omega, by simp only [Int.toNat_natCast]; omega, by omega, Nat.le_of_ble_eq_true rfl, rfl⟩) rfl (by rfl) (by rfl) (by rfl) ?_
            refine g1 ?_
            exact anyS_weak (st' := ⟨[(45, .own 2), (52, .val (.int .i16 (((splP 32 s).map vlW).getD 1 0))), (53, .own 2), (10, .ptr 3 0 0), (6, .own 2), (5, .own 1), (4, .val (.int .i64 0)), (3, .nil), (2, .ptr 0 0 0), (0, .val (.string s))], [(3, ⟨30, 3, true, [[.val (.int .i16 0), .val (.int .i16 0), .val (.int .i16 0)]]⟩), (2, ⟨2, 1, false, i64s ((splP 32 s).map vlW)⟩), (1, ⟨9, 1, false, strs (splP 32 s)⟩), (0, ⟨30, 3, true, [[.val (.int .i16 0), .val (.int .i16 0), .val (.int .i16 0)]]⟩)], 4⟩) (by exact weak_sl (sub_cons rfl (sub_cons rfl (sub_cons rfl (sub_cons rfl (sub_cons rfl (sub_cons rfl (sub_cons rfl (sub_cons rfl (sub_cons rfl (sub_cons rfl (sub_nil)))))))))))) hS36
          refine ⟨⟨_, rfl, rfl, ?_⟩, trivial⟩
          refine g1 ?_
          exact anyS_weak (st' := ⟨[(45, .own 2), (50, .ptr 2 1 0), (54, .ptr 2 2 0), (10, .ptr 3 0 0), (6, .own 2), (5, .own 1), (4, .val (.int .i64 0)), (3, .nil), (2, .ptr 0 0 0), (0, .val (.string s))], [(3, ⟨30, 3, true, [[.val (.int .i16 0), .val (.int .i16 0), .val (.int .i16 0)]]⟩), (2, ⟨2, 1, false, i64s ((splP 32 s).map vlW)⟩), (1, ⟨9, 1, false, strs (splP 32 s)⟩), (0, ⟨30, 3, true, [[.val (.int .i16 0), .val (.int .i16 0), .val (.int .i16 0)]]⟩)], 4⟩) (by exact weak_sl (sub_cons rfl (sub_cons rfl (sub_cons rfl (sub_cons rfl (sub_cons rfl (sub_cons rfl (sub_cons rfl (sub_cons rfl (sub_cons rfl (sub_cons rfl (sub_nil)))))))))))) hS44
        refine anyS_cut (fuel' := 10) (listed' := #[true, false, false, false, true, false, false, false, true, true, false, false, false, true, false]) (st' := ⟨[(45, .own 2), (49, .own 2), (54, .ptr 2 2 0), (10, .ptr 3 0 0), (6, .own 2), (5, .own 1), (4, .val (.int .i64 0)), (3, .nil), (2, .ptr 0 0 0), (0, .val (.string s))], [(3, ⟨30, 3, true, [[.val (.int .i16 0), .val (.int .i16 0), .val (.int .i16 0)]]⟩), (2, ⟨2, 1, false, i64s ((splP 32 s).map vlW)⟩), (1, ⟨9, 1, false, strs (splP 32 s)⟩), (0, ⟨30, 3, true, [[.val (.int .i16 0), .val (.int .i16 0), .val (.int .i16 0)]]⟩)], 4⟩) ?_ (fun hS51 => ?_)
        · skip
          refine anyS_cons T0_ok hP hm hN (by rfl) [1, 5, 10] (by rfl) rfl ?_
          refine ⟨⟨_, rfl, rfl, ?_⟩, ?_⟩
          · skip
            refine g1 ?_
            exact anyS_weak (st' := ⟨[(46, .ptr 2 0 0), (49, .own 2), (54, .ptr 2 2 0), (10, .ptr 3 0 0), (6, .own 2), (5, .own 1), (4, .val (.int .i64 0)), (3, .nil), (2, .ptr 0 0 0), (0, .val (.string s))], [(3, ⟨30, 3, true, [[.val (.int .i16 0), .val (.int .i16 0), .val (.int .i16 0)]]⟩), (2, ⟨2, 1, false, i64s ((splP 32 s).map vlW)⟩), (1, ⟨9, 1, false, strs (splP 32 s)⟩), (0, ⟨30, 3, true, [[.val (.int .i16 0), .val (.int .i16 0), .val (.int .i16 0)]]⟩)], 4⟩) (by exact weak_sl (sub_cons rfl (sub_cons rfl (sub_cons rfl (sub_cons rfl (sub_cons rfl (sub_cons rfl (sub_cons rfl (sub_cons rfl (sub_cons rfl (sub_cons rfl (sub_nil)))))))))))) hS42
          refine ⟨⟨_, rfl, rfl, ?_⟩, ?_⟩
          · skip
            refine g1 ?_
            exact anyS_weak (st' := ⟨[(45, .own 2), (50, .ptr 2 1 0), (54, .ptr 2 2 0), (10, .ptr 3 0 0), (6, .own 2), (5, .own 1), (4, .val (.int .i64 0)), (3, .nil), (2, .ptr 0 0 0), (0, .val (.string s))], [(3, ⟨30, 3, true, [[.val (.int .i16 0), .val (.int .i16 0), .val (.int .i16 0)]]⟩), (2, ⟨2, 1, false, i64s ((splP 32 s).map vlW)⟩), (1, ⟨9, 1, false, strs (splP 32 s)⟩), (0, ⟨30, 3, true, [[.val (.int .i16 0), .val (.int .i16 0), .val (.int .i16 0)]]⟩)], 4⟩) (by exact weak_sl (sub_cons rfl (sub_cons rfl (sub_cons rfl (sub_cons rfl (sub_cons rfl (sub_cons rfl (sub_cons rfl (sub_cons rfl (sub_cons rfl (sub_cons rfl (sub_nil)))))))))))) hS44
          refine ⟨⟨_, rfl, rfl, ?_⟩, trivial⟩
          refine g1 ?_
          refine anyS_floatV T0_ok hP hm hN (by rfl) 11 rfl rfl (by rfl) (by rfl) (by first | trivial | rfl | exact ⟨rfl, rfl⟩ | exact ⟨rfl, rfl, fun _ => rfl, Nat.le_of_ble_eq_true rfl, .inl rfl⟩ | exact ⟨rfl, rfl, fun h => (nomatch h), Nat.le_of_ble_eq_true rfl, .inl rfl⟩ | exact ⟨rfl, rfl, fun _ => rfl, Nat.le_of_ble_eq_true rfl, .inr rfl⟩ | exact ⟨rfl, rfl, fun h => (nomatch h), Nat.le_of_ble_eq_true rfl, .inr rfl⟩ | omega | exact ⟨rfl, by (repeat (first | exact fm_nil | refine fm_cons ⟨rfl, rfl⟩ ?_)), Nat.le_of_ble_eq_true rfl, Nat.le_of_ble_eq_true rfl⟩ | (refine ⟨?_, ?_, ?_, ?_, ?_, ?_, ?_⟩ <;> first | omega | exact Nat.le_of_ble_eq_true rfl) | exact ⟨rfl, by omega, by (try simp only [List.length_map, List.length_set]); omega⟩ | exact ⟨rfl, by omega, by simp only [Int.toNat_natCast]; omega, by omega, Nat.le_of_ble_eq_true rfl, rfl⟩) rfl (by rfl) (by rfl) (by rfl) ?_
          refine g1 ?_
          exact anyS_weak (st' := ⟨[(45, .own 2), (49, .own 2), (56, .val (.int .i16 (((splP 32 s).map vlW).getD 2 0))), (10, .ptr 3 0 0), (6, .own 2), (5, .own 1), (4, .val (.int .i64 0)), (3, .nil), (2, .ptr 0 0 0), (0, .val (.string s))], [(3, ⟨30, 3, true, [[.val (.int .i16 0), .val (.int .i16 0), .val (.int .i16 0)]]⟩), (2, ⟨2, 1, false, i64s ((splP 32 s).map vlW)⟩), (1, ⟨9, 1, false, strs (splP 32 s)⟩), (0, ⟨30, 3, true, [[.val (.int .i16 0), .val (.int .i16 0), .val (.int .i16 0)]]⟩)], 4⟩) (by exact weak_sl (sub_cons rfl (sub_cons rfl (sub_cons rfl (sub_cons rfl (sub_cons rfl (sub_cons rfl (sub_cons rfl (sub_cons rfl (sub_cons rfl (sub_cons rfl (sub_nil)))))))))))) hS38
        refine anyS_cut (fuel' := 11) (listed' := #[true, true, false, false, true, false, false, false, true, false, false, false, false, false, false]) (st' := ⟨[(46, .ptr 2 0 0), (49, .own 2), (53, .own 2), (6, .own 2), (5, .own 1), (4, .val (.int .i64 0)), (3, .nil), (2, .ptr 0 0 0), (0, .val (.string s))], [(2, ⟨2, 1, false, i64s ((splP 32 s).map vlW)⟩), (1, ⟨9, 1, false, strs (splP 32 s)⟩), (0, ⟨30, 3, true, [[.val (.int .i16 0), .val (.int .i16 0), .val (.int .i16 0)]]⟩)], 3⟩) ?_ (fun hS52 => ?_)
        · skip
          refine anyS_cons T0_ok hP hm hN (by rfl) [2, 5, 9, 13] (by rfl) rfl ?_
          refine ⟨⟨_, rfl, rfl, ?_⟩, ?_⟩
          · skip
            refine g1 ?_
            refine anyS_floatV T0_ok hP hm hN (by rfl) 3 rfl rfl (by rfl) (by rfl) (by first | trivial | rfl | exact ⟨rfl, rfl⟩ | exact ⟨rfl, rfl, fun _ => rfl, Nat.le_of_ble_eq_true rfl, .inl rfl⟩ | exact ⟨rfl, rfl, fun h => (nomatch h), Nat.le_of_ble_eq_true rfl, .inl rfl⟩ | exact ⟨rfl, rfl, fun _ => rfl, Nat.le_of_ble_eq_true rfl, .inr rfl⟩ | exact ⟨rfl, rfl, fun h => (nomatch h), Nat.le_of_ble_eq_true rfl, .inr rfl⟩ | omega | exact ⟨rfl, by (repeat (first | exact fm_nil | refine fm_cons ⟨rfl, rfl⟩ ?_)), Nat.le_of_ble_eq_true rfl, Nat.le_of_ble_eq_true rfl⟩ | (refine ⟨?_, ?_, ?_, ?_, ?_, ?_, ?_⟩ <;> first | omega | exact Nat.le_of_ble_eq_true rfl) | exact ⟨rfl, by omega, by (try simp only [List.length_map, List.length_set]); omega⟩ | exact ⟨rfl, by omega, by simp only [Int.toNat_natCast]; omega, by omega, Nat.le_of_ble_eq_true rfl, rfl⟩) rfl (by rfl) (by rfl) (by rfl) ?_
            refine g1 ?_
            exact anyS_weak (st' := ⟨[(48, .val (.int .i16 (((splP 32 s).map vlW).getD 0 0))), (49, .own 2), (53, .own 2), (6, .own 2), (5, .own 1), (4, .val (.int .i64 0)), (3, .nil), (2, .ptr 0 0 0), (0, .val (.string s))], [(2, ⟨2, 1, false, i64s ((splP 32 s).map vlW)⟩), (1, ⟨9, 1, false, strs (splP 32 s)⟩), (0, ⟨30, 3, true, [[.val (.int .i16 0), .val (.int .i16 0), .val (.int .i16 0)]]⟩)], 3⟩) (by exact weak_sl (sub_cons rfl (sub_cons rfl (sub_cons rfl (sub_cons rfl (sub_cons rfl (sub_cons rfl (sub_cons rfl (sub_cons rfl (sub_cons rfl (sub_nil))))))))))) hS39
          refine ⟨⟨_, rfl, rfl, ?_⟩, ?_⟩
          · skip
            refine g1 ?_
            exact anyS_weak (st' := ⟨[(46, .ptr 2 0 0), (50, .ptr 2 1 0), (53, .own 2), (6, .own 2), (5, .own 1), (4, .val (.int .i64 0)), (3, .nil), (2, .ptr 0 0 0), (0, .val (.string s))], [(2, ⟨2, 1, false, i64s ((splP 32 s).map vlW)⟩), (1, ⟨9, 1, false, strs (splP 32 s)⟩), (0, ⟨30, 3, true, [[.val (.int .i16 0), .val (.int .i16 0), .val (.int .i16 0)]]⟩)], 3⟩) (by exact weak_sl (sub_cons rfl (sub_cons rfl (sub_cons rfl (sub_cons rfl (sub_cons rfl (sub_cons rfl (sub_cons rfl (sub_cons rfl (sub_cons rfl (sub_nil))))))))))) hS46
          refine ⟨⟨_, rfl, rfl, ?_⟩, ?_⟩
          · skip
            refine g1 ?_
            exact anyS_weak (st' := ⟨[(46, .ptr 2 0 0), (49, .own 2), (54, .ptr 2 2 0), (6, .own 2), (5, .own 1), (4, .val (.int .i64 0)), (3, .nil), (2, .ptr 0 0 0), (0, .val (.string s))], [(2, ⟨2, 1, false, i64s ((splP 32 s).map vlW)⟩), (1, ⟨9, 1, false, strs (splP 32 s)⟩), (0, ⟨30, 3, true, [[.val (.int .i16 0), .val (.int .i16 0), .val (.int .i16 0)]]⟩)], 3⟩) (by exact weak_sl (sub_cons rfl (sub_cons rfl (sub_cons rfl (sub_cons rfl (sub_cons rfl (sub_cons rfl (sub_cons rfl (sub_cons rfl (sub_cons rfl (sub_nil))))))))))) hS47
          refine ⟨⟨_, rfl, rfl, ?_⟩, trivial⟩
          refine g1 ?_
          exact anyS_weak (st' := ⟨[(46, .ptr 2 0 0), (49, .own 2), (53, .own 2), (10, .ptr 3 0 0), (6, .own 2), (5, .own 1), (4, .val (.int .i64 0)), (3, .nil), (2, .ptr 0 0 0), (0, .val (.string s))], [(3, ⟨30, 3, true, [[.val (.int .i16 0), .val (.int .i16 0), .val (.int .i16 0)]]⟩), (2, ⟨2, 1, false, i64s ((splP 32 s).map vlW)⟩), (1, ⟨9, 1, false, strs (splP 32 s)⟩), (0, ⟨30, 3, true, [[.val (.int .i16 0), .val (.int .i16 0), .val (.int .i16 0)]]⟩)], 4⟩) (by exact weak_sl (sub_cons rfl (sub_cons rfl (sub_cons rfl (sub_cons rfl (sub_cons rfl (sub_cons rfl (sub_cons rfl (sub_cons rfl (sub_cons rfl (sub_cons rfl (sub_nil)))))))))))) hS48
        refine anyS_cut (fuel' := 11) (listed' := #[true, false, false, false, true, true, false, false, true, false, false, false, false, false, false]) (st' := ⟨[(45, .own 2), (50, .ptr 2 1 0), (53, .own 2), (6, .own 2), (5, .own 1), (4, .val (.int .i64 0)), (3, .nil), (2, .ptr 0 0 0), (0, .val (.string s))], [(2, ⟨2, 1, false, i64s ((splP 32 s).map vlW)⟩), (1, ⟨9, 1, false, strs (splP 32 s)⟩), (0, ⟨30, 3, true, [[.val (.int .i16 0), .val (.int .i16 0), .val (.int .i16 0)]]⟩)], 3⟩) ?_ (fun hS53 => ?_)
        · skip
          refine anyS_cons T0_ok hP hm hN (by rfl) [1, 6, 9, 13] (by rfl) rfl ?_
          refine ⟨⟨_, rfl, rfl, ?_⟩, ?_⟩
          · skip
            refine g1 ?_
            exact anyS_weak (st' := ⟨[(46, .ptr 2 0 0), (50, .ptr 2 1 0), (53, .own 2), (6, .own 2), (5, .own 1), (4, .val (.int .i64 0)), (3, .nil), (2, .ptr 0 0 0), (0, .val (.string s))], [(2, ⟨2, 1, false, i64s ((splP 32 s).map vlW)⟩), (1, ⟨9, 1, false, strs (splP 32 s)⟩), (0, ⟨30, 3, true, [[.val (.int .i16 0), .val (.int .i16 0), .val (.int .i16 0)]]⟩)], 3⟩) (by exact weak_sl (sub_cons rfl (sub_cons rfl (sub_cons rfl (sub_cons rfl (sub_cons rfl (sub_cons rfl (sub_cons rfl (sub_cons rfl (sub_cons rfl (sub_nil))))))))))) hS46
          refine ⟨⟨_, rfl, rfl, ?_⟩, ?_⟩
          · skip
            refine g1 ?_
            refine anyS_floatV T0_ok hP hm hN (by rfl) 7 rfl rfl (by rfl) (by rfl) (by first | trivial | rfl | exact ⟨rfl, rfl⟩ | exact ⟨rfl, rfl, fun _ => rfl, Nat.le_of_ble_eq_true rfl, .inl rfl⟩ | exact ⟨rfl, rfl, fun h => (nomatch h), Nat.le_of_ble_eq_true rfl, .inl rfl⟩ | exact ⟨rfl, rfl, fun _ => rfl, Nat.le_of_ble_eq_true rfl, .inr rfl⟩ | exact ⟨rfl, rfl, fun h => (nomatch h), Nat.le_of_ble_eq_true rfl, .inr rfl⟩ | omega | exact ⟨rfl, by (repeat (first | exact fm_nil | refine fm_cons ⟨rfl, rfl⟩ ?_)), Nat.le_of_ble_eq_true rfl, Nat.le_of_ble_eq_true rfl⟩ | (refine ⟨?_, ?_, ?_, ?_, ?_, ?_, ?_⟩ <;> first | omega | exact Nat.le_of_ble_eq_true rfl) | exact ⟨rfl, by omega, by (try simp only [List.length_map, List.length_set]); omega⟩ | exact ⟨rfl, by omega, by simp only [Int.toNat_natCast]; omega, by omega, Nat.le_of_ble_eq_true rfl, rfl⟩) rfl (by rfl) (by rfl) (by rfl) ?_
            refine g1 ?_
            exact anyS_weak (st' := ⟨[(45, .own 2), (52, .val (.int .i16 (((splP 32 s).map vlW).getD 1 0))), (53, .own 2), (6, .own 2), (5, .own 1), (4, .val (.int .i64 0)), (3, .nil), (2, .ptr 0 0 0), (0, .val (.string s))], [(2, ⟨2, 1, false, i64s ((splP 32 s).map vlW)⟩), (1, ⟨9, 1, false, strs (splP 32 s)⟩), (0, ⟨30, 3, true, [[.val (.int .i16 0), .val (.int .i16 0), .val (.int .i16 0)]]⟩)], 3⟩) (by exact weak_sl (sub_cons rfl (sub_cons rfl (sub_cons rfl (sub_cons rfl (sub_cons rfl (sub_cons rfl (sub_cons rfl (sub_cons rfl (sub_cons rfl (sub_nil))))))))))) hS43
          refine ⟨⟨_, rfl, rfl, ?_⟩, ?_⟩
          · skip
            refine g1 ?_
            exact anyS_weak (st' := ⟨[(45, .own 2), (50, .ptr 2 1 0), (54, .ptr 2 2 0), (6, .own 2), (5, .own 1), (4, .val (.int .i64 0)), (3, .nil), (2, .ptr 0 0 0), (0, .val (.string s))], [(2, ⟨2, 1, false, i64s ((splP 32 s).map vlW)⟩), (1, ⟨9, 1, false, strs (splP 32 s)⟩), (0, ⟨30, 3, true, [[.val (.int .i16 0), .val (.int .i16 0), .val (.int .i16 0)]]⟩)], 3⟩) (by exact weak_sl (sub_cons rfl (sub_cons rfl (sub_cons rfl (sub_cons rfl (sub_cons rfl (sub_cons rfl (sub_cons rfl (sub_cons rfl (sub_cons rfl (sub_nil))))))))))) hS49
          refine ⟨⟨_, rfl, rfl, ?_⟩, trivial⟩
          refine g1 ?_
          exact anyS_weak (st' := ⟨[(45, .own 2), (50, .ptr 2 1 0), (53, .own 2), (10, .ptr 3 0 0), (6, .own 2), (5, .own 1), (4, .val (.int .i64 0)), (3, .nil), (2, .ptr 0 0 0), (0, .val (.string s))], [(3, ⟨30, 3, true, [[.val (.int .i16 0), .val (.int .i16 0), .val (.int .i16 0)]]⟩), (2, ⟨2, 1, false, i64s ((splP 32 s).map vlW)⟩), (1, ⟨9, 1, false, strs (splP 32 s)⟩), (0, ⟨30, 3, true, [[.val (.int .i16 0), .val (.int .i16 0), .val (.int .i16 0)]]⟩)], 4⟩) (by exact weak_sl (sub_cons rfl (sub_cons rfl (sub_cons rfl (sub_cons rfl (sub_cons rfl (sub_cons rfl (sub_cons rfl (sub_cons rfl (sub_cons rfl (sub_cons rfl (sub_nil)))))))))))) hS50
        refine anyS_cut (fuel' := 11) (listed' := #[true, false, false, false, true, false, false, false, true, true, false, false, false, false, false]) (st' := ⟨[(45, .own 2), (49, .own 2), (54, .ptr 2 2 0), (6, .own 2), (5, .own 1), (4, .val (.int .i64 0)), (3, .nil), (2, .ptr 0 0 0), (0, .val (.string s))], [(2, ⟨2, 1, false, i64s ((splP 32 s).map vlW)⟩), (1, ⟨9, 1, false, strs (splP 32 s)⟩), (0, ⟨30, 3, true, [[.val (.int .i16 0), .val (.int .i16 0), .val (.int .i16 0)]]⟩)], 3⟩) ?_ (fun hS54 => ?_)
        · skip
          refine anyS_cons T0_ok hP hm hN (by rfl) [1, 5, 10, 13] (by rfl) rfl ?_
          refine ⟨⟨_, rfl, rfl, ?_⟩, ?_⟩
          · skip
            refine g1 ?_
            exact anyS_weak (st' := ⟨[(46, .ptr 2 0 0), (49, .own 2), (54, .ptr 2 2 0), (6, .own 2), (5, .own 1), (4, .val (.int .i64 0)), (3, .nil), (2, .ptr 0 0 0), (0, .val (.string s))], [(2, ⟨2, 1, false, i64s ((splP 32 s).map vlW)⟩), (1, ⟨9, 1, false, strs (splP 32 s)⟩), (0, ⟨30, 3, true, [[.val (.int .i16 0), .val (.int .i16 0), .val (.int .i16 0)]]⟩)], 3⟩) (by exact weak_sl (sub_cons rfl (sub_cons rfl (sub_cons rfl (sub_cons rfl (sub_cons rfl (sub_cons rfl (sub_cons rfl (sub_cons rfl (sub_cons rfl (sub_nil))))))))))) hS47
          refine ⟨⟨_, rfl, rfl, ?_⟩, ?_⟩
          · skip
            refine g1 ?_
            exact anyS_weak (st' := ⟨[(45, .own 2), (50, .ptr 2 1 0), (54, .ptr 2 2 0), (6, .own 2), (5, .own 1), (4, .val (.int .i64 0)), (3, .nil), (2, .ptr 0 0 0), (0, .val (.string s))], [(2, ⟨2, 1, false, i64s ((splP 32 s).map vlW)⟩), (1, ⟨9, 1, false, strs (splP 32 s)⟩), (0, ⟨30, 3, true, [[.val (.int .i16 0), .val (.int .i16 0), .val (.int .i16 0)]]⟩)], 3⟩) (by exact weak_sl (sub_cons rfl (sub_cons rfl (sub_cons rfl (sub_cons rfl (sub_cons rfl (sub_cons rfl (sub_cons rfl (sub_cons rfl (sub_cons rfl (sub_nil))))))))))) hS49
          refine ⟨⟨_, rfl, rfl, ?_⟩, ?_⟩
          · skip
            refine g1 ?_
            refine anyS_floatV T0_ok hP hm hN (by rfl) 11 rfl rfl (by rfl) (by rfl) (by first | trivial | rfl | exact ⟨rfl, rfl⟩ | exact ⟨rfl, rfl, fun _ => rfl, Nat.le_of_ble_eq_true rfl, .inl rfl⟩ | exact ⟨rfl, rfl, fun h => (nomatch h), Nat.le_of_ble_eq_true rfl, .inl rfl⟩ | exact ⟨rfl, rfl, fun _ => rfl, Nat.le_of_ble_eq_true rfl, .inr rfl⟩ | exact ⟨rfl, rfl, fun h => (nomatch h), Nat.le_of_ble_eq_true rfl, .inr rfl⟩ | omega | exact ⟨rfl, by (repeat (first | exact fm_nil | refine fm_cons ⟨rfl, rfl⟩ ?_)), Nat.le_of_ble_eq_true rfl, Nat.le_of_ble_eq_true rfl⟩ | (refine ⟨?_, ?_, ?_, ?_, ?_, ?_, ?_⟩ <;> first | omega | exact Nat.le_of_ble_eq_true rfl) | exact ⟨rfl, by omega, by (try simp only [List.length_map, List.length_set]); omega⟩ | exact ⟨rfl, by omega, by simp only [Int.toNat_natCast]; omega, by omega, Nat.le_of_ble_eq_true rfl, rfl⟩) rfl (by rfl) (by rfl) (by rfl) ?_
            refine g1 ?_
            exact anyS_weak (st' := ⟨[(45, .own 2), (49, .own 2), (56, .val (.int .i16 (((splP 32 s).map vlW).getD 2 0))), (6, .own 2), (5, .own 1), (4, .val (.int .i64 0)), (3, .nil), (2, .ptr 0 0 0), (0, .val (.string s))], [(2, ⟨2, 1, false, i64s ((splP 32 s).map vlW)⟩), (1, ⟨9, 1, false, strs (splP 32 s)⟩), (0, ⟨30, 3, true, [[.val (.int .i16 0), .val (.int .i16 0), .val (.int .i16 0)]]⟩)], 3⟩) (by exact weak_sl (sub_cons rfl (sub_cons rfl (sub_cons rfl (sub_cons rfl (sub_cons rfl (sub_cons rfl (sub_cons rfl (sub_cons rfl (sub_cons rfl (sub_nil))))))))))) hS45
          refine ⟨⟨_, rfl, rfl, ?_⟩, trivial⟩
          refine g1 ?_
          exact anyS_weak (st' := ⟨[(45, .own 2), (49, .own 2), (54, .ptr 2 2 0), (10, .ptr 3 0 0), (6, .own 2), (5, .own 1), (4, .val (.int .i64 0)), (3, .nil), (2, .ptr 0 0 0), (0, .val (.string s))], [(3, ⟨30, 3, true, [[.val (.int .i16 0), .val (.int .i16 0), .val (.int .i16 0)]]⟩), (2, ⟨2, 1, false, i64s ((splP 32 s).map vlW)⟩), (1, ⟨9, 1, false, strs (splP 32 s)⟩), (0, ⟨30, 3, true, [[.val (.int .i16 0), .val (.int .i16 0), .val (.int .i16 0)]]⟩)], 4⟩) (by exact weak_sl (sub_cons rfl (sub_cons rfl (sub_cons rfl (sub_cons rfl (sub_cons rfl (sub_cons rfl (sub_cons rfl (sub_cons rfl (sub_cons rfl (sub_cons rfl (sub_nil)))))))))))) hS51
        refine anyS_cut (fuel' := 11) (listed' := #[true, false, false, false, true, false, false, false, true, false, false, false, false, true, false]) (st' := ⟨[(45, .own 2), (49, .own 2), (53, .own 2), (10, .ptr 3 0 0), (6, .own 2), (5, .own 1), (4, .val (.int .i64 0)), (3, .nil), (2, .ptr 0 0 0), (0, .val (.string s))], [(3, ⟨30, 3, true, [[.val (.int .i16 0), .val (.int .i16 0), .val (.int .i16 0)]]⟩), (2, ⟨2, 1, false, i64s ((splP 32 s).map vlW)⟩), (1, ⟨9, 1, false, strs (splP 32 s)⟩), (0, ⟨30, 3, true, [[.val (.int .i16 0), .val (.int .i16 0), .val (.int .i16 0)]]⟩)], 4⟩) ?_ (fun hS55 => ?_)
        · skip
          refine anyS_cons T0_ok hP hm hN (by rfl) [1, 5, 9] (by rfl) rfl ?_
          refine ⟨⟨_, rfl, rfl, ?_⟩, ?_⟩
          · skip
            refine g1 ?_
            exact anyS_weak (st' := ⟨[(46, .ptr 2 0 0), (49, .own 2), (53, .own 2), (10, .ptr 3 0 0), (6, .own 2), (5, .own 1), (4, .val (.int .i64 0)), (3, .nil), (2, .ptr 0 0 0), (0, .val (.string s))], [(3, ⟨30, 3, true, [[.val (.int .i16 0), .val (.int .i16 0), .val (.int .i16 0)]]⟩), (2, ⟨2, 1, false, i64s ((splP 32 s).map vlW)⟩), (1, ⟨9, 1, false, strs (splP 32 s)⟩), (0, ⟨30, 3, true, [[.val (.int .i16 0), .val (.int .i16 0), .val (.int .i16 0)]]⟩)], 4⟩) (by exact weak_sl (sub_cons rfl (sub_cons rfl (sub_cons rfl (sub_cons rfl (sub_cons rfl (sub_cons rfl (sub_cons rfl (sub_cons rfl (sub_cons rfl (sub_cons rfl (sub_nil)))))))))))) hS48
          refine ⟨⟨_, rfl, rfl, ?_⟩, ?_⟩
          · skip
            refine g1 ?_
            exact anyS_weak (st' := ⟨[(45, .own 2), (50, .ptr 2 1 0), (53, .own 2), (10, .ptr 3 0 0), (6, .own 2), (5, .own 1), (4, .val (.int .i64 0)), (3, .nil), (2, .ptr 0 0 0), (0, .val (.string s))], [(3, ⟨30, 3, true, [[.val (.int .i16 0), .val (.int .i16 0), .val (.int .i16 0)]]⟩), (2, ⟨2, 1, false, i64s ((splP 32 s).map vlW)⟩), (1, ⟨9, 1, false, strs (splP 32 s)⟩), (0, ⟨30, 3, true, [[.val (.int .i16 0), .val (.int .i16 0), .val (.int .i16 0)]]⟩)], 4⟩) (by exact weak_sl (sub_cons rfl (sub_cons rfl (sub_cons rfl (sub_cons rfl (sub_cons rfl (sub_cons rfl (sub_cons rfl (sub_cons rfl (sub_cons rfl (sub_cons rfl (sub_nil)))))))))))) hS50
          refine ⟨⟨_, rfl, rfl, ?_⟩, trivial⟩
          refine g1 ?_
          exact anyS_weak (st' := ⟨[(45, .own 2), (49, .own 2), (54, .ptr 2 2 0), (10, .ptr 3 0 0), (6, .own 2), (5, .own 1), (4, .val (.int .i64 0)), (3, .nil), (2, .ptr 0 0 0), (0, .val (.string s))], [(3, ⟨30, 3, true, [[.val (.int .i16 0), .val (.int .i16 0), .val (.int .i16 0)]]⟩), (2, ⟨2, 1, false, i64s ((splP 32 s).map vlW)⟩), (1, ⟨9, 1, false, strs (splP 32 s)⟩), (0, ⟨30, 3, true, [[.val (.int .i16 0), .val (.int .i16 0), .val (.int .i16 0)]]⟩)], 4⟩) (by exact weak_sl (sub_cons rfl (sub_cons rfl (sub_cons rfl (sub_cons rfl (sub_cons rfl (sub_cons rfl (sub_cons rfl (sub_cons rfl (sub_cons rfl (sub_cons rfl (sub_nil)))))))))))) hS51
        refine anyS_cut (fuel' := 12) (listed' := #[true, false, false, false, true, false, false, false, true, false, false, false, false, false, false]) (st' := ⟨[(45, .own 2), (49, .own 2), (53, .own 2), (6, .own 2), (5, .own 1), (4, .val (.int .i64 0)), (3, .nil), (2, .ptr 0 0 0), (0, .val (.string s))], [(2, ⟨2, 1, false, i64s ((splP 32 s).map vlW)⟩), (1, ⟨9, 1, false, strs (splP 32 s)⟩), (0, ⟨30, 3, true, [[.val (.int .i16 0), .val (.int .i16 0), .val (.int .i16 0)]]⟩)], 3⟩) ?_ (fun hS56 => ?_)
        · skip
          refine anyS_cons T0_ok hP hm hN (by rfl) [1, 5, 9, 13] (by rfl) rfl ?_
          refine ⟨⟨_, rfl, rfl, ?_⟩, ?_⟩
          · skip
            refine g1 ?_
            exact anyS_weak (st' := ⟨[(46, .ptr 2 0 0), (49, .own 2), (53, .own 2), (6, .own 2), (5, .own 1), (4, .val (.int .i64 0)), (3, .nil), (2, .ptr 0 0 0), (0, .val (.string s))], [(2, ⟨2, 1, false, i64s ((splP 32 s).map vlW)⟩), (1, ⟨9, 1, false, strs (splP 32 s)⟩), (0, ⟨30, 3, true, [[.val (.int .i16 0), .val (.int .i16 0), .val (.int .i16 0)]]⟩)], 3⟩) (by exact weak_sl (sub_cons rfl (sub_cons rfl (sub_cons rfl (sub_cons rfl (sub_cons rfl (sub_cons rfl (sub_cons rfl (sub_cons rfl (sub_cons rfl (sub_nil))))))))))) hS52
          refine ⟨⟨_, rfl, rfl, ?_⟩, ?_⟩
          · skip
            refine g1 ?_
            exact anyS_weak (st' := ⟨[(45, .own 2), (50, .ptr 2 1 0), (53, .own 2), (6, .own 2), (5, .own 1), (4, .val (.int .i64 0)), (3, .nil), (2, .ptr 0 0 0), (0, .val (.string s))], [(2, ⟨2, 1, false, i64s ((splP 32 s).map vlW)⟩), (1, ⟨9, 1, false, strs (splP 32 s)⟩), (0, ⟨30, 3, true, [[.val (.int .i16 0), .val (.int .i16 0), .val (.int .i16 0)]]⟩)], 3⟩) (by exact weak_sl (sub_cons rfl (sub_cons rfl (sub_cons rfl (sub_cons rfl (sub_cons rfl (sub_cons rfl (sub_cons rfl (sub_cons rfl (sub_cons rfl (sub_nil))))))))))) hS53
          refine ⟨⟨_, rfl, rfl, ?_⟩, ?_⟩
          · skip
            refine g1 ?_
            exact anyS_weak (st' := ⟨[(45, .own 2), (49, .own 2), (54, .ptr 2 2 0), (6, .own 2), (5, .own 1), (4, .val (.int .i64 0)), (3, .nil), (2, .ptr 0 0 0), (0, .val (.string s))], [(2, ⟨2, 1, false, i64s ((splP 32 s).map vlW)⟩), (1, ⟨9, 1, false, strs (splP 32 s)⟩), (0, ⟨30, 3, true, [[.val (.int .i16 0), .val (.int .i16 0), .val (.int .i16 0)]]⟩)], 3⟩) (by exact weak_sl (sub_cons rfl (sub_cons rfl (sub_cons rfl (sub_cons rfl (sub_cons rfl (sub_cons rfl (sub_cons rfl (sub_cons rfl (sub_cons rfl (sub_nil))))))))))) hS54
          refine ⟨⟨_, rfl, rfl, ?_⟩, trivial⟩
          refine g1 ?_
          exact anyS_weak (st' := ⟨[(45, .own 2), (49, .own 2), (53, .own 2), (10, .ptr 3 0 0), (6, .own 2), (5, .own 1), (4, .val (.int .i64 0)), (3, .nil), (2, .ptr 0 0 0), (0, .val (.string s))], [(3, ⟨30, 3, true, [[.val (.int .i16 0), .val (.int .i16 0), .val (.int .i16 0)]]⟩), (2, ⟨2, 1, false, i64s ((splP 32 s).map vlW)⟩), (1, ⟨9, 1, false, strs (splP 32 s)⟩), (0, ⟨30, 3, true, [[.val (.int .i16 0), .val (.int .i16 0), .val (.int .i16 0)]]⟩)], 4⟩) (by exact weak_sl (sub_cons rfl (sub_cons rfl (sub_cons rfl (sub_cons rfl (sub_cons rfl (sub_cons rfl (sub_cons rfl (sub_cons rfl (sub_cons rfl (sub_cons rfl (sub_nil)))))))))))) hS55
        refine anyS_float T0_ok hP hm hN (by rfl) 0 rfl rfl rfl (by rfl) (by rfl) (by rfl) ?_
        refine g1 ?_
        refine anyS_float T0_ok hP hm hN (by rfl) 4 rfl rfl rfl (by rfl) (by rfl) (by rfl) ?_
        refine g1 ?_
        refine anyS_float T0_ok hP hm hN (by rfl) 8 rfl rfl rfl (by rfl) (by rfl) (by rfl) ?_
        refine g1 ?_
        exact anyS_weak (st' := ⟨[(45, .own 2), (49, .own 2), (53, .own 2), (6, .own 2), (5, .own 1), (4, .val (.int .i64 0)), (3, .nil), (2, .ptr 0 0 0), (0, .val (.string s))], [(2, ⟨2, 1, false, i64s ((splP 32 s).map vlW)⟩), (1, ⟨9, 1, false, strs (splP 32 s)⟩), (0, ⟨30, 3, true, [[.val (.int .i16 0), .val (.int .i16 0), .val (.int .i16 0)]]⟩)], 3⟩) (by exact weak_sl (sub_cons rfl (sub_cons rfl (sub_cons rfl (sub_cons rfl (sub_cons rfl (sub_cons rfl (sub_cons rfl (sub_cons rfl (sub_cons rfl (sub_nil))))))))))) hS56
      · skip
        refine awp_seq ?_
        refine awp_seq ?_
        refine awp_draw T0_ok hP hm hN Pr_mix [0, 1, 2, 3, 4, 5, 6, 7, 8, 9, 10, 11] [3] _ rfl (by rfl) ?_
        refine d1 T0_ok ?_
        refine d1 T0_ok ?_
        refine d1 T0_ok ?_
        refine dp1 ?_ (call1 ok_S_l04Ok (((((splP 32 s).map vlW).getD 0 0), (((splP 32 s).map vlW).getD 1 0), (((splP 32 s).map vlW).getD 2 0)), ((splP 32 s).map vlW).drop 3) [] (hargs := (by exact args_cons rfl (args_cons ⟨by simp, _, rfl, rfl, rfl, drop_i64s _ _ (by simp)⟩ args_nil))) (hpre := by (try dsimp only); exact ⟨hpg, by simp; omega⟩))
        refine d1 T0_ok ?_
        refine dreg_nil ?_
        refine awp_cond rfl (fun hc3 => ?_) (fun hc3 => ?_)
        · skip
          have hr : rhS s = badH := by rw [hrc, if_neg]; rw [okH_validH] at hc3; simpa using hc3
          refine awp_seq ?_
          refine r1 T0_ok hP hm hN ?_
          refine g1 ?_
          refine g1 ?_
          refine g1 ?_
          refine g1 ?_
          refine g1 ?_
          refine awp_weak (weak_own_vw (t := 3) (h := 4) rfl rfl) ?_
          refine awp_ret ?_
          refine fin_mk [4] rfl rfl ?_ (by show Objs _ _ [⟨2, 1, false, i64s (fullH s)⟩]; first | (rw [(fullH_bad hr).1]; exact objs_cons rfl rfl rfl rfl rfl (.inl rfl) objs_nil) | (rw [hf1]; exact objs_cons rfl rfl rfl rfl rfl (.inl rfl) objs_nil)) (by decide)
          show D.tup [.val (.agg #[.int .i16 (rhS s).1.1, .int .i16 (rhS s).1.2.1, .int .i16 (rhS s).1.2.2]), .vw 4 (fromH s) (rhS s).2.1.length, .val (.int .i64 (rhS s).2.2)] = _
          rw [hr, (fullH_bad hr).2]
          rfl
        · skip
          have hr : rhS s = (((((splP 32 s).map vlW).getD 0 0), (((splP 32 s).map vlW).getD 1 0), (((splP 32 s).map vlW).getD 2 0)), ((splP 32 s).map vlW).drop 3, 0) := by rw [hrc, if_pos]; rw [okH_validH] at hc3; simpa using hc3
          obtain ⟨hf1, hf2⟩ := fullH_ok (s := s) (by rw [hr])
          refine awp_skip ?_
          refine awp_seq ?_
          refine awp_draw T0_ok hP hm hN Pr_mix [2, 3] [3] _ rfl (by rfl) ?_
          refine d1 T0_ok ?_
          refine d1 T0_ok ?_
          refine d1 T0_ok ?_
          refine dp1 ?_ (oprel_astep T0_ok (by rfl) rfl (by first | trivial | rfl | exact ⟨rfl, rfl⟩ | exact ⟨rfl, rfl, fun _ => rfl, Nat.le_of_ble_eq_true rfl, .inl rfl⟩ | exact ⟨rfl, rfl, fun h => (nomatch h), Nat.le_of_ble_eq_true rfl, .inl rfl⟩ | exact ⟨rfl, rfl, fun _ => rfl, Nat.le_of_ble_eq_true rfl, .inr rfl⟩ | exact ⟨rfl, rfl, fun h => (nomatch h), Nat.le_of_ble_eq_true rfl, .inr rfl⟩ | omega | exact ⟨rfl, by (repeat (first | exact fm_nil | refine fm_cons ⟨rfl, rfl⟩ ?_)), Nat.le_of_ble_eq_true rfl, Nat.le_of_ble_eq_true rfl⟩ | (refine ⟨?_, ?_, ?_, ?_, ?_, ?_, ?_⟩ <;> first | omega | exact Nat.le_of_ble_eq_true rfl) | exact ⟨rfl, by omega, by (try simp only [List.length_map, List.length_set]); omega⟩ | exact ⟨rfl, by omega, by simp only [Int.toNat_natCast]; omega, by omega, Nat.le_of_ble_eq_true rfl, rfl⟩))
          refine d1 T0_ok ?_
          refine d1 T0_ok ?_
          refine dreg_nil ?_
          refine awp_ret ?_
          refine fin_mk [2] rfl rfl ?_ (by show Objs _ _ [⟨2, 1, false, i64s (fullH s)⟩]; first | (rw [(fullH_bad hr).1]; exact objs_cons rfl rfl rfl rfl rfl (.inl rfl) objs_nil) | (rw [hf1]; exact objs_cons rfl rfl rfl rfl rfl (.inl rfl) objs_nil)) (by decide)
          show D.tup [.val (.agg #[.int .i16 (rhS s).1.1, .int .i16 (rhS s).1.2.1, .int .i16 (rhS s).1.2.2]), .vw 2 (fromH s) (rhS s).2.1.length, .val (.int .i64 (rhS s).2.2)] = _
          rw [hf2, hr]
          simp only [List.length_drop, List.length_map]
          rfl
end Go.Proofs.YtoincpeodnmfmaaDoor.Abs
