import Derived.Test.YtoincpeodnmfmaaDoorR0
set_option linter.unusedVariables false
set_option linter.unusedSimpArgs false
namespace Go.Proofs.YtoincpeodnmfmaaDoor.Abs
open Go Go.RowKit
def rdN (l : Bs) : Int := match Lib.parseIntB 64 l with
  | .ok n => n
  | .range => Lib.intSat 64 l
  | _ => 0
def rdB (l : Bs) : Bool := match Lib.parseIntB 64 l with
  | .ok n => decide (Lib.itoa n = l)
  | _ => false
theorem parse_in {l : Bs} {n : Int} (h : Lib.parseIntB 64 l = .ok n) : -9223372036854775808 ≤ n ∧ n ≤ 9223372036854775807 := by
  unfold Lib.parseIntB at h
  split at h
  · cases h
  · simp only at h
    split at h
    · cases h
    · cases h
    · rename_i u hu
      split at h
      · cases h
      · split at h
        · cases h
        · simp only [Lib.NumEnd.ok.injEq] at h
          subst h
          split <;> omega
theorem below_parse {w w' : World} {ty : TypeId} (h : w' = w ∨ ∃ t, w' = Lib.bytesWorld w ty t) : Below w.heap.size w w' := by
  rcases h with rfl | ⟨t, rfl⟩
  · exact Below.refl _ _
  · exact ⟨rfl, rfl, rfl, by rw [Lib.bytesWorld_size]; omega, fun i hi => Lib.bytesWorld_at_old w ty t i hi⟩
theorem dec_calls (n : Int) (h0 : -9223372036854775808 ≤ n) (h1 : n ≤ 9223372036854775807) (w : World) (ht : TabAt [] w) : Calls Pr 51 #[.int .i64 n] w fun e w' => e = .returned (.string ⟨(Lib.itoa n).toArray⟩) ∧ Below w.heap.size w w' := by
  go_enter Go.Proofs.Tryd.func51, Go.Proofs.Tryd.ntmps51
  go_wp2_with (go_at_call 62; refine (Go.Proofs.Tryd.strconv_FormatInt_10 n h0 h1 _ (tab_pow ht)).mono ?_; rintro e w' ⟨rfl, k, os, rfl⟩)
  go_ret
  exact ⟨rfl, below_grow w k os⟩
theorem readDec_calls (s : ByteArray) (hs : s.size ≤ 1048576) (w : World) (ht : TabAt [] w) : Calls Pr 34 #[.string s] w fun e w' => e = .returned (.tuple #[.int .i64 (rdN s.data.toList), .bool (rdB s.data.toList)]) ∧ Below w.heap.size w w' := by
  cases hp : Lib.parseIntB 64 s.data.toList
  · rename_i n
    obtain ⟨h0, h1⟩ := parse_in hp
    go_enter Go.Proofs.Tryd.func34, Go.Proofs.Tryd.ntmps34
    go_wp2_with (first
      | (go_at_call 56; refine (Go.Proofs.Tryd.strconv_ParseInt_10_at64_ok s (by omega) n hp _).mono ?_; rintro e w1 ⟨rfl, hw1⟩; have hb1 : Below w.heap.size w w1 := below_parse hw1)
      | (go_at_call 51; refine (dec_calls n h0 h1 _ (tab_later ht hb1)).mono ?_; rintro e w2 ⟨rfl, hb2⟩))
    go_ret2
    refine ⟨?_, hb1.trans (hb2.mono hb1.size)⟩
    have e : (Lib.itoa n == s.toList) = decide (Lib.itoa n = s.data.toList) := by rw [ba_list]; rw [Bool.eq_iff_iff]; simp
    simp only [rdN, rdB, hp, ← e]
    rfl
  · obtain ⟨ev, hv, hev⟩ := tab_syn ht
    go_enter Go.Proofs.Tryd.func34, Go.Proofs.Tryd.ntmps34
    go_wp2_with (go_at_call 56; refine (Go.Proofs.Tryd.strconv_ParseInt_10_at64_syntax s (by omega) hp ev _ hv hev).mono ?_; rintro e w1 ⟨N, rfl, hN, hcell, hb1⟩)
    go_ret2
    refine ⟨?_, hb1⟩
    simp only [rdN, rdB, hp]
    rfl
  · obtain ⟨ev, hv, hev⟩ := tab_rng ht
    go_enter Go.Proofs.Tryd.func34, Go.Proofs.Tryd.ntmps34
    go_wp2_with (go_at_call 56; refine (Go.Proofs.Tryd.strconv_ParseInt_10_at64_range s (by omega) hp ev _ hv hev).mono ?_; rintro e w1 ⟨N, rfl, hN, hcell, hb1⟩)
    go_ret2
    refine ⟨?_, hb1⟩
    simp only [rdN, rdB, hp]
    rfl
noncomputable abbrev s_I_readDec : Spec ByteArray where
  args := fun s => [.val (.string s)]
  pre := fun s => s.size ≤ 1048576
  res := fun s => .tup [.val (.int .i64 (rdN s.data.toList)), .val (.bool (rdB s.data.toList))]
theorem ok_I_readDec : FnOk Pr 34 s_I_readDec := fnOk_tupB (fun s => [.string s]) (fun s => s.size ≤ 1048576) (fun s => [.int .i64 (rdN s.data.toList), .bool (rdB s.data.toList)]) (enters_of Go.Proofs.Tryd.func34 rfl rfl) (fun s hs w ht => readDec_calls s hs w ht)
theorem short_rd (l : Bs) : shortV l = if (!rdB l || !inI (rdN l) 0 32767) = true then -1 else rdN l := by
  unfold shortV rdB rdN
  cases hp : Lib.parseIntB 64 l
  · rename_i n
    simp only
    by_cases h1 : Lib.itoa n = l
    · by_cases h2 : 0 ≤ n ∧ n ≤ 32767
      · rw [if_pos ⟨h1, h2⟩, if_neg]; simp [h1, inI, h2]
      · rw [if_neg (fun h => h2 h.2), if_pos]
        have : inI n 0 32767 = false := by rw [← Bool.not_eq_true, inI_iff]; exact h2
        simp [this]
    · rw [if_neg (fun h => h1 h.1), if_pos]; simp [h1]
  · simp
  · simp
theorem cut_len (l : Bs) : (Lib.cut l [62]).1.length ≤ l.length ∧ (Lib.cut l [62]).2.1.length ≤ l.length := by
  unfold Lib.cut
  split
  · simp; omega
  · simp


noncomputable abbrev s_I_short : Spec ByteArray where
  args := fun s => [.val (.string s)]
  pre := fun s => s.size ≤ 1048576
  res := fun s => .val (.int .i16 (shortV s.data.toList))

set_option maxRecDepth 20000 in
set_option maxHeartbeats 1000000 in
theorem ok_I_short : FnOk Pr 22 s_I_short := by
  refine fn_ok 1 0 T0_ok Go.Proofs.Tryd.func22 rfl (enters_of Go.Proofs.Tryd.func22 rfl rfl) (fun _ => rfl) (fun _ => rfl) (fun _ => rfl) ?_
  rintro s hs C hP hN hm hG
  change awp C _ _ ⟨[(0, .val (.string s))], [], 0⟩
  have hs : s.size ≤ 1048576 := hs
  refine awp_seq ?_
  refine r1 T0_ok hP hm hN ?_
  refine g1 ?_
  refine awp_seq ?_
  refine r1 T0_ok hP hm hN ?_
  refine g1 ?_
  refine gc1 ?_ (call1 ok_I_readDec _ [] (hpre := by (try dsimp only); exact hs))
  refine g1 ?_
  refine g1 ?_
  refine g1 ?_
  refine g1 ?_
  refine g1 ?_
  refine awp_seq ?_
  refine awp_seq ?_
  refine r1 T0_ok hP hm hN ?_
  refine g1 ?_
  refine g1 ?_
  refine g1 ?_
  refine gg1 ?_
  refine ggc1 ?_ (hs := by intro hb; simp +decide only [hb, gd_tt, gd_ff, beq_self_eq_true, Bool.true_and, beq_true]; exact ⟨rfl, _, call1 ok_I_within_int64 (_, _, _) [], rfl, rfl, rfl⟩)
  refine gg1 ?_
  refine g1 ?_
  refine awp_cond rfl (fun hc0 => ?_) (fun hc0 => ?_)
  · skip
    have hr : shortV s.data.toList = -1 := by rw [short_rd, if_pos hc0]
    refine awp_seq ?_
    refine r1 T0_ok hP hm hN ?_
    refine g1 ?_
    refine awp_ret ?_
    refine fin_mk [] rfl rfl ?_ trivial (by decide)
    show D.val (.int .i16 (shortV s.data.toList)) = _
    rw [hr]
    rfl
  · skip
    have hr : shortV s.data.toList = rdN s.data.toList := by rw [short_rd, if_neg (by rw [hc0]; simp)]
    have hin : 0 ≤ rdN s.data.toList ∧ rdN s.data.toList ≤ 32767 := by
      rw [Bool.or_eq_false_iff] at hc0
      exact inI_iff.1 (by simpa using hc0.2)
    refine awp_skip ?_
    refine awp_seq ?_
    refine r1 T0_ok hP hm hN ?_
    refine g1 ?_
    refine g1 ?_
    refine g1 ?_
    refine awp_ret ?_
    refine fin_mk [] rfl rfl ?_ trivial (by decide)
    show D.val (.int .i16 (shortV s.data.toList)) = _
    rw [hr]
    rfl

noncomputable abbrev s_I_ReadMoves_1 : Spec ByteArray where
  args := fun s => [.val (.string s)]
  pre := fun s => s.size ≤ 1048576
  res := fun s => mvD (wordI s.data.toList)

set_option maxRecDepth 20000 in
set_option maxHeartbeats 1000000 in
theorem ok_I_ReadMoves_1 : FnOk Pr 20 s_I_ReadMoves_1 := by
  refine fn_ok 1 0 T0_ok Go.Proofs.Tryd.func20 rfl (enters_of Go.Proofs.Tryd.func20 rfl rfl) (fun _ => rfl) (fun _ => rfl) (fun _ => rfl) ?_
  rintro s hs C hP hN hm hG
  change awp C _ _ ⟨[(0, .val (.string s))], [], 0⟩
  have hs : s.size ≤ 1048576 := hs
  obtain ⟨hcl1, hcl2⟩ := cut_len s.data.toList
  have hcl3 : s.size = s.data.toList.length := rfl
  refine awp_seq ?_
  refine r1 T0_ok hP hm hN ?_
  refine g1 ?_
  refine awp_seq ?_
  refine r1 T0_ok hP hm hN ?_
  refine g1 ?_
  refine gc1 ?_ (call1 ok_strings_Cut _ [] (hpre := by (try dsimp only); exact hs))
  refine g1 ?_
  refine g1 ?_
  refine g1 ?_
  refine g1 ?_
  refine g1 ?_
  refine g1 ?_
  refine g1 ?_
  refine awp_seq ?_
  refine r1 T0_ok hP hm hN ?_
  refine g1 ?_
  refine gc1 ?_ (call1 ok_I_short ⟨(Lib.cut s.data.toList [62]).1.toArray⟩ [] (hpre := by (try dsimp only); show (Lib.cut s.data.toList [62]).1.toArray.size ≤ _; rw [List.size_toArray]; omega))
  refine g1 ?_
  refine gc1 ?_ (call1 ok_I_short ⟨(Lib.cut s.data.toList [62]).2.1.toArray⟩ [] (hpre := by (try dsimp only); show (Lib.cut s.data.toList [62]).2.1.toArray.size ≤ _; rw [List.size_toArray]; omega))
  refine g1 ?_
  refine g1 ?_
  refine awp_ret ?_
  refine fin_mk [] rfl rfl ?_ trivial (by decide)
  rfl
end Go.Proofs.YtoincpeodnmfmaaDoor.Abs
