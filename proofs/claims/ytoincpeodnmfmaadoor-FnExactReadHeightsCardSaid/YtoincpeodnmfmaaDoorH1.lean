import Derived.Test.YtoincpeodnmfmaaDoorH0
set_option linter.unusedVariables false
set_option linter.unusedSimpArgs false
namespace Go.Proofs.YtoincpeodnmfmaaDoor.Abs
open Go Go.RowKit

/-! ### Heights -/
def ddI (n : Int) : Bs := Lib.decDigits n.toNat
def good (w : Bs) : Bool := numOk w && decide (valL w ≤ 1000)
abbrev in1k (n : Int) : Prop := 0 ≤ n ∧ n ≤ 1000
theorem good_short {w : Bs} (h : good w = true) : shortV w = (valL w : Int) ∧ ddI (valL w : Int) = w := by
  simp only [good, Bool.and_eq_true, decide_eq_true_eq] at h
  have e := num_dig h.1
  have h2 := short_dig (show valL w ≤ 32767 by omega)
  rw [e] at h2
  exact ⟨h2, by rw [ddI, Int.toNat_natCast]; exact e⟩
theorem good_dd {n : Int} (h : in1k n) : good (ddI n) = true ∧ (valL (ddI n) : Int) = n ∧ shortV (ddI n) = n := by
  rw [ddI]
  refine ⟨?_, ?_, ?_⟩
  · rw [good, dig_num (by omega), valL_dig]
    simp; omega
  · rw [valL_dig]; omega
  · rw [short_dig (by omega)]; omega
abbrev PgH := (Int × Int × Int) × List Int × Int
def badH : PgH := ((0, 0, 0), [], 5)
abbrev numsOf (f : Bs → Int) (s : Bs) : List Int := (spl 32 s).map f
abbrev valI (w : Bs) : Int := (valL w : Int)
noncomputable def readHS (V : Int → Int → Int → List Int → Bool) (s : Bs) : PgH :=
  if !(spl 32 s).all good then badH else if decide ((spl 32 s).length < 4) then badH else
  if V ((numsOf valI s).getD 0 0) ((numsOf valI s).getD 1 0) ((numsOf valI s).getD 2 0) ((numsOf valI s).drop 3) then
    (((numsOf valI s).getD 0 0, (numsOf valI s).getD 1 0, (numsOf valI s).getD 2 0), (numsOf valI s).drop 3, 0) else badH
def joinHL (a b c : Int) (xs : List Int) : Bs := Lib.join (([a, b, c] ++ xs).map ddI) [32]
noncomputable def readHI (V : Int → Int → Int → List Int → Bool) (s : Bs) : PgH :=
  if !(decide (4 ≤ (spl 32 s).length ∧ (spl 32 s).length ≤ 9)) then badH else
  if V ((numsOf shortV s).getD 0 0) ((numsOf shortV s).getD 1 0) ((numsOf shortV s).getD 2 0) ((numsOf shortV s).drop 3) && decide (joinHL ((numsOf shortV s).getD 0 0) ((numsOf shortV s).getD 1 0) ((numsOf shortV s).getD 2 0) ((numsOf shortV s).drop 3) = s) then
    (((numsOf shortV s).getD 0 0, (numsOf shortV s).getD 1 0, (numsOf shortV s).getD 2 0), (numsOf shortV s).drop 3, 0) else badH
theorem three {l : List Int} (h : 4 ≤ l.length) : [l.getD 0 0, l.getD 1 0, l.getD 2 0] ++ l.drop 3 = l := by
  match l, h with
  | a :: b :: c :: r, _ => rfl
theorem readH_same {V : Int → Int → Int → List Int → Bool} (hV : ∀ a b c xs, V a b c xs = true → in1k a ∧ in1k b ∧ in1k c ∧ (∀ n ∈ xs, in1k n) ∧ 1 ≤ xs.length ∧ xs.length ≤ 6) (s : Bs) : readHI V s = readHS V s := by
  unfold readHI readHS
  by_cases h : (spl 32 s).all good = true
  · have h' := List.all_eq_true.1 h
    have e : numsOf shortV s = numsOf valI s := List.map_congr_left fun w hw => (good_short (h' w hw)).1
    have e2 : (numsOf valI s).map ddI = spl 32 s := by
      rw [List.map_map]
      conv => rhs; rw [← List.map_id (spl 32 s)]
      exact List.map_congr_left fun w hw => (good_short (h' w hw)).2
    rw [e, h]
    simp only [Bool.not_true, Bool.false_eq_true, if_false]
    have hlen : (numsOf valI s).length = (spl 32 s).length := List.length_map _
    by_cases h4 : 4 ≤ (spl 32 s).length
    · have hj : joinHL ((numsOf valI s).getD 0 0) ((numsOf valI s).getD 1 0) ((numsOf valI s).getD 2 0) ((numsOf valI s).drop 3) = s := by
        rw [joinHL, three (by omega), e2, join_spl]
      rw [hj]
      by_cases h9 : (spl 32 s).length ≤ 9
      · simp [h4, h9, show ¬ (spl 32 s).length < 4 by omega]
      · have hn : ¬ V ((numsOf valI s).getD 0 0) ((numsOf valI s).getD 1 0) ((numsOf valI s).getD 2 0) ((numsOf valI s).drop 3) = true := fun hv => by
          have := (hV _ _ _ _ hv).2.2.2.2.2
          rw [List.length_drop] at this
          omega
        rw [if_neg hn, if_pos (by simp [h9])]
        simp
    · rw [if_pos (by simp [h4]), if_pos (by simp; omega)]
  · rw [show (!(spl 32 s).all good) = true by simpa using h, if_pos rfl]
    split
    · rfl
    · rename_i hl
      have hl : 4 ≤ (spl 32 s).length := by
        have : ¬ (!(decide (4 ≤ (spl 32 s).length ∧ (spl 32 s).length ≤ 9))) = true := hl
        simp at this
        exact this.1
      rw [if_neg]
      intro hc
      rw [Bool.and_eq_true, decide_eq_true_eq] at hc
      obtain ⟨h1, h2⟩ := hc
      obtain ⟨ha, hb, hcc, hx, -, -⟩ := hV _ _ _ _ h1
      have hlen : (numsOf shortV s).length = (spl 32 s).length := List.length_map _
      rw [joinHL, three (by omega)] at h2
      have hin : ∀ n ∈ numsOf shortV s, in1k n := fun n hn => by
        rw [← three (l := numsOf shortV s) (by omega), List.mem_append] at hn
        rcases hn with hn | hn
        · simp only [List.mem_cons, List.not_mem_nil, or_false] at hn
          rcases hn with rfl | rfl | rfl
          · exact ha
          · exact hb
          · exact hcc
        · exact hx n hn
      have hw : (numsOf shortV s).map ddI = spl 32 s := by
        cases hs : numsOf shortV s with
        | nil => rw [hs] at hlen; simp at hlen; omega
        | cons x r =>
          rw [hs] at h2
          rw [List.map_cons] at h2 ⊢
          rw [← h2]
          refine (spl_join 32 _ _ (fun p hp => ?_)).symm
          rw [← List.map_cons] at hp
          obtain ⟨m, _, rfl⟩ := List.mem_map.1 hp
          exact no32 _
      apply h
      rw [List.all_eq_true]
      intro w hm
      rw [← hw] at hm
      obtain ⟨m, hm1, rfl⟩ := List.mem_map.1 hm
      exact (good_dd (hin m hm1)).1

theorem i64s_app (xs ys : List Int) : i64s (xs ++ ys) = i64s xs ++ i64s ys := by simp
theorem drop_strs (xs : List ByteArray) (n : Nat) (h : n = xs.length - 3) : ((strs xs).drop 3).take n = strs (xs.drop 3) := by
  subst h
  rw [List.take_of_length_le (by simp [strs])]
  simp [strs]
theorem joinH_HL (a b c : Int) (xs : List Int) : (joinH a b c xs).data.toList = joinHL a b c xs := by
  show Lib.join ((htL a b c xs).map (·.data.toList)) [32] = _
  rw [joinHL, htL, List.map_append, List.map_map, List.map_append]
  rfl
theorem hVH : ∀ a b c xs, validH a b c xs = true → in1k a ∧ in1k b ∧ in1k c ∧ (∀ n ∈ xs, in1k n) ∧ 1 ≤ xs.length ∧ xs.length ≤ 6 := by
  intro a b c xs h
  rw [validH, Bool.and_eq_true, Bool.and_eq_true, Bool.and_eq_true, List.all_eq_true, pegsOk_iff] at h
  obtain ⟨⟨⟨⟨h1, h2, h3⟩, h4⟩, _⟩, h5⟩ := h
  have h6 := inI_iff.1 h4
  refine ⟨⟨by omega, by omega⟩, ⟨by omega, by omega⟩, ⟨by omega, by omega⟩, fun n hn => ?_, by omega, by omega⟩
  have h7 := h5 n hn
  rw [isH, Bool.and_eq_true] at h7
  have h8 := inI_iff.1 h7.1
  exact ⟨by omega, by omega⟩
noncomputable abbrev rhI (s : ByteArray) : PgH := readHI validH s.data.toList
noncomputable abbrev rhS (s : ByteArray) : PgH := readHS validH s.data.toList
def shW (w : ByteArray) : Int := shortV w.data.toList
def vlW (w : ByteArray) : Int := valI w.data.toList
theorem map_sh (s : ByteArray) : numsOf shortV s.data.toList = (splP 32 s).map shW := by rw [numsOf, ← splP_list, List.map_map]; rfl
theorem map_vl (s : ByteArray) : numsOf valI s.data.toList = (splP 32 s).map vlW := by rw [numsOf, ← splP_list, List.map_map]; rfl
theorem map_getD (f : ByteArray → Int) (xs : List ByteArray) (i : Nat) (h : i < xs.length) : (xs.map f).getD i 0 = f (xs.getD i baZ) := by simp [List.getD, h]
theorem rhI_few {s : ByteArray} (h : ¬ (4 ≤ (splP 32 s).length ∧ (splP 32 s).length ≤ 9)) : rhI s = badH := by
  rw [rhI, readHI, splP_len2, if_pos (by rw [decide_eq_false h]; rfl)]
theorem rhI_cond {s : ByteArray} (h : 4 ≤ (splP 32 s).length ∧ (splP 32 s).length ≤ 9) : rhI s = if validH (shW ((splP 32 s).getD 0 baZ)) (shW ((splP 32 s).getD 1 baZ)) (shW ((splP 32 s).getD 2 baZ)) (((splP 32 s).drop 3).map shW) && ((joinH (shW ((splP 32 s).getD 0 baZ)) (shW ((splP 32 s).getD 1 baZ)) (shW ((splP 32 s).getD 2 baZ)) (((splP 32 s).drop 3).map shW)).toList == s.toList) then
    ((shW ((splP 32 s).getD 0 baZ), shW ((splP 32 s).getD 1 baZ), shW ((splP 32 s).getD 2 baZ)), ((splP 32 s).drop 3).map shW, 0) else badH := by
  rw [rhI, readHI, splP_len2, if_neg (by simpa using h), map_sh, map_getD _ _ 0 (by omega), map_getD _ _ 1 (by omega), map_getD _ _ 2 (by omega), ← List.map_drop]
  have e : decide (joinHL (shW ((splP 32 s).getD 0 baZ)) (shW ((splP 32 s).getD 1 baZ)) (shW ((splP 32 s).getD 2 baZ)) (((splP 32 s).drop 3).map shW) = s.data.toList) = ((joinH (shW ((splP 32 s).getD 0 baZ)) (shW ((splP 32 s).getD 1 baZ)) (shW ((splP 32 s).getD 2 baZ)) (((splP 32 s).drop 3).map shW)).toList == s.toList) := by
    rw [Bool.eq_iff_iff, decide_eq_true_eq, beq_iff_eq, ba_list, ba_list, joinH_HL]
  rw [e]
theorem shW_in (w : ByteArray) : -1 ≤ shW w ∧ shW w ≤ 32767 := by
  unfold shW shortV
  split
  · split
    · omega
    · omega
  · omega

noncomputable abbrev s_I_ReadHeights_1 : Spec ByteArray where
  args := fun w => [.val (.string w)]
  pre := fun w => w.size ≤ 1048576
  res := fun w => .val (.int .i64 (shW w))

set_option maxRecDepth 20000 in
set_option maxHeartbeats 1000000 in
theorem ok_I_ReadHeights_1 : FnOk Pr 29 s_I_ReadHeights_1 := by
  refine fn_ok 1 0 T0_ok Go.Proofs.Tryd.func29 rfl (enters_of Go.Proofs.Tryd.func29 rfl rfl) (fun _ => rfl) (fun _ => rfl) (fun _ => rfl) ?_
  rintro w hw C hP hN hm hG
  change awp C _ _ ⟨[(0, .val (.string w))], [], 0⟩
  have hw : w.size ≤ 1048576 := hw
  obtain ⟨q1, q2⟩ := shW_in w
  unfold shW at q1 q2
  refine awp_seq ?_
  refine r1 T0_ok hP hm hN ?_
  refine g1 ?_
  refine awp_seq ?_
  refine r1 T0_ok hP hm hN ?_
  refine g1 ?_
  refine gc1 ?_ (call1 ok_I_short w [] (hpre := by (try dsimp only); omega))
  refine g1 ?_
  refine g1 ?_
  refine awp_ret ?_
  refine fin_mk [] rfl rfl ?_ trivial (by decide)
  rfl

theorem does_shW {xs : List ByteArray} (h : ∀ w ∈ xs, w.size ≤ 1048576) : Does Pr (fun w => [strD w]) (· ∈ xs) (fun w => i64D (shW w)) (.val (.func (.func 29) #[] #[])) :=
  ⟨29, [], [], s_I_ReadHeights_1, rfl, rfl, rfl, ok_I_ReadHeights_1, fun _ => rfl, fun w hw => h w hw, fun _ => rfl, fun _ => rfl, fun _ => rfl, fun _ => rfl⟩

noncomputable abbrev s_I_each_string_int64 : Spec (List ByteArray × D × (ByteArray → Int)) where
  args := fun x => [.sl 1 (strs x.1), x.2.1]
  pre := fun x => x.1.length ≤ 1048576 ∧ fnCell x.2.1 = true ∧ Does Pr (fun p => [strD p]) (· ∈ x.1) (fun p => i64D (x.2.2 p)) x.2.1
  new := fun x => [⟨2, 1, false, i64s (x.1.map x.2.2)⟩]
  res := fun x => .own 0

set_option maxRecDepth 20000 in
set_option maxHeartbeats 1000000 in
theorem ok_I_each_string_int64 : FnOk Pr 28 s_I_each_string_int64 := by
  refine fn_ok 2 0 T0_ok Go.Proofs.Tryd.func28 rfl (enters_of Go.Proofs.Tryd.func28 rfl rfl) (fun _ => rfl) (fun _ => rfl) (fun _ => rfl) ?_
  rintro ⟨xs, fn, g⟩ ⟨hp, hf0, hask⟩ C hP hN hm hG
  simp only at hf0 hask
  obtain ⟨v, rfl⟩ | ⟨cf, cs, rfl⟩ := fnCell_cases hf0
  · skip
    change awp C _ _ ⟨[(0, .sl 1 (strs xs)), (1, .val v)], [], 0⟩
    simp only at hp
    refine awp_seq ?_
    refine r1 T0_ok hP hm hN ?_
    refine g1 ?_
    refine awp_seq ?_
    refine r1 T0_ok hP hm hN ?_
    refine g1 ?_
    refine awp_seq ?_
    refine awp_seq ?_
    refine r1 T0_ok hP hm hN ?_
    refine g1 ?_
    refine g1 ?_
    refine g1 ?_
    refine awp_block ?_
    refine awp_loop (fun n st => ∃ i : Nat, i ≤ xs.length ∧ n = xs.length - i ∧ st = ⟨[(10, .val (.int .i64 (i : Nat))), (9, .val (.int .i64 (xs.length : Nat))), (8, .sl 1 (strs xs)), (5, .own 0), (1, .val v)], [(0, ⟨2, 1, false, i64s (mapF g xs i)⟩)], 1⟩) (xs.length) ⟨_, (by exact Weak.trans (weak_nil 5 2 1 rfl) (weak_sl (sub_cons rfl (sub_cons rfl (sub_cons rfl (sub_cons rfl (sub_cons rfl (sub_nil)))))))), 0, by omega, rfl, rfl⟩ ?_
    rintro n st ⟨i, hii, hni, rfl⟩
    have hml := mapF_len g xs hii
    refine awp_seq ?_
    refine r1 T0_ok hP hm hN ?_
    refine g1 ?_
    refine awp_seq ?_
    refine awp_cond rfl (fun hc0 => ?_) (fun hc0 => ?_)
    · skip
      have hlti : i < xs.length := by simpa using hc0
      have hgx := strs_get xs i hlti
      refine awp_skip ?_
      refine awp_seq ?_
      refine awp_block ?_
      refine awp_seq ?_
      refine r1 T0_ok hP hm hN ?_
      refine g1 ?_
      refine g1 ?_
      refine g1 ?_
      refine r1 T0_ok hP hm hN ?_
      refine g1 ?_
      refine g1 ?_
      refine g1 ?_
      refine gc1 ?_ (OpRel.does hask _ (getD_mem' hlti) rfl rfl rfl rfl rfl rfl)
      refine g1 ?_
      refine ga1 ?_
      refine g1 ?_
      refine r1 T0_ok hP hm hN ?_
      refine g1 ?_
      refine g1 ?_
      refine ⟨xs.length - (i + 1), _, by omega, (by rw [mapF_succ (d := baZ) g hlti, i64s_app]; exact Weak.trans (weak_drop 2) (Weak.trans (weak_drop 1) (Weak.trans (weak_nx (nx' := 1) (by omega) (by rfl)) (weak_sl (sub_cons rfl (sub_cons rfl (sub_cons rfl (sub_cons rfl (sub_cons rfl (sub_nil)))))))))), i + 1, by omega, rfl, rfl⟩
    · skip
      have hgei : ¬ i < xs.length := by simpa using hc0
      have heqi : i = xs.length := by omega
      rw [heqi, mapF_all]
      refine awp_exit ?_
      repeat refine thenA_exit ?_
      refine blockA_hit ?_
      refine awp_seq ?_
      refine r1 T0_ok hP hm hN ?_
      refine g1 ?_
      refine g1 ?_
      refine awp_ret ?_
      refine fin_mk [0] rfl rfl ?_ (objs_cons rfl rfl rfl rfl rfl (.inl rfl) objs_nil) (by decide)
      rfl
  · skip
    change awp C _ _ ⟨[(0, .sl 1 (strs xs)), (1, .clo cf cs)], [], 0⟩
    simp only at hp
    refine awp_seq ?_
    refine r1 T0_ok hP hm hN ?_
    refine g1 ?_
    refine awp_seq ?_
    refine r1 T0_ok hP hm hN ?_
    refine g1 ?_
    refine awp_seq ?_
    refine awp_seq ?_
    refine r1 T0_ok hP hm hN ?_
    refine g1 ?_
    refine g1 ?_
    refine g1 ?_
    refine awp_block ?_
    refine awp_loop (fun n st => ∃ i : Nat, i ≤ xs.length ∧ n = xs.length - i ∧ st = ⟨[(10, .val (.int .i64 (i : Nat))), (9, .val (.int .i64 (xs.length : Nat))), (8, .sl 1 (strs xs)), (5, .own 0), (1, .clo cf cs)], [(0, ⟨2, 1, false, i64s (mapF g xs i)⟩)], 1⟩) (xs.length) ⟨_, (by exact Weak.trans (weak_nil 5 2 1 rfl) (weak_sl (sub_cons rfl (sub_cons rfl (sub_cons rfl (sub_cons rfl (sub_cons rfl (sub_nil)))))))), 0, by omega, rfl, rfl⟩ ?_
    rintro n st ⟨i, hii, hni, rfl⟩
    have hml := mapF_len g xs hii
    refine awp_seq ?_
    refine r1 T0_ok hP hm hN ?_
    refine g1 ?_
    refine awp_seq ?_
    refine awp_cond rfl (fun hc0 => ?_) (fun hc0 => ?_)
    · skip
      have hlti : i < xs.length := by simpa using hc0
      have hgx := strs_get xs i hlti
      refine awp_skip ?_
      refine awp_seq ?_
      refine awp_block ?_
      refine awp_seq ?_
      refine r1 T0_ok hP hm hN ?_
      refine g1 ?_
      refine g1 ?_
      refine g1 ?_
      refine r1 T0_ok hP hm hN ?_
      refine g1 ?_
      refine g1 ?_
      refine g1 ?_
      refine gc1 ?_ (OpRel.does hask _ (getD_mem' hlti) rfl rfl rfl rfl rfl rfl)
      refine g1 ?_
      refine ga1 ?_
      refine g1 ?_
      refine r1 T0_ok hP hm hN ?_
      refine g1 ?_
      refine g1 ?_
      refine ⟨xs.length - (i + 1), _, by omega, (by rw [mapF_succ (d := baZ) g hlti, i64s_app]; exact Weak.trans (weak_drop 2) (Weak.trans (weak_drop 1) (Weak.trans (weak_nx (nx' := 1) (by omega) (by rfl)) (weak_sl (sub_cons rfl (sub_cons rfl (sub_cons rfl (sub_cons rfl (sub_cons rfl (sub_nil)))))))))), i + 1, by omega, rfl, rfl⟩
    · skip
      have hgei : ¬ i < xs.length := by simpa using hc0
      have heqi : i = xs.length := by omega
      rw [heqi, mapF_all]
      refine awp_exit ?_
      repeat refine thenA_exit ?_
      refine blockA_hit ?_
      refine awp_seq ?_
      refine r1 T0_ok hP hm hN ?_
      refine g1 ?_
      refine g1 ?_
      refine awp_ret ?_
      refine fin_mk [0] rfl rfl ?_ (objs_cons rfl rfl rfl rfl rfl (.inl rfl) objs_nil) (by decide)
      rfl
end Go.Proofs.YtoincpeodnmfmaaDoor.Abs
