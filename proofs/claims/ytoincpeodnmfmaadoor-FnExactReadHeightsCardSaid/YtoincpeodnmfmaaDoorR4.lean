import Derived.Test.YtoincpeodnmfmaaDoorR3
set_option linter.unusedVariables false
set_option linter.unusedSimpArgs false
namespace Go.Proofs.YtoincpeodnmfmaaDoor.Abs
open Go Go.RowKit
abbrev baZ : ByteArray := ⟨#[]⟩
theorem strs_get (xs : List ByteArray) (i : Nat) (h : i < xs.length) : (strs xs)[i]? = some [.val (.string (xs.getD i baZ))] := by simp [strs, List.getD, h]
def wI (w : ByteArray) : Mv := wordI w.data.toList
def wV (w : ByteArray) : Mv := wordV w.data.toList
theorem splP_sz {c : UInt8} {s w : ByteArray} (h : w ∈ splP c s) : w.size ≤ s.size := by
  obtain ⟨p, hp, rfl⟩ := List.mem_map.1 h
  have := spl_piece c _ p hp
  show p.toArray.size ≤ _
  rw [List.size_toArray]
  exact this
theorem map_wI (s : ByteArray) : (spl 32 s.data.toList).map wordI = (splP 32 s).map wI := by rw [← splP_list, List.map_map]; rfl
theorem map_wV (s : ByteArray) : (spl 32 s.data.toList).map wordV = (splP 32 s).map wV := by rw [← splP_list, List.map_map]; rfl
theorem splP_len2 (c : UInt8) (s : ByteArray) : (spl c s.data.toList).length = (splP c s).length := by rw [← splP_list, List.length_map]
theorem okMv_99 (m : Mv) : okMv m = decide (in99 m) := by
  rw [Bool.eq_iff_iff, decide_eq_true_eq, okMv, Bool.and_eq_true, inI_iff, inI_iff]
theorem joinS_list (ms : List Mv) : (joinS ms).toList = Lib.join (ms.map mvB) [32] := by
  rw [ba_list]
  show Lib.join ((ms.map mvT).map (·.data.toList)) [32] = _
  rw [List.map_map]
  congr 1
  exact List.map_congr_left fun m _ => mvT_list m
theorem ba_nil2 {s : ByteArray} : (s.toList == ByteArray.toList { data := #[] }) = decide (s.data.toList = []) := by
  rw [ba_list, ba_list, Bool.eq_iff_iff, beq_iff_eq, decide_eq_true_eq]
theorem readI_cond {s : ByteArray} (h1 : ¬ s.data.toList = []) (h2 : ¬ (splP 32 s).length > 200) : readI s.data.toList = if (!(decide ((((splP 32 s).map wI).length : Int) ≤ 200) && ((splP 32 s).map wI).all okMv) || !((joinS ((splP 32 s).map wI)).toList == s.toList)) = true then ([], 5) else ((splP 32 s).map wI, 0) := by
  have hl : decide ((((splP 32 s).map wI).length : Int) ≤ 200) = true := by rw [List.length_map]; simp; omega
  have ha : ((splP 32 s).map wI).all okMv = ((splP 32 s).map wI).all fun m => decide (in99 m) := by
    congr 1; funext m; exact okMv_99 m
  have hj : ((joinS ((splP 32 s).map wI)).toList == s.toList) = decide (Lib.join (((splP 32 s).map wI).map mvB) [32] = s.data.toList) := by
    rw [joinS_list, ba_list, Bool.eq_iff_iff, beq_iff_eq, decide_eq_true_eq]
  rw [readI, if_neg h1, if_neg (by rw [splP_len2]; simpa using h2), map_wI, hl, ha, hj, Bool.true_and]
  cases h3 : ((splP 32 s).map wI).all fun m => decide (in99 m) <;> cases h4 : decide (Lib.join (((splP 32 s).map wI).map mvB) [32] = s.data.toList) <;> simp
theorem word_len {w : ByteArray} (h : ¬ (splP 62 w).length = 2) : wordOk w.data.toList = false := by
  rw [← splP_len2] at h
  unfold wordOk
  split
  · rename_i f t hs; rw [hs] at h; exact absurd rfl h
  · rfl
theorem word_two {w : ByteArray} (h : (splP 62 w).length = 2) : spl 62 w.data.toList = [((splP 62 w).getD 0 baZ).data.toList, ((splP 62 w).getD 1 baZ).data.toList] := by
  rw [← splP_list]
  match hs : splP 62 w, h with
  | [f, t], _ => rfl
theorem word_cond {w : ByteArray} (h : (splP 62 w).length = 2) : (((!(numR ((splP 62 w).getD 0 baZ).data.toList).2 || !(numR ((splP 62 w).getD 1 baZ).data.toList).2) || decide ((numR ((splP 62 w).getD 0 baZ).data.toList).1 > 99)) || decide ((numR ((splP 62 w).getD 1 baZ).data.toList).1 > 99)) = !wordOk w.data.toList := by
  rw [wordOk, word_two h]
  simp only
  unfold numR
  cases h1 : numOk ((splP 62 w).getD 0 baZ).data.toList <;> cases h2 : numOk ((splP 62 w).getD 1 baZ).data.toList <;> simp
  rw [Bool.eq_iff_iff]
  simp only [Bool.or_eq_true, decide_eq_true_eq, Bool.not_eq_true', Bool.and_eq_false_iff, decide_eq_false_iff_not]
  omega
theorem word_val {w : ByteArray} (h : (splP 62 w).length = 2) (hk : wordOk w.data.toList = true) : wV w = ((numR ((splP 62 w).getD 0 baZ).data.toList).1, (numR ((splP 62 w).getD 1 baZ).data.toList).1) ∧ in99 (wV w) := by
  have h2 := (word_ok hk).1
  refine ⟨?_, h2⟩
  rw [wordOk, word_two h] at hk
  simp only [Bool.and_eq_true, decide_eq_true_eq] at hk
  rw [wV, wordV, word_two h, numR_yes hk.1.1, numR_yes hk.1.2]
theorem readS_nil {l : Bs} (h : l = []) : readS l = ([], 0) := by rw [readS, if_pos h]
theorem readS_many {s : ByteArray} (h1 : ¬ s.data.toList = []) (h2 : (splP 32 s).length > 200) : readS s.data.toList = ([], 5) := by rw [readS, if_neg h1, if_pos (by rw [splP_len2]; simpa using h2)]
theorem readS_bad {s : ByteArray} {j : Nat} (h1 : ¬ s.data.toList = []) (h2 : ¬ (splP 32 s).length > 200) (hj : j < (splP 32 s).length) (hb : wordOk ((splP 32 s).getD j baZ).data.toList = false) : readS s.data.toList = ([], 5) := by
  rw [readS, if_neg h1, if_neg (by rw [splP_len2]; simpa using h2), if_neg]
  intro h
  rw [List.all_eq_true, ← splP_list] at h
  have := h _ (List.mem_map.2 ⟨(splP 32 s).getD j baZ, getD_mem' hj, rfl⟩)
  rw [hb] at this; cases this
theorem readS_good {s : ByteArray} (h1 : ¬ s.data.toList = []) (h2 : ¬ (splP 32 s).length > 200) (h : ∀ j, j < (splP 32 s).length → wordOk ((splP 32 s).getD j baZ).data.toList = true) : readS s.data.toList = ((splP 32 s).map wV, 0) := by
  rw [readS, if_neg h1, if_neg (by rw [splP_len2]; simpa using h2), if_pos, map_wV]
  rw [← splP_list, List.all_map, List.all_eq_true]
  intro w hw
  obtain ⟨j, hj, rfl⟩ := List.getElem_of_mem hw
  have := h j hj
  rwa [show (splP 32 s).getD j baZ = (splP 32 s)[j] by simp [List.getD, hj]] at this

theorem does_wI {xs : List ByteArray} (h : ∀ w ∈ xs, w.size ≤ 1048576) : Does Pr (fun w => [strD w]) (· ∈ xs) (fun w => mvD (wI w)) (.val (.func (.func 20) #[] #[])) :=
  ⟨20, [], [], s_I_ReadMoves_1, rfl, rfl, rfl, ok_I_ReadMoves_1, fun _ => rfl, fun w hw => h w hw, fun _ => rfl, fun _ => rfl, fun _ => rfl, fun _ => rfl⟩

noncomputable abbrev s_I_each_string_I_Move : Spec (List ByteArray × D × (ByteArray → Mv)) where
  args := fun x => [.sl 1 (strs x.1), x.2.1]
  pre := fun x => x.1.length ≤ 1048576 ∧ fnCell x.2.1 = true ∧ Does Pr (fun p => [strD p]) (· ∈ x.1) (fun p => mvD (x.2.2 p)) x.2.1
  new := fun x => [⟨42, 2, false, mvs (x.1.map x.2.2)⟩]
  res := fun x => .own 0

set_option maxRecDepth 20000 in
set_option maxHeartbeats 1000000 in
theorem ok_I_each_string_I_Move : FnOk Pr 19 s_I_each_string_I_Move := by
  refine fn_ok 2 0 T0_ok Go.Proofs.Tryd.func19 rfl (enters_of Go.Proofs.Tryd.func19 rfl rfl) (fun _ => rfl) (fun _ => rfl) (fun _ => rfl) ?_
  rintro ⟨xs, fn, g⟩ ⟨hp, hf0, hask⟩ C hP hN hm hG
  simp only at hf0 hask
  obtain ⟨v, rfl⟩ | ⟨cf, cs, rfl⟩ := fnCell_cases hf0
  · skip
    change awp C _ _ ⟨[(0, .sl 1 (strs xs)), (1, .val v)], [], 0⟩
    simp only at hp
    refine awp_seq ?_
    refine r1 T0_ok hP hm hN ?_
    refine g1 ?_
    refine awp_seq ?_
    refine r1 T0_ok hP hm hN ?_
    refine g1 ?_
    refine awp_seq ?_
    refine awp_seq ?_
    refine r1 T0_ok hP hm hN ?_
    refine g1 ?_
    refine g1 ?_
    refine g1 ?_
    refine awp_block ?_
    refine awp_loop (fun n st => ∃ i : Nat, i ≤ xs.length ∧ n = xs.length - i ∧ st = ⟨[(10, .val (.int .i64 (i : Nat))), (9, .val (.int .i64 (xs.length : Nat))), (8, .sl 1 (strs xs)), (5, .own 0), (1, .val v)], [(0, ⟨42, 2, false, mvs (mapF g xs i)⟩)], 1⟩) (xs.length) ⟨_, (by exact Weak.trans (weak_nil 5 42 2 rfl) (weak_sl (sub_cons rfl (sub_cons rfl (sub_cons rfl (sub_cons rfl (sub_cons rfl (sub_nil)))))))), 0, by omega, rfl, rfl⟩ ?_
    rintro n st ⟨i, hii, hni, rfl⟩
    have hml := mapF_len g xs hii
    refine awp_seq ?_
    refine r1 T0_ok hP hm hN ?_
    refine g1 ?_
    refine awp_seq ?_
    refine awp_cond rfl (fun hc0 => ?_) (fun hc0 => ?_)
    · skip
      have hlti : i < xs.length := by simpa using hc0
      have hgx := strs_get xs i hlti
      refine awp_skip ?_
      refine awp_seq ?_
      refine awp_block ?_
      refine awp_seq ?_
      refine r1 T0_ok hP hm hN ?_
      refine g1 ?_
      refine g1 ?_
      refine g1 ?_
      refine r1 T0_ok hP hm hN ?_
      refine g1 ?_
      refine g1 ?_
      refine g1 ?_
      refine gc1 ?_ (OpRel.does hask _ (getD_mem' hlti) rfl rfl rfl rfl rfl rfl)
      refine g1 ?_
      refine ga1 ?_
      refine g1 ?_
      refine r1 T0_ok hP hm hN ?_
      refine g1 ?_
      refine g1 ?_
      refine ⟨xs.length - (i + 1), _, by omega, (by rw [mapF_succ (d := baZ) g hlti, mvs_app]; exact Weak.trans (weak_drop 2) (Weak.trans (weak_drop 1) (Weak.trans (weak_nx (nx' := 1) (by omega) (by rfl)) (weak_sl (sub_cons rfl (sub_cons rfl (sub_cons rfl (sub_cons rfl (sub_cons rfl (sub_nil)))))))))), i + 1, by omega, rfl, rfl⟩
    · skip
      have hgei : ¬ i < xs.length := by simpa using hc0
      have heqi : i = xs.length := by omega
      rw [heqi, mapF_all]
      refine awp_exit ?_
      repeat refine thenA_exit ?_
      refine blockA_hit ?_
      refine awp_seq ?_
      refine r1 T0_ok hP hm hN ?_
      refine g1 ?_
      refine g1 ?_
      refine awp_ret ?_
      refine fin_mk [0] rfl rfl ?_ (objs_cons rfl rfl rfl rfl rfl (.inl rfl) objs_nil) (by decide)
      rfl
  · skip
    change awp C _ _ ⟨[(0, .sl 1 (strs xs)), (1, .clo cf cs)], [], 0⟩
    simp only at hp
    refine awp_seq ?_
    refine r1 T0_ok hP hm hN ?_
    refine g1 ?_
    refine awp_seq ?_
    refine r1 T0_ok hP hm hN ?_
    refine g1 ?_
    refine awp_seq ?_
    refine awp_seq ?_
    refine r1 T0_ok hP hm hN ?_
    refine g1 ?_
    refine g1 ?_
    refine g1 ?_
    refine awp_block ?_
    refine awp_loop (fun n st => ∃ i : Nat, i ≤ xs.length ∧ n = xs.length - i ∧ st = ⟨[(10, .val (.int .i64 (i : Nat))), (9, .val (.int .i64 (xs.length : Nat))), (8, .sl 1 (strs xs)), (5, .own 0), (1, .clo cf cs)], [(0, ⟨42, 2, false, mvs (mapF g xs i)⟩)], 1⟩) (xs.length) ⟨_, (by exact Weak.trans (weak_nil 5 42 2 rfl) (weak_sl (sub_cons rfl (sub_cons rfl (sub_cons rfl (sub_cons rfl (sub_cons rfl (sub_nil)))))))), 0, by omega, rfl, rfl⟩ ?_
    rintro n st ⟨i, hii, hni, rfl⟩
    have hml := mapF_len g xs hii
    refine awp_seq ?_
    refine r1 T0_ok hP hm hN ?_
    refine g1 ?_
    refine awp_seq ?_
    refine awp_cond rfl (fun hc0 => ?_) (fun hc0 => ?_)
    · skip
      have hlti : i < xs.length := by simpa using hc0
      have hgx := strs_get xs i hlti
      refine awp_skip ?_
      refine awp_seq ?_
      refine awp_block ?_
      refine awp_seq ?_
      refine r1 T0_ok hP hm hN ?_
      refine g1 ?_
      refine g1 ?_
      refine g1 ?_
      refine r1 T0_ok hP hm hN ?_
      refine g1 ?_
      refine g1 ?_
      refine g1 ?_
      refine gc1 ?_ (OpRel.does hask _ (getD_mem' hlti) rfl rfl rfl rfl rfl rfl)
      refine g1 ?_
      refine ga1 ?_
      refine g1 ?_
      refine r1 T0_ok hP hm hN ?_
      refine g1 ?_
      refine g1 ?_
      refine ⟨xs.length - (i + 1), _, by omega, (by rw [mapF_succ (d := baZ) g hlti, mvs_app]; exact Weak.trans (weak_drop 2) (Weak.trans (weak_drop 1) (Weak.trans (weak_nx (nx' := 1) (by omega) (by rfl)) (weak_sl (sub_cons rfl (sub_cons rfl (sub_cons rfl (sub_cons rfl (sub_cons rfl (sub_nil)))))))))), i + 1, by omega, rfl, rfl⟩
    · skip
      have hgei : ¬ i < xs.length := by simpa using hc0
      have heqi : i = xs.length := by omega
      rw [heqi, mapF_all]
      refine awp_exit ?_
      repeat refine thenA_exit ?_
      refine blockA_hit ?_
      refine awp_seq ?_
      refine r1 T0_ok hP hm hN ?_
      refine g1 ?_
      refine g1 ?_
      refine awp_ret ?_
      refine fin_mk [0] rfl rfl ?_ (objs_cons rfl rfl rfl rfl rfl (.inl rfl) objs_nil) (by decide)
      rfl

noncomputable abbrev s_I_ReadMoves : Spec ByteArray where
  args := fun s => [.val (.string s)]
  pre := fun s => s.size ≤ 1048576
  new := fun s => [⟨42, 2, false, mvs (readI s.data.toList).1⟩]
  res := fun s => .tup [.own 0, .val (.int .i64 (readI s.data.toList).2)]

set_option maxRecDepth 20000 in
set_option maxHeartbeats 4000000 in
theorem ok_I_ReadMoves : FnOk Pr 6 s_I_ReadMoves := by
  refine fn_ok 1 0 T0_ok Go.Proofs.Tryd.func6 rfl (enters_of Go.Proofs.Tryd.func6 rfl rfl) (fun _ => rfl) (fun _ => rfl) (fun _ => rfl) ?_
  rintro s hs C hP hN hm hG
  change awp C _ _ ⟨[(0, .val (.string s))], [], 0⟩
  have hs : s.size ≤ 1048576 := hs
  refine awp_seq ?_
  refine r1 T0_ok hP hm hN ?_
  refine g1 ?_
  refine g1 ?_
  refine awp_seq ?_
  refine awp_seq ?_
  refine r1 T0_ok hP hm hN ?_
  refine g1 ?_
  refine g1 ?_
  refine awp_cond rfl (fun hc0 => ?_) (fun hc0 => ?_)
  · skip
    have hr : readI s.data.toList = ([], 0) := by rw [ba_nil2] at hc0; rw [readI, if_pos (by simpa using hc0)]
    refine awp_seq ?_
    refine r1 T0_ok hP hm hN ?_
    refine g1 ?_
    refine g1 ?_
    refine awp_weak (weak_nil 2 42 2 rfl) ?_
    refine awp_ret ?_
    refine fin_mk [0] rfl rfl ?_ (by simp only [hr]; exact objs_cons rfl rfl rfl rfl rfl (.inl rfl) objs_nil) (by decide)
    show D.tup [.own 0, .val (.int .i64 (readI s.data.toList).2)] = _
    rw [hr]
    rfl
  · skip
    have hne : ¬ s.data.toList = [] := by rw [ba_nil2] at hc0; simpa using hc0
    refine awp_skip ?_
    refine awp_seq ?_
    refine r1 T0_ok hP hm hN ?_
    refine g1 ?_
    refine gc1 ?_ (call1 ok_strings_Split s [] (hpre := by (try dsimp only); exact hs) (hfo := by intro o ho; simp only [List.nil_append, List.mem_singleton] at ho; subst ho; exact flat_strs _ _ _ _))
    refine g1 ?_
    refine awp_seq ?_
    refine awp_seq ?_
    refine r1 T0_ok hP hm hN ?_
    refine g1 ?_
    refine g1 ?_
    refine g1 ?_
    refine awp_cond rfl (fun hc1 => ?_) (fun hc1 => ?_)
    · skip
      have hr : readI s.data.toList = ([], 5) := by rw [readI, if_neg hne, if_pos (by rw [splP_len2]; simp at hc1 ⊢; omega)]
      refine awp_seq ?_
      refine r1 T0_ok hP hm hN ?_
      refine g1 ?_
      refine g1 ?_
      refine awp_weak (weak_nil 2 42 2 rfl) ?_
      refine awp_ret ?_
      refine fin_mk [1] rfl rfl ?_ (by simp only [hr]; exact objs_cons rfl rfl rfl rfl rfl (.inl rfl) objs_nil) (by decide)
      show D.tup [.own 1, .val (.int .i64 (readI s.data.toList).2)] = _
      rw [hr]
      rfl
    · skip
      have hl2 : ¬ (splP 32 s).length > 200 := by simp at hc1; omega
      have hrc := readI_cond hne hl2
      rw [List.length_map] at hrc
      refine awp_skip ?_
      refine awp_seq ?_
      refine r1 T0_ok hP hm hN ?_
      refine g1 ?_
      refine gc1 ?_ (call1 ok_I_each_string_I_Move (splP 32 s, _, wI) [] (hpre := by (try dsimp only); exact ⟨by omega, rfl, does_wI (fun w hw => by have := splP_sz hw; omega)⟩) (hfo := by intro o ho; simp only [List.nil_append, List.mem_singleton] at ho; subst ho; exact flat_mvs _ _ _ _))
      refine g1 ?_
      refine awp_seq ?_
      refine awp_seq ?_
      refine r1 T0_ok hP hm hN ?_
      refine g1 ?_
      refine gc1 ?_ (call1 ok_I_isMoveText ((splP 32 s).map wI) [] (hpre := by (try dsimp only); rw [List.length_map]; omega))
      refine g1 ?_
      refine g1 ?_
      refine gg1 ?_
      refine ggc1 ?_ (hs := by intro hb; simp +decide only [hb, gd_tt, gd_ff, beq_self_eq_true, Bool.true_and, beq_true]; exact ⟨rfl, _, call1 ok_I_movesText ((splP 32 s).map wI) [] (hpre := by (try dsimp only); exact ⟨all_tx (by rw [Bool.not_eq_false', Bool.and_eq_true] at hb; exact hb.2), by rw [List.length_map]; omega⟩), rfl, rfl, rfl⟩)
      refine gg1 ?_
      refine gg1 ?_
      refine g1 ?_
      refine awp_cond rfl (fun hc2 => ?_) (fun hc2 => ?_)
      · skip
        have hr : readI s.data.toList = ([], 5) := by rw [hrc, if_pos hc2]
        refine awp_seq ?_
        refine r1 T0_ok hP hm hN ?_
        refine g1 ?_
        refine g1 ?_
        refine awp_weak (weak_nil 2 42 2 rfl) ?_
        refine awp_ret ?_
        refine fin_mk [2] rfl rfl ?_ (by simp only [hr]; exact objs_cons rfl rfl rfl rfl rfl (.inl rfl) objs_nil) (by decide)
        show D.tup [.own 2, .val (.int .i64 (readI s.data.toList).2)] = _
        rw [hr]
        rfl
      · skip
        have hr : readI s.data.toList = (((splP 32 s).map wI), 0) := by rw [hrc, if_neg (by rw [hc2]; simp)]
        refine awp_skip ?_
        refine awp_seq ?_
        refine r1 T0_ok hP hm hN ?_
        refine g1 ?_
        refine g1 ?_
        refine g1 ?_
        refine awp_ret ?_
        refine fin_mk [1] rfl rfl ?_ (by simp only [hr]; exact objs_cons rfl rfl rfl rfl rfl (.inl rfl) objs_nil) (by decide)
        show D.tup [.own 1, .val (.int .i64 (readI s.data.toList).2)] = _
        rw [hr]
        rfl
end Go.Proofs.YtoincpeodnmfmaaDoor.Abs
