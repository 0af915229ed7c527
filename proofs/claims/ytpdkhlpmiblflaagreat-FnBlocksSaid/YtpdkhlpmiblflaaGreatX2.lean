import Derived.Test.YtpdkhlpmiblflaaGreatX1
set_option linter.unusedVariables false
set_option linter.unusedSimpArgs false
namespace Go.Proofs.YtpdkhlpmiblflaaGreat.Abs
open Go Go.RowKit
noncomputable def unc (k c : Nat) : Option Nd := by
  classical
  exact if h : ∃ x, okN k x ∧ (code6 x).toNat = c then some h.choose else none
theorem unc_code {k : Nat} (hk : k ≤ 6) {x : Nd} (h : okN k x) : unc k (code6 x).toNat = some x := by
  have hex : ∃ y, okN k y ∧ (code6 y).toNat = (code6 x).toNat := ⟨x, h, rfl⟩
  unfold unc
  rw [dif_pos hex]
  obtain ⟨h1, h2⟩ := hex.choose_spec
  have b1 := code6_lt hk h1
  have b2 := code6_lt hk h
  exact congrArg some (code6_inj h1 h (by omega))
theorem unc_some {k c : Nat} {x : Nd} (h : unc k c = some x) : okN k x ∧ (code6 x).toNat = c := by
  unfold unc at h
  split at h
  · rename_i hex
    rw [← Option.some.inj h]
    exact hex.choose_spec
  · cases h
def fv : Option Nat → Int
  | none => 0
  | some v => (v : Int) + 1
noncomputable def cellC (k : Nat) (d : Nd → Option Nat) (c : Nat) : Int := match unc k c with
  | some x => fv (d x)
  | none => 0
theorem farC_ex (k : Nat) (d : Nd → Option Nat) : ∃ l : List Int, l.length = 46656 ∧ ∀ c, c < 46656 → l.getD c 0 = cellC k d c :=
  ⟨(List.range 46656).map (cellC k d), by rw [List.length_map, List.length_range], fun c hc => by
    rw [List.getD, List.getElem?_map, List.getElem?_range hc]; rfl⟩
noncomputable def farC (k : Nat) (d : Nd → Option Nat) : List Int := (farC_ex k d).choose
theorem farC_len (k : Nat) (d : Nd → Option Nat) : (farC k d).length = 46656 := (farC_ex k d).choose_spec.1
theorem farC_cell (k : Nat) (d : Nd → Option Nat) {c : Nat} (hc : c < 46656) : (farC k d).getD c 0 = cellC k d c := (farC_ex k d).choose_spec.2 c hc
theorem farC_get {k : Nat} (hk : k ≤ 6) (d : Nd → Option Nat) {x : Nd} (h : okN k x) : (farC k d).getD (code6 x).toNat 0 = fv (d x) := by
  have := code6_lt hk h
  rw [farC_cell _ _ (by omega), cellC, unc_code hk h]
theorem farC_none (k m : Nat) (hm : m = 46656) : List.replicate m (0 : Int) = farC k (fun _ => none) := by
  refine list_ext' (d := 0) (by rw [farC_len, List.length_replicate, hm]) (fun j hj => ?_)
  rw [List.length_replicate] at hj
  rw [farC_cell _ _ (by omega), cellC]
  have : (List.replicate m (0 : Int)).getD j 0 = 0 := by simp [List.getD, hj]
  rw [this]
  split <;> rfl
theorem farC_set {k : Nat} (hk : k ≤ 6) (d : Nd → Option Nat) {x : Nd} (h : okN k x) (v : Nat) : (farC k d).set (code6 x).toNat ((v : Int) + 1) = farC k (updN d x v) := by
  have hb := code6_lt hk h
  refine list_ext' (d := 0) (by rw [List.length_set, farC_len, farC_len]) (fun j hj => ?_)
  rw [List.length_set, farC_len] at hj
  rw [farC_cell _ _ hj]
  have hl := farC_len k d
  by_cases e : j = (code6 x).toNat
  · subst e
    rw [cellC, unc_code hk h]
    show _ = fv (updN d x v x)
    rw [updN, if_pos rfl]
    simp only [List.getD, List.getElem?_set_self (show (code6 x).toNat < (farC k d).length by omega)]
    rfl
  · have e2 : ((farC k d).set (code6 x).toNat ((v : Int) + 1)).getD j 0 = (farC k d).getD j 0 := by
      simp only [List.getD, List.getElem?_set_ne (Ne.symm e)]
    rw [e2, farC_cell _ _ hj, cellC, cellC]
    cases hu : unc k j with
    | none => rfl
    | some y =>
      obtain ⟨h1, h2⟩ := unc_some hu
      show fv (d y) = fv (updN d x v y)
      rw [updN, if_neg (fun e3 => e (by rw [← h2, e3]))]
theorem ints_rep8 (m : Nat) : List.replicate m [D.val (.int .i8 0)] = ints .i8 (List.replicate m 0) := by simp
theorem wI8' {n : Int} (h1 : -128 ≤ n) (h2 : n ≤ 127) : IntKind.i8.wrap n = n := by
  simp only [IntKind.wrap, IntKind.bits, IntKind.signed]; simp; omega
def ShL (ys zs : List Int) (i k : Nat) : Prop := zs.length = ys.length ∧ ∀ p, zs.getD p 0 = if k < p ∧ p ≤ i then ys.getD (p - 1) 0 else ys.getD p 0
theorem shL_0 (ys : List Int) (i : Nat) : ShL ys ys i i := ⟨rfl, fun p => by rw [if_neg (by omega)]⟩
theorem getD_set {f : List Int} {i j : Nat} {v : Int} (h : i < f.length) : (f.set i v).getD j 0 = if j = i then v else f.getD j 0 := by
  by_cases e : j = i
  · subst e; rw [if_pos rfl]; simp [List.getD, h]
  · rw [if_neg e]; simp only [List.getD, List.getElem?_set_ne (Ne.symm e)]
theorem shL_step {ys zs : List Int} {i k : Nat} (h : ShL ys zs i k) (hk : 0 < k) (hki : k ≤ i) (hi : i < ys.length) : ShL ys (zs.set k (zs.getD (k - 1) 0)) i (k - 1) := by
  refine ⟨by rw [List.length_set]; exact h.1, fun p => ?_⟩
  rw [getD_set (by have := h.1; omega)]
  by_cases e : p = k
  · subst e
    rw [if_pos rfl, if_pos (by omega), h.2, if_neg (by omega)]
  · rw [if_neg e, h.2]
    by_cases e2 : k < p ∧ p ≤ i
    · rw [if_pos e2, if_pos (by omega)]
    · rw [if_neg e2, if_neg (by omega)]
theorem shL_bub {ys zs : List Int} {i k : Nat} (h : ShL ys zs i k) (hki : k ≤ i) (hi : i < ys.length) : BubL ys (zs.set k (ys.getD i 0)) i k := fun p => by
  rw [getD_set (by have := h.1; omega)]
  by_cases e : p = k
  · rw [if_pos e, if_pos e]
  · rw [if_neg e, if_neg e, h.2]
theorem bubL_perm {ys zs : List Int} {i k : Nat} (h : BubL ys zs i k) (hl : zs.length = ys.length) (hki : k ≤ i) (hi : i < ys.length) : zs.Perm ys := by
  have e : zs = carried ys i 1 k := by
    refine list_ext' (d := 0) (by rw [hl, carried_len (by omega) (by omega)]) (fun p hp => ?_)
    rw [h p]
    have hr1 : (ys.take i ++ ys.drop (i + 1)).length = ys.length - 1 := by simp only [List.length_append, List.length_take, List.length_drop]; omega
    have hrg : ∀ q, q < i → (ys.take i ++ ys.drop (i + 1))[q]? = ys[q]? := fun q hq => by
      rw [List.getElem?_append_left (by rw [List.length_take]; omega), List.getElem?_take, if_pos hq]
    have hrg2 : ∀ q, i ≤ q → (ys.take i ++ ys.drop (i + 1))[q]? = ys[q + 1]? := fun q hq => by
      rw [List.getElem?_append_right (by rw [List.length_take]; omega), List.length_take, List.getElem?_drop]
      congr 1
      omega
    have hc : ((ys.take i ++ ys.drop (i + 1)).take k).length = k := by rw [List.length_take]; omega
    have hd : ((ys.drop i).take 1).length = 1 := by rw [List.length_take, List.length_drop]; omega
    unfold carried
    simp only [List.getD]
    by_cases a1 : p = k
    · subst a1
      rw [if_pos rfl, List.append_assoc, List.getElem?_append_right (by omega), hc, Nat.sub_self, List.getElem?_append_left (by omega), List.getElem?_take, if_pos (by omega), List.getElem?_drop, Nat.add_zero]
    · rw [if_neg a1]
      by_cases a2 : p < k
      · rw [if_neg (by omega), List.append_assoc, List.getElem?_append_left (by omega), List.getElem?_take, if_pos a2, hrg p (by omega)]
      · rw [List.getElem?_append_right (by rw [List.length_append]; omega), List.length_append, hc, hd, List.getElem?_drop]
        by_cases a3 : p ≤ i
        · rw [if_pos (by omega), hrg _ (by omega)]
          congr 2
          omega
        · rw [if_neg (by omega), hrg2 _ (by omega)]
          congr 2
          omega
  rw [e]
  exact carried_perm _ _ _ _
structure RoundL (k0 : Nat) (at_ : Nat) (now : Nd) (B R : BS) : Prop where
  hd : R.1[at_]? = some now
  le : R.1.length ≤ 46656
  ok : ∀ x ∈ R.1, okN k0 x
  st : R.2 now = B.2 now
theorem roundL {k0 : Nat} (hk : k0 ≤ 6) {s0 : Nd} (h0 : okN k0 s0) {at_ : Nat} (hat : at_ < (bfs (blks k0) s0 at_).1.length) {now : Nd} (hnow : (bfs (blks k0) s0 at_).1.getD at_ [] = now) (L : List B3) (hL : ∀ b ∈ L, b ∈ blks k0) :
    RoundL k0 at_ now (bfs (blks k0) s0 at_) (runB now (bfs (blks k0) s0 at_) L) := by
  have hr := bfs_ri (blks k0) s0 at_
  have ha : (bfs (blks k0) s0 at_).1[at_]? = some now := by rw [← hnow]; simp [List.getD, hat]
  have h1 : MI (blks k0) s0 at_ now [] (bfs (blks k0) s0 at_) := ⟨hr.bi, ha, hr.top _ ha, hr.closed, fun b hb => by cases hb⟩
  have h2 := MI.run L h1 hL
  have hs := (hr.bi.mem now).2 (List.mem_of_getElem? ha)
  obtain ⟨v, hv⟩ := Option.isSome_iff_exists.1 hs
  exact ⟨h2.at_, queue_le hk h0 h2.bi, fun x hx => okN_perm h0 (h2.bi.perm x hx), by rw [hv]; exact (runB_ext now L _).2 _ _ hv⟩
def pre3 (n f c t : Nat) : List B3 := blkF n f ++ blkC n f c ++ blkT f c t
theorem pre3_mem {n f c t : Nat} (hf : f ≤ n) (hc : c ≤ n - f) (ht : t = 0 ∨ (f < n ∧ c < n - f ∧ t ≤ n - (c + 1) + 1)) : ∀ b ∈ pre3 n f c t, b ∈ blks n := by
  rintro ⟨f', c', t'⟩ hb
  rw [mem_blks]
  simp only [pre3, List.mem_append, blkF, blkC, blkT, List.mem_flatMap, List.mem_range, List.mem_map, Prod.mk.injEq] at hb
  rcases hb with (⟨a, h1, b, h2, d, h3, rfl, rfl, rfl⟩ | ⟨b, h2, d, h3, rfl, rfl, rfl⟩) | ⟨d, h3, rfl, rfl, rfl⟩
  · omega
  · omega
  · omega
theorem pre3_t (n f c t : Nat) : pre3 n f c (t + 1) = pre3 n f c t ++ [(f, c + 1, t)] := by simp only [pre3, blkT_succ, List.append_assoc]
theorem pre3_c (n f c : Nat) : pre3 n f (c + 1) 0 = pre3 n f c (n - (c + 1) + 1) := by simp only [pre3, blkC_succ, blkT, List.range_zero, List.map_nil, List.append_nil, List.append_assoc]
theorem pre3_f (n f : Nat) : pre3 n (f + 1) 0 0 = pre3 n f (n - f) 0 := by simp only [pre3, blkF_succ, blkC, blkT, List.range_zero, List.flatMap_nil, List.map_nil, List.append_nil]
theorem pre3_0 (n : Nat) : pre3 n 0 0 0 = [] := rfl
theorem pre3_all (n : Nat) : pre3 n n 0 0 = blks n := by simp only [pre3, blks, blkC, blkT, List.range_zero, List.flatMap_nil, List.map_nil, List.append_nil]
theorem runB_snoc (now : Nd) (s : BS) (L : List B3) (b : B3) : runB now s (L ++ [b]) = bstep now (runB now s L) b := by simp [runB]
theorem bfs_next' {k0 : Nat} {s0 now : Nd} {at_ : Nat} (hat : at_ < (bfs (blks k0) s0 at_).1.length) (hnow : (bfs (blks k0) s0 at_).1.getD at_ [] = now) : runB now (bfs (blks k0) s0 at_) (pre3 k0 k0 0 0) = bfs (blks k0) s0 (at_ + 1) := by
  rw [pre3_all]
  show _ = bround _ _ _
  rw [bround, if_pos hat, hnow]
theorem obk_ss (h n : Nat) (t : TypeId) (b : Bool) (xs : List (List Int)) : Ob.kill h ⟨t, n, b, i64ss xs⟩ = ⟨t, n, b, i64ss xs⟩ := by
  unfold Ob.kill
  split
  · congr 1
    show (i64ss xs).map _ = _
    rw [i64ss, List.map_map]
    rfl
  · rfl
theorem kill_ss (h : Nat) (xs : List (List Int)) : (i64ss xs).map (fun x => x.map (killC h)) = i64ss xs := by
  rw [i64ss, List.map_map]
  rfl
theorem frz_ss (h sz n : Nat) (ys : List (List D)) (t : TypeId) (b : Bool) (xs : List (List Int)) : frzO h sz ys ⟨t, n, b, i64ss xs⟩ = ⟨t, n, b, i64ss xs⟩ := by
  unfold frzO
  split
  · congr 1
    show (i64ss xs).map _ = _
    rw [i64ss, List.map_map]
    rfl
  · rfl
theorem i64ss_app1 (a : List (List Int)) (b : List Int) : i64ss (a ++ [b]) = i64ss a ++ [[.sl 1 (i64s b)]] := by simp

noncomputable abbrev s_S_l03Far : Spec Nd where
  args := fun x => [.sl 1 (i64s x)]
  pre := fun x => okN x.length x ∧ x.length ≤ 6
  new := fun x => [⟨33, 1, false, ints .i8 (farC x.length (endB x.length (sortI x)).2)⟩]
  res := fun x => .own 0

set_option maxRecDepth 20000 in
set_option maxHeartbeats 16000000 in
theorem ok_S_l03Far : FnOk Pr 27 s_S_l03Far := by
 refine fn_ok0 1 T0_ok Go.Proofs.Tryz.func27 rfl (enters_of Go.Proofs.Tryz.func27 rfl rfl) (fun _ => rfl) (fun _ => rfl) (fun _ => rfl) ?_
 rintro x ⟨hokx, hk6⟩ C hP hN hm hG hS0
 change awp C _ _ ⟨[(0, .sl 1 (i64s x))], [], 0⟩
 have hsl0 := sortI_len x
 obtain ⟨k0, hk0⟩ : ∃ k, x.length = k := ⟨_, rfl⟩
 have h0' := okN_sort hokx
 rw [hk0] at hk6 hokx hsl0 h0'
 obtain ⟨s0, hs0⟩ : ∃ s, sortI x = s := ⟨_, rfl⟩
 have h0 : okN k0 s0 := hs0 ▸ h0'
 have hfr := farC_none k0 (Int.toNat 46656) rfl
 have hfl := farC_len k0 (fun _ => none)
 have hc0s := code6_lt hk6 h0
 have hLb := len_blks hk6
 have xn1 := And.intro @i64s_set (And.intro @tn1 (And.intro @natsub1 (And.intro @natadd1 (And.intro @wI8' (And.intro @ints_set (hk0))))))
 refine awp_seq ?_
 refine r1 T0_ok hP hm hN ?_
 refine g1 ?_
 refine awp_seq ?_
 refine r1 T0_ok hP hm hN ?_
 refine g1 ?_ (hpre := by exact ⟨rfl, by omega, by decide, by decide, by decide, by decide⟩) (hst := by simp +decide (disch := omega) only [nrm, lk_nrm, dc_nrm, mk_nrm, mf_nrm, ti_nrm, ls_nrm, mp_nrm, nb_nrm, hset, pick_and, pick_or, ↓reduceIte, Nat.reduceAdd, wI64, wI32, wI16, wI8, wU8, List.length_map, Int.toNat_natCast, xn1, xn2, ints_rep8, hfr]; rfl)
 refine g1 ?_
 refine awp_seq ?_
 refine r1 T0_ok hP hm hN ?_
 iterate 2 refine g1 ?_
 refine ga1 ?_
 refine g1 ?_
 refine awp_seq ?_
 refine awp_seq ?_
 refine r1 T0_ok hP hm hN ?_
 refine g1 ?_
 refine awp_block ?_
 refine awp_loop (fun n st => ∃ (i : Nat) (ys : List Int), 1 ≤ i ∧ (i ≤ k0 ∨ i = 1) ∧ ys.Perm x ∧ UpI ys i ∧ n = k0 - i ∧ st = ⟨[(5, .val (.int .i64 ((i : Nat) : Int))), (4, .own 1), (3, .own 0)], [(1, ⟨2, 1, false, i64s ys⟩), (0, ⟨33, 1, false, ints .i8 (farC k0 (fun _ => none))⟩)], 2⟩) (k0 - 1) ⟨_, Weak.trans (weak_drop 2) (Weak.trans (weak_nx (nx' := 2) (by omega) (by rfl)) (weak_sl (sub_cons rfl (sub_cons rfl (sub_cons rfl (sub_nil)))))), 1, x, Nat.le_refl _, .inr rfl, .refl _, fun p q a1 a2 => by omega, rfl, rfl⟩ ?_
 rintro n st ⟨i, ys, hi1, hi2, hsg, hsd, hni, rfl⟩
 have hyl : ys.length = k0 := by rw [hsg.length_eq, hk0]
 refine awp_seq ?_
 refine awp_seq ?_
 refine r1 T0_ok hP hm hN ?_
 refine g1 ?_ (hst := by simp +decide (disch := omega) only [nrm, lk_nrm, dc_nrm, mk_nrm, mf_nrm, ti_nrm, ls_nrm, mp_nrm, nb_nrm, hset, pick_and, pick_or, ↓reduceIte, Nat.reduceAdd, wI64, wI32, wI16, wI8, wU8, List.length_map, Int.toNat_natCast, xn1, xn2, List.all_nil, Bool.not_true]; rfl)
 iterate 3 refine g1 ?_
 refine awp_cond rfl (fun hc0 => ?_) (fun hc0 => ?_)
 ·
  have hlti : i < k0 := by simp at hc0; omega
  refine awp_skip ?_
  refine awp_seq ?_
  refine awp_block ?_
  refine awp_seq ?_
  refine r1 T0_ok hP hm hN ?_
  iterate 5 refine g1 ?_
  refine awp_seq ?_
  refine r1 T0_ok hP hm hN ?_
  iterate 2 refine g1 ?_
  refine awp_seq ?_
  refine awp_block ?_
  refine awp_loop (fun n st => ∃ (j : Nat) (zs : List Int), j ≤ i ∧ ShL ys zs i j ∧ (∀ p, j ≤ p → p < i → ys.getD i 0 < ys.getD p 0) ∧ n = j ∧ st = ⟨[(7, .val (.int .i64 ((j : Nat) : Int))), (6, .val (.int .i64 (ys.getD i 0))), (5, .val (.int .i64 ((i : Nat) : Int))), (4, .own 1), (3, .own 0)], [(1, ⟨2, 1, false, i64s zs⟩), (0, ⟨33, 1, false, ints .i8 (farC k0 (fun _ => none))⟩)], 2⟩) i ⟨_, weak_sl (sub_cons rfl (sub_cons rfl (sub_cons rfl (sub_cons rfl (sub_cons rfl (sub_nil)))))), i, ys, Nat.le_refl _, shL_0 ys i, fun p h1 h2 => by omega, rfl, rfl⟩ ?_
  rintro n st ⟨j, zs, hji, hz, hgt, hni2, rfl⟩
  have hzl := hz.1
  refine awp_seq ?_
  refine awp_seq ?_
  refine r1 T0_ok hP hm hN ?_
  iterate 3 refine g1 ?_
  iterate 4 refine gg1 ?_
  refine gg1 ?_ (hs := by intro hb; simp +decide only [hb, gd_tt, gd_ff, beq_self_eq_true, Bool.true_and, beq_true]; exact ⟨_, by first | rfl | exact astep_load_r (by rfl) (by rfl) (by exact i64s_get _ _ (by omega)) (by rfl) | exact astep_load_r (by rfl) (by rfl) (by first | exact bks_get _ _ (by omega) | exact pls_get _ _ (by omega) | exact ints_get _ _ _ (by omega) | exact boolD_get _ _ (by omega) | exact i64ss_get _ _ (by omega) | assumption) (by rfl) | exact astep_store_p (by rfl) (by rfl) (by rfl) (by rfl) (by exact i64s_get _ _ (by omega)), by exact ⟨rfl, (by simp at hb; omega), by (try simp only [List.length_map]); omega⟩⟩)
  iterate 2 refine gg1 ?_
  refine g1 ?_
  refine awp_cond rfl (fun hc1 => ?_) (fun hc1 => ?_)
  ·
   simp only [Bool.and_eq_true, decide_eq_true_eq] at hc1
   have hjp : 0 < j := by omega
   have hzj1 : zs.getD (j - 1) 0 = ys.getD (j - 1) 0 := by rw [hz.2, if_neg (by omega)]
   have hcj : ys.getD i 0 < ys.getD (j - 1) 0 := by
     have h := hc1.2
     rw [hzj1] at h
     exact h
   have hgt2 : ∀ p, j - 1 ≤ p → p < i → ys.getD i 0 < ys.getD p 0 := fun p h1 h2 => by
     by_cases e : p = j - 1
     · rw [e]; exact hcj
     · exact hgt p (by omega) h2
   refine awp_skip ?_
   refine awp_block ?_
   refine awp_seq ?_
   refine r1 T0_ok hP hm hN ?_
   iterate 9 refine g1 ?_
   refine r1 T0_ok hP hm hN ?_
   iterate 3 refine g1 ?_
   refine ⟨j - 1, _, by omega, weak_sl (sub_cons rfl (sub_cons rfl (sub_cons rfl (sub_cons rfl (sub_cons rfl (sub_nil)))))), j - 1, zs.set j (zs.getD (j - 1) 0), by omega, shL_step hz hjp hji (by omega), hgt2, rfl, rfl⟩
  ·
   have hstop : j = 0 ∨ ys.getD (j - 1) 0 ≤ ys.getD i 0 := by
     rcases Nat.eq_zero_or_pos j with h | h
     · exact .inl h
     · right
       have hzj1 : zs.getD (j - 1) 0 = ys.getD (j - 1) 0 := by rw [hz.2, if_neg (by omega)]
       rw [← hzj1]
       have : decide ((j : Int) > 0) = true := by simp; omega
       rw [this, Bool.true_and] at hc1
       simp only [decide_eq_false_iff_not] at hc1
       omega
   refine awp_exit ?_
   repeat refine thenA_exit ?_
   refine blockA_hit ?_
   refine r1 T0_ok hP hm hN ?_
   iterate 5 refine g1 ?_
   refine r1 T0_ok hP hm hN ?_
   iterate 3 refine g1 ?_
   have hbub := shL_bub hz hji (by omega)
   refine ⟨k0 - (i + 1), _, by omega, weak_sl (sub_cons rfl (sub_cons rfl (sub_cons rfl (sub_nil)))), i + 1, zs.set j (ys.getD i 0), by omega, .inl (by omega), (bubL_perm hbub (by rw [List.length_set]; exact hzl) hji (by omega)).trans hsg, upI_ins hsd hbub hji hgt hstop, rfl, rfl⟩
 ·
  have hgei : ¬ i < k0 := by simp at hc0; omega
  have hys : s0 = ys := by rw [← hs0]; exact sortI_eq hsg (hsd.all (by omega))
  subst hys
  have hsok : okN s0.length s0 := by rw [hyl]; exact h0
  have hset0 : (farC k0 (fun _ => none)).set (code6 s0).toNat 1 = farC k0 (bfs (blks k0) s0 0).2 := by
    have e := farC_set hk6 (fun _ => none) h0 0
    exact e.trans (congrArg (farC k0) (funext fun y => rfl))
  refine awp_exit ?_
  repeat refine thenA_exit ?_
  refine blockA_hit ?_
  refine awp_seq ?_
  refine r1 T0_ok hP hm hN ?_
  iterate 2 refine g1 ?_
  refine gc1 ?_ (call1 ok_S_l03Code _ [] (hpre := by (try dsimp only); exact ⟨by (try rw [hnl]); first | exact hokn | exact hsok | (rw [hnxl]; exact hoknx), by omega⟩))
  refine g1 ?_ (hpre := by exact ⟨rfl, by omega, by (simp only [List.length_map]; omega)⟩)
  refine g1 ?_ (hs := astep_store_p rfl rfl rfl rfl (show (ints .i8 (farC k0 (fun _ => none)))[(code6 s0).toNat]? = _ from ints_get _ _ _ (by omega))) (hpre := by exact ⟨rfl, rfl, (fun _ => rfl), Nat.le_refl 1, .inr rfl⟩) (hst := by simp +decide (disch := omega) only [nrm, lk_nrm, dc_nrm, mk_nrm, mf_nrm, ti_nrm, ls_nrm, mp_nrm, nb_nrm, hset, pick_and, pick_or, ↓reduceIte, Nat.reduceAdd, wI64, wI32, wI16, wI8, wU8, List.length_map, Int.toNat_natCast, xn1, xn2, hset0]; rfl)
  refine awp_seq ?_
  refine r1 T0_ok hP hm hN ?_
  iterate 3 refine g1 ?_
  refine awp_seq ?_
  refine awp_weak (show Weak C _ ⟨[(8, .own 2), (4, .sl 1 (i64s s0)), (3, .own 0)], [(2, ⟨55, 1, true, i64ss [s0]⟩), (0, ⟨33, 1, false, ints .i8 (farC k0 (bfs (blks k0) s0 0).2)⟩)], 3⟩ from Weak.trans (weak_frz 1 hS0 hG rfl (.inl rfl)) (Weak.trans (weak_nx (nx' := 3) (by omega) (by rfl)) (weak_sl (sub_cons rfl (sub_cons rfl (sub_cons rfl (sub_nil))))))) ?_
  refine r1 T0_ok hP hm hN ?_
  refine g1 ?_
  refine g1 ?_ (hst := by simp +decide (disch := omega) only [nrm, lk_nrm, dc_nrm, mk_nrm, mf_nrm, ti_nrm, ls_nrm, mp_nrm, nb_nrm, hset, pick_and, pick_or, ↓reduceIte, Nat.reduceAdd, wI64, wI32, wI16, wI8, wU8, List.length_map, Int.toNat_natCast, xn1, xn2, hyl]; rfl)
  refine g1 ?_
  refine awp_seq ?_
  refine awp_seq ?_
  refine r1 T0_ok hP hm hN ?_
  refine g1 ?_
  refine awp_block ?_
  refine awp_loop (fun n st => ∃ at_ : Nat, at_ ≤ (bfs (blks k0) s0 at_).1.length ∧ (bfs (blks k0) s0 at_).1.length ≤ 46656 ∧ n = 46656 - at_ ∧ st = ⟨[(10, .val (.int .i64 ((at_ : Nat) : Int))), (9, .val (.int .i64 ((k0 : Nat) : Int))), (8, .own 2), (3, .own 0)], [(2, ⟨55, 1, true, i64ss (bfs (blks k0) s0 at_).1⟩), (0, ⟨33, 1, false, ints .i8 (farC k0 (bfs (blks k0) s0 at_).2)⟩)], 3⟩) 46656 ⟨_, ?_, 0, Nat.zero_le _, (by show [s0].length ≤ _; simp), rfl, rfl⟩ ?_
  · exact weak_sl (sub_cons rfl (sub_cons rfl (sub_cons rfl (sub_cons rfl (sub_nil)))))
  rintro n st ⟨at_, hat, hq, hni, rfl⟩
  refine awp_seq ?_
  refine awp_seq ?_
  refine r1 T0_ok hP hm hN ?_
  iterate 4 refine g1 ?_
  refine awp_cond rfl (fun hc2 => ?_) (fun hc2 => ?_)
  ·
   have hatl : at_ < (bfs (blks k0) s0 at_).1.length := by simpa using hc2
   obtain ⟨now, hnow⟩ : ∃ x, (bfs (blks k0) s0 at_).1.getD at_ [] = x := ⟨_, rfl⟩
   have hRL0 := roundL hk6 h0 hatl hnow [] (fun b hb => by cases hb)
   have hnm : now ∈ (bfs (blks k0) s0 at_).1 := List.mem_of_getElem? hRL0.hd
   have hokn := hRL0.ok now hnm
   have hnl := hokn.1
   have hcn := code6_lt hk6 hokn
   have hsn := ((bfs_ri (blks k0) s0 at_).bi.mem now).2 hnm
   have hdl := dpt_le hk6 h0 (bfs_ext (blks k0) s0 (show at_ ≤ 46656 by omega)) hsn
   obtain ⟨v0, hv0⟩ := Option.isSome_iff_exists.1 hsn
   have hv6 : v0 ≤ k0 := by
     have e : dpt (bfs (blks k0) s0 at_) now = v0 := by rw [dpt, hv0]; rfl
     rw [← e]; exact hdl
   obtain ⟨stp, hstp⟩ : ∃ z, (farC k0 (bfs (blks k0) s0 at_).2).getD (code6 now).toNat 0 = z := ⟨_, rfl⟩
   have hstv : stp = (v0 : Int) + 1 := by rw [← hstp, farC_get hk6 _ hokn, hv0]; rfl
   have hfl := farC_len k0 (bfs (blks k0) s0 at_).2
   have hgq : (i64ss (bfs (blks k0) s0 at_).1)[at_]? = some [.sl 1 (i64s now)] := by rw [i64ss_get _ _ hatl, hnow]
   refine awp_skip ?_
   refine awp_seq ?_
   refine awp_block ?_
   refine awp_seq ?_
   refine r1 T0_ok hP hm hN ?_
   iterate 3 refine g1 ?_
   refine g1 ?_ (hst := by simp +decide (disch := omega) only [nrm, lk_nrm, dc_nrm, mk_nrm, mf_nrm, ti_nrm, ls_nrm, mp_nrm, nb_nrm, hset, pick_and, pick_or, ↓reduceIte, Nat.reduceAdd, wI64, wI32, wI16, wI8, wU8, List.length_map, Int.toNat_natCast, xn1, xn2, hnow]; rfl)
   refine g1 ?_
   refine awp_seq ?_
   refine r1 T0_ok hP hm hN ?_
   iterate 2 refine g1 ?_
   refine gc1 ?_ (call1 ok_S_l03Code _ [] (hpre := by (try dsimp only); exact ⟨by (try rw [hnl]); first | exact hokn | exact hsok | (rw [hnxl]; exact hoknx), by omega⟩))
   refine g1 ?_ (hpre := by exact ⟨rfl, by omega, by (simp only [List.length_map]; omega)⟩)
   refine g1 ?_ (hst := by simp +decide (disch := omega) only [nrm, lk_nrm, dc_nrm, mk_nrm, mf_nrm, ti_nrm, ls_nrm, mp_nrm, nb_nrm, hset, pick_and, pick_or, ↓reduceIte, Nat.reduceAdd, wI64, wI32, wI16, wI8, wU8, List.length_map, Int.toNat_natCast, xn1, xn2, hstp]; rfl)
   refine g1 ?_
   refine awp_seq ?_
   refine r1 T0_ok hP hm hN ?_
   refine g1 ?_
   refine awp_block ?_
   refine awp_loop (fun n st => ∃ f : Nat, f ≤ k0 ∧ n = k0 - f ∧ st = ⟨[(13, .val (.int .i64 ((f : Nat) : Int))), (12, .val (.int .i8 stp)), (11, .sl 1 (i64s now)), (10, .val (.int .i64 ((at_ : Nat) : Int))), (9, .val (.int .i64 ((k0 : Nat) : Int))), (8, .own 2), (3, .own 0)], [(2, ⟨55, 1, true, i64ss (runB now (bfs (blks k0) s0 at_) (pre3 k0 f 0 0)).1⟩), (0, ⟨33, 1, false, ints .i8 (farC k0 (runB now (bfs (blks k0) s0 at_) (pre3 k0 f 0 0)).2)⟩)], 3⟩) (k0) ⟨_, (by rw [pre3_0]; exact weak_sl (sub_cons rfl (sub_cons rfl (sub_cons rfl (sub_cons rfl (sub_cons rfl (sub_cons rfl (sub_cons rfl (sub_nil))))))))), 0, Nat.zero_le _, rfl, rfl⟩ ?_
   rintro n st ⟨f, hif, hnf, rfl⟩
   have hRL := roundL hk6 h0 hatl hnow (pre3 k0 f 0 0) (pre3_mem hif (Nat.zero_le _) (.inl rfl))
   refine awp_seq ?_
   refine awp_seq ?_
   refine r1 T0_ok hP hm hN ?_
   iterate 3 refine g1 ?_
   refine awp_cond rfl (fun hc3 => ?_) (fun hc3 => ?_)
   ·
    have hltf : f < k0 := by simpa using hc3
    refine awp_skip ?_
    refine awp_seq ?_
    refine awp_block ?_
    refine awp_seq ?_
    refine r1 T0_ok hP hm hN ?_
    refine g1 ?_
    refine awp_block ?_
    refine awp_loop (fun n st => ∃ c : Nat, c ≤ (k0 - f) ∧ n = (k0 - f) - c ∧ st = ⟨[(14, .val (.int .i64 (((c + 1) : Nat) : Int))), (13, .val (.int .i64 ((f : Nat) : Int))), (12, .val (.int .i8 stp)), (11, .sl 1 (i64s now)), (10, .val (.int .i64 ((at_ : Nat) : Int))), (9, .val (.int .i64 ((k0 : Nat) : Int))), (8, .own 2), (3, .own 0)], [(2, ⟨55, 1, true, i64ss (runB now (bfs (blks k0) s0 at_) (pre3 k0 f c 0)).1⟩), (0, ⟨33, 1, false, ints .i8 (farC k0 (runB now (bfs (blks k0) s0 at_) (pre3 k0 f c 0)).2)⟩)], 3⟩) ((k0 - f)) ⟨_, weak_sl (sub_cons rfl (sub_cons rfl (sub_cons rfl (sub_cons rfl (sub_cons rfl (sub_cons rfl (sub_cons rfl (sub_cons rfl (sub_nil))))))))), 0, Nat.zero_le _, rfl, rfl⟩ ?_
    rintro n st ⟨c, hic, hnc, rfl⟩
    refine awp_seq ?_
    refine awp_seq ?_
    refine r1 T0_ok hP hm hN ?_
    iterate 5 refine g1 ?_
    refine awp_cond rfl (fun hc4 => ?_) (fun hc4 => ?_)
    ·
     have hltc : c < k0 - f := by simp at hc4; omega
     refine awp_skip ?_
     refine awp_seq ?_
     refine awp_block ?_
     refine awp_seq ?_
     refine r1 T0_ok hP hm hN ?_
     refine g1 ?_
     refine awp_block ?_
     refine awp_loop (fun n st => ∃ t : Nat, t ≤ (k0 - (c + 1) + 1) ∧ n = (k0 - (c + 1) + 1) - t ∧ st = ⟨[(15, .val (.int .i64 ((t : Nat) : Int))), (14, .val (.int .i64 (((c + 1) : Nat) : Int))), (13, .val (.int .i64 ((f : Nat) : Int))), (12, .val (.int .i8 stp)), (11, .sl 1 (i64s now)), (10, .val (.int .i64 ((at_ : Nat) : Int))), (9, .val (.int .i64 ((k0 : Nat) : Int))), (8, .own 2), (3, .own 0)], [(2, ⟨55, 1, true, i64ss (runB now (bfs (blks k0) s0 at_) (pre3 k0 f c t)).1⟩), (0, ⟨33, 1, false, ints .i8 (farC k0 (runB now (bfs (blks k0) s0 at_) (pre3 k0 f c t)).2)⟩)], 3⟩) ((k0 - (c + 1) + 1)) ⟨_, weak_sl (sub_cons rfl (sub_cons rfl (sub_cons rfl (sub_cons rfl (sub_cons rfl (sub_cons rfl (sub_cons rfl (sub_cons rfl (sub_cons rfl (sub_nil)))))))))), 0, Nat.zero_le _, rfl, rfl⟩ ?_
     rintro n st ⟨t, hit, hnt, rfl⟩
     refine awp_seq ?_
     refine awp_seq ?_
     refine r1 T0_ok hP hm hN ?_
     iterate 5 refine g1 ?_
     refine awp_cond rfl (fun hc5 => ?_) (fun hc5 => ?_)
     ·
      have hltt : t < k0 - (c + 1) + 1 := by simp at hc5; omega
      have hRt := roundL hk6 h0 hatl hnow (pre3 k0 f c t) (pre3_mem (by omega) (by omega) (.inr ⟨by omega, by omega, by omega⟩))
      have hbm : (f, c + 1, t) ∈ blks k0 := mem_blks.2 ⟨by omega, by omega, by omega⟩
      have hoknx : okN k0 (mvN now (f, c + 1, t)) := okN_perm hokn (carried_perm _ _ _ _)
      have hnxl := hoknx.1
      have hcx := code6_lt hk6 hoknx
      obtain ⟨Q, hQq⟩ : ∃ r, runB now (bfs (blks k0) s0 at_) (pre3 k0 f c t) = r := ⟨_, rfl⟩
      have hfl := farC_len k0 Q.2
      have hql : Q.1.length ≤ 46656 := by rw [← hQq]; exact hRt.le
      have hst2 : Q.2 now = some v0 := by rw [← hQq, hRt.st]; exact hv0
      have hfg := farC_get hk6 Q.2 hoknx
      rw [hQq]
      refine awp_skip ?_
      refine awp_seq ?_
      refine awp_block ?_
      refine awp_seq ?_
      refine r1 T0_ok hP hm hN ?_
      iterate 4 refine g1 ?_
      refine gc1 ?_ (call1 ok_S_l03Shift (now, f, c + 1, t) [] (hpre := by (try dsimp only); exact ⟨by omega, by omega, by omega⟩) (hfo := by exact fm_cons (flat_i64s _ _ _ _) fm_nil))
      refine g1 ?_
      refine awp_seq ?_
      refine awp_weak (show Weak C _ ⟨[(16, .sl 1 (i64s (mvN now (f, c + 1, t)))), (15, .val (.int .i64 ((t : Nat) : Int))), (14, .val (.int .i64 (((c + 1) : Nat) : Int))), (13, .val (.int .i64 ((f : Nat) : Int))), (12, .val (.int .i8 stp)), (11, .sl 1 (i64s now)), (10, .val (.int .i64 ((at_ : Nat) : Int))), (9, .val (.int .i64 ((k0 : Nat) : Int))), (8, .own 2), (3, .own 0)], [(2, ⟨55, 1, true, i64ss Q.1⟩), (0, ⟨33, 1, false, ints .i8 (farC k0 Q.2)⟩)], 3⟩ from Weak.trans (weak_frz 3 hS0 hG rfl (.inl rfl)) (show Weak C ⟨_, [(2, frzO 3 _ _ ⟨55, 1, true, i64ss Q.1⟩), (0, ⟨33, 1, false, ints .i8 (farC k0 Q.2)⟩)], _⟩ _ from by rw [frz_ss]; exact Weak.trans (weak_nx (nx' := 3) (by omega) (by rfl)) (weak_sl (sub_cons rfl (sub_cons rfl (sub_cons rfl (sub_cons rfl (sub_cons rfl (sub_cons rfl (sub_cons rfl (sub_cons rfl (sub_cons rfl (sub_cons rfl (sub_nil)))))))))))))) ?_
      refine r1 T0_ok hP hm hN ?_
      refine g1 ?_
      refine gc1 ?_ (call1 ok_S_l03Code _ [] (hpre := by (try dsimp only); exact ⟨by (try rw [hnl]); first | exact hokn | exact hsok | (rw [hnxl]; exact hoknx), by omega⟩))
      refine g1 ?_
      refine awp_seq ?_
      refine r1 T0_ok hP hm hN ?_
      iterate 2 refine g1 ?_
      refine g1 ?_ (hpre := by exact ⟨rfl, by omega, by (simp only [List.length_map]; omega)⟩)
      refine g1 ?_ (hst := by simp +decide (disch := omega) only [nrm, lk_nrm, dc_nrm, mk_nrm, mf_nrm, ti_nrm, ls_nrm, mp_nrm, nb_nrm, hset, pick_and, pick_or, ↓reduceIte, Nat.reduceAdd, wI64, wI32, wI16, wI8, wU8, List.length_map, Int.toNat_natCast, xn1, xn2, hfg]; rfl)
      refine g1 ?_
      refine awp_cond rfl (fun hc6 => ?_) (fun hc6 => ?_)
      ·
       have hnone : (Q.2 (mvN now (f, c + 1, t))) = none := by
         cases e : Q.2 (mvN now (f, c + 1, t)) with
         | none => rfl
         | some v => rw [e] at hc6; simp [fv] at hc6; omega
       have hbs : bstep now Q (f, c + 1, t) = (Q.1 ++ [mvN now (f, c + 1, t)], updN Q.2 (mvN now (f, c + 1, t)) (v0 + 1)) := by rw [bstep_new (by rw [hnone]; rfl), hst2]; rfl
       have hset := farC_set hk6 Q.2 hoknx (v0 + 1)
       have hstq : stp + 1 = (((v0 + 1 : Nat)) : Int) + 1 := by rw [hstv]; rfl
       have hset2 : (farC k0 Q.2).set (code6 (mvN now (f, c + 1, t))).toNat (stp + 1) = farC k0 (updN Q.2 (mvN now (f, c + 1, t)) (v0 + 1)) := by rw [hstq]; exact hset
       refine awp_seq ?_
       refine r1 T0_ok hP hm hN ?_
       iterate 4 refine g1 ?_
       refine g1 ?_ (hpre := by exact ⟨rfl, by omega, by (simp only [List.length_map]; omega)⟩)
       refine g1 ?_ (hs := astep_store_p rfl rfl rfl rfl (show (ints .i8 (farC k0 Q.2))[(code6 (mvN now (f, c + 1, t))).toNat]? = _ from ints_get _ _ _ (by omega))) (hpre := by exact ⟨rfl, rfl, (fun _ => rfl), Nat.le_refl 1, .inr rfl⟩) (hst := by simp +decide (disch := omega) only [nrm, lk_nrm, dc_nrm, mk_nrm, mf_nrm, ti_nrm, ls_nrm, mp_nrm, nb_nrm, hset, pick_and, pick_or, ↓reduceIte, Nat.reduceAdd, wI64, wI32, wI16, wI8, wU8, List.length_map, Int.toNat_natCast, xn1, xn2, hset2]; rfl)
       refine r1 T0_ok hP hm hN ?_
       iterate 3 refine g1 ?_
       refine ga1 ?_
       refine g1 ?_
       refine r1 T0_ok hP hm hN ?_
       iterate 3 refine g1 ?_
       first
         | exact ⟨k0 - (c + 1) + 1 - (t + 1), ⟨[(15, .val (.int .i64 (((t + 1) : Nat) : Int))), (14, .val (.int .i64 (((c + 1) : Nat) : Int))), (13, .val (.int .i64 ((f : Nat) : Int))), (12, .val (.int .i8 stp)), (11, .sl 1 (i64s now)), (10, .val (.int .i64 ((at_ : Nat) : Int))), (9, .val (.int .i64 ((k0 : Nat) : Int))), (8, .own 2), (3, .own 0)], [(2, ⟨55, 1, true, i64ss (runB now (bfs (blks k0) s0 at_) (pre3 k0 f c (t + 1))).1⟩), (0, ⟨33, 1, false, ints .i8 (farC k0 (runB now (bfs (blks k0) s0 at_) (pre3 k0 f c (t + 1))).2)⟩)], 3⟩, by omega, (by rw [pre3_t, runB_snoc, hQq, hbs]; exact weak_sl (sub_cons rfl (sub_cons rfl (sub_cons rfl (sub_cons rfl (sub_cons rfl (sub_cons rfl (sub_cons rfl (sub_cons rfl (sub_cons rfl (sub_nil))))))))))), t + 1, by omega, rfl, rfl⟩
         | exact ⟨k0 - (c + 1) + 1 - (t + 1), ⟨[(15, .val (.int .i64 (((t + 1) : Nat) : Int))), (14, .val (.int .i64 (((c + 1) : Nat) : Int))), (13, .val (.int .i64 ((f : Nat) : Int))), (12, .val (.int .i8 stp)), (11, .sl 1 (i64s now)), (10, .val (.int .i64 ((at_ : Nat) : Int))), (9, .val (.int .i64 ((k0 : Nat) : Int))), (8, .own 2), (3, .own 0)], [(2, ⟨55, 1, true, i64ss (runB now (bfs (blks k0) s0 at_) (pre3 k0 f c (t + 1))).1⟩), (0, ⟨33, 1, false, ints .i8 (farC k0 (runB now (bfs (blks k0) s0 at_) (pre3 k0 f c (t + 1))).2)⟩)], 3⟩, by omega, (by
             rw [pre3_t, runB_snoc, hQq, hbs]
             dsimp only
             simp only [kill_ss, ← i64ss_app1]
             refine Weak.trans (weak_drop 3) (Weak.trans (weak_nx (nx' := 3) (by omega) (by rfl)) ?_)
             show Weak C ⟨_, [(2, Ob.kill 3 ⟨55, 1, true, i64ss (Q.1 ++ [mvN now (f, c + 1, t)])⟩), (0, ⟨33, 1, false, ints .i8 (farC k0 (updN Q.2 (mvN now (f, c + 1, t)) (v0 + 1)))⟩)], 3⟩ _
             rw [obk_ss]
             exact weak_sl (sub_cons rfl (sub_cons rfl (sub_cons rfl (sub_cons rfl (sub_cons rfl (sub_cons rfl (sub_cons rfl (sub_cons rfl (sub_cons rfl (sub_nil))))))))))), t + 1, by omega, rfl, rfl⟩
      ·
       have hbs : bstep now Q (f, c + 1, t) = Q := bstep_old (by
         cases e : Q.2 (mvN now (f, c + 1, t)) with
         | none => rw [e] at hc6; simp [fv] at hc6
         | some v => rfl)
       refine awp_skip ?_
       refine r1 T0_ok hP hm hN ?_
       iterate 3 refine g1 ?_
       first
         | exact ⟨k0 - (c + 1) + 1 - (t + 1), ⟨[(15, .val (.int .i64 (((t + 1) : Nat) : Int))), (14, .val (.int .i64 (((c + 1) : Nat) : Int))), (13, .val (.int .i64 ((f : Nat) : Int))), (12, .val (.int .i8 stp)), (11, .sl 1 (i64s now)), (10, .val (.int .i64 ((at_ : Nat) : Int))), (9, .val (.int .i64 ((k0 : Nat) : Int))), (8, .own 2), (3, .own 0)], [(2, ⟨55, 1, true, i64ss (runB now (bfs (blks k0) s0 at_) (pre3 k0 f c (t + 1))).1⟩), (0, ⟨33, 1, false, ints .i8 (farC k0 (runB now (bfs (blks k0) s0 at_) (pre3 k0 f c (t + 1))).2)⟩)], 3⟩, by omega, (by rw [pre3_t, runB_snoc, hQq, hbs]; exact weak_sl (sub_cons rfl (sub_cons rfl (sub_cons rfl (sub_cons rfl (sub_cons rfl (sub_cons rfl (sub_cons rfl (sub_cons rfl (sub_cons rfl (sub_nil))))))))))), t + 1, by omega, rfl, rfl⟩
         | exact ⟨k0 - (c + 1) + 1 - (t + 1), ⟨[(15, .val (.int .i64 (((t + 1) : Nat) : Int))), (14, .val (.int .i64 (((c + 1) : Nat) : Int))), (13, .val (.int .i64 ((f : Nat) : Int))), (12, .val (.int .i8 stp)), (11, .sl 1 (i64s now)), (10, .val (.int .i64 ((at_ : Nat) : Int))), (9, .val (.int .i64 ((k0 : Nat) : Int))), (8, .own 2), (3, .own 0)], [(2, ⟨55, 1, true, i64ss (runB now (bfs (blks k0) s0 at_) (pre3 k0 f c (t + 1))).1⟩), (0, ⟨33, 1, false, ints .i8 (farC k0 (runB now (bfs (blks k0) s0 at_) (pre3 k0 f c (t + 1))).2)⟩)], 3⟩, by omega, (by
             rw [pre3_t, runB_snoc, hQq, hbs]
             dsimp only
             simp only [kill_ss, ← i64ss_app1]
             refine Weak.trans (weak_drop 3) (Weak.trans (weak_nx (nx' := 3) (by omega) (by rfl)) ?_)
             show Weak C ⟨_, [(2, Ob.kill 3 ⟨55, 1, true, i64ss (Q.1 ++ [mvN now (f, c + 1, t)])⟩), (0, ⟨33, 1, false, ints .i8 (farC k0 (updN Q.2 (mvN now (f, c + 1, t)) (v0 + 1)))⟩)], 3⟩ _
             rw [obk_ss]
             exact weak_sl (sub_cons rfl (sub_cons rfl (sub_cons rfl (sub_cons rfl (sub_cons rfl (sub_cons rfl (sub_cons rfl (sub_cons rfl (sub_cons rfl (sub_nil))))))))))), t + 1, by omega, rfl, rfl⟩
     ·
      have heqt : t = k0 - (c + 1) + 1 := by simp at hc5; omega
      refine awp_exit ?_
      repeat refine thenA_exit ?_
      refine blockA_hit ?_
      refine r1 T0_ok hP hm hN ?_
      iterate 3 refine g1 ?_
      refine ⟨k0 - f - (c + 1), _, by omega, (by rw [pre3_c, ← heqt]; exact weak_sl (sub_cons rfl (sub_cons rfl (sub_cons rfl (sub_cons rfl (sub_cons rfl (sub_cons rfl (sub_cons rfl (sub_cons rfl (sub_nil)))))))))), c + 1, by omega, rfl, rfl⟩
    ·
     have heqc : c = k0 - f := by simp at hc4; omega
     refine awp_exit ?_
     repeat refine thenA_exit ?_
     refine blockA_hit ?_
     refine r1 T0_ok hP hm hN ?_
     iterate 3 refine g1 ?_
     refine ⟨k0 - (f + 1), _, by omega, (by rw [pre3_f, ← heqc]; exact weak_sl (sub_cons rfl (sub_cons rfl (sub_cons rfl (sub_cons rfl (sub_cons rfl (sub_cons rfl (sub_cons rfl (sub_nil))))))))), f + 1, by omega, rfl, rfl⟩
   ·
    have hgef : ¬ f < k0 := by simpa using hc3
    have heqf : f = k0 := by omega
    refine awp_exit ?_
    repeat refine thenA_exit ?_
    refine blockA_hit ?_
    refine r1 T0_ok hP hm hN ?_
    iterate 3 refine g1 ?_
    have hf' := heqf.symm
    subst hf'
    have e2 := bfs_next' hatl hnow
    refine ⟨46656 - (at_ + 1), ⟨[(10, .val (.int .i64 (((at_ + 1) : Nat) : Int))), (9, .val (.int .i64 ((k0 : Nat) : Int))), (8, .own 2), (3, .own 0)], [(2, ⟨55, 1, true, i64ss (bfs (blks k0) s0 (at_ + 1)).1⟩), (0, ⟨33, 1, false, ints .i8 (farC k0 (bfs (blks k0) s0 (at_ + 1)).2)⟩)], 3⟩, by omega, ?_, at_ + 1, ?_, ?_, rfl, rfl⟩
    · rw [← e2]
      exact weak_sl (sub_cons rfl (sub_cons rfl (sub_cons rfl (sub_cons rfl (sub_nil)))))
    · rw [← e2]
      have := (List.getElem?_eq_some_iff.1 hRL.hd).1
      omega
    · rw [← e2]; exact hRL.le
  ·
   have hend : at_ = (bfs (blks k0) s0 at_).1.length := by simp at hc2; omega
   have hfin : bfs (blks k0) s0 at_ = endB k0 s0 := bfs_end (by omega) (by omega)
   refine awp_exit ?_
   repeat refine thenA_exit ?_
   refine blockA_hit ?_
   refine awp_seq ?_
   refine r1 T0_ok hP hm hN ?_
   iterate 2 refine g1 ?_
   refine awp_ret ?_
   refine fin_mk [0] rfl rfl ?_ (by simp only [hfin]; exact objs_cons rfl rfl rfl (by rw [hk0, hs0]) rfl (.inl rfl) objs_nil) (by decide)
   rfl
end Go.Proofs.YtpdkhlpmiblflaaGreat.Abs

