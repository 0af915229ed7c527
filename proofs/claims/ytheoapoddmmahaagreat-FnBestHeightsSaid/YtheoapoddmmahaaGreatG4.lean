import Derived.Test.YtheoapoddmmahaaGreatG3
set_option linter.unusedVariables false
set_option linter.unusedSimpArgs false
namespace Go.Proofs.YtheoapoddmmahaaGreat.Abs
open Go Go.RowKit
theorem fst_hit {α : Type} {p : α → Bool} {d : α} {xs : List α} (h : (fstOf p xs).toNat < xs.length) : p (xs.getD (fstOf p xs).toNat d) = true := by
  unfold fstOf at h ⊢
  unfold idxOf at h ⊢
  cases hf : xs.findIdx? p with
  | none => simp [hf] at h
  | some i =>
    obtain ⟨hi, hp, _⟩ := List.findIdx?_eq_some_iff_getElem.1 hf
    simp [List.getD, hi, hp]
def lstep (wide own : Int) (l : List Int) : List Int :=
  if (fstOf (isHigh own) l).toNat = l.length then (l ++ [wide]).set (fstOf (isHigh own) l).toNat (wide - own) else l.set (fstOf (isHigh own) l).toNat (l.getD (fstOf (isHigh own) l).toNat 0 - own)
def leftF (wide : Int) (f : Nat → Int) : Nat → List Int
  | 0 => []
  | i + 1 => lstep wide (f i) (leftF wide f i)
theorem lstep_yes {wide own : Int} {l : List Int} {k : Nat} (h : fstOf (isHigh own) l = (k : Int)) (e : k = l.length) : lstep wide own l = (l ++ [wide]).set k (wide - own) := by
  unfold lstep
  rw [h, Int.toNat_natCast, if_pos e]
theorem lstep_no {wide own : Int} {l : List Int} {k : Nat} (h : fstOf (isHigh own) l = (k : Int)) (e : k ≠ l.length) : lstep wide own l = l.set k (l.getD k 0 - own) := by
  unfold lstep
  rw [h, Int.toNat_natCast, if_neg e]
theorem leftF_len (wide : Int) (f : Nat → Int) : ∀ i, (leftF wide f i).length ≤ i
  | 0 => Nat.le_refl _
  | i + 1 => by
    have ih := leftF_len wide f i
    rw [leftF, lstep]
    split
    · simp; omega
    · simp; omega
theorem leftF_b {wide : Int} {f : Nat → Int} (hw : 1 ≤ wide ∧ wide ≤ 2000) : ∀ i, (∀ j, j < i → 1 ≤ f j ∧ f j ≤ 100) → ∀ x ∈ leftF wide f i, -100 ≤ x ∧ x ≤ 2000
  | 0, _, x, h => by simp [leftF] at h
  | i + 1, hf, x, h => by
    have ih := leftF_b hw i (fun j hj => hf j (by omega))
    have hfi := hf i (by omega)
    have hb := fstOf_lt (isHigh (f i)) (leftF wide f i)
    rw [leftF, lstep] at h
    split at h
    · rcases List.mem_or_eq_of_mem_set h with h | h
      · rcases List.mem_append.1 h with h | h
        · exact ih x h
        · simp at h; omega
      · omega
    · rename_i hne
      rcases List.mem_or_eq_of_mem_set h with h | h
      · exact ih x h
      · have h2 := ih _ (getD_mem' (d := 0) (show (fstOf (isHigh (f i)) (leftF wide f i)).toNat < (leftF wide f i).length by omega))
        -- the one that is found is high enough
        have h3 : f i ≤ (leftF wide f i).getD (fstOf (isHigh (f i)) (leftF wide f i)).toNat 0 := by
          have h4 := fst_hit (p := isHigh (f i)) (d := 0) (show (fstOf (isHigh (f i)) (leftF wide f i)).toNat < (leftF wide f i).length by omega)
          simpa [isHigh] using h4
        omega
abbrev wq (bs : List Bk) (q : List Int) : Nat → Int := fun i => (bs.getD (q.getD i 0).toNat bk0).wide
def nedI (bs : List Bk) (wide : Int) (q : List Int) : Int := ((leftF wide (wq bs q) q.length).length : Nat)
theorem wq_b {bs : List Bk} {wide : Int} (h : PreB bs wide) {q : List Int} (hq : QOk bs q) (j : Nat) (hj : j < q.length) : 1 ≤ wq bs q j ∧ wq bs q j ≤ 100 := wdt_b h (hq.1 _ (getD_mem' hj))
theorem i64s_snoc (l : List Int) (v : Int) : i64s l ++ [[.val (.int .i64 v)]] = i64s (l ++ [v]) := by simp
theorem i64s_set3 (xs : List Int) (i : Nat) (v : Int) : (i64s xs).set i [.val (.int .i64 v)] = i64s (xs.set i v) := by simp
def usedL (wide : Int) (l : List Int) : List Int := l.map fun x => wide - x
theorem usedL_len (wide : Int) (l : List Int) : (usedL wide l).length = l.length := by simp [usedL]
theorem usedL_get {wide : Int} {l : List Int} {k : Nat} (h : k < l.length) : (usedL wide l).getD k 0 = wide - l.getD k 0 := by simp [usedL, List.getD, h]
theorem usedL_snoc (wide : Int) (l : List Int) : usedL wide l ++ [0] = usedL wide (l ++ [wide]) := by simp [usedL]
theorem usedL_set (wide : Int) (l : List Int) (k : Nat) (v : Int) : (usedL wide l).set k (wide - v) = usedL wide (l.set k v) := by simp [usedL, List.map_set]
theorem fst_at {own : Int} {l : List Int} {k : Nat} (hk : k ≤ l.length) (hb : ∀ j, j < k → isHigh own (l.getD j 0) = false) (h : k = l.length ∨ isHigh own (l.getD k 0) = true) : fstOf (isHigh own) l = (k : Int) := by
  by_cases e : k = l.length
  · have : idxOf (isHigh own) l = -1 := idxOf_none (d := 0) (fun j hj => hb j (by omega))
    rw [fstOf, this, if_neg (by omega), e]
  · have hh : isHigh own (l.getD k 0) = true := by
      rcases h with h | h
      · exact absurd h e
      · exact h
    have : idxOf (isHigh own) l = (k : Int) := idxOf_some (d := 0) (by omega) hh hb
    rw [fstOf, this, if_pos (by omega)]

noncomputable abbrev s_I_needed_1 : Spec (Int × Int) where
  args := fun x => [i64D x.1, .rptr 1 [[.val (.int .i64 x.2)]] 0 0]
  res := fun x => .val (.bool (isHigh x.2 x.1))

set_option maxRecDepth 20000 in
set_option maxHeartbeats 1000000 in
theorem ok_I_needed_1 : FnOk Pr 91 s_I_needed_1 := by
 refine fn_ok 2 0 T0_ok Go.Proofs.Tryz.func91 rfl (enters_of Go.Proofs.Tryz.func91 rfl rfl) (fun _ => rfl) (fun _ => rfl) (fun _ => rfl) ?_
 rintro ⟨n, w⟩ - C hP hN hm hG
 change awp C _ _ ⟨[(0, i64D n), (1, .rptr 1 [[.val (.int .i64 w)]] 0 0)], [], 0⟩
 refine awp_seq ?_
 refine r1 T0_ok hP hm hN ?_
 refine g1 ?_
 refine awp_seq ?_
 refine r1 T0_ok hP hm hN ?_
 iterate 4 refine g1 ?_
 refine awp_ret ?_
 refine fin_mk [] rfl rfl ?_ trivial (by decide)
 rfl

theorem says_left (w : Int) (dom : Int → Prop) : Says i64D dom (isHigh w) (.clo (.func 91) [.rptr 1 [[.val (.int .i64 w)]] 0 0]) :=
  ⟨91, [], [.rptr 1 [[.val (.int .i64 w)]] 0 0], (s_I_needed_1).comap (fun n => (n, w)), rfl, rfl, rfl, ok_I_needed_1.comap _, fun _ => rfl, fun _ _ => trivial, fun _ => rfl, fun _ => rfl, fun _ => rfl, fun _ => rfl⟩

noncomputable abbrev s_I_needed : Spec (List Bk × List Int × Int) where
  args := fun x => [.sl 8 (bks x.1), .sl 1 (i64s x.2.1), .val (.int .i64 x.2.2)]
  pre := fun x => PreB x.1 x.2.2 ∧ QOk x.1 x.2.1
  res := fun x => .val (.int .i64 (nedI x.1 x.2.2 x.2.1))

set_option maxRecDepth 20000 in
set_option maxHeartbeats 4000000 in
theorem ok_I_needed : FnOk Pr 56 s_I_needed := by
 refine fn_ok 3 0 T0_ok Go.Proofs.Tryz.func56 rfl (enters_of Go.Proofs.Tryz.func56 rfl rfl) (fun _ => rfl) (fun _ => rfl) (fun _ => rfl) ?_
 rintro ⟨bs, q, wide⟩ ⟨hpb, hq⟩ C hP hN hm hG
 change awp C _ _ ⟨[(0, .sl 8 (bks bs)), (1, .sl 1 (i64s q)), (2, .val (.int .i64 wide))], [], 0⟩
 simp only at hpb hq
 have h60 := hpb.1.2.2
 have hw := hpb.2
 have hq60 := hq.2
 have xn1 := @i64s_set3
 refine awp_seq ?_
 refine r1 T0_ok hP hm hN ?_
 refine g1 ?_
 refine awp_seq ?_
 refine r1 T0_ok hP hm hN ?_
 refine g1 ?_
 refine awp_seq ?_
 refine awp_seq ?_
 refine r1 T0_ok hP hm hN ?_
 iterate 3 refine g1 ?_
 refine awp_block ?_
 refine awp_loop (fun n st => ∃ i : Nat, i ≤ q.length ∧ n = q.length - i ∧ st = ⟨[(14, .val (.int .i64 ((i : Nat) : Int))), (13, .val (.int .i64 ((q.length : Nat) : Int))), (12, .sl 1 (i64s q)), (7, .own 0), (0, .sl 8 (bks bs)), (2, .val (.int .i64 wide))], [(0, ⟨2, 1, false, i64s (leftF wide (wq bs q) i)⟩)], 1⟩) (q.length) ⟨_, (by exact Weak.trans (weak_nil 7 2 1 rfl) (weak_sl (sub_cons rfl (sub_cons rfl (sub_cons rfl (sub_cons rfl (sub_cons rfl (sub_cons rfl (sub_nil))))))))), 0, by omega, rfl, rfl⟩ ?_
 rintro n st ⟨i, hii, hni, rfl⟩
 have hll := leftF_len wide (wq bs q) i
 have hlb := leftF_b hw i (fun j hj => wq_b hpb hq j (by omega))
 refine awp_seq ?_
 refine r1 T0_ok hP hm hN ?_
 refine g1 ?_
 refine awp_seq ?_
 refine awp_cond rfl (fun hc0 => ?_) (fun hc0 => ?_)
 ·
  have hlti : i < q.length := by simpa using hc0
  have hxm := hq.1 _ (getD_mem' (d := 0) hlti)
  have hwx := wdt_b hpb hxm
  have hgx := bks_get bs (q.getD i 0).toNat (by omega)
  refine awp_skip ?_
  refine awp_seq ?_
  refine awp_block ?_
  refine awp_seq ?_
  refine r1 T0_ok hP hm hN ?_
  iterate 3 refine g1 ?_
  refine awp_seq ?_
  refine r1 T0_ok hP hm hN ?_
  iterate 8 refine g1 ?_
  refine awp_seq ?_
  refine r1 T0_ok hP hm hN ?_
  iterate 2 refine g1 ?_
  refine gc1 ?_ (call1 ok_I_firstOf_int64 (_, _, isHigh (bs.getD (q.getD i 0).toNat bk0).wide) [] (hpre := by (try dsimp only); exact ⟨by omega, says_left _ _⟩))
  refine g1 ?_
  refine awp_seq ?_
  refine awp_seq ?_
  refine r1 T0_ok hP hm hN ?_
  iterate 4 refine g1 ?_
  obtain ⟨kk, hkk⟩ : ∃ kk : Nat, fstOf (isHigh (bs.getD (q.getD i 0).toNat bk0).wide) (leftF wide (wq bs q) i) = (kk : Int) := ⟨(fstOf (isHigh (bs.getD (q.getD i 0).toNat bk0).wide) (leftF wide (wq bs q) i)).toNat, by have := fstOf_lt (isHigh (bs.getD (q.getD i 0).toNat bk0).wide) (leftF wide (wq bs q) i); omega⟩
  have hkb := fstOf_lt (isHigh (bs.getD (q.getD i 0).toNat bk0).wide) (leftF wide (wq bs q) i)
  rw [hkk] at hkb
  simp only [hkk]
  refine awp_cond rfl (fun hc1 => ?_) (fun hc1 => ?_)
  ·
   have hke : kk = (leftF wide (wq bs q) i).length := by simp at hc1; omega
   have hgk : (i64s ((leftF wide (wq bs q) i) ++ [wide]))[kk]? = some [.val (.int .i64 wide)] := by rw [i64s_get _ _ (by simp; omega)]; simp [List.getD, hke]
   have hal : ((leftF wide (wq bs q) i) ++ [wide]).length = (leftF wide (wq bs q) i).length + 1 := by simp
   refine r1 T0_ok hP hm hN ?_
   iterate 3 refine g1 ?_
   refine ga1 ?_ (hst := by simp +decide (disch := omega) only [nrm, lk_nrm, dc_nrm, mk_nrm, mf_nrm, ti_nrm, ls_nrm, mp_nrm, nb_nrm, hset, pick_and, pick_or, ↓reduceIte, Nat.reduceAdd, wI64, wI32, wI16, wI8, wU8, List.length_map, Int.toNat_natCast, xn1, xn2, kl_nrm, i64s_snoc]; rfl)
   refine g1 ?_
   refine awp_draw T0_ok hP hm hN Pr_mix [] [7] _ rfl (by rfl) ?_
   iterate 2 refine d1 T0_ok ?_
   refine dx1 T0_ok ?_
   refine dx1 T0_ok ?_
   refine dx1 T0_ok ?_
   refine d1 T0_ok ?_
   refine dx1 T0_ok ?_
   refine dp1 ?_ (oprel_astep T0_ok (by first | rfl | exact astep_load_p (by rfl) (by rfl) (by rfl) (by first | assumption | exact i64s_get _ _ (by omega)) (by rfl) | exact astep_store_p (by rfl) (by rfl) (by rfl) (by rfl) (by first | assumption | exact i64s_get _ _ (by omega))) rfl (by first | trivial | rfl | exact ⟨rfl, rfl⟩ | exact ⟨rfl, rfl, fun _ => rfl, Nat.le_of_ble_eq_true rfl, .inl rfl⟩ | exact ⟨rfl, rfl, fun h => (nomatch h), Nat.le_of_ble_eq_true rfl, .inl rfl⟩ | exact ⟨rfl, rfl, fun _ => rfl, Nat.le_of_ble_eq_true rfl, .inr rfl⟩ | exact ⟨rfl, rfl, fun h => (nomatch h), Nat.le_of_ble_eq_true rfl, .inr rfl⟩ | omega | exact ⟨rfl, by (repeat (first | exact fm_nil | refine fm_cons ⟨rfl, rfl⟩ ?_)), Nat.le_of_ble_eq_true rfl, Nat.le_of_ble_eq_true rfl⟩ | (refine ⟨?_, ?_, ?_, ?_, ?_, ?_, ?_⟩ <;> first | omega | exact Nat.le_of_ble_eq_true rfl) | exact ⟨rfl, by omega, by (try simp only [List.length_map, List.length_set]); omega⟩ | exact ⟨rfl, by omega, by simp only [Int.toNat_natCast]; omega, by omega, Nat.le_of_ble_eq_true rfl, rfl⟩))
   refine dreg_nil ?_
   refine r1 T0_ok hP hm hN ?_
   iterate 2 refine g1 ?_
   first
     | exact ⟨q.length - (i + 1), _, by omega, (by rw [leftF, lstep_yes hkk hke]; exact Weak.trans (weak_drop 2) (Weak.trans (weak_drop 1) (Weak.trans (weak_nx (nx' := 1) (by omega) (by rfl)) (weak_sl (sub_cons rfl (sub_cons rfl (sub_cons rfl (sub_cons rfl (sub_cons rfl (sub_cons rfl (sub_nil))))))))))), i + 1, by omega, rfl, rfl⟩
     | exact ⟨q.length - (i + 1), _, by omega, (by rw [leftF, lstep_no hkk hke]; exact Weak.trans (weak_drop 1) (Weak.trans (weak_nx (nx' := 1) (by omega) (by rfl)) (weak_sl (sub_cons rfl (sub_cons rfl (sub_cons rfl (sub_cons rfl (sub_cons rfl (sub_cons rfl (sub_nil)))))))))), i + 1, by omega, rfl, rfl⟩
  ·
   have hke : kk ≠ (leftF wide (wq bs q) i).length := by simp at hc1; omega
   have hgk := i64s_get (leftF wide (wq bs q) i) kk (by omega)
   have hgb := hlb _ (getD_mem' (d := 0) (show kk < (leftF wide (wq bs q) i).length by omega))
   refine awp_skip ?_
   refine awp_draw T0_ok hP hm hN Pr_mix [] [7] _ rfl (by rfl) ?_
   iterate 2 refine d1 T0_ok ?_
   refine dx1 T0_ok ?_
   refine dx1 T0_ok ?_
   refine dx1 T0_ok ?_
   refine d1 T0_ok ?_
   refine dx1 T0_ok ?_
   refine dp1 ?_ (oprel_astep T0_ok (by first | rfl | exact astep_load_p (by rfl) (by rfl) (by rfl) (by first | assumption | exact i64s_get _ _ (by omega)) (by rfl) | exact astep_store_p (by rfl) (by rfl) (by rfl) (by rfl) (by first | assumption | exact i64s_get _ _ (by omega))) rfl (by first | trivial | rfl | exact ⟨rfl, rfl⟩ | exact ⟨rfl, rfl, fun _ => rfl, Nat.le_of_ble_eq_true rfl, .inl rfl⟩ | exact ⟨rfl, rfl, fun h => (nomatch h), Nat.le_of_ble_eq_true rfl, .inl rfl⟩ | exact ⟨rfl, rfl, fun _ => rfl, Nat.le_of_ble_eq_true rfl, .inr rfl⟩ | exact ⟨rfl, rfl, fun h => (nomatch h), Nat.le_of_ble_eq_true rfl, .inr rfl⟩ | omega | exact ⟨rfl, by (repeat (first | exact fm_nil | refine fm_cons ⟨rfl, rfl⟩ ?_)), Nat.le_of_ble_eq_true rfl, Nat.le_of_ble_eq_true rfl⟩ | (refine ⟨?_, ?_, ?_, ?_, ?_, ?_, ?_⟩ <;> first | omega | exact Nat.le_of_ble_eq_true rfl) | exact ⟨rfl, by omega, by (try simp only [List.length_map, List.length_set]); omega⟩ | exact ⟨rfl, by omega, by simp only [Int.toNat_natCast]; omega, by omega, Nat.le_of_ble_eq_true rfl, rfl⟩))
   refine dreg_nil ?_
   refine r1 T0_ok hP hm hN ?_
   iterate 2 refine g1 ?_
   first
     | exact ⟨q.length - (i + 1), _, by omega, (by rw [leftF, lstep_yes hkk hke]; exact Weak.trans (weak_drop 2) (Weak.trans (weak_drop 1) (Weak.trans (weak_nx (nx' := 1) (by omega) (by rfl)) (weak_sl (sub_cons rfl (sub_cons rfl (sub_cons rfl (sub_cons rfl (sub_cons rfl (sub_cons rfl (sub_nil))))))))))), i + 1, by omega, rfl, rfl⟩
     | exact ⟨q.length - (i + 1), _, by omega, (by rw [leftF, lstep_no hkk hke]; exact Weak.trans (weak_drop 1) (Weak.trans (weak_nx (nx' := 1) (by omega) (by rfl)) (weak_sl (sub_cons rfl (sub_cons rfl (sub_cons rfl (sub_cons rfl (sub_cons rfl (sub_cons rfl (sub_nil)))))))))), i + 1, by omega, rfl, rfl⟩
 ·
  have hgei : ¬ i < q.length := by simpa using hc0
  have heqi : i = q.length := by omega
  subst heqi
  refine awp_exit ?_
  repeat refine thenA_exit ?_
  refine blockA_hit ?_
  refine awp_seq ?_
  refine r1 T0_ok hP hm hN ?_
  iterate 3 refine g1 ?_
  refine awp_ret ?_
  refine fin_mk [] rfl rfl ?_ trivial (by decide)
  rfl

end Go.Proofs.YtheoapoddmmahaaGreat.Abs

