import Derived.Test.YtheoapoddmmahaaGreatE0
set_option linter.unusedVariables false
set_option linter.unusedSimpArgs false
namespace Go.Proofs.YtheoapoddmmahaaGreat.Abs
open Go Go.RowKit
def mapF {α β : Type} (g : α → β) (xs : List α) (i : Nat) : List β := (xs.take i).map g
theorem mapF_succ {α β : Type} {d : α} (g : α → β) {xs : List α} {i : Nat} (h : i < xs.length) : mapF g xs (i + 1) = mapF g xs i ++ [g (xs.getD i d)] := by
  have e : xs.getD i d = xs[i] := by simp [List.getD, h]
  unfold mapF
  rw [e, List.take_succ_eq_append_getElem h, List.map_append]
  rfl
theorem mapF_all {α β : Type} (g : α → β) (xs : List α) : mapF g xs xs.length = xs.map g := by simp [mapF]
theorem mapF_len {α β : Type} (g : α → β) (xs : List α) {i : Nat} (h : i ≤ xs.length) : (mapF g xs i).length = i := by simp [mapF]; omega
theorem fnCell_cases {d : D} (h : fnCell d = true) : (∃ v, d = .val v) ∨ ∃ f cs, d = .clo f cs := by
  unfold fnCell at h
  split at h
  · exact .inl ⟨_, rfl⟩
  · exact .inr ⟨_, _, rfl⟩
  · cases h
theorem i64s_app (xs ys : List Int) : i64s (xs ++ ys) = i64s xs ++ i64s ys := by simp
theorem mem_getDH {α : Type} {d x : α} {xs : List α} (h : x ∈ xs) : ∃ i, i < xs.length ∧ xs.getD i d = x := by
  obtain ⟨i, hi, e⟩ := List.getElem_of_mem h
  exact ⟨i, hi, by simp [List.getD, hi, e]⟩
theorem i64s_appH (xs ys : List Int) : i64s (xs ++ ys) = i64s xs ++ i64s ys := by simp
def putF (l : List Int) (n : Int) : Nat → List Int × Bool
  | 0 => ([], false)
  | i + 1 => if (!(putF l n i).2 && decide (l.getD i 0 ≥ n)) = true then ((if l.getD i 0 > n then (putF l n i).1 ++ [n] else (putF l n i).1) ++ [l.getD i 0], true) else ((putF l n i).1 ++ [l.getD i 0], (putF l n i).2)
def putI (l : List Int) (n : Int) : List Int := if (!(putF l n l.length).2) = true then (putF l n l.length).1 ++ [n] else (putF l n l.length).1
theorem putF_len (l : List Int) (n : Int) : ∀ i, (putF l n i).1.length ≤ i + 1
  | 0 => by simp [putF]
  | i + 1 => by
    have ih := putF_len l n i
    have h2 : (putF l n i).2 = false → (putF l n i).1.length ≤ i := by
      clear ih
      induction i with
      | zero => simp [putF]
      | succ i ih =>
        rw [putF]
        split
        · simp
        · intro h; have := ih h; simp; omega
    rw [putF]
    split
    · rename_i h
      simp only [Bool.and_eq_true, Bool.not_eq_true'] at h
      have := h2 h.1
      split <;> simp <;> omega
    · simp; omega
theorem putI_len (l : List Int) (n : Int) : (putI l n).length ≤ l.length + 2 := by
  have := putF_len l n l.length
  unfold putI
  split <;> simp <;> omega
theorem putF_inv {l : List Int} (h : l.Pairwise (· < ·)) (n : Int) : ∀ i, i ≤ l.length → ((putF l n i).2 = false → (putF l n i).1 = l.take i ∧ ∀ x ∈ l.take i, x < n) ∧
    ((putF l n i).2 = true → (putF l n i).1.Pairwise (· < ·) ∧ (∀ a, a ∈ (putF l n i).1 ↔ a = n ∨ a ∈ l.take i) ∧ (∀ j, i ≤ j → j < l.length → ∀ a ∈ (putF l n i).1, a < l.getD j 0))
  | 0, _ => by simp [putF]
  | i + 1, hi => by
    obtain ⟨h1, h2⟩ := putF_inv h n i (by omega)
    have e : l.getD i 0 = l[i] := by simp [List.getD, show i < l.length by omega]
    have ht : l.take (i + 1) = l.take i ++ [l.getD i 0] := by rw [List.take_succ_eq_append_getElem (by omega), e]
    have hlt : ∀ j, i < j → j < l.length → l.getD i 0 < l.getD j 0 := fun j hij hj => by
      have := List.pairwise_iff_getElem.1 h i j (by omega) hj hij
      simpa [List.getD, hj, show i < l.length by omega] using this
    have hlt2 : ∀ x ∈ l.take i, ∀ j, i ≤ j → j < l.length → x < l.getD j 0 := fun x hx j hij hj => by
      obtain ⟨k, hk, rfl⟩ := List.mem_iff_getElem.1 hx
      simp only [List.length_take] at hk
      have := List.pairwise_iff_getElem.1 h k j (by omega) hj (by omega)
      simpa [List.getD, hj] using this
    by_cases hc : (!(putF l n i).2 && decide (l.getD i 0 ≥ n)) = true
    · have hc' := hc
      simp only [Bool.and_eq_true, Bool.not_eq_true', decide_eq_true_eq] at hc'
      obtain ⟨h3, h4⟩ := h1 hc'.1
      rw [putF, if_pos hc, h3, ht]
      refine ⟨fun h => by simp at h, fun _ => ?_⟩
      have hP : (l.take i).Pairwise (· < ·) := h.sublist (List.take_sublist _ _)
      split
      · rename_i hgt
        simp only
        refine ⟨?_, fun a => by simp only [List.mem_append, List.mem_singleton]; constructor <;> (intro h; rcases h with h | h <;> (try rcases h with h | h) <;> simp_all), fun j hj hj2 a ha => ?_⟩
        · refine List.pairwise_append.2 ⟨List.pairwise_append.2 ⟨hP, by simp, fun a ha b hb => by simp only [List.mem_singleton] at hb; subst hb; exact h4 a ha⟩, by simp, fun a ha b hb => ?_⟩
          simp only [List.mem_singleton] at hb; subst hb
          rcases List.mem_append.1 ha with ha | ha
          · exact hlt2 a ha i (Nat.le_refl _) (by omega)
          · simp only [List.mem_singleton] at ha; subst ha; omega
        · have := hlt j (by omega) hj2
          rcases List.mem_append.1 ha with ha | ha
          · rcases List.mem_append.1 ha with ha | ha
            · exact hlt2 a ha j (by omega) hj2
            · simp only [List.mem_singleton] at ha; subst ha; omega
          · simp only [List.mem_singleton] at ha; subst ha; omega
      · rename_i hgt
        have e2 : l.getD i 0 = n := by omega
        simp only
        refine ⟨?_, fun a => by rw [e2]; simp only [List.mem_append, List.mem_singleton]; constructor <;> (intro h; rcases h with h | h <;> (try rcases h with h | h) <;> simp_all), fun j hj hj2 a ha => ?_⟩
        · refine List.pairwise_append.2 ⟨hP, by simp, fun a ha b hb => ?_⟩
          simp only [List.mem_singleton] at hb; subst hb
          exact hlt2 a ha i (Nat.le_refl _) (by omega)
        · have := hlt j (by omega) hj2
          rcases List.mem_append.1 ha with ha | ha
          · exact hlt2 a ha j (by omega) hj2
          · simp only [List.mem_singleton] at ha; subst ha; omega
    · rw [putF, if_neg hc, ht]
      simp only
      refine ⟨fun hf => ?_, fun htr => ?_⟩
      · obtain ⟨h3, h4⟩ := h1 hf
        rw [h3]
        refine ⟨rfl, fun x hx => ?_⟩
        rcases List.mem_append.1 hx with hx | hx
        · exact h4 x hx
        · simp only [List.mem_singleton] at hx; subst hx
          simp only [hf, Bool.not_false, Bool.true_and, decide_eq_true_eq] at hc
          omega
      · obtain ⟨h3, h4, h5⟩ := h2 htr
        refine ⟨List.pairwise_append.2 ⟨h3, by simp, fun a ha b hb => by simp only [List.mem_singleton] at hb; subst hb; exact h5 i (Nat.le_refl _) (by omega) a ha⟩, fun a => by simp only [List.mem_append, List.mem_singleton, h4]; constructor <;> (intro h; rcases h with h | h <;> (try rcases h with h | h) <;> simp_all), fun j hj hj2 a ha => ?_⟩
        rcases List.mem_append.1 ha with ha | ha
        · exact h5 j (by omega) hj2 a ha
        · simp only [List.mem_singleton] at ha; subst ha; exact hlt j (by omega) hj2
theorem putI_rise {l : List Int} (h : l.Pairwise (· < ·)) (n : Int) : (putI l n).Pairwise (· < ·) ∧ ∀ a, a ∈ putI l n ↔ a = n ∨ a ∈ l := by
  obtain ⟨h1, h2⟩ := putF_inv h n l.length (Nat.le_refl _)
  simp only [List.take_length] at h1 h2
  unfold putI
  split
  · rename_i hf
    obtain ⟨h3, h4⟩ := h1 (by simpa using hf)
    rw [h3]
    refine ⟨List.pairwise_append.2 ⟨h, by simp, fun a ha b hb => by simp only [List.mem_singleton] at hb; subst hb; exact h4 a ha⟩, fun a => by simp only [List.mem_append, List.mem_singleton]; exact ⟨fun h => h.elim .inr .inl, fun h => h.elim .inr .inl⟩⟩
  · rename_i hf
    obtain ⟨h3, h4, _⟩ := h2 (by simpa using hf)
    exact ⟨h3, h4⟩
def htsF (a b : Int) (bs : List Bk) : Nat → List Int
  | 0 => []
  | i + 1 => putI (htsF a b bs i) (pegH a b (bs.getD i bk0).high)
theorem htsF_rise (a b : Int) (bs : List Bk) : ∀ i, (htsF a b bs i).Pairwise (· < ·)
  | 0 => by simp [htsF]
  | i + 1 => (putI_rise (htsF_rise a b bs i) _).1
theorem htsF_mem (a b : Int) (bs : List Bk) : ∀ i n, n ∈ htsF a b bs i ↔ ∃ j, j < i ∧ pegH a b (bs.getD j bk0).high = n
  | 0, n => by simp [htsF]
  | i + 1, n => by
    rw [htsF, (putI_rise (htsF_rise a b bs i) _).2, htsF_mem a b bs i]
    constructor
    · rintro (rfl | ⟨j, hj, e⟩)
      · exact ⟨i, by omega, rfl⟩
      · exact ⟨j, by omega, e⟩
    · rintro ⟨j, hj, e⟩
      by_cases h : j = i
      · subst h; exact .inl e.symm
      · exact .inr ⟨j, by omega, e⟩
noncomputable def htsI (a b : Int) (bs : List Bk) : List Int := setI (bs.map fun x => pegH a b x.high)
theorem htsF_eq (a b : Int) (bs : List Bk) : htsF a b bs bs.length = htsI a b bs := by
  refine rising_ext (htsF_rise _ _ _ _) (setI_rise _) (fun n => ?_)
  rw [htsF_mem, htsI, setI_mem, List.mem_map]
  constructor
  · rintro ⟨j, hj, e⟩; exact ⟨_, getD_mem' (d := bk0) hj, e⟩
  · rintro ⟨x, hx, e⟩
    obtain ⟨j, hj, rfl⟩ := mem_getDH (d := bk0) hx
    exact ⟨j, hj, e⟩
theorem htsF_len (a b : Int) (bs : List Bk) : ∀ i, (htsF a b bs i).length ≤ 2 * i
  | 0 => by simp [htsF]
  | i + 1 => by have := putI_len (htsF a b bs i) (pegH a b (bs.getD i bk0).high); have := htsF_len a b bs i; rw [htsF]; omega
theorem htsI_len (a b : Int) (bs : List Bk) : (htsI a b bs).length ≤ bs.length := by
  have := setI_len (bs.map fun x => pegH a b x.high)
  simpa [htsI] using this
noncomputable def htsR (a b c : Int) (bs : List Bk) : List Int × Int := if (!pegsOk a b c || !validBs bs) = true then ([], 1) else (htsI a b bs, 0)
def bksC (a b c : Int) (bs : List Bk) : Int := if (!pegsOk a b c || !validBs bs) = true then 1 else 0

noncomputable abbrev s_I_each_I_Book_int64 : Spec (List Bk × D × (Bk → Int)) where
  args := fun x => [.sl 8 (bks x.1), x.2.1]
  pre := fun x => x.1.length ≤ 1048576 ∧ fnCell x.2.1 = true ∧ Does Pr (fun p => [bkD p]) (· ∈ x.1) (fun p => i64D (x.2.2 p)) x.2.1
  new := fun x => [⟨2, 1, false, i64s (x.1.map x.2.2)⟩]
  res := fun x => .own 0

set_option maxRecDepth 20000 in
set_option maxHeartbeats 1000000 in
theorem ok_I_each_I_Book_int64 : FnOk Pr 70 s_I_each_I_Book_int64 := by
 refine fn_ok 2 0 T0_ok Go.Proofs.Tryz.func70 rfl (enters_of Go.Proofs.Tryz.func70 rfl rfl) (fun _ => rfl) (fun _ => rfl) (fun _ => rfl) ?_
 rintro ⟨xs, fn, g⟩ ⟨hp, hf0, hask⟩ C hP hN hm hG
 simp only at hf0 hask
 obtain ⟨v, rfl⟩ | ⟨cf, cs, rfl⟩ := fnCell_cases hf0
 ·
  change awp C _ _ ⟨[(0, .sl 8 (bks xs)), (1, .val v)], [], 0⟩
  simp only at hp
  refine awp_seq ?_
  refine r1 T0_ok hP hm hN ?_
  refine g1 ?_
  refine awp_seq ?_
  refine r1 T0_ok hP hm hN ?_
  refine g1 ?_
  refine awp_seq ?_
  refine awp_seq ?_
  refine r1 T0_ok hP hm hN ?_
  iterate 3 refine g1 ?_
  refine awp_block ?_
  refine awp_loop (fun n st => ∃ i : Nat, i ≤ xs.length ∧ n = xs.length - i ∧ st = ⟨[(10, .val (.int .i64 (i : Nat))), (9, .val (.int .i64 (xs.length : Nat))), (8, .sl 8 (bks xs)), (5, .own 0), (1, .val v)], [(0, ⟨2, 1, false, i64s (mapF g xs i)⟩)], 1⟩) (xs.length) ⟨_, (by exact Weak.trans (weak_nil 5 2 1 rfl) (weak_sl (sub_cons rfl (sub_cons rfl (sub_cons rfl (sub_cons rfl (sub_cons rfl (sub_nil)))))))), 0, by omega, rfl, rfl⟩ ?_
  rintro n st ⟨i, hii, hni, rfl⟩
  have hml := mapF_len g xs hii
  refine awp_seq ?_
  refine r1 T0_ok hP hm hN ?_
  refine g1 ?_
  refine awp_seq ?_
  refine awp_cond rfl (fun hc0 => ?_) (fun hc0 => ?_)
  ·
   have hlti : i < xs.length := by simpa using hc0
   refine awp_skip ?_
   refine awp_seq ?_
   refine awp_block ?_
   refine awp_seq ?_
   refine r1 T0_ok hP hm hN ?_
   iterate 4 refine g1 ?_
   refine r1 T0_ok hP hm hN ?_
   iterate 3 refine g1 ?_
   refine gc1 ?_ (OpRel.does hask _ (getD_mem' hlti) rfl rfl rfl rfl rfl rfl)
   refine g1 ?_
   refine ga1 ?_
   refine g1 ?_
   refine r1 T0_ok hP hm hN ?_
   iterate 2 refine g1 ?_
   refine ⟨xs.length - (i + 1), _, by omega, (by rw [mapF_succ (d := bk0) g hlti, i64s_app]; exact Weak.trans (weak_drop 2) (Weak.trans (weak_drop 1) (Weak.trans (weak_nx (nx' := 1) (by omega) (by rfl)) (weak_sl (sub_cons rfl (sub_cons rfl (sub_cons rfl (sub_cons rfl (sub_cons rfl (sub_nil)))))))))), i + 1, by omega, rfl, rfl⟩
  ·
   have hgei : ¬ i < xs.length := by simpa using hc0
   have heqi : i = xs.length := by omega
   rw [heqi, mapF_all]
   refine awp_exit ?_
   repeat refine thenA_exit ?_
   refine blockA_hit ?_
   refine awp_seq ?_
   refine r1 T0_ok hP hm hN ?_
   iterate 2 refine g1 ?_
   refine awp_ret ?_
   refine fin_mk [0] rfl rfl ?_ (objs_cons rfl rfl rfl rfl rfl (.inl rfl) objs_nil) (by decide)
   rfl
 ·
  change awp C _ _ ⟨[(0, .sl 8 (bks xs)), (1, .clo cf cs)], [], 0⟩
  simp only at hp
  refine awp_seq ?_
  refine r1 T0_ok hP hm hN ?_
  refine g1 ?_
  refine awp_seq ?_
  refine r1 T0_ok hP hm hN ?_
  refine g1 ?_
  refine awp_seq ?_
  refine awp_seq ?_
  refine r1 T0_ok hP hm hN ?_
  iterate 3 refine g1 ?_
  refine awp_block ?_
  refine awp_loop (fun n st => ∃ i : Nat, i ≤ xs.length ∧ n = xs.length - i ∧ st = ⟨[(10, .val (.int .i64 (i : Nat))), (9, .val (.int .i64 (xs.length : Nat))), (8, .sl 8 (bks xs)), (5, .own 0), (1, .clo cf cs)], [(0, ⟨2, 1, false, i64s (mapF g xs i)⟩)], 1⟩) (xs.length) ⟨_, (by exact Weak.trans (weak_nil 5 2 1 rfl) (weak_sl (sub_cons rfl (sub_cons rfl (sub_cons rfl (sub_cons rfl (sub_cons rfl (sub_nil)))))))), 0, by omega, rfl, rfl⟩ ?_
  rintro n st ⟨i, hii, hni, rfl⟩
  have hml := mapF_len g xs hii
  refine awp_seq ?_
  refine r1 T0_ok hP hm hN ?_
  refine g1 ?_
  refine awp_seq ?_
  refine awp_cond rfl (fun hc0 => ?_) (fun hc0 => ?_)
  ·
   have hlti : i < xs.length := by simpa using hc0
   refine awp_skip ?_
   refine awp_seq ?_
   refine awp_block ?_
   refine awp_seq ?_
   refine r1 T0_ok hP hm hN ?_
   iterate 4 refine g1 ?_
   refine r1 T0_ok hP hm hN ?_
   iterate 3 refine g1 ?_
   refine gc1 ?_ (OpRel.does hask _ (getD_mem' hlti) rfl rfl rfl rfl rfl rfl)
   refine g1 ?_
   refine ga1 ?_
   refine g1 ?_
   refine r1 T0_ok hP hm hN ?_
   iterate 2 refine g1 ?_
   refine ⟨xs.length - (i + 1), _, by omega, (by rw [mapF_succ (d := bk0) g hlti, i64s_app]; exact Weak.trans (weak_drop 2) (Weak.trans (weak_drop 1) (Weak.trans (weak_nx (nx' := 1) (by omega) (by rfl)) (weak_sl (sub_cons rfl (sub_cons rfl (sub_cons rfl (sub_cons rfl (sub_cons rfl (sub_nil)))))))))), i + 1, by omega, rfl, rfl⟩
  ·
   have hgei : ¬ i < xs.length := by simpa using hc0
   have heqi : i = xs.length := by omega
   rw [heqi, mapF_all]
   refine awp_exit ?_
   repeat refine thenA_exit ?_
   refine blockA_hit ?_
   refine awp_seq ?_
   refine r1 T0_ok hP hm hN ?_
   iterate 2 refine g1 ?_
   refine awp_ret ?_
   refine fin_mk [0] rfl rfl ?_ (objs_cons rfl rfl rfl rfl rfl (.inl rfl) objs_nil) (by decide)
   rfl

noncomputable abbrev s_I_Pegs_heightsOf_1 : Spec (Bk × (Int × Int × Int)) where
  args := fun x => [bkD x.1, .rptr 3 [[.val (.int .i16 x.2.1), .val (.int .i16 x.2.2.1), .val (.int .i16 x.2.2.2)]] 0 0]
  pre := fun x => isBk x.1 ∧ pegsOk x.2.1 x.2.2.1 x.2.2.2 = true
  res := fun x => .val (.int .i64 (pegH x.2.1 x.2.2.1 x.1.high))

set_option maxRecDepth 20000 in
set_option maxHeartbeats 1000000 in
theorem ok_I_Pegs_heightsOf_1 : FnOk Pr 71 s_I_Pegs_heightsOf_1 := by
 refine fn_ok 2 0 T0_ok Go.Proofs.Tryz.func71 rfl (enters_of Go.Proofs.Tryz.func71 rfl rfl) (fun _ => rfl) (fun _ => rfl) (fun _ => rfl) ?_
 rintro ⟨x, a, b, c⟩ ⟨hb, hok⟩ C hP hN hm hG
 change awp C _ _ ⟨[(0, .val (.agg #[.int .i16 x.cls, .int .u8 x.m0, .int .u8 x.m1, .int .u8 x.m2, .int .i16 x.vol, .int .i16 x.wide, .int .i16 x.high, .int .i16 x.weight])), (1, .rptr 3 [[.val (.int .i16 a), .val (.int .i16 b), .val (.int .i16 c)]] 0 0)], [], 0⟩
 obtain ⟨hb_0, hb_1, hb_2, hb_3, hb_4, hb_5, hb_6, hb_7⟩ := hb
 have hb_0 : -32768 ≤ x.cls ∧ x.cls ≤ 32767 := hb_0
 have hb_1 : 0 ≤ x.m0 ∧ x.m0 ≤ 255 := hb_1
 have hb_2 : 0 ≤ x.m1 ∧ x.m1 ≤ 255 := hb_2
 have hb_3 : 0 ≤ x.m2 ∧ x.m2 ≤ 255 := hb_3
 have hb_4 : -32768 ≤ x.vol ∧ x.vol ≤ 32767 := hb_4
 have hb_5 : -32768 ≤ x.wide ∧ x.wide ≤ 32767 := hb_5
 have hb_6 : -32768 ≤ x.high ∧ x.high ≤ 32767 := hb_6
 have hb_7 : -32768 ≤ x.weight ∧ x.weight ≤ 32767 := hb_7
 have hbh : -32768 ≤ x.high ∧ x.high ≤ 32767 := hb_6
 simp only at hok
 refine awp_seq ?_
 refine r1 T0_ok hP hm hN ?_
 iterate 2 refine g1 ?_
 refine awp_seq ?_
 refine r1 T0_ok hP hm hN ?_
 iterate 4 refine g1 ?_
 refine gc1 ?_ (call1 ok_I_Pegs_peg ((_, _, _), _) [] (hpre := by (try dsimp only); exact ⟨hok, by omega, by omega⟩))
 refine g1 ?_
 refine awp_ret ?_
 refine fin_mk [] rfl rfl ?_ trivial (by decide)
 rfl

theorem does_peg {a b c : Int} {bs : List Bk} (hv : ∀ x ∈ bs, isBk x) (hok : pegsOk a b c = true) : Does Pr (fun p => [bkD p]) (· ∈ bs) (fun p => i64D (pegH a b p.high)) (.clo (.func 71) [.rptr 3 [[.val (.int .i16 a), .val (.int .i16 b), .val (.int .i16 c)]] 0 0]) :=
  ⟨71, [], [.rptr 3 [[.val (.int .i16 a), .val (.int .i16 b), .val (.int .i16 c)]] 0 0], (s_I_Pegs_heightsOf_1).comap (fun p => (p, a, b, c)), rfl, rfl, rfl, (ok_I_Pegs_heightsOf_1).comap _, fun _ => rfl, fun _ h => ⟨hv _ h, hok⟩, fun _ => rfl, fun _ => rfl, fun _ => rfl, fun _ => rfl⟩

noncomputable abbrev s_I_Pegs_heightsOf : Spec ((Int × Int × Int) × List Bk) where
  args := fun x => [pegs x.1, .sl 8 (bks x.2)]
  pre := fun x => pegsOk x.1.1 x.1.2.1 x.1.2.2 = true ∧ isPegs x.1 ∧ (∀ b ∈ x.2, isBk b) ∧ x.2.length ≤ 60
  new := fun x => [⟨2, 1, false, i64s (htsI x.1.1 x.1.2.1 x.2)⟩]
  res := fun x => .own 0

set_option maxRecDepth 20000 in
set_option maxHeartbeats 1000000 in
theorem ok_I_Pegs_heightsOf : FnOk Pr 28 s_I_Pegs_heightsOf := by
 refine fn_ok 2 0 T0_ok Go.Proofs.Tryz.func28 rfl (enters_of Go.Proofs.Tryz.func28 rfl rfl) (fun _ => rfl) (fun _ => rfl) (fun _ => rfl) ?_
 rintro ⟨⟨a, b, c⟩, bs⟩ ⟨hok, hp, hv, hl⟩ C hP hN hm hG
 change awp C _ _ ⟨[(0, .val (.agg #[.int .i16 a, .int .i16 b, .int .i16 c])), (1, .sl 8 (bks bs))], [], 0⟩
 simp only at hok hv hl
 refine awp_seq ?_
 refine r1 T0_ok hP hm hN ?_
 iterate 2 refine g1 ?_
 refine awp_seq ?_
 refine r1 T0_ok hP hm hN ?_
 iterate 2 refine g1 ?_
 refine gc1 ?_ (call1 ok_I_each_I_Book_int64 (bs, .clo (.func 71) [.rptr 3 [[.val (.int .i16 a), .val (.int .i16 b), .val (.int .i16 c)]] 0 0], fun p => pegH a b p.high) [] (hpre := by (try dsimp only); exact ⟨by omega, rfl, does_peg hv hok⟩))
 refine gc1 ?_ (call1 ok_I_setList _ [] (hpre := by (try dsimp only); simp only [List.length_map]; omega))
 refine g1 ?_
 refine awp_ret ?_
 refine fin_mk [2] rfl rfl ?_ (objs_cons rfl rfl rfl rfl rfl (.inl rfl) objs_nil) (by decide)
 rfl

noncomputable abbrev s_S_l00Put : Spec (List Int × Int) where
  args := fun x => [.sl 1 (i64s x.1), .val (.int .i64 x.2)]
  pre := fun x => x.1.length ≤ 1048576
  new := fun x => [⟨2, 1, false, i64s (putI x.1 x.2)⟩]
  res := fun x => .own 0

set_option maxRecDepth 20000 in
set_option maxHeartbeats 1000000 in
theorem ok_S_l00Put : FnOk Pr 38 s_S_l00Put := by
 refine fn_ok 2 0 T0_ok Go.Proofs.Tryz.func38 rfl (enters_of Go.Proofs.Tryz.func38 rfl rfl) (fun _ => rfl) (fun _ => rfl) (fun _ => rfl) ?_
 rintro ⟨l, m⟩ hl C hP hN hm hG
 change awp C _ _ ⟨[(0, .sl 1 (i64s l)), (1, .val (.int .i64 m))], [], 0⟩
 simp only at hl
 refine awp_seq ?_
 refine r1 T0_ok hP hm hN ?_
 refine g1 ?_
 refine awp_seq ?_
 refine r1 T0_ok hP hm hN ?_
 refine g1 ?_ (hst := by simp +decide (disch := omega) only [nrm, lk_nrm, dc_nrm, mk_nrm, mf_nrm, ti_nrm, ls_nrm, mp_nrm, nb_nrm, hset, pick_and, pick_or, ↓reduceIte, Nat.reduceAdd, wI64, wI32, wI16, wI8, wU8, List.length_map, Int.toNat_natCast, xn1, xn2, List.all_nil, Bool.not_true]; rfl)
 refine g1 ?_
 refine awp_seq ?_
 refine r1 T0_ok hP hm hN ?_
 refine g1 ?_
 refine awp_seq ?_
 refine awp_seq ?_
 refine r1 T0_ok hP hm hN ?_
 refine g1 ?_
 refine awp_block ?_
 refine awp_loop (fun n st => ∃ i : Nat, i ≤ l.length ∧ n = l.length - i ∧ st = ⟨[(7, .val (.int .i64 (i : Nat))), (6, .val (.bool (putF l m i).2)), (5, .own 0), (0, .sl 1 (i64s l)), (1, .val (.int .i64 m))], [(0, ⟨2, 1, false, i64s ((putF l m i).1)⟩)], 1⟩) (l.length) ⟨_, weak_sl (sub_cons rfl (sub_cons rfl (sub_cons rfl (sub_cons rfl (sub_cons rfl (sub_nil)))))), 0, by omega, rfl, rfl⟩ ?_
 rintro n st ⟨i, hii, hni, rfl⟩
 have hpl := putF_len l m i
 have hpf : ∃ t, t = putF l m i := ⟨_, rfl⟩
 obtain ⟨t, ht⟩ := hpf
 rw [← ht] at hpl ⊢
 refine awp_seq ?_
 refine awp_seq ?_
 refine r1 T0_ok hP hm hN ?_
 iterate 4 refine g1 ?_
 refine awp_cond rfl (fun hc0 => ?_) (fun hc0 => ?_)
 ·
  have hlti : i < l.length := by simpa using hc0
  refine awp_skip ?_
  refine awp_seq ?_
  refine awp_block ?_
  refine awp_seq ?_
  refine awp_seq ?_
  refine r1 T0_ok hP hm hN ?_
  iterate 3 refine g1 ?_
  iterate 6 refine gg1 ?_
  refine g1 ?_
  refine awp_cond rfl (fun hc1 => ?_) (fun hc1 => ?_)
  ·
   refine awp_seq ?_
   refine r1 T0_ok hP hm hN ?_
   refine g1 ?_
   refine awp_seq ?_
   refine r1 T0_ok hP hm hN ?_
   iterate 6 refine g1 ?_
   refine awp_cond rfl (fun hc2 => ?_) (fun hc2 => ?_)
   ·
    have hpn : putF l m (i + 1) = ((t.1 ++ [m]) ++ [l.getD i 0], true) := by rw [putF, ← ht, if_pos hc1, if_pos (by simpa using hc2)]
    refine r1 T0_ok hP hm hN ?_
    iterate 3 refine g1 ?_
    refine ga1 ?_
    refine g1 ?_
    refine r1 T0_ok hP hm hN ?_
    iterate 6 refine g1 ?_
    refine ga1 ?_
    refine g1 ?_
    refine r1 T0_ok hP hm hN ?_
    iterate 3 refine g1 ?_
    first
      | exact ⟨l.length - (i + 1), _, by omega, (by rw [hpn]; (try simp only [i64s_appH]); exact (Weak.trans (weak_drop 1) (Weak.trans (weak_nx (nx' := 1) (by omega) (by rfl)) (weak_sl (sub_cons rfl (sub_cons rfl (sub_cons rfl (sub_cons rfl (sub_cons rfl (sub_nil)))))))))), i + 1, by omega, rfl, rfl⟩
      | exact ⟨l.length - (i + 1), _, by omega, (by rw [hpn]; (try simp only [i64s_appH]); exact (Weak.trans (weak_drop 2) (Weak.trans (weak_drop 1) (Weak.trans (weak_nx (nx' := 1) (by omega) (by rfl)) (weak_sl (sub_cons rfl (sub_cons rfl (sub_cons rfl (sub_cons rfl (sub_cons rfl (sub_nil))))))))))), i + 1, by omega, rfl, rfl⟩
   ·
    have hpn : putF l m (i + 1) = (t.1 ++ [l.getD i 0], true) := by rw [putF, ← ht, if_pos hc1, if_neg (by simpa using hc2)]
    refine awp_skip ?_
    refine r1 T0_ok hP hm hN ?_
    iterate 6 refine g1 ?_
    refine ga1 ?_
    refine g1 ?_
    refine r1 T0_ok hP hm hN ?_
    iterate 3 refine g1 ?_
    first
      | exact ⟨l.length - (i + 1), _, by omega, (by rw [hpn]; (try simp only [i64s_appH]); exact (Weak.trans (weak_drop 1) (Weak.trans (weak_nx (nx' := 1) (by omega) (by rfl)) (weak_sl (sub_cons rfl (sub_cons rfl (sub_cons rfl (sub_cons rfl (sub_cons rfl (sub_nil)))))))))), i + 1, by omega, rfl, rfl⟩
      | exact ⟨l.length - (i + 1), _, by omega, (by rw [hpn]; (try simp only [i64s_appH]); exact (Weak.trans (weak_drop 2) (Weak.trans (weak_drop 1) (Weak.trans (weak_nx (nx' := 1) (by omega) (by rfl)) (weak_sl (sub_cons rfl (sub_cons rfl (sub_cons rfl (sub_cons rfl (sub_cons rfl (sub_nil))))))))))), i + 1, by omega, rfl, rfl⟩
  ·
   have hpn : putF l m (i + 1) = (t.1 ++ [l.getD i 0], t.2) := by rw [putF, ← ht, if_neg (by rw [hc1]; simp)]
   refine awp_skip ?_
   refine r1 T0_ok hP hm hN ?_
   iterate 6 refine g1 ?_
   refine ga1 ?_
   refine g1 ?_
   refine r1 T0_ok hP hm hN ?_
   iterate 3 refine g1 ?_
   first
     | exact ⟨l.length - (i + 1), _, by omega, (by rw [hpn]; (try simp only [i64s_appH]); exact (Weak.trans (weak_drop 1) (Weak.trans (weak_nx (nx' := 1) (by omega) (by rfl)) (weak_sl (sub_cons rfl (sub_cons rfl (sub_cons rfl (sub_cons rfl (sub_cons rfl (sub_nil)))))))))), i + 1, by omega, rfl, rfl⟩
     | exact ⟨l.length - (i + 1), _, by omega, (by rw [hpn]; (try simp only [i64s_appH]); exact (Weak.trans (weak_drop 2) (Weak.trans (weak_drop 1) (Weak.trans (weak_nx (nx' := 1) (by omega) (by rfl)) (weak_sl (sub_cons rfl (sub_cons rfl (sub_cons rfl (sub_cons rfl (sub_cons rfl (sub_nil))))))))))), i + 1, by omega, rfl, rfl⟩
 ·
  have hgei : ¬ i < l.length := by simpa using hc0
  have heqi : i = l.length := by omega
  subst heqi
  subst ht
  refine awp_exit ?_
  repeat refine thenA_exit ?_
  refine blockA_hit ?_
  refine awp_seq ?_
  refine awp_seq ?_
  refine r1 T0_ok hP hm hN ?_
  iterate 2 refine g1 ?_
  refine awp_cond rfl (fun hc3 => ?_) (fun hc3 => ?_)
  ·
   have hpi : putI l m = (putF l m l.length).1 ++ [m] := by rw [putI, if_pos hc3]
   refine r1 T0_ok hP hm hN ?_
   iterate 3 refine g1 ?_
   refine ga1 ?_
   refine g1 ?_
   refine awp_seq ?_
   refine r1 T0_ok hP hm hN ?_
   iterate 2 refine g1 ?_
   refine awp_ret ?_
   refine fin_mk [0] rfl rfl ?_ (by simp only [hpi, i64s_appH]; exact objs_cons rfl rfl rfl rfl rfl (.inl rfl) objs_nil) (by decide)
   rfl
  ·
   have hpi : putI l m = (putF l m l.length).1 := by rw [putI, if_neg (by rw [hc3]; simp)]
   refine awp_skip ?_
   refine awp_seq ?_
   refine r1 T0_ok hP hm hN ?_
   iterate 2 refine g1 ?_
   refine awp_ret ?_
   refine fin_mk [0] rfl rfl ?_ (by simp only [hpi, i64s_appH]; exact objs_cons rfl rfl rfl rfl rfl (.inl rfl) objs_nil) (by decide)
   rfl
end Go.Proofs.YtheoapoddmmahaaGreat.Abs

