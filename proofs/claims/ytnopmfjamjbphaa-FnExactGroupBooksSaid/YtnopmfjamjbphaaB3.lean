import Derived.Test.YtnopmfjamjbphaaB2
set_option linter.unusedVariables false
set_option linter.unusedSimpArgs false
namespace Go.Proofs.Ytnopmfjamjbphaa.Abs
open Go Go.RowKit
/-- The counter behind so many marked rows. -/
def kkF (f : Nat → List Int) (k : Int) : Nat → Int
  | 0 => k
  | j + 1 => kkF f k j + (f j).length
def mkR (f : Nat → List Int) (k : Int) (j : Nat) : List Int := mkd_int (f j).length (kkF f k j)
theorem kkF_b {f : Nat → List Int} {k : Int} {n : Nat} (hf : ∀ j, j < n → (f j).length ≤ 1048576) : ∀ j, j ≤ n → k ≤ kkF f k j ∧ kkF f k j ≤ k + j * 1048576
  | 0, _ => by simp [kkF]
  | j + 1, h => by
    have ih := kkF_b (k := k) hf j (by omega)
    have h1 := hf j (by omega)
    simp only [kkF]
    omega
noncomputable def hSS (xs : List (List Int)) (k : Int) : Nat → Int
  | 0 => k
  | i + 1 => heldR_int (xs.getD i []) (hSS xs k i)
noncomputable def heldV (xs : List (List Int)) (k : Int) : Int := if ask (∃ j, j < xs.length ∧ hSS xs k (j + 1) < 0) then -1 else hSS xs k xs.length
theorem heldR_int_or (xs : List Int) (k : Int) : heldR_int xs k = -1 ∨ heldR_int xs k = k + xs.length := by
  unfold heldR_int
  split
  · exact .inr rfl
  · exact .inl rfl
theorem hSS_b {xs : List (List Int)} {k : Int} (hk : 0 ≤ k) (hq : ∀ q ∈ xs, q.length ≤ 1048576) : ∀ i, i ≤ xs.length → (∀ j, j < i → ¬ hSS xs k (j + 1) < 0) → 0 ≤ hSS xs k i ∧ hSS xs k i ≤ k + i * 1048576
  | 0, _, _ => by simp only [hSS]; omega
  | i + 1, hi, h => by
    have ih := hSS_b hk hq i (by omega) (fun j hj => h j (by omega))
    have h1 := h i (by omega)
    have h2 := hq _ (getD_mem' (d := []) (show i < xs.length by omega))
    have h3 := heldR_int_or (xs.getD i []) (hSS xs k i)
    simp only [hSS] at h1 ⊢
    omega
theorem heldV_marked {f : Nat → List Int} {k : Int} {n : Nat} (hk : 0 ≤ k) {xs : List (List Int)} (hx : xs = (List.range n).map (mkR f k)) : heldV xs k = kkF f k n := by
  have key : ∀ i, i ≤ n → hSS xs k i = kkF f k i ∧ 0 ≤ kkF f k i := by
    intro i
    induction i with
    | zero => intro _; exact ⟨rfl, hk⟩
    | succ i ih =>
      intro hi
      obtain ⟨e, h0⟩ := ih (by omega)
      have hg : xs.getD i [] = mkd_int (f i).length (kkF f k i) := by
        rw [hx]; simp [List.getD, show i < n by omega, mkR]
      have h2 : hSS xs k (i + 1) = kkF f k (i + 1) := by
        simp only [hSS, kkF]
        rw [e, hg, heldR_int_mkd]
      exact ⟨h2, by simp only [kkF]; omega⟩
  have hl : xs.length = n := by rw [hx]; simp
  unfold heldV
  rw [ask_false (fun ⟨j, hj, h⟩ => by have := key (j + 1) (by omega); omega), hl]
  exact (key n (Nat.le_refl _)).1
theorem objsG_rows {hp : HP} {KS : List Nat} {f : Nat → List Int} {E : TypeId} : ∀ (n c : Nat), (∀ j, j < n → lk (c + j + 30) hp = some ⟨E, 1, false, i64s (f (c + j))⟩) → ObjsG hp KS (List.range' (c + 30) n) (rowsO f E c n)
  | 0, _, _ => objsG_nil
  | n + 1, c, h => by
    rw [List.range'_succ, rowsO]
    have h0 := h 0 (by omega)
    refine objsG_cons h0 rfl rfl (renXs_i64s _ _) (.inr (.inl rfl)) ?_
    have h1 := objsG_rows (KS := KS) n (c + 1) (fun j hj => by have := h (j + 1) (by omega); rw [show c + (j + 1) = c + 1 + j by omega] at this; exact this)
    rw [show c + 1 + 30 = c + 30 + 1 by omega] at h1
    exact h1
theorem renXs_map {KS : List Nat} {g g' : Nat → D} : ∀ l : List Nat, (∀ j ∈ l, renC KS (g j) = some (g' j)) → renXs KS (l.map fun j => [g j]) = some (l.map fun j => [g' j])
  | [], _ => rfl
  | j :: l, h => by
    have h1 := h j (by simp)
    have h2 := renXs_map l (fun j hj => h j (by simp [hj]))
    simp only [List.map_cons, renXs, renCL, h1, h2]
theorem renXs_tab {KS : List Nat} {g g' : Nat → D} {n : Nat} (h : ∀ j, j < n → renC KS (g j) = some (g' j)) : renXs KS (tabD g n) = some (tabD g' n) := renXs_map _ (fun j hj => h j (List.mem_range.1 hj))
theorem objsG_fam {hp : HP} {f : Nat → List Int} {E TE : TypeId} {n : Nat} (h29 : lk 29 hp = some ⟨TE, 1, true, tabD (uO f 0) n⟩) (hr : ∀ j, j < n → lk (j + 30) hp = some ⟨E, 1, false, i64s (f j)⟩) :
    ObjsG hp (List.range' 29 (n + 1)) (List.range' 29 (n + 1)) ((⟨TE, 1, true, tabD (fun j => .own (j + 1)) n⟩ : Ob) :: rowsO f E 0 n) := by
  have h1 := objsG_rows (hp := hp) (KS := List.range' 29 (n + 1)) (f := f) (E := E) n 0 (fun j hj => by rw [Nat.zero_add]; exact hr j hj)
  have e : List.range' 29 (n + 1) = 29 :: List.range' (0 + 30) n := List.range'_succ
  have key : ObjsG hp (List.range' 29 (n + 1)) (29 :: List.range' (0 + 30) n) ((⟨TE, 1, true, tabD (fun j => .own (j + 1)) n⟩ : Ob) :: rowsO f E 0 n) := by
    refine objsG_cons h29 rfl rfl (renXs_tab fun j hj => ?_) (.inl rfl) h1
    show ((List.range' 29 (n + 1))[j + 1]?).map D.own = some (uO f 0 j)
    rw [List.getElem?_range' (by omega)]
    simp [uO]
    omega
  rw [← e] at key
  exact key
theorem lk_fam_in (f : Nat → List Int) (E : TypeId) {o : Ob} (n : Nat) (hp : HP) (j : Nat) (h : j < n) : lk (j + 30) ((29, o) :: (famR f E 0 n ++ hp)) = some ⟨E, 1, false, i64s (f j)⟩ := by
  rw [lk_cons, if_neg (by omega), lk_append, lk_famR, if_pos (by omega), Option.some_or, Nat.add_sub_cancel]
noncomputable def nG (a b c : Int) (hs : List Int) (bs : List Bk) : Nat := if codeG a b c hs bs = 0 then hs.length else 0
noncomputable def gbL (a b c : Int) (hs : List Int) (bs : List Bk) : List (List Int) := if codeG a b c hs bs = 0 then grpL hs bs else []
theorem gbL_eq (a b c : Int) (hs : List Int) (bs : List Bk) : gbL a b c hs bs = (List.range (nG a b c hs bs)).map (rwG hs bs) := by
  unfold gbL nG
  split
  · rfl
  · rfl

noncomputable abbrev s_L_eqInt64SS : Spec (List (List Int) × List (List Int)) where
  args := fun x => [.sl 1 (i64ss x.1), .sl 1 (i64ss x.2)]
  pre := fun x => x.1.length ≤ 1048576 ∧ x.2.length ≤ 1048576 ∧ ∀ q ∈ x.1, q.length ≤ 1048576
  res := fun x => .val (.bool (decide (x.1 = x.2)))

set_option maxRecDepth 20000 in
set_option maxHeartbeats 1000000 in
theorem ok_L_eqInt64SS : FnOk Pr 10 s_L_eqInt64SS := by
  refine fn_ok 2 0 T0_ok Go.Proofs.Try.func10 rfl (enters_of Go.Proofs.Try.func10 rfl rfl) (fun _ => rfl) (fun _ => rfl) (fun _ => rfl) ?_
  rintro ⟨xs, ys⟩ ⟨hl1, hl2, hq⟩ C hP hN hm hG
  change awp C _ _ ⟨[(0, .sl 1 (i64ss xs)), (1, .sl 1 (i64ss ys))], [], 0⟩
  simp only at hl1 hl2 hq
  refine awp_seq ?_
  refine r1 T0_ok hP hm hN ?_
  refine g1 ?_
  refine awp_seq ?_
  refine awp_seq ?_
  refine r1 T0_ok hP hm hN ?_
  refine g1 ?_
  refine g1 ?_
  refine g1 ?_
  refine g1 ?_
  refine g1 ?_
  refine awp_cond rfl (fun hc0 => ?_) (fun hc0 => ?_)
  · skip
    refine awp_seq ?_
    refine r1 T0_ok hP hm hN ?_
    refine g1 ?_
    refine awp_ret ?_
    refine fin_mk [] rfl rfl ?_ trivial (by decide)
    show D.val (.bool (decide (xs = ys))) = _
    rw [decide_eq_false (fun e => by simp [e] at hc0)]
    rfl
  · skip
    have hl : xs.length = ys.length := by simp only [bne_eq_false_iff_eq] at hc0; omega
    refine awp_skip ?_
    refine awp_seq ?_
    refine awp_seq ?_
    refine r1 T0_ok hP hm hN ?_
    refine g1 ?_
    refine awp_block ?_
    refine awp_loop (fun n st => ∃ i : Nat, i ≤ xs.length ∧ (∀ j, j < i → xs.getD j [] = ys.getD j []) ∧ n = xs.length - i ∧ st = ⟨[(5, .val (.int .i64 ((i : Nat) : Int))), (0, .sl 1 (i64ss xs)), (1, .sl 1 (i64ss ys))], [], 0⟩) (xs.length) ⟨_, weak_sl (sub_cons rfl (sub_cons rfl (sub_cons rfl (sub_nil)))), 0, by omega, fun j h => by omega, rfl, rfl⟩ ?_
    rintro n st ⟨i, hii, hall, hni, rfl⟩
    refine awp_seq ?_
    refine awp_seq ?_
    refine r1 T0_ok hP hm hN ?_
    refine g1 ?_
    refine g1 ?_
    refine g1 ?_
    refine g1 ?_
    refine awp_cond rfl (fun hc1 => ?_) (fun hc1 => ?_)
    · skip
      have hlti : i < xs.length := by simpa using hc1
      have hgx := i64ss_get xs i hlti
      have hgy := i64ss_get ys i (by omega)
      refine awp_skip ?_
      refine awp_seq ?_
      refine awp_block ?_
      refine awp_seq ?_
      refine awp_draw T0_ok hP hm hN Pr_mix [0, 1, 2, 3, 4, 5, 6, 7, 8, 9, 10, 11] [8] _ rfl (by rfl) ?_
      refine d1 T0_ok ?_
      refine d1 T0_ok ?_
      refine d1 T0_ok ?_
      refine d1 T0_ok ?_
      refine d1 T0_ok ?_
      refine d1 T0_ok ?_
      refine d1 T0_ok ?_
      refine d1 T0_ok ?_
      refine dp1 ?_ (call1 ok_L_eqInt64S (_, _) [] (hpre := by (try dsimp only); have := hq _ (getD_mem' (d := []) hlti); omega))
      refine d1 T0_ok ?_
      refine dreg_nil ?_
      refine awp_cond rfl (fun hc2 => ?_) (fun hc2 => ?_)
      · skip
        refine awp_seq ?_
        refine r1 T0_ok hP hm hN ?_
        refine g1 ?_
        refine awp_ret ?_
        refine fin_mk [] rfl rfl ?_ trivial (by decide)
        show D.val (.bool (decide (xs = ys))) = _
        rw [decide_eq_false (fun e => by simp [e] at hc2)]
        rfl
      · skip
        have heq : xs.getD i [] = ys.getD i [] := by simpa using hc2
        refine awp_skip ?_
        refine r1 T0_ok hP hm hN ?_
        refine g1 ?_
        refine g1 ?_
        refine g1 ?_
        refine ⟨xs.length - (i + 1), _, by omega, weak_sl (sub_cons rfl (sub_cons rfl (sub_cons rfl (sub_nil)))), i + 1, by omega, upto_step hall heq, rfl, rfl⟩
    · skip
      have hgei : ¬ i < xs.length := by simpa using hc1
      have heqi : i = xs.length := by omega
      refine awp_exit ?_
      repeat refine thenA_exit ?_
      refine blockA_hit ?_
      refine awp_seq ?_
      refine r1 T0_ok hP hm hN ?_
      refine g1 ?_
      refine awp_ret ?_
      refine fin_mk [] rfl rfl ?_ trivial (by decide)
      show D.val (.bool (decide (xs = ys))) = _
      rw [decide_eq_true (list_ext' (d := []) hl (fun j hj => hall j (by omega)))]
      rfl

noncomputable abbrev s_L_heldInt64SS : Spec (List (List Int) × Int) where
  args := fun x => [.sl 1 (i64ss x.1), .val (.int .i64 x.2)]
  pre := fun x => x.1.length ≤ 100 ∧ (∀ q ∈ x.1, q.length ≤ 1048576) ∧ 0 ≤ x.2 ∧ x.2 ≤ 1000000000000
  res := fun x => .val (.int .i64 (heldV x.1 x.2))

set_option maxRecDepth 20000 in
set_option maxHeartbeats 1000000 in
theorem ok_L_heldInt64SS : FnOk Pr 16 s_L_heldInt64SS := by
  refine fn_ok 2 0 T0_ok Go.Proofs.Try.func16 rfl (enters_of Go.Proofs.Try.func16 rfl rfl) (fun _ => rfl) (fun _ => rfl) (fun _ => rfl) ?_
  rintro ⟨xs, k⟩ ⟨hl, hq, hk0, hk1⟩ C hP hN hm hG
  change awp C _ _ ⟨[(0, .sl 1 (i64ss xs)), (1, .val (.int .i64 k))], [], 0⟩
  simp only at hl hq hk0 hk1
  refine awp_seq ?_
  refine r1 T0_ok hP hm hN ?_
  refine g1 ?_
  refine awp_seq ?_
  refine awp_seq ?_
  refine r1 T0_ok hP hm hN ?_
  refine g1 ?_
  refine awp_block ?_
  refine awp_loop (fun n st => ∃ i : Nat, i ≤ xs.length ∧ (∀ j, j < i → ¬ hSS xs k (j + 1) < 0) ∧ n = xs.length - i ∧ st = ⟨[(5, .val (.int .i64 ((i : Nat) : Int))), (1, .val (.int .i64 (hSS xs k i))), (0, .sl 1 (i64ss xs))], [], 0⟩) (xs.length) ⟨_, weak_sl (sub_cons rfl (sub_cons rfl (sub_cons rfl (sub_nil)))), 0, by omega, fun j h => by omega, rfl, rfl⟩ ?_
  rintro n st ⟨i, hii, hall, hni, rfl⟩
  have hb := hSS_b hk0 hq i hii hall
  refine awp_seq ?_
  refine awp_seq ?_
  refine r1 T0_ok hP hm hN ?_
  refine g1 ?_
  refine g1 ?_
  refine g1 ?_
  refine g1 ?_
  refine awp_cond rfl (fun hc0 => ?_) (fun hc0 => ?_)
  · skip
    have hlti : i < xs.length := by simpa using hc0
    have hgx := i64ss_get xs i hlti
    have hqi := hq _ (getD_mem' (d := []) hlti)
    refine awp_skip ?_
    refine awp_seq ?_
    refine awp_block ?_
    refine awp_seq ?_
    refine r1 T0_ok hP hm hN ?_
    refine g1 ?_
    refine g1 ?_
    refine g1 ?_
    refine g1 ?_
    refine g1 ?_
    refine gc1 ?_ (call1 ok_L_heldInt64S (_, _) [] (hpre := by (try dsimp only); exact ⟨by omega, by omega, by omega⟩))
    refine g1 ?_
    refine awp_seq ?_
    refine r1 T0_ok hP hm hN ?_
    refine g1 ?_
    refine g1 ?_
    refine awp_cond rfl (fun hc1 => ?_) (fun hc1 => ?_)
    · skip
      refine awp_seq ?_
      refine r1 T0_ok hP hm hN ?_
      refine g1 ?_
      refine awp_ret ?_
      refine fin_mk [] rfl rfl ?_ trivial (by decide)
      show D.val (.int .i64 (heldV xs k)) = _
      rw [heldV, ask_true ⟨i, hlti, of_decide_eq_true hc1⟩]
      rfl
    · skip
      have hnx : ¬ hSS xs k (i + 1) < 0 := of_decide_eq_false hc1
      refine awp_skip ?_
      refine r1 T0_ok hP hm hN ?_
      refine g1 ?_
      refine g1 ?_
      refine g1 ?_
      refine ⟨xs.length - (i + 1), _, by omega, weak_sl (sub_cons rfl (sub_cons rfl (sub_cons rfl (sub_nil)))), i + 1, by omega, upto_step hall hnx, rfl, rfl⟩
  · skip
    have hgei : ¬ i < xs.length := by simpa using hc0
    have heqi : i = xs.length := by omega
    refine awp_exit ?_
    repeat refine thenA_exit ?_
    refine blockA_hit ?_
    refine awp_seq ?_
    refine r1 T0_ok hP hm hN ?_
    refine g1 ?_
    refine g1 ?_
    refine awp_ret ?_
    refine fin_mk [] rfl rfl ?_ trivial (by decide)
    show D.val (.int .i64 (heldV xs k)) = _
    rw [heldV, ask_false (fun ⟨j, hj, h⟩ => hall j (by omega) h), ← heqi]
    rfl
end Go.Proofs.Ytnopmfjamjbphaa.Abs
