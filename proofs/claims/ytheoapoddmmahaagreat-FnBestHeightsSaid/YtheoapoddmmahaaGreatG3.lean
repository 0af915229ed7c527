import Derived.Test.YtheoapoddmmahaaGreatG2
set_option linter.unusedVariables false
set_option linter.unusedSimpArgs false
namespace Go.Proofs.YtheoapoddmmahaaGreat.Abs
open Go Go.RowKit
noncomputable abbrev s_I_each_int64_int64 : Spec (List (List Int) × (FuncId × List D) × (List Int → Int) × (List Int → Prop)) where
  args := fun x => [.sl 1 (i64ss x.1), .clo (.func x.2.1.1) x.2.1.2]
  pre := fun x => x.1.length ≤ 1048576 ∧ (∀ q ∈ x.1, x.2.2.2 q) ∧ Does Pr (fun q : List Int => [.sl 1 (i64s q)]) x.2.2.2 (fun q => .val (.int .i64 (x.2.2.1 q))) (.clo (.func x.2.1.1) x.2.1.2)
  new := fun x => [⟨2, 1, false, i64s (x.1.map x.2.2.1)⟩]
  res := fun x => .own 0

set_option maxRecDepth 20000 in
set_option maxHeartbeats 1000000 in
theorem ok_I_each_int64_int64 : FnOk Pr 54 s_I_each_int64_int64 := by
 refine fn_ok 2 0 T0_ok Go.Proofs.Tryz.func54 rfl (enters_of Go.Proofs.Tryz.func54 rfl rfl) (fun _ => rfl) (fun _ => rfl) (fun _ => rfl) ?_
 rintro ⟨xs, ⟨kf, cs⟩, g, dom⟩ ⟨hp, hdom, hask⟩ C hP hN hm hG
 change awp C _ _ ⟨[(0, .sl 1 (i64ss xs)), (1, .clo (.func kf) cs)], [], 0⟩
 simp only at hp hdom hask
 refine awp_seq ?_
 refine r1 T0_ok hP hm hN ?_
 refine g1 ?_
 refine awp_seq ?_
 refine r1 T0_ok hP hm hN ?_
 refine g1 ?_
 refine awp_seq ?_
 refine awp_seq ?_
 refine r1 T0_ok hP hm hN ?_
 iterate 3 refine g1 ?_
 refine awp_block ?_
 refine awp_loop (fun n st => ∃ i : Nat, i ≤ xs.length ∧ n = xs.length - i ∧ st = ⟨[(10, .val (.int .i64 ((i : Nat) : Int))), (9, .val (.int .i64 ((xs.length : Nat) : Int))), (8, .sl 1 (i64ss xs)), (5, .own 0), (1, .clo (.func kf) cs)], [(0, ⟨2, 1, false, i64s (mapF g xs i)⟩)], 1⟩) (xs.length) ⟨_, (by exact Weak.trans (weak_nil 5 2 1 rfl) (weak_sl (sub_cons rfl (sub_cons rfl (sub_cons rfl (sub_cons rfl (sub_cons rfl (sub_nil)))))))), 0, by omega, rfl, rfl⟩ ?_
 rintro n st ⟨i, hii, hni, rfl⟩
 have hml := mapF_len g xs hii
 refine awp_seq ?_
 refine r1 T0_ok hP hm hN ?_
 refine g1 ?_
 refine awp_seq ?_
 refine awp_cond rfl (fun hc0 => ?_) (fun hc0 => ?_)
 ·
  have hlti : i < xs.length := by simpa using hc0
  have hgx := i64ss_get xs i hlti
  refine awp_skip ?_
  refine awp_seq ?_
  refine awp_block ?_
  refine awp_seq ?_
  refine r1 T0_ok hP hm hN ?_
  iterate 3 refine g1 ?_
  refine r1 T0_ok hP hm hN ?_
  iterate 3 refine g1 ?_
  refine gc1 ?_ (OpRel.does hask _ (hdom _ (getD_mem' hlti)) rfl rfl rfl rfl rfl rfl)
  refine g1 ?_
  refine ga1 ?_
  refine g1 ?_
  refine r1 T0_ok hP hm hN ?_
  iterate 2 refine g1 ?_
  refine ⟨xs.length - (i + 1), _, by omega, (by rw [mapF_succ (d := []) g hlti, i64s_app]; exact Weak.trans (weak_drop 1) (Weak.trans (weak_nx (nx' := 1) (by omega) (by rfl)) (weak_sl (sub_cons rfl (sub_cons rfl (sub_cons rfl (sub_cons rfl (sub_cons rfl (sub_nil))))))))), i + 1, by omega, rfl, rfl⟩
 ·
  have hgei : ¬ i < xs.length := by simpa using hc0
  have heqi : i = xs.length := by omega
  rw [heqi, mapF_all]
  refine awp_exit ?_
  repeat refine thenA_exit ?_
  refine blockA_hit ?_
  refine awp_seq ?_
  refine r1 T0_ok hP hm hN ?_
  iterate 2 refine g1 ?_
  refine awp_ret ?_
  refine fin_mk [0] rfl rfl ?_ (objs_cons rfl rfl rfl rfl rfl (.inl rfl) objs_nil) (by decide)
  rfl

noncomputable abbrev s_I_tooWide_1 : Spec (Bk × Int) where
  args := fun x => [bkD x.1, .rptr 1 [[.val (.int .i64 x.2)]] 0 0]
  pre := fun x => isBk x.1
  res := fun x => .val (.bool (decide (x.1.wide > x.2)))

set_option maxRecDepth 20000 in
set_option maxHeartbeats 1000000 in
theorem ok_I_tooWide_1 : FnOk Pr 88 s_I_tooWide_1 := by
 refine fn_ok 2 0 T0_ok Go.Proofs.Tryz.func88 rfl (enters_of Go.Proofs.Tryz.func88 rfl rfl) (fun _ => rfl) (fun _ => rfl) (fun _ => rfl) ?_
 rintro ⟨x, w⟩ hb C hP hN hm hG
 change awp C _ _ ⟨[(0, .val (.agg #[.int .i16 x.cls, .int .u8 x.m0, .int .u8 x.m1, .int .u8 x.m2, .int .i16 x.vol, .int .i16 x.wide, .int .i16 x.high, .int .i16 x.weight])), (1, .rptr 1 [[.val (.int .i64 w)]] 0 0)], [], 0⟩
 obtain ⟨hb_0, hb_1, hb_2, hb_3, hb_4, hb_5, hb_6, hb_7⟩ := hb
 have hb_0 : -32768 ≤ x.cls ∧ x.cls ≤ 32767 := hb_0
 have hb_1 : 0 ≤ x.m0 ∧ x.m0 ≤ 255 := hb_1
 have hb_2 : 0 ≤ x.m1 ∧ x.m1 ≤ 255 := hb_2
 have hb_3 : 0 ≤ x.m2 ∧ x.m2 ≤ 255 := hb_3
 have hb_4 : -32768 ≤ x.vol ∧ x.vol ≤ 32767 := hb_4
 have hb_5 : -32768 ≤ x.wide ∧ x.wide ≤ 32767 := hb_5
 have hb_6 : -32768 ≤ x.high ∧ x.high ≤ 32767 := hb_6
 have hb_7 : -32768 ≤ x.weight ∧ x.weight ≤ 32767 := hb_7
 refine awp_seq ?_
 refine r1 T0_ok hP hm hN ?_
 iterate 2 refine g1 ?_
 refine awp_seq ?_
 refine r1 T0_ok hP hm hN ?_
 iterate 6 refine g1 ?_
 refine awp_ret ?_
 refine fin_mk [] rfl rfl ?_ trivial (by decide)
 rfl

theorem says_wide {bs : List Bk} {w : Int} (hv : ∀ b ∈ bs, isBk b) : Says bkD (· ∈ bs) (fun b => decide (b.wide > w)) (.clo (.func 88) [.rptr 1 [[.val (.int .i64 w)]] 0 0]) :=
  ⟨88, [], [.rptr 1 [[.val (.int .i64 w)]] 0 0], (s_I_tooWide_1).comap (fun b => (b, w)), rfl, rfl, rfl, ok_I_tooWide_1.comap _, fun _ => rfl, fun _ h => hv _ h, fun _ => rfl, fun _ => rfl, fun _ => rfl, fun _ => rfl⟩

noncomputable abbrev s_I_tooWide : Spec (List Bk × Int) where
  args := fun x => [.sl 8 (bks x.1), .val (.int .i64 x.2)]
  pre := fun x => (∀ b ∈ x.1, isBk b) ∧ x.1.length ≤ 1048576
  res := fun x => .val (.bool (x.1.any (fun b => decide (b.wide > x.2))))

set_option maxRecDepth 20000 in
set_option maxHeartbeats 1000000 in
theorem ok_I_tooWide : FnOk Pr 51 s_I_tooWide := by
 refine fn_ok 2 0 T0_ok Go.Proofs.Tryz.func51 rfl (enters_of Go.Proofs.Tryz.func51 rfl rfl) (fun _ => rfl) (fun _ => rfl) (fun _ => rfl) ?_
 rintro ⟨bs, w⟩ ⟨hv, hl⟩ C hP hN hm hG
 change awp C _ _ ⟨[(0, .sl 8 (bks bs)), (1, .val (.int .i64 w))], [], 0⟩
 simp only at hv hl
 refine awp_seq ?_
 refine r1 T0_ok hP hm hN ?_
 iterate 2 refine g1 ?_
 refine awp_seq ?_
 refine r1 T0_ok hP hm hN ?_
 iterate 2 refine g1 ?_
 refine gc1 ?_ (call1 ok_slices_ContainsFunc_I_Book_I_Book (_, _, fun b => decide (b.wide > w)) [] (hpre := by (try dsimp only); exact ⟨by omega, says_wide hv⟩))
 refine g1 ?_
 refine awp_ret ?_
 refine fin_mk [] rfl rfl ?_ trivial (by decide)
 rfl

theorem any_at {α : Type} {d : α} {p : α → Bool} {xs : List α} {i : Nat} (hi : i < xs.length) (h : p (xs.getD i d) = true) : xs.any p = true := List.any_eq_true.2 ⟨_, getD_mem' hi, h⟩
theorem any_none {α : Type} {d : α} {p : α → Bool} {xs : List α} (h : ∀ j, j < xs.length → p (xs.getD j d) = false) : xs.any p = false := by
  rw [← Bool.not_eq_true]
  intro h2
  obtain ⟨x, hx, hp⟩ := List.any_eq_true.1 h2
  obtain ⟨i, hi, e⟩ := mem_getD (d := d) hx
  rw [← e, h i hi] at hp; cases hp

noncomputable abbrev s_S_l04Wide : Spec (List Bk × Int) where
  args := fun x => [.sl 8 (bks x.1), .val (.int .i64 x.2)]
  pre := fun x => (∀ b ∈ x.1, isBk b) ∧ x.1.length ≤ 1048576
  res := fun x => .val (.bool (!x.1.any (fun b => decide (b.wide > x.2))))

set_option maxRecDepth 20000 in
set_option maxHeartbeats 1000000 in
theorem ok_S_l04Wide : FnOk Pr 57 s_S_l04Wide := by
 refine fn_ok 2 0 T0_ok Go.Proofs.Tryz.func57 rfl (enters_of Go.Proofs.Tryz.func57 rfl rfl) (fun _ => rfl) (fun _ => rfl) (fun _ => rfl) ?_
 rintro ⟨bs, w⟩ ⟨hv, hl⟩ C hP hN hm hG
 change awp C _ _ ⟨[(0, .sl 8 (bks bs)), (1, .val (.int .i64 w))], [], 0⟩
 simp only at hv hl
 refine awp_seq ?_
 refine r1 T0_ok hP hm hN ?_
 refine g1 ?_
 refine awp_seq ?_
 refine awp_seq ?_
 refine r1 T0_ok hP hm hN ?_
 refine g1 ?_
 refine awp_block ?_
 refine awp_loop (fun n st => ∃ i : Nat, i ≤ bs.length ∧ (∀ j, j < i → decide ((bs.getD j bk0).wide > w) = false) ∧ n = bs.length - i ∧ st = ⟨[(5, .val (.int .i64 ((i : Nat) : Int))), (0, .sl 8 (bks bs)), (1, .val (.int .i64 w))], [], 0⟩) (bs.length) ⟨_, weak_sl (sub_cons rfl (sub_cons rfl (sub_cons rfl (sub_nil)))), 0, by omega, fun j h => by omega, rfl, rfl⟩ ?_
 rintro n st ⟨i, hii, hall, hni, rfl⟩
 refine awp_seq ?_
 refine awp_seq ?_
 refine r1 T0_ok hP hm hN ?_
 iterate 4 refine g1 ?_
 refine awp_cond rfl (fun hc0 => ?_) (fun hc0 => ?_)
 ·
  have hlti : i < bs.length := by simpa using hc0
  have hgx := bks_get bs i hlti
  have hbx := (hv _ (getD_mem' (d := bk0) hlti)).2.2.2.2.2.1
  have hbw : -32768 ≤ (bs.getD i bk0).wide ∧ (bs.getD i bk0).wide ≤ 32767 := hbx
  refine awp_skip ?_
  refine awp_seq ?_
  refine awp_block ?_
  refine awp_seq ?_
  refine r1 T0_ok hP hm hN ?_
  iterate 8 refine g1 ?_
  refine awp_cond rfl (fun hc1 => ?_) (fun hc1 => ?_)
  ·
   refine awp_seq ?_
   refine r1 T0_ok hP hm hN ?_
   refine g1 ?_
   refine awp_ret ?_
   refine fin_mk [] rfl rfl ?_ trivial (by decide)
   show D.val (.bool (!bs.any (fun b => decide (b.wide > w)))) = _
   rw [any_at (d := bk0) (p := fun b => decide (b.wide > w)) hlti hc1]
   rfl
  ·
   refine awp_skip ?_
   refine r1 T0_ok hP hm hN ?_
   iterate 3 refine g1 ?_
   refine ⟨bs.length - (i + 1), _, by omega, weak_sl (sub_cons rfl (sub_cons rfl (sub_cons rfl (sub_nil)))), i + 1, by omega, upto_step hall hc1, rfl, rfl⟩
 ·
  have hgei : ¬ i < bs.length := by simpa using hc0
  have heqi : i = bs.length := by omega
  refine awp_exit ?_
  repeat refine thenA_exit ?_
  refine blockA_hit ?_
  refine awp_seq ?_
  refine r1 T0_ok hP hm hN ?_
  refine g1 ?_
  refine awp_ret ?_
  refine fin_mk [] rfl rfl ?_ trivial (by decide)
  show D.val (.bool (!bs.any (fun b => decide (b.wide > w)))) = _
  rw [any_none (d := bk0) (p := fun b => decide (b.wide > w)) (fun j hj => hall j (by omega))]
  rfl
end Go.Proofs.YtheoapoddmmahaaGreat.Abs

