import Derived.Test.YtamdnmkdhpleiaaW10
set_option linter.unusedVariables false
set_option linter.unusedSimpArgs false
namespace Go.Proofs.Ytamdnmkdhpleiaa.Abs
open Go Go.RowKit
def mapF {α β : Type} (g : α → β) (xs : List α) (i : Nat) : List β := (xs.take i).map g
theorem mapF_succ {α β : Type} {d : α} (g : α → β) {xs : List α} {i : Nat} (h : i < xs.length) : mapF g xs (i + 1) = mapF g xs i ++ [g (xs.getD i d)] := by
  have e : xs.getD i d = xs[i] := by simp [List.getD, h]
  unfold mapF
  rw [e, List.take_succ_eq_append_getElem h, List.map_append]
  rfl
theorem mapF_all {α β : Type} (g : α → β) (xs : List α) : mapF g xs xs.length = xs.map g := by simp [mapF]
theorem mapF_len {α β : Type} (g : α → β) (xs : List α) {i : Nat} (h : i ≤ xs.length) : (mapF g xs i).length = i := by simp [mapF]; omega
theorem fnCell_cases {d : D} (h : fnCell d = true) : (∃ v, d = .val v) ∨ ∃ f cs, d = .clo f cs := by
  unfold fnCell at h
  split at h
  · exact .inl ⟨_, rfl⟩
  · exact .inr ⟨_, _, rfl⟩
  · cases h
theorem i64s_app (xs ys : List Int) : i64s (xs ++ ys) = i64s xs ++ i64s ys := by simp
theorem bks_app (xs ys : List Bk) : bks (xs ++ ys) = bks xs ++ bks ys := by simp
theorem pls_app (xs ys : List Pl) : pls (xs ++ ys) = pls xs ++ pls ys := by simp

noncomputable def sortedB (c : Bk → Bk → Int) (xs : List Bk) : Bool := ask (∀ q : Nat, q + 1 < xs.length → ¬ c (xs.getD (q + 1) bk0) (xs.getD q bk0) < 0)
abbrev okPl (p : Int) (x : Pl) : Bool := inI x.1 0 (p - 1) && validB x.2
noncomputable def validR (p : Int) (xs : List Pl) : Bool := ((inI p 1 60 && ask (risesP (xs.map Prod.fst))) && xs.all (okPl p)) && sortedB cmpU (xs.map Prod.snd)

noncomputable abbrev s_I_place : Spec Pl where
  args := fun x => [plD x]
  pre := fun x => isPl x
  res := fun x => i64D x.1

set_option maxRecDepth 20000 in
set_option maxHeartbeats 1000000 in
theorem ok_I_place : FnOk Pr 33 s_I_place := by
  refine fn_ok 1 0 T0_ok Go.Proofs.Try.func33 rfl (enters_of Go.Proofs.Try.func33 rfl rfl) (fun _ => rfl) (fun _ => rfl) (fun _ => rfl) ?_
  rintro x hb C hP hN hm hG
  change awp C _ _ ⟨[(0, .val (.agg #[.int .i16 x.1, .int .i16 x.2.cls, .int .u8 x.2.m0, .int .u8 x.2.m1, .int .u8 x.2.m2, .int .i16 x.2.vol, .int .i16 x.2.wide, .int .i16 x.2.high, .int .i16 x.2.weight]))], [], 0⟩
  have hb0 : -32768 ≤ x.1 ∧ x.1 ≤ 32767 := hb.1
  refine awp_seq ?_
  refine r1 T0_ok hP hm hN ?_
  refine g1 ?_
  refine g1 ?_
  refine awp_seq ?_
  refine r1 T0_ok hP hm hN ?_
  refine g1 ?_
  refine g1 ?_
  refine g1 ?_
  refine g1 ?_
  refine awp_ret ?_
  refine fin_mk [] rfl rfl ?_ trivial (by decide)
  rfl

noncomputable abbrev s_I_bookOf : Spec Pl where
  args := fun x => [plD x]
  res := fun x => bkD x.2

set_option maxRecDepth 20000 in
set_option maxHeartbeats 1000000 in
theorem ok_I_bookOf : FnOk Pr 42 s_I_bookOf := by
  refine fn_ok 1 0 T0_ok Go.Proofs.Try.func42 rfl (enters_of Go.Proofs.Try.func42 rfl rfl) (fun _ => rfl) (fun _ => rfl) (fun _ => rfl) ?_
  rintro x - C hP hN hm hG
  change awp C _ _ ⟨[(0, .val (.agg #[.int .i16 x.1, .int .i16 x.2.cls, .int .u8 x.2.m0, .int .u8 x.2.m1, .int .u8 x.2.m2, .int .i16 x.2.vol, .int .i16 x.2.wide, .int .i16 x.2.high, .int .i16 x.2.weight]))], [], 0⟩
  refine awp_seq ?_
  refine r1 T0_ok hP hm hN ?_
  refine g1 ?_
  refine g1 ?_
  refine awp_seq ?_
  refine r1 T0_ok hP hm hN ?_
  refine g1 ?_
  refine g1 ?_
  refine g1 ?_
  refine awp_ret ?_
  refine fin_mk [] rfl rfl ?_ trivial (by decide)
  rfl

theorem does_place (xs : List Pl) (hv : ∀ x ∈ xs, isPl x) : Does Pr (fun p => [plD p]) (· ∈ xs) (fun p => i64D p.1) (.val (.func (.func 33) #[] #[])) :=
  ⟨33, [], [], s_I_place, rfl, rfl, rfl, ok_I_place, fun _ => rfl, fun _ h => hv _ h, fun _ => rfl, fun _ => rfl, fun _ => rfl, fun _ => rfl⟩
theorem does_book (dom : Pl → Prop) : Does Pr (fun p => [plD p]) dom (fun p => bkD p.2) (.val (.func (.func 42) #[] #[])) :=
  ⟨42, [], [], s_I_bookOf, rfl, rfl, rfl, ok_I_bookOf, fun _ => rfl, fun _ _ => trivial, fun _ => rfl, fun _ => rfl, fun _ => rfl, fun _ => rfl⟩
theorem does_cmp (dom : Bk × Bk → Prop) : Does Pr (fun p : Bk × Bk => [bkD p.1, bkD p.2]) dom (fun p => i64D (cmpU p.1 p.2)) (.val (.func (.func 40) #[] #[])) :=
  ⟨40, [], [], s_I_compare, rfl, rfl, rfl, ok_I_compare, fun _ => rfl, fun _ _ => trivial, fun _ => rfl, fun _ => rfl, fun _ => rfl, fun _ => rfl⟩

noncomputable abbrev s_I_each_I_Placed_int64 : Spec (List Pl × D × (Pl → Int)) where
  args := fun x => [.sl 9 (pls x.1), x.2.1]
  pre := fun x => x.1.length ≤ 1048576 ∧ fnCell x.2.1 = true ∧ Does Pr (fun p => [plD p]) (· ∈ x.1) (fun p => i64D (x.2.2 p)) x.2.1
  new := fun x => [⟨2, 1, false, i64s (x.1.map x.2.2)⟩]
  res := fun x => .own 0

set_option maxRecDepth 20000 in
set_option maxHeartbeats 1000000 in
theorem ok_I_each_I_Placed_int64 : FnOk Pr 32 s_I_each_I_Placed_int64 := by
  refine fn_ok 2 0 T0_ok Go.Proofs.Try.func32 rfl (enters_of Go.Proofs.Try.func32 rfl rfl) (fun _ => rfl) (fun _ => rfl) (fun _ => rfl) ?_
  rintro ⟨xs, fn, g⟩ ⟨hp, hf0, hask⟩ C hP hN hm hG
  simp only at hf0 hask
  obtain ⟨v, rfl⟩ | ⟨cf, cs, rfl⟩ := fnCell_cases hf0
  · skip
    change awp C _ _ ⟨[(0, .sl 9 (pls xs)), (1, .val v)], [], 0⟩
    simp only at hp
    refine awp_seq ?_
    refine r1 T0_ok hP hm hN ?_
    refine g1 ?_
    refine awp_seq ?_
    refine r1 T0_ok hP hm hN ?_
    refine g1 ?_
    refine awp_seq ?_
    refine awp_seq ?_
    refine r1 T0_ok hP hm hN ?_
    refine g1 ?_
    refine g1 ?_
    refine g1 ?_
    refine awp_block ?_
    refine awp_loop (fun n st => ∃ i : Nat, i ≤ xs.length ∧ n = xs.length - i ∧ st = ⟨[(10, .val (.int .i64 (i : Nat))), (9, .val (.int .i64 (xs.length : Nat))), (8, .sl 9 (pls xs)), (5, .own 0), (1, .val v)], [(0, ⟨2, 1, false, i64s (mapF g xs i)⟩)], 1⟩) (xs.length) ⟨_, (by exact Weak.trans (weak_nil 5 2 1 rfl) (weak_sl (sub_cons rfl (sub_cons rfl (sub_cons rfl (sub_cons rfl (sub_cons rfl (sub_nil)))))))), 0, by omega, rfl, rfl⟩ ?_
    rintro n st ⟨i, hii, hni, rfl⟩
    have hml := mapF_len g xs hii
    refine awp_seq ?_
    refine r1 T0_ok hP hm hN ?_
    refine g1 ?_
    refine awp_seq ?_
    refine awp_cond rfl (fun hc0 => ?_) (fun hc0 => ?_)
    · skip
      have hlti : i < xs.length := by simpa using hc0
      refine awp_skip ?_
      refine awp_seq ?_
      refine awp_block ?_
      refine awp_seq ?_
      refine r1 T0_ok hP hm hN ?_
      refine g1 ?_
      refine g1 ?_
      refine g1 ?_
      refine g1 ?_
      refine r1 T0_ok hP hm hN ?_
      refine g1 ?_
      refine g1 ?_
      refine g1 ?_
      refine gc1 ?_ (OpRel.does hask _ (getD_mem' hlti) rfl rfl rfl rfl rfl rfl)
      refine g1 ?_
      refine ga1 ?_
      refine g1 ?_
      refine r1 T0_ok hP hm hN ?_
      refine g1 ?_
      refine g1 ?_
      refine ⟨xs.length - (i + 1), _, by omega, (by rw [mapF_succ (d := pl0) g hlti, i64s_app]; exact Weak.trans (weak_drop 2) (Weak.trans (weak_drop 1) (Weak.trans (weak_nx (nx' := 1) (by omega) (by rfl)) (weak_sl (sub_cons rfl (sub_cons rfl (sub_cons rfl (sub_cons rfl (sub_cons rfl (sub_nil)))))))))), i + 1, by omega, rfl, rfl⟩
    · skip
      have hgei : ¬ i < xs.length := by simpa using hc0
      have heqi : i = xs.length := by omega
      rw [heqi, mapF_all]
      refine awp_exit ?_
      repeat refine thenA_exit ?_
      refine blockA_hit ?_
      refine awp_seq ?_
      refine r1 T0_ok hP hm hN ?_
      refine g1 ?_
      refine g1 ?_
      refine awp_ret ?_
      refine fin_mk [0] rfl rfl ?_ (objs_cons rfl rfl rfl rfl rfl (.inl rfl) objs_nil) (by decide)
      rfl
  · skip
    change awp C _ _ ⟨[(0, .sl 9 (pls xs)), (1, .clo cf cs)], [], 0⟩
    simp only at hp
    refine awp_seq ?_
    refine r1 T0_ok hP hm hN ?_
    refine g1 ?_
    refine awp_seq ?_
    refine r1 T0_ok hP hm hN ?_
    refine g1 ?_
    refine awp_seq ?_
    refine awp_seq ?_
    refine r1 T0_ok hP hm hN ?_
    refine g1 ?_
    refine g1 ?_
    refine g1 ?_
    refine awp_block ?_
    refine awp_loop (fun n st => ∃ i : Nat, i ≤ xs.length ∧ n = xs.length - i ∧ st = ⟨[(10, .val (.int .i64 (i : Nat))), (9, .val (.int .i64 (xs.length : Nat))), (8, .sl 9 (pls xs)), (5, .own 0), (1, .clo cf cs)], [(0, ⟨2, 1, false, i64s (mapF g xs i)⟩)], 1⟩) (xs.length) ⟨_, (by exact Weak.trans (weak_nil 5 2 1 rfl) (weak_sl (sub_cons rfl (sub_cons rfl (sub_cons rfl (sub_cons rfl (sub_cons rfl (sub_nil)))))))), 0, by omega, rfl, rfl⟩ ?_
    rintro n st ⟨i, hii, hni, rfl⟩
    have hml := mapF_len g xs hii
    refine awp_seq ?_
    refine r1 T0_ok hP hm hN ?_
    refine g1 ?_
    refine awp_seq ?_
    refine awp_cond rfl (fun hc0 => ?_) (fun hc0 => ?_)
    · skip
      have hlti : i < xs.length := by simpa using hc0
      refine awp_skip ?_
      refine awp_seq ?_
      refine awp_block ?_
      refine awp_seq ?_
      refine r1 T0_ok hP hm hN ?_
      refine g1 ?_
      refine g1 ?_
      refine g1 ?_
      refine g1 ?_
      refine r1 T0_ok hP hm hN ?_
      refine g1 ?_
      refine g1 ?_
      refine g1 ?_
      refine gc1 ?_ (OpRel.does hask _ (getD_mem' hlti) rfl rfl rfl rfl rfl rfl)
      refine g1 ?_
      refine ga1 ?_
      refine g1 ?_
      refine r1 T0_ok hP hm hN ?_
      refine g1 ?_
      refine g1 ?_
      refine ⟨xs.length - (i + 1), _, by omega, (by rw [mapF_succ (d := pl0) g hlti, i64s_app]; exact Weak.trans (weak_drop 2) (Weak.trans (weak_drop 1) (Weak.trans (weak_nx (nx' := 1) (by omega) (by rfl)) (weak_sl (sub_cons rfl (sub_cons rfl (sub_cons rfl (sub_cons rfl (sub_cons rfl (sub_nil)))))))))), i + 1, by omega, rfl, rfl⟩
    · skip
      have hgei : ¬ i < xs.length := by simpa using hc0
      have heqi : i = xs.length := by omega
      rw [heqi, mapF_all]
      refine awp_exit ?_
      repeat refine thenA_exit ?_
      refine blockA_hit ?_
      refine awp_seq ?_
      refine r1 T0_ok hP hm hN ?_
      refine g1 ?_
      refine g1 ?_
      refine awp_ret ?_
      refine fin_mk [0] rfl rfl ?_ (objs_cons rfl rfl rfl rfl rfl (.inl rfl) objs_nil) (by decide)
      rfl

noncomputable abbrev s_I_each_I_Placed_I_Book : Spec (List Pl × D × (Pl → Bk)) where
  args := fun x => [.sl 9 (pls x.1), x.2.1]
  pre := fun x => x.1.length ≤ 1048576 ∧ fnCell x.2.1 = true ∧ Does Pr (fun p => [plD p]) (· ∈ x.1) (fun p => bkD (x.2.2 p)) x.2.1
  new := fun x => [⟨45, 8, false, bks (x.1.map x.2.2)⟩]
  res := fun x => .own 0

set_option maxRecDepth 20000 in
set_option maxHeartbeats 1000000 in
theorem ok_I_each_I_Placed_I_Book : FnOk Pr 41 s_I_each_I_Placed_I_Book := by
  refine fn_ok 2 0 T0_ok Go.Proofs.Try.func41 rfl (enters_of Go.Proofs.Try.func41 rfl rfl) (fun _ => rfl) (fun _ => rfl) (fun _ => rfl) ?_
  rintro ⟨xs, fn, g⟩ ⟨hp, hf0, hask⟩ C hP hN hm hG
  simp only at hf0 hask
  obtain ⟨v, rfl⟩ | ⟨cf, cs, rfl⟩ := fnCell_cases hf0
  · skip
    change awp C _ _ ⟨[(0, .sl 9 (pls xs)), (1, .val v)], [], 0⟩
    simp only at hp
    refine awp_seq ?_
    refine r1 T0_ok hP hm hN ?_
    refine g1 ?_
    refine awp_seq ?_
    refine r1 T0_ok hP hm hN ?_
    refine g1 ?_
    refine awp_seq ?_
    refine awp_seq ?_
    refine r1 T0_ok hP hm hN ?_
    refine g1 ?_
    refine g1 ?_
    refine g1 ?_
    refine awp_block ?_
    refine awp_loop (fun n st => ∃ i : Nat, i ≤ xs.length ∧ n = xs.length - i ∧ st = ⟨[(10, .val (.int .i64 (i : Nat))), (9, .val (.int .i64 (xs.length : Nat))), (8, .sl 9 (pls xs)), (5, .own 0), (1, .val v)], [(0, ⟨45, 8, false, bks (mapF g xs i)⟩)], 1⟩) (xs.length) ⟨_, (by exact Weak.trans (weak_nil 5 45 8 rfl) (weak_sl (sub_cons rfl (sub_cons rfl (sub_cons rfl (sub_cons rfl (sub_cons rfl (sub_nil)))))))), 0, by omega, rfl, rfl⟩ ?_
    rintro n st ⟨i, hii, hni, rfl⟩
    have hml := mapF_len g xs hii
    refine awp_seq ?_
    refine r1 T0_ok hP hm hN ?_
    refine g1 ?_
    refine awp_seq ?_
    refine awp_cond rfl (fun hc0 => ?_) (fun hc0 => ?_)
    · skip
      have hlti : i < xs.length := by simpa using hc0
      refine awp_skip ?_
      refine awp_seq ?_
      refine awp_block ?_
      refine awp_seq ?_
      refine r1 T0_ok hP hm hN ?_
      refine g1 ?_
      refine g1 ?_
      refine g1 ?_
      refine g1 ?_
      refine r1 T0_ok hP hm hN ?_
      refine g1 ?_
      refine g1 ?_
      refine g1 ?_
      refine gc1 ?_ (OpRel.does hask _ (getD_mem' hlti) rfl rfl rfl rfl rfl rfl)
      refine g1 ?_
      refine ga1 ?_
      refine g1 ?_
      refine r1 T0_ok hP hm hN ?_
      refine g1 ?_
      refine g1 ?_
      refine ⟨xs.length - (i + 1), _, by omega, (by rw [mapF_succ (d := pl0) g hlti, bks_app]; exact Weak.trans (weak_drop 2) (Weak.trans (weak_drop 1) (Weak.trans (weak_nx (nx' := 1) (by omega) (by rfl)) (weak_sl (sub_cons rfl (sub_cons rfl (sub_cons rfl (sub_cons rfl (sub_cons rfl (sub_nil)))))))))), i + 1, by omega, rfl, rfl⟩
    · skip
      have hgei : ¬ i < xs.length := by simpa using hc0
      have heqi : i = xs.length := by omega
      rw [heqi, mapF_all]
      refine awp_exit ?_
      repeat refine thenA_exit ?_
      refine blockA_hit ?_
      refine awp_seq ?_
      refine r1 T0_ok hP hm hN ?_
      refine g1 ?_
      refine g1 ?_
      refine awp_ret ?_
      refine fin_mk [0] rfl rfl ?_ (objs_cons rfl rfl rfl rfl rfl (.inl rfl) objs_nil) (by decide)
      rfl
  · skip
    change awp C _ _ ⟨[(0, .sl 9 (pls xs)), (1, .clo cf cs)], [], 0⟩
    simp only at hp
    refine awp_seq ?_
    refine r1 T0_ok hP hm hN ?_
    refine g1 ?_
    refine awp_seq ?_
    refine r1 T0_ok hP hm hN ?_
    refine g1 ?_
    refine awp_seq ?_
    refine awp_seq ?_
    refine r1 T0_ok hP hm hN ?_
    refine g1 ?_
    refine g1 ?_
    refine g1 ?_
    refine awp_block ?_
    refine awp_loop (fun n st => ∃ i : Nat, i ≤ xs.length ∧ n = xs.length - i ∧ st = ⟨[(10, .val (.int .i64 (i : Nat))), (9, .val (.int .i64 (xs.length : Nat))), (8, .sl 9 (pls xs)), (5, .own 0), (1, .clo cf cs)], [(0, ⟨45, 8, false, bks (mapF g xs i)⟩)], 1⟩) (xs.length) ⟨_, (by exact Weak.trans (weak_nil 5 45 8 rfl) (weak_sl (sub_cons rfl (sub_cons rfl (sub_cons rfl (sub_cons rfl (sub_cons rfl (sub_nil)))))))), 0, by omega, rfl, rfl⟩ ?_
    rintro n st ⟨i, hii, hni, rfl⟩
    have hml := mapF_len g xs hii
    refine awp_seq ?_
    refine r1 T0_ok hP hm hN ?_
    refine g1 ?_
    refine awp_seq ?_
    refine awp_cond rfl (fun hc0 => ?_) (fun hc0 => ?_)
    · skip
      have hlti : i < xs.length := by simpa using hc0
      refine awp_skip ?_
      refine awp_seq ?_
      refine awp_block ?_
      refine awp_seq ?_
      refine r1 T0_ok hP hm hN ?_
      refine g1 ?_
      refine g1 ?_
      refine g1 ?_
      refine g1 ?_
      refine r1 T0_ok hP hm hN ?_
      refine g1 ?_
      refine g1 ?_
      refine g1 ?_
      refine gc1 ?_ (OpRel.does hask _ (getD_mem' hlti) rfl rfl rfl rfl rfl rfl)
      refine g1 ?_
      refine ga1 ?_
      refine g1 ?_
      refine r1 T0_ok hP hm hN ?_
      refine g1 ?_
      refine g1 ?_
      refine ⟨xs.length - (i + 1), _, by omega, (by rw [mapF_succ (d := pl0) g hlti, bks_app]; exact Weak.trans (weak_drop 2) (Weak.trans (weak_drop 1) (Weak.trans (weak_nx (nx' := 1) (by omega) (by rfl)) (weak_sl (sub_cons rfl (sub_cons rfl (sub_cons rfl (sub_cons rfl (sub_cons rfl (sub_nil)))))))))), i + 1, by omega, rfl, rfl⟩
    · skip
      have hgei : ¬ i < xs.length := by simpa using hc0
      have heqi : i = xs.length := by omega
      rw [heqi, mapF_all]
      refine awp_exit ?_
      repeat refine thenA_exit ?_
      refine blockA_hit ?_
      refine awp_seq ?_
      refine r1 T0_ok hP hm hN ?_
      refine g1 ?_
      refine g1 ?_
      refine awp_ret ?_
      refine fin_mk [0] rfl rfl ?_ (objs_cons rfl rfl rfl rfl rfl (.inl rfl) objs_nil) (by decide)
      rfl

noncomputable abbrev s_I_Rack_books : Spec (Int × List Pl) where
  args := fun x => [rackD x]
  pre := fun x => x.2.length ≤ 1048576
  new := fun x => [⟨45, 8, false, bks (x.2.map Prod.snd)⟩]
  res := fun x => .own 0

set_option maxRecDepth 20000 in
set_option maxHeartbeats 1000000 in
theorem ok_I_Rack_books : FnOk Pr 25 s_I_Rack_books := by
  refine fn_ok 1 0 T0_ok Go.Proofs.Try.func25 rfl (enters_of Go.Proofs.Try.func25 rfl rfl) (fun _ => rfl) (fun _ => rfl) (fun _ => rfl) ?_
  rintro ⟨p, xs⟩ hl C hP hN hm hG
  change awp C _ _ ⟨[(0, .agg [.val (.int .i16 p), .sl 9 (pls xs)])], [], 0⟩
  have hl : xs.length ≤ 1048576 := hl
  refine awp_seq ?_
  refine r1 T0_ok hP hm hN ?_
  refine g1 ?_
  refine g1 ?_
  refine awp_seq ?_
  refine r1 T0_ok hP hm hN ?_
  refine g1 ?_
  refine g1 ?_
  refine gc1 ?_ (call1 ok_I_each_I_Placed_I_Book (_, .val (.func (.func 42) #[] #[]), Prod.snd) [] (hpre := by (try dsimp only); exact ⟨hl, rfl, does_book _⟩))
  refine g1 ?_
  refine awp_ret ?_
  refine fin_mk [1] rfl rfl ?_ (objs_cons rfl rfl rfl rfl rfl (.inl rfl) objs_nil) (by decide)
  rfl

noncomputable abbrev s_slices_IsSortedFunc_I_Book_I_Book : Spec (List Bk × D × (Bk → Bk → Int)) where
  args := fun x => [.sl 8 (bks x.1), x.2.1]
  pre := fun x => x.1.length ≤ 9223372036854775807 ∧ Does Pr (fun p : Bk × Bk => [bkD p.1, bkD p.2]) (fun _ => True) (fun p => i64D (x.2.2 p.1 p.2)) x.2.1
  res := fun x => .val (.bool (sortedB x.2.2 x.1))

set_option maxRecDepth 20000 in
set_option maxHeartbeats 1000000 in
theorem ok_slices_IsSortedFunc_I_Book_I_Book : FnOk Pr 39 s_slices_IsSortedFunc_I_Book_I_Book := by
  refine fn_ok 2 0 T0_ok Go.Proofs.Try.func39 rfl (enters_of Go.Proofs.Try.func39 rfl rfl) (fun _ => rfl) (fun _ => rfl) (fun _ => rfl) ?_
  rintro ⟨xs, fn, c⟩ ⟨hp, hask⟩ C hP hN hm hG
  change awp C _ _ ⟨[(0, .sl 8 (bks xs)), (1, fn)], [], 0⟩
  simp only at hp hask
  refine awp_seq ?_
  refine r1 T0_ok hP hm hN ?_
  refine g1 ?_
  refine awp_seq ?_
  refine awp_seq ?_
  refine r1 T0_ok hP hm hN ?_
  refine g1 ?_
  refine g1 ?_
  refine g1 ?_
  refine g1 ?_
  refine awp_block ?_
  refine awp_loop (fun n st => ∃ j : Int, -1 ≤ j ∧ j ≤ (xs.length : Int) - 1 ∧ (∀ q : Nat, j ≤ q → q + 1 < xs.length → ¬ c (xs.getD (q + 1) bk0) (xs.getD q bk0) < 0) ∧ n = j.toNat ∧ st = ⟨[(5, .val (.int .i64 j)), (0, .sl 8 (bks xs)), (1, fn)], [], 0⟩) ((xs.length : Int) - 1).toNat ⟨_, weak_sl (sub_cons rfl (sub_cons rfl (sub_cons rfl sub_nil))), (xs.length : Int) - 1, by omega, by omega, fun q h1 h2 => by omega, rfl, rfl⟩ ?_
  rintro n st ⟨j, hj1, hj2, hall, hn, rfl⟩
  refine awp_seq ?_
  refine awp_seq ?_
  refine r1 T0_ok hP hm hN ?_
  refine g1 ?_
  refine g1 ?_
  refine awp_cond rfl (fun hc0 => ?_) (fun hc0 => ?_)
  · skip
    have hj : 0 < j := by simpa using hc0
    refine awp_skip ?_
    refine awp_seq ?_
    refine awp_block ?_
    refine awp_seq ?_
    refine awp_draw T0_ok hP hm hN Pr_mix [0, 1, 2, 3, 4, 5, 6, 7, 8, 9, 10, 11] [10] _ rfl (by rfl) ?_
    refine d1 T0_ok ?_
    refine d1 T0_ok ?_
    refine d1 T0_ok ?_
    refine d1 T0_ok ?_
    refine d1 T0_ok ?_
    refine d1 T0_ok ?_
    refine d1 T0_ok ?_
    refine d1 T0_ok ?_
    refine d1 T0_ok ?_
    refine d1 T0_ok ?_
    refine dp1 ?_ (OpRel.does hask (xs.getD j.toNat bk0, xs.getD (j - 1).toNat bk0) trivial rfl rfl rfl rfl rfl rfl)
    refine d1 T0_ok ?_
    refine dreg_nil ?_
    refine awp_cond rfl (fun hc1 => ?_) (fun hc1 => ?_)
    · skip
      refine awp_seq ?_
      refine r1 T0_ok hP hm hN ?_
      refine g1 ?_
      refine awp_ret ?_
      refine fin_mk [] rfl rfl ?_ trivial (by decide)
      show D.val (.bool (sortedB c xs)) = D.val (.bool false)
      rw [sortedB, ask_false (fun h => h (j - 1).toNat (by omega) (by rw [show (j - 1).toNat + 1 = j.toNat by omega]; simpa using hc1))]
    · skip
      refine awp_skip ?_
      refine r1 T0_ok hP hm hN ?_
      refine g1 ?_
      refine g1 ?_
      refine g1 ?_
      refine ⟨(j - 1).toNat, _, by omega, weak_sl (sub_cons rfl (sub_cons rfl (sub_cons rfl sub_nil))), j - 1, by omega, by omega, fun q h1 h2 => ?_, rfl, rfl⟩
      by_cases e : j ≤ q
      · exact hall q e h2
      · rw [show q + 1 = j.toNat by omega, show q = (j - 1).toNat by omega]
        simpa using hc1
  · skip
    have hj : ¬ 0 < j := by simpa using hc0
    refine awp_exit ?_
    repeat refine thenA_exit ?_
    refine blockA_hit ?_
    refine awp_seq ?_
    refine r1 T0_ok hP hm hN ?_
    refine g1 ?_
    refine awp_ret ?_
    refine fin_mk [] rfl rfl ?_ trivial (by decide)
    show D.val (.bool (sortedB c xs)) = D.val (.bool true)
    rw [sortedB, ask_true (fun q hq => hall q (by omega) hq)]

noncomputable abbrev s_I_isSorted : Spec (List Bk) where
  args := fun xs => [.sl 8 (bks xs)]
  pre := fun xs => xs.length ≤ 9223372036854775807
  res := fun xs => .val (.bool (sortedB cmpU xs))

set_option maxRecDepth 20000 in
set_option maxHeartbeats 1000000 in
theorem ok_I_isSorted : FnOk Pr 24 s_I_isSorted := by
  refine fn_ok 1 0 T0_ok Go.Proofs.Try.func24 rfl (enters_of Go.Proofs.Try.func24 rfl rfl) (fun _ => rfl) (fun _ => rfl) (fun _ => rfl) ?_
  rintro xs hl C hP hN hm hG
  change awp C _ _ ⟨[(0, .sl 8 (bks xs))], [], 0⟩
  have hl : xs.length ≤ 9223372036854775807 := hl
  refine awp_seq ?_
  refine r1 T0_ok hP hm hN ?_
  refine g1 ?_
  refine awp_seq ?_
  refine r1 T0_ok hP hm hN ?_
  refine g1 ?_
  refine gc1 ?_ (call1 ok_slices_IsSortedFunc_I_Book_I_Book (_, .val (.func (.func 40) #[] #[]), cmpU) [] (hpre := by (try dsimp only); exact ⟨hl, does_cmp _⟩))
  refine g1 ?_
  refine awp_ret ?_
  refine fin_mk [] rfl rfl ?_ trivial (by decide)
  rfl

noncomputable abbrev s_slices_IndexFunc_I_Placed_I_Placed : Spec (List Pl × D × (Pl → Bool)) where
  args := fun x => [.sl 9 (pls x.1), x.2.1]
  pre := fun x => x.1.length ≤ 9223372036854775807 ∧ Says plD (· ∈ x.1) x.2.2 x.2.1
  res := fun x => .val (.int .i64 (idxOf x.2.2 x.1))

set_option maxRecDepth 20000 in
set_option maxHeartbeats 1000000 in
theorem ok_slices_IndexFunc_I_Placed_I_Placed : FnOk Pr 56 s_slices_IndexFunc_I_Placed_I_Placed := by
  refine fn_ok 2 0 T0_ok Go.Proofs.Try.func56 rfl (enters_of Go.Proofs.Try.func56 rfl rfl) (fun _ => rfl) (fun _ => rfl) (fun _ => rfl) ?_
  rintro ⟨xs, fn, p⟩ ⟨hp, hask⟩ C hP hN hm hG
  change awp C _ _ ⟨[(0, .sl 9 (pls xs)), (1, fn)], [], 0⟩
  simp only at hp hask
  refine awp_seq ?_
  refine r1 T0_ok hP hm hN ?_
  refine g1 ?_
  refine awp_seq ?_
  refine awp_seq ?_
  refine r1 T0_ok hP hm hN ?_
  refine g1 ?_
  refine g1 ?_
  refine g1 ?_
  refine awp_block ?_
  refine awp_loop (fun n st => ∃ i : Nat, i ≤ xs.length ∧ (∀ j, j < i → p (xs.getD j pl0) = false) ∧ n = xs.length - i ∧ st = ⟨[(8, .val (.int .i64 (i : Nat))), (7, .val (.int .i64 (xs.length : Nat))), (0, .sl 9 (pls xs)), (1, fn)], [], 0⟩) (xs.length) ⟨_, weak_sl (sub_cons rfl (sub_cons rfl (sub_cons rfl (sub_cons rfl (sub_nil))))), 0, by omega, fun j h1 => by omega, rfl, rfl⟩ ?_
  rintro n st ⟨i, hii, hall, hni, rfl⟩
  refine awp_seq ?_
  refine r1 T0_ok hP hm hN ?_
  refine g1 ?_
  refine awp_seq ?_
  refine awp_cond rfl (fun hc0 => ?_) (fun hc0 => ?_)
  · skip
    have hlti : i < xs.length := by simpa using hc0
    refine awp_skip ?_
    refine awp_seq ?_
    refine awp_block ?_
    refine awp_seq ?_
    refine r1 T0_ok hP hm hN ?_
    refine g1 ?_
    refine g1 ?_
    refine awp_seq ?_
    refine r1 T0_ok hP hm hN ?_
    refine g1 ?_
    refine g1 ?_
    refine g1 ?_
    refine g1 ?_
    refine g1 ?_
    refine gc1 ?_ (OpRel.does hask _ (by first | exact getD_mem' hlti | exact hn) rfl rfl rfl rfl rfl rfl)
    refine awp_cond rfl (fun hc1 => ?_) (fun hc1 => ?_)
    · skip
      refine awp_seq ?_
      refine r1 T0_ok hP hm hN ?_
      refine g1 ?_
      refine g1 ?_
      refine awp_ret ?_
      refine fin_mk [] rfl rfl ?_ trivial (by decide)
      show D.val (.int .i64 (idxOf p xs)) = _
      rw [idxOf_some (d := pl0) hlti hc1 (fun j hj => hall j hj)]
      rfl
    · skip
      refine awp_skip ?_
      refine r1 T0_ok hP hm hN ?_
      refine g1 ?_
      refine g1 ?_
      refine ⟨xs.length - (i + 1), _, by omega, weak_sl (sub_cons rfl (sub_cons rfl (sub_cons rfl (sub_cons rfl (sub_nil))))), i + 1, by omega, upto_step hall hc1, rfl, rfl⟩
  · skip
    have hgei : ¬ i < xs.length := by simpa using hc0
    have heqi : i = xs.length := by omega
    refine awp_exit ?_
    repeat refine thenA_exit ?_
    refine blockA_hit ?_
    refine awp_seq ?_
    refine r1 T0_ok hP hm hN ?_
    refine g1 ?_
    refine awp_ret ?_
    refine fin_mk [] rfl rfl ?_ trivial (by decide)
    show D.val (.int .i64 (idxOf p xs)) = _
    rw [idxOf_none (d := pl0) (fun j hj => hall j (by omega))]
    rfl

noncomputable abbrev s_slices_ContainsFunc_I_Placed_I_Placed : Spec (List Pl × D × (Pl → Bool)) where
  args := fun x => [.sl 9 (pls x.1), x.2.1]
  pre := fun x => x.1.length ≤ 9223372036854775807 ∧ Says plD (· ∈ x.1) x.2.2 x.2.1
  res := fun x => .val (.bool (x.1.any x.2.2))

set_option maxRecDepth 20000 in
set_option maxHeartbeats 1000000 in
theorem ok_slices_ContainsFunc_I_Placed_I_Placed : FnOk Pr 46 s_slices_ContainsFunc_I_Placed_I_Placed := by
  refine fn_ok 2 0 T0_ok Go.Proofs.Try.func46 rfl (enters_of Go.Proofs.Try.func46 rfl rfl) (fun _ => rfl) (fun _ => rfl) (fun _ => rfl) ?_
  rintro ⟨xs, fn, p⟩ hp C hP hN hm hG
  change awp C _ _ ⟨[(0, .sl 9 (pls xs)), (1, fn)], [], 0⟩
  refine awp_seq ?_
  refine r1 T0_ok hP hm hN ?_
  refine g1 ?_
  refine awp_seq ?_
  refine r1 T0_ok hP hm hN ?_
  refine g1 ?_
  refine g1 ?_
  refine gc1 ?_ (call1 ok_slices_IndexFunc_I_Placed_I_Placed (_, _, p) [] (hargs := (by exact args_cons arga_slsl (args_cons (arga_does (by exact hp.2)) args_nil))) (hpre := by (try dsimp only); exact hp))
  refine g1 ?_
  refine g1 ?_
  refine awp_ret ?_
  refine fin_mk [] rfl rfl ?_ trivial (by decide)
  show D.val (.bool (xs.any p)) = _
  rw [← idxOf_any]
  rfl

noncomputable abbrev s_I_areAll_I_Placed_1 (fn : D) (dom : Pl → Prop) (p : Pl → Bool) : Spec Pl where
  args := fun n => [plD n, .rptr 1 [[fn]] 0 0]
  pre := fun n => dom n
  res := fun n => .val (.bool (!p n))

set_option maxRecDepth 20000 in
set_option maxHeartbeats 1000000 in
theorem ok_I_areAll_I_Placed_1 (fn : D) (dom : Pl → Prop) (p : Pl → Bool) (hask : Says plD dom p fn) : FnOk Pr 47 (s_I_areAll_I_Placed_1 fn dom p) := by
  refine fn_ok 2 0 T0_ok Go.Proofs.Try.func47 rfl (enters_of Go.Proofs.Try.func47 rfl rfl) (fun _ => rfl) (fun _ => rfl) (fun _ => rfl) ?_
  rintro n hn C hP hN hm hG
  change awp C _ _ ⟨[(0, plD n), (1, .rptr 1 [[fn]] 0 0)], [], 0⟩
  refine awp_seq ?_
  refine r1 T0_ok hP hm hN ?_
  refine g1 ?_
  refine g1 ?_
  refine awp_seq ?_
  refine r1 T0_ok hP hm hN ?_
  refine g1 ?_
  refine g1 ?_
  refine gc1 ?_ (OpRel.does hask _ (by first | exact getD_mem' hlti | exact hn) rfl rfl rfl rfl rfl rfl)
  refine g1 ?_
  refine g1 ?_
  refine awp_ret ?_
  refine fin_mk [] rfl rfl ?_ trivial (by decide)
  rfl

theorem says_not_placed {fn : D} {dom : Pl → Prop} {p : Pl → Bool} (h : Says plD dom p fn) : Says plD dom (fun n => !p n) (.clo (.func 47) [.rptr 1 [[fn]] 0 0]) :=
  ⟨47, [], [.rptr 1 [[fn]] 0 0], s_I_areAll_I_Placed_1 fn dom p, rfl, rfl, rfl, ok_I_areAll_I_Placed_1 fn dom p h, fun _ => rfl, fun _ h => h, fun _ => rfl, fun _ => rfl, fun _ => rfl, fun _ => rfl⟩

noncomputable abbrev s_I_areAll_I_Placed : Spec (List Pl × D × (Pl → Bool)) where
  args := fun x => [.sl 9 (pls x.1), x.2.1]
  pre := fun x => x.1.length ≤ 9223372036854775807 ∧ fnCell x.2.1 = true ∧ Says plD (· ∈ x.1) x.2.2 x.2.1
  res := fun x => .val (.bool (x.1.all x.2.2))

set_option maxRecDepth 20000 in
set_option maxHeartbeats 1000000 in
theorem ok_I_areAll_I_Placed : FnOk Pr 34 s_I_areAll_I_Placed := by
  refine fn_ok 2 0 T0_ok Go.Proofs.Try.func34 rfl (enters_of Go.Proofs.Try.func34 rfl rfl) (fun _ => rfl) (fun _ => rfl) (fun _ => rfl) ?_
  rintro ⟨xs, fn, p⟩ ⟨hp, hf0, hask⟩ C hP hN hm hG
  change awp C _ _ ⟨[(0, .sl 9 (pls xs)), (1, fn)], [], 0⟩
  simp only at hp hf0 hask
  obtain ⟨hdc, hcl, hhf, hsf⟩ := fnCell_ok hf0
  refine awp_seq ?_
  refine r1 T0_ok hP hm hN ?_
  refine g1 ?_ (hpre := by exact hcl) (hst := by simp +decide (disch := omega) only [nrm, lk_nrm, dc_nrm, mk_nrm, mf_nrm, ti_nrm, ls_nrm, mp_nrm, nb_nrm, hset, pick_and, pick_or, ↓reduceIte, Nat.reduceAdd, wI64, wI32, wI16, wI8, wU8, List.length_map, Int.toNat_natCast, hdc]; rfl)
  refine g1 ?_ (hst := by simp +decide (disch := omega) only [nrm, lk_nrm, dc_nrm, mk_nrm, mf_nrm, ti_nrm, ls_nrm, mp_nrm, nb_nrm, hset, pick_and, pick_or, ↓reduceIte, Nat.reduceAdd, wI64, wI32, wI16, wI8, wU8, List.length_map, Int.toNat_natCast, hdc]; rfl)
  refine awp_seq ?_
  refine r1 T0_ok hP hm hN ?_
  refine g1 ?_ (hst := by simp +decide (disch := omega) only [nrm, lk_nrm, dc_nrm, mk_nrm, mf_nrm, ti_nrm, ls_nrm, mp_nrm, nb_nrm, hset, pick_and, pick_or, ↓reduceIte, Nat.reduceAdd, wI64, wI32, wI16, wI8, wU8, List.length_map, Int.toNat_natCast, hdc]; rfl)
  refine g1 ?_ (hst := by simp +decide (disch := omega) only [nrm, lk_nrm, dc_nrm, mk_nrm, mf_nrm, ti_nrm, ls_nrm, mp_nrm, nb_nrm, hset, pick_and, pick_or, ↓reduceIte, Nat.reduceAdd, wI64, wI32, wI16, wI8, wU8, List.length_map, Int.toNat_natCast, hdc]; rfl)
  refine gc1 ?_ (call1 ok_slices_ContainsFunc_I_Placed_I_Placed (_, _, fun n => !p n) [] (hpre := by (try dsimp only); exact ⟨hp, says_not_placed hask⟩)) (hst := by simp +decide (disch := omega) only [nrm, lk_nrm, dc_nrm, mk_nrm, mf_nrm, ti_nrm, ls_nrm, mp_nrm, nb_nrm, hset, pick_and, pick_or, ↓reduceIte, Nat.reduceAdd, wI64, wI32, wI16, wI8, wU8, List.length_map, Int.toNat_natCast, hdc]; rfl)
  refine g1 ?_ (hst := by simp +decide (disch := omega) only [nrm, lk_nrm, dc_nrm, mk_nrm, mf_nrm, ti_nrm, ls_nrm, mp_nrm, nb_nrm, hset, pick_and, pick_or, ↓reduceIte, Nat.reduceAdd, wI64, wI32, wI16, wI8, wU8, List.length_map, Int.toNat_natCast, hdc]; rfl)
  refine g1 ?_ (hst := by simp +decide (disch := omega) only [nrm, lk_nrm, dc_nrm, mk_nrm, mf_nrm, ti_nrm, ls_nrm, mp_nrm, nb_nrm, hset, pick_and, pick_or, ↓reduceIte, Nat.reduceAdd, wI64, wI32, wI16, wI8, wU8, List.length_map, Int.toNat_natCast, hdc]; rfl)
  refine awp_ret ?_
  refine fin_mk [] rfl rfl ?_ trivial (by decide)
  show D.val (.bool (xs.all p)) = _
  rw [← any_not]
  rfl

noncomputable abbrev s_I_ValidRack_1 : Spec (Pl × (Int × List Pl)) where
  args := fun x => [plD x.1, .rptr 2 [[.val (.int .i16 x.2.1), .sl 9 (pls x.2.2)]] 0 0]
  pre := fun x => 1 ≤ x.2.1 ∧ x.2.1 ≤ 60
  res := fun x => .val (.bool (okPl x.2.1 x.1))

set_option maxRecDepth 20000 in
set_option maxHeartbeats 1000000 in
theorem ok_I_ValidRack_1 : FnOk Pr 35 s_I_ValidRack_1 := by
  refine fn_ok 2 0 T0_ok Go.Proofs.Try.func35 rfl (enters_of Go.Proofs.Try.func35 rfl rfl) (fun _ => rfl) (fun _ => rfl) (fun _ => rfl) ?_
  rintro ⟨x, p, xs⟩ ⟨h1, h2⟩ C hP hN hm hG
  change awp C _ _ ⟨[(0, .val (.agg #[.int .i16 x.1, .int .i16 x.2.cls, .int .u8 x.2.m0, .int .u8 x.2.m1, .int .u8 x.2.m2, .int .i16 x.2.vol, .int .i16 x.2.wide, .int .i16 x.2.high, .int .i16 x.2.weight])), (1, .rptr 2 [[.val (.int .i16 p), .sl 9 (pls xs)]] 0 0)], [], 0⟩
  have h1 : 1 ≤ p := h1
  have h2 : p ≤ 60 := h2
  refine awp_seq ?_
  refine r1 T0_ok hP hm hN ?_
  refine g1 ?_
  refine g1 ?_
  refine awp_seq ?_
  refine r1 T0_ok hP hm hN ?_
  refine g1 ?_
  refine g1 ?_
  refine g1 ?_
  refine g1 ?_
  refine g1 ?_
  refine gc1 ?_ (call1 ok_I_within_int16 (_, _, _) [])
  refine g1 ?_
  refine gg1 ?_
  refine gg1 ?_
  refine ggc1 ?_ (hs := by intro hb; simp +decide only [hb, gd_tt, gd_ff, beq_self_eq_true, Bool.true_and, beq_true]; exact ⟨rfl, _, call1 ok_I_ValidBook x.2 [], rfl, rfl, rfl⟩)
  refine g1 ?_
  refine g1 ?_
  refine awp_ret ?_
  refine fin_mk [] rfl rfl ?_ trivial (by decide)
  rfl

theorem says_okPl {p : Int} {xs : List Pl} (hp : inI p 1 60 = true) (dom : Pl → Prop) : Says plD dom (okPl p) (.clo (.func 35) [.rptr 2 [[.val (.int .i16 p), .sl 9 (pls xs)]] 0 0]) :=
  ⟨35, [], [.rptr 2 [[.val (.int .i16 p), .sl 9 (pls xs)]] 0 0], (s_I_ValidRack_1).comap (fun x => (x, p, xs)), rfl, rfl, rfl, ok_I_ValidRack_1.comap _, fun _ => rfl, fun _ _ => inI_iff.1 hp, fun _ => rfl, fun _ => rfl, fun _ => rfl, fun _ => rfl⟩

noncomputable abbrev s_I_ValidRack : Spec (Int × List Pl) where
  args := fun x => [rackD x]
  pre := fun x => (∀ b ∈ x.2, isPl b) ∧ x.2.length ≤ 1048576
  res := fun x => .val (.bool (validR x.1 x.2))

set_option maxRecDepth 20000 in
set_option maxHeartbeats 1000000 in
theorem ok_I_ValidRack : FnOk Pr 18 s_I_ValidRack := by
  refine fn_ok 1 0 T0_ok Go.Proofs.Try.func18 rfl (enters_of Go.Proofs.Try.func18 rfl rfl) (fun _ => rfl) (fun _ => rfl) (fun _ => rfl) ?_
  rintro ⟨p, xs⟩ ⟨hv, hl⟩ C hP hN hm hG
  change awp C _ _ ⟨[(0, .agg [.val (.int .i16 p), .sl 9 (pls xs)])], [], 0⟩
  simp only at hv hl
  refine awp_seq ?_
  refine r1 T0_ok hP hm hN ?_
  refine g1 ?_
  refine g1 ?_
  refine awp_seq ?_
  refine r1 T0_ok hP hm hN ?_
  refine g1 ?_
  refine g1 ?_
  refine gc1 ?_ (call1 ok_I_within_int16 (_, _, _) [])
  refine g1 ?_
  cases h0 : inI p 1 60
  · skip
    refine areg_not rfl rfl (by simp +decide (disch := omega) only [nrm, lk_nrm, dc_nrm, mk_nrm, mf_nrm, ti_nrm, ls_nrm, mp_nrm, nb_nrm, hset, pick_and, pick_or, ↓reduceIte, Nat.reduceAdd, wI64, wI32, wI16, wI8, wU8, List.length_map, Int.toNat_natCast]; rfl) ?_
    refine areg_not rfl rfl (by simp +decide (disch := omega) only [nrm, lk_nrm, dc_nrm, mk_nrm, mf_nrm, ti_nrm, ls_nrm, mp_nrm, nb_nrm, hset, pick_and, pick_or, ↓reduceIte, Nat.reduceAdd, wI64, wI32, wI16, wI8, wU8, List.length_map, Int.toNat_natCast]; rfl) ?_
    refine areg_not rfl rfl (by simp +decide (disch := omega) only [nrm, lk_nrm, dc_nrm, mk_nrm, mf_nrm, ti_nrm, ls_nrm, mp_nrm, nb_nrm, hset, pick_and, pick_or, ↓reduceIte, Nat.reduceAdd, wI64, wI32, wI16, wI8, wU8, List.length_map, Int.toNat_natCast]; rfl) ?_
    refine areg_not rfl rfl (by simp +decide (disch := omega) only [nrm, lk_nrm, dc_nrm, mk_nrm, mf_nrm, ti_nrm, ls_nrm, mp_nrm, nb_nrm, hset, pick_and, pick_or, ↓reduceIte, Nat.reduceAdd, wI64, wI32, wI16, wI8, wU8, List.length_map, Int.toNat_natCast]; rfl) ?_
    refine g1 ?_
    refine g1 ?_
    refine areg_not rfl rfl (by simp +decide (disch := omega) only [nrm, lk_nrm, dc_nrm, mk_nrm, mf_nrm, ti_nrm, ls_nrm, mp_nrm, nb_nrm, hset, pick_and, pick_or, ↓reduceIte, Nat.reduceAdd, wI64, wI32, wI16, wI8, wU8, List.length_map, Int.toNat_natCast]; rfl) ?_
    refine areg_not rfl rfl (by simp +decide (disch := omega) only [nrm, lk_nrm, dc_nrm, mk_nrm, mf_nrm, ti_nrm, ls_nrm, mp_nrm, nb_nrm, hset, pick_and, pick_or, ↓reduceIte, Nat.reduceAdd, wI64, wI32, wI16, wI8, wU8, List.length_map, Int.toNat_natCast]; rfl) ?_
    refine areg_not rfl rfl (by simp +decide (disch := omega) only [nrm, lk_nrm, dc_nrm, mk_nrm, mf_nrm, ti_nrm, ls_nrm, mp_nrm, nb_nrm, hset, pick_and, pick_or, ↓reduceIte, Nat.reduceAdd, wI64, wI32, wI16, wI8, wU8, List.length_map, Int.toNat_natCast]; rfl) ?_
    refine areg_not rfl rfl (by simp +decide (disch := omega) only [nrm, lk_nrm, dc_nrm, mk_nrm, mf_nrm, ti_nrm, ls_nrm, mp_nrm, nb_nrm, hset, pick_and, pick_or, ↓reduceIte, Nat.reduceAdd, wI64, wI32, wI16, wI8, wU8, List.length_map, Int.toNat_natCast]; rfl) ?_
    refine g1 ?_
    refine g1 ?_
    refine areg_not rfl rfl (by simp +decide (disch := omega) only [nrm, lk_nrm, dc_nrm, mk_nrm, mf_nrm, ti_nrm, ls_nrm, mp_nrm, nb_nrm, hset, pick_and, pick_or, ↓reduceIte, Nat.reduceAdd, wI64, wI32, wI16, wI8, wU8, List.length_map, Int.toNat_natCast]; rfl) ?_
    refine areg_not rfl rfl (by simp +decide (disch := omega) only [nrm, lk_nrm, dc_nrm, mk_nrm, mf_nrm, ti_nrm, ls_nrm, mp_nrm, nb_nrm, hset, pick_and, pick_or, ↓reduceIte, Nat.reduceAdd, wI64, wI32, wI16, wI8, wU8, List.length_map, Int.toNat_natCast]; rfl) ?_
    refine areg_not rfl rfl (by simp +decide (disch := omega) only [nrm, lk_nrm, dc_nrm, mk_nrm, mf_nrm, ti_nrm, ls_nrm, mp_nrm, nb_nrm, hset, pick_and, pick_or, ↓reduceIte, Nat.reduceAdd, wI64, wI32, wI16, wI8, wU8, List.length_map, Int.toNat_natCast]; rfl) ?_
    refine g1 ?_
    refine g1 ?_
    refine awp_ret ?_
    refine fin_mk [] rfl rfl ?_ trivial (by decide)
    show D.val (.bool (validR p xs)) = _
    simp only [validR, *, Bool.false_and, Bool.and_false, Bool.true_and, Bool.and_true]
    rfl
  · skip
    refine gy1 ?_
    refine gy1 ?_
    refine gyc1 ?_ (call1 ok_I_each_I_Placed_int64 (_, .val (.func (.func 33) #[] #[]), Prod.fst) [] (hpre := by (try dsimp only); exact ⟨hl, rfl, does_place _ hv⟩))
    refine gyc1 ?_ (call1 ok_I_rises _ [] (hpre := by (try dsimp only); (simp only [List.length_map]; omega)))
    refine g1 ?_
    refine g1 ?_
    cases h1 : ask (risesP (xs.map Prod.fst))
    · skip
      refine areg_not rfl rfl (by simp +decide (disch := omega) only [nrm, lk_nrm, dc_nrm, mk_nrm, mf_nrm, ti_nrm, ls_nrm, mp_nrm, nb_nrm, hset, pick_and, pick_or, ↓reduceIte, Nat.reduceAdd, wI64, wI32, wI16, wI8, wU8, List.length_map, Int.toNat_natCast]; rfl) ?_
      refine areg_not rfl rfl (by simp +decide (disch := omega) only [nrm, lk_nrm, dc_nrm, mk_nrm, mf_nrm, ti_nrm, ls_nrm, mp_nrm, nb_nrm, hset, pick_and, pick_or, ↓reduceIte, Nat.reduceAdd, wI64, wI32, wI16, wI8, wU8, List.length_map, Int.toNat_natCast]; rfl) ?_
      refine areg_not rfl rfl (by simp +decide (disch := omega) only [nrm, lk_nrm, dc_nrm, mk_nrm, mf_nrm, ti_nrm, ls_nrm, mp_nrm, nb_nrm, hset, pick_and, pick_or, ↓reduceIte, Nat.reduceAdd, wI64, wI32, wI16, wI8, wU8, List.length_map, Int.toNat_natCast]; rfl) ?_
      refine areg_not rfl rfl (by simp +decide (disch := omega) only [nrm, lk_nrm, dc_nrm, mk_nrm, mf_nrm, ti_nrm, ls_nrm, mp_nrm, nb_nrm, hset, pick_and, pick_or, ↓reduceIte, Nat.reduceAdd, wI64, wI32, wI16, wI8, wU8, List.length_map, Int.toNat_natCast]; rfl) ?_
      refine g1 ?_
      refine g1 ?_
      refine areg_not rfl rfl (by simp +decide (disch := omega) only [nrm, lk_nrm, dc_nrm, mk_nrm, mf_nrm, ti_nrm, ls_nrm, mp_nrm, nb_nrm, hset, pick_and, pick_or, ↓reduceIte, Nat.reduceAdd, wI64, wI32, wI16, wI8, wU8, List.length_map, Int.toNat_natCast]; rfl) ?_
      refine areg_not rfl rfl (by simp +decide (disch := omega) only [nrm, lk_nrm, dc_nrm, mk_nrm, mf_nrm, ti_nrm, ls_nrm, mp_nrm, nb_nrm, hset, pick_and, pick_or, ↓reduceIte, Nat.reduceAdd, wI64, wI32, wI16, wI8, wU8, List.length_map, Int.toNat_natCast]; rfl) ?_
      refine areg_not rfl rfl (by simp +decide (disch := omega) only [nrm, lk_nrm, dc_nrm, mk_nrm, mf_nrm, ti_nrm, ls_nrm, mp_nrm, nb_nrm, hset, pick_and, pick_or, ↓reduceIte, Nat.reduceAdd, wI64, wI32, wI16, wI8, wU8, List.length_map, Int.toNat_natCast]; rfl) ?_
      refine g1 ?_
      refine g1 ?_
      refine awp_ret ?_
      refine fin_mk [] rfl rfl ?_ trivial (by decide)
      show D.val (.bool (validR p xs)) = _
      simp only [validR, *, Bool.false_and, Bool.and_false, Bool.true_and, Bool.and_true]
      rfl
    · skip
      refine gy1 ?_
      refine gy1 ?_
      refine gy1 ?_
      refine gyc1 ?_ (call1 ok_I_areAll_I_Placed (_, _, okPl p) [] (hpre := by (try dsimp only); exact ⟨by omega, rfl, says_okPl h0 _⟩))
      refine g1 ?_
      refine g1 ?_
      cases h2 : xs.all (okPl p)
      · skip
        refine areg_not rfl rfl (by simp +decide (disch := omega) only [nrm, lk_nrm, dc_nrm, mk_nrm, mf_nrm, ti_nrm, ls_nrm, mp_nrm, nb_nrm, hset, pick_and, pick_or, ↓reduceIte, Nat.reduceAdd, wI64, wI32, wI16, wI8, wU8, List.length_map, Int.toNat_natCast]; rfl) ?_
        refine areg_not rfl rfl (by simp +decide (disch := omega) only [nrm, lk_nrm, dc_nrm, mk_nrm, mf_nrm, ti_nrm, ls_nrm, mp_nrm, nb_nrm, hset, pick_and, pick_or, ↓reduceIte, Nat.reduceAdd, wI64, wI32, wI16, wI8, wU8, List.length_map, Int.toNat_natCast]; rfl) ?_
        refine areg_not rfl rfl (by simp +decide (disch := omega) only [nrm, lk_nrm, dc_nrm, mk_nrm, mf_nrm, ti_nrm, ls_nrm, mp_nrm, nb_nrm, hset, pick_and, pick_or, ↓reduceIte, Nat.reduceAdd, wI64, wI32, wI16, wI8, wU8, List.length_map, Int.toNat_natCast]; rfl) ?_
        refine g1 ?_
        refine g1 ?_
        refine awp_ret ?_
        refine fin_mk [] rfl rfl ?_ trivial (by decide)
        show D.val (.bool (validR p xs)) = _
        simp only [validR, *, Bool.false_and, Bool.and_false, Bool.true_and, Bool.and_true]
        rfl
      · skip
        refine gy1 ?_
        refine gyc1 ?_ (call1 ok_I_Rack_books (_, _) [] (hpre := by (try dsimp only); exact hl))
        refine gyc1 ?_ (call1 ok_I_isSorted _ [] (hpre := by (try dsimp only); (simp only [List.length_map]; omega)))
        refine g1 ?_
        refine g1 ?_
        refine awp_ret ?_
        refine fin_mk [] rfl rfl ?_ trivial (by decide)
        show D.val (.bool (validR p xs)) = _
        simp only [validR, *, Bool.false_and, Bool.and_false, Bool.true_and, Bool.and_true]
        rfl
end Go.Proofs.Ytamdnmkdhpleiaa.Abs
