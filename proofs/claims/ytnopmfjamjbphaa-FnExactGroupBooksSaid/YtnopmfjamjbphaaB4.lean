import Derived.Test.YtnopmfjamjbphaaB3
set_option linter.unusedVariables false
set_option linter.unusedSimpArgs false
namespace Go.Proofs.Ytnopmfjamjbphaa.Abs
open Go Go.RowKit
noncomputable abbrev s_L_markInt64SSN0 : Spec ((Nat → List Int) × Int) where
  args := fun x => [.own 0, .val (.int .i64 x.2)]
  pre := fun x => (∀ j, j < 7 → (x.1 j).length ≤ 1048576) ∧ 0 ≤ x.2 ∧ x.2 ≤ 1000000000000
  obs := fun x => [⟨25, 1, true, []⟩]
  out := fun x => [⟨25, 1, true, []⟩]
  res := fun x => .val (.int .i64 (kkF x.1 x.2 0))

set_option maxRecDepth 20000 in
set_option maxHeartbeats 1000000 in
theorem ok_L_markInt64SSN0 : FnOk Pr 15 s_L_markInt64SSN0 := by
  refine fn_okG 2 1 T0_ok Go.Proofs.Try.func15 rfl (enters_of Go.Proofs.Try.func15 rfl rfl) (fun _ => rfl) (fun _ => rfl) (fun _ => rfl) ?_
  rintro ⟨f, k⟩ ⟨hf, hk0, hk1⟩ C hP hN hm hG
  change awp C _ _ ⟨[(0, .own 0), (1, .val (.int .i64 k))], [(0, ⟨25, 1, true, []⟩)], 1⟩
  simp only at hf hk0 hk1
  have hkb0 := kkF_b (k := k) hf 0 (by omega)
  refine awp_seq ?_
  refine r1 T0_ok hP hm hN ?_
  refine g1 ?_
  refine awp_seq ?_
  refine awp_seq ?_
  refine r1 T0_ok hP hm hN ?_
  refine g1 ?_
  refine awp_block ?_
  refine awp_loop (fun n st => (n = 0 ∧ st = ⟨[(5, .val (.int .i64 0)), (1, .val (.int .i64 (kkF f k 0))), (0, .own 0)], [(0, ⟨25, 1, true, []⟩)], 1⟩)) 0 ⟨_, weak_sl (sub_cons rfl (sub_cons rfl (sub_cons rfl (sub_nil)))), ⟨rfl, rfl⟩⟩ ?_
  rintro n st (⟨rfl, rfl⟩)
  · skip
    refine awp_seq ?_
    refine awp_seq ?_
    refine r1 T0_ok hP hm hN ?_
    refine g1 ?_
    refine g1 ?_
    refine g1 ?_
    refine g1 ?_
    refine awp_cond rfl (fun hc => absurd hc (by decide)) (fun hc => ?_)
    refine awp_exit ?_
    repeat refine thenA_exit ?_
    refine blockA_hit ?_
    refine awp_seq ?_
    refine r1 T0_ok hP hm hN ?_
    refine g1 ?_
    refine g1 ?_
    refine awp_ret ?_
    refine finG_mk [] rfl rfl rfl ?_ (by decide)
    exact objsG_cons rfl rfl rfl rfl (.inl rfl) (objsG_nil)

theorem call_mark0 {o : Oper} {cf : Operand} {args : Array Operand} {tys : Array TypeId} {ev : Operand → D} {hp : HP} {nx : Nat} (f : Nat → List Int) (k : Int) (ho : o.op = .call ⟨.value cf, args, tys⟩) (hcf : fnParts (ev cf) = some (.func 15, [], []))
    (hpre : (∀ j, j < 7 → (f j).length ≤ 1048576) ∧ 0 ≤ k ∧ k ≤ 1000000000000) (hargs : args.toList.map ev = [.own 10, .val (.int .i64 k)]) (h0 : lk 10 hp = some ⟨25, 1, true, []⟩) :
    OpRel Pr o ev hp nx { d := .val (.int .i64 (kkF f k 0)), new := [], upd := [(10, ⟨25, 1, true, []⟩)] } := by
  have h := OpRel.callG ok_L_markInt64SSN0 (f, k) [10] (by decide) (o := o) (nx := nx) (d := .val (.int .i64 (kkF f k 0))) (K0 := [10]) ho hcf hpre (by
    rw [List.nil_append, List.append_nil, hargs]
    exact args_cons (arga_own rfl) (args_cons arga_val args_nil)) (objsG_cons h0 rfl rfl rfl (.inl rfl) (objsG_nil)) rfl rfl ⟨rfl, fm_cons (show okG 1 ⟨25, 1, true, tabD (fun j => .own (j + 1)) 0⟩ from okG_rows (f := f) (E := 2) _ (List.mem_cons.2 (.inl rfl))) (fm_nil)⟩
  simp only [List.map_cons, List.map_nil, updZ, shO, i64s_shC] at h
  exact h

noncomputable abbrev s_L_markInt64SSN1 : Spec ((Nat → List Int) × Int) where
  args := fun x => [.own 0, .val (.int .i64 x.2)]
  pre := fun x => (∀ j, j < 7 → (x.1 j).length ≤ 1048576) ∧ 0 ≤ x.2 ∧ x.2 ≤ 1000000000000
  obs := fun x => [⟨25, 1, true, [[.own 1]]⟩, ⟨2, 1, false, i64s (x.1 0)⟩]
  out := fun x => [⟨25, 1, true, [[.own 1]]⟩, ⟨2, 1, false, i64s (mkR x.1 x.2 0)⟩]
  res := fun x => .val (.int .i64 (kkF x.1 x.2 1))

set_option maxRecDepth 20000 in
set_option maxHeartbeats 1000000 in
theorem ok_L_markInt64SSN1 : FnOk Pr 15 s_L_markInt64SSN1 := by
  refine fn_okG 2 2 T0_ok Go.Proofs.Try.func15 rfl (enters_of Go.Proofs.Try.func15 rfl rfl) (fun _ => rfl) (fun _ => rfl) (fun _ => rfl) ?_
  rintro ⟨f, k⟩ ⟨hf, hk0, hk1⟩ C hP hN hm hG
  change awp C _ _ ⟨[(0, .own 0), (1, .val (.int .i64 k))], [(0, ⟨25, 1, true, [[.own 1]]⟩), (1, ⟨2, 1, false, i64s (f 0)⟩)], 2⟩
  simp only at hf hk0 hk1
  have hkb0 := kkF_b (k := k) hf 0 (by omega)
  have hkb1 := kkF_b (k := k) hf 1 (by omega)
  refine awp_seq ?_
  refine r1 T0_ok hP hm hN ?_
  refine g1 ?_
  refine awp_seq ?_
  refine awp_seq ?_
  refine r1 T0_ok hP hm hN ?_
  refine g1 ?_
  refine awp_block ?_
  refine awp_loop (fun n st => (n = 1 ∧ st = ⟨[(5, .val (.int .i64 0)), (1, .val (.int .i64 (kkF f k 0))), (0, .own 0)], [(0, ⟨25, 1, true, [[.own 1]]⟩), (1, ⟨2, 1, false, i64s (f 0)⟩)], 2⟩) ∨ (n = 0 ∧ st = ⟨[(5, .val (.int .i64 1)), (1, .val (.int .i64 (kkF f k 1))), (0, .own 0)], [(0, ⟨25, 1, true, [[.own 1]]⟩), (1, ⟨2, 1, false, i64s (mkR f k 0)⟩)], 2⟩)) 1 ⟨_, weak_sl (sub_cons rfl (sub_cons rfl (sub_cons rfl (sub_nil)))), .inl ⟨rfl, rfl⟩⟩ ?_
  rintro n st (⟨rfl, rfl⟩ | ⟨rfl, rfl⟩)
  · skip
    refine awp_seq ?_
    refine awp_seq ?_
    refine r1 T0_ok hP hm hN ?_
    refine g1 ?_
    refine g1 ?_
    refine g1 ?_
    refine g1 ?_
    refine awp_cond rfl (fun hc => ?_) (fun hc => absurd hc (by decide))
    refine awp_skip ?_
    refine awp_seq ?_
    refine awp_block ?_
    refine r1 T0_ok hP hm hN ?_
    refine g1 ?_
    refine g1 ?_
    refine g1 ?_
    refine g1 ?_
    refine g1 ?_
    first
      | refine gc1 ?_ (call1 ok_L_markInt64S (f 0, kkF f k 0) [1] (hpre := by (try dsimp only); have := hf 0 (by omega); exact ⟨by omega, by omega, by omega⟩))
    refine g1 ?_
    refine r1 T0_ok hP hm hN ?_
    refine g1 ?_
    refine g1 ?_
    refine g1 ?_
    exact ⟨0, _, by omega, weak_sl (sub_cons rfl (sub_cons rfl (sub_cons rfl (sub_nil)))), .inr (⟨rfl, rfl⟩)⟩
  · skip
    refine awp_seq ?_
    refine awp_seq ?_
    refine r1 T0_ok hP hm hN ?_
    refine g1 ?_
    refine g1 ?_
    refine g1 ?_
    refine g1 ?_
    refine awp_cond rfl (fun hc => absurd hc (by decide)) (fun hc => ?_)
    refine awp_exit ?_
    repeat refine thenA_exit ?_
    refine blockA_hit ?_
    refine awp_seq ?_
    refine r1 T0_ok hP hm hN ?_
    refine g1 ?_
    refine g1 ?_
    refine awp_ret ?_
    refine finG_mk [] rfl rfl rfl ?_ (by decide)
    exact objsG_cons rfl rfl rfl rfl (.inl rfl) (objsG_cons rfl rfl rfl (renXs_i64s _ _) (.inr (.inl rfl)) (objsG_nil))

theorem call_mark1 {o : Oper} {cf : Operand} {args : Array Operand} {tys : Array TypeId} {ev : Operand → D} {hp : HP} {nx : Nat} (f : Nat → List Int) (k : Int) (ho : o.op = .call ⟨.value cf, args, tys⟩) (hcf : fnParts (ev cf) = some (.func 15, [], []))
    (hpre : (∀ j, j < 7 → (f j).length ≤ 1048576) ∧ 0 ≤ k ∧ k ≤ 1000000000000) (hargs : args.toList.map ev = [.own 10, .val (.int .i64 k)]) (h0 : lk 10 hp = some ⟨25, 1, true, [[.own 11]]⟩) (h1 : lk 11 hp = some ⟨2, 1, false, i64s (f 0)⟩) :
    OpRel Pr o ev hp nx { d := .val (.int .i64 (kkF f k 1)), new := [], upd := [(10, ⟨25, 1, true, [[.own 11]]⟩), (11, ⟨2, 1, false, i64s (mkR f k 0)⟩)] } := by
  have h := OpRel.callG ok_L_markInt64SSN1 (f, k) [10, 11] (by decide) (o := o) (nx := nx) (d := .val (.int .i64 (kkF f k 1))) (K0 := [10, 11]) ho hcf hpre (by
    rw [List.nil_append, List.append_nil, hargs]
    exact args_cons (arga_own rfl) (args_cons arga_val args_nil)) (objsG_cons h0 rfl rfl rfl (.inl rfl) (objsG_cons h1 rfl rfl (renXs_i64s _ _) (.inr (.inl rfl)) (objsG_nil))) rfl rfl ⟨rfl, fm_cons (show okG 2 ⟨25, 1, true, tabD (fun j => .own (j + 1)) 1⟩ from okG_rows (f := f) (E := 2) _ (List.mem_cons.2 (.inl rfl))) (fm_cons (okG_flat (flat_i64s _ _ _ _)) (fm_nil))⟩
  simp only [List.map_cons, List.map_nil, updZ, shO, i64s_shC] at h
  exact h

noncomputable abbrev s_L_markInt64SSN2 : Spec ((Nat → List Int) × Int) where
  args := fun x => [.own 0, .val (.int .i64 x.2)]
  pre := fun x => (∀ j, j < 7 → (x.1 j).length ≤ 1048576) ∧ 0 ≤ x.2 ∧ x.2 ≤ 1000000000000
  obs := fun x => [⟨25, 1, true, [[.own 1], [.own 2]]⟩, ⟨2, 1, false, i64s (x.1 0)⟩, ⟨2, 1, false, i64s (x.1 1)⟩]
  out := fun x => [⟨25, 1, true, [[.own 1], [.own 2]]⟩, ⟨2, 1, false, i64s (mkR x.1 x.2 0)⟩, ⟨2, 1, false, i64s (mkR x.1 x.2 1)⟩]
  res := fun x => .val (.int .i64 (kkF x.1 x.2 2))

set_option maxRecDepth 20000 in
set_option maxHeartbeats 1000000 in
theorem ok_L_markInt64SSN2 : FnOk Pr 15 s_L_markInt64SSN2 := by
  refine fn_okG 2 3 T0_ok Go.Proofs.Try.func15 rfl (enters_of Go.Proofs.Try.func15 rfl rfl) (fun _ => rfl) (fun _ => rfl) (fun _ => rfl) ?_
  rintro ⟨f, k⟩ ⟨hf, hk0, hk1⟩ C hP hN hm hG
  change awp C _ _ ⟨[(0, .own 0), (1, .val (.int .i64 k))], [(0, ⟨25, 1, true, [[.own 1], [.own 2]]⟩), (1, ⟨2, 1, false, i64s (f 0)⟩), (2, ⟨2, 1, false, i64s (f 1)⟩)], 3⟩
  simp only at hf hk0 hk1
  have hkb0 := kkF_b (k := k) hf 0 (by omega)
  have hkb1 := kkF_b (k := k) hf 1 (by omega)
  have hkb2 := kkF_b (k := k) hf 2 (by omega)
  refine awp_seq ?_
  refine r1 T0_ok hP hm hN ?_
  refine g1 ?_
  refine awp_seq ?_
  refine awp_seq ?_
  refine r1 T0_ok hP hm hN ?_
  refine g1 ?_
  refine awp_block ?_
  refine awp_loop (fun n st => (n = 2 ∧ st = ⟨[(5, .val (.int .i64 0)), (1, .val (.int .i64 (kkF f k 0))), (0, .own 0)], [(0, ⟨25, 1, true, [[.own 1], [.own 2]]⟩), (1, ⟨2, 1, false, i64s (f 0)⟩), (2, ⟨2, 1, false, i64s (f 1)⟩)], 3⟩) ∨ (n = 1 ∧ st = ⟨[(5, .val (.int .i64 1)), (1, .val (.int .i64 (kkF f k 1))), (0, .own 0)], [(0, ⟨25, 1, true, [[.own 1], [.own 2]]⟩), (1, ⟨2, 1, false, i64s (mkR f k 0)⟩), (2, ⟨2, 1, false, i64s (f 1)⟩)], 3⟩) ∨ (n = 0 ∧ st = ⟨[(5, .val (.int .i64 2)), (1, .val (.int .i64 (kkF f k 2))), (0, .own 0)], [(0, ⟨25, 1, true, [[.own 1], [.own 2]]⟩), (1, ⟨2, 1, false, i64s (mkR f k 0)⟩), (2, ⟨2, 1, false, i64s (mkR f k 1)⟩)], 3⟩)) 2 ⟨_, weak_sl (sub_cons rfl (sub_cons rfl (sub_cons rfl (sub_nil)))), .inl ⟨rfl, rfl⟩⟩ ?_
  rintro n st (⟨rfl, rfl⟩ | ⟨rfl, rfl⟩ | ⟨rfl, rfl⟩)
  · skip
    refine awp_seq ?_
    refine awp_seq ?_
    refine r1 T0_ok hP hm hN ?_
    refine g1 ?_
    refine g1 ?_
    refine g1 ?_
    refine g1 ?_
    refine awp_cond rfl (fun hc => ?_) (fun hc => absurd hc (by decide))
    refine awp_skip ?_
    refine awp_seq ?_
    refine awp_block ?_
    refine r1 T0_ok hP hm hN ?_
    refine g1 ?_
    refine g1 ?_
    refine g1 ?_
    refine g1 ?_
    refine g1 ?_
    first
      | refine gc1 ?_ (call1 ok_L_markInt64S (f 0, kkF f k 0) [1] (hpre := by (try dsimp only); have := hf 0 (by omega); exact ⟨by omega, by omega, by omega⟩))
      | refine gc1 ?_ (call1 ok_L_markInt64S (f 1, kkF f k 1) [2] (hpre := by (try dsimp only); have := hf 1 (by omega); exact ⟨by omega, by omega, by omega⟩))
    refine g1 ?_
    refine r1 T0_ok hP hm hN ?_
    refine g1 ?_
    refine g1 ?_
    refine g1 ?_
    exact ⟨1, _, by omega, weak_sl (sub_cons rfl (sub_cons rfl (sub_cons rfl (sub_nil)))), .inr (.inl ⟨rfl, rfl⟩)⟩
  · skip
    refine awp_seq ?_
    refine awp_seq ?_
    refine r1 T0_ok hP hm hN ?_
    refine g1 ?_
    refine g1 ?_
    refine g1 ?_
    refine g1 ?_
    refine awp_cond rfl (fun hc => ?_) (fun hc => absurd hc (by decide))
    refine awp_skip ?_
    refine awp_seq ?_
    refine awp_block ?_
    refine r1 T0_ok hP hm hN ?_
    refine g1 ?_
    refine g1 ?_
    refine g1 ?_
    refine g1 ?_
    refine g1 ?_
    first
      | refine gc1 ?_ (call1 ok_L_markInt64S (f 0, kkF f k 0) [1] (hpre := by (try dsimp only); have := hf 0 (by omega); exact ⟨by omega, by omega, by omega⟩))
      | refine gc1 ?_ (call1 ok_L_markInt64S (f 1, kkF f k 1) [2] (hpre := by (try dsimp only); have := hf 1 (by omega); exact ⟨by omega, by omega, by omega⟩))
    refine g1 ?_
    refine r1 T0_ok hP hm hN ?_
    refine g1 ?_
    refine g1 ?_
    refine g1 ?_
    exact ⟨0, _, by omega, weak_sl (sub_cons rfl (sub_cons rfl (sub_cons rfl (sub_nil)))), .inr (.inr (⟨rfl, rfl⟩))⟩
  · skip
    refine awp_seq ?_
    refine awp_seq ?_
    refine r1 T0_ok hP hm hN ?_
    refine g1 ?_
    refine g1 ?_
    refine g1 ?_
    refine g1 ?_
    refine awp_cond rfl (fun hc => absurd hc (by decide)) (fun hc => ?_)
    refine awp_exit ?_
    repeat refine thenA_exit ?_
    refine blockA_hit ?_
    refine awp_seq ?_
    refine r1 T0_ok hP hm hN ?_
    refine g1 ?_
    refine g1 ?_
    refine awp_ret ?_
    refine finG_mk [] rfl rfl rfl ?_ (by decide)
    exact objsG_cons rfl rfl rfl rfl (.inl rfl) (objsG_cons rfl rfl rfl (renXs_i64s _ _) (.inr (.inl rfl)) (objsG_cons rfl rfl rfl (renXs_i64s _ _) (.inr (.inl rfl)) (objsG_nil)))

theorem call_mark2 {o : Oper} {cf : Operand} {args : Array Operand} {tys : Array TypeId} {ev : Operand → D} {hp : HP} {nx : Nat} (f : Nat → List Int) (k : Int) (ho : o.op = .call ⟨.value cf, args, tys⟩) (hcf : fnParts (ev cf) = some (.func 15, [], []))
    (hpre : (∀ j, j < 7 → (f j).length ≤ 1048576) ∧ 0 ≤ k ∧ k ≤ 1000000000000) (hargs : args.toList.map ev = [.own 10, .val (.int .i64 k)]) (h0 : lk 10 hp = some ⟨25, 1, true, [[.own 11], [.own 12]]⟩) (h1 : lk 11 hp = some ⟨2, 1, false, i64s (f 0)⟩) (h2 : lk 12 hp = some ⟨2, 1, false, i64s (f 1)⟩) :
    OpRel Pr o ev hp nx { d := .val (.int .i64 (kkF f k 2)), new := [], upd := [(10, ⟨25, 1, true, [[.own 11], [.own 12]]⟩), (11, ⟨2, 1, false, i64s (mkR f k 0)⟩), (12, ⟨2, 1, false, i64s (mkR f k 1)⟩)] } := by
  have h := OpRel.callG ok_L_markInt64SSN2 (f, k) [10, 11, 12] (by decide) (o := o) (nx := nx) (d := .val (.int .i64 (kkF f k 2))) (K0 := [10, 11, 12]) ho hcf hpre (by
    rw [List.nil_append, List.append_nil, hargs]
    exact args_cons (arga_own rfl) (args_cons arga_val args_nil)) (objsG_cons h0 rfl rfl rfl (.inl rfl) (objsG_cons h1 rfl rfl (renXs_i64s _ _) (.inr (.inl rfl)) (objsG_cons h2 rfl rfl (renXs_i64s _ _) (.inr (.inl rfl)) (objsG_nil)))) rfl rfl ⟨rfl, fm_cons (show okG 3 ⟨25, 1, true, tabD (fun j => .own (j + 1)) 2⟩ from okG_rows (f := f) (E := 2) _ (List.mem_cons.2 (.inl rfl))) (fm_cons (okG_flat (flat_i64s _ _ _ _)) (fm_cons (okG_flat (flat_i64s _ _ _ _)) (fm_nil)))⟩
  simp only [List.map_cons, List.map_nil, updZ, shO, i64s_shC] at h
  exact h

noncomputable abbrev s_L_markInt64SSN3 : Spec ((Nat → List Int) × Int) where
  args := fun x => [.own 0, .val (.int .i64 x.2)]
  pre := fun x => (∀ j, j < 7 → (x.1 j).length ≤ 1048576) ∧ 0 ≤ x.2 ∧ x.2 ≤ 1000000000000
  obs := fun x => [⟨25, 1, true, [[.own 1], [.own 2], [.own 3]]⟩, ⟨2, 1, false, i64s (x.1 0)⟩, ⟨2, 1, false, i64s (x.1 1)⟩, ⟨2, 1, false, i64s (x.1 2)⟩]
  out := fun x => [⟨25, 1, true, [[.own 1], [.own 2], [.own 3]]⟩, ⟨2, 1, false, i64s (mkR x.1 x.2 0)⟩, ⟨2, 1, false, i64s (mkR x.1 x.2 1)⟩, ⟨2, 1, false, i64s (mkR x.1 x.2 2)⟩]
  res := fun x => .val (.int .i64 (kkF x.1 x.2 3))

set_option maxRecDepth 20000 in
set_option maxHeartbeats 1000000 in
theorem ok_L_markInt64SSN3 : FnOk Pr 15 s_L_markInt64SSN3 := by
  refine fn_okG 2 4 T0_ok Go.Proofs.Try.func15 rfl (enters_of Go.Proofs.Try.func15 rfl rfl) (fun _ => rfl) (fun _ => rfl) (fun _ => rfl) ?_
  rintro ⟨f, k⟩ ⟨hf, hk0, hk1⟩ C hP hN hm hG
  change awp C _ _ ⟨[(0, .own 0), (1, .val (.int .i64 k))], [(0, ⟨25, 1, true, [[.own 1], [.own 2], [.own 3]]⟩), (1, ⟨2, 1, false, i64s (f 0)⟩), (2, ⟨2, 1, false, i64s (f 1)⟩), (3, ⟨2, 1, false, i64s (f 2)⟩)], 4⟩
  simp only at hf hk0 hk1
  have hkb0 := kkF_b (k := k) hf 0 (by omega)
  have hkb1 := kkF_b (k := k) hf 1 (by omega)
  have hkb2 := kkF_b (k := k) hf 2 (by omega)
  have hkb3 := kkF_b (k := k) hf 3 (by omega)
  refine awp_seq ?_
  refine r1 T0_ok hP hm hN ?_
  refine g1 ?_
  refine awp_seq ?_
  refine awp_seq ?_
  refine r1 T0_ok hP hm hN ?_
  refine g1 ?_
  refine awp_block ?_
  refine awp_loop (fun n st => (n = 3 ∧ st = ⟨[(5, .val (.int .i64 0)), (1, .val (.int .i64 (kkF f k 0))), (0, .own 0)], [(0, ⟨25, 1, true, [[.own 1], [.own 2], [.own 3]]⟩), (1, ⟨2, 1, false, i64s (f 0)⟩), (2, ⟨2, 1, false, i64s (f 1)⟩), (3, ⟨2, 1, false, i64s (f 2)⟩)], 4⟩) ∨ (n = 2 ∧ st = ⟨[(5, .val (.int .i64 1)), (1, .val (.int .i64 (kkF f k 1))), (0, .own 0)], [(0, ⟨25, 1, true, [[.own 1], [.own 2], [.own 3]]⟩), (1, ⟨2, 1, false, i64s (mkR f k 0)⟩), (2, ⟨2, 1, false, i64s (f 1)⟩), (3, ⟨2, 1, false, i64s (f 2)⟩)], 4⟩) ∨ (n = 1 ∧ st = ⟨[(5, .val (.int .i64 2)), (1, .val (.int .i64 (kkF f k 2))), (0, .own 0)], [(0, ⟨25, 1, true, [[.own 1], [.own 2], [.own 3]]⟩), (1, ⟨2, 1, false, i64s (mkR f k 0)⟩), (2, ⟨2, 1, false, i64s (mkR f k 1)⟩), (3, ⟨2, 1, false, i64s (f 2)⟩)], 4⟩) ∨ (n = 0 ∧ st = ⟨[(5, .val (.int .i64 3)), (1, .val (.int .i64 (kkF f k 3))), (0, .own 0)], [(0, ⟨25, 1, true, [[.own 1], [.own 2], [.own 3]]⟩), (1, ⟨2, 1, false, i64s (mkR f k 0)⟩), (2, ⟨2, 1, false, i64s (mkR f k 1)⟩), (3, ⟨2, 1, false, i64s (mkR f k 2)⟩)], 4⟩)) 3 ⟨_, weak_sl (sub_cons rfl (sub_cons rfl (sub_cons rfl (sub_nil)))), .inl ⟨rfl, rfl⟩⟩ ?_
  rintro n st (⟨rfl, rfl⟩ | ⟨rfl, rfl⟩ | ⟨rfl, rfl⟩ | ⟨rfl, rfl⟩)
  · skip
    refine awp_seq ?_
    refine awp_seq ?_
    refine r1 T0_ok hP hm hN ?_
    refine g1 ?_
    refine g1 ?_
    refine g1 ?_
    refine g1 ?_
    refine awp_cond rfl (fun hc => ?_) (fun hc => absurd hc (by decide))
    refine awp_skip ?_
    refine awp_seq ?_
    refine awp_block ?_
    refine r1 T0_ok hP hm hN ?_
    refine g1 ?_
    refine g1 ?_
    refine g1 ?_
    refine g1 ?_
    refine g1 ?_
    first
      | refine gc1 ?_ (call1 ok_L_markInt64S (f 0, kkF f k 0) [1] (hpre := by (try dsimp only); have := hf 0 (by omega); exact ⟨by omega, by omega, by omega⟩))
      | refine gc1 ?_ (call1 ok_L_markInt64S (f 1, kkF f k 1) [2] (hpre := by (try dsimp only); have := hf 1 (by omega); exact ⟨by omega, by omega, by omega⟩))
      | refine gc1 ?_ (call1 ok_L_markInt64S (f 2, kkF f k 2) [3] (hpre := by (try dsimp only); have := hf 2 (by omega); exact ⟨by omega, by omega, by omega⟩))
    refine g1 ?_
    refine r1 T0_ok hP hm hN ?_
    refine g1 ?_
    refine g1 ?_
    refine g1 ?_
    exact ⟨2, _, by omega, weak_sl (sub_cons rfl (sub_cons rfl (sub_cons rfl (sub_nil)))), .inr (.inl ⟨rfl, rfl⟩)⟩
  · skip
    refine awp_seq ?_
    refine awp_seq ?_
    refine r1 T0_ok hP hm hN ?_
    refine g1 ?_
    refine g1 ?_
    refine g1 ?_
    refine g1 ?_
    refine awp_cond rfl (fun hc => ?_) (fun hc => absurd hc (by decide))
    refine awp_skip ?_
    refine awp_seq ?_
    refine awp_block ?_
    refine r1 T0_ok hP hm hN ?_
    refine g1 ?_
    refine g1 ?_
    refine g1 ?_
    refine g1 ?_
    refine g1 ?_
    first
      | refine gc1 ?_ (call1 ok_L_markInt64S (f 0, kkF f k 0) [1] (hpre := by (try dsimp only); have := hf 0 (by omega); exact ⟨by omega, by omega, by omega⟩))
      | refine gc1 ?_ (call1 ok_L_markInt64S (f 1, kkF f k 1) [2] (hpre := by (try dsimp only); have := hf 1 (by omega); exact ⟨by omega, by omega, by omega⟩))
      | refine gc1 ?_ (call1 ok_L_markInt64S (f 2, kkF f k 2) [3] (hpre := by (try dsimp only); have := hf 2 (by omega); exact ⟨by omega, by omega, by omega⟩))
    refine g1 ?_
    refine r1 T0_ok hP hm hN ?_
    refine g1 ?_
    refine g1 ?_
    refine g1 ?_
    exact ⟨1, _, by omega, weak_sl (sub_cons rfl (sub_cons rfl (sub_cons rfl (sub_nil)))), .inr (.inr (.inl ⟨rfl, rfl⟩))⟩
  · skip
    refine awp_seq ?_
    refine awp_seq ?_
    refine r1 T0_ok hP hm hN ?_
    refine g1 ?_
    refine g1 ?_
    refine g1 ?_
    refine g1 ?_
    refine awp_cond rfl (fun hc => ?_) (fun hc => absurd hc (by decide))
    refine awp_skip ?_
    refine awp_seq ?_
    refine awp_block ?_
    refine r1 T0_ok hP hm hN ?_
    refine g1 ?_
    refine g1 ?_
    refine g1 ?_
    refine g1 ?_
    refine g1 ?_
    first
      | refine gc1 ?_ (call1 ok_L_markInt64S (f 0, kkF f k 0) [1] (hpre := by (try dsimp only); have := hf 0 (by omega); exact ⟨by omega, by omega, by omega⟩))
      | refine gc1 ?_ (call1 ok_L_markInt64S (f 1, kkF f k 1) [2] (hpre := by (try dsimp only); have := hf 1 (by omega); exact ⟨by omega, by omega, by omega⟩))
      | refine gc1 ?_ (call1 ok_L_markInt64S (f 2, kkF f k 2) [3] (hpre := by (try dsimp only); have := hf 2 (by omega); exact ⟨by omega, by omega, by omega⟩))
    refine g1 ?_
    refine r1 T0_ok hP hm hN ?_
    refine g1 ?_
    refine g1 ?_
    refine g1 ?_
    exact ⟨0, _, by omega, weak_sl (sub_cons rfl (sub_cons rfl (sub_cons rfl (sub_nil)))), .inr (.inr (.inr (⟨rfl, rfl⟩)))⟩
  · skip
    refine awp_seq ?_
    refine awp_seq ?_
    refine r1 T0_ok hP hm hN ?_
    refine g1 ?_
    refine g1 ?_
    refine g1 ?_
    refine g1 ?_
    refine awp_cond rfl (fun hc => absurd hc (by decide)) (fun hc => ?_)
    refine awp_exit ?_
    repeat refine thenA_exit ?_
    refine blockA_hit ?_
    refine awp_seq ?_
    refine r1 T0_ok hP hm hN ?_
    refine g1 ?_
    refine g1 ?_
    refine awp_ret ?_
    refine finG_mk [] rfl rfl rfl ?_ (by decide)
    exact objsG_cons rfl rfl rfl rfl (.inl rfl) (objsG_cons rfl rfl rfl (renXs_i64s _ _) (.inr (.inl rfl)) (objsG_cons rfl rfl rfl (renXs_i64s _ _) (.inr (.inl rfl)) (objsG_cons rfl rfl rfl (renXs_i64s _ _) (.inr (.inl rfl)) (objsG_nil))))

theorem call_mark3 {o : Oper} {cf : Operand} {args : Array Operand} {tys : Array TypeId} {ev : Operand → D} {hp : HP} {nx : Nat} (f : Nat → List Int) (k : Int) (ho : o.op = .call ⟨.value cf, args, tys⟩) (hcf : fnParts (ev cf) = some (.func 15, [], []))
    (hpre : (∀ j, j < 7 → (f j).length ≤ 1048576) ∧ 0 ≤ k ∧ k ≤ 1000000000000) (hargs : args.toList.map ev = [.own 10, .val (.int .i64 k)]) (h0 : lk 10 hp = some ⟨25, 1, true, [[.own 11], [.own 12], [.own 13]]⟩) (h1 : lk 11 hp = some ⟨2, 1, false, i64s (f 0)⟩) (h2 : lk 12 hp = some ⟨2, 1, false, i64s (f 1)⟩) (h3 : lk 13 hp = some ⟨2, 1, false, i64s (f 2)⟩) :
    OpRel Pr o ev hp nx { d := .val (.int .i64 (kkF f k 3)), new := [], upd := [(10, ⟨25, 1, true, [[.own 11], [.own 12], [.own 13]]⟩), (11, ⟨2, 1, false, i64s (mkR f k 0)⟩), (12, ⟨2, 1, false, i64s (mkR f k 1)⟩), (13, ⟨2, 1, false, i64s (mkR f k 2)⟩)] } := by
  have h := OpRel.callG ok_L_markInt64SSN3 (f, k) [10, 11, 12, 13] (by decide) (o := o) (nx := nx) (d := .val (.int .i64 (kkF f k 3))) (K0 := [10, 11, 12, 13]) ho hcf hpre (by
    rw [List.nil_append, List.append_nil, hargs]
    exact args_cons (arga_own rfl) (args_cons arga_val args_nil)) (objsG_cons h0 rfl rfl rfl (.inl rfl) (objsG_cons h1 rfl rfl (renXs_i64s _ _) (.inr (.inl rfl)) (objsG_cons h2 rfl rfl (renXs_i64s _ _) (.inr (.inl rfl)) (objsG_cons h3 rfl rfl (renXs_i64s _ _) (.inr (.inl rfl)) (objsG_nil))))) rfl rfl ⟨rfl, fm_cons (show okG 4 ⟨25, 1, true, tabD (fun j => .own (j + 1)) 3⟩ from okG_rows (f := f) (E := 2) _ (List.mem_cons.2 (.inl rfl))) (fm_cons (okG_flat (flat_i64s _ _ _ _)) (fm_cons (okG_flat (flat_i64s _ _ _ _)) (fm_cons (okG_flat (flat_i64s _ _ _ _)) (fm_nil))))⟩
  simp only [List.map_cons, List.map_nil, updZ, shO, i64s_shC] at h
  exact h

noncomputable abbrev s_L_markInt64SSN4 : Spec ((Nat → List Int) × Int) where
  args := fun x => [.own 0, .val (.int .i64 x.2)]
  pre := fun x => (∀ j, j < 7 → (x.1 j).length ≤ 1048576) ∧ 0 ≤ x.2 ∧ x.2 ≤ 1000000000000
  obs := fun x => [⟨25, 1, true, [[.own 1], [.own 2], [.own 3], [.own 4]]⟩, ⟨2, 1, false, i64s (x.1 0)⟩, ⟨2, 1, false, i64s (x.1 1)⟩, ⟨2, 1, false, i64s (x.1 2)⟩, ⟨2, 1, false, i64s (x.1 3)⟩]
  out := fun x => [⟨25, 1, true, [[.own 1], [.own 2], [.own 3], [.own 4]]⟩, ⟨2, 1, false, i64s (mkR x.1 x.2 0)⟩, ⟨2, 1, false, i64s (mkR x.1 x.2 1)⟩, ⟨2, 1, false, i64s (mkR x.1 x.2 2)⟩, ⟨2, 1, false, i64s (mkR x.1 x.2 3)⟩]
  res := fun x => .val (.int .i64 (kkF x.1 x.2 4))

set_option maxRecDepth 20000 in
set_option maxHeartbeats 1000000 in
theorem ok_L_markInt64SSN4 : FnOk Pr 15 s_L_markInt64SSN4 := by
  refine fn_okG 2 5 T0_ok Go.Proofs.Try.func15 rfl (enters_of Go.Proofs.Try.func15 rfl rfl) (fun _ => rfl) (fun _ => rfl) (fun _ => rfl) ?_
  rintro ⟨f, k⟩ ⟨hf, hk0, hk1⟩ C hP hN hm hG
  change awp C _ _ ⟨[(0, .own 0), (1, .val (.int .i64 k))], [(0, ⟨25, 1, true, [[.own 1], [.own 2], [.own 3], [.own 4]]⟩), (1, ⟨2, 1, false, i64s (f 0)⟩), (2, ⟨2, 1, false, i64s (f 1)⟩), (3, ⟨2, 1, false, i64s (f 2)⟩), (4, ⟨2, 1, false, i64s (f 3)⟩)], 5⟩
  simp only at hf hk0 hk1
  have hkb0 := kkF_b (k := k) hf 0 (by omega)
  have hkb1 := kkF_b (k := k) hf 1 (by omega)
  have hkb2 := kkF_b (k := k) hf 2 (by omega)
  have hkb3 := kkF_b (k := k) hf 3 (by omega)
  have hkb4 := kkF_b (k := k) hf 4 (by omega)
  refine awp_seq ?_
  refine r1 T0_ok hP hm hN ?_
  refine g1 ?_
  refine awp_seq ?_
  refine awp_seq ?_
  refine r1 T0_ok hP hm hN ?_
  refine g1 ?_
  refine awp_block ?_
  refine awp_loop (fun n st => (n = 4 ∧ st = ⟨[(5, .val (.int .i64 0)), (1, .val (.int .i64 (kkF f k 0))), (0, .own 0)], [(0, ⟨25, 1, true, [[.own 1], [.own 2], [.own 3], [.own 4]]⟩), (1, ⟨2, 1, false, i64s (f 0)⟩), (2, ⟨2, 1, false, i64s (f 1)⟩), (3, ⟨2, 1, false, i64s (f 2)⟩), (4, ⟨2, 1, false, i64s (f 3)⟩)], 5⟩) ∨ (n = 3 ∧ st = ⟨[(5, .val (.int .i64 1)), (1, .val (.int .i64 (kkF f k 1))), (0, .own 0)], [(0, ⟨25, 1, true, [[.own 1], [.own 2], [.own 3], [.own 4]]⟩), (1, ⟨2, 1, false, i64s (mkR f k 0)⟩), (2, ⟨2, 1, false, i64s (f 1)⟩), (3, ⟨2, 1, false, i64s (f 2)⟩), (4, ⟨2, 1, false, i64s (f 3)⟩)], 5⟩) ∨ (n = 2 ∧ st = ⟨[(5, .val (.int .i64 2)), (1, .val (.int .i64 (kkF f k 2))), (0, .own 0)], [(0, ⟨25, 1, true, [[.own 1], [.own 2], [.own 3], [.own 4]]⟩), (1, ⟨2, 1, false, i64s (mkR f k 0)⟩), (2, ⟨2, 1, false, i64s (mkR f k 1)⟩), (3, ⟨2, 1, false, i64s (f 2)⟩), (4, ⟨2, 1, false, i64s (f 3)⟩)], 5⟩) ∨ (n = 1 ∧ st = ⟨[(5, .val (.int .i64 3)), (1, .val (.int .i64 (kkF f k 3))), (0, .own 0)], [(0, ⟨25, 1, true, [[.own 1], [.own 2], [.own 3], [.own 4]]⟩), (1, ⟨2, 1, false, i64s (mkR f k 0)⟩), (2, ⟨2, 1, false, i64s (mkR f k 1)⟩), (3, ⟨2, 1, false, i64s (mkR f k 2)⟩), (4, ⟨2, 1, false, i64s (f 3)⟩)], 5⟩) ∨ (n = 0 ∧ st = ⟨[(5, .val (.int .i64 4)), (1, .val (.int .i64 (kkF f k 4))), (0, .own 0)], [(0, ⟨25, 1, true, [[.own 1], [.own 2], [.own 3], [.own 4]]⟩), (1, ⟨2, 1, false, i64s (mkR f k 0)⟩), (2, ⟨2, 1, false, i64s (mkR f k 1)⟩), (3, ⟨2, 1, false, i64s (mkR f k 2)⟩), (4, ⟨2, 1, false, i64s (mkR f k 3)⟩)], 5⟩)) 4 ⟨_, weak_sl (sub_cons rfl (sub_cons rfl (sub_cons rfl (sub_nil)))), .inl ⟨rfl, rfl⟩⟩ ?_
  rintro n st (⟨rfl, rfl⟩ | ⟨rfl, rfl⟩ | ⟨rfl, rfl⟩ | ⟨rfl, rfl⟩ | ⟨rfl, rfl⟩)
  · skip
    refine awp_seq ?_
    refine awp_seq ?_
    refine r1 T0_ok hP hm hN ?_
    refine g1 ?_
    refine g1 ?_
    refine g1 ?_
    refine g1 ?_
    refine awp_cond rfl (fun hc => ?_) (fun hc => absurd hc (by decide))
    refine awp_skip ?_
    refine awp_seq ?_
    refine awp_block ?_
    refine r1 T0_ok hP hm hN ?_
    refine g1 ?_
    refine g1 ?_
    refine g1 ?_
    refine g1 ?_
    refine g1 ?_
    first
      | refine gc1 ?_ (call1 ok_L_markInt64S (f 0, kkF f k 0) [1] (hpre := by (try dsimp only); have := hf 0 (by omega); exact ⟨by omega, by omega, by omega⟩))
      | refine gc1 ?_ (call1 ok_L_markInt64S (f 1, kkF f k 1) [2] (hpre := by (try dsimp only); have := hf 1 (by omega); exact ⟨by omega, by omega, by omega⟩))
      | refine gc1 ?_ (call1 ok_L_markInt64S (f 2, kkF f k 2) [3] (hpre := by (try dsimp only); have := hf 2 (by omega); exact ⟨by omega, by omega, by omega⟩))
      | refine gc1 ?_ (call1 ok_L_markInt64S (f 3, kkF f k 3) [4] (hpre := by (try dsimp only); have := hf 3 (by omega); exact ⟨by omega, by omega, by omega⟩))
    refine g1 ?_
    refine r1 T0_ok hP hm hN ?_
    refine g1 ?_
    refine g1 ?_
    refine g1 ?_
    exact ⟨3, _, by omega, weak_sl (sub_cons rfl (sub_cons rfl (sub_cons rfl (sub_nil)))), .inr (.inl ⟨rfl, rfl⟩)⟩
  · skip
    refine awp_seq ?_
    refine awp_seq ?_
    refine r1 T0_ok hP hm hN ?_
    refine g1 ?_
    refine g1 ?_
    refine g1 ?_
    refine g1 ?_
    refine awp_cond rfl (fun hc => ?_) (fun hc => absurd hc (by decide))
    refine awp_skip ?_
    refine awp_seq ?_
    refine awp_block ?_
    refine r1 T0_ok hP hm hN ?_
    refine g1 ?_
    refine g1 ?_
    refine g1 ?_
    refine g1 ?_
    refine g1 ?_
    first
      | refine gc1 ?_ (call1 ok_L_markInt64S (f 0, kkF f k 0) [1] (hpre := by (try dsimp only); have := hf 0 (by omega); exact ⟨by omega, by omega, by omega⟩))
      | refine gc1 ?_ (call1 ok_L_markInt64S (f 1, kkF f k 1) [2] (hpre := by (try dsimp only); have := hf 1 (by omega); exact ⟨by omega, by omega, by omega⟩))
      | refine gc1 ?_ (call1 ok_L_markInt64S (f 2, kkF f k 2) [3] (hpre := by (try dsimp only); have := hf 2 (by omega); exact ⟨by omega, by omega, by omega⟩))
      | refine gc1 ?_ (call1 ok_L_markInt64S (f 3, kkF f k 3) [4] (hpre := by (try dsimp only); have := hf 3 (by omega); exact ⟨by omega, by omega, by omega⟩))
    refine g1 ?_
    refine r1 T0_ok hP hm hN ?_
    refine g1 ?_
    refine g1 ?_
    refine g1 ?_
    exact ⟨2, _, by omega, weak_sl (sub_cons rfl (sub_cons rfl (sub_cons rfl (sub_nil)))), .inr (.inr (.inl ⟨rfl, rfl⟩))⟩
  · skip
    refine awp_seq ?_
    refine awp_seq ?_
    refine r1 T0_ok hP hm hN ?_
    refine g1 ?_
    refine g1 ?_
    refine g1 ?_
    refine g1 ?_
    refine awp_cond rfl (fun hc => ?_) (fun hc => absurd hc (by decide))
    refine awp_skip ?_
    refine awp_seq ?_
    refine awp_block ?_
    refine r1 T0_ok hP hm hN ?_
    refine g1 ?_
    refine g1 ?_
    refine g1 ?_
    refine g1 ?_
    refine g1 ?_
    first
      | refine gc1 ?_ (call1 ok_L_markInt64S (f 0, kkF f k 0) [1] (hpre := by (try dsimp only); have := hf 0 (by omega); exact ⟨by omega, by omega, by omega⟩))
      | refine gc1 ?_ (call1 ok_L_markInt64S (f 1, kkF f k 1) [2] (hpre := by (try dsimp only); have := hf 1 (by omega); exact ⟨by omega, by omega, by omega⟩))
      | refine gc1 ?_ (call1 ok_L_markInt64S (f 2, kkF f k 2) [3] (hpre := by (try dsimp only); have := hf 2 (by omega); exact ⟨by omega, by omega, by omega⟩))
      | refine gc1 ?_ (call1 ok_L_markInt64S (f 3, kkF f k 3) [4] (hpre := by (try dsimp only); have := hf 3 (by omega); exact ⟨by omega, by omega, by omega⟩))
    refine g1 ?_
    refine r1 T0_ok hP hm hN ?_
    refine g1 ?_
    refine g1 ?_
    refine g1 ?_
    exact ⟨1, _, by omega, weak_sl (sub_cons rfl (sub_cons rfl (sub_cons rfl (sub_nil)))), .inr (.inr (.inr (.inl ⟨rfl, rfl⟩)))⟩
  · skip
    refine awp_seq ?_
    refine awp_seq ?_
    refine r1 T0_ok hP hm hN ?_
    refine g1 ?_
    refine g1 ?_
    refine g1 ?_
    refine g1 ?_
    refine awp_cond rfl (fun hc => ?_) (fun hc => absurd hc (by decide))
    refine awp_skip ?_
    refine awp_seq ?_
    refine awp_block ?_
    refine r1 T0_ok hP hm hN ?_
    refine g1 ?_
    refine g1 ?_
    refine g1 ?_
    refine g1 ?_
    refine g1 ?_
    first
      | refine gc1 ?_ (call1 ok_L_markInt64S (f 0, kkF f k 0) [1] (hpre := by (try dsimp only); have := hf 0 (by omega); exact ⟨by omega, by omega, by omega⟩))
      | refine gc1 ?_ (call1 ok_L_markInt64S (f 1, kkF f k 1) [2] (hpre := by (try dsimp only); have := hf 1 (by omega); exact ⟨by omega, by omega, by omega⟩))
      | refine gc1 ?_ (call1 ok_L_markInt64S (f 2, kkF f k 2) [3] (hpre := by (try dsimp only); have := hf 2 (by omega); exact ⟨by omega, by omega, by omega⟩))
      | refine gc1 ?_ (call1 ok_L_markInt64S (f 3, kkF f k 3) [4] (hpre := by (try dsimp only); have := hf 3 (by omega); exact ⟨by omega, by omega, by omega⟩))
    refine g1 ?_
    refine r1 T0_ok hP hm hN ?_
    refine g1 ?_
    refine g1 ?_
    refine g1 ?_
    exact ⟨0, _, by omega, weak_sl (sub_cons rfl (sub_cons rfl (sub_cons rfl (sub_nil)))), .inr (.inr (.inr (.inr (⟨rfl, rfl⟩))))⟩
  · skip
    refine awp_seq ?_
    refine awp_seq ?_
    refine r1 T0_ok hP hm hN ?_
    refine g1 ?_
    refine g1 ?_
    refine g1 ?_
    refine g1 ?_
    refine awp_cond rfl (fun hc => absurd hc (by decide)) (fun hc => ?_)
    refine awp_exit ?_
    repeat refine thenA_exit ?_
    refine blockA_hit ?_
    refine awp_seq ?_
    refine r1 T0_ok hP hm hN ?_
    refine g1 ?_
    refine g1 ?_
    refine awp_ret ?_
    refine finG_mk [] rfl rfl rfl ?_ (by decide)
    exact objsG_cons rfl rfl rfl rfl (.inl rfl) (objsG_cons rfl rfl rfl (renXs_i64s _ _) (.inr (.inl rfl)) (objsG_cons rfl rfl rfl (renXs_i64s _ _) (.inr (.inl rfl)) (objsG_cons rfl rfl rfl (renXs_i64s _ _) (.inr (.inl rfl)) (objsG_cons rfl rfl rfl (renXs_i64s _ _) (.inr (.inl rfl)) (objsG_nil)))))

theorem call_mark4 {o : Oper} {cf : Operand} {args : Array Operand} {tys : Array TypeId} {ev : Operand → D} {hp : HP} {nx : Nat} (f : Nat → List Int) (k : Int) (ho : o.op = .call ⟨.value cf, args, tys⟩) (hcf : fnParts (ev cf) = some (.func 15, [], []))
    (hpre : (∀ j, j < 7 → (f j).length ≤ 1048576) ∧ 0 ≤ k ∧ k ≤ 1000000000000) (hargs : args.toList.map ev = [.own 10, .val (.int .i64 k)]) (h0 : lk 10 hp = some ⟨25, 1, true, [[.own 11], [.own 12], [.own 13], [.own 14]]⟩) (h1 : lk 11 hp = some ⟨2, 1, false, i64s (f 0)⟩) (h2 : lk 12 hp = some ⟨2, 1, false, i64s (f 1)⟩) (h3 : lk 13 hp = some ⟨2, 1, false, i64s (f 2)⟩) (h4 : lk 14 hp = some ⟨2, 1, false, i64s (f 3)⟩) :
    OpRel Pr o ev hp nx { d := .val (.int .i64 (kkF f k 4)), new := [], upd := [(10, ⟨25, 1, true, [[.own 11], [.own 12], [.own 13], [.own 14]]⟩), (11, ⟨2, 1, false, i64s (mkR f k 0)⟩), (12, ⟨2, 1, false, i64s (mkR f k 1)⟩), (13, ⟨2, 1, false, i64s (mkR f k 2)⟩), (14, ⟨2, 1, false, i64s (mkR f k 3)⟩)] } := by
  have h := OpRel.callG ok_L_markInt64SSN4 (f, k) [10, 11, 12, 13, 14] (by decide) (o := o) (nx := nx) (d := .val (.int .i64 (kkF f k 4))) (K0 := [10, 11, 12, 13, 14]) ho hcf hpre (by
    rw [List.nil_append, List.append_nil, hargs]
    exact args_cons (arga_own rfl) (args_cons arga_val args_nil)) (objsG_cons h0 rfl rfl rfl (.inl rfl) (objsG_cons h1 rfl rfl (renXs_i64s _ _) (.inr (.inl rfl)) (objsG_cons h2 rfl rfl (renXs_i64s _ _) (.inr (.inl rfl)) (objsG_cons h3 rfl rfl (renXs_i64s _ _) (.inr (.inl rfl)) (objsG_cons h4 rfl rfl (renXs_i64s _ _) (.inr (.inl rfl)) (objsG_nil)))))) rfl rfl ⟨rfl, fm_cons (show okG 5 ⟨25, 1, true, tabD (fun j => .own (j + 1)) 4⟩ from okG_rows (f := f) (E := 2) _ (List.mem_cons.2 (.inl rfl))) (fm_cons (okG_flat (flat_i64s _ _ _ _)) (fm_cons (okG_flat (flat_i64s _ _ _ _)) (fm_cons (okG_flat (flat_i64s _ _ _ _)) (fm_cons (okG_flat (flat_i64s _ _ _ _)) (fm_nil)))))⟩
  simp only [List.map_cons, List.map_nil, updZ, shO, i64s_shC] at h
  exact h

noncomputable abbrev s_L_markInt64SSN5 : Spec ((Nat → List Int) × Int) where
  args := fun x => [.own 0, .val (.int .i64 x.2)]
  pre := fun x => (∀ j, j < 7 → (x.1 j).length ≤ 1048576) ∧ 0 ≤ x.2 ∧ x.2 ≤ 1000000000000
  obs := fun x => [⟨25, 1, true, [[.own 1], [.own 2], [.own 3], [.own 4], [.own 5]]⟩, ⟨2, 1, false, i64s (x.1 0)⟩, ⟨2, 1, false, i64s (x.1 1)⟩, ⟨2, 1, false, i64s (x.1 2)⟩, ⟨2, 1, false, i64s (x.1 3)⟩, ⟨2, 1, false, i64s (x.1 4)⟩]
  out := fun x => [⟨25, 1, true, [[.own 1], [.own 2], [.own 3], [.own 4], [.own 5]]⟩, ⟨2, 1, false, i64s (mkR x.1 x.2 0)⟩, ⟨2, 1, false, i64s (mkR x.1 x.2 1)⟩, ⟨2, 1, false, i64s (mkR x.1 x.2 2)⟩, ⟨2, 1, false, i64s (mkR x.1 x.2 3)⟩, ⟨2, 1, false, i64s (mkR x.1 x.2 4)⟩]
  res := fun x => .val (.int .i64 (kkF x.1 x.2 5))

set_option maxRecDepth 20000 in
set_option maxHeartbeats 1000000 in
theorem ok_L_markInt64SSN5 : FnOk Pr 15 s_L_markInt64SSN5 := by
  refine fn_okG 2 6 T0_ok Go.Proofs.Try.func15 rfl (enters_of Go.Proofs.Try.func15 rfl rfl) (fun _ => rfl) (fun _ => rfl) (fun _ => rfl) ?_
  rintro ⟨f, k⟩ ⟨hf, hk0, hk1⟩ C hP hN hm hG
  change awp C _ _ ⟨[(0, .own 0), (1, .val (.int .i64 k))], [(0, ⟨25, 1, true, [[.own 1], [.own 2], [.own 3], [.own 4], [.own 5]]⟩), (1, ⟨2, 1, false, i64s (f 0)⟩), (2, ⟨2, 1, false, i64s (f 1)⟩), (3, ⟨2, 1, false, i64s (f 2)⟩), (4, ⟨2, 1, false, i64s (f 3)⟩), (5, ⟨2, 1, false, i64s (f 4)⟩)], 6⟩
  simp only at hf hk0 hk1
  have hkb0 := kkF_b (k := k) hf 0 (by omega)
  have hkb1 := kkF_b (k := k) hf 1 (by omega)
  have hkb2 := kkF_b (k := k) hf 2 (by omega)
  have hkb3 := kkF_b (k := k) hf 3 (by omega)
  have hkb4 := kkF_b (k := k) hf 4 (by omega)
  have hkb5 := kkF_b (k := k) hf 5 (by omega)
  refine awp_seq ?_
  refine r1 T0_ok hP hm hN ?_
  refine g1 ?_
  refine awp_seq ?_
  refine awp_seq ?_
  refine r1 T0_ok hP hm hN ?_
  refine g1 ?_
  refine awp_block ?_
  refine awp_loop (fun n st => (n = 5 ∧ st = ⟨[(5, .val (.int .i64 0)), (1, .val (.int .i64 (kkF f k 0))), (0, .own 0)], [(0, ⟨25, 1, true, [[.own 1], [.own 2], [.own 3], [.own 4], [.own 5]]⟩), (1, ⟨2, 1, false, i64s (f 0)⟩), (2, ⟨2, 1, false, i64s (f 1)⟩), (3, ⟨2, 1, false, i64s (f 2)⟩), (4, ⟨2, 1, false, i64s (f 3)⟩), (5, ⟨2, 1, false, i64s (f 4)⟩)], 6⟩) ∨ (n = 4 ∧ st = ⟨[(5, .val (.int .i64 1)), (1, .val (.int .i64 (kkF f k 1))), (0, .own 0)], [(0, ⟨25, 1, true, [[.own 1], [.own 2], [.own 3], [.own 4], [.own 5]]⟩), (1, ⟨2, 1, false, i64s (mkR f k 0)⟩), (2, ⟨2, 1, false, i64s (f 1)⟩), (3, ⟨2, 1, false, i64s (f 2)⟩), (4, ⟨2, 1, false, i64s (f 3)⟩), (5, ⟨2, 1, false, i64s (f 4)⟩)], 6⟩) ∨ (n = 3 ∧ st = ⟨[(5, .val (.int .i64 2)), (1, .val (.int .i64 (kkF f k 2))), (0, .own 0)], [(0, ⟨25, 1, true, [[.own 1], [.own 2], [.own 3], [.own 4], [.own 5]]⟩), (1, ⟨2, 1, false, i64s (mkR f k 0)⟩), (2, ⟨2, 1, false, i64s (mkR f k 1)⟩), (3, ⟨2, 1, false, i64s (f 2)⟩), (4, ⟨2, 1, false, i64s (f 3)⟩), (5, ⟨2, 1, false, i64s (f 4)⟩)], 6⟩) ∨ (n = 2 ∧ st = ⟨[(5, .val (.int .i64 3)), (1, .val (.int .i64 (kkF f k 3))), (0, .own 0)], [(0, ⟨25, 1, true, [[.own 1], [.own 2], [.own 3], [.own 4], [.own 5]]⟩), (1, ⟨2, 1, false, i64s (mkR f k 0)⟩), (2, ⟨2, 1, false, i64s (mkR f k 1)⟩), (3, ⟨2, 1, false, i64s (mkR f k 2)⟩), (4, ⟨2, 1, false, i64s (f 3)⟩), (5, ⟨2, 1, false, i64s (f 4)⟩)], 6⟩) ∨ (n = 1 ∧ st = ⟨[(5, .val (.int .i64 4)), (1, .val (.int .i64 (kkF f k 4))), (0, .own 0)], [(0, ⟨25, 1, true, [[.own 1], [.own 2], [.own 3], [.own 4], [.own 5]]⟩), (1, ⟨2, 1, false, i64s (mkR f k 0)⟩), (2, ⟨2, 1, false, i64s (mkR f k 1)⟩), (3, ⟨2, 1, false, i64s (mkR f k 2)⟩), (4, ⟨2, 1, false, i64s (mkR f k 3)⟩), (5, ⟨2, 1, false, i64s (f 4)⟩)], 6⟩) ∨ (n = 0 ∧ st = ⟨[(5, .val (.int .i64 5)), (1, .val (.int .i64 (kkF f k 5))), (0, .own 0)], [(0, ⟨25, 1, true, [[.own 1], [.own 2], [.own 3], [.own 4], [.own 5]]⟩), (1, ⟨2, 1, false, i64s (mkR f k 0)⟩), (2, ⟨2, 1, false, i64s (mkR f k 1)⟩), (3, ⟨2, 1, false, i64s (mkR f k 2)⟩), (4, ⟨2, 1, false, i64s (mkR f k 3)⟩), (5, ⟨2, 1, false, i64s (mkR f k 4)⟩)], 6⟩)) 5 ⟨_, weak_sl (sub_cons rfl (sub_cons rfl (sub_cons rfl (sub_nil)))), .inl ⟨rfl, rfl⟩⟩ ?_
  rintro n st (⟨rfl, rfl⟩ | ⟨rfl, rfl⟩ | ⟨rfl, rfl⟩ | ⟨rfl, rfl⟩ | ⟨rfl, rfl⟩ | ⟨rfl, rfl⟩)
  · skip
    refine awp_seq ?_
    refine awp_seq ?_
    refine r1 T0_ok hP hm hN ?_
    refine g1 ?_
    refine g1 ?_
    refine g1 ?_
    refine g1 ?_
    refine awp_cond rfl (fun hc => ?_) (fun hc => absurd hc (by decide))
    refine awp_skip ?_
    refine awp_seq ?_
    refine awp_block ?_
    refine r1 T0_ok hP hm hN ?_
    refine g1 ?_
    refine g1 ?_
    refine g1 ?_
    refine g1 ?_
    refine g1 ?_
    first
      | refine gc1 ?_ (call1 ok_L_markInt64S (f 0, kkF f k 0) [1] (hpre := by (try dsimp only); have := hf 0 (by omega); exact ⟨by omega, by omega, by omega⟩))
      | refine gc1 ?_ (call1 ok_L_markInt64S (f 1, kkF f k 1) [2] (hpre := by (try dsimp only); have := hf 1 (by omega); exact ⟨by omega, by omega, by omega⟩))
      | refine gc1 ?_ (call1 ok_L_markInt64S (f 2, kkF f k 2) [3] (hpre := by (try dsimp only); have := hf 2 (by omega); exact ⟨by omega, by omega, by omega⟩))
      | refine gc1 ?_ (call1 ok_L_markInt64S (f 3, kkF f k 3) [4] (hpre := by (try dsimp only); have := hf 3 (by omega); exact ⟨by omega, by omega, by omega⟩))
      | refine gc1 ?_ (call1 ok_L_markInt64S (f 4, kkF f k 4) [5] (hpre := by (try dsimp only); have := hf 4 (by omega); exact ⟨by omega, by omega, by omega⟩))
    refine g1 ?_
    refine r1 T0_ok hP hm hN ?_
    refine g1 ?_
    refine g1 ?_
    refine g1 ?_
    exact ⟨4, _, by omega, weak_sl (sub_cons rfl (sub_cons rfl (sub_cons rfl (sub_nil)))), .inr (.inl ⟨rfl, rfl⟩)⟩
  · skip
    refine awp_seq ?_
    refine awp_seq ?_
    refine r1 T0_ok hP hm hN ?_
    refine g1 ?_
    refine g1 ?_
    refine g1 ?_
    refine g1 ?_
    refine awp_cond rfl (fun hc => ?_) (fun hc => absurd hc (by decide))
    refine awp_skip ?_
    refine awp_seq ?_
    refine awp_block ?_
    refine r1 T0_ok hP hm hN ?_
    refine g1 ?_
    refine g1 ?_
    refine g1 ?_
    refine g1 ?_
    refine g1 ?_
    first
      | refine gc1 ?_ (call1 ok_L_markInt64S (f 0, kkF f k 0) [1] (hpre := by (try dsimp only); have := hf 0 (by omega); exact ⟨by omega, by omega, by omega⟩))
      | refine gc1 ?_ (call1 ok_L_markInt64S (f 1, kkF f k 1) [2] (hpre := by (try dsimp only); have := hf 1 (by omega); exact ⟨by omega, by omega, by omega⟩))
      | refine gc1 ?_ (call1 ok_L_markInt64S (f 2, kkF f k 2) [3] (hpre := by (try dsimp only); have := hf 2 (by omega); exact ⟨by omega, by omega, by omega⟩))
      | refine gc1 ?_ (call1 ok_L_markInt64S (f 3, kkF f k 3) [4] (hpre := by (try dsimp only); have := hf 3 (by omega); exact ⟨by omega, by omega, by omega⟩))
      | refine gc1 ?_ (call1 ok_L_markInt64S (f 4, kkF f k 4) [5] (hpre := by (try dsimp only); have := hf 4 (by omega); exact ⟨by omega, by omega, by omega⟩))
    refine g1 ?_
    refine r1 T0_ok hP hm hN ?_
    refine g1 ?_
    refine g1 ?_
    refine g1 ?_
    exact ⟨3, _, by omega, weak_sl (sub_cons rfl (sub_cons rfl (sub_cons rfl (sub_nil)))), .inr (.inr (.inl ⟨rfl, rfl⟩))⟩
  · skip
    refine awp_seq ?_
    refine awp_seq ?_
    refine r1 T0_ok hP hm hN ?_
    refine g1 ?_
    refine g1 ?_
    refine g1 ?_
    refine g1 ?_
    refine awp_cond rfl (fun hc => ?_) (fun hc => absurd hc (by decide))
    refine awp_skip ?_
    refine awp_seq ?_
    refine awp_block ?_
    refine r1 T0_ok hP hm hN ?_
    refine g1 ?_
    refine g1 ?_
    refine g1 ?_
    refine g1 ?_
    refine g1 ?_
    first
      | refine gc1 ?_ (call1 ok_L_markInt64S (f 0, kkF f k 0) [1] (hpre := by (try dsimp only); have := hf 0 (by omega); exact ⟨by omega, by omega, by omega⟩))
      | refine gc1 ?_ (call1 ok_L_markInt64S (f 1, kkF f k 1) [2] (hpre := by (try dsimp only); have := hf 1 (by omega); exact ⟨by omega, by omega, by omega⟩))
      | refine gc1 ?_ (call1 ok_L_markInt64S (f 2, kkF f k 2) [3] (hpre := by (try dsimp only); have := hf 2 (by omega); exact ⟨by omega, by omega, by omega⟩))
      | refine gc1 ?_ (call1 ok_L_markInt64S (f 3, kkF f k 3) [4] (hpre := by (try dsimp only); have := hf 3 (by omega); exact ⟨by omega, by omega, by omega⟩))
      | refine gc1 ?_ (call1 ok_L_markInt64S (f 4, kkF f k 4) [5] (hpre := by (try dsimp only); have := hf 4 (by omega); exact ⟨by omega, by omega, by omega⟩))
    refine g1 ?_
    refine r1 T0_ok hP hm hN ?_
    refine g1 ?_
    refine g1 ?_
    refine g1 ?_
    exact ⟨2, _, by omega, weak_sl (sub_cons rfl (sub_cons rfl (sub_cons rfl (sub_nil)))), .inr (.inr (.inr (.inl ⟨rfl, rfl⟩)))⟩
  · skip
    refine awp_seq ?_
    refine awp_seq ?_
    refine r1 T0_ok hP hm hN ?_
    refine g1 ?_
    refine g1 ?_
    refine g1 ?_
    refine g1 ?_
    refine awp_cond rfl (fun hc => ?_) (fun hc => absurd hc (by decide))
    refine awp_skip ?_
    refine awp_seq ?_
    refine awp_block ?_
    refine r1 T0_ok hP hm hN ?_
    refine g1 ?_
    refine g1 ?_
    refine g1 ?_
    refine g1 ?_
    refine g1 ?_
    first
      | refine gc1 ?_ (call1 ok_L_markInt64S (f 0, kkF f k 0) [1] (hpre := by (try dsimp only); have := hf 0 (by omega); exact ⟨by omega, by omega, by omega⟩))
      | refine gc1 ?_ (call1 ok_L_markInt64S (f 1, kkF f k 1) [2] (hpre := by (try dsimp only); have := hf 1 (by omega); exact ⟨by omega, by omega, by omega⟩))
      | refine gc1 ?_ (call1 ok_L_markInt64S (f 2, kkF f k 2) [3] (hpre := by (try dsimp only); have := hf 2 (by omega); exact ⟨by omega, by omega, by omega⟩))
      | refine gc1 ?_ (call1 ok_L_markInt64S (f 3, kkF f k 3) [4] (hpre := by (try dsimp only); have := hf 3 (by omega); exact ⟨by omega, by omega, by omega⟩))
      | refine gc1 ?_ (call1 ok_L_markInt64S (f 4, kkF f k 4) [5] (hpre := by (try dsimp only); have := hf 4 (by omega); exact ⟨by omega, by omega, by omega⟩))
    refine g1 ?_
    refine r1 T0_ok hP hm hN ?_
    refine g1 ?_
    refine g1 ?_
    refine g1 ?_
    exact ⟨1, _, by omega, weak_sl (sub_cons rfl (sub_cons rfl (sub_cons rfl (sub_nil)))), .inr (.inr (.inr (.inr (.inl ⟨rfl, rfl⟩))))⟩
  · skip
    refine awp_seq ?_
    refine awp_seq ?_
    refine r1 T0_ok hP hm hN ?_
    refine g1 ?_
    refine g1 ?_
    refine g1 ?_
    refine g1 ?_
    refine awp_cond rfl (fun hc => ?_) (fun hc => absurd hc (by decide))
    refine awp_skip ?_
    refine awp_seq ?_
    refine awp_block ?_
    refine r1 T0_ok hP hm hN ?_
    refine g1 ?_
    refine g1 ?_
    refine g1 ?_
    refine g1 ?_
    refine g1 ?_
    first
      | refine gc1 ?_ (call1 ok_L_markInt64S (f 0, kkF f k 0) [1] (hpre := by (try dsimp only); have := hf 0 (by omega); exact ⟨by omega, by omega, by omega⟩))
      | refine gc1 ?_ (call1 ok_L_markInt64S (f 1, kkF f k 1) [2] (hpre := by (try dsimp only); have := hf 1 (by omega); exact ⟨by omega, by omega, by omega⟩))
      | refine gc1 ?_ (call1 ok_L_markInt64S (f 2, kkF f k 2) [3] (hpre := by (try dsimp only); have := hf 2 (by omega); exact ⟨by omega, by omega, by omega⟩))
      | refine gc1 ?_ (call1 ok_L_markInt64S (f 3, kkF f k 3) [4] (hpre := by (try dsimp only); have := hf 3 (by omega); exact ⟨by omega, by omega, by omega⟩))
      | refine gc1 ?_ (call1 ok_L_markInt64S (f 4, kkF f k 4) [5] (hpre := by (try dsimp only); have := hf 4 (by omega); exact ⟨by omega, by omega, by omega⟩))
    refine g1 ?_
    refine r1 T0_ok hP hm hN ?_
    refine g1 ?_
    refine g1 ?_
    refine g1 ?_
    exact ⟨0, _, by omega, weak_sl (sub_cons rfl (sub_cons rfl (sub_cons rfl (sub_nil)))), .inr (.inr (.inr (.inr (.inr (⟨rfl, rfl⟩)))))⟩
  · skip
    refine awp_seq ?_
    refine awp_seq ?_
    refine r1 T0_ok hP hm hN ?_
    refine g1 ?_
    refine g1 ?_
    refine g1 ?_
    refine g1 ?_
    refine awp_cond rfl (fun hc => absurd hc (by decide)) (fun hc => ?_)
    refine awp_exit ?_
    repeat refine thenA_exit ?_
    refine blockA_hit ?_
    refine awp_seq ?_
    refine r1 T0_ok hP hm hN ?_
    refine g1 ?_
    refine g1 ?_
    refine awp_ret ?_
    refine finG_mk [] rfl rfl rfl ?_ (by decide)
    exact objsG_cons rfl rfl rfl rfl (.inl rfl) (objsG_cons rfl rfl rfl (renXs_i64s _ _) (.inr (.inl rfl)) (objsG_cons rfl rfl rfl (renXs_i64s _ _) (.inr (.inl rfl)) (objsG_cons rfl rfl rfl (renXs_i64s _ _) (.inr (.inl rfl)) (objsG_cons rfl rfl rfl (renXs_i64s _ _) (.inr (.inl rfl)) (objsG_cons rfl rfl rfl (renXs_i64s _ _) (.inr (.inl rfl)) (objsG_nil))))))

theorem call_mark5 {o : Oper} {cf : Operand} {args : Array Operand} {tys : Array TypeId} {ev : Operand → D} {hp : HP} {nx : Nat} (f : Nat → List Int) (k : Int) (ho : o.op = .call ⟨.value cf, args, tys⟩) (hcf : fnParts (ev cf) = some (.func 15, [], []))
    (hpre : (∀ j, j < 7 → (f j).length ≤ 1048576) ∧ 0 ≤ k ∧ k ≤ 1000000000000) (hargs : args.toList.map ev = [.own 10, .val (.int .i64 k)]) (h0 : lk 10 hp = some ⟨25, 1, true, [[.own 11], [.own 12], [.own 13], [.own 14], [.own 15]]⟩) (h1 : lk 11 hp = some ⟨2, 1, false, i64s (f 0)⟩) (h2 : lk 12 hp = some ⟨2, 1, false, i64s (f 1)⟩) (h3 : lk 13 hp = some ⟨2, 1, false, i64s (f 2)⟩) (h4 : lk 14 hp = some ⟨2, 1, false, i64s (f 3)⟩) (h5 : lk 15 hp = some ⟨2, 1, false, i64s (f 4)⟩) :
    OpRel Pr o ev hp nx { d := .val (.int .i64 (kkF f k 5)), new := [], upd := [(10, ⟨25, 1, true, [[.own 11], [.own 12], [.own 13], [.own 14], [.own 15]]⟩), (11, ⟨2, 1, false, i64s (mkR f k 0)⟩), (12, ⟨2, 1, false, i64s (mkR f k 1)⟩), (13, ⟨2, 1, false, i64s (mkR f k 2)⟩), (14, ⟨2, 1, false, i64s (mkR f k 3)⟩), (15, ⟨2, 1, false, i64s (mkR f k 4)⟩)] } := by
  have h := OpRel.callG ok_L_markInt64SSN5 (f, k) [10, 11, 12, 13, 14, 15] (by decide) (o := o) (nx := nx) (d := .val (.int .i64 (kkF f k 5))) (K0 := [10, 11, 12, 13, 14, 15]) ho hcf hpre (by
    rw [List.nil_append, List.append_nil, hargs]
    exact args_cons (arga_own rfl) (args_cons arga_val args_nil)) (objsG_cons h0 rfl rfl rfl (.inl rfl) (objsG_cons h1 rfl rfl (renXs_i64s _ _) (.inr (.inl rfl)) (objsG_cons h2 rfl rfl (renXs_i64s _ _) (.inr (.inl rfl)) (objsG_cons h3 rfl rfl (renXs_i64s _ _) (.inr (.inl rfl)) (objsG_cons h4 rfl rfl (renXs_i64s _ _) (.inr (.inl rfl)) (objsG_cons h5 rfl rfl (renXs_i64s _ _) (.inr (.inl rfl)) (objsG_nil))))))) rfl rfl ⟨rfl, fm_cons (show okG 6 ⟨25, 1, true, tabD (fun j => .own (j + 1)) 5⟩ from okG_rows (f := f) (E := 2) _ (List.mem_cons.2 (.inl rfl))) (fm_cons (okG_flat (flat_i64s _ _ _ _)) (fm_cons (okG_flat (flat_i64s _ _ _ _)) (fm_cons (okG_flat (flat_i64s _ _ _ _)) (fm_cons (okG_flat (flat_i64s _ _ _ _)) (fm_cons (okG_flat (flat_i64s _ _ _ _)) (fm_nil))))))⟩
  simp only [List.map_cons, List.map_nil, updZ, shO, i64s_shC] at h
  exact h

noncomputable abbrev s_L_markInt64SSN6 : Spec ((Nat → List Int) × Int) where
  args := fun x => [.own 0, .val (.int .i64 x.2)]
  pre := fun x => (∀ j, j < 7 → (x.1 j).length ≤ 1048576) ∧ 0 ≤ x.2 ∧ x.2 ≤ 1000000000000
  obs := fun x => [⟨25, 1, true, [[.own 1], [.own 2], [.own 3], [.own 4], [.own 5], [.own 6]]⟩, ⟨2, 1, false, i64s (x.1 0)⟩, ⟨2, 1, false, i64s (x.1 1)⟩, ⟨2, 1, false, i64s (x.1 2)⟩, ⟨2, 1, false, i64s (x.1 3)⟩, ⟨2, 1, false, i64s (x.1 4)⟩, ⟨2, 1, false, i64s (x.1 5)⟩]
  out := fun x => [⟨25, 1, true, [[.own 1], [.own 2], [.own 3], [.own 4], [.own 5], [.own 6]]⟩, ⟨2, 1, false, i64s (mkR x.1 x.2 0)⟩, ⟨2, 1, false, i64s (mkR x.1 x.2 1)⟩, ⟨2, 1, false, i64s (mkR x.1 x.2 2)⟩, ⟨2, 1, false, i64s (mkR x.1 x.2 3)⟩, ⟨2, 1, false, i64s (mkR x.1 x.2 4)⟩, ⟨2, 1, false, i64s (mkR x.1 x.2 5)⟩]
  res := fun x => .val (.int .i64 (kkF x.1 x.2 6))

set_option maxRecDepth 20000 in
set_option maxHeartbeats 1000000 in
theorem ok_L_markInt64SSN6 : FnOk Pr 15 s_L_markInt64SSN6 := by
  refine fn_okG 2 7 T0_ok Go.Proofs.Try.func15 rfl (enters_of Go.Proofs.Try.func15 rfl rfl) (fun _ => rfl) (fun _ => rfl) (fun _ => rfl) ?_
  rintro ⟨f, k⟩ ⟨hf, hk0, hk1⟩ C hP hN hm hG
  change awp C _ _ ⟨[(0, .own 0), (1, .val (.int .i64 k))], [(0, ⟨25, 1, true, [[.own 1], [.own 2], [.own 3], [.own 4], [.own 5], [.own 6]]⟩), (1, ⟨2, 1, false, i64s (f 0)⟩), (2, ⟨2, 1, false, i64s (f 1)⟩), (3, ⟨2, 1, false, i64s (f 2)⟩), (4, ⟨2, 1, false, i64s (f 3)⟩), (5, ⟨2, 1, false, i64s (f 4)⟩), (6, ⟨2, 1, false, i64s (f 5)⟩)], 7⟩
  simp only at hf hk0 hk1
  have hkb0 := kkF_b (k := k) hf 0 (by omega)
  have hkb1 := kkF_b (k := k) hf 1 (by omega)
  have hkb2 := kkF_b (k := k) hf 2 (by omega)
  have hkb3 := kkF_b (k := k) hf 3 (by omega)
  have hkb4 := kkF_b (k := k) hf 4 (by omega)
  have hkb5 := kkF_b (k := k) hf 5 (by omega)
  have hkb6 := kkF_b (k := k) hf 6 (by omega)
  refine awp_seq ?_
  refine r1 T0_ok hP hm hN ?_
  refine g1 ?_
  refine awp_seq ?_
  refine awp_seq ?_
  refine r1 T0_ok hP hm hN ?_
  refine g1 ?_
  refine awp_block ?_
  refine awp_loop (fun n st => (n = 6 ∧ st = ⟨[(5, .val (.int .i64 0)), (1, .val (.int .i64 (kkF f k 0))), (0, .own 0)], [(0, ⟨25, 1, true, [[.own 1], [.own 2], [.own 3], [.own 4], [.own 5], [.own 6]]⟩), (1, ⟨2, 1, false, i64s (f 0)⟩), (2, ⟨2, 1, false, i64s (f 1)⟩), (3, ⟨2, 1, false, i64s (f 2)⟩), (4, ⟨2, 1, false, i64s (f 3)⟩), (5, ⟨2, 1, false, i64s (f 4)⟩), (6, ⟨2, 1, false, i64s (f 5)⟩)], 7⟩) ∨ (n = 5 ∧ st = ⟨[(5, .val (.int .i64 1)), (1, .val (.int .i64 (kkF f k 1))), (0, .own 0)], [(0, ⟨25, 1, true, [[.own 1], [.own 2], [.own 3], [.own 4], [.own 5], [.own 6]]⟩), (1, ⟨2, 1, false, i64s (mkR f k 0)⟩), (2, ⟨2, 1, false, i64s (f 1)⟩), (3, ⟨2, 1, false, i64s (f 2)⟩), (4, ⟨2, 1, false, i64s (f 3)⟩), (5, ⟨2, 1, false, i64s (f 4)⟩), (6, ⟨2, 1, false, i64s (f 5)⟩)], 7⟩) ∨ (n = 4 ∧ st = ⟨[(5, .val (.int .i64 2)), (1, .val (.int .i64 (kkF f k 2))), (0, .own 0)], [(0, ⟨25, 1, true, [[.own 1], [.own 2], [.own 3], [.own 4], [.own 5], [.own 6]]⟩), (1, ⟨2, 1, false, i64s (mkR f k 0)⟩), (2, ⟨2, 1, false, i64s (mkR f k 1)⟩), (3, ⟨2, 1, false, i64s (f 2)⟩), (4, ⟨2, 1, false, i64s (f 3)⟩), (5, ⟨2, 1, false, i64s (f 4)⟩), (6, ⟨2, 1, false, i64s (f 5)⟩)], 7⟩) ∨ (n = 3 ∧ st = ⟨[(5, .val (.int .i64 3)), (1, .val (.int .i64 (kkF f k 3))), (0, .own 0)], [(0, ⟨25, 1, true, [[.own 1], [.own 2], [.own 3], [.own 4], [.own 5], [.own 6]]⟩), (1, ⟨2, 1, false, i64s (mkR f k 0)⟩), (2, ⟨2, 1, false, i64s (mkR f k 1)⟩), (3, ⟨2, 1, false, i64s (mkR f k 2)⟩), (4, ⟨2, 1, false, i64s (f 3)⟩), (5, ⟨2, 1, false, i64s (f 4)⟩), (6, ⟨2, 1, false, i64s (f 5)⟩)], 7⟩) ∨ (n = 2 ∧ st = ⟨[(5, .val (.int .i64 4)), (1, .val (.int .i64 (kkF f k 4))), (0, .own 0)], [(0, ⟨25, 1, true, [[.own 1], [.own 2], [.own 3], [.own 4], [.own 5], [.own 6]]⟩), (1, ⟨2, 1, false, i64s (mkR f k 0)⟩), (2, ⟨2, 1, false, i64s (mkR f k 1)⟩), (3, ⟨2, 1, false, i64s (mkR f k 2)⟩), (4, ⟨2, 1, false, i64s (mkR f k 3)⟩), (5, ⟨2, 1, false, i64s (f 4)⟩), (6, ⟨2, 1, false, i64s (f 5)⟩)], 7⟩) ∨ (n = 1 ∧ st = ⟨[(5, .val (.int .i64 5)), (1, .val (.int .i64 (kkF f k 5))), (0, .own 0)], [(0, ⟨25, 1, true, [[.own 1], [.own 2], [.own 3], [.own 4], [.own 5], [.own 6]]⟩), (1, ⟨2, 1, false, i64s (mkR f k 0)⟩), (2, ⟨2, 1, false, i64s (mkR f k 1)⟩), (3, ⟨2, 1, false, i64s (mkR f k 2)⟩), (4, ⟨2, 1, false, i64s (mkR f k 3)⟩), (5, ⟨2, 1, false, i64s (mkR f k 4)⟩), (6, ⟨2, 1, false, i64s (f 5)⟩)], 7⟩) ∨ (n = 0 ∧ st = ⟨[(5, .val (.int .i64 6)), (1, .val (.int .i64 (kkF f k 6))), (0, .own 0)], [(0, ⟨25, 1, true, [[.own 1], [.own 2], [.own 3], [.own 4], [.own 5], [.own 6]]⟩), (1, ⟨2, 1, false, i64s (mkR f k 0)⟩), (2, ⟨2, 1, false, i64s (mkR f k 1)⟩), (3, ⟨2, 1, false, i64s (mkR f k 2)⟩), (4, ⟨2, 1, false, i64s (mkR f k 3)⟩), (5, ⟨2, 1, false, i64s (mkR f k 4)⟩), (6, ⟨2, 1, false, i64s (mkR f k 5)⟩)], 7⟩)) 6 ⟨_, weak_sl (sub_cons rfl (sub_cons rfl (sub_cons rfl (sub_nil)))), .inl ⟨rfl, rfl⟩⟩ ?_
  rintro n st (⟨rfl, rfl⟩ | ⟨rfl, rfl⟩ | ⟨rfl, rfl⟩ | ⟨rfl, rfl⟩ | ⟨rfl, rfl⟩ | ⟨rfl, rfl⟩ | ⟨rfl, rfl⟩)
  · skip
    refine awp_seq ?_
    refine awp_seq ?_
    refine r1 T0_ok hP hm hN ?_
    refine g1 ?_
    refine g1 ?_
    refine g1 ?_
    refine g1 ?_
    refine awp_cond rfl (fun hc => ?_) (fun hc => absurd hc (by decide))
    refine awp_skip ?_
    refine awp_seq ?_
    refine awp_block ?_
    refine r1 T0_ok hP hm hN ?_
    refine g1 ?_
    refine g1 ?_
    refine g1 ?_
    refine g1 ?_
    refine g1 ?_
    first
      | refine gc1 ?_ (call1 ok_L_markInt64S (f 0, kkF f k 0) [1] (hpre := by (try dsimp only); have := hf 0 (by omega); exact ⟨by omega, by omega, by omega⟩))
      | refine gc1 ?_ (call1 ok_L_markInt64S (f 1, kkF f k 1) [2] (hpre := by (try dsimp only); have := hf 1 (by omega); exact ⟨by omega, by omega, by omega⟩))
      | refine gc1 ?_ (call1 ok_L_markInt64S (f 2, kkF f k 2) [3] (hpre := by (try dsimp only); have := hf 2 (by omega); exact ⟨by omega, by omega, by omega⟩))
      | refine gc1 ?_ (call1 ok_L_markInt64S (f 3, kkF f k 3) [4] (hpre := by (try dsimp only); have := hf 3 (by omega); exact ⟨by omega, by omega, by omega⟩))
      | refine gc1 ?_ (call1 ok_L_markInt64S (f 4, kkF f k 4) [5] (hpre := by (try dsimp only); have := hf 4 (by omega); exact ⟨by omega, by omega, by omega⟩))
      | refine gc1 ?_ (call1 ok_L_markInt64S (f 5, kkF f k 5) [6] (hpre := by (try dsimp only); have := hf 5 (by omega); exact ⟨by omega, by omega, by omega⟩))
    refine g1 ?_
    refine r1 T0_ok hP hm hN ?_
    refine g1 ?_
    refine g1 ?_
    refine g1 ?_
    exact ⟨5, _, by omega, weak_sl (sub_cons rfl (sub_cons rfl (sub_cons rfl (sub_nil)))), .inr (.inl ⟨rfl, rfl⟩)⟩
  · skip
    refine awp_seq ?_
    refine awp_seq ?_
    refine r1 T0_ok hP hm hN ?_
    refine g1 ?_
    refine g1 ?_
    refine g1 ?_
    refine g1 ?_
    refine awp_cond rfl (fun hc => ?_) (fun hc => absurd hc (by decide))
    refine awp_skip ?_
    refine awp_seq ?_
    refine awp_block ?_
    refine r1 T0_ok hP hm hN ?_
    refine g1 ?_
    refine g1 ?_
    refine g1 ?_
    refine g1 ?_
    refine g1 ?_
    first
      | refine gc1 ?_ (call1 ok_L_markInt64S (f 0, kkF f k 0) [1] (hpre := by (try dsimp only); have := hf 0 (by omega); exact ⟨by omega, by omega, by omega⟩))
      | refine gc1 ?_ (call1 ok_L_markInt64S (f 1, kkF f k 1) [2] (hpre := by (try dsimp only); have := hf 1 (by omega); exact ⟨by omega, by omega, by omega⟩))
      | refine gc1 ?_ (call1 ok_L_markInt64S (f 2, kkF f k 2) [3] (hpre := by (try dsimp only); have := hf 2 (by omega); exact ⟨by omega, by omega, by omega⟩))
      | refine gc1 ?_ (call1 ok_L_markInt64S (f 3, kkF f k 3) [4] (hpre := by (try dsimp only); have := hf 3 (by omega); exact ⟨by omega, by omega, by omega⟩))
      | refine gc1 ?_ (call1 ok_L_markInt64S (f 4, kkF f k 4) [5] (hpre := by (try dsimp only); have := hf 4 (by omega); exact ⟨by omega, by omega, by omega⟩))
      | refine gc1 ?_ (call1 ok_L_markInt64S (f 5, kkF f k 5) [6] (hpre := by (try dsimp only); have := hf 5 (by omega); exact ⟨by omega, by omega, by omega⟩))
    refine g1 ?_
    refine r1 T0_ok hP hm hN ?_
    refine g1 ?_
    refine g1 ?_
    refine g1 ?_
    exact ⟨4, _, by omega, weak_sl (sub_cons rfl (sub_cons rfl (sub_cons rfl (sub_nil)))), .inr (.inr (.inl ⟨rfl, rfl⟩))⟩
  · skip
    refine awp_seq ?_
    refine awp_seq ?_
    refine r1 T0_ok hP hm hN ?_
    refine g1 ?_
    refine g1 ?_
    refine g1 ?_
    refine g1 ?_
    refine awp_cond rfl (fun hc => ?_) (fun hc => absurd hc (by decide))
    refine awp_skip ?_
    refine awp_seq ?_
    refine awp_block ?_
    refine r1 T0_ok hP hm hN ?_
    refine g1 ?_
    refine g1 ?_
    refine g1 ?_
    refine g1 ?_
    refine g1 ?_
    first
      | refine gc1 ?_ (call1 ok_L_markInt64S (f 0, kkF f k 0) [1] (hpre := by (try dsimp only); have := hf 0 (by omega); exact ⟨by omega, by omega, by omega⟩))
      | refine gc1 ?_ (call1 ok_L_markInt64S (f 1, kkF f k 1) [2] (hpre := by (try dsimp only); have := hf 1 (by omega); exact ⟨by omega, by omega, by omega⟩))
      | refine gc1 ?_ (call1 ok_L_markInt64S (f 2, kkF f k 2) [3] (hpre := by (try dsimp only); have := hf 2 (by omega); exact ⟨by omega, by omega, by omega⟩))
      | refine gc1 ?_ (call1 ok_L_markInt64S (f 3, kkF f k 3) [4] (hpre := by (try dsimp only); have := hf 3 (by omega); exact ⟨by omega, by omega, by omega⟩))
      | refine gc1 ?_ (call1 ok_L_markInt64S (f 4, kkF f k 4) [5] (hpre := by (try dsimp only); have := hf 4 (by omega); exact ⟨by omega, by omega, by omega⟩))
      | refine gc1 ?_ (call1 ok_L_markInt64S (f 5, kkF f k 5) [6] (hpre := by (try dsimp only); have := hf 5 (by omega); exact ⟨by omega, by omega, by omega⟩))
    refine g1 ?_
    refine r1 T0_ok hP hm hN ?_
    refine g1 ?_
    refine g1 ?_
    refine g1 ?_
    exact ⟨3, _, by omega, weak_sl (sub_cons rfl (sub_cons rfl (sub_cons rfl (sub_nil)))), .inr (.inr (.inr (.inl ⟨rfl, rfl⟩)))⟩
  · skip
    refine awp_seq ?_
    refine awp_seq ?_
    refine r1 T0_ok hP hm hN ?_
    refine g1 ?_
    refine g1 ?_
    refine g1 ?_
    refine g1 ?_
    refine awp_cond rfl (fun hc => ?_) (fun hc => absurd hc (by decide))
    refine awp_skip ?_
    refine awp_seq ?_
    refine awp_block ?_
    refine r1 T0_ok hP hm hN ?_
    refine g1 ?_
    refine g1 ?_
    refine g1 ?_
    refine g1 ?_
    refine g1 ?_
    first
      | refine gc1 ?_ (call1 ok_L_markInt64S (f 0, kkF f k 0) [1] (hpre := by (try dsimp only); have := hf 0 (by omega); exact ⟨by omega, by omega, by omega⟩))
      | refine gc1 ?_ (call1 ok_L_markInt64S (f 1, kkF f k 1) [2] (hpre := by (try dsimp only); have := hf 1 (by omega); exact ⟨by omega, by omega, by omega⟩))
      | refine gc1 ?_ (call1 ok_L_markInt64S (f 2, kkF f k 2) [3] (hpre := by (try dsimp only); have := hf 2 (by omega); exact ⟨by omega, by omega, by omega⟩))
      | refine gc1 ?_ (call1 ok_L_markInt64S (f 3, kkF f k 3) [4] (hpre := by (try dsimp only); have := hf 3 (by omega); exact ⟨by omega, by omega, by omega⟩))
      | refine gc1 ?_ (call1 ok_L_markInt64S (f 4, kkF f k 4) [5] (hpre := by (try dsimp only); have := hf 4 (by omega); exact ⟨by omega, by omega, by omega⟩))
      | refine gc1 ?_ (call1 ok_L_markInt64S (f 5, kkF f k 5) [6] (hpre := by (try dsimp only); have := hf 5 (by omega); exact ⟨by omega, by omega, by omega⟩))
    refine g1 ?_
    refine r1 T0_ok hP hm hN ?_
    refine g1 ?_
    refine g1 ?_
    refine g1 ?_
    exact ⟨2, _, by omega, weak_sl (sub_cons rfl (sub_cons rfl (sub_cons rfl (sub_nil)))), .inr (.inr (.inr (.inr (.inl ⟨rfl, rfl⟩))))⟩
  · skip
    refine awp_seq ?_
    refine awp_seq ?_
    refine r1 T0_ok hP hm hN ?_
    refine g1 ?_
    refine g1 ?_
    refine g1 ?_
    refine g1 ?_
    refine awp_cond rfl (fun hc => ?_) (fun hc => absurd hc (by decide))
    refine awp_skip ?_
    refine awp_seq ?_
    refine awp_block ?_
    refine r1 T0_ok hP hm hN ?_
    refine g1 ?_
    refine g1 ?_
    refine g1 ?_
    refine g1 ?_
    refine g1 ?_
    first
      | refine gc1 ?_ (call1 ok_L_markInt64S (f 0, kkF f k 0) [1] (hpre := by (try dsimp only); have := hf 0 (by omega); exact ⟨by omega, by omega, by omega⟩))
      | refine gc1 ?_ (call1 ok_L_markInt64S (f 1, kkF f k 1) [2] (hpre := by (try dsimp only); have := hf 1 (by omega); exact ⟨by omega, by omega, by omega⟩))
      | refine gc1 ?_ (call1 ok_L_markInt64S (f 2, kkF f k 2) [3] (hpre := by (try dsimp only); have := hf 2 (by omega); exact ⟨by omega, by omega, by omega⟩))
      | refine gc1 ?_ (call1 ok_L_markInt64S (f 3, kkF f k 3) [4] (hpre := by (try dsimp only); have := hf 3 (by omega); exact ⟨by omega, by omega, by omega⟩))
      | refine gc1 ?_ (call1 ok_L_markInt64S (f 4, kkF f k 4) [5] (hpre := by (try dsimp only); have := hf 4 (by omega); exact ⟨by omega, by omega, by omega⟩))
      | refine gc1 ?_ (call1 ok_L_markInt64S (f 5, kkF f k 5) [6] (hpre := by (try dsimp only); have := hf 5 (by omega); exact ⟨by omega, by omega, by omega⟩))
    refine g1 ?_
    refine r1 T0_ok hP hm hN ?_
    refine g1 ?_
    refine g1 ?_
    refine g1 ?_
    exact ⟨1, _, by omega, weak_sl (sub_cons rfl (sub_cons rfl (sub_cons rfl (sub_nil)))), .inr (.inr (.inr (.inr (.inr (.inl ⟨rfl, rfl⟩)))))⟩
  · skip
    refine awp_seq ?_
    refine awp_seq ?_
    refine r1 T0_ok hP hm hN ?_
    refine g1 ?_
    refine g1 ?_
    refine g1 ?_
    refine g1 ?_
    refine awp_cond rfl (fun hc => ?_) (fun hc => absurd hc (by decide))
    refine awp_skip ?_
    refine awp_seq ?_
    refine awp_block ?_
    refine r1 T0_ok hP hm hN ?_
    refine g1 ?_
    refine g1 ?_
    refine g1 ?_
    refine g1 ?_
    refine g1 ?_
    first
      | refine gc1 ?_ (call1 ok_L_markInt64S (f 0, kkF f k 0) [1] (hpre := by (try dsimp only); have := hf 0 (by omega); exact ⟨by omega, by omega, by omega⟩))
      | refine gc1 ?_ (call1 ok_L_markInt64S (f 1, kkF f k 1) [2] (hpre := by (try dsimp only); have := hf 1 (by omega); exact ⟨by omega, by omega, by omega⟩))
      | refine gc1 ?_ (call1 ok_L_markInt64S (f 2, kkF f k 2) [3] (hpre := by (try dsimp only); have := hf 2 (by omega); exact ⟨by omega, by omega, by omega⟩))
      | refine gc1 ?_ (call1 ok_L_markInt64S (f 3, kkF f k 3) [4] (hpre := by (try dsimp only); have := hf 3 (by omega); exact ⟨by omega, by omega, by omega⟩))
      | refine gc1 ?_ (call1 ok_L_markInt64S (f 4, kkF f k 4) [5] (hpre := by (try dsimp only); have := hf 4 (by omega); exact ⟨by omega, by omega, by omega⟩))
      | refine gc1 ?_ (call1 ok_L_markInt64S (f 5, kkF f k 5) [6] (hpre := by (try dsimp only); have := hf 5 (by omega); exact ⟨by omega, by omega, by omega⟩))
    refine g1 ?_
    refine r1 T0_ok hP hm hN ?_
    refine g1 ?_
    refine g1 ?_
    refine g1 ?_
    exact ⟨0, _, by omega, weak_sl (sub_cons rfl (sub_cons rfl (sub_cons rfl (sub_nil)))), .inr (.inr (.inr (.inr (.inr (.inr (⟨rfl, rfl⟩))))))⟩
  · skip
    refine awp_seq ?_
    refine awp_seq ?_
    refine r1 T0_ok hP hm hN ?_
    refine g1 ?_
    refine g1 ?_
    refine g1 ?_
    refine g1 ?_
    refine awp_cond rfl (fun hc => absurd hc (by decide)) (fun hc => ?_)
    refine awp_exit ?_
    repeat refine thenA_exit ?_
    refine blockA_hit ?_
    refine awp_seq ?_
    refine r1 T0_ok hP hm hN ?_
    refine g1 ?_
    refine g1 ?_
    refine awp_ret ?_
    refine finG_mk [] rfl rfl rfl ?_ (by decide)
    exact objsG_cons rfl rfl rfl rfl (.inl rfl) (objsG_cons rfl rfl rfl (renXs_i64s _ _) (.inr (.inl rfl)) (objsG_cons rfl rfl rfl (renXs_i64s _ _) (.inr (.inl rfl)) (objsG_cons rfl rfl rfl (renXs_i64s _ _) (.inr (.inl rfl)) (objsG_cons rfl rfl rfl (renXs_i64s _ _) (.inr (.inl rfl)) (objsG_cons rfl rfl rfl (renXs_i64s _ _) (.inr (.inl rfl)) (objsG_cons rfl rfl rfl (renXs_i64s _ _) (.inr (.inl rfl)) (objsG_nil)))))))

theorem call_mark6 {o : Oper} {cf : Operand} {args : Array Operand} {tys : Array TypeId} {ev : Operand → D} {hp : HP} {nx : Nat} (f : Nat → List Int) (k : Int) (ho : o.op = .call ⟨.value cf, args, tys⟩) (hcf : fnParts (ev cf) = some (.func 15, [], []))
    (hpre : (∀ j, j < 7 → (f j).length ≤ 1048576) ∧ 0 ≤ k ∧ k ≤ 1000000000000) (hargs : args.toList.map ev = [.own 10, .val (.int .i64 k)]) (h0 : lk 10 hp = some ⟨25, 1, true, [[.own 11], [.own 12], [.own 13], [.own 14], [.own 15], [.own 16]]⟩) (h1 : lk 11 hp = some ⟨2, 1, false, i64s (f 0)⟩) (h2 : lk 12 hp = some ⟨2, 1, false, i64s (f 1)⟩) (h3 : lk 13 hp = some ⟨2, 1, false, i64s (f 2)⟩) (h4 : lk 14 hp = some ⟨2, 1, false, i64s (f 3)⟩) (h5 : lk 15 hp = some ⟨2, 1, false, i64s (f 4)⟩) (h6 : lk 16 hp = some ⟨2, 1, false, i64s (f 5)⟩) :
    OpRel Pr o ev hp nx { d := .val (.int .i64 (kkF f k 6)), new := [], upd := [(10, ⟨25, 1, true, [[.own 11], [.own 12], [.own 13], [.own 14], [.own 15], [.own 16]]⟩), (11, ⟨2, 1, false, i64s (mkR f k 0)⟩), (12, ⟨2, 1, false, i64s (mkR f k 1)⟩), (13, ⟨2, 1, false, i64s (mkR f k 2)⟩), (14, ⟨2, 1, false, i64s (mkR f k 3)⟩), (15, ⟨2, 1, false, i64s (mkR f k 4)⟩), (16, ⟨2, 1, false, i64s (mkR f k 5)⟩)] } := by
  have h := OpRel.callG ok_L_markInt64SSN6 (f, k) [10, 11, 12, 13, 14, 15, 16] (by decide) (o := o) (nx := nx) (d := .val (.int .i64 (kkF f k 6))) (K0 := [10, 11, 12, 13, 14, 15, 16]) ho hcf hpre (by
    rw [List.nil_append, List.append_nil, hargs]
    exact args_cons (arga_own rfl) (args_cons arga_val args_nil)) (objsG_cons h0 rfl rfl rfl (.inl rfl) (objsG_cons h1 rfl rfl (renXs_i64s _ _) (.inr (.inl rfl)) (objsG_cons h2 rfl rfl (renXs_i64s _ _) (.inr (.inl rfl)) (objsG_cons h3 rfl rfl (renXs_i64s _ _) (.inr (.inl rfl)) (objsG_cons h4 rfl rfl (renXs_i64s _ _) (.inr (.inl rfl)) (objsG_cons h5 rfl rfl (renXs_i64s _ _) (.inr (.inl rfl)) (objsG_cons h6 rfl rfl (renXs_i64s _ _) (.inr (.inl rfl)) (objsG_nil)))))))) rfl rfl ⟨rfl, fm_cons (show okG 7 ⟨25, 1, true, tabD (fun j => .own (j + 1)) 6⟩ from okG_rows (f := f) (E := 2) _ (List.mem_cons.2 (.inl rfl))) (fm_cons (okG_flat (flat_i64s _ _ _ _)) (fm_cons (okG_flat (flat_i64s _ _ _ _)) (fm_cons (okG_flat (flat_i64s _ _ _ _)) (fm_cons (okG_flat (flat_i64s _ _ _ _)) (fm_cons (okG_flat (flat_i64s _ _ _ _)) (fm_cons (okG_flat (flat_i64s _ _ _ _)) (fm_nil)))))))⟩
  simp only [List.map_cons, List.map_nil, updZ, shO, i64s_shC] at h
  exact h
end Go.Proofs.Ytnopmfjamjbphaa.Abs
