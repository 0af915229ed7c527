import Derived.Test.YtnopmfjamjbphaaB4
set_option linter.unusedVariables false
set_option linter.unusedSimpArgs false
namespace Go.Proofs.Ytnopmfjamjbphaa.Abs
open Go Go.RowKit

/-- The call of 'groups' by one who needs the heights afterwards. -/
theorem call_groups {o : Oper} {cf : Operand} {args : Array Operand} {tys : Array TypeId} {ev : Operand → D} {hp : HP} (hs : List Int) (bs : List Bk) {n : Nat} (hn : kG hs bs = n) (ho : o.op = .call ⟨.value cf, args, tys⟩) (hcf : fnParts (ev cf) = some (.func 22, [], []))
    (hpre : (∀ b ∈ bs, isBk b) ∧ bs.length ≤ 1048576 ∧ 1 ≤ hs.length ∧ hs.length ≤ 6) (hargs : Args hp [] [.sl 1 (i64s hs), .sl 8 (bks bs)] (args.toList.map ev)) :
    OpRel Pr o ev hp 29 { d := .tup [.own 29, .val (.bool (okR hs bs))], new := (29, ⟨25, 1, true, tabD (uO (rwG hs bs) 0) n⟩) :: famR (rwG hs bs) 2 0 n, upd := [] } := by
  subst hn
  have h := OpRel.callG ok_I_groupsD (hs, bs) [] (by decide) (o := o) (nx := 29) (d := .tup [.own 29, .val (.bool (okR hs bs))]) (K0 := List.range' 29 (kG hs bs + 1)) ho hcf hpre (by simpa using hargs) trivial rfl (by
    show _ = [] ++ List.range' 29 (rowsO _ _ 0 (kG hs bs)).length.succ
    rw [rowsO_len]; rfl) ⟨rfl, fun o ho => by
      rw [List.length_range']
      exact okG_rows o ho⟩
  have e := numbered_outer (rwG hs bs) 2 25 (kG hs bs)
  show OpRel Pr o ev hp 29 { d := .tup [.own 29, .val (.bool (okR hs bs))], new := (29, _) :: _, upd := [] }
  rw [← e]
  exact h

noncomputable abbrev s_I_GroupBooks : Spec ((Int × Int × Int) × List Int × List Bk) where
  args := fun x => [pegs x.1, .sl 1 (i64s x.2.1), .sl 8 (bks x.2.2)]
  pre := fun x => isPegs x.1 ∧ x.2.1.length ≤ 1048576 ∧ (∀ b ∈ x.2.2, isBk b) ∧ x.2.2.length ≤ 1048576
  new := fun x => ⟨25, 1, true, tabD (fun j => .own (j + 1)) (nG x.1.1 x.1.2.1 x.1.2.2 x.2.1 x.2.2)⟩ :: rowsO (rwG x.2.1 x.2.2) 2 0 (nG x.1.1 x.1.2.1 x.1.2.2 x.2.1 x.2.2)
  res := fun x => .tup [.own 0, .val (.int .i64 (codeG x.1.1 x.1.2.1 x.1.2.2 x.2.1 x.2.2))]

set_option maxRecDepth 20000 in
set_option maxHeartbeats 4000000 in
theorem ok_I_GroupBooks : FnOk Pr 9 s_I_GroupBooks := by
  refine fn_okG 3 0 T0_ok Go.Proofs.Try.func9 rfl (enters_of Go.Proofs.Try.func9 rfl rfl) (fun _ => rfl) (fun _ => rfl) (fun _ => rfl) ?_
  rintro ⟨⟨a, b, c⟩, hs, bs⟩ ⟨hp, hhl, hv, hl⟩ C hP hN hm hG
  change awp C _ _ ⟨[(0, .val (.agg #[.int .i16 a, .int .i16 b, .int .i16 c])), (1, .sl 1 (i64s hs)), (2, .sl 8 (bks bs))], [], 0⟩
  simp only at hhl hv hl
  refine awp_seq ?_
  refine r1 T0_ok hP hm hN ?_
  refine g1 ?_
  refine g1 ?_
  refine g1 ?_
  refine awp_seq ?_
  refine awp_seq ?_
  refine r1 T0_ok hP hm hN ?_
  refine g1 ?_
  refine g1 ?_
  refine gc1 ?_ (call1 ok_I_ValidHeights ((_, _, _), _) [] (hpre := by (try dsimp only); exact ⟨hp, by omega⟩))
  refine g1 ?_
  refine g1 ?_
  refine gg1 ?_
  refine ggc1 ?_ (hs := by intro hb; simp +decide only [hb, gd_tt, gd_ff, beq_self_eq_true, Bool.true_and, beq_true]; exact ⟨rfl, _, call1 ok_I_ValidBooks _ [] (hpre := by (try dsimp only); omega), rfl, rfl, rfl⟩)
  refine gg1 ?_
  refine g1 ?_
  refine awp_cond rfl (fun hc0 => ?_) (fun hc0 => ?_)
  · skip
    refine awp_seq ?_
    refine r1 T0_ok hP hm hN ?_
    refine g1 ?_
    refine g1 ?_
    refine awp_weak (weak_nil 6 25 1 rfl) ?_
    refine awp_ret ?_
    first
      | (have hcd := codeG_1 (hs := hs) hc0
         have hng : nG a b c hs bs = 0 := by simp [nG, hcd]
         refine finG_mk [1] rfl rfl ?_ ?_ (by decide)
         · show D.tup [_, .val (.int .i64 (codeG a b c hs bs))] = _
           rw [hcd]; rfl
         · show ObjsG _ _ _ ((⟨25, 1, true, tabD (fun j => .own (j + 1)) (nG a b c hs bs)⟩ : Ob) :: rowsO (rwG hs bs) 2 0 (nG a b c hs bs))
           rw [hng]
           exact objsG_cons rfl rfl rfl rfl (.inl rfl) objsG_nil)
  · skip
    have hpg := preG_of hv hc0
    have h6 := hpg.2.2
    refine awp_skip ?_
    refine awp_seq ?_
    cases hag : ask (allG hs bs)
    · skip
      have hkg : kG hs bs = 0 := by rw [kG, hag]; rfl
      refine awp_weak (weak_nx (nx' := 29) (by omega) (by rfl)) ?_
      refine r1 T0_ok hP hm hN ?_
      refine g1 ?_
      refine g1 ?_
      refine gc1 ?_ (call_groups hs bs hkg rfl rfl ⟨hv, by omega, by omega, by omega⟩ (by exact args_cons (by first | exact arga_val | exact arga_slsl | exact arga_nil | exact arga_slown (by simp) rfl rfl rfl rfl | exact arga_own rfl | exact arga_slnil | exact argc_rptr (by simp) rfl rfl rfl (.inr (by simp [hf])) | exact argA_self rfl) (args_cons (by first | exact arga_val | exact arga_slsl | exact arga_nil | exact arga_slown (by simp) rfl rfl rfl rfl | exact arga_own rfl | exact arga_slnil | exact argc_rptr (by simp) rfl rfl rfl (.inr (by simp [hf])) | exact argA_self rfl) (args_nil))))
      refine g1 ?_
      refine g1 ?_
      refine g1 ?_
      refine g1 ?_
      refine g1 ?_
      refine awp_seq ?_
      refine awp_seq ?_
      refine r1 T0_ok hP hm hN ?_
      refine g1 ?_
      refine g1 ?_
      refine awp_cond rfl (fun hc1 => ?_) (fun hc1 => ?_)
      · skip
        refine awp_seq ?_
        refine r1 T0_ok hP hm hN ?_
        refine g1 ?_
        refine g1 ?_
        first
          | refine awp_weak (show Weak C _ ⟨[(6, .nil), (7, .val (.int .i64 6))], [(0, ⟨31, 3, true, [[.val (.int .i16 a), .val (.int .i16 b), .val (.int .i16 c)]]⟩)], 29⟩ from Weak.trans (weak_drop 29) (Weak.trans (weak_nx (nx' := 29) (by omega) (by rfl)) (weak_sl (sub_cons rfl (sub_cons rfl sub_nil))))) ?_
          | skip
        refine awp_weak (weak_nil 6 25 1 rfl) ?_
        refine awp_ret ?_
        first
          | exact absurd hc1 (by rw [show okR hs bs = true from hag]; decide)
          | (have hcd := codeG_6 hc0 hag
             have hng : nG a b c hs bs = 0 := by simp [nG, hcd]
             refine finG_mk [29] rfl rfl ?_ ?_ (by decide)
             · show D.tup [_, .val (.int .i64 (codeG a b c hs bs))] = _
               rw [hcd]; rfl
             · show ObjsG _ _ _ ((⟨25, 1, true, tabD (fun j => .own (j + 1)) (nG a b c hs bs)⟩ : Ob) :: rowsO (rwG hs bs) 2 0 (nG a b c hs bs))
               rw [hng]
               exact objsG_cons rfl rfl rfl rfl (.inl rfl) objsG_nil)
      · skip
        refine awp_skip ?_
        refine awp_seq ?_
        refine r1 T0_ok hP hm hN ?_
        refine g1 ?_
        refine g1 ?_
        refine g1 ?_
        refine awp_ret ?_
        first
          | exact absurd hc1 (by rw [show okR hs bs = false from hag]; decide)
          | (have hcd := codeG_0 hc0 hag
             have hng : nG a b c hs bs = hs.length := by simp [nG, hcd]
             refine finG_mk (List.range' 29 (hs.length + 1)) rfl rfl ?_ ?_ (by simpa using List.nodup_range' (s := 29) (n := hs.length + 1))
             · show D.tup [_, .val (.int .i64 (codeG a b c hs bs))] = _
               rw [hcd]; rfl
             · show ObjsG _ _ _ ((⟨25, 1, true, tabD (fun j => .own (j + 1)) (nG a b c hs bs)⟩ : Ob) :: rowsO (rwG hs bs) 2 0 (nG a b c hs bs))
               rw [hng]
               exact objsG_fam (by rw [lk_cons, if_pos rfl]) (fun j hj => lk_fam_in _ _ _ _ j hj))
    · skip
      have hkg : kG hs bs = hs.length := by rw [kG, hag]; rfl
      refine awp_weak (weak_nx (nx' := 29) (by omega) (by rfl)) ?_
      refine r1 T0_ok hP hm hN ?_
      refine g1 ?_
      refine g1 ?_
      refine gc1 ?_ (call_groups hs bs hkg rfl rfl ⟨hv, by omega, by omega, by omega⟩ (by exact args_cons (by first | exact arga_val | exact arga_slsl | exact arga_nil | exact arga_slown (by simp) rfl rfl rfl rfl | exact arga_own rfl | exact arga_slnil | exact argc_rptr (by simp) rfl rfl rfl (.inr (by simp [hf])) | exact argA_self rfl) (args_cons (by first | exact arga_val | exact arga_slsl | exact arga_nil | exact arga_slown (by simp) rfl rfl rfl rfl | exact arga_own rfl | exact arga_slnil | exact argc_rptr (by simp) rfl rfl rfl (.inr (by simp [hf])) | exact argA_self rfl) (args_nil))))
      refine g1 ?_
      refine g1 ?_
      refine g1 ?_
      refine g1 ?_
      refine g1 ?_
      refine awp_seq ?_
      refine awp_seq ?_
      refine r1 T0_ok hP hm hN ?_
      refine g1 ?_
      refine g1 ?_
      refine awp_cond rfl (fun hc1 => ?_) (fun hc1 => ?_)
      · skip
        refine awp_seq ?_
        refine r1 T0_ok hP hm hN ?_
        refine g1 ?_
        refine g1 ?_
        first
          | refine awp_weak (show Weak C _ ⟨[(6, .nil), (7, .val (.int .i64 6))], [(0, ⟨31, 3, true, [[.val (.int .i16 a), .val (.int .i16 b), .val (.int .i16 c)]]⟩)], 29⟩ from Weak.trans (weak_drop 29) (Weak.trans (weak_nx (nx' := 29) (by omega) (by rfl)) (weak_sl (sub_cons rfl (sub_cons rfl sub_nil))))) ?_
          | skip
        refine awp_weak (weak_nil 6 25 1 rfl) ?_
        refine awp_ret ?_
        first
          | exact absurd hc1 (by rw [show okR hs bs = true from hag]; decide)
          | (have hcd := codeG_6 hc0 hag
             have hng : nG a b c hs bs = 0 := by simp [nG, hcd]
             refine finG_mk [29] rfl rfl ?_ ?_ (by decide)
             · show D.tup [_, .val (.int .i64 (codeG a b c hs bs))] = _
               rw [hcd]; rfl
             · show ObjsG _ _ _ ((⟨25, 1, true, tabD (fun j => .own (j + 1)) (nG a b c hs bs)⟩ : Ob) :: rowsO (rwG hs bs) 2 0 (nG a b c hs bs))
               rw [hng]
               exact objsG_cons rfl rfl rfl rfl (.inl rfl) objsG_nil)
      · skip
        refine awp_skip ?_
        refine awp_seq ?_
        refine r1 T0_ok hP hm hN ?_
        refine g1 ?_
        refine g1 ?_
        refine g1 ?_
        refine awp_ret ?_
        first
          | exact absurd hc1 (by rw [show okR hs bs = false from hag]; decide)
          | (have hcd := codeG_0 hc0 hag
             have hng : nG a b c hs bs = hs.length := by simp [nG, hcd]
             refine finG_mk (List.range' 29 (hs.length + 1)) rfl rfl ?_ ?_ (by simpa using List.nodup_range' (s := 29) (n := hs.length + 1))
             · show D.tup [_, .val (.int .i64 (codeG a b c hs bs))] = _
               rw [hcd]; rfl
             · show ObjsG _ _ _ ((⟨25, 1, true, tabD (fun j => .own (j + 1)) (nG a b c hs bs)⟩ : Ob) :: rowsO (rwG hs bs) 2 0 (nG a b c hs bs))
               rw [hng]
               exact objsG_fam (by rw [lk_cons, if_pos rfl]) (fun j hj => lk_fam_in _ _ _ _ j hj))

noncomputable abbrev s_S_GroupBooks : Spec ((Int × Int × Int) × List Int × List Bk) where
  args := fun x => [pegs x.1, .sl 1 (i64s x.2.1), .sl 8 (bks x.2.2)]
  pre := fun x => isPegs x.1 ∧ x.2.1.length ≤ 1048576 ∧ (∀ b ∈ x.2.2, isBk b) ∧ x.2.2.length ≤ 1048576
  new := fun x => [⟨25, 1, false, i64ss (gbL x.1.1 x.1.2.1 x.1.2.2 x.2.1 x.2.2)⟩]
  res := fun x => .tup [.own 0, .val (.int .i64 (codeG x.1.1 x.1.2.1 x.1.2.2 x.2.1 x.2.2))]

set_option maxRecDepth 20000 in
set_option maxHeartbeats 4000000 in
theorem ok_S_GroupBooks : FnOk Pr 5 s_S_GroupBooks := by
  refine fn_ok0 3 T0_ok Go.Proofs.Try.func5 rfl (enters_of Go.Proofs.Try.func5 rfl rfl) (fun _ => rfl) (fun _ => rfl) (fun _ => rfl) ?_
  rintro ⟨⟨a, b, c⟩, hs, bs⟩ ⟨hp, hhl, hv, hl⟩ C hP hN hm hG hS0
  change awp C _ _ ⟨[(0, .val (.agg #[.int .i16 a, .int .i16 b, .int .i16 c])), (1, .sl 1 (i64s hs)), (2, .sl 8 (bks bs))], [], 0⟩
  simp only at hhl hv hl
  refine awp_seq ?_
  refine r1 T0_ok hP hm hN ?_
  refine g1 ?_
  refine g1 ?_
  refine g1 ?_
  refine awp_seq ?_
  refine awp_seq ?_
  refine r1 T0_ok hP hm hN ?_
  refine g1 ?_
  refine g1 ?_
  refine g1 ?_
  refine gc1 ?_ (call1 ok_S_l04Grouped ((_, _, _), _, _) [] (hpre := by (try dsimp only); exact ⟨hp, by omega, hv, by omega⟩))
  refine g1 ?_
  refine awp_seq ?_
  refine r1 T0_ok hP hm hN ?_
  refine g1 ?_
  refine g1 ?_
  refine awp_cond rfl (fun hc0 => ?_) (fun hc0 => ?_)
  · skip
    have hr : gbL a b c hs bs = [] := by
      have h : codeG a b c hs bs ≠ 0 := by simpa using hc0
      simp [gbL, h]
    refine awp_seq ?_
    refine r1 T0_ok hP hm hN ?_
    refine g1 ?_ (hst := by simp +decide (disch := omega) only [nrm, lk_nrm, dc_nrm, mk_nrm, mf_nrm, ti_nrm, ls_nrm, mp_nrm, nb_nrm, hset, pick_and, pick_or, ↓reduceIte, Nat.reduceAdd, wI64, wI32, wI16, wI8, wU8, List.length_map, Int.toNat_natCast, List.all_nil, Bool.not_true]; rfl)
    refine g1 ?_
    refine g1 ?_
    refine g1 ?_
    refine awp_ret ?_
    refine fin_mk [1] rfl rfl ?_ (by simp only [hr]; exact objs_cons rfl rfl rfl rfl rfl (.inl rfl) objs_nil) (by decide)
    rfl
  · skip
    have hok := codeG_ok hc0
    have hpg := preG_of hv hok.1
    have hcd : codeG a b c hs bs = 0 := by simpa using hc0
    have hr : gbL a b c hs bs = grpL hs bs := by simp [gbL, hcd]
    refine awp_skip ?_
    refine awp_seq ?_
    refine awp_sreg rfl ?_
    refine sg1 T0_ok hP hm hN ?_
    refine sg1 T0_ok hP hm hN ?_
    refine sreg_callN hP hN hG ok_S_l04Groups (hs, bs) (by decide) (show _ ∧ _ from ⟨hpg.1.1, (show bs.length ≤ 1048576 by have := hpg.1.2.2; omega), (show hs.length ≤ 1048576 by have := hpg.2.2.2; omega)⟩) rfl rfl rfl rfl (fm_cons rfl fm_nil) rfl rfl ?_
    refine sreg_weak (show Weak C _ ⟨[(19, .own 1), (1, .sl 1 (i64s hs))], [(1, ⟨25, 1, false, i64ss (grpL hs bs)⟩), (0, ⟨31, 3, true, [[.val (.int .i16 a), .val (.int .i16 b), .val (.int .i16 c)]]⟩)], 1 + 1⟩ from weak_sl (sub_cons rfl (sub_cons rfl (sub_nil)))) ?_
    refine sreg_rest T0_ok hP hm hN ?_
    refine g1 ?_
    refine g1 ?_
    
    refine awp_ret ?_
    refine fin_mk [1] rfl rfl ?_ (by simp only [hr]; exact objs_cons rfl rfl rfl rfl rfl (.inl rfl) objs_nil) (by decide)
    show D.tup [_, .val (.int .i64 (codeG a b c hs bs))] = _
    rw [hcd]
    rfl


theorem rvC {hp : HP} {ks : List Nat} {d e : D} {xs ys : List (List D)} (h : CellV hp ks d e) (h2 : RowsV hp ks xs ys) : RowsV hp ks ([d] :: xs) ([e] :: ys) := ⟨⟨h, trivial⟩, h2⟩
theorem rvN {hp : HP} {ks : List Nat} : RowsV hp ks [] [] := trivial
theorem call_gb {o : Oper} {cf : Operand} {args : Array Operand} {tys : Array TypeId} {ev : Operand → D} {hp : HP} (a b c : Int) (hs : List Int) (bs : List Bk) {n : Nat} (hn : nG a b c hs bs = n) (ho : o.op = .call ⟨.value cf, args, tys⟩) (hcf : fnParts (ev cf) = some (.func 9, [], []))
    (hpre : isPegs (a, b, c) ∧ hs.length ≤ 1048576 ∧ (∀ b ∈ bs, isBk b) ∧ bs.length ≤ 1048576) (hargs : Args hp [] [pegs (a, b, c), .sl 1 (i64s hs), .sl 8 (bks bs)] (args.toList.map ev)) :
    OpRel Pr o ev hp 29 { d := .tup [.own 29, .val (.int .i64 (codeG a b c hs bs))], new := (29, ⟨25, 1, true, tabD (uO (rwG hs bs) 0) n⟩) :: famR (rwG hs bs) 2 0 n, upd := [] } := by
  subst hn
  have h := OpRel.callG ok_I_GroupBooks ((a, b, c), hs, bs) [] (by decide) (o := o) (nx := 29) (d := .tup [.own 29, .val (.int .i64 (codeG a b c hs bs))]) (K0 := List.range' 29 (nG a b c hs bs + 1)) ho hcf hpre (by simpa using hargs) trivial rfl (by
    show _ = [] ++ List.range' 29 (rowsO _ _ 0 (nG a b c hs bs)).length.succ
    rw [rowsO_len]; rfl) ⟨rfl, fun o ho => by
      rw [List.length_range']
      exact okG_rows o ho⟩
  have e := numbered_outer (rwG hs bs) 2 25 (nG a b c hs bs)
  show OpRel Pr o ev hp 29 { d := .tup [.own 29, .val (.int .i64 (codeG a b c hs bs))], new := (29, _) :: _, upd := [] }
  rw [← e]
  exact h
theorem nG_le {a b c : Int} {hs : List Int} {bs : List Bk} (hv : ∀ b ∈ bs, isBk b) : nG a b c hs bs ≤ 6 := by
  unfold nG
  split
  · rename_i h
    exact (preG_of hv (codeG_ok (by simpa using h)).1).2.2.2
  · omega
theorem mkR_len (f : Nat → List Int) (k : Int) (j : Nat) : (mkR f k j).length = (f j).length := mkd_int_len _ _
end Go.Proofs.Ytnopmfjamjbphaa.Abs
