import Derived.Test.YtheoapoddmmahaaGreatP8
set_option linter.unusedVariables false
set_option linter.unusedSimpArgs false
namespace Go.Proofs.YtheoapoddmmahaaGreat.Abs
open Go Go.RowKit

def amV (s : Src) (L : List Int) (n : Int) : Int := L.getD (pkV s n).toNat 0
theorem amV_mem {s : Src} {L : List Int} {n : Int} (hn : ((L.length : Nat) : Int) = n) (h : okSrcN 2 s) (hl : 1 ≤ L.length) : amV s L n ∈ L := by
  have := pkV_b (n := n) h (by omega)
  exact getD_mem' (by omega)
abbrev L4 : List Int := [50, 100, 150, 200]
abbrev L5 : List Int := [10, 20, 32, 50, 100]
def pgP (s : Src) : Int × Int × Int := (amV s L4 4, amV (pkS s 4) L5 5, 5 + pkV (pkS (pkS s 4) 5) 20)
def pgS (s : Src) : Src := pkS (pkS (pkS s 4) 5) 20
theorem pgP_b {s : Src} (h : okSrcN 100 s) : (50 ≤ amV s L4 4 ∧ amV s L4 4 ≤ 200) ∧ (10 ≤ amV (pkS s 4) L5 5 ∧ amV (pkS s 4) L5 5 ≤ 100) ∧ 0 ≤ pkV (pkS (pkS s 4) 5) 20 ∧ pkV (pkS (pkS s 4) 5) 20 < 20 := by
  have h1 : okSrcN 98 (pkS s 4) := pkS_ok h (by omega) (by omega)
  have h2 : okSrcN 96 (pkS (pkS s 4) 5) := pkS_ok h1 (by omega) (by omega)
  have a1 := amV_mem (L := L4) (n := 4) rfl (h.le (by omega)) (by decide)
  have a2 := amV_mem (L := L5) (n := 5) rfl (h1.le (by omega)) (by decide)
  have b1 : ∀ x ∈ L4, 50 ≤ x ∧ x ≤ 200 := by decide
  have b2 : ∀ x ∈ L5, 10 ≤ x ∧ x ≤ 100 := by decide
  exact ⟨b1 _ a1, b2 _ a2, pkV_b (h2.le (by omega)) (by omega)⟩
theorem pgP_ok {s : Src} (h : okSrcN 100 s) : pegsOk (pgP s).1 (pgP s).2.1 (pgP s).2.2 = true ∧ isPegs (pgP s) := by
  have := pgP_b h
  refine ⟨pegsOk_iff.2 ?_, ?_⟩
  · simp only [pgP]; omega
  · simp only [isPegs, pgP]; omega

noncomputable abbrev s_S_l00Src_among : Spec (Src × List Int) where
  args := fun x => [.ptr 0 0 0, .sl 1 (i64s x.2)]
  pre := fun x => okSrcN 2 x.1 ∧ 1 ≤ x.2.length ∧ x.2.length ≤ 1000
  obs := fun x => [⟨87, 3, false, [[.sl 1 (ints .u8 (x.1).1), .val (.int .i64 (x.1).2.1), .val (.int .u64 (x.1).2.2)]]⟩]
  out := fun x => [⟨87, 3, false, [[.sl 1 (ints .u8 ((pkS x.1 (x.2.length : Nat))).1), .val (.int .i64 ((pkS x.1 (x.2.length : Nat))).2.1), .val (.int .u64 ((pkS x.1 (x.2.length : Nat))).2.2)]]⟩]
  res := fun x => .val (.int .i64 (amV x.1 x.2 (x.2.length : Nat)))

set_option maxRecDepth 20000 in
set_option maxHeartbeats 1000000 in
theorem ok_S_l00Src_among : FnOk Pr 62 s_S_l00Src_among := by
 refine fn_okG 2 1 T0_ok Go.Proofs.Tryz.func62 rfl (enters_of Go.Proofs.Tryz.func62 rfl rfl) (fun _ => rfl) (fun _ => rfl) (fun _ => rfl) ?_
 rintro ⟨s, L⟩ ⟨hs, hl1, hl2⟩ C hP hN hm hG
 change awp C _ _ ⟨[(0, .ptr 0 0 0), (1, .sl 1 (i64s L))], [(0, ⟨87, 3, false, [[.sl 1 (ints .u8 (s).1), .val (.int .i64 (s).2.1), .val (.int .u64 (s).2.2)]]⟩)], 1⟩
 simp only at hs hl1 hl2
 have hpb := pkV_b (n := (L.length : Nat)) hs (by omega)
 refine awp_seq ?_
 refine r1 T0_ok hP hm hN ?_
 refine g1 ?_
 refine awp_seq ?_
 refine r1 T0_ok hP hm hN ?_
 iterate 4 refine g1 ?_
 refine gc1 ?_ (call_pick s (L.length : Nat) ⟨hs, by omega, by omega⟩ rfl rfl rfl rfl)
 iterate 3 refine g1 ?_
 refine awp_ret ?_
 refine finG_mk [] rfl rfl ?_ ?_ (by decide)
 · rfl
 · exact objsG_cons rfl rfl rfl rfl (.inr (.inl rfl)) objsG_nil

theorem call_amongA {o : Oper} {cf : Operand} {args : Array Operand} {tys : Array TypeId} {ev : Operand → D} {hp : HP} {nx h : Nat} (s : Src) (L : List Int) (hpre : okSrcN 2 s ∧ 1 ≤ L.length ∧ L.length ≤ 1000) (ho : o.op = .call ⟨.value cf, args, tys⟩) (hcf : fnParts (ev cf) = some (.func 62, [], [])) (hargs : args.toList.map ev = [.ptr h 0 0, .sl 1 (i64s L)]) (hl : lk h hp = some ⟨87, 3, false, [[.sl 1 (ints .u8 (s).1), .val (.int .i64 (s).2.1), .val (.int .u64 (s).2.2)]]⟩) :
    OpRel Pr o ev hp nx { d := .val (.int .i64 (amV s L (L.length : Nat))), new := [], upd := [(h, ⟨87, 3, false, [[.sl 1 (ints .u8 ((pkS s (L.length : Nat))).1), .val (.int .i64 ((pkS s (L.length : Nat))).2.1), .val (.int .u64 ((pkS s (L.length : Nat))).2.2)]]⟩)] } := by
  have e := OpRel.callF ok_S_l00Src_among (s, L) [h] (by simp) (o := o) (nx := nx) (d := .val (.int .i64 (amV s L (L.length : Nat)))) (K0 := [h]) ho hcf hpre (by rw [List.nil_append, List.append_nil, hargs]; rfl) (objsG_cons hl rfl rfl rfl (.inr (.inl rfl)) objsG_nil) rfl rfl (fm_cons (fun x hx d hd => by
    simp only [List.mem_singleton] at hx
    subst hx
    simp only [List.mem_cons, List.not_mem_nil, or_false] at hd
    rcases hd with rfl | rfl | rfl <;> exact ⟨_, rfl⟩) fm_nil)
  exact e
theorem call_among {o : Oper} {cf : Operand} {args : Array Operand} {tys : Array TypeId} {ev : Operand → D} {hp : HP} {nx h : Nat} (s : Src) (L : List Int) (n : Int) (hn : ((L.length : Nat) : Int) = n) (hpre : okSrcN 2 s ∧ 1 ≤ L.length ∧ L.length ≤ 1000) (ho : o.op = .call ⟨.value cf, args, tys⟩) (hcf : fnParts (ev cf) = some (.func 62, [], [])) (hargs : args.toList.map ev = [.ptr h 0 0, .sl 1 (i64s L)]) (hl : lk h hp = some ⟨87, 3, false, [[.sl 1 (ints .u8 (s).1), .val (.int .i64 (s).2.1), .val (.int .u64 (s).2.2)]]⟩) :
    OpRel Pr o ev hp nx { d := .val (.int .i64 (amV s L n)), new := [], upd := [(h, ⟨87, 3, false, [[.sl 1 (ints .u8 ((pkS s n)).1), .val (.int .i64 ((pkS s n)).2.1), .val (.int .u64 ((pkS s n)).2.2)]]⟩)] } := by
  subst hn
  exact call_amongA s L hpre ho hcf hargs hl

noncomputable abbrev s_S_l04PegsDrawn : Spec Src where
  args := fun _ => [.ptr 0 0 0]
  pre := fun s => okSrcN 100 s
  obs := fun s => [⟨87, 3, false, [[.sl 1 (ints .u8 (s).1), .val (.int .i64 (s).2.1), .val (.int .u64 (s).2.2)]]⟩]
  out := fun s => [⟨87, 3, false, [[.sl 1 (ints .u8 ((pgS s)).1), .val (.int .i64 ((pgS s)).2.1), .val (.int .u64 ((pgS s)).2.2)]]⟩]
  res := fun s => pegs (pgP s)

set_option maxRecDepth 20000 in
set_option maxHeartbeats 1000000 in
theorem ok_S_l04PegsDrawn : FnOk Pr 23 s_S_l04PegsDrawn := by
 refine fn_okG 1 1 T0_ok Go.Proofs.Tryz.func23 rfl (enters_of Go.Proofs.Tryz.func23 rfl rfl) (fun _ => rfl) (fun _ => rfl) (fun _ => rfl) ?_
 rintro s hs C hP hN hm hG
 change awp C _ _ ⟨[(0, .ptr 0 0 0)], [(0, ⟨87, 3, false, [[.sl 1 (ints .u8 (s).1), .val (.int .i64 (s).2.1), .val (.int .u64 (s).2.2)]]⟩)], 1⟩
 have h1 : okSrcN 98 (pkS s 4) := pkS_ok hs (by omega) (by omega)
 have h2 : okSrcN 96 (pkS (pkS s 4) 5) := pkS_ok h1 (by omega) (by omega)
 obtain ⟨hb1, hb2, hb3⟩ := pgP_b hs
 refine awp_seq ?_
 refine r1 T0_ok hP hm hN ?_
 refine g1 ?_
 refine awp_seq ?_
 refine awp_sreg rfl ?_
 refine sg1 T0_ok hP hm hN ?_
 refine sgr1 T0_ok hP hm hN ?_ (oprel_lit T0_ok rfl (e := 2) rfl rfl (sz := 1) rfl (xs := i64s L4) rfl rfl (by (repeat (first | exact fm_nil | refine fm_cons ⟨rfl, rfl⟩ ?_))) (Nat.le_of_ble_eq_true rfl) (Nat.le_of_ble_eq_true rfl) rfl (by decide) (by decide))
 refine sgc1 T0_ok hP hm hN ?_ (call_among s L4 4 rfl ⟨hs.le (by omega), by decide, by decide⟩ rfl rfl rfl rfl)
 refine sg1 T0_ok hP hm hN ?_
 refine sreg_rest T0_ok hP hm hN ?_
 refine g1 ?_
 refine awp_seq ?_
 refine awp_sreg rfl ?_
 refine sg1 T0_ok hP hm hN ?_
 refine sg1 T0_ok hP hm hN ?_
 refine sgr1 T0_ok hP hm hN ?_ (oprel_lit T0_ok rfl (e := 2) rfl rfl (sz := 1) rfl (xs := i64s L5) rfl rfl (by (repeat (first | exact fm_nil | refine fm_cons ⟨rfl, rfl⟩ ?_))) (Nat.le_of_ble_eq_true rfl) (Nat.le_of_ble_eq_true rfl) rfl (by decide) (by decide))
 refine sgc1 T0_ok hP hm hN ?_ (call_among (pkS s 4) L5 5 rfl ⟨h1.le (by omega), by decide, by decide⟩ rfl rfl rfl rfl)
 refine sg1 T0_ok hP hm hN ?_
 refine sg1 T0_ok hP hm hN ?_
 refine sgc1 T0_ok hP hm hN ?_ (call_pick (pkS (pkS s 4) 5) 20 ⟨h2.le (by omega), by omega, by omega⟩ rfl rfl rfl rfl)
 refine sreg_rest T0_ok hP hm hN ?_
 iterate 4 refine g1 ?_
 refine awp_ret ?_
 refine finG_mk [] rfl rfl ?_ ?_ (by decide)
 · rfl
 · exact objsG_cons rfl rfl rfl rfl (.inr (.inl rfl)) objsG_nil

theorem call_pegsDrawn {o : Oper} {cf : Operand} {args : Array Operand} {tys : Array TypeId} {ev : Operand → D} {hp : HP} {nx h : Nat} (s : Src)  (hpre : okSrcN 100 s) (ho : o.op = .call ⟨.value cf, args, tys⟩) (hcf : fnParts (ev cf) = some (.func 23, [], [])) (hargs : args.toList.map ev = [.ptr h 0 0]) (hl : lk h hp = some ⟨87, 3, false, [[.sl 1 (ints .u8 (s).1), .val (.int .i64 (s).2.1), .val (.int .u64 (s).2.2)]]⟩) :
    OpRel Pr o ev hp nx { d := pegs (pgP s), new := [], upd := [(h, ⟨87, 3, false, [[.sl 1 (ints .u8 ((pgS s)).1), .val (.int .i64 ((pgS s)).2.1), .val (.int .u64 ((pgS s)).2.2)]]⟩)] } := by
  have e := OpRel.callF ok_S_l04PegsDrawn s [h] (by simp) (o := o) (nx := nx) (d := pegs (pgP s)) (K0 := [h]) ho hcf hpre (by rw [List.nil_append, List.append_nil, hargs]; rfl) (objsG_cons hl rfl rfl rfl (.inr (.inl rfl)) objsG_nil) rfl rfl (fm_cons (fun x hx d hd => by
    simp only [List.mem_singleton] at hx
    subst hx
    simp only [List.mem_cons, List.not_mem_nil, or_false] at hd
    rcases hd with rfl | rfl | rfl <;> exact ⟨_, rfl⟩) fm_nil)
  exact e

noncomputable abbrev s_S_A2Pegs : Spec (List Int) where
  args := fun code => [.sl 1 (ints .u8 code)]
  pre := fun code => (∀ x ∈ code, 0 ≤ x ∧ x ≤ 255) ∧ code.length ≤ 1048576
  res := fun code => pegs (pgP (code, (0 : Int), (0 : Int)))

set_option maxRecDepth 20000 in
set_option maxHeartbeats 1000000 in
theorem ok_S_A2Pegs : FnOk Pr 5 s_S_A2Pegs := by
 refine fn_ok 1 0 T0_ok Go.Proofs.Tryz.func5 rfl (enters_of Go.Proofs.Tryz.func5 rfl rfl) (fun _ => rfl) (fun _ => rfl) (fun _ => rfl) ?_
 rintro code hb C hP hN hm hG
 change awp C _ _ ⟨[(0, .sl 1 (ints .u8 code))], [], 0⟩
 have hsrc := okSrc_from hb
 refine awp_seq ?_
 refine r1 T0_ok hP hm hN ?_
 refine g1 ?_
 refine awp_seq ?_
 refine r1 T0_ok hP hm hN ?_
 refine g1 ?_
 refine gc1 ?_ (call_from code hb rfl rfl rfl)
 refine gc1 ?_ (call_pegsDrawn (code, (0 : Int), (0 : Int)) (hsrc.le (by omega)) rfl rfl rfl rfl)
 refine g1 ?_
 refine awp_ret ?_
 refine fin_mk [] rfl rfl ?_ trivial (by decide)
 rfl
end Go.Proofs.YtheoapoddmmahaaGreat.Abs

