import Derived.Test.YtpdkhlpmiblflaaGreatQ4
set_option linter.unusedVariables false
set_option linter.unusedSimpArgs false
namespace Go.Proofs.YtpdkhlpmiblflaaGreat.Abs
open Go Go.RowKit
theorem call_pick {o : Oper} {cf : Operand} {args : Array Operand} {tys : Array TypeId} {ev : Operand → D} {hp : HP} {nx h : Nat} (s : Src) (n : Int) (hpre : okSrcN 2 s ∧ -9223372036854775808 ≤ n ∧ n ≤ 9223372036854775807) (ho : o.op = .call ⟨.value cf, args, tys⟩) (hcf : fnParts (ev cf) = some (.func 42, [], [])) (hargs : args.toList.map ev = [.ptr h 0 0, .val (.int .i64 n)]) (hl : lk h hp = some ⟨80, 3, false, [[.sl 1 (ints .u8 (s).1), .val (.int .i64 (s).2.1), .val (.int .u64 (s).2.2)]]⟩) :
    OpRel Pr o ev hp nx { d := .val (.int .i64 (pkV s n)), new := [], upd := [(h, ⟨80, 3, false, [[.sl 1 (ints .u8 (pkS s n).1), .val (.int .i64 (pkS s n).2.1), .val (.int .u64 (pkS s n).2.2)]]⟩)] } := by
  have e := OpRel.callF ok_S_l00Src_pick (s, n) [h] (by simp) (o := o) (nx := nx) (d := .val (.int .i64 (pkV s n))) (K0 := [h]) ho hcf hpre (by rw [List.nil_append, List.append_nil, hargs]; rfl) (objsG_cons hl rfl rfl rfl (.inr (.inl rfl)) objsG_nil) rfl rfl (fm_cons (fun x hx d hd => by
    simp only [List.mem_singleton] at hx
    subst hx
    simp only [List.mem_cons, List.not_mem_nil, or_false] at hd
    rcases hd with rfl | rfl | rfl <;> exact ⟨_, rfl⟩) fm_nil)
  exact e

theorem call_pickE {o : Oper} {cf : Operand} {args : Array Operand} {tys : Array TypeId} {ev : Operand → D} {hp : HP} {nx h : Nat} (s : Src) (n : Int) {v : Int} (hv : pkV s n = v) (hpre : okSrcN 2 s ∧ -9223372036854775808 ≤ n ∧ n ≤ 9223372036854775807) (ho : o.op = .call ⟨.value cf, args, tys⟩) (hcf : fnParts (ev cf) = some (.func 42, [], [])) (hargs : args.toList.map ev = [.ptr h 0 0, .val (.int .i64 n)]) (hl : lk h hp = some ⟨80, 3, false, [[.sl 1 (ints .u8 (s).1), .val (.int .i64 (s).2.1), .val (.int .u64 (s).2.2)]]⟩) :
    OpRel Pr o ev hp nx { d := .val (.int .i64 v), new := [], upd := [(h, ⟨80, 3, false, [[.sl 1 (ints .u8 ((pkS s n)).1), .val (.int .i64 ((pkS s n)).2.1), .val (.int .u64 ((pkS s n)).2.2)]]⟩)] } := by
  have e := call_pick (nx := nx) s n hpre ho hcf hargs hl
  rw [hv] at e
  exact e


theorem tmod_b {a n : Int} (h1 : 0 ≤ a) (h2 : 0 < n) : 0 ≤ a.tmod n ∧ a.tmod n < n := ⟨Int.tmod_nonneg _ h1, Int.tmod_lt_of_pos _ h2⟩
theorem pkV_b {s : Src} {n : Int} (h : okSrcN 2 s) (hn : 1 ≤ n) : 0 ≤ pkV s n ∧ pkV s n < n := by
  have h1 := nxV_b h.1
  have h2 := nxV_b (nxS_ok (k := 1) h (by omega)).1
  unfold pkV
  split
  · omega
  · split
    · exact tmod_b (by omega) (by omega)
    · exact tmod_b (by omega) (by omega)
theorem okSrcN.le {s : Src} {j k : Int} (h : okSrcN k s) (hj : j ≤ k) : okSrcN j s := ⟨h.1, by have := h.2; omega⟩
theorem pkS_ok {s : Src} {n k j : Int} (h : okSrcN j s) (hk : 0 ≤ k) (hj : j = k + 2) : okSrcN k (pkS s n) := by
  subst hj
  have h1 : okSrcN (k + 1) (nxS s) := nxS_ok (h.le (by omega)) (by omega)
  unfold pkS
  split
  · exact h.le (by omega)
  · split
    · exact nxS_ok h1 hk
    · exact h1.le (by omega)
abbrev o1 (s : Src) : Src := pkS s 8
abbrev o2 (s : Src) : Src := pkS (o1 s) 3
abbrev o3 (s : Src) : Src := pkS (o2 s) 3
abbrev o4 (s : Src) : Src := pkS (o3 s) 3
abbrev o5 (s : Src) : Src := pkS (o4 s) 9
abbrev o6 (s : Src) : Src := pkS (o5 s) 12
def oneS (s : Src) : Src := pkS (o6 s) 20
def oneB (s : Src) : Bk := ⟨pkV s 8 * 100, if pkV (o2 s) 3 = 0 then 97 + pkV (o3 s) 3 else 97, if pkV (o2 s) 3 = 1 then 97 + pkV (o3 s) 3 else 97, if pkV (o2 s) 3 = 2 then 97 + pkV (o3 s) 3 else 97, 1 + pkV (o1 s) 3, 10 + 5 * pkV (o4 s) 9, 180 + 10 * pkV (o5 s) 12, 100 * (1 + pkV (o6 s) 20)⟩
structure OneP (s : Src) : Prop where
  s0 : okSrcN 14 s
  s1 : okSrcN 12 (o1 s)
  s2 : okSrcN 10 (o2 s)
  s3 : okSrcN 8 (o3 s)
  s4 : okSrcN 6 (o4 s)
  s5 : okSrcN 4 (o5 s)
  s6 : okSrcN 2 (o6 s)
theorem oneP {s : Src} (h : okSrcN 14 s) : OneP s := by
  have h1 : okSrcN 12 (o1 s) := pkS_ok h (by omega) rfl
  have h2 : okSrcN 10 (o2 s) := pkS_ok h1 (by omega) rfl
  have h3 : okSrcN 8 (o3 s) := pkS_ok h2 (by omega) rfl
  have h4 : okSrcN 6 (o4 s) := pkS_ok h3 (by omega) rfl
  have h5 : okSrcN 4 (o5 s) := pkS_ok h4 (by omega) rfl
  have h6 : okSrcN 2 (o6 s) := pkS_ok h5 (by omega) rfl
  exact ⟨h, h1, h2, h3, h4, h5, h6⟩
theorem oneS_ok {s : Src} {k : Int} (h : okSrcN (k + 14) s) (hk : 0 ≤ k) : okSrcN k (oneS s) := by
  have h1 : okSrcN (k + 12) (o1 s) := pkS_ok h (by omega) (by omega)
  have h2 : okSrcN (k + 10) (o2 s) := pkS_ok h1 (by omega) (by omega)
  have h3 : okSrcN (k + 8) (o3 s) := pkS_ok h2 (by omega) (by omega)
  have h4 : okSrcN (k + 6) (o4 s) := pkS_ok h3 (by omega) (by omega)
  have h5 : okSrcN (k + 4) (o5 s) := pkS_ok h4 (by omega) (by omega)
  have h6 : okSrcN (k + 2) (o6 s) := pkS_ok h5 (by omega) (by omega)
  exact pkS_ok h6 (by omega) (by omega)
theorem oneB_ok {s : Src} (h : okSrcN 14 s) : isBk (oneB s) ∧ validB (oneB s) = true := by
  have hP := oneP h
  have a0 := pkV_b (n := 8) (hP.s0.le (by omega)) (by omega)
  have a1 := pkV_b (n := 3) (hP.s1.le (by omega)) (by omega)
  have a3 := pkV_b (n := 3) (hP.s3.le (by omega)) (by omega)
  have a4 := pkV_b (n := 9) (hP.s4.le (by omega)) (by omega)
  have a5 := pkV_b (n := 12) (hP.s5.le (by omega)) (by omega)
  have a6 := pkV_b (n := 20) hP.s6 (by omega)
  have hb : ∀ c : Prop, ∀ [Decidable c], 97 ≤ (if c then 97 + pkV (o3 s) 3 else 97) ∧ (if c then 97 + pkV (o3 s) 3 else 97) ≤ 99 := fun c _ => by split <;> omega
  have b0 := hb (pkV (o2 s) 3 = 0)
  have b1 := hb (pkV (o2 s) 3 = 1)
  have b2 := hb (pkV (o2 s) 3 = 2)
  unfold oneB
  constructor
  · unfold isBk
    dsimp only
    omega
  · unfold validB mark3 small
    simp only [List.all_cons, List.all_nil, Bool.and_true, Bool.and_eq_true, inI_iff]
    omega

noncomputable abbrev s_S_l00Src_one : Spec (Src × Int) where
  args := fun x => [.ptr 0 0 0, .val (.int .i64 x.2)]
  pre := fun x => okSrcN 2 x.1 ∧ -9223372036854775808 ≤ x.2 ∧ x.2 ≤ 9223372036854775807
  obs := fun x => [⟨80, 3, false, [[.sl 1 (ints .u8 (x.1).1), .val (.int .i64 (x.1).2.1), .val (.int .u64 (x.1).2.2)]]⟩]
  out := fun x => [⟨80, 3, false, [[.sl 1 (ints .u8 (pkS x.1 x.2).1), .val (.int .i64 (pkS x.1 x.2).2.1), .val (.int .u64 (pkS x.1 x.2).2.2)]]⟩]
  res := fun x => .val (.bool (pkV x.1 x.2 == 0))

set_option maxRecDepth 20000 in
set_option maxHeartbeats 1000000 in
theorem ok_S_l00Src_one : FnOk Pr 45 s_S_l00Src_one := by
 refine fn_okG 2 1 T0_ok Go.Proofs.Tryz.func45 rfl (enters_of Go.Proofs.Tryz.func45 rfl rfl) (fun _ => rfl) (fun _ => rfl) (fun _ => rfl) ?_
 rintro ⟨s, n⟩ hs C hP hN hm hG
 change awp C _ _ ⟨[(0, .ptr 0 0 0), (1, .val (.int .i64 n))], [(0, ⟨80, 3, false, [[.sl 1 (ints .u8 (s).1), .val (.int .i64 (s).2.1), .val (.int .u64 (s).2.2)]]⟩)], 1⟩
 simp only at hs
 refine awp_seq ?_
 refine r1 T0_ok hP hm hN ?_
 refine g1 ?_
 refine awp_seq ?_
 refine r1 T0_ok hP hm hN ?_
 iterate 2 refine g1 ?_
 refine gc1 ?_ (call_pick s n hs rfl rfl rfl rfl)
 iterate 2 refine g1 ?_
 refine awp_ret ?_
 refine finG_mk [] rfl rfl ?_ ?_ (by decide)
 · rfl
 · exact objsG_cons rfl rfl rfl rfl (.inr (.inl rfl)) objsG_nil

theorem call_one {o : Oper} {cf : Operand} {args : Array Operand} {tys : Array TypeId} {ev : Operand → D} {hp : HP} {nx h : Nat} (s : Src) (n : Int) (hpre : okSrcN 2 s ∧ -9223372036854775808 ≤ n ∧ n ≤ 9223372036854775807) (ho : o.op = .call ⟨.value cf, args, tys⟩) (hcf : fnParts (ev cf) = some (.func 45, [], [])) (hargs : args.toList.map ev = [.ptr h 0 0, .val (.int .i64 n)]) (hl : lk h hp = some ⟨80, 3, false, [[.sl 1 (ints .u8 (s).1), .val (.int .i64 (s).2.1), .val (.int .u64 (s).2.2)]]⟩) :
    OpRel Pr o ev hp nx { d := .val (.bool (pkV s n == 0)), new := [], upd := [(h, ⟨80, 3, false, [[.sl 1 (ints .u8 (pkS s n).1), .val (.int .i64 (pkS s n).2.1), .val (.int .u64 (pkS s n).2.2)]]⟩)] } := by
  have e := OpRel.callF ok_S_l00Src_one (s, n) [h] (by simp) (o := o) (nx := nx) (d := .val (.bool (pkV s n == 0))) (K0 := [h]) ho hcf hpre (by rw [List.nil_append, List.append_nil, hargs]; rfl) (objsG_cons hl rfl rfl rfl (.inr (.inl rfl)) objsG_nil) rfl rfl (fm_cons (fun x hx d hd => by
    simp only [List.mem_singleton] at hx
    subst hx
    simp only [List.mem_cons, List.not_mem_nil, or_false] at hd
    rcases hd with rfl | rfl | rfl <;> exact ⟨_, rfl⟩) fm_nil)
  exact e

noncomputable abbrev s_S_l01One : Spec Src where
  args := fun _ => [.ptr 0 0 0]
  pre := fun s => okSrcN 14 s
  obs := fun s => [⟨80, 3, false, [[.sl 1 (ints .u8 (s).1), .val (.int .i64 (s).2.1), .val (.int .u64 (s).2.2)]]⟩]
  out := fun s => [⟨80, 3, false, [[.sl 1 (ints .u8 (oneS s).1), .val (.int .i64 (oneS s).2.1), .val (.int .u64 (oneS s).2.2)]]⟩]
  res := fun s => bkD (oneB s)

set_option maxRecDepth 20000 in
set_option maxHeartbeats 4000000 in
theorem ok_S_l01One : FnOk Pr 44 s_S_l01One := by
 refine fn_okG 1 1 T0_ok Go.Proofs.Tryz.func44 rfl (enters_of Go.Proofs.Tryz.func44 rfl rfl) (fun _ => rfl) (fun _ => rfl) (fun _ => rfl) ?_
 rintro s hs C hP hN hm hG
 change awp C _ _ ⟨[(0, .ptr 0 0 0)], [(0, ⟨80, 3, false, [[.sl 1 (ints .u8 (s).1), .val (.int .i64 (s).2.1), .val (.int .u64 (s).2.2)]]⟩)], 1⟩
 have hO := oneP hs
 have a0 := pkV_b (n := 8) (hO.s0.le (by omega)) (by omega)
 have a1 := pkV_b (n := 3) (hO.s1.le (by omega)) (by omega)
 have a2 := pkV_b (n := 3) (hO.s2.le (by omega)) (by omega)
 have a3 := pkV_b (n := 3) (hO.s3.le (by omega)) (by omega)
 have a4 := pkV_b (n := 9) (hO.s4.le (by omega)) (by omega)
 have a5 := pkV_b (n := 12) (hO.s5.le (by omega)) (by omega)
 have a6 := pkV_b (n := 20) hO.s6 (by omega)
 refine awp_seq ?_
 refine r1 T0_ok hP hm hN ?_
 refine g1 ?_
 refine awp_seq ?_
 refine r1 T0_ok hP hm hN ?_
 refine g1 ?_
 refine gc1 ?_ (call_pick s 8 ⟨hO.s0.le (by omega), by omega, by omega⟩ rfl rfl rfl rfl)
 iterate 3 refine g1 ?_
 refine gc1 ?_ (call_pick (o1 s) 3 ⟨hO.s1.le (by omega), by omega, by omega⟩ rfl rfl rfl rfl)
 iterate 5 refine g1 ?_
 refine awp_seq ?_
 refine awp_seq ?_
 refine r1 T0_ok hP hm hN ?_
 refine g1 ?_
 refine awp_block ?_
 refine awp_loop (fun n st => (n = 3 ∧ st = ⟨[(4, .val (.int .i64 0)), (0, .ptr 0 0 0), (2, .ptr 1 0 0), (3, .ptr 2 0 0)], [(2, ⟨73, 8, true, [[.val (.int .i16 (pkV s 8 * 100)), .val (.int .u8 0), .val (.int .u8 0), .val (.int .u8 0), .val (.int .i16 (1 + pkV (o1 s) 3)), .val (.int .i16 0), .val (.int .i16 0), .val (.int .i16 0)]]⟩), (1, ⟨73, 8, true, [[.val (.int .i16 0), .val (.int .u8 0), .val (.int .u8 0), .val (.int .u8 0), .val (.int .i16 0), .val (.int .i16 0), .val (.int .i16 0), .val (.int .i16 0)]]⟩), (0, ⟨80, 3, false, [[.sl 1 (ints .u8 ((o2 s)).1), .val (.int .i64 ((o2 s)).2.1), .val (.int .u64 ((o2 s)).2.2)]]⟩)], 3⟩) ∨ (n = 2 ∧ st = ⟨[(4, .val (.int .i64 1)), (0, .ptr 0 0 0), (2, .ptr 1 0 0), (3, .ptr 2 0 0)], [(2, ⟨73, 8, true, [[.val (.int .i16 (pkV s 8 * 100)), .val (.int .u8 97), .val (.int .u8 0), .val (.int .u8 0), .val (.int .i16 (1 + pkV (o1 s) 3)), .val (.int .i16 0), .val (.int .i16 0), .val (.int .i16 0)]]⟩), (1, ⟨73, 8, true, [[.val (.int .i16 0), .val (.int .u8 0), .val (.int .u8 0), .val (.int .u8 0), .val (.int .i16 0), .val (.int .i16 0), .val (.int .i16 0), .val (.int .i16 0)]]⟩), (0, ⟨80, 3, false, [[.sl 1 (ints .u8 ((o2 s)).1), .val (.int .i64 ((o2 s)).2.1), .val (.int .u64 ((o2 s)).2.2)]]⟩)], 3⟩) ∨ (n = 1 ∧ st = ⟨[(4, .val (.int .i64 2)), (0, .ptr 0 0 0), (2, .ptr 1 0 0), (3, .ptr 2 0 0)], [(2, ⟨73, 8, true, [[.val (.int .i16 (pkV s 8 * 100)), .val (.int .u8 97), .val (.int .u8 97), .val (.int .u8 0), .val (.int .i16 (1 + pkV (o1 s) 3)), .val (.int .i16 0), .val (.int .i16 0), .val (.int .i16 0)]]⟩), (1, ⟨73, 8, true, [[.val (.int .i16 0), .val (.int .u8 0), .val (.int .u8 0), .val (.int .u8 0), .val (.int .i16 0), .val (.int .i16 0), .val (.int .i16 0), .val (.int .i16 0)]]⟩), (0, ⟨80, 3, false, [[.sl 1 (ints .u8 ((o2 s)).1), .val (.int .i64 ((o2 s)).2.1), .val (.int .u64 ((o2 s)).2.2)]]⟩)], 3⟩) ∨ (n = 0 ∧ st = ⟨[(4, .val (.int .i64 3)), (0, .ptr 0 0 0), (2, .ptr 1 0 0), (3, .ptr 2 0 0)], [(2, ⟨73, 8, true, [[.val (.int .i16 (pkV s 8 * 100)), .val (.int .u8 97), .val (.int .u8 97), .val (.int .u8 97), .val (.int .i16 (1 + pkV (o1 s) 3)), .val (.int .i16 0), .val (.int .i16 0), .val (.int .i16 0)]]⟩), (1, ⟨73, 8, true, [[.val (.int .i16 0), .val (.int .u8 0), .val (.int .u8 0), .val (.int .u8 0), .val (.int .i16 0), .val (.int .i16 0), .val (.int .i16 0), .val (.int .i16 0)]]⟩), (0, ⟨80, 3, false, [[.sl 1 (ints .u8 ((o2 s)).1), .val (.int .i64 ((o2 s)).2.1), .val (.int .u64 ((o2 s)).2.2)]]⟩)], 3⟩)) 3 ⟨_, weak_sl (sub_cons rfl (sub_cons rfl (sub_cons rfl (sub_cons rfl (sub_nil))))), .inl ⟨rfl, rfl⟩⟩ ?_
 rintro n st (⟨rfl, rfl⟩ | ⟨rfl, rfl⟩ | ⟨rfl, rfl⟩ | ⟨rfl, rfl⟩)
 ·
  refine awp_seq ?_
  refine awp_seq ?_
  refine r1 T0_ok hP hm hN ?_
  iterate 2 refine g1 ?_
  refine awp_cond rfl (fun hc => ?_) (fun hc => absurd hc (by decide))
  refine awp_skip ?_
  refine awp_seq ?_
  refine awp_block ?_
  refine r1 T0_ok hP hm hN ?_
  iterate 4 refine g1 ?_
  refine r1 T0_ok hP hm hN ?_
  iterate 3 refine g1 ?_
  exact ⟨2, _, by omega, weak_sl (sub_cons rfl (sub_cons rfl (sub_cons rfl (sub_cons rfl (sub_nil))))), .inr (.inl ⟨rfl, rfl⟩)⟩
 ·
  refine awp_seq ?_
  refine awp_seq ?_
  refine r1 T0_ok hP hm hN ?_
  iterate 2 refine g1 ?_
  refine awp_cond rfl (fun hc => ?_) (fun hc => absurd hc (by decide))
  refine awp_skip ?_
  refine awp_seq ?_
  refine awp_block ?_
  refine r1 T0_ok hP hm hN ?_
  iterate 4 refine g1 ?_
  refine r1 T0_ok hP hm hN ?_
  iterate 3 refine g1 ?_
  exact ⟨1, _, by omega, weak_sl (sub_cons rfl (sub_cons rfl (sub_cons rfl (sub_cons rfl (sub_nil))))), .inr (.inr (.inl ⟨rfl, rfl⟩))⟩
 ·
  refine awp_seq ?_
  refine awp_seq ?_
  refine r1 T0_ok hP hm hN ?_
  iterate 2 refine g1 ?_
  refine awp_cond rfl (fun hc => ?_) (fun hc => absurd hc (by decide))
  refine awp_skip ?_
  refine awp_seq ?_
  refine awp_block ?_
  refine r1 T0_ok hP hm hN ?_
  iterate 4 refine g1 ?_
  refine r1 T0_ok hP hm hN ?_
  iterate 3 refine g1 ?_
  exact ⟨0, _, by omega, weak_sl (sub_cons rfl (sub_cons rfl (sub_cons rfl (sub_cons rfl (sub_nil))))), .inr (.inr (.inr (⟨rfl, rfl⟩)))⟩
 ·
  refine awp_seq ?_
  refine awp_seq ?_
  refine r1 T0_ok hP hm hN ?_
  iterate 2 refine g1 ?_
  refine awp_cond rfl (fun hc => absurd hc (by decide)) (fun hc => ?_)
  refine awp_exit ?_
  repeat refine thenA_exit ?_
  refine blockA_hit ?_
  refine awp_seq ?_
  obtain hk | hk | hk : pkV (o2 s) 3 = 0 ∨ pkV (o2 s) 3 = 1 ∨ pkV (o2 s) 3 = 2 := by omega
  ·
   refine r1 T0_ok hP hm hN ?_
   refine g1 ?_
   refine gc1 ?_ (call_pickE (o2 s) 3 hk ⟨hO.s2.le (by omega), by omega, by omega⟩ rfl rfl rfl rfl)
   refine g1 ?_
   refine gc1 ?_ (call_pick (o3 s) 3 ⟨hO.s3.le (by omega), by omega, by omega⟩ rfl rfl rfl rfl)
   iterate 5 refine g1 ?_
   refine awp_seq ?_
   refine r1 T0_ok hP hm hN ?_
   refine g1 ?_
   refine gc1 ?_ (call_pick (o4 s) 9 ⟨hO.s4.le (by omega), by omega, by omega⟩ rfl rfl rfl rfl)
   iterate 5 refine g1 ?_
   refine awp_seq ?_
   refine r1 T0_ok hP hm hN ?_
   refine g1 ?_
   refine gc1 ?_ (call_pick (o5 s) 12 ⟨hO.s5.le (by omega), by omega, by omega⟩ rfl rfl rfl rfl)
   iterate 5 refine g1 ?_
   refine awp_seq ?_
   refine r1 T0_ok hP hm hN ?_
   refine g1 ?_
   refine gc1 ?_ (call_pick (o6 s) 20 ⟨hO.s6.le (by omega), by omega, by omega⟩ rfl rfl rfl rfl)
   iterate 5 refine g1 ?_
   refine awp_seq ?_
   refine r1 T0_ok hP hm hN ?_
   iterate 2 refine g1 ?_
   refine awp_ret ?_
   refine finG_mk [] rfl rfl ?_ ?_ (by decide)
   · show bkD (oneB s) = _
     simp only [oneB, hk, if_true, if_false, Int.reduceEq]
     rfl
   · exact objsG_cons rfl rfl rfl rfl (.inr (.inl rfl)) objsG_nil
  ·
   refine r1 T0_ok hP hm hN ?_
   refine g1 ?_
   refine gc1 ?_ (call_pickE (o2 s) 3 hk ⟨hO.s2.le (by omega), by omega, by omega⟩ rfl rfl rfl rfl)
   refine g1 ?_
   refine gc1 ?_ (call_pick (o3 s) 3 ⟨hO.s3.le (by omega), by omega, by omega⟩ rfl rfl rfl rfl)
   iterate 5 refine g1 ?_
   refine awp_seq ?_
   refine r1 T0_ok hP hm hN ?_
   refine g1 ?_
   refine gc1 ?_ (call_pick (o4 s) 9 ⟨hO.s4.le (by omega), by omega, by omega⟩ rfl rfl rfl rfl)
   iterate 5 refine g1 ?_
   refine awp_seq ?_
   refine r1 T0_ok hP hm hN ?_
   refine g1 ?_
   refine gc1 ?_ (call_pick (o5 s) 12 ⟨hO.s5.le (by omega), by omega, by omega⟩ rfl rfl rfl rfl)
   iterate 5 refine g1 ?_
   refine awp_seq ?_
   refine r1 T0_ok hP hm hN ?_
   refine g1 ?_
   refine gc1 ?_ (call_pick (o6 s) 20 ⟨hO.s6.le (by omega), by omega, by omega⟩ rfl rfl rfl rfl)
   iterate 5 refine g1 ?_
   refine awp_seq ?_
   refine r1 T0_ok hP hm hN ?_
   iterate 2 refine g1 ?_
   refine awp_ret ?_
   refine finG_mk [] rfl rfl ?_ ?_ (by decide)
   · show bkD (oneB s) = _
     simp only [oneB, hk, if_true, if_false, Int.reduceEq]
     rfl
   · exact objsG_cons rfl rfl rfl rfl (.inr (.inl rfl)) objsG_nil
  ·
   refine r1 T0_ok hP hm hN ?_
   refine g1 ?_
   refine gc1 ?_ (call_pickE (o2 s) 3 hk ⟨hO.s2.le (by omega), by omega, by omega⟩ rfl rfl rfl rfl)
   refine g1 ?_
   refine gc1 ?_ (call_pick (o3 s) 3 ⟨hO.s3.le (by omega), by omega, by omega⟩ rfl rfl rfl rfl)
   iterate 5 refine g1 ?_
   refine awp_seq ?_
   refine r1 T0_ok hP hm hN ?_
   refine g1 ?_
   refine gc1 ?_ (call_pick (o4 s) 9 ⟨hO.s4.le (by omega), by omega, by omega⟩ rfl rfl rfl rfl)
   iterate 5 refine g1 ?_
   refine awp_seq ?_
   refine r1 T0_ok hP hm hN ?_
   refine g1 ?_
   refine gc1 ?_ (call_pick (o5 s) 12 ⟨hO.s5.le (by omega), by omega, by omega⟩ rfl rfl rfl rfl)
   iterate 5 refine g1 ?_
   refine awp_seq ?_
   refine r1 T0_ok hP hm hN ?_
   refine g1 ?_
   refine gc1 ?_ (call_pick (o6 s) 20 ⟨hO.s6.le (by omega), by omega, by omega⟩ rfl rfl rfl rfl)
   iterate 5 refine g1 ?_
   refine awp_seq ?_
   refine r1 T0_ok hP hm hN ?_
   iterate 2 refine g1 ?_
   refine awp_ret ?_
   refine finG_mk [] rfl rfl ?_ ?_ (by decide)
   · show bkD (oneB s) = _
     simp only [oneB, hk, if_true, if_false, Int.reduceEq]
     rfl
   · exact objsG_cons rfl rfl rfl rfl (.inr (.inl rfl)) objsG_nil

theorem call_l01One {o : Oper} {cf : Operand} {args : Array Operand} {tys : Array TypeId} {ev : Operand → D} {hp : HP} {nx h : Nat} (s : Src)  (hpre : okSrcN 14 s) (ho : o.op = .call ⟨.value cf, args, tys⟩) (hcf : fnParts (ev cf) = some (.func 44, [], [])) (hargs : args.toList.map ev = [.ptr h 0 0]) (hl : lk h hp = some ⟨80, 3, false, [[.sl 1 (ints .u8 (s).1), .val (.int .i64 (s).2.1), .val (.int .u64 (s).2.2)]]⟩) :
    OpRel Pr o ev hp nx { d := bkD (oneB s), new := [], upd := [(h, ⟨80, 3, false, [[.sl 1 (ints .u8 (oneS s).1), .val (.int .i64 (oneS s).2.1), .val (.int .u64 (oneS s).2.2)]]⟩)] } := by
  have e := OpRel.callF ok_S_l01One s [h] (by simp) (o := o) (nx := nx) (d := bkD (oneB s)) (K0 := [h]) ho hcf hpre (by rw [List.nil_append, List.append_nil, hargs]; rfl) (objsG_cons hl rfl rfl rfl (.inr (.inl rfl)) objsG_nil) rfl rfl (fm_cons (fun x hx d hd => by
    simp only [List.mem_singleton] at hx
    subst hx
    simp only [List.mem_cons, List.not_mem_nil, or_false] at hd
    rcases hd with rfl | rfl | rfl <;> exact ⟨_, rfl⟩) fm_nil)
  exact e
end Go.Proofs.YtpdkhlpmiblflaaGreat.Abs

