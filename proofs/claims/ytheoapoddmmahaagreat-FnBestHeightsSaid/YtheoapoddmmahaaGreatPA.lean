import Derived.Test.YtheoapoddmmahaaGreatP9
import Derived.Test.YtheoapoddmmahaaGreatG9
set_option linter.unusedVariables false
set_option linter.unusedSimpArgs false
namespace Go.Proofs.YtheoapoddmmahaaGreat.Abs
open Go Go.RowKit

theorem putI_lenA (l : List Int) (n : Int) : (putI l n).length ≤ l.length + 1 := by
  have h2 : ∀ i, (putF l n i).2 = false → (putF l n i).1.length ≤ i := fun i => by
    induction i with
    | zero => simp [putF]
    | succ i ih =>
      rw [putF]
      split
      · simp
      · intro h; have := ih h; simp; omega
  have := putF_len l n l.length
  unfold putI
  split
  · rename_i h
    have := h2 l.length (by simpa using h)
    simp; omega
  · omega
def dhS (s : Src) : Nat → Src
  | 0 => s
  | i + 1 => pkS (dhS s i) 400
def dhL (a b : Int) (s : Src) : Nat → List Int
  | 0 => []
  | i + 1 => putI (dhL a b s i) (pegH a b (60 + pkV (dhS s i) 400))
theorem dhS_ok (s : Src) : ∀ (i : Nat) (m : Int), 0 ≤ m → okSrcN (2 * (i : Int) + m) s → okSrcN m (dhS s i)
  | 0, m, _, h => h.le (by omega)
  | i + 1, m, hm, h => pkS_ok (dhS_ok s i (m + 2) (by omega) (h.le (by omega))) hm (by omega)
theorem dhL_len (a b : Int) (s : Src) : ∀ i, (dhL a b s i).length ≤ i
  | 0 => Nat.le_refl _
  | i + 1 => by
    have h1 := dhL_len a b s i
    have h2 := putI_lenA (dhL a b s i) (pegH a b (60 + pkV (dhS s i) 400))
    rw [dhL]; omega
def RiseP (a b : Int) (l : List Int) : Prop := l.Pairwise (· < ·) ∧ ∀ y ∈ l, ∃ x, 60 ≤ x ∧ x ≤ 460 ∧ y = pegH a b x
theorem riseP_put {a b : Int} {l : List Int} (h : RiseP a b l) {x : Int} (h1 : 60 ≤ x) (h2 : x ≤ 460) : RiseP a b (putI l (pegH a b x)) := by
  obtain ⟨p1, p2⟩ := putI_rise h.1 (pegH a b x)
  refine ⟨p1, fun y hy => ?_⟩
  rcases (p2 y).1 hy with rfl | hy
  · exact ⟨x, h1, h2, rfl⟩
  · exact h.2 y hy
theorem dhL_rise (a b : Int) (s : Src) (i : Nat) : okSrcN (2 * (i : Int)) s → RiseP a b (dhL a b s i) := by
  induction i with
  | zero => intro _; exact ⟨List.Pairwise.nil, fun y hy => by cases hy⟩
  | succ i ih =>
    intro h
    have hb := pkV_b (n := 400) (dhS_ok s i 2 (by omega) (h.le (by omega))) (by omega)
    exact riseP_put (ih (h.le (by omega))) (by omega) (by omega)
def dhN (s : Src) : Nat := (1 + pkV s 4).toNat
def dhR (a b : Int) (s : Src) : List Int × Src := (if (pkV (dhS (pkS s 4) (dhN s)) 2 == 0) = true then putI (dhL a b (pkS s 4) (dhN s)) (pegH a b 400) else dhL a b (pkS s 4) (dhN s), pkS (dhS (pkS s 4) (dhN s)) 2)
theorem dhN_b {s : Src} (h : okSrcN 100 s) : 1 ≤ dhN s ∧ dhN s ≤ 4 ∧ ((dhN s : Nat) : Int) = 1 + pkV s 4 := by
  have := pkV_b (n := 4) (h.le (by omega)) (by omega)
  unfold dhN
  omega
theorem dhR_ok {a b : Int} {s : Src} (h : okSrcN 100 s) : RiseP a b (dhR a b s).1 ∧ (dhR a b s).1.length ≤ 5 := by
  have h1 : okSrcN 98 (pkS s 4) := pkS_ok h (by omega) (by omega)
  have hn := dhN_b h
  have hr := dhL_rise a b (pkS s 4) (dhN s) (h1.le (by omega))
  have hl := dhL_len a b (pkS s 4) (dhN s)
  unfold dhR
  split
  · refine ⟨riseP_put hr (by omega) (by omega), ?_⟩
    have := putI_lenA (dhL a b (pkS s 4) (dhN s)) (pegH a b 400)
    show (putI _ _).length ≤ 5
    omega
  · exact ⟨hr, by show (dhL _ _ _ _).length ≤ 5; omega⟩
def htC (p : Int × Int × Int) (code : List Int) : List Int := putI (dhR p.1 p.2.1 (code, 0, 0)).1 (pegH p.1 p.2.1 400)
noncomputable def bkC (code : List Int) : List Bk := (lstC code).take 8


theorem shF_i64s (ks : List Nat) (ty : TypeId) (sz : Nat) (dp : Bool) (xs : List Int) : shF ks ⟨ty, sz, dp, i64s xs⟩ = ⟨ty, sz, dp, i64s xs⟩ := by
  simp only [shF, List.map_map]
  rfl

noncomputable abbrev s_S_l04Drawn : Spec (Src × (Int × Int × Int)) where
  args := fun x => [.ptr 0 0 0, pegs x.2]
  pre := fun x => okSrcN 100 x.1 ∧ pegsOk x.2.1 x.2.2.1 x.2.2.2 = true ∧ isPegs x.2
  obs := fun x => [⟨87, 3, false, [[.sl 1 (ints .u8 (x.1).1), .val (.int .i64 (x.1).2.1), .val (.int .u64 (x.1).2.2)]]⟩]
  out := fun x => [⟨87, 3, false, [[.sl 1 (ints .u8 ((dhR x.2.1 x.2.2.1 x.1).2).1), .val (.int .i64 ((dhR x.2.1 x.2.2.1 x.1).2).2.1), .val (.int .u64 ((dhR x.2.1 x.2.2.1 x.1).2).2.2)]]⟩]
  new := fun x => [⟨2, 1, false, i64s ((dhR x.2.1 x.2.2.1 x.1).1)⟩]
  res := fun x => .own 1

set_option maxRecDepth 20000 in
set_option maxHeartbeats 8000000 in
theorem ok_S_l04Drawn : FnOk Pr 39 s_S_l04Drawn := by
 refine fn_okG 2 1 T0_ok Go.Proofs.Tryz.func39 rfl (enters_of Go.Proofs.Tryz.func39 rfl rfl) (fun _ => rfl) (fun _ => rfl) (fun _ => rfl) ?_
 rintro ⟨s, a, b, c⟩ ⟨hs, hok, hp⟩ C hP hN hm hG
 change awp C _ _ ⟨[(0, .ptr 0 0 0), (1, .val (.agg #[.int .i16 a, .int .i16 b, .int .i16 c]))], [(0, ⟨87, 3, false, [[.sl 1 (ints .u8 (s).1), .val (.int .i64 (s).2.1), .val (.int .u64 (s).2.2)]]⟩)], 1⟩
 simp only at hs hok hp
 have h1 : okSrcN 98 (pkS s 4) := pkS_ok hs (by omega) (by omega)
 have hkb := pkV_b (n := 4) (hs.le (by omega)) (by omega)
 have hdn := dhN_b hs
 have hr0 : okSrcN 20 (dhS (pkS s 4) (dhN s)) := dhS_ok _ _ 20 (by omega) (h1.le (by omega))
 have hdl0 := dhL_len a b (pkS s 4) (dhN s)
 refine awp_seq ?_
 refine r1 T0_ok hP hm hN ?_
 iterate 2 refine g1 ?_
 refine awp_seq ?_
 refine r1 T0_ok hP hm hN ?_
 refine g1 ?_ (hst := by simp +decide (disch := omega) only [nrm, lk_nrm, dc_nrm, mk_nrm, mf_nrm, ti_nrm, ls_nrm, mp_nrm, nb_nrm, hset, pick_and, pick_or, ↓reduceIte, Nat.reduceAdd, wI64, wI32, wI16, wI8, wU8, List.length_map, Int.toNat_natCast, xn1, xn2, List.all_nil, Bool.not_true]; rfl)
 refine g1 ?_
 refine awp_seq ?_
 refine awp_seq ?_
 refine r1 T0_ok hP hm hN ?_
 refine g1 ?_
 refine gc1 ?_ (call_pick s 4 ⟨hs.le (by omega), by omega, by omega⟩ rfl rfl rfl rfl)
 iterate 2 refine g1 ?_
 refine awp_block ?_
 refine awp_loop (fun n st => ∃ i : Nat, i ≤ (dhN s) ∧ n = (dhN s) - i ∧ st = ⟨[(6, .val (.int .i64 (((dhN s) - i : Nat) : Int))), (5, .own 2), (3, .ptr 1 0 0), (0, .ptr 0 0 0)], [(2, ⟨2, 1, false, i64s (dhL a b (pkS s 4) i)⟩), (1, ⟨26, 3, true, [[.val (.int .i16 a), .val (.int .i16 b), .val (.int .i16 c)]]⟩), (0, ⟨87, 3, false, [[.sl 1 (ints .u8 ((dhS (pkS s 4) i)).1), .val (.int .i64 ((dhS (pkS s 4) i)).2.1), .val (.int .u64 ((dhS (pkS s 4) i)).2.2)]]⟩)], 3⟩) ((dhN s)) ⟨_, (by rw [show (1 + pkV s 4) = (((dhN s) - 0 : Nat) : Int) by omega]; exact weak_sl (sub_cons rfl (sub_cons rfl (sub_cons rfl (sub_cons rfl (sub_nil)))))), 0, by omega, rfl, rfl⟩ ?_
 rintro n st ⟨i, hii, hni, rfl⟩
 have hdl := dhL_len a b (pkS s 4) i
 have hsi : okSrcN 20 (dhS (pkS s 4) i) := dhS_ok _ _ 20 (by omega) (h1.le (by omega))
 have hpb := pkV_b (n := 400) (hsi.le (by omega)) (by omega)
 refine awp_seq ?_
 refine awp_seq ?_
 refine r1 T0_ok hP hm hN ?_
 iterate 2 refine g1 ?_
 refine awp_cond rfl (fun hc0 => ?_) (fun hc0 => ?_)
 ·
  have hlt : i < (dhN s) := by simp at hc0; omega
  refine awp_skip ?_
  refine awp_seq ?_
  refine awp_block ?_
  refine awp_draw T0_ok hP hm hN Pr_mix [1] [3, 5, 6] _ rfl (by rfl) ?_
  iterate 3 refine d1 T0_ok ?_
  refine dp1 ?_ (call_pick (dhS (pkS s 4) i) 400 ⟨hsi.le (by omega), by omega, by omega⟩ rfl rfl rfl rfl)
  refine d1 T0_ok ?_
  refine dp1 ?_ (call1 ok_S_l04Peg ((_, _, _), _) [] (hpre := by (try dsimp only); exact ⟨hok, by omega, by omega⟩))
  refine dp1 ?_ (call1 ok_S_l00Put (_, _) [] (hpre := by (try dsimp only); omega))
  refine d1 T0_ok ?_
  refine dreg_nil ?_
  refine r1 T0_ok hP hm hN ?_
  iterate 3 refine g1 ?_
  refine ⟨(dhN s) - (i + 1), _, by omega, (by rw [show (((dhN s) - i : Nat) : Int) - 1 = (((dhN s) - (i + 1) : Nat) : Int) by omega]; exact Weak.trans (weak_drop 2) (Weak.trans (weak_swap 2 3 (by omega) (by omega) (by decide) (by decide)) (Weak.trans (weak_nx (nx' := 3) (by omega) (by rfl)) (weak_sl (sub_cons rfl (sub_cons rfl (sub_cons rfl (sub_cons rfl (sub_nil))))))))), i + 1, by omega, rfl, rfl⟩
 ·
  have hge : ¬ i < (dhN s) := by simp at hc0; omega
  obtain rfl : i = (dhN s) := by omega
  refine awp_exit ?_
  repeat refine thenA_exit ?_
  refine blockA_hit ?_
  refine awp_seq ?_
  refine awp_seq ?_
  refine r1 T0_ok hP hm hN ?_
  refine g1 ?_
  refine gc1 ?_ (call_one (dhS (pkS s 4) (dhN s)) 2 ⟨hr0.le (by omega), by omega, by omega⟩ rfl rfl rfl rfl)
  refine awp_cond rfl (fun hc1 => ?_) (fun hc1 => ?_)
  ·
   refine r1 T0_ok hP hm hN ?_
   iterate 2 refine g1 ?_
   refine gc1 ?_ (call1 ok_S_l04Peg ((_, _, _), _) [] (hpre := by (try dsimp only); exact ⟨hok, by omega, by omega⟩))
   refine gc1 ?_ (call1 ok_S_l00Put (_, _) [] (hpre := by (try dsimp only); omega))
   refine g1 ?_
   refine awp_seq ?_
   refine r1 T0_ok hP hm hN ?_
   iterate 2 refine g1 ?_
   refine awp_ret ?_
   refine finG_mk [3] rfl rfl ?_ ?_ (by decide)
   · rfl
   · show ObjsG _ _ _ [⟨87, 3, false, [[.sl 1 (ints .u8 ((dhR a b s).2).1), .val (.int .i64 ((dhR a b s).2).2.1), .val (.int .u64 ((dhR a b s).2).2.2)]]⟩, ⟨2, 1, false, i64s ((dhR a b s).1)⟩]
     rw [show dhR a b s = (putI (dhL a b (pkS s 4) (dhN s)) (pegH a b 400), pkS (dhS (pkS s 4) (dhN s)) 2) by rw [dhR, if_pos hc1]]
     exact objsG_cons rfl rfl rfl rfl (.inr (.inl rfl)) (objsG_cons rfl rfl rfl (renXs_i64s _ _) (.inr (.inl rfl)) objsG_nil)
  ·
   refine awp_skip ?_
   refine awp_seq ?_
   refine r1 T0_ok hP hm hN ?_
   iterate 2 refine g1 ?_
   refine awp_ret ?_
   refine finG_mk [2] rfl rfl ?_ ?_ (by decide)
   · rfl
   · show ObjsG _ _ _ [⟨87, 3, false, [[.sl 1 (ints .u8 ((dhR a b s).2).1), .val (.int .i64 ((dhR a b s).2).2.1), .val (.int .u64 ((dhR a b s).2).2.2)]]⟩, ⟨2, 1, false, i64s ((dhR a b s).1)⟩]
     rw [show dhR a b s = ((dhL a b (pkS s 4) (dhN s)), pkS (dhS (pkS s 4) (dhN s)) 2) by rw [dhR, if_neg (by rw [hc1]; simp)]]
     exact objsG_cons rfl rfl rfl rfl (.inr (.inl rfl)) (objsG_cons rfl rfl rfl (renXs_i64s _ _) (.inr (.inl rfl)) objsG_nil)

theorem call_l04Drawn {o : Oper} {cf : Operand} {args : Array Operand} {tys : Array TypeId} {ev : Operand → D} {hp : HP} {nx h : Nat} (s : Src) (p : Int × Int × Int) (hpre : okSrcN 100 s ∧ pegsOk p.1 p.2.1 p.2.2 = true ∧ isPegs p) (ho : o.op = .call ⟨.value cf, args, tys⟩) (hcf : fnParts (ev cf) = some (.func 39, [], [])) (hargs : args.toList.map ev = [.ptr h 0 0, pegs p]) (hl : lk h hp = some ⟨87, 3, false, [[.sl 1 (ints .u8 (s).1), .val (.int .i64 (s).2.1), .val (.int .u64 (s).2.2)]]⟩) :
    OpRel Pr o ev hp nx { d := .own nx, new := [(nx, ⟨2, 1, false, i64s ((dhR p.1 p.2.1 s).1)⟩)], upd := [(h, ⟨87, 3, false, [[.sl 1 (ints .u8 ((dhR p.1 p.2.1 s).2).1), .val (.int .i64 ((dhR p.1 p.2.1 s).2).2.1), .val (.int .u64 ((dhR p.1 p.2.1 s).2).2.2)]]⟩)] } := by
  have e := OpRel.callF ok_S_l04Drawn (s, p) [h] (by simp) (o := o) (nx := nx) (d := .own nx) (K0 := [h, nx]) ho hcf hpre (by rw [List.nil_append, List.append_nil, hargs]; rfl) (objsG_cons hl rfl rfl rfl (.inr (.inl rfl)) objsG_nil) rfl rfl (fm_cons (fun x hx d hd => by
    simp only [List.mem_singleton] at hx
    subst hx
    simp only [List.mem_cons, List.not_mem_nil, or_false] at hd
    rcases hd with rfl | rfl | rfl <;> exact ⟨_, rfl⟩) (fm_cons (fun x hx d hd => by
    obtain ⟨b, _, rfl⟩ := List.mem_map.1 hx
    simp only [List.mem_cons, List.not_mem_nil, or_false] at hd
    subst hd
    exact ⟨_, rfl⟩) fm_nil))
  simp only [List.map_cons, List.map_nil, shF_i64s] at e
  exact e
end Go.Proofs.YtheoapoddmmahaaGreat.Abs

