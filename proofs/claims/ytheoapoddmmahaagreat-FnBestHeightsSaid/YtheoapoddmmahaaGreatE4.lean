import Derived.Test.YtheoapoddmmahaaGreatE2
set_option linter.unusedVariables false
set_option linter.unusedSimpArgs false
namespace Go.Proofs.YtheoapoddmmahaaGreat.Abs
open Go Go.RowKit
theorem wU64 {n : Int} (h1 : 0 ≤ n) (h2 : n ≤ 18446744073709551615) : IntKind.u64.wrap n = n := by
  unfold IntKind.wrap
  simp [IntKind.bits, IntKind.signed]
  omega
open Classical in
theorem oprel_own_vw {o : Oper} {ev : Operand → D} {hp : HP} {nx : Nat} {r : Res} (x1 : Operand) {h : Nat} {ob : Ob} (hx : ev x1 = .own h) (hl : lk h hp = some ob) (hR : OpRel Pr o (fun x => if x = x1 then .vw h 0 ob.xs.length else ev x) hp nx r) : OpRel Pr o ev hp nx r :=
  ⟨hR.1, fun w0 S G hv a w hI hk hev K Q hK => hR.2 w0 S G hv a w hI hk (fun x => by
    by_cases e : x = x1
    · subst e
      simp only [if_pos]
      have h1 := hev x
      rw [hx] at h1
      obtain ⟨s, hL⟩ := h1
      have hL' := hL
      rw [LOf_eq hl] at hL'
      simp only [Option.some.injEq, Prod.mk.injEq] at hL'
      obtain ⟨hvk, rfl⟩ := hL'
      obtain ⟨vs, hown, _, _⟩ := hI.obs h ob hl
      rcases hown.2 with ⟨hx, h0⟩ | ⟨g, cap, cur, hvs, _, _, hc1, hc2, _⟩
      · exact ⟨none, 0, 0, 0, ob.sz, none, by rw [← hvk, hx, h0], by show LOf hv hp h = _; rw [LOf_eq hl, hx], by omega, ⟨by omega, Nat.zero_le _, by omega⟩, fun _ => rfl, fun h => absurd h (by omega)⟩
      · exact ⟨some ⟨g, 0, none⟩, cap, ob.xs.length, cap, ob.sz, some ⟨g, 0, none⟩, by rw [← hvk, hvs], by show LOf hv hp h = _; rw [LOf_eq hl, hvs], by omega, ⟨hc1, hc2, by omega⟩, (fun h => by cases h), fun _ => ⟨g, rfl, by simp⟩⟩
    · simp only [if_neg e]
      exact hev x) K Q hK⟩
def repL (v : Int) (n k : Nat) : List Int := List.replicate k v ++ List.replicate (n - k) 0
theorem repL_len {v : Int} {n k : Nat} (h : k ≤ n) : (repL v n k).length = n := by simp [repL]; omega
theorem repL_all (v : Int) (n : Nat) : repL v n n = List.replicate n v := by simp [repL]
theorem spliceI (l m : List Int) (p : Nat) : splice (i64s l) p (i64s m) = i64s (splice l p m) := by simp [splice]
theorem repL_one {v : Int} {n : Nat} (hn : 1 ≤ n) : splice (List.replicate n [D.val (.int .i64 0)]) 0 ((i64s [v]).take 1) = i64s (repL v n 1) := by
  rw [show List.replicate n [D.val (.int .i64 0)] = i64s (List.replicate n 0) by simp, ← List.map_take, spliceI]
  congr 1
  simp [splice, repL]
theorem repL_two {v : Int} {n k q : Nat} (hk : k ≤ n) (hq : q = min k (n - k)) : splice (i64s (repL v n k)) k ((((i64s (repL v n k)).drop 0).take k).take q) = i64s (repL v n (k + q)) := by
  rw [List.drop_zero, ← List.map_take, ← List.map_take, spliceI]
  congr 1
  have e : ((repL v n k).take k).take q = List.replicate q v := by
    simp [repL]
    omega
  rw [e]
  simp only [splice, List.length_replicate, repL]
  rw [List.take_left' (by simp), List.drop_append, List.drop_of_length_le (by simp), List.length_replicate, List.nil_append, List.drop_replicate, List.replicate_append_replicate]
  congr 2
  omega

noncomputable abbrev s_math_bits_Mul : Spec Nat := { args := fun n => [Value.int .u64 1, Value.int .u64 (n : Int)].map .val, pre := fun n => n ≤ 1000, res := fun n => .tup ([Value.int .u64 0, Value.int .u64 (n : Int)].map .val) }
theorem ok_math_bits_Mul : FnOk Pr 100 s_math_bits_Mul :=
  fnOk_tupB (fun n : Nat => [Value.int .u64 1, Value.int .u64 (n : Int)]) (fun n => n ≤ 1000) (fun n => [Value.int .u64 0, Value.int .u64 (n : Int)]) (enters_of Go.Proofs.Tryz.func100 (by kernel_rfl) rfl) fun n hn w _ => by
    refine (Go.Proofs.Tryz.bits_Mul 1 n (by omega) (by omega) w).mono fun e w' hw => ?_
    obtain ⟨rfl, rfl⟩ := hw
    refine ⟨?_, Below.refl _ _⟩
    rw [Nat.one_mul, Nat.div_eq_of_lt (by omega), Nat.mod_eq_of_lt (by omega)]
    rfl

noncomputable abbrev s_slices_Repeat_int64_int64 : Spec (Int × Nat) where
  args := fun x => [.sl 1 (i64s [x.1]), .val (.int .i64 ((x.2 : Nat) : Int))]
  pre := fun x => 1 ≤ x.2 ∧ x.2 ≤ 1000
  new := fun x => [⟨2, 1, false, i64s (List.replicate x.2 x.1)⟩]
  res := fun x => .own 0

set_option maxRecDepth 20000 in
set_option maxHeartbeats 1000000 in
theorem ok_slices_Repeat_int64_int64 : FnOk Pr 74 s_slices_Repeat_int64_int64 := by
 refine fn_ok 2 0 T0_ok Go.Proofs.Tryz.func74 rfl (enters_of Go.Proofs.Tryz.func74 rfl rfl) (fun _ => rfl) (fun _ => rfl) (fun _ => rfl) ?_
 rintro ⟨v, n⟩ ⟨hn1, hn2⟩ C hP hN hm hG
 change awp C _ _ ⟨[(0, .sl 1 (i64s [v])), (1, .val (.int .i64 (n : Nat)))], [], 0⟩
 simp only at hn1 hn2
 have xn1 := @wU64
 refine awp_seq ?_
 refine r1 T0_ok hP hm hN ?_
 refine g1 ?_
 refine awp_seq ?_
 refine awp_seq ?_
 refine r1 T0_ok hP hm hN ?_
 iterate 2 refine g1 ?_
 refine awp_cond rfl (fun hc0 => ?_) (fun hc0 => ?_)
 ·
  exfalso; simp at hc0; omega
 ·
  refine awp_skip ?_
  refine awp_seq ?_
  refine r1 T0_ok hP hm hN ?_
  iterate 5 refine g1 ?_
  refine gc1 ?_ (call1 ok_math_bits_Mul n [] (hpre := by (try dsimp only); omega))
  iterate 5 refine g1 ?_
  refine awp_seq ?_
  refine awp_seq ?_
  refine r1 T0_ok hP hm hN ?_
  iterate 3 refine g1 ?_
  iterate 2 refine gg1 ?_
  refine g1 ?_
  refine awp_cond rfl (fun hc1 => ?_) (fun hc1 => ?_)
  ·
   exfalso; simp at hc1; omega
  ·
   refine awp_skip ?_
   refine awp_seq ?_
   refine r1 T0_ok hP hm hN ?_
   iterate 4 refine g1 ?_
   refine awp_seq ?_
   refine r1 T0_ok hP hm hN ?_
   iterate 2 refine g1 ?_
   refine gc1 ?_ (oprel_own_vw (.tmp 31) rfl rfl (oprel_copy_vw (q := 1) T0_ok rfl (if_pos rfl) rfl rfl rfl rfl rfl (by rw [if_neg (by simp)]; rfl) rfl ?_ ?_ ?_))
   rotate_left 1
   · exact (by simp only [List.length_replicate, Int.toNat_natCast]; omega)
   · exact (by simp)
   · exact (by simp only [List.length_replicate, Int.toNat_natCast, List.length_map, List.length_cons, List.length_nil]; omega)
   refine g1 ?_
   refine awp_seq ?_
   refine awp_block ?_
   refine awp_loop (fun M st => ∃ k : Nat, 1 ≤ k ∧ k ≤ n ∧ M = n - k ∧ st = ⟨[(8, .val (.int .i64 (k : Nat))), (7, .own 0)], [(0, ⟨2, 1, false, i64s (repL v n k)⟩)], 1⟩) (n - 1) ⟨_, (by rw [← repL_one (v := v) hn1]; exact weak_sl (sub_cons rfl (sub_cons rfl (sub_nil)))), 1, by omega, by omega, rfl, rfl⟩ ?_
   rintro M st ⟨k, hk1, hk2, hMM, rfl⟩
   have hrl := repL_len (v := v) hk2
   refine awp_seq ?_
   refine awp_seq ?_
   refine r1 T0_ok hP hm hN ?_
   iterate 4 refine g1 ?_
   refine awp_cond rfl (fun hc2 => ?_) (fun hc2 => ?_)
   ·
    have hkn : k < n := by rw [hrl] at hc2; simpa using hc2
    refine awp_skip ?_
    refine awp_block ?_
    refine awp_any hP Pr_mix _ rfl 10 rfl ?_
    refine anyS_float T0_ok hP hm hN (by rfl) 0 rfl rfl rfl (by rfl) (by rfl) (by rfl) ?_
    refine g1 ?_
    refine anyS_float T0_ok hP hm hN (by rfl) 1 rfl rfl rfl (by rfl) (by rfl) (by rfl) ?_
    refine g1 ?_
    refine anyS_float T0_ok hP hm hN (by rfl) 2 rfl rfl rfl (by rfl) (by rfl) (by rfl) ?_
    refine g1 ?_
    refine anyS_float T0_ok hP hm hN (by rfl) 4 rfl rfl rfl (by rfl) (by rfl) (by rfl) ?_
    refine g1 ?_
    refine anyS_float T0_ok hP hm hN (by rfl) 5 rfl rfl rfl (by rfl) (by rfl) (by rfl) ?_
    refine g1 ?_
    refine anyS_cons T0_ok hP hm hN (by rfl) [3, 6] (by rfl) rfl ?_
    refine ⟨⟨_, rfl, rfl, ?_⟩, ?_⟩
    ·
     refine g1 ?_
     refine anyS_cons T0_ok hP hm hN (by rfl) [6] (by rfl) rfl ?_
     refine ⟨⟨_, rfl, rfl, ?_⟩, trivial⟩
     refine g1 ?_
     refine anyS_cons T0_ok hP hm hN (by rfl) [7] (by rfl) rfl ?_
     refine ⟨⟨_, rfl, rfl, ?_⟩, trivial⟩
     obtain ⟨q, hq⟩ : ∃ q, q = min k (n - k) := ⟨_, rfl⟩
     refine gc1 ?_ (oprel_copy_vw (q := q) T0_ok rfl rfl rfl rfl rfl rfl rfl (by rfl) rfl ?_ ?_ ?_)
     rotate_left 1
     · exact (by simp only [List.length_take, List.length_drop, List.length_map, List.length_replicate, hrl]; omega)
     · exact (by simp only [List.length_take, List.length_drop, List.length_map, List.length_replicate, hrl]; omega)
     · exact (by simp only [List.length_take, List.length_drop, List.length_map, List.length_replicate, hrl]; omega)
     refine anyS_cons T0_ok hP hm hN (by rfl) [8] (by rfl) rfl ?_
     refine ⟨⟨_, rfl, rfl, ?_⟩, trivial⟩
     refine g1 ?_
     refine anyS_cons T0_ok hP hm hN (by rfl) [9] (by rfl) rfl ?_
     refine ⟨⟨_, rfl, rfl, ?_⟩, trivial⟩
     refine g1 ?_
     refine anyS_done (by rfl) ?_
     exact ⟨n - (k + q), _, by omega, (by rw [← repL_two (v := v) hk2 hq]; exact weak_sl (sub_cons rfl (sub_cons rfl (sub_nil)))), k + q, by omega, by omega, rfl, rfl⟩
    refine ⟨⟨_, rfl, rfl, ?_⟩, trivial⟩
    refine g1 ?_
    refine anyS_cons T0_ok hP hm hN (by rfl) [3] (by rfl) rfl ?_
    refine ⟨⟨_, rfl, rfl, ?_⟩, trivial⟩
    refine g1 ?_
    refine anyS_cons T0_ok hP hm hN (by rfl) [7] (by rfl) rfl ?_
    refine ⟨⟨_, rfl, rfl, ?_⟩, trivial⟩
    obtain ⟨q, hq⟩ : ∃ q, q = min k (n - k) := ⟨_, rfl⟩
    refine gc1 ?_ (oprel_copy_vw (q := q) T0_ok rfl rfl rfl rfl rfl rfl rfl (by rfl) rfl ?_ ?_ ?_)
    rotate_left 1
    · exact (by simp only [List.length_take, List.length_drop, List.length_map, List.length_replicate, hrl]; omega)
    · exact (by simp only [List.length_take, List.length_drop, List.length_map, List.length_replicate, hrl]; omega)
    · exact (by simp only [List.length_take, List.length_drop, List.length_map, List.length_replicate, hrl]; omega)
    refine anyS_cons T0_ok hP hm hN (by rfl) [8] (by rfl) rfl ?_
    refine ⟨⟨_, rfl, rfl, ?_⟩, trivial⟩
    refine g1 ?_
    refine anyS_cons T0_ok hP hm hN (by rfl) [9] (by rfl) rfl ?_
    refine ⟨⟨_, rfl, rfl, ?_⟩, trivial⟩
    refine g1 ?_
    refine anyS_done (by rfl) ?_
    exact ⟨n - (k + q), _, by omega, (by rw [← repL_two (v := v) hk2 hq]; exact weak_sl (sub_cons rfl (sub_cons rfl (sub_nil)))), k + q, by omega, by omega, rfl, rfl⟩
   ·
    have hkn : k = n := by simp only [List.length_map, hrl, decide_eq_false_iff_not] at hc2; omega
    subst hkn
    rw [repL_all]
    refine awp_exit ?_
    repeat refine thenA_exit ?_
    refine blockA_hit ?_
    refine awp_seq ?_
    refine r1 T0_ok hP hm hN ?_
    iterate 2 refine g1 ?_
    refine awp_ret ?_
    refine fin_mk [0] rfl rfl ?_ (objs_cons rfl rfl rfl rfl rfl (.inl rfl) objs_nil) (by decide)
    rfl
end Go.Proofs.YtheoapoddmmahaaGreat.Abs

