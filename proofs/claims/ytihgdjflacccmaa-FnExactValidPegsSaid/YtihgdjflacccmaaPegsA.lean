import Derived.Test.YtihgdjflacccmaaProg
import Derived.Test.YtihgdjflacccmaaAbsB
import Derived.Shelf.Abstract
set_option linter.unusedVariables false
set_option linter.unusedSimpArgs false
namespace Go.Proofs.Ytihgdjflacccmaa.Abs
open Go Go.RowKit
noncomputable abbrev Pr := Go.Proofs.Try.prog
set_option maxRecDepth 100000 in
def T0 : TT := [
  (2, ⟨.int .i64, 1, 8, .int .i64 0⟩),
  (3, ⟨.int .i64, 1, 8, .int .i64 0⟩),
  (4, ⟨.bool, 1, 1, .bool false⟩),
  (5, ⟨.int .u8, 1, 1, .int .u8 0⟩),
  (22, ⟨.int .i16, 1, 2, .int .i16 0⟩),
  (24, ⟨.struct [(0, 22), (1, 22), (2, 22)], 3, 6, .agg #[.int .i16 0, .int .i16 0, .int .i16 0]⟩),
  (26, ⟨.struct [(0, 22), (1, 22), (2, 22)], 3, 6, .agg #[.int .i16 0, .int .i16 0, .int .i16 0]⟩),
  (32, ⟨.slice 2, 1, 24, .slice none 0 0⟩),
  (39, ⟨.slice 75, 1, 24, .slice none 0 0⟩),
  (41, ⟨.struct [(0, 22), (1, 39)], 2, 32, .agg #[.int .i16 0, .slice none 0 0]⟩),
  (44, ⟨.slice 68, 1, 24, .slice none 0 0⟩),
  (45, ⟨.struct [(0, 22), (1, 44)], 2, 32, .agg #[.int .i16 0, .slice none 0 0]⟩),
  (64, ⟨.arr 3 5, 3, 3, .agg #[.int .u8 0, .int .u8 0, .int .u8 0]⟩),
  (66, ⟨.struct [(0, 22), (1, 64), (4, 22), (5, 22), (6, 22), (7, 22)], 8, 14, .agg #[.int .i16 0, .int .u8 0, .int .u8 0, .int .u8 0, .int .i16 0, .int .i16 0, .int .i16 0, .int .i16 0]⟩),
  (68, ⟨.struct [(0, 22), (1, 66)], 9, 16, .agg #[.int .i16 0, .int .i16 0, .int .u8 0, .int .u8 0, .int .u8 0, .int .i16 0, .int .i16 0, .int .i16 0, .int .i16 0]⟩),
  (73, ⟨.struct [(0, 22), (1, 64), (4, 22), (5, 22), (6, 22), (7, 22)], 8, 14, .agg #[.int .i16 0, .int .u8 0, .int .u8 0, .int .u8 0, .int .i16 0, .int .i16 0, .int .i16 0, .int .i16 0]⟩),
  (75, ⟨.struct [(0, 22), (1, 73)], 9, 16, .agg #[.int .i16 0, .int .i16 0, .int .u8 0, .int .u8 0, .int .u8 0, .int .i16 0, .int .i16 0, .int .i16 0, .int .i16 0]⟩)]
set_option maxRecDepth 100000 in
theorem T0_ok : TOk Pr T0 := by
  refine .cons ⟨?_, ?_, ?_⟩ (.cons ⟨?_, ?_, ?_⟩ (.cons ⟨?_, ?_, ?_⟩ (.cons ⟨?_, ?_, ?_⟩ (.cons ⟨?_, ?_, ?_⟩ (.cons ⟨?_, ?_, ?_⟩ (.cons ⟨?_, ?_, ?_⟩ (.cons ⟨?_, ?_, ?_⟩ (.cons ⟨?_, ?_, ?_⟩ (.cons ⟨?_, ?_, ?_⟩ (.cons ⟨?_, ?_, ?_⟩ (.cons ⟨?_, ?_, ?_⟩ (.cons ⟨?_, ?_, ?_⟩ (.cons ⟨?_, ?_, ?_⟩ (.cons ⟨?_, ?_, ?_⟩ (.cons ⟨?_, ?_, ?_⟩ (.cons ⟨?_, ?_, ?_⟩ (.nil _))))))))))))))))) <;> kernel_rfl

def s31 : Spec (Int × Int × Int) where
  args := fun x => [.val (.int .i64 x.1), .val (.int .i64 x.2.1), .val (.int .i64 x.2.2)]
  res := fun x => .val (.bool (decide (x.2.1 ≤ x.1) && decide (x.1 ≤ x.2.2)))

set_option maxHeartbeats 400000 in
theorem ok31 : FnOk Pr 31 s31 := by
  refine fn_ok 3 0 T0_ok Go.Proofs.Try.func31 rfl (enters_of Go.Proofs.Try.func31 rfl rfl) (fun _ => rfl) (fun _ => rfl) (fun _ => rfl) ?_
  rintro ⟨n, lo, hi⟩ - C hP hN hm hG
  change awp C _ _ ⟨[(0, .val (.int .i64 n)), (1, .val (.int .i64 lo)), (2, .val (.int .i64 hi))], [], 0⟩
  refine awp_seq ?_
  refine awp_reg T0_ok hP hm hN _ rfl (by rfl) ?_
  refine areg_go (by rfl) (by rfl) (by first | trivial | rfl | exact ⟨rfl, rfl, fun _ => rfl, Nat.le_of_ble_eq_true rfl, .inl rfl⟩ | exact ⟨rfl, rfl, fun h => (nomatch h), Nat.le_of_ble_eq_true rfl, .inl rfl⟩ | omega) (by simp +decide (disch := omega) only [nrm, lk_nrm, dc_nrm, mk_nrm, ti_nrm, ls_nrm, mp_nrm, nb_nrm, hset, pick_and, pick_or, reduceIte, Nat.reduceAdd, wI64, wI32, wI16, wI8, wU8]; rfl) ?_
  refine awp_seq ?_
  refine awp_reg T0_ok hP hm hN _ rfl (by rfl) ?_
  refine areg_go (by rfl) (by rfl) (by first | trivial | rfl | exact ⟨rfl, rfl, fun _ => rfl, Nat.le_of_ble_eq_true rfl, .inl rfl⟩ | exact ⟨rfl, rfl, fun h => (nomatch h), Nat.le_of_ble_eq_true rfl, .inl rfl⟩ | omega) (by simp +decide (disch := omega) only [nrm, lk_nrm, dc_nrm, mk_nrm, ti_nrm, ls_nrm, mp_nrm, nb_nrm, hset, pick_and, pick_or, reduceIte, Nat.reduceAdd, wI64, wI32, wI16, wI8, wU8]; rfl) ?_
  refine areg_go (by rfl) (by rfl) (by first | trivial | rfl | exact ⟨rfl, rfl, fun _ => rfl, Nat.le_of_ble_eq_true rfl, .inl rfl⟩ | exact ⟨rfl, rfl, fun h => (nomatch h), Nat.le_of_ble_eq_true rfl, .inl rfl⟩ | omega) (by simp +decide (disch := omega) only [nrm, lk_nrm, dc_nrm, mk_nrm, ti_nrm, ls_nrm, mp_nrm, nb_nrm, hset, pick_and, pick_or, reduceIte, Nat.reduceAdd, wI64, wI32, wI16, wI8, wU8]; rfl) ?_
  refine areg_go (by rfl) (by rfl) (by first | trivial | rfl | exact ⟨rfl, rfl, fun _ => rfl, Nat.le_of_ble_eq_true rfl, .inl rfl⟩ | exact ⟨rfl, rfl, fun h => (nomatch h), Nat.le_of_ble_eq_true rfl, .inl rfl⟩ | omega) (by simp +decide (disch := omega) only [nrm, lk_nrm, dc_nrm, mk_nrm, ti_nrm, ls_nrm, mp_nrm, nb_nrm, hset, pick_and, pick_or, reduceIte, Nat.reduceAdd, wI64, wI32, wI16, wI8, wU8]; rfl) ?_
  refine areg_go (by rfl) (by rfl) (by first | trivial | rfl | exact ⟨rfl, rfl, fun _ => rfl, Nat.le_of_ble_eq_true rfl, .inl rfl⟩ | exact ⟨rfl, rfl, fun h => (nomatch h), Nat.le_of_ble_eq_true rfl, .inl rfl⟩ | omega) (by simp +decide (disch := omega) only [nrm, lk_nrm, dc_nrm, mk_nrm, ti_nrm, ls_nrm, mp_nrm, nb_nrm, hset, pick_and, pick_or, reduceIte, Nat.reduceAdd, wI64, wI32, wI16, wI8, wU8]; rfl) ?_
  refine areg_gd rfl (by intro hb; simp +decide only [hb, gd_tt, gd_ff]; exact ⟨_, rfl, by first | trivial | rfl | exact ⟨rfl, rfl, fun _ => rfl, Nat.le_of_ble_eq_true rfl, .inl rfl⟩ | exact ⟨rfl, rfl, fun h => (nomatch h), Nat.le_of_ble_eq_true rfl, .inl rfl⟩ | omega⟩) (by simp +decide (disch := omega) only [nrm, lk_nrm, dc_nrm, mk_nrm, ti_nrm, ls_nrm, mp_nrm, nb_nrm, hset, pick_and, pick_or, reduceIte, Nat.reduceAdd, wI64, wI32, wI16, wI8, wU8]; rfl) ?_
  refine areg_gd rfl (by intro hb; simp +decide only [hb, gd_tt, gd_ff]; exact ⟨_, rfl, by first | trivial | rfl | exact ⟨rfl, rfl, fun _ => rfl, Nat.le_of_ble_eq_true rfl, .inl rfl⟩ | exact ⟨rfl, rfl, fun h => (nomatch h), Nat.le_of_ble_eq_true rfl, .inl rfl⟩ | omega⟩) (by simp +decide (disch := omega) only [nrm, lk_nrm, dc_nrm, mk_nrm, ti_nrm, ls_nrm, mp_nrm, nb_nrm, hset, pick_and, pick_or, reduceIte, Nat.reduceAdd, wI64, wI32, wI16, wI8, wU8]; rfl) ?_
  refine areg_gd rfl (by intro hb; simp +decide only [hb, gd_tt, gd_ff]; exact ⟨_, rfl, by first | trivial | rfl | exact ⟨rfl, rfl, fun _ => rfl, Nat.le_of_ble_eq_true rfl, .inl rfl⟩ | exact ⟨rfl, rfl, fun h => (nomatch h), Nat.le_of_ble_eq_true rfl, .inl rfl⟩ | omega⟩) (by simp +decide (disch := omega) only [nrm, lk_nrm, dc_nrm, mk_nrm, ti_nrm, ls_nrm, mp_nrm, nb_nrm, hset, pick_and, pick_or, reduceIte, Nat.reduceAdd, wI64, wI32, wI16, wI8, wU8]; rfl) ?_
  refine areg_go (by rfl) (by rfl) (by first | trivial | rfl | exact ⟨rfl, rfl, fun _ => rfl, Nat.le_of_ble_eq_true rfl, .inl rfl⟩ | exact ⟨rfl, rfl, fun h => (nomatch h), Nat.le_of_ble_eq_true rfl, .inl rfl⟩ | omega) (by simp +decide (disch := omega) only [nrm, lk_nrm, dc_nrm, mk_nrm, ti_nrm, ls_nrm, mp_nrm, nb_nrm, hset, pick_and, pick_or, reduceIte, Nat.reduceAdd, wI64, wI32, wI16, wI8, wU8]; rfl) ?_
  refine areg_go (by rfl) (by rfl) (by first | trivial | rfl | exact ⟨rfl, rfl, fun _ => rfl, Nat.le_of_ble_eq_true rfl, .inl rfl⟩ | exact ⟨rfl, rfl, fun h => (nomatch h), Nat.le_of_ble_eq_true rfl, .inl rfl⟩ | omega) (by simp +decide (disch := omega) only [nrm, lk_nrm, dc_nrm, mk_nrm, ti_nrm, ls_nrm, mp_nrm, nb_nrm, hset, pick_and, pick_or, reduceIte, Nat.reduceAdd, wI64, wI32, wI16, wI8, wU8]; rfl) ?_
  refine awp_ret ?_
  refine fin_mk [] rfl rfl ?_ trivial (by decide)
  rfl

def s30 : Spec (Int × Int × Int) where
  args := fun x => [.val (.int .i16 x.1), .val (.int .i16 x.2.1), .val (.int .i16 x.2.2)]
  res := fun x => .val (.bool (decide (x.2.1 ≤ x.1) && decide (x.1 ≤ x.2.2)))

set_option maxHeartbeats 400000 in
theorem ok30 : FnOk Pr 30 s30 := by
  refine fn_ok 3 0 T0_ok Go.Proofs.Try.func30 rfl (enters_of Go.Proofs.Try.func30 rfl rfl) (fun _ => rfl) (fun _ => rfl) (fun _ => rfl) ?_
  rintro ⟨n, lo, hi⟩ - C hP hN hm hG
  change awp C _ _ ⟨[(0, .val (.int .i16 n)), (1, .val (.int .i16 lo)), (2, .val (.int .i16 hi))], [], 0⟩
  refine awp_seq ?_
  refine awp_reg T0_ok hP hm hN _ rfl (by rfl) ?_
  refine areg_go (by rfl) (by rfl) (by first | trivial | rfl | exact ⟨rfl, rfl, fun _ => rfl, Nat.le_of_ble_eq_true rfl, .inl rfl⟩ | exact ⟨rfl, rfl, fun h => (nomatch h), Nat.le_of_ble_eq_true rfl, .inl rfl⟩ | omega) (by simp +decide (disch := omega) only [nrm, lk_nrm, dc_nrm, mk_nrm, ti_nrm, ls_nrm, mp_nrm, nb_nrm, hset, pick_and, pick_or, reduceIte, Nat.reduceAdd, wI64, wI32, wI16, wI8, wU8]; rfl) ?_
  refine awp_seq ?_
  refine awp_reg T0_ok hP hm hN _ rfl (by rfl) ?_
  refine areg_go (by rfl) (by rfl) (by first | trivial | rfl | exact ⟨rfl, rfl, fun _ => rfl, Nat.le_of_ble_eq_true rfl, .inl rfl⟩ | exact ⟨rfl, rfl, fun h => (nomatch h), Nat.le_of_ble_eq_true rfl, .inl rfl⟩ | omega) (by simp +decide (disch := omega) only [nrm, lk_nrm, dc_nrm, mk_nrm, ti_nrm, ls_nrm, mp_nrm, nb_nrm, hset, pick_and, pick_or, reduceIte, Nat.reduceAdd, wI64, wI32, wI16, wI8, wU8]; rfl) ?_
  refine areg_go (by rfl) (by rfl) (by first | trivial | rfl | exact ⟨rfl, rfl, fun _ => rfl, Nat.le_of_ble_eq_true rfl, .inl rfl⟩ | exact ⟨rfl, rfl, fun h => (nomatch h), Nat.le_of_ble_eq_true rfl, .inl rfl⟩ | omega) (by simp +decide (disch := omega) only [nrm, lk_nrm, dc_nrm, mk_nrm, ti_nrm, ls_nrm, mp_nrm, nb_nrm, hset, pick_and, pick_or, reduceIte, Nat.reduceAdd, wI64, wI32, wI16, wI8, wU8]; rfl) ?_
  refine areg_go (by rfl) (by rfl) (by first | trivial | rfl | exact ⟨rfl, rfl, fun _ => rfl, Nat.le_of_ble_eq_true rfl, .inl rfl⟩ | exact ⟨rfl, rfl, fun h => (nomatch h), Nat.le_of_ble_eq_true rfl, .inl rfl⟩ | omega) (by simp +decide (disch := omega) only [nrm, lk_nrm, dc_nrm, mk_nrm, ti_nrm, ls_nrm, mp_nrm, nb_nrm, hset, pick_and, pick_or, reduceIte, Nat.reduceAdd, wI64, wI32, wI16, wI8, wU8]; rfl) ?_
  refine areg_go (by rfl) (by rfl) (by first | trivial | rfl | exact ⟨rfl, rfl, fun _ => rfl, Nat.le_of_ble_eq_true rfl, .inl rfl⟩ | exact ⟨rfl, rfl, fun h => (nomatch h), Nat.le_of_ble_eq_true rfl, .inl rfl⟩ | omega) (by simp +decide (disch := omega) only [nrm, lk_nrm, dc_nrm, mk_nrm, ti_nrm, ls_nrm, mp_nrm, nb_nrm, hset, pick_and, pick_or, reduceIte, Nat.reduceAdd, wI64, wI32, wI16, wI8, wU8]; rfl) ?_
  refine areg_gd rfl (by intro hb; simp +decide only [hb, gd_tt, gd_ff]; exact ⟨_, rfl, by first | trivial | rfl | exact ⟨rfl, rfl, fun _ => rfl, Nat.le_of_ble_eq_true rfl, .inl rfl⟩ | exact ⟨rfl, rfl, fun h => (nomatch h), Nat.le_of_ble_eq_true rfl, .inl rfl⟩ | omega⟩) (by simp +decide (disch := omega) only [nrm, lk_nrm, dc_nrm, mk_nrm, ti_nrm, ls_nrm, mp_nrm, nb_nrm, hset, pick_and, pick_or, reduceIte, Nat.reduceAdd, wI64, wI32, wI16, wI8, wU8]; rfl) ?_
  refine areg_gd rfl (by intro hb; simp +decide only [hb, gd_tt, gd_ff]; exact ⟨_, rfl, by first | trivial | rfl | exact ⟨rfl, rfl, fun _ => rfl, Nat.le_of_ble_eq_true rfl, .inl rfl⟩ | exact ⟨rfl, rfl, fun h => (nomatch h), Nat.le_of_ble_eq_true rfl, .inl rfl⟩ | omega⟩) (by simp +decide (disch := omega) only [nrm, lk_nrm, dc_nrm, mk_nrm, ti_nrm, ls_nrm, mp_nrm, nb_nrm, hset, pick_and, pick_or, reduceIte, Nat.reduceAdd, wI64, wI32, wI16, wI8, wU8]; rfl) ?_
  refine areg_gd rfl (by intro hb; simp +decide only [hb, gd_tt, gd_ff]; exact ⟨_, rfl, by first | trivial | rfl | exact ⟨rfl, rfl, fun _ => rfl, Nat.le_of_ble_eq_true rfl, .inl rfl⟩ | exact ⟨rfl, rfl, fun h => (nomatch h), Nat.le_of_ble_eq_true rfl, .inl rfl⟩ | omega⟩) (by simp +decide (disch := omega) only [nrm, lk_nrm, dc_nrm, mk_nrm, ti_nrm, ls_nrm, mp_nrm, nb_nrm, hset, pick_and, pick_or, reduceIte, Nat.reduceAdd, wI64, wI32, wI16, wI8, wU8]; rfl) ?_
  refine areg_go (by rfl) (by rfl) (by first | trivial | rfl | exact ⟨rfl, rfl, fun _ => rfl, Nat.le_of_ble_eq_true rfl, .inl rfl⟩ | exact ⟨rfl, rfl, fun h => (nomatch h), Nat.le_of_ble_eq_true rfl, .inl rfl⟩ | omega) (by simp +decide (disch := omega) only [nrm, lk_nrm, dc_nrm, mk_nrm, ti_nrm, ls_nrm, mp_nrm, nb_nrm, hset, pick_and, pick_or, reduceIte, Nat.reduceAdd, wI64, wI32, wI16, wI8, wU8]; rfl) ?_
  refine areg_go (by rfl) (by rfl) (by first | trivial | rfl | exact ⟨rfl, rfl, fun _ => rfl, Nat.le_of_ble_eq_true rfl, .inl rfl⟩ | exact ⟨rfl, rfl, fun h => (nomatch h), Nat.le_of_ble_eq_true rfl, .inl rfl⟩ | omega) (by simp +decide (disch := omega) only [nrm, lk_nrm, dc_nrm, mk_nrm, ti_nrm, ls_nrm, mp_nrm, nb_nrm, hset, pick_and, pick_or, reduceIte, Nat.reduceAdd, wI64, wI32, wI16, wI8, wU8]; rfl) ?_
  refine awp_ret ?_
  refine fin_mk [] rfl rfl ?_ trivial (by decide)
  rfl

def inI (n lo hi : Int) : Bool := decide (lo ≤ n) && decide (n ≤ hi)
def pegsOk (a b c : Int) : Bool := (inI a 50 400 && inI b 1 100) && inI c 1 100
abbrev pegs (x : Int × Int × Int) : D := .val (.agg #[.int .i16 x.1, .int .i16 x.2.1, .int .i16 x.2.2])
abbrev isPegs (x : Int × Int × Int) : Prop := (-32768 ≤ x.1 ∧ x.1 ≤ 32767) ∧ (-32768 ≤ x.2.1 ∧ x.2.1 ≤ 32767) ∧ (-32768 ≤ x.2.2 ∧ x.2.2 ≤ 32767)

def s29 : Spec (Int × Int × Int) where
  args := fun x => [pegs x]
  pre := isPegs
  res := fun x => .val (.bool (pegsOk x.1 x.2.1 x.2.2))

set_option maxHeartbeats 400000 in
theorem ok29 : FnOk Pr 29 s29 := by
  refine fn_ok 1 0 T0_ok Go.Proofs.Try.func29 rfl (enters_of Go.Proofs.Try.func29 rfl rfl) (fun _ => rfl) (fun _ => rfl) (fun _ => rfl) ?_
  rintro ⟨a, b, c⟩ ⟨ha, hb, hc⟩ C hP hN hm hG
  change awp C _ _ ⟨[(0, .val (.agg #[.int .i16 a, .int .i16 b, .int .i16 c]))], [], 0⟩
  simp only at ha hb hc
  refine awp_seq ?_
  refine awp_reg T0_ok hP hm hN _ rfl (by rfl) ?_
  refine areg_go (by rfl) (by rfl) (by first | trivial | rfl | exact ⟨rfl, rfl, fun _ => rfl, Nat.le_of_ble_eq_true rfl, .inl rfl⟩ | exact ⟨rfl, rfl, fun h => (nomatch h), Nat.le_of_ble_eq_true rfl, .inl rfl⟩ | omega) (by simp +decide (disch := omega) only [nrm, lk_nrm, dc_nrm, mk_nrm, ti_nrm, ls_nrm, mp_nrm, nb_nrm, hset, pick_and, pick_or, reduceIte, Nat.reduceAdd, wI64, wI32, wI16, wI8, wU8]; rfl) ?_
  refine areg_go (by rfl) (by rfl) (by first | trivial | rfl | exact ⟨rfl, rfl, fun _ => rfl, Nat.le_of_ble_eq_true rfl, .inl rfl⟩ | exact ⟨rfl, rfl, fun h => (nomatch h), Nat.le_of_ble_eq_true rfl, .inl rfl⟩ | omega) (by simp +decide (disch := omega) only [nrm, lk_nrm, dc_nrm, mk_nrm, ti_nrm, ls_nrm, mp_nrm, nb_nrm, hset, pick_and, pick_or, reduceIte, Nat.reduceAdd, wI64, wI32, wI16, wI8, wU8]; rfl) ?_
  refine awp_seq ?_
  refine awp_reg T0_ok hP hm hN _ rfl (by rfl) ?_
  refine areg_go (by rfl) (by rfl) (by first | trivial | rfl | exact ⟨rfl, rfl, fun _ => rfl, Nat.le_of_ble_eq_true rfl, .inl rfl⟩ | exact ⟨rfl, rfl, fun h => (nomatch h), Nat.le_of_ble_eq_true rfl, .inl rfl⟩ | omega) (by simp +decide (disch := omega) only [nrm, lk_nrm, dc_nrm, mk_nrm, ti_nrm, ls_nrm, mp_nrm, nb_nrm, hset, pick_and, pick_or, reduceIte, Nat.reduceAdd, wI64, wI32, wI16, wI8, wU8]; rfl) ?_
  refine areg_go (by rfl) (by rfl) (by first | trivial | rfl | exact ⟨rfl, rfl, fun _ => rfl, Nat.le_of_ble_eq_true rfl, .inl rfl⟩ | exact ⟨rfl, rfl, fun h => (nomatch h), Nat.le_of_ble_eq_true rfl, .inl rfl⟩ | omega) (by simp +decide (disch := omega) only [nrm, lk_nrm, dc_nrm, mk_nrm, ti_nrm, ls_nrm, mp_nrm, nb_nrm, hset, pick_and, pick_or, reduceIte, Nat.reduceAdd, wI64, wI32, wI16, wI8, wU8]; rfl) ?_
  refine areg_go (by rfl) (by rfl) (by first | trivial | rfl | exact ⟨rfl, rfl, fun _ => rfl, Nat.le_of_ble_eq_true rfl, .inl rfl⟩ | exact ⟨rfl, rfl, fun h => (nomatch h), Nat.le_of_ble_eq_true rfl, .inl rfl⟩ | omega) (by simp +decide (disch := omega) only [nrm, lk_nrm, dc_nrm, mk_nrm, ti_nrm, ls_nrm, mp_nrm, nb_nrm, hset, pick_and, pick_or, reduceIte, Nat.reduceAdd, wI64, wI32, wI16, wI8, wU8]; rfl) ?_
  refine areg_call (by rfl) (OpRel.call' ok31 (_, _, _) [] (by decide) rfl rfl (by exact args_cons arga_val (args_cons arga_val (args_cons arga_val (args_nil)))) (by first | trivial | omega) trivial rfl rfl rfl (by intro o h; cases h)) (by simp +decide (disch := omega) only [nrm, lk_nrm, dc_nrm, mk_nrm, ti_nrm, ls_nrm, mp_nrm, nb_nrm, hset, pick_and, pick_or, reduceIte, Nat.reduceAdd, wI64, wI32, wI16, wI8, wU8, s31]; rfl) ?_
  refine areg_go (by rfl) (by rfl) (by first | trivial | rfl | exact ⟨rfl, rfl, fun _ => rfl, Nat.le_of_ble_eq_true rfl, .inl rfl⟩ | exact ⟨rfl, rfl, fun h => (nomatch h), Nat.le_of_ble_eq_true rfl, .inl rfl⟩ | omega) (by simp +decide (disch := omega) only [nrm, lk_nrm, dc_nrm, mk_nrm, ti_nrm, ls_nrm, mp_nrm, nb_nrm, hset, pick_and, pick_or, reduceIte, Nat.reduceAdd, wI64, wI32, wI16, wI8, wU8]; rfl) ?_
  refine areg_gd rfl (by intro hb; simp +decide only [hb, gd_tt, gd_ff]; exact ⟨_, rfl, by first | trivial | rfl | exact ⟨rfl, rfl, fun _ => rfl, Nat.le_of_ble_eq_true rfl, .inl rfl⟩ | exact ⟨rfl, rfl, fun h => (nomatch h), Nat.le_of_ble_eq_true rfl, .inl rfl⟩ | omega⟩) (by simp +decide (disch := omega) only [nrm, lk_nrm, dc_nrm, mk_nrm, ti_nrm, ls_nrm, mp_nrm, nb_nrm, hset, pick_and, pick_or, reduceIte, Nat.reduceAdd, wI64, wI32, wI16, wI8, wU8]; rfl) ?_
  refine areg_gd rfl (by intro hb; simp +decide only [hb, gd_tt, gd_ff]; exact ⟨_, rfl, by first | trivial | rfl | exact ⟨rfl, rfl, fun _ => rfl, Nat.le_of_ble_eq_true rfl, .inl rfl⟩ | exact ⟨rfl, rfl, fun h => (nomatch h), Nat.le_of_ble_eq_true rfl, .inl rfl⟩ | omega⟩) (by simp +decide (disch := omega) only [nrm, lk_nrm, dc_nrm, mk_nrm, ti_nrm, ls_nrm, mp_nrm, nb_nrm, hset, pick_and, pick_or, reduceIte, Nat.reduceAdd, wI64, wI32, wI16, wI8, wU8]; rfl) ?_
  refine areg_gd rfl (by intro hb; simp +decide only [hb, gd_tt, gd_ff]; exact ⟨_, rfl, by first | trivial | rfl | exact ⟨rfl, rfl, fun _ => rfl, Nat.le_of_ble_eq_true rfl, .inl rfl⟩ | exact ⟨rfl, rfl, fun h => (nomatch h), Nat.le_of_ble_eq_true rfl, .inl rfl⟩ | omega⟩) (by simp +decide (disch := omega) only [nrm, lk_nrm, dc_nrm, mk_nrm, ti_nrm, ls_nrm, mp_nrm, nb_nrm, hset, pick_and, pick_or, reduceIte, Nat.reduceAdd, wI64, wI32, wI16, wI8, wU8]; rfl) ?_
  refine areg_gd_call rfl (by intro hb; simp +decide only [hb, gd_tt, gd_ff]; exact ⟨rfl, _, OpRel.call' ok31 (_, _, _) [] (by decide) rfl rfl (by exact args_cons arga_val (args_cons arga_val (args_cons arga_val (args_nil)))) (by first | trivial | omega) trivial rfl rfl rfl (by intro o h; cases h), rfl, rfl, rfl⟩) (by simp +decide (disch := omega) only [nrm, lk_nrm, dc_nrm, mk_nrm, ti_nrm, ls_nrm, mp_nrm, nb_nrm, hset, pick_and, pick_or, reduceIte, Nat.reduceAdd, wI64, wI32, wI16, wI8, wU8, s31]; rfl) ?_
  refine areg_go (by rfl) (by rfl) (by first | trivial | rfl | exact ⟨rfl, rfl, fun _ => rfl, Nat.le_of_ble_eq_true rfl, .inl rfl⟩ | exact ⟨rfl, rfl, fun h => (nomatch h), Nat.le_of_ble_eq_true rfl, .inl rfl⟩ | omega) (by simp +decide (disch := omega) only [nrm, lk_nrm, dc_nrm, mk_nrm, ti_nrm, ls_nrm, mp_nrm, nb_nrm, hset, pick_and, pick_or, reduceIte, Nat.reduceAdd, wI64, wI32, wI16, wI8, wU8]; rfl) ?_
  refine areg_go (by rfl) (by rfl) (by first | trivial | rfl | exact ⟨rfl, rfl, fun _ => rfl, Nat.le_of_ble_eq_true rfl, .inl rfl⟩ | exact ⟨rfl, rfl, fun h => (nomatch h), Nat.le_of_ble_eq_true rfl, .inl rfl⟩ | omega) (by simp +decide (disch := omega) only [nrm, lk_nrm, dc_nrm, mk_nrm, ti_nrm, ls_nrm, mp_nrm, nb_nrm, hset, pick_and, pick_or, reduceIte, Nat.reduceAdd, wI64, wI32, wI16, wI8, wU8]; rfl) ?_
  refine areg_gd rfl (by intro hb; simp +decide only [hb, gd_tt, gd_ff]; exact ⟨_, rfl, by first | trivial | rfl | exact ⟨rfl, rfl, fun _ => rfl, Nat.le_of_ble_eq_true rfl, .inl rfl⟩ | exact ⟨rfl, rfl, fun h => (nomatch h), Nat.le_of_ble_eq_true rfl, .inl rfl⟩ | omega⟩) (by simp +decide (disch := omega) only [nrm, lk_nrm, dc_nrm, mk_nrm, ti_nrm, ls_nrm, mp_nrm, nb_nrm, hset, pick_and, pick_or, reduceIte, Nat.reduceAdd, wI64, wI32, wI16, wI8, wU8]; rfl) ?_
  refine areg_gd rfl (by intro hb; simp +decide only [hb, gd_tt, gd_ff]; exact ⟨_, rfl, by first | trivial | rfl | exact ⟨rfl, rfl, fun _ => rfl, Nat.le_of_ble_eq_true rfl, .inl rfl⟩ | exact ⟨rfl, rfl, fun h => (nomatch h), Nat.le_of_ble_eq_true rfl, .inl rfl⟩ | omega⟩) (by simp +decide (disch := omega) only [nrm, lk_nrm, dc_nrm, mk_nrm, ti_nrm, ls_nrm, mp_nrm, nb_nrm, hset, pick_and, pick_or, reduceIte, Nat.reduceAdd, wI64, wI32, wI16, wI8, wU8]; rfl) ?_
  refine areg_gd rfl (by intro hb; simp +decide only [hb, gd_tt, gd_ff]; exact ⟨_, rfl, by first | trivial | rfl | exact ⟨rfl, rfl, fun _ => rfl, Nat.le_of_ble_eq_true rfl, .inl rfl⟩ | exact ⟨rfl, rfl, fun h => (nomatch h), Nat.le_of_ble_eq_true rfl, .inl rfl⟩ | omega⟩) (by simp +decide (disch := omega) only [nrm, lk_nrm, dc_nrm, mk_nrm, ti_nrm, ls_nrm, mp_nrm, nb_nrm, hset, pick_and, pick_or, reduceIte, Nat.reduceAdd, wI64, wI32, wI16, wI8, wU8]; rfl) ?_
  refine areg_gd_call rfl (by intro hb; simp +decide only [hb, gd_tt, gd_ff]; exact ⟨rfl, _, OpRel.call' ok31 (_, _, _) [] (by decide) rfl rfl (by exact args_cons arga_val (args_cons arga_val (args_cons arga_val (args_nil)))) (by first | trivial | omega) trivial rfl rfl rfl (by intro o h; cases h), rfl, rfl, rfl⟩) (by simp +decide (disch := omega) only [nrm, lk_nrm, dc_nrm, mk_nrm, ti_nrm, ls_nrm, mp_nrm, nb_nrm, hset, pick_and, pick_or, reduceIte, Nat.reduceAdd, wI64, wI32, wI16, wI8, wU8, s31]; rfl) ?_
  refine areg_go (by rfl) (by rfl) (by first | trivial | rfl | exact ⟨rfl, rfl, fun _ => rfl, Nat.le_of_ble_eq_true rfl, .inl rfl⟩ | exact ⟨rfl, rfl, fun h => (nomatch h), Nat.le_of_ble_eq_true rfl, .inl rfl⟩ | omega) (by simp +decide (disch := omega) only [nrm, lk_nrm, dc_nrm, mk_nrm, ti_nrm, ls_nrm, mp_nrm, nb_nrm, hset, pick_and, pick_or, reduceIte, Nat.reduceAdd, wI64, wI32, wI16, wI8, wU8]; rfl) ?_
  refine areg_go (by rfl) (by rfl) (by first | trivial | rfl | exact ⟨rfl, rfl, fun _ => rfl, Nat.le_of_ble_eq_true rfl, .inl rfl⟩ | exact ⟨rfl, rfl, fun h => (nomatch h), Nat.le_of_ble_eq_true rfl, .inl rfl⟩ | omega) (by simp +decide (disch := omega) only [nrm, lk_nrm, dc_nrm, mk_nrm, ti_nrm, ls_nrm, mp_nrm, nb_nrm, hset, pick_and, pick_or, reduceIte, Nat.reduceAdd, wI64, wI32, wI16, wI8, wU8]; rfl) ?_
  refine awp_ret ?_
  refine fin_mk [] rfl rfl ?_ trivial (by decide)
  rfl

def s9 : Spec (Int × Int × Int) where
  args := fun x => [pegs x]
  pre := isPegs
  res := fun x => .val (.bool (pegsOk x.1 x.2.1 x.2.2))

set_option maxHeartbeats 400000 in
theorem ok9 : FnOk Pr 9 s9 := by
  refine fn_ok 1 0 T0_ok Go.Proofs.Try.func9 rfl (enters_of Go.Proofs.Try.func9 rfl rfl) (fun _ => rfl) (fun _ => rfl) (fun _ => rfl) ?_
  rintro ⟨a, b, c⟩ ⟨ha, hb, hc⟩ C hP hN hm hG
  change awp C _ _ ⟨[(0, .val (.agg #[.int .i16 a, .int .i16 b, .int .i16 c]))], [], 0⟩
  simp only at ha hb hc
  refine awp_seq ?_
  refine awp_reg T0_ok hP hm hN _ rfl (by rfl) ?_
  refine areg_go (by rfl) (by rfl) (by first | trivial | rfl | exact ⟨rfl, rfl, fun _ => rfl, Nat.le_of_ble_eq_true rfl, .inl rfl⟩ | exact ⟨rfl, rfl, fun h => (nomatch h), Nat.le_of_ble_eq_true rfl, .inl rfl⟩ | omega) (by simp +decide (disch := omega) only [nrm, lk_nrm, dc_nrm, mk_nrm, ti_nrm, ls_nrm, mp_nrm, nb_nrm, hset, pick_and, pick_or, reduceIte, Nat.reduceAdd, wI64, wI32, wI16, wI8, wU8]; rfl) ?_
  refine areg_go (by rfl) (by rfl) (by first | trivial | rfl | exact ⟨rfl, rfl, fun _ => rfl, Nat.le_of_ble_eq_true rfl, .inl rfl⟩ | exact ⟨rfl, rfl, fun h => (nomatch h), Nat.le_of_ble_eq_true rfl, .inl rfl⟩ | omega) (by simp +decide (disch := omega) only [nrm, lk_nrm, dc_nrm, mk_nrm, ti_nrm, ls_nrm, mp_nrm, nb_nrm, hset, pick_and, pick_or, reduceIte, Nat.reduceAdd, wI64, wI32, wI16, wI8, wU8]; rfl) ?_
  refine awp_seq ?_
  refine awp_reg T0_ok hP hm hN _ rfl (by rfl) ?_
  refine areg_go (by rfl) (by rfl) (by first | trivial | rfl | exact ⟨rfl, rfl, fun _ => rfl, Nat.le_of_ble_eq_true rfl, .inl rfl⟩ | exact ⟨rfl, rfl, fun h => (nomatch h), Nat.le_of_ble_eq_true rfl, .inl rfl⟩ | omega) (by simp +decide (disch := omega) only [nrm, lk_nrm, dc_nrm, mk_nrm, ti_nrm, ls_nrm, mp_nrm, nb_nrm, hset, pick_and, pick_or, reduceIte, Nat.reduceAdd, wI64, wI32, wI16, wI8, wU8]; rfl) ?_
  refine areg_call (by rfl) (OpRel.call' ok29 (_, _, _) [] (by decide) rfl rfl (by exact args_cons arga_val (args_nil)) (by first | trivial | exact ⟨ha, hb, hc⟩) trivial rfl rfl rfl (by intro o h; cases h)) (by simp +decide (disch := omega) only [nrm, lk_nrm, dc_nrm, mk_nrm, ti_nrm, ls_nrm, mp_nrm, nb_nrm, hset, pick_and, pick_or, reduceIte, Nat.reduceAdd, wI64, wI32, wI16, wI8, wU8, s29]; rfl) ?_
  refine areg_go (by rfl) (by rfl) (by first | trivial | rfl | exact ⟨rfl, rfl, fun _ => rfl, Nat.le_of_ble_eq_true rfl, .inl rfl⟩ | exact ⟨rfl, rfl, fun h => (nomatch h), Nat.le_of_ble_eq_true rfl, .inl rfl⟩ | omega) (by simp +decide (disch := omega) only [nrm, lk_nrm, dc_nrm, mk_nrm, ti_nrm, ls_nrm, mp_nrm, nb_nrm, hset, pick_and, pick_or, reduceIte, Nat.reduceAdd, wI64, wI32, wI16, wI8, wU8]; rfl) ?_
  refine awp_ret ?_
  refine fin_mk [] rfl rfl ?_ trivial (by decide)
  rfl

def s11 : Spec (Int × Int × Int) where
  args := fun x => [pegs x]
  pre := isPegs
  res := fun x => .val (.bool (pegsOk x.1 x.2.1 x.2.2))

set_option maxHeartbeats 400000 in
theorem ok11 : FnOk Pr 11 s11 := by
  refine fn_ok 1 0 T0_ok Go.Proofs.Try.func11 rfl (enters_of Go.Proofs.Try.func11 rfl rfl) (fun _ => rfl) (fun _ => rfl) (fun _ => rfl) ?_
  rintro ⟨a, b, c⟩ ⟨ha, hb, hc⟩ C hP hN hm hG
  change awp C _ _ ⟨[(0, .val (.agg #[.int .i16 a, .int .i16 b, .int .i16 c]))], [], 0⟩
  simp only at ha hb hc
  refine awp_seq ?_
  refine awp_reg T0_ok hP hm hN _ rfl (by rfl) ?_
  refine areg_go (by rfl) (by rfl) (by first | trivial | rfl | exact ⟨rfl, rfl, fun _ => rfl, Nat.le_of_ble_eq_true rfl, .inl rfl⟩ | exact ⟨rfl, rfl, fun h => (nomatch h), Nat.le_of_ble_eq_true rfl, .inl rfl⟩ | omega) (by simp +decide (disch := omega) only [nrm, lk_nrm, dc_nrm, mk_nrm, ti_nrm, ls_nrm, mp_nrm, nb_nrm, hset, pick_and, pick_or, reduceIte, Nat.reduceAdd, wI64, wI32, wI16, wI8, wU8]; rfl) ?_
  refine areg_go (by rfl) (by rfl) (by first | trivial | rfl | exact ⟨rfl, rfl, fun _ => rfl, Nat.le_of_ble_eq_true rfl, .inl rfl⟩ | exact ⟨rfl, rfl, fun h => (nomatch h), Nat.le_of_ble_eq_true rfl, .inl rfl⟩ | omega) (by simp +decide (disch := omega) only [nrm, lk_nrm, dc_nrm, mk_nrm, ti_nrm, ls_nrm, mp_nrm, nb_nrm, hset, pick_and, pick_or, reduceIte, Nat.reduceAdd, wI64, wI32, wI16, wI8, wU8]; rfl) ?_
  refine awp_seq ?_
  refine awp_reg T0_ok hP hm hN _ rfl (by rfl) ?_
  refine areg_go (by rfl) (by rfl) (by first | trivial | rfl | exact ⟨rfl, rfl, fun _ => rfl, Nat.le_of_ble_eq_true rfl, .inl rfl⟩ | exact ⟨rfl, rfl, fun h => (nomatch h), Nat.le_of_ble_eq_true rfl, .inl rfl⟩ | omega) (by simp +decide (disch := omega) only [nrm, lk_nrm, dc_nrm, mk_nrm, ti_nrm, ls_nrm, mp_nrm, nb_nrm, hset, pick_and, pick_or, reduceIte, Nat.reduceAdd, wI64, wI32, wI16, wI8, wU8]; rfl) ?_
  refine areg_go (by rfl) (by rfl) (by first | trivial | rfl | exact ⟨rfl, rfl, fun _ => rfl, Nat.le_of_ble_eq_true rfl, .inl rfl⟩ | exact ⟨rfl, rfl, fun h => (nomatch h), Nat.le_of_ble_eq_true rfl, .inl rfl⟩ | omega) (by simp +decide (disch := omega) only [nrm, lk_nrm, dc_nrm, mk_nrm, ti_nrm, ls_nrm, mp_nrm, nb_nrm, hset, pick_and, pick_or, reduceIte, Nat.reduceAdd, wI64, wI32, wI16, wI8, wU8]; rfl) ?_
  refine areg_call (by rfl) (OpRel.call' ok30 (_, _, _) [] (by decide) rfl rfl (by exact args_cons arga_val (args_cons arga_val (args_cons arga_val (args_nil)))) (by first | trivial | omega) trivial rfl rfl rfl (by intro o h; cases h)) (by simp +decide (disch := omega) only [nrm, lk_nrm, dc_nrm, mk_nrm, ti_nrm, ls_nrm, mp_nrm, nb_nrm, hset, pick_and, pick_or, reduceIte, Nat.reduceAdd, wI64, wI32, wI16, wI8, wU8, s30]; rfl) ?_
  refine areg_go (by rfl) (by rfl) (by first | trivial | rfl | exact ⟨rfl, rfl, fun _ => rfl, Nat.le_of_ble_eq_true rfl, .inl rfl⟩ | exact ⟨rfl, rfl, fun h => (nomatch h), Nat.le_of_ble_eq_true rfl, .inl rfl⟩ | omega) (by simp +decide (disch := omega) only [nrm, lk_nrm, dc_nrm, mk_nrm, ti_nrm, ls_nrm, mp_nrm, nb_nrm, hset, pick_and, pick_or, reduceIte, Nat.reduceAdd, wI64, wI32, wI16, wI8, wU8]; rfl) ?_
  refine areg_gd rfl (by intro hb; simp +decide only [hb, gd_tt, gd_ff]; exact ⟨_, rfl, by first | trivial | rfl | exact ⟨rfl, rfl, fun _ => rfl, Nat.le_of_ble_eq_true rfl, .inl rfl⟩ | exact ⟨rfl, rfl, fun h => (nomatch h), Nat.le_of_ble_eq_true rfl, .inl rfl⟩ | omega⟩) (by simp +decide (disch := omega) only [nrm, lk_nrm, dc_nrm, mk_nrm, ti_nrm, ls_nrm, mp_nrm, nb_nrm, hset, pick_and, pick_or, reduceIte, Nat.reduceAdd, wI64, wI32, wI16, wI8, wU8]; rfl) ?_
  refine areg_gd rfl (by intro hb; simp +decide only [hb, gd_tt, gd_ff]; exact ⟨_, rfl, by first | trivial | rfl | exact ⟨rfl, rfl, fun _ => rfl, Nat.le_of_ble_eq_true rfl, .inl rfl⟩ | exact ⟨rfl, rfl, fun h => (nomatch h), Nat.le_of_ble_eq_true rfl, .inl rfl⟩ | omega⟩) (by simp +decide (disch := omega) only [nrm, lk_nrm, dc_nrm, mk_nrm, ti_nrm, ls_nrm, mp_nrm, nb_nrm, hset, pick_and, pick_or, reduceIte, Nat.reduceAdd, wI64, wI32, wI16, wI8, wU8]; rfl) ?_
  refine areg_gd_call rfl (by intro hb; simp +decide only [hb, gd_tt, gd_ff]; exact ⟨rfl, _, OpRel.call' ok30 (_, _, _) [] (by decide) rfl rfl (by exact args_cons arga_val (args_cons arga_val (args_cons arga_val (args_nil)))) (by first | trivial | omega) trivial rfl rfl rfl (by intro o h; cases h), rfl, rfl, rfl⟩) (by simp +decide (disch := omega) only [nrm, lk_nrm, dc_nrm, mk_nrm, ti_nrm, ls_nrm, mp_nrm, nb_nrm, hset, pick_and, pick_or, reduceIte, Nat.reduceAdd, wI64, wI32, wI16, wI8, wU8, s30]; rfl) ?_
  refine areg_go (by rfl) (by rfl) (by first | trivial | rfl | exact ⟨rfl, rfl, fun _ => rfl, Nat.le_of_ble_eq_true rfl, .inl rfl⟩ | exact ⟨rfl, rfl, fun h => (nomatch h), Nat.le_of_ble_eq_true rfl, .inl rfl⟩ | omega) (by simp +decide (disch := omega) only [nrm, lk_nrm, dc_nrm, mk_nrm, ti_nrm, ls_nrm, mp_nrm, nb_nrm, hset, pick_and, pick_or, reduceIte, Nat.reduceAdd, wI64, wI32, wI16, wI8, wU8]; rfl) ?_
  refine areg_go (by rfl) (by rfl) (by first | trivial | rfl | exact ⟨rfl, rfl, fun _ => rfl, Nat.le_of_ble_eq_true rfl, .inl rfl⟩ | exact ⟨rfl, rfl, fun h => (nomatch h), Nat.le_of_ble_eq_true rfl, .inl rfl⟩ | omega) (by simp +decide (disch := omega) only [nrm, lk_nrm, dc_nrm, mk_nrm, ti_nrm, ls_nrm, mp_nrm, nb_nrm, hset, pick_and, pick_or, reduceIte, Nat.reduceAdd, wI64, wI32, wI16, wI8, wU8]; rfl) ?_
  refine areg_gd rfl (by intro hb; simp +decide only [hb, gd_tt, gd_ff]; exact ⟨_, rfl, by first | trivial | rfl | exact ⟨rfl, rfl, fun _ => rfl, Nat.le_of_ble_eq_true rfl, .inl rfl⟩ | exact ⟨rfl, rfl, fun h => (nomatch h), Nat.le_of_ble_eq_true rfl, .inl rfl⟩ | omega⟩) (by simp +decide (disch := omega) only [nrm, lk_nrm, dc_nrm, mk_nrm, ti_nrm, ls_nrm, mp_nrm, nb_nrm, hset, pick_and, pick_or, reduceIte, Nat.reduceAdd, wI64, wI32, wI16, wI8, wU8]; rfl) ?_
  refine areg_gd rfl (by intro hb; simp +decide only [hb, gd_tt, gd_ff]; exact ⟨_, rfl, by first | trivial | rfl | exact ⟨rfl, rfl, fun _ => rfl, Nat.le_of_ble_eq_true rfl, .inl rfl⟩ | exact ⟨rfl, rfl, fun h => (nomatch h), Nat.le_of_ble_eq_true rfl, .inl rfl⟩ | omega⟩) (by simp +decide (disch := omega) only [nrm, lk_nrm, dc_nrm, mk_nrm, ti_nrm, ls_nrm, mp_nrm, nb_nrm, hset, pick_and, pick_or, reduceIte, Nat.reduceAdd, wI64, wI32, wI16, wI8, wU8]; rfl) ?_
  refine areg_gd_call rfl (by intro hb; simp +decide only [hb, gd_tt, gd_ff]; exact ⟨rfl, _, OpRel.call' ok30 (_, _, _) [] (by decide) rfl rfl (by exact args_cons arga_val (args_cons arga_val (args_cons arga_val (args_nil)))) (by first | trivial | omega) trivial rfl rfl rfl (by intro o h; cases h), rfl, rfl, rfl⟩) (by simp +decide (disch := omega) only [nrm, lk_nrm, dc_nrm, mk_nrm, ti_nrm, ls_nrm, mp_nrm, nb_nrm, hset, pick_and, pick_or, reduceIte, Nat.reduceAdd, wI64, wI32, wI16, wI8, wU8, s30]; rfl) ?_
  refine areg_go (by rfl) (by rfl) (by first | trivial | rfl | exact ⟨rfl, rfl, fun _ => rfl, Nat.le_of_ble_eq_true rfl, .inl rfl⟩ | exact ⟨rfl, rfl, fun h => (nomatch h), Nat.le_of_ble_eq_true rfl, .inl rfl⟩ | omega) (by simp +decide (disch := omega) only [nrm, lk_nrm, dc_nrm, mk_nrm, ti_nrm, ls_nrm, mp_nrm, nb_nrm, hset, pick_and, pick_or, reduceIte, Nat.reduceAdd, wI64, wI32, wI16, wI8, wU8]; rfl) ?_
  refine areg_go (by rfl) (by rfl) (by first | trivial | rfl | exact ⟨rfl, rfl, fun _ => rfl, Nat.le_of_ble_eq_true rfl, .inl rfl⟩ | exact ⟨rfl, rfl, fun h => (nomatch h), Nat.le_of_ble_eq_true rfl, .inl rfl⟩ | omega) (by simp +decide (disch := omega) only [nrm, lk_nrm, dc_nrm, mk_nrm, ti_nrm, ls_nrm, mp_nrm, nb_nrm, hset, pick_and, pick_or, reduceIte, Nat.reduceAdd, wI64, wI32, wI16, wI8, wU8]; rfl) ?_
  refine awp_ret ?_
  refine fin_mk [] rfl rfl ?_ trivial (by decide)
  rfl

def s10 : Spec (Int × Int × Int) where
  args := fun x => [pegs x]
  pre := isPegs
  res := fun x => pegs x

set_option maxHeartbeats 400000 in
theorem ok10 : FnOk Pr 10 s10 := by
  refine fn_ok 1 0 T0_ok Go.Proofs.Try.func10 rfl (enters_of Go.Proofs.Try.func10 rfl rfl) (fun _ => rfl) (fun _ => rfl) (fun _ => rfl) ?_
  rintro ⟨a, b, c⟩ ⟨ha, hb, hc⟩ C hP hN hm hG
  change awp C _ _ ⟨[(0, .val (.agg #[.int .i16 a, .int .i16 b, .int .i16 c]))], [], 0⟩
  simp only at ha hb hc
  refine awp_seq ?_
  refine awp_reg T0_ok hP hm hN _ rfl (by rfl) ?_
  refine areg_go (by rfl) (by rfl) (by first | trivial | rfl | exact ⟨rfl, rfl, fun _ => rfl, Nat.le_of_ble_eq_true rfl, .inl rfl⟩ | exact ⟨rfl, rfl, fun h => (nomatch h), Nat.le_of_ble_eq_true rfl, .inl rfl⟩ | omega) (by simp +decide (disch := omega) only [nrm, lk_nrm, dc_nrm, mk_nrm, ti_nrm, ls_nrm, mp_nrm, nb_nrm, hset, pick_and, pick_or, reduceIte, Nat.reduceAdd, wI64, wI32, wI16, wI8, wU8]; rfl) ?_
  refine areg_go (by rfl) (by rfl) (by first | trivial | rfl | exact ⟨rfl, rfl, fun _ => rfl, Nat.le_of_ble_eq_true rfl, .inl rfl⟩ | exact ⟨rfl, rfl, fun h => (nomatch h), Nat.le_of_ble_eq_true rfl, .inl rfl⟩ | omega) (by simp +decide (disch := omega) only [nrm, lk_nrm, dc_nrm, mk_nrm, ti_nrm, ls_nrm, mp_nrm, nb_nrm, hset, pick_and, pick_or, reduceIte, Nat.reduceAdd, wI64, wI32, wI16, wI8, wU8]; rfl) ?_
  refine awp_seq ?_
  refine awp_reg T0_ok hP hm hN _ rfl (by rfl) ?_
  refine areg_go (by rfl) (by rfl) (by first | trivial | rfl | exact ⟨rfl, rfl, fun _ => rfl, Nat.le_of_ble_eq_true rfl, .inl rfl⟩ | exact ⟨rfl, rfl, fun h => (nomatch h), Nat.le_of_ble_eq_true rfl, .inl rfl⟩ | omega) (by simp +decide (disch := omega) only [nrm, lk_nrm, dc_nrm, mk_nrm, ti_nrm, ls_nrm, mp_nrm, nb_nrm, hset, pick_and, pick_or, reduceIte, Nat.reduceAdd, wI64, wI32, wI16, wI8, wU8]; rfl) ?_
  refine awp_seq ?_
  refine awp_reg T0_ok hP hm hN _ rfl (by rfl) ?_
  refine areg_go (by rfl) (by rfl) (by first | trivial | rfl | exact ⟨rfl, rfl, fun _ => rfl, Nat.le_of_ble_eq_true rfl, .inl rfl⟩ | exact ⟨rfl, rfl, fun h => (nomatch h), Nat.le_of_ble_eq_true rfl, .inl rfl⟩ | omega) (by simp +decide (disch := omega) only [nrm, lk_nrm, dc_nrm, mk_nrm, ti_nrm, ls_nrm, mp_nrm, nb_nrm, hset, pick_and, pick_or, reduceIte, Nat.reduceAdd, wI64, wI32, wI16, wI8, wU8]; rfl) ?_
  refine areg_go (by rfl) (by rfl) (by first | trivial | rfl | exact ⟨rfl, rfl, fun _ => rfl, Nat.le_of_ble_eq_true rfl, .inl rfl⟩ | exact ⟨rfl, rfl, fun h => (nomatch h), Nat.le_of_ble_eq_true rfl, .inl rfl⟩ | omega) (by simp +decide (disch := omega) only [nrm, lk_nrm, dc_nrm, mk_nrm, ti_nrm, ls_nrm, mp_nrm, nb_nrm, hset, pick_and, pick_or, reduceIte, Nat.reduceAdd, wI64, wI32, wI16, wI8, wU8]; rfl) ?_
  refine areg_go (by rfl) (by rfl) (by first | trivial | rfl | exact ⟨rfl, rfl, fun _ => rfl, Nat.le_of_ble_eq_true rfl, .inl rfl⟩ | exact ⟨rfl, rfl, fun h => (nomatch h), Nat.le_of_ble_eq_true rfl, .inl rfl⟩ | omega) (by simp +decide (disch := omega) only [nrm, lk_nrm, dc_nrm, mk_nrm, ti_nrm, ls_nrm, mp_nrm, nb_nrm, hset, pick_and, pick_or, reduceIte, Nat.reduceAdd, wI64, wI32, wI16, wI8, wU8]; rfl) ?_
  refine areg_go (by rfl) (by rfl) (by first | trivial | rfl | exact ⟨rfl, rfl, fun _ => rfl, Nat.le_of_ble_eq_true rfl, .inl rfl⟩ | exact ⟨rfl, rfl, fun h => (nomatch h), Nat.le_of_ble_eq_true rfl, .inl rfl⟩ | omega) (by simp +decide (disch := omega) only [nrm, lk_nrm, dc_nrm, mk_nrm, ti_nrm, ls_nrm, mp_nrm, nb_nrm, hset, pick_and, pick_or, reduceIte, Nat.reduceAdd, wI64, wI32, wI16, wI8, wU8]; rfl) ?_
  refine awp_seq ?_
  refine awp_reg T0_ok hP hm hN _ rfl (by rfl) ?_
  refine areg_go (by rfl) (by rfl) (by first | trivial | rfl | exact ⟨rfl, rfl, fun _ => rfl, Nat.le_of_ble_eq_true rfl, .inl rfl⟩ | exact ⟨rfl, rfl, fun h => (nomatch h), Nat.le_of_ble_eq_true rfl, .inl rfl⟩ | omega) (by simp +decide (disch := omega) only [nrm, lk_nrm, dc_nrm, mk_nrm, ti_nrm, ls_nrm, mp_nrm, nb_nrm, hset, pick_and, pick_or, reduceIte, Nat.reduceAdd, wI64, wI32, wI16, wI8, wU8]; rfl) ?_
  refine areg_go (by rfl) (by rfl) (by first | trivial | rfl | exact ⟨rfl, rfl, fun _ => rfl, Nat.le_of_ble_eq_true rfl, .inl rfl⟩ | exact ⟨rfl, rfl, fun h => (nomatch h), Nat.le_of_ble_eq_true rfl, .inl rfl⟩ | omega) (by simp +decide (disch := omega) only [nrm, lk_nrm, dc_nrm, mk_nrm, ti_nrm, ls_nrm, mp_nrm, nb_nrm, hset, pick_and, pick_or, reduceIte, Nat.reduceAdd, wI64, wI32, wI16, wI8, wU8]; rfl) ?_
  refine areg_go (by rfl) (by rfl) (by first | trivial | rfl | exact ⟨rfl, rfl, fun _ => rfl, Nat.le_of_ble_eq_true rfl, .inl rfl⟩ | exact ⟨rfl, rfl, fun h => (nomatch h), Nat.le_of_ble_eq_true rfl, .inl rfl⟩ | omega) (by simp +decide (disch := omega) only [nrm, lk_nrm, dc_nrm, mk_nrm, ti_nrm, ls_nrm, mp_nrm, nb_nrm, hset, pick_and, pick_or, reduceIte, Nat.reduceAdd, wI64, wI32, wI16, wI8, wU8]; rfl) ?_
  refine areg_go (by rfl) (by rfl) (by first | trivial | rfl | exact ⟨rfl, rfl, fun _ => rfl, Nat.le_of_ble_eq_true rfl, .inl rfl⟩ | exact ⟨rfl, rfl, fun h => (nomatch h), Nat.le_of_ble_eq_true rfl, .inl rfl⟩ | omega) (by simp +decide (disch := omega) only [nrm, lk_nrm, dc_nrm, mk_nrm, ti_nrm, ls_nrm, mp_nrm, nb_nrm, hset, pick_and, pick_or, reduceIte, Nat.reduceAdd, wI64, wI32, wI16, wI8, wU8]; rfl) ?_
  refine awp_seq ?_
  refine awp_reg T0_ok hP hm hN _ rfl (by rfl) ?_
  refine areg_go (by rfl) (by rfl) (by first | trivial | rfl | exact ⟨rfl, rfl, fun _ => rfl, Nat.le_of_ble_eq_true rfl, .inl rfl⟩ | exact ⟨rfl, rfl, fun h => (nomatch h), Nat.le_of_ble_eq_true rfl, .inl rfl⟩ | omega) (by simp +decide (disch := omega) only [nrm, lk_nrm, dc_nrm, mk_nrm, ti_nrm, ls_nrm, mp_nrm, nb_nrm, hset, pick_and, pick_or, reduceIte, Nat.reduceAdd, wI64, wI32, wI16, wI8, wU8]; rfl) ?_
  refine areg_go (by rfl) (by rfl) (by first | trivial | rfl | exact ⟨rfl, rfl, fun _ => rfl, Nat.le_of_ble_eq_true rfl, .inl rfl⟩ | exact ⟨rfl, rfl, fun h => (nomatch h), Nat.le_of_ble_eq_true rfl, .inl rfl⟩ | omega) (by simp +decide (disch := omega) only [nrm, lk_nrm, dc_nrm, mk_nrm, ti_nrm, ls_nrm, mp_nrm, nb_nrm, hset, pick_and, pick_or, reduceIte, Nat.reduceAdd, wI64, wI32, wI16, wI8, wU8]; rfl) ?_
  refine areg_go (by rfl) (by rfl) (by first | trivial | rfl | exact ⟨rfl, rfl, fun _ => rfl, Nat.le_of_ble_eq_true rfl, .inl rfl⟩ | exact ⟨rfl, rfl, fun h => (nomatch h), Nat.le_of_ble_eq_true rfl, .inl rfl⟩ | omega) (by simp +decide (disch := omega) only [nrm, lk_nrm, dc_nrm, mk_nrm, ti_nrm, ls_nrm, mp_nrm, nb_nrm, hset, pick_and, pick_or, reduceIte, Nat.reduceAdd, wI64, wI32, wI16, wI8, wU8]; rfl) ?_
  refine areg_go (by rfl) (by rfl) (by first | trivial | rfl | exact ⟨rfl, rfl, fun _ => rfl, Nat.le_of_ble_eq_true rfl, .inl rfl⟩ | exact ⟨rfl, rfl, fun h => (nomatch h), Nat.le_of_ble_eq_true rfl, .inl rfl⟩ | omega) (by simp +decide (disch := omega) only [nrm, lk_nrm, dc_nrm, mk_nrm, ti_nrm, ls_nrm, mp_nrm, nb_nrm, hset, pick_and, pick_or, reduceIte, Nat.reduceAdd, wI64, wI32, wI16, wI8, wU8]; rfl) ?_
  refine awp_seq ?_
  refine awp_reg T0_ok hP hm hN _ rfl (by rfl) ?_
  refine areg_go (by rfl) (by rfl) (by first | trivial | rfl | exact ⟨rfl, rfl, fun _ => rfl, Nat.le_of_ble_eq_true rfl, .inl rfl⟩ | exact ⟨rfl, rfl, fun h => (nomatch h), Nat.le_of_ble_eq_true rfl, .inl rfl⟩ | omega) (by simp +decide (disch := omega) only [nrm, lk_nrm, dc_nrm, mk_nrm, ti_nrm, ls_nrm, mp_nrm, nb_nrm, hset, pick_and, pick_or, reduceIte, Nat.reduceAdd, wI64, wI32, wI16, wI8, wU8]; rfl) ?_
  refine areg_go (by rfl) (by rfl) (by first | trivial | rfl | exact ⟨rfl, rfl, fun _ => rfl, Nat.le_of_ble_eq_true rfl, .inl rfl⟩ | exact ⟨rfl, rfl, fun h => (nomatch h), Nat.le_of_ble_eq_true rfl, .inl rfl⟩ | omega) (by simp +decide (disch := omega) only [nrm, lk_nrm, dc_nrm, mk_nrm, ti_nrm, ls_nrm, mp_nrm, nb_nrm, hset, pick_and, pick_or, reduceIte, Nat.reduceAdd, wI64, wI32, wI16, wI8, wU8]; rfl) ?_
  refine awp_ret ?_
  refine fin_mk [] rfl rfl ?_ trivial (by decide)
  rfl

def s3 : Spec (Int × Int × Int) where
  args := fun x => [pegs x]
  pre := isPegs
  res := fun x => .val (.bool true)

set_option maxHeartbeats 400000 in
theorem ok3 : FnOk Pr 3 s3 := by
  refine fn_ok 1 0 T0_ok Go.Proofs.Try.func3 rfl (enters_of Go.Proofs.Try.func3 rfl rfl) (fun _ => rfl) (fun _ => rfl) (fun _ => rfl) ?_
  rintro ⟨a, b, c⟩ ⟨ha, hb, hc⟩ C hP hN hm hG
  change awp C _ _ ⟨[(0, .val (.agg #[.int .i16 a, .int .i16 b, .int .i16 c]))], [], 0⟩
  simp only at ha hb hc
  refine awp_seq ?_
  refine awp_reg T0_ok hP hm hN _ rfl (by rfl) ?_
  refine areg_go (by rfl) (by rfl) (by first | trivial | rfl | exact ⟨rfl, rfl, fun _ => rfl, Nat.le_of_ble_eq_true rfl, .inl rfl⟩ | exact ⟨rfl, rfl, fun h => (nomatch h), Nat.le_of_ble_eq_true rfl, .inl rfl⟩ | omega) (by simp +decide (disch := omega) only [nrm, lk_nrm, dc_nrm, mk_nrm, ti_nrm, ls_nrm, mp_nrm, nb_nrm, hset, pick_and, pick_or, reduceIte, Nat.reduceAdd, wI64, wI32, wI16, wI8, wU8]; rfl) ?_
  refine areg_go (by rfl) (by rfl) (by first | trivial | rfl | exact ⟨rfl, rfl, fun _ => rfl, Nat.le_of_ble_eq_true rfl, .inl rfl⟩ | exact ⟨rfl, rfl, fun h => (nomatch h), Nat.le_of_ble_eq_true rfl, .inl rfl⟩ | omega) (by simp +decide (disch := omega) only [nrm, lk_nrm, dc_nrm, mk_nrm, ti_nrm, ls_nrm, mp_nrm, nb_nrm, hset, pick_and, pick_or, reduceIte, Nat.reduceAdd, wI64, wI32, wI16, wI8, wU8]; rfl) ?_
  refine awp_seq ?_
  refine awp_reg T0_ok hP hm hN _ rfl (by rfl) ?_
  refine areg_go (by rfl) (by rfl) (by first | trivial | rfl | exact ⟨rfl, rfl, fun _ => rfl, Nat.le_of_ble_eq_true rfl, .inl rfl⟩ | exact ⟨rfl, rfl, fun h => (nomatch h), Nat.le_of_ble_eq_true rfl, .inl rfl⟩ | omega) (by simp +decide (disch := omega) only [nrm, lk_nrm, dc_nrm, mk_nrm, ti_nrm, ls_nrm, mp_nrm, nb_nrm, hset, pick_and, pick_or, reduceIte, Nat.reduceAdd, wI64, wI32, wI16, wI8, wU8]; rfl) ?_
  refine areg_call (by rfl) (OpRel.call' ok10 (_, _, _) [] (by decide) rfl rfl (by exact args_cons arga_val (args_nil)) (by first | trivial | exact ⟨ha, hb, hc⟩) trivial rfl rfl rfl (by intro o h; cases h)) (by simp +decide (disch := omega) only [nrm, lk_nrm, dc_nrm, mk_nrm, ti_nrm, ls_nrm, mp_nrm, nb_nrm, hset, pick_and, pick_or, reduceIte, Nat.reduceAdd, wI64, wI32, wI16, wI8, wU8, s10]; rfl) ?_
  refine areg_call (by rfl) (OpRel.call' ok9 (_, _, _) [] (by decide) rfl rfl (by exact args_cons arga_val (args_nil)) (by first | trivial | exact ⟨ha, hb, hc⟩) trivial rfl rfl rfl (by intro o h; cases h)) (by simp +decide (disch := omega) only [nrm, lk_nrm, dc_nrm, mk_nrm, ti_nrm, ls_nrm, mp_nrm, nb_nrm, hset, pick_and, pick_or, reduceIte, Nat.reduceAdd, wI64, wI32, wI16, wI8, wU8, s9]; rfl) ?_
  refine areg_go (by rfl) (by rfl) (by first | trivial | rfl | exact ⟨rfl, rfl, fun _ => rfl, Nat.le_of_ble_eq_true rfl, .inl rfl⟩ | exact ⟨rfl, rfl, fun h => (nomatch h), Nat.le_of_ble_eq_true rfl, .inl rfl⟩ | omega) (by simp +decide (disch := omega) only [nrm, lk_nrm, dc_nrm, mk_nrm, ti_nrm, ls_nrm, mp_nrm, nb_nrm, hset, pick_and, pick_or, reduceIte, Nat.reduceAdd, wI64, wI32, wI16, wI8, wU8]; rfl) ?_
  refine awp_seq ?_
  refine awp_reg T0_ok hP hm hN _ rfl (by rfl) ?_
  refine areg_go (by rfl) (by rfl) (by first | trivial | rfl | exact ⟨rfl, rfl, fun _ => rfl, Nat.le_of_ble_eq_true rfl, .inl rfl⟩ | exact ⟨rfl, rfl, fun h => (nomatch h), Nat.le_of_ble_eq_true rfl, .inl rfl⟩ | omega) (by simp +decide (disch := omega) only [nrm, lk_nrm, dc_nrm, mk_nrm, ti_nrm, ls_nrm, mp_nrm, nb_nrm, hset, pick_and, pick_or, reduceIte, Nat.reduceAdd, wI64, wI32, wI16, wI8, wU8]; rfl) ?_
  refine areg_call (by rfl) (OpRel.call' ok10 (_, _, _) [] (by decide) rfl rfl (by exact args_cons arga_val (args_nil)) (by first | trivial | exact ⟨ha, hb, hc⟩) trivial rfl rfl rfl (by intro o h; cases h)) (by simp +decide (disch := omega) only [nrm, lk_nrm, dc_nrm, mk_nrm, ti_nrm, ls_nrm, mp_nrm, nb_nrm, hset, pick_and, pick_or, reduceIte, Nat.reduceAdd, wI64, wI32, wI16, wI8, wU8, s10]; rfl) ?_
  refine areg_call (by rfl) (OpRel.call' ok11 (_, _, _) [] (by decide) rfl rfl (by exact args_cons arga_val (args_nil)) (by first | trivial | exact ⟨ha, hb, hc⟩) trivial rfl rfl rfl (by intro o h; cases h)) (by simp +decide (disch := omega) only [nrm, lk_nrm, dc_nrm, mk_nrm, ti_nrm, ls_nrm, mp_nrm, nb_nrm, hset, pick_and, pick_or, reduceIte, Nat.reduceAdd, wI64, wI32, wI16, wI8, wU8, s11]; rfl) ?_
  refine areg_go (by rfl) (by rfl) (by first | trivial | rfl | exact ⟨rfl, rfl, fun _ => rfl, Nat.le_of_ble_eq_true rfl, .inl rfl⟩ | exact ⟨rfl, rfl, fun h => (nomatch h), Nat.le_of_ble_eq_true rfl, .inl rfl⟩ | omega) (by simp +decide (disch := omega) only [nrm, lk_nrm, dc_nrm, mk_nrm, ti_nrm, ls_nrm, mp_nrm, nb_nrm, hset, pick_and, pick_or, reduceIte, Nat.reduceAdd, wI64, wI32, wI16, wI8, wU8]; rfl) ?_
  refine awp_seq ?_
  refine awp_seq ?_
  refine awp_reg T0_ok hP hm hN _ rfl (by rfl) ?_
  refine areg_go (by rfl) (by rfl) (by first | trivial | rfl | exact ⟨rfl, rfl, fun _ => rfl, Nat.le_of_ble_eq_true rfl, .inl rfl⟩ | exact ⟨rfl, rfl, fun h => (nomatch h), Nat.le_of_ble_eq_true rfl, .inl rfl⟩ | omega) (by simp +decide (disch := omega) only [nrm, lk_nrm, dc_nrm, mk_nrm, ti_nrm, ls_nrm, mp_nrm, nb_nrm, hset, pick_and, pick_or, reduceIte, Nat.reduceAdd, wI64, wI32, wI16, wI8, wU8]; rfl) ?_
  refine areg_go (by rfl) (by rfl) (by first | trivial | rfl | exact ⟨rfl, rfl, fun _ => rfl, Nat.le_of_ble_eq_true rfl, .inl rfl⟩ | exact ⟨rfl, rfl, fun h => (nomatch h), Nat.le_of_ble_eq_true rfl, .inl rfl⟩ | omega) (by simp +decide (disch := omega) only [nrm, lk_nrm, dc_nrm, mk_nrm, ti_nrm, ls_nrm, mp_nrm, nb_nrm, hset, pick_and, pick_or, reduceIte, Nat.reduceAdd, wI64, wI32, wI16, wI8, wU8]; rfl) ?_
  refine areg_go (by rfl) (by rfl) (by first | trivial | rfl | exact ⟨rfl, rfl, fun _ => rfl, Nat.le_of_ble_eq_true rfl, .inl rfl⟩ | exact ⟨rfl, rfl, fun h => (nomatch h), Nat.le_of_ble_eq_true rfl, .inl rfl⟩ | omega) (by simp +decide (disch := omega) only [nrm, lk_nrm, dc_nrm, mk_nrm, ti_nrm, ls_nrm, mp_nrm, nb_nrm, hset, pick_and, pick_or, reduceIte, Nat.reduceAdd, wI64, wI32, wI16, wI8, wU8]; rfl) ?_
  refine awp_cond rfl (fun hc0 => ?_) (fun hc0 => ?_)
  · skip
    refine awp_seq ?_
    refine awp_reg T0_ok hP hm hN _ rfl (by rfl) ?_
    refine areg_go (by rfl) (by rfl) (by first | trivial | rfl | exact ⟨rfl, rfl, fun _ => rfl, Nat.le_of_ble_eq_true rfl, .inl rfl⟩ | exact ⟨rfl, rfl, fun h => (nomatch h), Nat.le_of_ble_eq_true rfl, .inl rfl⟩ | omega) (by simp +decide (disch := omega) only [nrm, lk_nrm, dc_nrm, mk_nrm, ti_nrm, ls_nrm, mp_nrm, nb_nrm, hset, pick_and, pick_or, reduceIte, Nat.reduceAdd, wI64, wI32, wI16, wI8, wU8]; rfl) ?_
    refine awp_ret ?_
    refine fin_mk [] rfl rfl ?_ trivial (by decide)
    first | rfl | (exfalso; simp at hc0)
  · skip
    refine awp_skip ?_
    refine awp_seq ?_
    refine awp_reg T0_ok hP hm hN _ rfl (by rfl) ?_
    refine areg_go (by rfl) (by rfl) (by first | trivial | rfl | exact ⟨rfl, rfl, fun _ => rfl, Nat.le_of_ble_eq_true rfl, .inl rfl⟩ | exact ⟨rfl, rfl, fun h => (nomatch h), Nat.le_of_ble_eq_true rfl, .inl rfl⟩ | omega) (by simp +decide (disch := omega) only [nrm, lk_nrm, dc_nrm, mk_nrm, ti_nrm, ls_nrm, mp_nrm, nb_nrm, hset, pick_and, pick_or, reduceIte, Nat.reduceAdd, wI64, wI32, wI16, wI8, wU8]; rfl) ?_
    refine awp_ret ?_
    refine fin_mk [] rfl rfl ?_ trivial (by decide)
    first | rfl | (exfalso; simp at hc0)

end Go.Proofs.Ytihgdjflacccmaa.Abs
