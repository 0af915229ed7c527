import Derived.Test.YtpdkhlpmiblflaaGreatD5
set_option linter.unusedVariables false
set_option linter.unusedSimpArgs false
namespace Go.Proofs.YtpdkhlpmiblflaaGreat.Abs
open Go Go.RowKit
theorem intsU_app (xs ys : List Int) : ints .u8 (xs ++ ys) = ints .u8 xs ++ ints .u8 ys := by simp
theorem wU8' {n : Int} (h1 : 0 ≤ n) (h2 : n ≤ 255) : IntKind.u8.wrap n = n := by
  simp only [IntKind.wrap, IntKind.bits, IntKind.signed]; simp; omega
def cntB (xs : List Bk) (b : Bk) (i : Nat) : Nat := ((xs.take i).filter (fun a => decide (cmpU a b < 0))).length
def rankN (xs : List Bk) (b : Bk) : Nat := cntB xs b xs.length
def ordN (xs : List Bk) : Nd := xs.map fun b => ((rankN xs b : Nat) : Int)
theorem cntB_le (xs : List Bk) (b : Bk) (i : Nat) : cntB xs b i ≤ i := Nat.le_trans (List.length_filter_le _ _) (by rw [List.length_take]; omega)
theorem cntB_succ {xs : List Bk} {b : Bk} {i : Nat} (h : i < xs.length) : cntB xs b (i + 1) = if decide (cmpU (xs.getD i bk0) b < 0) = true then cntB xs b i + 1 else cntB xs b i := by
  have e : xs.getD i bk0 = xs[i] := by simp [List.getD, h]
  rw [e]
  unfold cntB
  rw [List.take_succ_eq_append_getElem h, List.filter_append, List.length_append]
  by_cases hc : cmpU xs[i] b < 0
  · simp [hc]
  · simp [hc]
theorem cntB_yes {xs : List Bk} {b : Bk} {i : Nat} (h : i < xs.length) (hc : decide (cmpU (xs.getD i bk0) b < 0) = true) : cntB xs b (i + 1) = cntB xs b i + 1 := by rw [cntB_succ h, if_pos hc]
theorem cntB_no {xs : List Bk} {b : Bk} {i : Nat} (h : i < xs.length) (hc : decide (cmpU (xs.getD i bk0) b < 0) = false) : cntB xs b (i + 1) = cntB xs b i := by rw [cntB_succ h, if_neg (by rw [hc]; simp)]
def tx (x : Nd) : List Int := x.map (48 + ·)
theorem tx_ord (xs : List Bk) : tx (ordN xs) = xs.map (fun b => 48 + ((rankN xs b : Nat) : Int)) := by simp [tx, ordN]
theorem tx_len (x : Nd) : (tx x).length = x.length := by simp [tx]
theorem isU_tx {n : Nat} {x : Nd} (h : okN n x) : isU (tx x) := fun v hv => by
  obtain ⟨r, hr, rfl⟩ := List.mem_map.1 hv
  have := h.2 r hr
  omega

def mapF {α β : Type} (g : α → β) (xs : List α) (i : Nat) : List β := (xs.take i).map g
theorem mapF_succ {α β : Type} {d : α} (g : α → β) {xs : List α} {i : Nat} (h : i < xs.length) : mapF g xs (i + 1) = mapF g xs i ++ [g (xs.getD i d)] := by
  have e : xs.getD i d = xs[i] := by simp [List.getD, h]
  unfold mapF
  rw [e, List.take_succ_eq_append_getElem h, List.map_append]
  rfl
theorem mapF_all {α β : Type} (g : α → β) (xs : List α) : mapF g xs xs.length = xs.map g := by simp [mapF]
theorem mapF_len {α β : Type} (g : α → β) (xs : List α) {i : Nat} (h : i ≤ xs.length) : (mapF g xs i).length = i := by simp [mapF]; omega
theorem fnCell_cases {d : D} (h : fnCell d = true) : (∃ v, d = .val v) ∨ ∃ f cs, d = .clo f cs := by
  unfold fnCell at h
  split at h
  · exact .inl ⟨_, rfl⟩
  · exact .inr ⟨_, _, rfl⟩
  · cases h
noncomputable abbrev s_I_each_I_Book_byte : Spec (List Bk × D × (Bk → Int)) where
  args := fun x => [.sl 8 (bks x.1), x.2.1]
  pre := fun x => x.1.length ≤ 1048576 ∧ fnCell x.2.1 = true ∧ Does Pr (fun p => [bkD p]) (· ∈ x.1) (fun p => u8D (x.2.2 p)) x.2.1
  new := fun x => [⟨5, 1, false, ints .u8 (x.1.map x.2.2)⟩]
  res := fun x => .own 0

set_option maxRecDepth 20000 in
set_option maxHeartbeats 1000000 in
theorem ok_I_each_I_Book_byte : FnOk Pr 46 s_I_each_I_Book_byte := by
 refine fn_ok 2 0 T0_ok Go.Proofs.Tryz.func46 rfl (enters_of Go.Proofs.Tryz.func46 rfl rfl) (fun _ => rfl) (fun _ => rfl) (fun _ => rfl) ?_
 rintro ⟨xs, fn, g⟩ ⟨hp, hf0, hask⟩ C hP hN hm hG
 simp only at hf0 hask
 obtain ⟨v, rfl⟩ | ⟨cf, cs, rfl⟩ := fnCell_cases hf0
 ·
  change awp C _ _ ⟨[(0, .sl 8 (bks xs)), (1, .val v)], [], 0⟩
  simp only at hp
  refine awp_seq ?_
  refine r1 T0_ok hP hm hN ?_
  refine g1 ?_
  refine awp_seq ?_
  refine r1 T0_ok hP hm hN ?_
  refine g1 ?_
  refine awp_seq ?_
  refine awp_seq ?_
  refine r1 T0_ok hP hm hN ?_
  iterate 3 refine g1 ?_
  refine awp_block ?_
  refine awp_loop (fun n st => ∃ i : Nat, i ≤ xs.length ∧ n = xs.length - i ∧ st = ⟨[(10, .val (.int .i64 (i : Nat))), (9, .val (.int .i64 (xs.length : Nat))), (8, .sl 8 (bks xs)), (5, .own 0), (1, .val v)], [(0, ⟨5, 1, false, ints .u8 (mapF g xs i)⟩)], 1⟩) (xs.length) ⟨_, (by exact Weak.trans (weak_nil 5 5 1 rfl) (weak_sl (sub_cons rfl (sub_cons rfl (sub_cons rfl (sub_cons rfl (sub_cons rfl (sub_nil)))))))), 0, by omega, rfl, rfl⟩ ?_
  rintro n st ⟨i, hii, hni, rfl⟩
  have hml := mapF_len g xs hii
  refine awp_seq ?_
  refine r1 T0_ok hP hm hN ?_
  refine g1 ?_
  refine awp_seq ?_
  refine awp_cond rfl (fun hc0 => ?_) (fun hc0 => ?_)
  ·
   have hlti : i < xs.length := by simpa using hc0
   refine awp_skip ?_
   refine awp_seq ?_
   refine awp_block ?_
   refine awp_seq ?_
   refine r1 T0_ok hP hm hN ?_
   iterate 4 refine g1 ?_
   refine r1 T0_ok hP hm hN ?_
   iterate 3 refine g1 ?_
   refine gc1 ?_ (OpRel.does hask _ (getD_mem' hlti) rfl rfl rfl rfl rfl rfl)
   refine g1 ?_
   refine ga1 ?_
   refine g1 ?_
   refine r1 T0_ok hP hm hN ?_
   iterate 2 refine g1 ?_
   refine ⟨xs.length - (i + 1), _, by omega, (by rw [mapF_succ (d := bk0) g hlti, intsU_app]; exact Weak.trans (weak_drop 2) (Weak.trans (weak_drop 1) (Weak.trans (weak_nx (nx' := 1) (by omega) (by rfl)) (weak_sl (sub_cons rfl (sub_cons rfl (sub_cons rfl (sub_cons rfl (sub_cons rfl (sub_nil)))))))))), i + 1, by omega, rfl, rfl⟩
  ·
   have hgei : ¬ i < xs.length := by simpa using hc0
   have heqi : i = xs.length := by omega
   rw [heqi, mapF_all]
   refine awp_exit ?_
   repeat refine thenA_exit ?_
   refine blockA_hit ?_
   refine awp_seq ?_
   refine r1 T0_ok hP hm hN ?_
   iterate 2 refine g1 ?_
   refine awp_ret ?_
   refine fin_mk [0] rfl rfl ?_ (objs_cons rfl rfl rfl rfl rfl (.inl rfl) objs_nil) (by decide)
   rfl
 ·
  change awp C _ _ ⟨[(0, .sl 8 (bks xs)), (1, .clo cf cs)], [], 0⟩
  simp only at hp
  refine awp_seq ?_
  refine r1 T0_ok hP hm hN ?_
  refine g1 ?_
  refine awp_seq ?_
  refine r1 T0_ok hP hm hN ?_
  refine g1 ?_
  refine awp_seq ?_
  refine awp_seq ?_
  refine r1 T0_ok hP hm hN ?_
  iterate 3 refine g1 ?_
  refine awp_block ?_
  refine awp_loop (fun n st => ∃ i : Nat, i ≤ xs.length ∧ n = xs.length - i ∧ st = ⟨[(10, .val (.int .i64 (i : Nat))), (9, .val (.int .i64 (xs.length : Nat))), (8, .sl 8 (bks xs)), (5, .own 0), (1, .clo cf cs)], [(0, ⟨5, 1, false, ints .u8 (mapF g xs i)⟩)], 1⟩) (xs.length) ⟨_, (by exact Weak.trans (weak_nil 5 5 1 rfl) (weak_sl (sub_cons rfl (sub_cons rfl (sub_cons rfl (sub_cons rfl (sub_cons rfl (sub_nil)))))))), 0, by omega, rfl, rfl⟩ ?_
  rintro n st ⟨i, hii, hni, rfl⟩
  have hml := mapF_len g xs hii
  refine awp_seq ?_
  refine r1 T0_ok hP hm hN ?_
  refine g1 ?_
  refine awp_seq ?_
  refine awp_cond rfl (fun hc0 => ?_) (fun hc0 => ?_)
  ·
   have hlti : i < xs.length := by simpa using hc0
   refine awp_skip ?_
   refine awp_seq ?_
   refine awp_block ?_
   refine awp_seq ?_
   refine r1 T0_ok hP hm hN ?_
   iterate 4 refine g1 ?_
   refine r1 T0_ok hP hm hN ?_
   iterate 3 refine g1 ?_
   refine gc1 ?_ (OpRel.does hask _ (getD_mem' hlti) rfl rfl rfl rfl rfl rfl)
   refine g1 ?_
   refine ga1 ?_
   refine g1 ?_
   refine r1 T0_ok hP hm hN ?_
   iterate 2 refine g1 ?_
   refine ⟨xs.length - (i + 1), _, by omega, (by rw [mapF_succ (d := bk0) g hlti, intsU_app]; exact Weak.trans (weak_drop 2) (Weak.trans (weak_drop 1) (Weak.trans (weak_nx (nx' := 1) (by omega) (by rfl)) (weak_sl (sub_cons rfl (sub_cons rfl (sub_cons rfl (sub_cons rfl (sub_cons rfl (sub_nil)))))))))), i + 1, by omega, rfl, rfl⟩
  ·
   have hgei : ¬ i < xs.length := by simpa using hc0
   have heqi : i = xs.length := by omega
   rw [heqi, mapF_all]
   refine awp_exit ?_
   repeat refine thenA_exit ?_
   refine blockA_hit ?_
   refine awp_seq ?_
   refine r1 T0_ok hP hm hN ?_
   iterate 2 refine g1 ?_
   refine awp_ret ?_
   refine fin_mk [0] rfl rfl ?_ (objs_cons rfl rfl rfl rfl rfl (.inl rfl) objs_nil) (by decide)
   rfl

noncomputable abbrev s_I_ranks_1 : Spec (Bk × List Bk) where
  args := fun x => [bkD x.1, .rptr 1 [[.sl 8 (bks x.2)]] 0 0]
  pre := fun x => x.2.length ≤ 60
  res := fun x => .val (.int .u8 (48 + ((rankN x.2 x.1 : Nat) : Int)))

set_option maxRecDepth 20000 in
set_option maxHeartbeats 1000000 in
theorem ok_I_ranks_1 : FnOk Pr 47 s_I_ranks_1 := by
 refine fn_ok 2 0 T0_ok Go.Proofs.Tryz.func47 rfl (enters_of Go.Proofs.Tryz.func47 rfl rfl) (fun _ => rfl) (fun _ => rfl) (fun _ => rfl) ?_
 rintro ⟨b, xs⟩ hl C hP hN hm hG
 change awp C _ _ ⟨[(0, bkD b), (1, .rptr 1 [[.sl 8 (bks xs)]] 0 0)], [], 0⟩
 simp only at hl
 have xn1 := @wU8'
 refine awp_seq ?_
 refine r1 T0_ok hP hm hN ?_
 iterate 2 refine g1 ?_
 refine awp_seq ?_
 refine r1 T0_ok hP hm hN ?_
 refine g1 ?_
 refine awp_seq ?_
 refine awp_seq ?_
 refine r1 T0_ok hP hm hN ?_
 iterate 3 refine g1 ?_
 refine awp_block ?_
 refine awp_loop (fun n st => ∃ i : Nat, i ≤ xs.length ∧ n = xs.length - i ∧ st = ⟨[(9, .val (.int .i64 ((i : Nat) : Int))), (8, .val (.int .i64 ((xs.length : Nat) : Int))), (7, .sl 8 (bks xs)), (4, .val (.int .u8 (48 + ((cntB xs b i : Nat) : Int)))), (2, .ptr 0 0 0)], [(0, ⟨73, 8, true, [bkRow b]⟩)], 1⟩) (xs.length) ⟨_, weak_sl (sub_cons rfl (sub_cons rfl (sub_cons rfl (sub_cons rfl (sub_cons rfl (sub_nil)))))), 0, by omega, rfl, rfl⟩ ?_
 rintro n st ⟨i, hii, hni, rfl⟩
 have hcl := cntB_le xs b i
 refine awp_seq ?_
 refine r1 T0_ok hP hm hN ?_
 refine g1 ?_
 refine awp_seq ?_
 refine awp_cond rfl (fun hc0 => ?_) (fun hc0 => ?_)
 ·
  have hlti : i < xs.length := by simpa using hc0
  refine awp_skip ?_
  refine awp_seq ?_
  refine awp_block ?_
  refine awp_seq ?_
  refine r1 T0_ok hP hm hN ?_
  iterate 4 refine g1 ?_
  refine awp_seq ?_
  refine r1 T0_ok hP hm hN ?_
  iterate 2 refine g1 ?_
  refine gc1 ?_ (call1 ok_I_compare (_, _) [])
  refine g1 ?_
  refine awp_cond rfl (fun hc1 => ?_) (fun hc1 => ?_)
  ·
   have hcs := cntB_yes hlti hc1
   refine r1 T0_ok hP hm hN ?_
   iterate 3 refine g1 ?_
   refine r1 T0_ok hP hm hN ?_
   iterate 2 refine g1 ?_
   refine ⟨xs.length - (i + 1), _, by omega, ?_, i + 1, by omega, rfl, rfl⟩
   first
     | exact (by rw [show (48 + ((cntB xs b (i + 1) : Nat) : Int)) = 48 + ((cntB xs b i : Nat) : Int) + 1 by rw [hcs]; omega]; exact Weak.trans (weak_drop 1) (Weak.trans (weak_nx (nx' := 1) (by omega) (by rfl)) (weak_sl (sub_cons rfl (sub_cons rfl (sub_cons rfl (sub_cons rfl (sub_cons rfl (sub_nil)))))))))
     | exact (by rw [show (48 + ((cntB xs b (i + 1) : Nat) : Int)) = 48 + ((cntB xs b i : Nat) : Int) by rw [hcs]]; exact Weak.trans (weak_drop 1) (Weak.trans (weak_nx (nx' := 1) (by omega) (by rfl)) (weak_sl (sub_cons rfl (sub_cons rfl (sub_cons rfl (sub_cons rfl (sub_cons rfl (sub_nil)))))))))
  ·
   have hcs := cntB_no hlti hc1
   refine awp_skip ?_
   refine r1 T0_ok hP hm hN ?_
   iterate 2 refine g1 ?_
   refine ⟨xs.length - (i + 1), _, by omega, ?_, i + 1, by omega, rfl, rfl⟩
   first
     | exact (by rw [show (48 + ((cntB xs b (i + 1) : Nat) : Int)) = 48 + ((cntB xs b i : Nat) : Int) + 1 by rw [hcs]; omega]; exact Weak.trans (weak_drop 1) (Weak.trans (weak_nx (nx' := 1) (by omega) (by rfl)) (weak_sl (sub_cons rfl (sub_cons rfl (sub_cons rfl (sub_cons rfl (sub_cons rfl (sub_nil)))))))))
     | exact (by rw [show (48 + ((cntB xs b (i + 1) : Nat) : Int)) = 48 + ((cntB xs b i : Nat) : Int) by rw [hcs]]; exact Weak.trans (weak_drop 1) (Weak.trans (weak_nx (nx' := 1) (by omega) (by rfl)) (weak_sl (sub_cons rfl (sub_cons rfl (sub_cons rfl (sub_cons rfl (sub_cons rfl (sub_nil)))))))))
 ·
  have hgei : ¬ i < xs.length := by simpa using hc0
  have heqi : i = xs.length := by omega
  rw [heqi]
  refine awp_exit ?_
  repeat refine thenA_exit ?_
  refine blockA_hit ?_
  refine awp_seq ?_
  refine r1 T0_ok hP hm hN ?_
  iterate 2 refine g1 ?_
  refine awp_ret ?_
  refine fin_mk [] rfl rfl ?_ trivial (by decide)
  rfl

theorem does_rank {xs : List Bk} (hl : xs.length ≤ 60) : Does Pr (fun p => [bkD p]) (· ∈ xs) (fun p => u8D (48 + ((rankN xs p : Nat) : Int))) (.clo (.func 47) [.rptr 1 [[.sl 8 (bks xs)]] 0 0]) :=
  ⟨47, [], [.rptr 1 [[.sl 8 (bks xs)]] 0 0], (s_I_ranks_1).comap (fun p => (p, xs)), rfl, rfl, rfl, (ok_I_ranks_1).comap _, fun _ => rfl, fun _ h => hl, fun _ => rfl, fun _ => rfl, fun _ => rfl, fun _ => rfl⟩

noncomputable abbrev s_I_ranks : Spec (List Bk) where
  args := fun xs => [.sl 8 (bks xs)]
  pre := fun xs => xs.length ≤ 60
  res := fun xs => .val (.string (strOfNums (tx (ordN xs))))

set_option maxRecDepth 20000 in
set_option maxHeartbeats 1000000 in
theorem ok_I_ranks : FnOk Pr 23 s_I_ranks := by
 refine fn_ok 1 0 T0_ok Go.Proofs.Tryz.func23 rfl (enters_of Go.Proofs.Tryz.func23 rfl rfl) (fun _ => rfl) (fun _ => rfl) (fun _ => rfl) ?_
 rintro xs hl C hP hN hm hG
 change awp C _ _ ⟨[(0, .sl 8 (bks xs))], [], 0⟩
 have hl : xs.length ≤ 60 := hl
 refine awp_seq ?_
 refine r1 T0_ok hP hm hN ?_
 iterate 2 refine g1 ?_
 refine awp_seq ?_
 refine r1 T0_ok hP hm hN ?_
 iterate 2 refine g1 ?_
 refine gc1 ?_ (call1 ok_I_each_I_Book_byte (xs, .clo (.func 47) [.rptr 1 [[.sl 8 (bks xs)]] 0 0], fun p => 48 + ((rankN xs p : Nat) : Int)) [] (hpre := by (try dsimp only); exact ⟨by omega, rfl, does_rank (by omega)⟩) (hfo := by exact fm_cons (flat_ints _ _ _ _ _) fm_nil))
 refine gc1 ?_ (oprel_b2sA T0_ok rfl (tx (ordN xs)) rfl rfl (by rw [tx_ord]) rfl rfl rfl rfl)
 refine g1 ?_
 refine awp_ret ?_
 refine fin_mk [] rfl rfl ?_ trivial (by decide)
 rfl
end Go.Proofs.YtpdkhlpmiblflaaGreat.Abs

