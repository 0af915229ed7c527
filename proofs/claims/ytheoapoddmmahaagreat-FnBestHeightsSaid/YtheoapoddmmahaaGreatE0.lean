import Derived.Test.YtheoapoddmmahaaGreatW5
import Derived.Test.YtheoapoddmmahaaGreatShelf
import Derived.Shelf.SlIterI.Sorted
import Derived.Shelf.SortG.SortNone
import Derived.RangeFuncBox
import Derived.RangeFuncLeaves
import Derived.RangeFuncCalls
import Derived.OwnWalkIn
import Derived.TacticsInMore
import Derived.LoopNIn
import Derived.LoopIn
import Derived.Shelf.RegionOpen
import Derived.Lib.RowBridge
import Derived.RangeFuncNested
import Derived.RangeFuncBound
set_option linter.unusedVariables false
set_option linter.unusedSimpArgs false
namespace Go.Proofs.YtheoapoddmmahaaGreat.Abs
open Go Go.RowKit

/-! ### Numbers in ascending order, each once -/
theorem rising_ext : ∀ {l m : List Int}, l.Pairwise (· < ·) → m.Pairwise (· < ·) → (∀ a, a ∈ l ↔ a ∈ m) → l = m
  | [], [], _, _, _ => rfl
  | [], y :: m, _, _, h => by have := (h y).2 (by simp); simp at this
  | x :: l, [], _, _, h => by have := (h x).1 (by simp); simp at this
  | x :: l, y :: m, h1, h2, h => by
    have a1 := List.pairwise_cons.1 h1
    have a2 := List.pairwise_cons.1 h2
    have e : x = y := by
      have hx := (h x).1 (by simp)
      have hy := (h y).2 (by simp)
      rcases List.mem_cons.1 hx with e | hx
      · exact e
      · rcases List.mem_cons.1 hy with e | hy
        · exact e.symm
        · have := a1.1 y hy; have := a2.1 x hx; omega
    subst e
    rw [rising_ext a1.2 a2.2 (fun a => ?_)]
    constructor
    · intro ha
      have := a1.1 a ha
      rcases List.mem_cons.1 ((h a).1 (by simp [ha])) with e | h3
      · omega
      · exact h3
    · intro ha
      have := a2.1 a ha
      rcases List.mem_cons.1 ((h a).2 (by simp [ha])) with e | h3
      · omega
      · exact h3
noncomputable def sortI (l : List Int) : List Int := l.mergeSort fun x y => decide (x ≤ y)
noncomputable def setI (l : List Int) : List Int := Lib.compact (sortI l)
theorem sortI_le (l : List Int) : (sortI l).Pairwise (· ≤ ·) := by
  have := List.pairwise_mergeSort (le := fun x y : Int => decide (x ≤ y)) (fun a b c h1 h2 => by simp only [decide_eq_true_eq] at *; omega) (fun a b => by simp only [Bool.or_eq_true, decide_eq_true_eq]; omega) l
  exact this.imp (fun h => by simpa using h)
theorem sortI_mem (l : List Int) (a : Int) : a ∈ sortI l ↔ a ∈ l := (List.mergeSort_perm l _).mem_iff
theorem sortI_len (l : List Int) : (sortI l).length = l.length := (List.mergeSort_perm l _).length_eq
theorem cmpt_rise (l : List Int) (h : l.Pairwise (· ≤ ·)) : ∀ m, m ≤ l.length → (Lib.compactUpTo l.toArray m).Pairwise (· < ·) ∧ ∀ a, a ∈ Lib.compactUpTo l.toArray m ↔ ∃ j, j < m ∧ l.toArray[j]! = a
  | 0, _ => by simp [Lib.compactUpTo]
  | m + 1, hm => by
    obtain ⟨h1, h2⟩ := cmpt_rise l h m (by omega)
    have hle : ∀ i j, i < j → j < l.length → l.toArray[i]! ≤ l.toArray[j]! := fun i j hij hj => by
      have := List.pairwise_iff_getElem.1 h i j (by omega) hj hij
      simpa [getElem!_pos, hj, show i < l.length by omega] using this
    rw [Lib.compactUpTo_succ]
    by_cases hk : Lib.keeps l.toArray m = true
    · rw [if_pos hk]
      refine ⟨List.pairwise_append.2 ⟨h1, by simp, fun a ha b hb => ?_⟩, fun a => ?_⟩
      · simp only [List.mem_singleton] at hb
        subst hb
        obtain ⟨j, hj, rfl⟩ := (h2 a).1 ha
        have hne : l.toArray[m]! ≠ l.toArray[m - 1]! := by
          simp only [Lib.keeps, decide_eq_true_eq] at hk
          rcases hk with h0 | h0
          · omega
          · exact h0
        have h3 := hle (m - 1) m (by omega) (by omega)
        have h4 : l.toArray[j]! ≤ l.toArray[m - 1]! := by
          by_cases e : j = m - 1
          · subst e; exact Int.le_refl _
          · exact hle j (m - 1) (by omega) (by omega)
        show l.toArray[j]! < l.toArray[m]!
        omega
      · rw [List.mem_append, h2, List.mem_singleton]
        constructor
        · rintro (⟨j, hj, e⟩ | e)
          · exact ⟨j, by omega, e⟩
          · exact ⟨m, by omega, e.symm⟩
        · rintro ⟨j, hj, e⟩
          by_cases e2 : j = m
          · subst e2; exact .inr e.symm
          · exact .inl ⟨j, by omega, e⟩
    · rw [if_neg hk, List.append_nil]
      refine ⟨h1, fun a => ?_⟩
      rw [h2]
      constructor
      · rintro ⟨j, hj, e⟩; exact ⟨j, by omega, e⟩
      · rintro ⟨j, hj, e⟩
        by_cases e2 : j = m
        · subst e2
          simp only [Lib.keeps, decide_eq_true_eq, not_or, ne_eq, Classical.not_not] at hk
          exact ⟨j - 1, by omega, hk.2.symm.trans e⟩
        · exact ⟨j, by omega, e⟩
theorem setI_rise (l : List Int) : (setI l).Pairwise (· < ·) := (cmpt_rise (sortI l) (sortI_le l) _ (Nat.le_refl _)).1
theorem setI_mem (l : List Int) (a : Int) : a ∈ setI l ↔ a ∈ l := by
  rw [setI, Lib.compact, (cmpt_rise (sortI l) (sortI_le l) _ (Nat.le_refl _)).2, ← sortI_mem, List.mem_iff_getElem]
  constructor
  · rintro ⟨j, hj, e⟩; exact ⟨j, hj, by simpa [getElem!_pos, hj] using e⟩
  · rintro ⟨j, hj, e⟩; exact ⟨j, hj, by simpa [getElem!_pos, hj] using e⟩
theorem setI_len (l : List Int) : (setI l).length ≤ l.length := by
  have := Lib.compact_length_le (sortI l)
  rw [sortI_len] at this
  exact this

open Go.Shelf

/-! ### The walk of setList -/
attribute [local go_sem] Oper.semAt_some
def uptoL {α : Type} (f : Nat → α) (k : Nat) : List α := (List.range k).map f
theorem uptoL_succ {α : Type} (f : Nat → α) (k : Nat) : uptoL f (k + 1) = uptoL f k ++ [f k] := by simp [uptoL, List.range_succ]
theorem uptoL_len {α : Type} (f : Nat → α) (k : Nat) : (uptoL f k).length = k := by simp [uptoL]
theorem uptoL_take (zs : List Int) {k : Nat} (hk : k ≤ zs.length) : uptoL (fun j => zs[j]?.getD 0) k = zs.take k := by
  apply List.ext_getElem
  · simp [uptoL, hk]
  · intro i h1 h2
    have : i < zs.length := by simp [uptoL] at h1; omega
    simp [uptoL, this]
theorem uptoL_all (zs : List Int) : uptoL (fun j => zs[j]?.getD 0) zs.length = zs := by rw [uptoL_take zs (Nat.le_refl _), List.take_length]

set_option maxRecDepth 100000 in
set_option maxHeartbeats 2000000 in
theorem vals1_in (F : Fence) (n : Nat) (hf : F.fn 105) (hro : F.round = none) (hn : 1 ≤ n) (l Bs n₀ b off len cap : Nat) (zs : List Int) (hreach : len * 8 ≤ 140737488351232) (hb : b < n₀) (J Jx : List Int → World → Prop)
    (hY : ∀ pre x W, J pre W → pre.length < len → YieldAt F (n - 1) Go.Proofs.Tryz.prog l #[.int .i64 x] W fun e W' =>
      (e = .returned (.bool true) ∧ J (pre ++ [x]) W' ∧ Below n₀ W W') ∨ (e = .returned (.bool false) ∧ Jx (pre ++ [x]) W'))
    (W : World) (hBs : W.cell? ⟨Bs, 0, none⟩ = some (.slice (some ⟨b, off, none⟩) len cap)) (hc : ∀ j, j < len → W.cell? ⟨b, off + j, none⟩ = some (.int .i64 (zs[j]?.getD 0))) (h0 : J [] W) :
    CallsIn F n Go.Proofs.Tryz.prog 105 #[.func (.yield l) #[] #[], .pointer (some ⟨Bs, 0, none⟩)] W fun e W' => (∃ v, e = .returned v) ∧
      ((∃ ys, ys = uptoL (fun j => zs[j]?.getD 0) len ∧ J ys W') ∨ (∃ pre, (∃ k, k ≤ len ∧ pre = uptoL (fun j => zs[j]?.getD 0) k) ∧ Jx pre W')) := by
  refine callsIn_of_wp Go.Proofs.Tryz.func105 rfl hf ?_ hro
  simp only [Go.Proofs.Tryz.ntmps105, List.size_toArray, List.length_cons, List.length_nil, Nat.reduceAdd, Nat.reduceSub, Array.replicate_succ, Array.replicate_zero, List.push_toArray, List.append_toArray, List.nil_append, List.cons_append]
  gi_wp2
  gi_loopw [7] (fun i wr => ∃ k : Nat, k ≤ len ∧ i = .int .i64 k ∧ J (uptoL (fun j => zs[j]?.getD 0) k) wr ∧ Below n₀ W wr)
    (fun i _ => len - (intOf i).toNat)
  case atStart => exact ⟨0, Nat.zero_le _, rfl, h0, Below.refl _ _⟩
  case round =>
    obtain ⟨k, hk, rfl, hJs, hnx⟩ := hrel
    have hcx : k < len → wr.cell? ⟨b, off + k, none⟩ = some (.int .i64 (zs[k]?.getD 0)) := fun h => (hnx.cell (p := ⟨b, off + k, none⟩) hb).trans (hc k h)
    by_cases hlt : k < len
    · obtain ⟨fn, tmps, assign, body, hy, hR⟩ := hY _ (zs[k]?.getD 0) wr hJs (by rw [uptoL_len]; exact hlt)
      have hcx' := hcx hlt
      gi_wp2
      refine hR.mono ?_
      rintro e W3 (⟨rfl, hJ3, hk3⟩ | ⟨rfl, hJx3⟩)
      · gi_wp2
        go_roundw
        case rel => exact ⟨k + 1, by omega, by simp, by rw [uptoL_succ]; exact hJ3, hnx.trans hk3⟩
        case measure => simp [intOf]; omega
      · gi_wp2
        refine bodyPost_ret (results_none rfl _ _ _) rfl ?_
        exact ⟨⟨_, rfl⟩, .inr ⟨_, ⟨k + 1, by omega, (uptoL_succ _ _).symm⟩, hJx3⟩⟩
    · obtain rfl : k = len := by omega
      gi_wp2
      go_end0
      exact ⟨⟨_, rfl⟩, .inl ⟨_, rfl, hJs⟩⟩
set_option maxRecDepth 100000 in
set_option maxHeartbeats 1000000 in
theorem vals1_nil_in (F : Fence) (n : Nat) (hf : F.fn 105) (hro : F.round = none) (l Bs : Nat) (A : Option Addr) (c : Nat) (J : List Int → World → Prop) (W : World) (hBs : W.cell? ⟨Bs, 0, none⟩ = some (.slice A 0 c)) (h0 : J [] W) :
    CallsIn F n Go.Proofs.Tryz.prog 105 #[.func (.yield l) #[] #[], .pointer (some ⟨Bs, 0, none⟩)] W fun e W' => (∃ v, e = .returned v) ∧ J [] W' := by
  refine callsIn_of_wp Go.Proofs.Tryz.func105 rfl hf ?_ hro
  simp only [Go.Proofs.Tryz.ntmps105, List.size_toArray, List.length_cons, List.length_nil, Nat.reduceAdd, Nat.reduceSub, Array.replicate_succ, Array.replicate_zero, List.push_toArray, List.append_toArray, List.nil_append, List.cons_append]
  gi_wp2
  gi_loopw [7] (fun i wr => i = .int .i64 0 ∧ J [] wr) (fun _ _ => 0)
  case atStart => exact ⟨rfl, h0⟩
  case round =>
    obtain ⟨rfl, hJs⟩ := hrel
    gi_wp2
    go_end0
    exact ⟨⟨_, rfl⟩, hJs⟩
def IntsAt (n₀ : Nat) (W : World) (sv : Value) (zs : List Int) : Prop :=
  (∃ A c, sv = .slice A 0 c ∧ zs = []) ∨ ∃ b off cap, sv = .slice (some ⟨b, off, none⟩) zs.length cap ∧ b < n₀ ∧ ∀ j, j < zs.length → W.cell? ⟨b, off + j, none⟩ = some (.int .i64 (zs[j]?.getD 0))
theorem IntsAt.below {n₀ : Nat} {A B : World} (h : Below n₀ A B) {sv : Value} {zs : List Int} : IntsAt n₀ A sv zs → IntsAt n₀ B sv zs
  | .inl e => .inl e
  | .inr ⟨b, off, cap, e, hb, hc⟩ => .inr ⟨b, off, cap, e, hb, fun j hj => (h.cell (p := ⟨b, off + j, none⟩) hb).trans (hc j hj)⟩
theorem vals_stops (F : Fence) (n : Nat) (hf : F.fn 105) (hro : F.round = none) (hn : 1 ≤ n) (Bs n₀ : Nat) (sv : Value) (zs : List Int) (hreach : zs.length * 8 ≤ 140737488351232) (w : World) (hBs : Bs < w.heap.size) (hn₀ : n₀ ≤ w.heap.size)
    (hc : w.cell? ⟨Bs, 0, none⟩ = some sv) (hI : IntsAt n₀ w sv zs) :
    SeqStopsK F n Go.Proofs.Tryz.prog 105 #[.pointer (some ⟨Bs, 0, none⟩)] (fun x : Int => #[Value.int .i64 x]) (Below n₀) (fun ys => ys = zs) (fun pre => pre <+: zs) zs.length w := fun l J Jx W hW _ _ hY h0 => by
  have hc' := (hW.cell (p := ⟨Bs, 0, none⟩) hBs).trans hc
  rcases hI.below (hW.mono hn₀) with ⟨A, c, rfl, rfl⟩ | ⟨b, off, cap, rfl, hb, hcs⟩
  · exact (vals1_nil_in F n hf hro l Bs A c J W hc' h0).mono fun e W' ⟨he, hj⟩ => ⟨he, .inl ⟨_, rfl, hj⟩⟩
  · refine (vals1_in F n hf hro hn l Bs n₀ b off zs.length cap zs hreach hb J Jx hY W hc' hcs h0).mono ?_
    rintro e W' ⟨he, ⟨ys, rfl, hj⟩ | ⟨pre, ⟨k, hk, rfl⟩, hj⟩⟩
    · exact ⟨he, .inl ⟨_, uptoL_all zs, hj⟩⟩
    · exact ⟨he, .inr ⟨_, by rw [uptoL_take zs hk]; exact List.take_prefix _ _, hj⟩⟩
theorem infoE : (Go.Proofs.Tryz.prog.info? 2).map (fun i => (i.zero, i.size, i.bytes)) = some (some (.int .i64 0), 1, 8) := by kernel_rfl
set_option maxRecDepth 100000 in
set_option maxHeartbeats 2000000 in
theorem seq_in (F : Fence) (n : Nat) (h1 : F.fn 117) (h2 : F.fn 105) (hro : F.round = none) (hn : 3 ≤ n) (Bs : Nat) (sv : Value) (zs : List Int) (hz : zs.length ≤ 1000) (w : World) (hBs : Bs < w.heap.size) (hc : w.cell? ⟨Bs, 0, none⟩ = some sv) (hI : IntsAt w.heap.size w sv zs) :
    CallsIn F n Go.Proofs.Tryz.prog 117 #[.slice none 0 0, .func (.func 105) #[] #[.pointer (some ⟨Bs, 0, none⟩)]] w fun e W' => ∃ v, e = .returned v ∧ W'.ownsRow w.heap.size 2 1 v zs.length (zs.map (Value.int .i64)) ∧ (v = .slice none 0 0 ↔ zs = []) ∧ Below w.heap.size w W' := by
  have hn1 : 1 ≤ n := by omega
  obtain ⟨i0, hi, hz0, hz1, hz2⟩ := info_parts infoE
  have hml : maxLen = 9223372036854775807 := rfl
  refine callsIn_of_wp_marks Go.Proofs.Tryz.func117 rfl h1 ?_ hro
  simp only [Go.Proofs.Tryz.ntmps117, List.size_toArray, List.length_cons, List.length_nil, Nat.reduceAdd, Nat.reduceSub, Array.replicate_succ, Array.replicate_zero, List.push_toArray, List.append_toArray, List.nil_append, List.cons_append]
  gi_wp2
  have bO := Boxed.new w 31 (.slice none 0 0)
  have hB0 : Below w.heap.size w (w.alloc (.cells #[.slice none 0 0] 31)) := (Below.refl _ w).alloc (Nat.le_refl _) _
  refine wpIn_rangeFunc_ownG hro hn1 (gf := 105) (lb := #[.pointer (some ⟨Bs, 0, none⟩)]) rfl h2 (enters_of Go.Proofs.Tryz.func105 (by kernel_rfl) rfl)
    (vals_stops F (n - 1) h2 hro (by omega) Bs w.heap.size sv zs (by omega) _ (by simp; omega) (by simp) ((hB0.cell (p := ⟨Bs, 0, none⟩) hBs).trans hc) (hI.below hB0)) belowK_t (belowK_b (by simp)) (Below.refl _ _) (fun _ => rfl)
    (fun pre W => (∃ v, Boxed W w.heap.size 31 v ∧ W.ownsRow w.heap.size 2 1 v pre.length (pre.map (Value.int .i64)) ∧ (v = .slice none 0 0 ↔ pre = [])) ∧ Below w.heap.size w W)
    (fun _ _ _ => False)
    (OwnFrom.and (Own.from (holdsRow_own w.heap.size w.heap.size 31 2 1 (fun pre => pre.length) (fun pre => pre.map (Value.int .i64)) (fun pre v => v = .slice none 0 0 ↔ pre = [])) _) (ownFrom_below (Nat.le_refl _) (by simp)))
    (fun _ _ _ _ _ hs _ _ => hs)
    ⟨⟨_, bO, World.ownsRow_nil _ _ _ _, by simp⟩, hB0⟩
    (fun x => { tmps := #[.slice none 0 0, .func (.func 105) #[] #[.pointer (some ⟨Bs, 0, none⟩)], .pointer (some ⟨w.heap.size, 0, none⟩), undef, .slice none 0 0, .int .i64 x, .func (.func 105) #[] #[.pointer (some ⟨Bs, 0, none⟩)], .int .i64 x, undef, undef, undef, undef, undef], defers := [] }) ?assign ?body ?done ?stop
  case assign =>
    intro l x W K hK
    gi_wp2
    exact hK
  case body =>
    rintro l pre x W ⟨⟨v, hv, hrow, hnil⟩, hB⟩ hlt
    have hc := hv.cell
    gi_wp2_with (gi_at_builtin; refine wpListIn_append_own _ rfl _ _ 31 rfl w.heap.size 2 i0 (.int .i64 0) 1 8 Go.Proofs.Tryz.underlying31 hi hz0 hz1 hz2 rfl (by decide) _ _ _ rfl (hrow.alloc _) ⟨W.heap.size, 0, none⟩ 1 1 [.int .i64 x] rfl rfl (cell_one_new _ _ _) (by simp [Value.oneCell']) (by omega) (by omega) (by have := hB.size; simp; omega) ?_; intro v' w1 hown' hgrow _; obtain ⟨g', cap', rfl⟩ := ownsRow_succ hown'; obtain ⟨hv1, hv2, hr2, hk2, hb2⟩ := hv.appended (by decide) hrow hB.size (Nat.le_refl _) hown' hgrow; have hc1 := hv1.cell; have hf1 := hv1.frozen)
    exact ⟨hk2.from _, hb2, ⟨_, hv2, by simpa using hr2, by simp⟩, hB.trans hb2⟩
  case done =>
    rintro D ys W hD rfl ⟨⟨v, hv, hrow, hnil⟩, hB⟩ hK
    have hc := hv.cell
    gi_wp2
    refine ⟨by simp, .inl ⟨_, _, rfl, run_takeDeferred hK, ?_⟩⟩
    exact ⟨_, results_tmp rfl _ _ _, v, rfl, ownsRow_putObj hrow _ hK rfl, hnil, hB.trans (belowK_b (w := w) (Nat.le_refl _) W D _ _ (by simp at hD; omega) hK rfl rfl)⟩
  case stop =>
    rintro D c pre W _ _ h _
    exact h.elim
set_option maxHeartbeats 1000000 in
theorem col_in (F : Fence) (n : Nat) (h0 : F.fn 103) (h1 : F.fn 117) (h2 : F.fn 105) (hro : F.round = none) (hn : 4 ≤ n) (Bs : Nat) (sv : Value) (zs : List Int) (hz : zs.length ≤ 1000) (w : World) (hBs : Bs < w.heap.size) (hc : w.cell? ⟨Bs, 0, none⟩ = some sv) (hI : IntsAt w.heap.size w sv zs) :
    CallsIn F n Go.Proofs.Tryz.prog 103 #[.func (.func 105) #[] #[.pointer (some ⟨Bs, 0, none⟩)]] w fun e W' => ∃ v, e = .returned v ∧ W'.ownsRow w.heap.size 2 1 v zs.length (zs.map (Value.int .i64)) ∧ (v = .slice none 0 0 ↔ zs = []) ∧ Below w.heap.size w W' := by
  have hn1 : 1 ≤ n := by omega
  refine callsIn_of_wp Go.Proofs.Tryz.func103 rfl h0 ?_ hro
  simp only [Go.Proofs.Tryz.ntmps103, List.size_toArray, List.length_cons, List.length_nil, Nat.reduceAdd, Nat.reduceSub, Array.replicate_succ, Array.replicate_zero, List.push_toArray, List.append_toArray, List.nil_append, List.cons_append]
  gi_wp2_with (gi_at_call 117; refine (seq_in F (n - 1) h1 h2 hro (by omega) Bs sv zs hz _ hBs hc hI).mono ?_; rintro e w' ⟨v, rfl, hrow, hnil, hb⟩)
  go_ret
  exact ⟨v, rfl, hrow, hnil, hb⟩
set_option maxRecDepth 100000 in
set_option maxHeartbeats 2000000 in
theorem srt_in (n : Nat) (hn : 5 ≤ n) (Bs : Nat) (sv : Value) (zs : List Int) (hz : zs.length ≤ 1000) (w : World) (hBs : Bs < w.heap.size) (hc : w.cell? ⟨Bs, 0, none⟩ = some sv) (hI : IntsAt w.heap.size w sv zs) :
    CallsIn Fence.wide n Go.Proofs.Tryz.prog 83 #[.func (.func 105) #[] #[.pointer (some ⟨Bs, 0, none⟩)]] w fun e W' => ∃ v, e = .returned v ∧ W'.ownsRow w.heap.size 2 1 v zs.length ((sortI zs).map (Value.int .i64)) ∧ (v = .slice none 0 0 ↔ zs = []) ∧ Below w.heap.size w W' := by
  have hn1 : 1 ≤ n := by omega
  have hro : Fence.wide.round = none := rfl
  have hml : maxLen = 9223372036854775807 := rfl
  have f0 : Fence.wide.fn 103 := trivial
  have f1 : Fence.wide.fn 104 := trivial
  refine callsIn_of_wp Go.Proofs.Tryz.func83 rfl trivial ?_ hro
  simp only [Go.Proofs.Tryz.ntmps83, List.size_toArray, List.length_cons, List.length_nil, Nat.reduceAdd, Nat.reduceSub, Array.replicate_succ, Array.replicate_zero, List.push_toArray, List.append_toArray, List.nil_append, List.cons_append]
  gi_wp2_with (gi_at_call 103; refine (col_in Fence.wide (n - 1) trivial trivial trivial hro (by omega) Bs sv zs hz _ hBs hc hI).mono ?_; rintro e W ⟨v, rfl, hrow, hnil, hb⟩)
  rcases hrow.2 with ⟨rfl, hz0⟩ | ⟨gb, cap, cur, rfl, hbase, hgb, r1, r2, r3, r4⟩
  · have hss : zs = [] := List.eq_nil_of_length_eq_zero hz0
    subst hss
    have cS : CallsIn Fence.wide (n - 1) Go.Proofs.Tryz.prog 104 #[.slice none 0 0] W fun e w' => e = .returned (.tuple #[]) ∧ w' = W := callsIn_wide.2 (AnyG.slices_Sort_int_none Go.Proofs.Tryz.lsort none 0 W)
    gi_wp2_with (gi_at_call 104; refine cS.mono ?_; rintro e w' ⟨rfl, rfl⟩)
    go_ret
    exact ⟨.slice none 0 0, rfl, by simpa [sortI] using hrow, by simp, hb⟩
  · have hH : Go.Sort.Holds (Value.int .i64) W gb 0 zs.toArray := holds_of_block_i hgb (by simpa using r4)
    have hgl : gb < W.heap.size := (Array.getElem?_eq_some_iff.1 hgb).1
    have cS : CallsIn Fence.wide (n - 1) Go.Proofs.Tryz.prog 104 #[.slice (some ⟨gb, 0, none⟩) zs.length cap] W fun e w' => e = .returned (.tuple #[]) ∧ ∃ k os, w' = Go.Sort.grow (Go.Sort.putRow (Value.int .i64) (Go.Sort.ahead W k) gb 0 (sortI zs).toArray) os := callsIn_wide.2 (AnyG.slices_Sort_int Go.Proofs.Tryz.lsort gb 0 cap zs W hH hgl (by omega))
    gi_wp2_with (gi_at_call 104; refine cS.mono ?_; rintro e w' ⟨rfl, nn, os, rfl⟩)
    go_ret
    exact ⟨_, rfl, ownsRow_sorted_i (sortI_len zs) hbase hgb r1 r2 r3, hnil, hb.grown (grownBy_sorted_i _) hb.size (fun j hj => by cases hj; exact hbase)⟩
theorem ownsRow_cut {W : World} {base e g n cap : Nat} {xs : List Value} (h : W.ownsRow base e 1 (.slice (some ⟨g, 0, none⟩) n cap) n xs) {k : Nat} (hk : k ≤ n) : W.ownsRow base e 1 (.slice (some ⟨g, 0, none⟩) k cap) k (xs.take k) := by
  obtain ⟨h1, h2⟩ := h
  rcases h2 with ⟨h3, _⟩ | ⟨g', cap', cur, h3, h4, h5, h6, h7, h8, h9⟩
  · simp at h3
  · cases h3
    refine ⟨by simp; omega, .inr ⟨g, cap, cur, rfl, h4, h5, by omega, h7, h8, ?_⟩⟩
    rw [← h9, List.take_take]
    congr 1
    omega
set_option maxRecDepth 100000 in
set_option maxHeartbeats 2000000 in
theorem setList_in (n : Nat) (hn : 6 ≤ n) (A : Option Addr) (c : Nat) (zs : List Int) (hz : zs.length ≤ 1000) (w : World) (hI : IntsAt w.heap.size w (.slice A zs.length c) zs) :
    CallsIn Fence.wide n Go.Proofs.Tryz.prog 44 #[.slice A zs.length c] w fun e W' => ∃ v, e = .returned v ∧ W'.ownsRow w.heap.size 2 1 v (setI zs).length ((setI zs).map (Value.int .i64)) ∧ Below w.heap.size w W' := by
  have hn1 : 1 ≤ n := by omega
  have hro : Fence.wide.round = none := rfl
  have f0 : Fence.wide.fn 84 := trivial
  have f1 : Fence.wide.fn 83 := trivial
  have f2 : Fence.wide.fn 82 := trivial
  have hml : maxLen = 9223372036854775807 := rfl
  have hB0 : Below w.heap.size w (w.alloc (.cells #[.slice A zs.length c] 31)) := (Below.refl _ w).alloc (Nat.le_refl _) _
  have bO := Boxed.new w 31 (.slice A zs.length c)
  have cV : CallsIn Fence.wide (n - 1) Go.Proofs.Tryz.prog 84 #[.slice A zs.length c] w fun e w' => e = .returned (.func (.func 105) #[] #[.pointer (some ⟨w.heap.size, 0, none⟩)]) ∧ w' = w.alloc (.cells #[.slice A zs.length c] 31) := by
    refine callsIn_of_wp Go.Proofs.Tryz.func84 rfl f0 ?_ hro
    simp only [Go.Proofs.Tryz.ntmps84, List.size_toArray, List.length_cons, List.length_nil, Nat.reduceAdd, Nat.reduceSub, Array.replicate_succ, Array.replicate_zero, List.push_toArray, List.append_toArray, List.nil_append, List.cons_append]
    gi_wp2
    go_ret
    exact ⟨rfl, rfl⟩
  have cS := srt_in (n - 1) (by omega) w.heap.size (.slice A zs.length c) zs hz (w.alloc (.cells #[.slice A zs.length c] 31)) (by simp) bO.cell (by
    rcases hI.below hB0 with h | ⟨b, off, cap, e, hb, hc⟩
    · exact .inl h
    · exact .inr ⟨b, off, cap, e, by simp; omega, hc⟩)
  refine callsIn_of_wp Go.Proofs.Tryz.func44 rfl trivial ?_ hro
  simp only [Go.Proofs.Tryz.ntmps44, List.size_toArray, List.length_cons, List.length_nil, Nat.reduceAdd, Nat.reduceSub, Array.replicate_succ, Array.replicate_zero, List.push_toArray, List.append_toArray, List.nil_append, List.cons_append]
  gi_wp2_with (first
    | (gi_at_call 84; refine cV.mono ?_; rintro e w' ⟨rfl, rfl⟩)
    | (gi_at_call 83; refine cS.mono ?_; rintro e W ⟨v, rfl, hrow, hnil, hb⟩))
  have hbb : Below w.heap.size w W := hB0.trans (hb.mono (by simp))
  rcases hrow.2 with ⟨rfl, hz0⟩ | ⟨gb, cap, cur, rfl, hbase, hgb, r1, r2, r3, r4⟩
  · have hss : zs = [] := List.eq_nil_of_length_eq_zero hz0
    subst hss
    have cC : CallsIn Fence.wide (n - 1) Go.Proofs.Tryz.prog 82 #[.slice none 0 0] W fun e w' => e = .returned (.slice none 0 0) ∧ w' = W := callsIn_wide.2 (AnyG.slices_Compact_int_empty Go.Proofs.Tryz.lcomp none 0 W)
    gi_wp2_with (gi_at_call 82; refine cC.mono ?_; rintro e w' ⟨rfl, rfl⟩)
    go_ret
    have e0 : setI [] = [] := List.eq_nil_of_length_eq_zero (by have := setI_len []; simpa using this)
    exact ⟨.slice none 0 0, rfl, by rw [e0]; exact World.ownsRow_nil _ _ _ _, hbb⟩
  · have hsl := sortI_len zs
    have hH : Go.Sort.Holds (Value.int .i64) W gb 0 (sortI zs).toArray := holds_of_block_i hgb (by rw [hsl]; simpa using r4)
    have hcl : (setI zs).length ≤ (sortI zs).length := Lib.compact_length_le (sortI zs)
    have cC : CallsIn Fence.wide (n - 1) Go.Proofs.Tryz.prog 82 #[.slice (some ⟨gb, 0, none⟩) zs.length cap] W fun e w' => e = .returned (.slice (some ⟨gb, 0, none⟩) (setI zs).length cap) ∧ ∃ q, w' = Go.Sort.putRow (Value.int .i64) (Go.Sort.ahead W q) gb 0 (setI zs ++ List.replicate (zs.length - (setI zs).length) 0).toArray := by
      have h := callsIn_wide (n := n - 1) |>.2 (AnyG.slices_Compact_int Go.Proofs.Tryz.lcomp gb 0 cap (sortI zs) W hH (by omega) (by omega))
      rw [hsl] at h
      exact h
    gi_wp2_with (gi_at_call 82; refine cC.mono ?_; rintro e w' ⟨rfl, q, rfl⟩)
    go_ret
    have hgr : ∀ (d : Array Int), Go.Sort.putRow (Value.int .i64) (Go.Sort.ahead W q) gb 0 d = Go.Sort.grow (Go.Sort.putRow (Value.int .i64) (Go.Sort.ahead W q) gb 0 d) #[] := fun d => by
      show _ = { Go.Sort.putRow (Value.int .i64) (Go.Sort.ahead W q) gb 0 d with heap := (Go.Sort.putRow (Value.int .i64) (Go.Sort.ahead W q) gb 0 d).heap ++ #[] }
      rw [Array.append_empty]
    have hown : (Go.Sort.grow (Go.Sort.putRow encZ (Go.Sort.ahead W q) gb 0 (setI zs ++ List.replicate (zs.length - (setI zs).length) 0).toArray) #[]).ownsRow _ 2 1 (.slice (some ⟨gb, 0, none⟩) zs.length cap) zs.length _ := ownsRow_sorted_i (ss := zs) (by rw [List.length_append, List.length_replicate]; omega) hbase hgb r1 r2 r3
    rw [hgr]
    refine ⟨_, rfl, ?_, hbb.grown (grownBy_sorted_i _) hbb.size (fun j hj => by cases hj; simp at hbase; omega)⟩
    have h2 := ownsRow_cut hown (k := (setI zs).length) (by omega)
    rw [List.map_append, List.take_left' (by simp)] at h2
    exact ⟨h2.1, h2.2.imp id (fun ⟨g, cap, cur, h3, h4, h5⟩ => ⟨g, cap, cur, h3, by simp at h4; omega, h5⟩)⟩
theorem repP_ints {w : World} {F : Nat → Prop} {xs : List Int} {v : Value} (h : RepP w F (.sl 1 (i64s xs)) v) : ∃ A c, v = .slice A xs.length c ∧ (A = none → xs = []) ∧ ∀ ad, A = some ad → (xs ≠ [] → F ad.block ∧ ad.spot = none) ∧ ∀ j, j < xs.length → w.cell? ⟨ad.block, ad.off + j, none⟩ = some (.int .i64 (xs[j]?.getD 0)) := by
  generalize hr : i64s xs = rows at h
  cases h with
  | sl sz rows A c V hg h0 hm hF hc hrr =>
    subst hr
    refine ⟨A, c, by rw [List.length_map], fun hA => by have := (h0 hA).1; simpa using this, fun ad hA => ⟨fun hx => hF ad hA (by simpa using hx), fun j hj => ?_⟩⟩
    have hrow : (i64s xs)[j]? = some [.val (.int .i64 (xs[j]?.getD 0))] := by rw [List.getElem?_map, List.getElem?_eq_getElem hj]; rfl
    have h1 := (hc ad j 0 _ _ hA hrow rfl).1
    have h2 := hrr j 0 _ _ hrow rfl
    rw [Nat.mul_one, Nat.add_zero] at h1
    rw [h1, repP_val h2]
theorem fnOk_ints {X : Type} {f : FuncId} (args : X → List D) (pre : X → Prop) (res : X → List Int) (ty : TypeId) (hent : ∀ args w, (callFunc f args).run Pr w = .ok (.enter f args) w)
    (h : ∀ x, pre x → ∀ (w : World) (L : LF) (G : Nat → Prop) (hv : Nat → Value) (vs : List Value), RepAL L w (FOf G hv [] w) (args x) vs → Calls Pr f vs.toArray w (fun e w' => ∃ v, e = .returned v ∧ w'.ownsRow w.heap.size ty 1 v (res x).length ((res x).map (Value.int .i64)) ∧ Below w.heap.size w w')) :
    FnOk Pr f { args := args, pre := pre, new := fun x => [⟨ty, 1, false, i64s (res x)⟩], res := fun _ => .own 0 : Spec X } :=
  ⟨hent, fun x hx => ⟨rfl, fun w S G hv vs hG hI ha => by
    refine (h x hx w _ G hv vs ha).mono fun e w' hw => ?_
    obtain ⟨v, rfl, hrow, hb⟩ := hw
    have hob : ∀ b, v.ownBlock = some b → w.heap.size ≤ b := fun b hb' => (hrow.lt b hb').1
    obtain ⟨h1, h2, h3⟩ := HInv.alloc (hp := []) hI (h0 := 0) rfl (ob := ⟨ty, 1, false, i64s (res x)⟩) (v := v) hb hob (by
      refine ⟨(res x).map (Value.int .i64), ⟨by simp, ?_⟩, fun y hy => by obtain ⟨s, _, rfl⟩ := List.mem_map.1 hy; rfl, fun i j y d hi hj => ?_⟩
      · rcases hrow.2 with ⟨e1, e2⟩ | ⟨g, cap, cur, e1, e2, e3⟩
        · exact .inl ⟨e1, by simpa using e2⟩
        · exact .inr ⟨g, cap, cur, by simpa using e1, Nat.zero_le _, by simpa using e3⟩
      · simp only [List.getElem?_map, Option.map_eq_some_iff] at hi
        obtain ⟨s, hs, rfl⟩ := hi
        match j, hj with
        | 0, hj =>
          simp only [List.getElem?_cons_zero, Option.some.injEq] at hj
          subst hj
          exact ⟨.int .i64 s, by simp [hs], rfl, (RepP.val _ : RepP _ _ (.val (.int .i64 s)) _)⟩)
    exact ⟨v, _, rfl, h1, fun i hi => absurd hi (by simp), ⟨1, by simp [LOf, numbered, lk]⟩⟩⟩⟩
noncomputable abbrev s_I_setList : Spec (List Int) := { args := fun x => [.sl 1 (i64s x)], pre := fun x => x.length ≤ 1000, new := fun x => [⟨2, 1, false, i64s (setI x)⟩], res := fun _ => .own 0 }
theorem ok_I_setList : FnOk Pr 44 s_I_setList :=
  fnOk_ints _ _ setI 2 (enters_of Go.Proofs.Tryz.func44 (by kernel_rfl) rfl) fun x hx w L G hv vs ha => by
    match vs, ha with
    | [v1], ⟨a1, _⟩ =>
      obtain ⟨A, c, rfl, hA0, hA1⟩ := repP_ints (show RepP w _ (.sl 1 (i64s x)) v1 from a1)
      refine callsIn_wide.1 (setList_in 6 (by omega) A c x hx w ?_)
      by_cases hxs : x = []
      · subst hxs; exact .inl ⟨A, c, rfl, rfl⟩
      · cases A with
        | none => exact absurd (hA0 rfl) hxs
        | some ad =>
          obtain ⟨hF, hcells⟩ := hA1 ad rfl
          obtain ⟨hF1, hF2⟩ := hF hxs
          obtain ⟨blk, off, spot⟩ := ad
          simp only at hF2
          subst hF2
          exact .inr ⟨blk, off, c, rfl, hF1.1.1, hcells⟩
    | [], h => exact h.elim
    | _ :: _ :: _, ⟨_, h⟩ => exact h.elim
end Go.Proofs.YtheoapoddmmahaaGreat.Abs

