import Derived.Test.YtbgapcmdigcejaaDoorRows
import Derived.Test.YtbgapcmdigcejaaDoorCards
import Derived.Test.YtbgapcmdigcejaaDoorTie
import Derived.LaidMore
import Derived.OpenShut
import Derived.Stop.Joined
import Derived.SevenTiedAt
import Derived.Test.YtbgapcmdigcejaaDoorT5
set_option linter.unusedVariables false
set_option linter.unusedSimpArgs false
namespace Go.Proofs.YtbgapcmdigcejaaDoor.Abs
open Go Go.RowKit Go.ChangeShapes Go.WideShapes Go.ChangeAt Go.WideMaps Go.WideElems Go.Joins
open Go.Proofs.YtbgapcmdigcejaaDoor
theorem Pr_own : ownKnob Pr.godebug = none := by kernel_rfl
theorem Pr_laid : laidOutB Pr = true := by kernel_rfl

theorem flat_31 : FlatT Pr 31 [.i16, .i16, .i16] := FlatT.struct (kss := [[.i16], [.i16], [.i16]]) Go.Proofs.Tryd.underlying31 (by kernel_rfl) ⟨rfl, by kernel_rfl, (FlatT.int Go.Proofs.Tryd.underlying29), ⟨rfl, by kernel_rfl, (FlatT.int Go.Proofs.Tryd.underlying29), ⟨rfl, by kernel_rfl, (FlatT.int Go.Proofs.Tryd.underlying29), trivial⟩⟩⟩

theorem i16_in {n : Int} (h : (Lit.int .i16 n).wf = true) : -32768 ≤ n ∧ n ≤ 32767 := by
  simp only [Lit.wf, Bool.and_eq_true, decide_eq_true_eq] at h
  exact h
theorem i64_in {n : Int} (h : (Lit.int .i64 n).wf = true) : -9223372036854775808 ≤ n ∧ n ≤ 9223372036854775807 := by
  simp only [Lit.wf, Bool.and_eq_true, decide_eq_true_eq] at h
  exact h
theorem u8_in {n : Int} (h : (Lit.int .u8 n).wf = true) : 0 ≤ n ∧ n ≤ 255 := by
  simp only [Lit.wf, Bool.and_eq_true, decide_eq_true_eq] at h
  exact h
theorem map_rows {α : Type} {f : List Int → List D} {g : α → List D} {p : List Int → Prop} {q : α → Prop} (h : ∀ ns, p ns → ∃ a, f ns = g a ∧ q a) : ∀ rows : List (List Int), (∀ ns ∈ rows, p ns) → ∃ ys : List α, rows.map f = ys.map g ∧ (∀ a ∈ ys, q a) ∧ ys.length = rows.length
  | [], _ => ⟨[], rfl, by simp, rfl⟩
  | ns :: rows, hp => by
    obtain ⟨a, e, hq⟩ := h ns (hp ns (by simp))
    obtain ⟨ys, e2, hq2, hl⟩ := map_rows h rows (fun n hn => hp n (by simp [hn]))
    exact ⟨a :: ys, by simp [e, e2], by simpa [hq] using hq2, by simp [hl]⟩
theorem sh_pegs {D : D} (h : RFlat [.i16, .i16, .i16] D) : ∃ x, isPegs x ∧ D = pegs x := by
  obtain ⟨ns, h1, rfl⟩ := h
  obtain ⟨a, b, c, rfl⟩ := len3 (wfAll_length h1)
  exact ⟨(a, b, c), ⟨i16_in h1.1, i16_in h1.2.1, i16_in h1.2.2.1⟩, rfl⟩
theorem sh_i64s {D : D} (h : RRows [.i64] D) : ∃ xs, (I64s xs ∧ xs.length ≤ 9223372036854775807) ∧ D = .sl 1 (i64s xs) := by
  obtain ⟨rows, h1, h2, rfl⟩ := h
  obtain ⟨xs, e, hq, hl⟩ := map_rows (g := fun n : Int => [D.val (.int .i64 n)]) (q := fun n => -9223372036854775808 ≤ n ∧ n ≤ 9223372036854775807) (f := rowD [.i64]) (fun ns hn => by
    obtain ⟨a, rfl⟩ := len1 (wfAll_length hn)
    exact ⟨a, rfl, i64_in hn.1⟩) rows h1
  exact ⟨xs, ⟨hq, by rw [hl]; simpa [maxLen] using h2⟩, by rw [e]; rfl⟩
set_option maxRecDepth 100000 in
theorem fnExactHeightsText_calls {H : Type} {enc : TypeId × Value → H} {W : World} {base : Nat} {args : Array Value} {ds : List (DataW H)} {ps : List MemPlace} (hA : DataW.TrodAll enc Pr W 0 (fun _ => true) true [31, 32] args.toList ds ps) (hv : ∀ (j : Nat) t v, [31, 32][j]? = some t → args.toList[j]? = some v → Value.okWide Pr W .any base t v) (ht : TabAt [] W) :
    Calls Pr 4 args W (fun e w' => e = .returned (.bool true) ∧ Below W.heap.size W w') :=
  law_row ok_L_FnExactHeightsText (fun _ => rfl) (fun _ => rfl) (fun _ => rfl) (fun _ => rfl) (Rs := [(RFlat [.i16, .i16, .i16]), (RRows [.i64])]) (readsAll_cons (reads_flat Go.Proofs.Tryd.underlying31 flat_31) (readsAll_cons (reads_rows Go.Proofs.Tryd.underlying32 (FlatT.int Go.Proofs.Tryd.underlying2) (by kernel_rfl) (by decide)) readsAll_nil)) (by
    rintro Ds h
    obtain ⟨_, _, rfl, r0, k0⟩ := allR_cons h
    obtain ⟨_, _, rfl, r1, k1⟩ := allR_cons k0
    obtain rfl := allR_nil k1
    obtain ⟨x0, p0, rfl⟩ := sh_pegs r0
    obtain ⟨x1, p1, rfl⟩ := sh_i64s r1
    exact ⟨(x0, x1), ⟨p0, p1⟩, rfl⟩) hA hv ht

set_option maxRecDepth 100000 in
noncomputable abbrev fnExactHeightsText_laid : List (String × DataW Unit) := Rows.fnExactHeightsTextRow.laid
theorem tab_laid {W : World} (h : laidMetH Tryd.prog fnExactHeightsText_laid W) : TabAt [] W := by
  rw [MakeChecks.laidMetH_plain _ _ _ (by kernel_rfl)] at h
  obtain ⟨ps, ⟨g0, t0, cs0, f0, p0, q0, hg0, ht0, hv0, hd0, ⟨g1, t1, cs1, f1, p1, q1, hg1, ht1, hv1, hd1, ⟨g2, t2, cs2, f2, p2, q2, hg2, ht2, hv2, hd2, _, _⟩, _⟩, _⟩, _, _⟩ := h
  have gT : Tryd.prog.globalNamed "internal/strconv.uint64pow10" = some 1 := by kernel_rfl
  have tT : (Tryd.prog.globals[1]?).map (·.type) = some 89 := by kernel_rfl
  obtain rfl := Option.some.inj (gT.symm.trans hg2)
  obtain rfl := Option.some.inj (tT.symm.trans ht2)
  have hcs : cs2.toList = Lib.pow10Tab.map fun z => Value.int .u64 z := Lib.cells_of_tab (n := 20) Tryd.underlying89 Tryd.underlying82 (by kernel_rfl) (by kernel_rfl) (zs := Lib.pow10Tab) hd2
  unfold World.var? at hv2
  rw [gT] at hv2
  simp only [Option.bind_some] at hv2
  split at hv2
  · rename_i cs ty fr hheap
    cases hv2
    intro p hp
    rw [tabs, List.mem_singleton] at hp
    subst hp
    exact ⟨(Array.getElem?_eq_some_iff.1 hheap).1, by simp, _, hheap, ty, fr, by rw [← hcs]⟩
  · cases hv2
theorem fnExactHeightsText_door (os : Os) (args : Array Value) : laidMetH Tryd.prog fnExactHeightsText_laid ((World.doorLaid Tryd.prog 2000 os).forCall (fun _ _ => 0) ⟨#[], args, []⟩).memory :=
  laidMetH_of_parts3 (fuel := 8) (laidMet_of_run' 8 (by kernel_rfl) (by kernel_rfl)) (by kernel_rfl) (by kernel_rfl)
set_option maxRecDepth 100000 in
theorem fnExactHeightsText_lifted (os : Os) (started : os.Started) (H : Type) (enc : TypeId × Value → H) :
    ReturnsInHanded {} Tryd.checked os 4 .any (fun w args => (Rows.fnExactHeightsTextSpec.pre enc Tryd.prog Tryd.f4 [] false w args ∧ laidMetH Tryd.prog fnExactHeightsText_laid w) ∧ sizedMet enc Tryd.prog Tryd.f4 (OpenSpec.ofChange Rows.fnExactHeightsTextSpec) false w args) (Rows.fnExactHeightsTextSpec.post enc Tryd.prog Tryd.f4 false true false false) := by
  refine returnsInHanded_of_change_and (C := Tryd.checked) (X := fun w _ => laidMetH Tryd.prog fnExactHeightsText_laid w) (fun _ _ _ hh h => h.of_heap hh) Pr_own started (by kernel_rfl) Tryd.func4
    (ChangeSpec.witness_shaped (enc := enc) (C := Tryd.checked) (os := os) (X := fun w _ => laidMetH Tryd.prog fnExactHeightsText_laid w) false (World.doorLaid Tryd.prog 2000 os) #[.agg #[.int .i16 0, .int .i16 0, .int .i16 0], .slice none 0 0] 8 rfl (World.shaped_of_RefB (by kernel_rfl) (by kernel_rfl)) (by kernel_rfl) (by kernel_rfl) (by kernel_rfl) (fnExactHeightsText_door os _)) ?_
  intro W base args ds gs before hval0 hW _ _ hlaid _
  have hW' := hW
  obtain ⟨p, q, hA0, hV, rfl, _, _⟩ := hW
  have hA : DataW.TrodAll enc Tryd.prog W 0 (fun _ => true) true [31, 32] args.toList ds p := hA0
  have hval : ∀ (j : Nat) t v, [31, 32][j]? = some t → args.toList[j]? = some v → Value.okWide Tryd.prog W .any base t v := fun j t v ht hv => hval0 j t v (by rw [← Array.getElem?_toList]; exact ht) (by rw [← Array.getElem?_toList]; exact hv)
  have hkeep : ∀ W', Below W.heap.size W W' → DataW.TrodAll enc Tryd.prog W' 0 (fun b => decide (b < W.heap.size)) true Tryd.f4.params.toList args.toList ds p := fun W' hb => trodAll_keep Pr_laid hb (by kernel_rfl) hA0
  have hc := fnExactHeightsText_calls hA hval (tab_laid hlaid)
  obtain ⟨d0, d1, rfl⟩ := len2 (trodAll_len hA)
  obtain ⟨rfl, rfl⟩ := trodVars_none hV
  clear hA0 hval0 hval hA
  exact hc.mono fun e W' h => ⟨_, h.1, _, _, _, [], _, [], hW', trodAll_mk1 (shut_bool Tryd.underlying4 _), hkeep W' h.2, rfl, h.2.frame _, fun h => by cases h⟩

theorem fnExactHeightsText_row : Rows.FnExactHeightsTextSaid :=
  OpenClaim.holds_of_wide 4 Tryd.f4 rfl rfl rfl rfl rfl rfl rfl ⟨rfl, rfl, rfl, rfl, rfl⟩ rfl rfl rfl rfl rfl (by kernel_rfl) Tryd.func4 (by kernel_rfl)
    (of_decide_eq_true (by kernel_rfl)) (by unfold Func.isWrapper; first | (rw [if_pos (by decide +kernel)]; kernel_rfl) | (rw [if_neg (by decide +kernel)]; exact ⟨rfl, rfl⟩))
    (fun os started H enc _ => fnExactHeightsText_lifted os started H enc)

theorem fnExactHeightsText_holds : Rows.FnExactHeightsTextCardSaid :=
  Claim7.holds_tied_plain_at .later [] [.data, .data, .data] true Rows.fnExactHeightsTextCard.stood.harness false
    fnExactHeightsText_row (fun _ h => by cases h) (by kernel_rfl) (fun _ h => by cases h) fnExactHeightsText_row_tie rfl ⟨rfl, rfl⟩ (by kernel_rfl) rfl
    (fun f fn hf hfn => by
      obtain rfl : f = 4 := Option.some.inj ((show Tryd.prog.funcNamed Rows.fnExactHeightsTextRow.func = some 4 by kernel_rfl).symm.trans hf) |>.symm
      obtain rfl : fn = Tryd.f4 := (Option.some.inj (Tryd.func4.symm.trans hfn)).symm
      exact ⟨by kernel_rfl, fun j t ht => by
        rw [Tryd.params4] at ht
        have hm : t ∈ [31, 32] := by simpa using Array.mem_of_getElem? ht
        have hall : ([31, 32].all fun u => !Tryd.prog.wantsStandIn u) = true := by kernel_rfl
        exact (show Tryd.prog.wantsStandIn t = false by simpa using List.all_eq_true.1 hall t hm)⟩)
    (by kernel_rfl)
end Go.Proofs.YtbgapcmdigcejaaDoor.Abs
