import Derived.Test.YtbgapcmdigcejaaDoorRows
import Derived.Test.YtbgapcmdigcejaaDoorCards
import Derived.Test.YtbgapcmdigcejaaDoorTie
import Derived.LaidMore
import Derived.OpenShut
import Derived.Stop.Joined
import Derived.SevenTiedAt
import Derived.Test.YtbgapcmdigcejaaDoorT3
set_option linter.unusedVariables false
set_option linter.unusedSimpArgs false
namespace Go.Proofs.YtbgapcmdigcejaaDoor.Abs
open Go Go.RowKit Go.ChangeShapes Go.WideShapes Go.ChangeAt Go.WideMaps Go.WideElems Go.Joins
open Go.Proofs.YtbgapcmdigcejaaDoor
theorem Pr_own : ownKnob Pr.godebug = none := by kernel_rfl
theorem Pr_laid : laidOutB Pr = true := by kernel_rfl

theorem flat_43 : FlatT Pr 43 [.i16, .i16] := FlatT.struct (kss := [[.i16], [.i16]]) Go.Proofs.Tryd.underlying43 (by kernel_rfl) ⟨rfl, by kernel_rfl, (FlatT.int Go.Proofs.Tryd.underlying29), ⟨rfl, by kernel_rfl, (FlatT.int Go.Proofs.Tryd.underlying29), trivial⟩⟩

theorem i16_in {n : Int} (h : (Lit.int .i16 n).wf = true) : -32768 ≤ n ∧ n ≤ 32767 := by
  simp only [Lit.wf, Bool.and_eq_true, decide_eq_true_eq] at h
  exact h
theorem i64_in {n : Int} (h : (Lit.int .i64 n).wf = true) : -9223372036854775808 ≤ n ∧ n ≤ 9223372036854775807 := by
  simp only [Lit.wf, Bool.and_eq_true, decide_eq_true_eq] at h
  exact h
theorem u8_in {n : Int} (h : (Lit.int .u8 n).wf = true) : 0 ≤ n ∧ n ≤ 255 := by
  simp only [Lit.wf, Bool.and_eq_true, decide_eq_true_eq] at h
  exact h
theorem map_rows {α : Type} {f : List Int → List D} {g : α → List D} {p : List Int → Prop} {q : α → Prop} (h : ∀ ns, p ns → ∃ a, f ns = g a ∧ q a) : ∀ rows : List (List Int), (∀ ns ∈ rows, p ns) → ∃ ys : List α, rows.map f = ys.map g ∧ (∀ a ∈ ys, q a) ∧ ys.length = rows.length
  | [], _ => ⟨[], rfl, by simp, rfl⟩
  | ns :: rows, hp => by
    obtain ⟨a, e, hq⟩ := h ns (hp ns (by simp))
    obtain ⟨ys, e2, hq2, hl⟩ := map_rows h rows (fun n hn => hp n (by simp [hn]))
    exact ⟨a :: ys, by simp [e, e2], by simpa [hq] using hq2, by simp [hl]⟩
theorem sh_move {D : D} (h : RFlat [.i16, .i16] D) : ∃ x, isMv x ∧ D = mvD x := by
  obtain ⟨ns, h1, rfl⟩ := h
  obtain ⟨a, b, rfl⟩ := len2 (wfAll_length h1)
  exact ⟨(a, b), ⟨i16_in h1.1, i16_in h1.2.1⟩, rfl⟩
theorem sh_moves {D : D} (h : RRows [.i16, .i16] D) : ∃ xs, ((∀ b ∈ xs, isMv b) ∧ xs.length ≤ 9223372036854775807) ∧ D = .sl 2 (mvs xs) := by
  obtain ⟨rows, h1, h2, rfl⟩ := h
  obtain ⟨xs, e, hq, hl⟩ := map_rows (g := mvRow) (q := isMv) (f := rowD [.i16, .i16]) (fun ns hn => by
    obtain ⟨a, b, rfl⟩ := len2 (wfAll_length hn)
    exact ⟨(a, b), rfl, i16_in hn.1, i16_in hn.2.1⟩) rows h1
  exact ⟨xs, ⟨hq, by rw [hl]; simpa [maxLen] using h2⟩, by rw [e]; rfl⟩
set_option maxRecDepth 100000 in
theorem fnExactMovesText_calls {H : Type} {enc : TypeId × Value → H} {W : World} {base : Nat} {args : Array Value} {ds : List (DataW H)} {ps : List MemPlace} (hA : DataW.TrodAll enc Pr W 0 (fun _ => true) true [22] args.toList ds ps) (hv : ∀ (j : Nat) t v, [22][j]? = some t → args.toList[j]? = some v → Value.okWide Pr W .any base t v) :
    Calls Pr 3 args W (fun e w' => e = .returned (.bool true) ∧ Below W.heap.size W w') :=
  law_row ok_L_FnExactMovesText (fun _ => rfl) (fun _ => rfl) (fun _ => rfl) (fun _ => rfl) (Rs := [(RRows [.i16, .i16])]) (readsAll_cons (reads_rows Go.Proofs.Tryd.underlying22 flat_43 (by kernel_rfl) (by decide)) readsAll_nil) (by
    rintro Ds h
    obtain ⟨_, _, rfl, r0, k0⟩ := allR_cons h
    obtain rfl := allR_nil k0
    obtain ⟨x0, p0, rfl⟩ := sh_moves r0
    exact ⟨x0, p0, rfl⟩) hA hv

set_option maxRecDepth 100000 in
noncomputable abbrev fnExactMovesText_laid : List (String × DataW Unit) := Rows.fnExactMovesTextRow.laid
theorem fnExactMovesText_door (os : Os) (args : Array Value) : laidMetH Tryd.prog fnExactMovesText_laid ((World.doorLaid Tryd.prog 2000 os).forCall (fun _ _ => 0) ⟨#[], args, []⟩).memory :=
  laidMetH_of_parts3 (fuel := 8) (laidMet_of_run' 8 (by kernel_rfl) (by kernel_rfl)) (by kernel_rfl) (by kernel_rfl)
set_option maxRecDepth 100000 in
theorem fnExactMovesText_lifted (os : Os) (started : os.Started) (H : Type) (enc : TypeId × Value → H) :
    ReturnsInHanded {} Tryd.checked os 3 .any (fun w args => (Rows.fnExactMovesTextSpec.pre enc Tryd.prog Tryd.f3 [] false w args ∧ laidMetH Tryd.prog fnExactMovesText_laid w) ∧ sizedMet enc Tryd.prog Tryd.f3 (OpenSpec.ofChange Rows.fnExactMovesTextSpec) false w args) (Rows.fnExactMovesTextSpec.post enc Tryd.prog Tryd.f3 false true false false) := by
  refine returnsInHanded_of_change_and (C := Tryd.checked) (X := fun w _ => laidMetH Tryd.prog fnExactMovesText_laid w) (fun _ _ _ hh h => h.of_heap hh) Pr_own started (by kernel_rfl) Tryd.func3
    (ChangeSpec.witness_shaped (enc := enc) (C := Tryd.checked) (os := os) (X := fun w _ => laidMetH Tryd.prog fnExactMovesText_laid w) false (World.doorLaid Tryd.prog 2000 os) #[.slice none 0 0] 8 rfl (World.shaped_of_RefB (by kernel_rfl) (by kernel_rfl)) (by kernel_rfl) (by kernel_rfl) (by kernel_rfl) (fnExactMovesText_door os _)) ?_
  intro W base args ds gs before hval0 hW _ _ hlaid _
  have hW' := hW
  obtain ⟨p, q, hA0, hV, rfl, _, _⟩ := hW
  have hA : DataW.TrodAll enc Tryd.prog W 0 (fun _ => true) true [22] args.toList ds p := hA0
  have hval : ∀ (j : Nat) t v, [22][j]? = some t → args.toList[j]? = some v → Value.okWide Tryd.prog W .any base t v := fun j t v ht hv => hval0 j t v (by rw [← Array.getElem?_toList]; exact ht) (by rw [← Array.getElem?_toList]; exact hv)
  have hkeep : ∀ W', Below W.heap.size W W' → DataW.TrodAll enc Tryd.prog W' 0 (fun b => decide (b < W.heap.size)) true Tryd.f3.params.toList args.toList ds p := fun W' hb => trodAll_keep Pr_laid hb (by kernel_rfl) hA0
  have hc := fnExactMovesText_calls hA hval
  obtain ⟨d0, rfl⟩ := len1 (trodAll_len hA)
  obtain ⟨rfl, rfl⟩ := trodVars_none hV
  clear hA0 hval0 hval hA
  exact hc.mono fun e W' h => ⟨_, h.1, _, _, _, [], _, [], hW', trodAll_mk1 (shut_bool Tryd.underlying4 _), hkeep W' h.2, rfl, h.2.frame _, fun h => by cases h⟩

theorem fnExactMovesText_row : Rows.FnExactMovesTextSaid :=
  OpenClaim.holds_of_wide 3 Tryd.f3 rfl rfl rfl rfl rfl rfl rfl ⟨rfl, rfl, rfl, rfl, rfl⟩ rfl rfl rfl rfl rfl (by kernel_rfl) Tryd.func3 (by kernel_rfl)
    (of_decide_eq_true (by kernel_rfl)) (by unfold Func.isWrapper; first | (rw [if_pos (by decide +kernel)]; kernel_rfl) | (rw [if_neg (by decide +kernel)]; exact ⟨rfl, rfl⟩))
    (fun os started H enc _ => fnExactMovesText_lifted os started H enc)

theorem fnExactMovesText_holds : Rows.FnExactMovesTextCardSaid :=
  Claim7.holds_tied_plain_at .later [] [.data, .data, .data] true Rows.fnExactMovesTextCard.stood.harness false
    fnExactMovesText_row (fun _ h => by cases h) (by kernel_rfl) (fun _ h => by cases h) fnExactMovesText_row_tie rfl ⟨rfl, rfl⟩ (by kernel_rfl) rfl
    (fun f fn hf hfn => by
      obtain rfl : f = 3 := Option.some.inj ((show Tryd.prog.funcNamed Rows.fnExactMovesTextRow.func = some 3 by kernel_rfl).symm.trans hf) |>.symm
      obtain rfl : fn = Tryd.f3 := (Option.some.inj (Tryd.func3.symm.trans hfn)).symm
      exact ⟨by kernel_rfl, fun j t ht => by
        rw [Tryd.params3] at ht
        have hm : t ∈ [22] := by simpa using Array.mem_of_getElem? ht
        have hall : ([22].all fun u => !Tryd.prog.wantsStandIn u) = true := by kernel_rfl
        exact (show Tryd.prog.wantsStandIn t = false by simpa using List.all_eq_true.1 hall t hm)⟩)
    (by kernel_rfl)
end Go.Proofs.YtbgapcmdigcejaaDoor.Abs
