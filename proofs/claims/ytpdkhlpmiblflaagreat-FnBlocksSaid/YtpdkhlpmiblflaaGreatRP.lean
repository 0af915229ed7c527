/- Proved here: the law FnBlocks answers true, for all arguments that its guards let in, and never panics. Conditions: those of the given statement (its row), and no others. -/
import Derived.Test.YtpdkhlpmiblflaaGreatRows
import Derived.Test.YtpdkhlpmiblflaaGreatP2
set_option linter.unusedVariables false
set_option linter.unusedSimpArgs false
namespace Go.Proofs.YtpdkhlpmiblflaaGreat.Abs
open Go Go.RowKit Go.ChangeShapes Go.WideShapes Go.ChangeAt Go.Joins
open Go.Proofs.YtpdkhlpmiblflaaGreat
theorem Pr_own : ownKnob Pr.godebug = none := by kernel_rfl
theorem Pr_laid : laidOutB Pr = true := by kernel_rfl

theorem u8_in {n : Int} (h : (Lit.int .u8 n).wf = true) : 0 ≤ n ∧ n ≤ 255 := by
  simp only [Lit.wf, Bool.and_eq_true, decide_eq_true_eq] at h
  exact h
theorem map_rows {α : Type} {f : List Int → List D} {g : α → List D} {p : List Int → Prop} {q : α → Prop} (h : ∀ ns, p ns → ∃ a, f ns = g a ∧ q a) : ∀ rows : List (List Int), (∀ ns ∈ rows, p ns) → ∃ ys : List α, rows.map f = ys.map g ∧ (∀ a ∈ ys, q a) ∧ ys.length = rows.length
  | [], _ => ⟨[], rfl, by simp, rfl⟩
  | ns :: rows, hp => by
    obtain ⟨a, e, hq⟩ := h ns (hp ns (by simp))
    obtain ⟨ys, e2, hq2, hl⟩ := map_rows h rows (fun n hn => hp n (by simp [hn]))
    exact ⟨a :: ys, by simp [e, e2], by simpa [hq] using hq2, by simp [hl]⟩
theorem sh_bytes {D : D} (h : RRows [.u8] D) : ∃ xs, ((∀ x ∈ xs, 0 ≤ x ∧ x ≤ 255) ∧ xs.length ≤ 9223372036854775807) ∧ D = .sl 1 (ints .u8 xs) := by
  obtain ⟨rows, h1, h2, rfl⟩ := h
  obtain ⟨xs, e, hq, hl⟩ := map_rows (g := fun n : Int => [D.val (.int .u8 n)]) (q := fun n => 0 ≤ n ∧ n ≤ 255) (f := rowD [.u8]) (fun ns hn => by
    obtain ⟨a, rfl⟩ := len1 (wfAll_length hn)
    exact ⟨a, rfl, u8_in hn.1⟩) rows h1
  exact ⟨xs, ⟨hq, by rw [hl]; simpa [maxLen] using h2⟩, by rw [e]; rfl⟩
set_option maxRecDepth 100000 in
theorem fnBlocks_calls {H : Type} {enc : TypeId × Value → H} {W : World} {base : Nat} {args : Array Value} {ds : List (DataW H)} {ps : List MemPlace} (hA : DataW.TrodAll enc Pr W 0 (fun _ => true) true [22, 22] args.toList ds ps) (hv : ∀ (j : Nat) t v, [22, 22][j]? = some t → args.toList[j]? = some v → Value.okWide Pr W .any base t v) :
    Calls Pr 3 args W (fun e w' => e = .returned (.bool true) ∧ Below W.heap.size W w') :=
  law_row ok_L_FnBlocks (fun _ => rfl) (fun _ => rfl) (fun _ => rfl) (fun _ => rfl) (Rs := [(RRows [.u8]), (RRows [.u8])]) (readsAll_cons (reads_rows Go.Proofs.Tryz.underlying22 (FlatT.int Go.Proofs.Tryz.underlying5) (by kernel_rfl) (by decide)) (readsAll_cons (reads_rows Go.Proofs.Tryz.underlying22 (FlatT.int Go.Proofs.Tryz.underlying5) (by kernel_rfl) (by decide)) readsAll_nil)) (by
    rintro Ds h
    obtain ⟨_, _, rfl, r0, k0⟩ := allR_cons h
    obtain ⟨_, _, rfl, r1, k1⟩ := allR_cons k0
    obtain rfl := allR_nil k1
    obtain ⟨x0, p0, rfl⟩ := sh_bytes r0
    obtain ⟨x1, p1, rfl⟩ := sh_bytes r1
    exact ⟨(x0, x1), ⟨p0, p1⟩, rfl⟩) hA hv (fun p hp => by cases hp)

set_option maxRecDepth 100000 in
theorem fnBlocks_lifted (os : Os) (started : os.Started) (H : Type) (enc : TypeId × Value → H) :
    ReturnsInHanded {} Tryz.checked os 3 .any (Rows.fnBlocksSpec.pre6 enc Tryz.prog Tryz.f3 Rows.fnBlocksRow.domain false) (Rows.fnBlocksSpec.post enc Tryz.prog Tryz.f3 false true false false) := by
  refine returnsInHanded_of_change (C := Tryz.checked) Pr_own started (by kernel_rfl) Tryz.func3
    (ChangeSpec.witness6 (enc := enc) (C := Tryz.checked) false ⟨#[], #[.slice none 0 0, .slice none 0 0], []⟩ 8 (by kernel_rfl) (by kernel_rfl) (by kernel_rfl) (by kernel_rfl)) ?_
  intro W base args ds gs before hval0 hW _ _
  have hW' := hW
  obtain ⟨p, q, hA0, hV, rfl, _, _⟩ := hW
  have hA : DataW.TrodAll enc Tryz.prog W 0 (fun _ => true) true [22, 22] args.toList ds p := hA0
  have hval : ∀ (j : Nat) t v, [22, 22][j]? = some t → args.toList[j]? = some v → Value.okWide Tryz.prog W .any base t v := fun j t v ht hv => hval0 j t v (by rw [← Array.getElem?_toList]; exact ht) (by rw [← Array.getElem?_toList]; exact hv)
  have hkeep : ∀ W', Below W.heap.size W W' → DataW.TrodAll enc Tryz.prog W' 0 (fun b => decide (b < W.heap.size)) true Tryz.f3.params.toList args.toList ds p := fun W' hb => trodAll_keep Pr_laid hb (by kernel_rfl) hA0
  have hc := fnBlocks_calls hA hval
  obtain ⟨d0, d1, rfl⟩ := len2 (trodAll_len hA)
  obtain ⟨rfl, rfl⟩ := trodVars_none hV
  clear hA0 hval0 hval hA
  exact hc.mono fun e W' h => ⟨_, h.1, _, _, _, [], _, [], hW', trodAll_mk1 (shut_bool Tryz.underlying4 _), hkeep W' h.2, rfl, h.2.frame _, fun h => by cases h⟩

theorem fnBlocks_holds : Rows.FnBlocksSaid :=
  OpenClaim.holds_of_wide 3 Tryz.f3 rfl rfl rfl rfl rfl rfl rfl ⟨rfl, rfl, rfl, rfl, rfl⟩ rfl rfl rfl rfl rfl (by kernel_rfl) Tryz.func3 (by kernel_rfl)
    (of_decide_eq_true (by kernel_rfl)) (by unfold Func.isWrapper; first | (rw [if_pos (by decide +kernel)]; kernel_rfl) | (rw [if_neg (by decide +kernel)]; exact ⟨rfl, rfl⟩))
    (fun os started H enc _ => fnBlocks_lifted os started H enc)
end Go.Proofs.YtpdkhlpmiblflaaGreat.Abs

