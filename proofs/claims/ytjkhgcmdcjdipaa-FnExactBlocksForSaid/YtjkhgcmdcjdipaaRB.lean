/- Proved here: the law FnExactBlocksFor answers true, for all arguments that its guards let in, and never panics. Conditions: those of the given statement (its row), and no others. -/
import Derived.Test.YtjkhgcmdcjdipaaRows
import Derived.Test.YtjkhgcmdcjdipaaX5
set_option linter.unusedVariables false
set_option linter.unusedSimpArgs false
namespace Go.Proofs.Ytjkhgcmdcjdipaa.Abs
open Go Go.RowKit Go.ChangeShapes Go.WideShapes Go.ChangeAt Go.Joins
open Go.Proofs.Ytjkhgcmdcjdipaa
theorem Pr_own : ownKnob Pr.godebug = none := by kernel_rfl
theorem Pr_laid : laidOutB Pr = true := by kernel_rfl

theorem flat_44 : FlatT Pr 44 [.u8, .u8, .u8] := FlatT.array Go.Proofs.Try.underlying44 (FlatT.int Go.Proofs.Try.underlying5) (by kernel_rfl) (by kernel_rfl)

theorem flat_48 : FlatT Pr 48 [.i16, .u8, .u8, .u8, .i16, .i16, .i16, .i16] := FlatT.struct (kss := [[.i16], [.u8, .u8, .u8], [.i16], [.i16], [.i16], [.i16]]) Go.Proofs.Try.underlying48 (by kernel_rfl) ⟨rfl, by kernel_rfl, (FlatT.int Go.Proofs.Try.underlying43), ⟨rfl, by kernel_rfl, flat_44, ⟨rfl, by kernel_rfl, (FlatT.int Go.Proofs.Try.underlying43), ⟨rfl, by kernel_rfl, (FlatT.int Go.Proofs.Try.underlying43), ⟨rfl, by kernel_rfl, (FlatT.int Go.Proofs.Try.underlying43), ⟨rfl, by kernel_rfl, (FlatT.int Go.Proofs.Try.underlying43), trivial⟩⟩⟩⟩⟩⟩

theorem i16_in {n : Int} (h : (Lit.int .i16 n).wf = true) : -32768 ≤ n ∧ n ≤ 32767 := by
  simp only [Lit.wf, Bool.and_eq_true, decide_eq_true_eq] at h
  exact h
theorem i64_in {n : Int} (h : (Lit.int .i64 n).wf = true) : -9223372036854775808 ≤ n ∧ n ≤ 9223372036854775807 := by
  simp only [Lit.wf, Bool.and_eq_true, decide_eq_true_eq] at h
  exact h
theorem u8_in {n : Int} (h : (Lit.int .u8 n).wf = true) : 0 ≤ n ∧ n ≤ 255 := by
  simp only [Lit.wf, Bool.and_eq_true, decide_eq_true_eq] at h
  exact h
theorem map_rows {α : Type} {f : List Int → List D} {g : α → List D} {p : List Int → Prop} {q : α → Prop} (h : ∀ ns, p ns → ∃ a, f ns = g a ∧ q a) : ∀ rows : List (List Int), (∀ ns ∈ rows, p ns) → ∃ ys : List α, rows.map f = ys.map g ∧ (∀ a ∈ ys, q a) ∧ ys.length = rows.length
  | [], _ => ⟨[], rfl, by simp, rfl⟩
  | ns :: rows, hp => by
    obtain ⟨a, e, hq⟩ := h ns (hp ns (by simp))
    obtain ⟨ys, e2, hq2, hl⟩ := map_rows h rows (fun n hn => hp n (by simp [hn]))
    exact ⟨a :: ys, by simp [e, e2], by simpa [hq] using hq2, by simp [hl]⟩
theorem bk_ns {ns : List Int} (h : WfAll [.i16, .u8, .u8, .u8, .i16, .i16, .i16, .i16] ns) : ∃ b : Bk, isBk b ∧ ns = [b.cls, b.m0, b.m1, b.m2, b.vol, b.wide, b.high, b.weight] := by
  obtain ⟨a0, a1, a2, a3, a4, a5, a6, a7, rfl⟩ := len8 (wfAll_length h)
  exact ⟨⟨a0, a1, a2, a3, a4, a5, a6, a7⟩, ⟨i16_in h.1, u8_in h.2.1, u8_in h.2.2.1, u8_in h.2.2.2.1, i16_in h.2.2.2.2.1, i16_in h.2.2.2.2.2.1, i16_in h.2.2.2.2.2.2.1, i16_in h.2.2.2.2.2.2.2.1⟩, rfl⟩
theorem sh_book {D : D} (h : RFlat [.i16, .u8, .u8, .u8, .i16, .i16, .i16, .i16] D) : ∃ x, isBk x ∧ D = bkD x := by
  obtain ⟨ns, h1, rfl⟩ := h
  obtain ⟨b, h2, rfl⟩ := bk_ns h1
  exact ⟨b, h2, rfl⟩
theorem sh_books {D : D} (h : RRows [.i16, .u8, .u8, .u8, .i16, .i16, .i16, .i16] D) : ∃ xs, ((∀ b ∈ xs, isBk b) ∧ xs.length ≤ 9223372036854775807) ∧ D = .sl 8 (bks xs) := by
  obtain ⟨rows, h1, h2, rfl⟩ := h
  obtain ⟨xs, e, hq, hl⟩ := map_rows (g := bkRow) (q := isBk) (f := rowD [.i16, .u8, .u8, .u8, .i16, .i16, .i16, .i16]) (fun ns hn => by
    obtain ⟨b, h2, rfl⟩ := bk_ns hn
    exact ⟨b, rfl, h2⟩) rows h1
  exact ⟨xs, ⟨hq, by rw [hl]; simpa [maxLen] using h2⟩, by rw [e]; rfl⟩
set_option maxRecDepth 100000 in
theorem fnExactBlocksFor_calls {H : Type} {enc : TypeId × Value → H} {W : World} {base : Nat} {args : Array Value} {ds : List (DataW H)} {ps : List MemPlace} (hA : DataW.TrodAll enc Pr W 0 (fun _ => true) true [22] args.toList ds ps) (hv : ∀ (j : Nat) t v, [22][j]? = some t → args.toList[j]? = some v → Value.okWide Pr W .any base t v) :
    Calls Pr 4 args W (fun e w' => e = .returned (.bool true) ∧ Below W.heap.size W w') :=
  law_row ok_L_FnExactBlocksFor (fun _ => rfl) (fun _ => rfl) (fun _ => rfl) (fun _ => rfl) (Rs := [(RRows [.i16, .u8, .u8, .u8, .i16, .i16, .i16, .i16])]) (readsAll_cons (reads_rows Go.Proofs.Try.underlying22 flat_48 (by kernel_rfl) (by decide)) readsAll_nil) (by
    rintro Ds h
    obtain ⟨_, _, rfl, r0, k0⟩ := allR_cons h
    obtain rfl := allR_nil k0
    obtain ⟨x0, p0, rfl⟩ := sh_books r0
    exact ⟨x0, p0, rfl⟩) hA hv (fun p hp => by cases hp)

set_option maxRecDepth 100000 in
theorem fnExactBlocksFor_lifted (os : Os) (started : os.Started) (H : Type) (enc : TypeId × Value → H) :
    ReturnsInHanded {} Try.checked os 4 .any (Rows.fnExactBlocksForSpec.pre6 enc Try.prog Try.f4 Rows.fnExactBlocksForRow.domain false) (Rows.fnExactBlocksForSpec.post enc Try.prog Try.f4 false true false false) := by
  refine returnsInHanded_of_change (C := Try.checked) Pr_own started (by kernel_rfl) Try.func4
    (ChangeSpec.witness6 (enc := enc) (C := Try.checked) false ⟨#[], #[.slice none 0 0], []⟩ 8 (by kernel_rfl) (by kernel_rfl) (by kernel_rfl) (by kernel_rfl)) ?_
  intro W base args ds gs before hval0 hW _ _
  have hW' := hW
  obtain ⟨p, q, hA0, hV, rfl, _, _⟩ := hW
  have hA : DataW.TrodAll enc Try.prog W 0 (fun _ => true) true [22] args.toList ds p := hA0
  have hval : ∀ (j : Nat) t v, [22][j]? = some t → args.toList[j]? = some v → Value.okWide Try.prog W .any base t v := fun j t v ht hv => hval0 j t v (by rw [← Array.getElem?_toList]; exact ht) (by rw [← Array.getElem?_toList]; exact hv)
  have hkeep : ∀ W', Below W.heap.size W W' → DataW.TrodAll enc Try.prog W' 0 (fun b => decide (b < W.heap.size)) true Try.f4.params.toList args.toList ds p := fun W' hb => trodAll_keep Pr_laid hb (by kernel_rfl) hA0
  have hc := fnExactBlocksFor_calls hA hval
  obtain ⟨d0, rfl⟩ := len1 (trodAll_len hA)
  obtain ⟨rfl, rfl⟩ := trodVars_none hV
  clear hA0 hval0 hval hA
  exact hc.mono fun e W' h => ⟨_, h.1, _, _, _, [], _, [], hW', trodAll_mk1 (shut_bool Try.underlying4 _), hkeep W' h.2, rfl, h.2.frame _, fun h => by cases h⟩

theorem fnExactBlocksFor_holds : Rows.FnExactBlocksForSaid :=
  OpenClaim.holds_of_wide 4 Try.f4 rfl rfl rfl rfl rfl rfl rfl ⟨rfl, rfl, rfl, rfl, rfl⟩ rfl rfl rfl rfl rfl (by kernel_rfl) Try.func4 (by kernel_rfl)
    (of_decide_eq_true (by kernel_rfl)) (by unfold Func.isWrapper; first | (rw [if_pos (by decide +kernel)]; kernel_rfl) | (rw [if_neg (by decide +kernel)]; exact ⟨rfl, rfl⟩))
    (fun os started H enc _ => fnExactBlocksFor_lifted os started H enc)
end Go.Proofs.Ytjkhgcmdcjdipaa.Abs
