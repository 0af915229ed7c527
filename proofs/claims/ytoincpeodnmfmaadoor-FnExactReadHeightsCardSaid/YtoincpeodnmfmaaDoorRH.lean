import Derived.Test.YtoincpeodnmfmaaDoorRows
import Derived.Test.YtoincpeodnmfmaaDoorCards
import Derived.Test.YtoincpeodnmfmaaDoorTie
import Derived.LaidMore
import Derived.Shelf.Vars
import Derived.OpenShut
import Derived.Stop.Joined
import Derived.SevenTiedAt
import Derived.Test.YtoincpeodnmfmaaDoorH4
set_option linter.unusedVariables false
set_option linter.unusedSimpArgs false
namespace Go.Proofs.YtoincpeodnmfmaaDoor.Abs
open Go Go.RowKit Go.ChangeShapes Go.WideShapes Go.ChangeAt Go.WideMaps Go.WideElems Go.Joins
open Go.Proofs.YtoincpeodnmfmaaDoor
theorem Pr_own : ownKnob Pr.godebug = none := by kernel_rfl
theorem Pr_laid : laidOutB Pr = true := by kernel_rfl

theorem i16_in {n : Int} (h : (Lit.int .i16 n).wf = true) : -32768 ≤ n ∧ n ≤ 32767 := by
  simp only [Lit.wf, Bool.and_eq_true, decide_eq_true_eq] at h
  exact h
theorem i64_in {n : Int} (h : (Lit.int .i64 n).wf = true) : -9223372036854775808 ≤ n ∧ n ≤ 9223372036854775807 := by
  simp only [Lit.wf, Bool.and_eq_true, decide_eq_true_eq] at h
  exact h
theorem u8_in {n : Int} (h : (Lit.int .u8 n).wf = true) : 0 ≤ n ∧ n ≤ 255 := by
  simp only [Lit.wf, Bool.and_eq_true, decide_eq_true_eq] at h
  exact h
theorem map_rows {α : Type} {f : List Int → List D} {g : α → List D} {p : List Int → Prop} {q : α → Prop} (h : ∀ ns, p ns → ∃ a, f ns = g a ∧ q a) : ∀ rows : List (List Int), (∀ ns ∈ rows, p ns) → ∃ ys : List α, rows.map f = ys.map g ∧ (∀ a ∈ ys, q a) ∧ ys.length = rows.length
  | [], _ => ⟨[], rfl, by simp, rfl⟩
  | ns :: rows, hp => by
    obtain ⟨a, e, hq⟩ := h ns (hp ns (by simp))
    obtain ⟨ys, e2, hq2, hl⟩ := map_rows h rows (fun n hn => hp n (by simp [hn]))
    exact ⟨a :: ys, by simp [e, e2], by simpa [hq] using hq2, by simp [hl]⟩
theorem sh_text {D : D} (h : RStr D) : ∃ s : ByteArray, s.size ≤ maxLen ∧ D = .val (.string s) := h
set_option maxRecDepth 100000 in
theorem fnExactReadHeights_calls {H : Type} {enc : TypeId × Value → H} {W : World} {base : Nat} {args : Array Value} {ds : List (DataW H)} {ps : List MemPlace} (hA : DataW.TrodAll enc Pr W 0 (fun _ => true) true [9] args.toList ds ps) (hv : ∀ (j : Nat) t v, [9][j]? = some t → args.toList[j]? = some v → Value.okWide Pr W .any base t v) (ht : TabAt [] W) :
    Calls Pr 4 args W (fun e w' => e = .returned (.bool true) ∧ Below W.heap.size W w') :=
  law_row ok_L_FnExactReadHeights (fun _ => rfl) (fun _ => rfl) (fun _ => rfl) (fun _ => rfl) (Rs := [RStr]) (readsAll_cons (reads_str Go.Proofs.Tryd.underlying9) readsAll_nil) (by
    rintro Ds h
    obtain ⟨_, _, rfl, r0, k0⟩ := allR_cons h
    obtain rfl := allR_nil k0
    obtain ⟨x0, p0, rfl⟩ := sh_text r0
    exact ⟨x0, p0, rfl⟩) hA hv ht

set_option maxRecDepth 100000 in
theorem wrap_shaped {H : Type} {enc : TypeId × Value → H} {a : Assume} {C : Checked} {os : Os} {f : FuncId} {fn : Func} {s : ChangeSpec} {conds : List PathCond} {apart fresh handsOn again : Bool} {X : World → Array Value → Prop}
    (hX : ∀ (w w' : World) (args : Array Value), w.heap = w'.heap → X w args → X w' args)
    (own : ownKnob C.prog.godebug = none) (started : os.Started) (noInit : C.prog.inits.idxOf? f = none) (hfn : C.prog.funcs[f]? = some fn)
    (witness : ∃ (w : World) (tape : Tape) (i : Input), w.os = os ∧ (w.forCall tape i).Shaped C.prog ∧ i.vars = [] ∧ Input.okWide C.prog (w.forCall tape i) .any w.heap.size f i ∧
      ((s.pre enc C.prog fn conds apart (w.forCall tape i).memory i.args ∧ X (w.forCall tape i).memory i.args) ∧ sizedMet enc C.prog fn (OpenSpec.ofChange s) apart (w.forCall tape i).memory i.args) ∧ a.holds C.prog (lone (Frame.enter C.prog f i.args .normal) [] (w.forCall tape i)))
    (contract : ∀ (W : World) (base : Nat) (args : Array Value) (ds gs : List (DataW H)) (before : List MemPlace),
      (∀ (j : Nat) t v, fn.params[j]? = some t → args[j]? = some v → Value.okWide C.prog W .any base t v) →
      DataW.Whole enc C.prog fn.params.toList s.vars apart W args.toList ds gs before →
      conds.all (PathCond.test C.prog ⟨fn.params.toList, ds, s.plain.varTypes C.prog, gs⟩) = true →
      W.ShapedOpen C.prog → X W args →
      a.holds C.prog (lone (Frame.enter C.prog f args .normal) [] W) →
      Calls C.prog f args W fun e W' => ∃ v, e = .returned v ∧ s.post enc C.prog fn apart fresh handsOn again W args v W') :
    ReturnsInHanded a C os f .any (fun w args => (s.pre enc C.prog fn conds apart w args ∧ X w args) ∧ sizedMet enc C.prog fn (OpenSpec.ofChange s) apart w args) (s.post enc C.prog fn apart fresh handsOn again) := by
  refine returnsInHanded_of_calls own started noInit witness ?_
  intro w tape i _ hsh _ hok hpre hholds
  obtain ⟨_, _, _, fn', hfn', _, _, _, _, hval⟩ := hok
  have e : fn' = fn := Option.some.inj (hfn'.symm.trans hfn)
  subst e
  obtain ⟨⟨⟨ds, gs, before, hw, hc⟩, hx⟩, hz⟩ := hpre
  have hw' := DataW.Whole.of_heap (w' := w.forCall tape i) (by rfl) hw
  refine (contract (w.forCall tape i) w.heap.size i.args ds gs before hval hw' hc hsh (hX _ _ _ (by rfl) hx) hholds).mono fun e W' ⟨v, he, hp⟩ => ?_
  subst he
  exact ChangeSpec.post_blind hp
noncomputable abbrev fnExactReadHeights_laid : List (String × DataW Unit) := Rows.fnExactReadHeightsRow.laid
theorem trod_if {H : Type} {enc : TypeId × Value → H} {P : Program} {w : World} {base : Nat} {sp : Nat → Bool} {held : Bool} {fuel : Nat} {t : TypeId} {cs : List Value} {ms : Array (String × TypeId)} {x : DataW H × List MemPlace} (ht : P.underlying t = some (.interface ms)) (h : DataW.trod enc P w base sp held fuel t cs = some x) : ∃ ev, cs = [ev] ∧ (ev = .nilIface ∨ ∃ te pe, ev = .iface te pe) := by
  cases fuel with
  | zero => simp [DataW.trod] at h
  | succ fuel =>
    match cs, h with
    | [], h => simp [DataW.trod, ht] at h
    | [v], h => cases v <;> first | exact ⟨_, rfl, .inl rfl⟩ | exact ⟨_, rfl, .inr ⟨_, _, rfl⟩⟩ | (simp [DataW.trod, ht] at h)
    | _ :: _ :: _, h => simp [DataW.trod, ht] at h
theorem var_obj {P : Program} {W : World} {name : String} {g : Nat} {cs : Array Value} (hg : P.globalNamed name = some g) (hv : W.var? P name = some cs) : ∃ ty fr, W.heap[g]? = some (.cells cs ty fr) := by
  unfold World.var? at hv
  rw [hg] at hv
  simp only [Option.bind_some] at hv
  split at hv
  · rename_i c ty fr hheap
    cases hv
    exact ⟨ty, fr, hheap⟩
  · cases hv
theorem tab_laid {W : World} (h : laidMetH Tryd.prog fnExactReadHeights_laid W) (hsh : W.ShapedOpen Tryd.prog) : TabAt [] W := by
  rw [MakeChecks.laidMetH_plain _ _ _ (by kernel_rfl)] at h
  obtain ⟨ps, ⟨g0, t0, cs0, f0, p0, q0, hg0, ht0, hv0, hd0, ⟨g1, t1, cs1, f1, p1, q1, hg1, ht1, hv1, hd1, ⟨g2, t2, cs2, f2, p2, q2, hg2, ht2, hv2, hd2, ⟨g3, t3, cs3, f3, p3, q3, hg3, ht3, hv3, hd3, ⟨g4, t4, cs4, f4, p4, q4, hg4, ht4, hv4, hd4, ⟨g5, t5, cs5, f5, p5, q5, hg5, ht5, hv5, hd5, _⟩, _⟩, _⟩, _⟩, _⟩, _⟩, _, _⟩ := h
  have gT : Tryd.prog.globalNamed "internal/strconv.uint64pow10" = some 5 := by kernel_rfl
  have tT : (Tryd.prog.globals[5]?).map (·.type) = some 127 := by kernel_rfl
  have gR : Tryd.prog.globalNamed "strconv.ErrRange" = some 4 := by kernel_rfl
  have tR : (Tryd.prog.globals[4]?).map (·.type) = some 76 := by kernel_rfl
  have gS : Tryd.prog.globalNamed "strconv.ErrSyntax" = some 3 := by kernel_rfl
  have tS : (Tryd.prog.globals[3]?).map (·.type) = some 76 := by kernel_rfl
  obtain rfl := Option.some.inj (gT.symm.trans hg2)
  obtain rfl := Option.some.inj (tT.symm.trans ht2)
  obtain rfl := Option.some.inj (gR.symm.trans hg4)
  obtain rfl := Option.some.inj (tR.symm.trans ht4)
  obtain rfl := Option.some.inj (gS.symm.trans hg5)
  obtain rfl := Option.some.inj (tS.symm.trans ht5)
  have hcs : cs2.toList = Lib.pow10Tab.map fun z => Value.int .u64 z := Lib.cells_of_tab (n := 20) Tryd.underlying127 Tryd.underlying102 (by kernel_rfl) (by kernel_rfl) (zs := Lib.pow10Tab) hd2
  obtain ⟨ty2, fr2, hh2⟩ := var_obj gT hv2
  obtain ⟨ty4, fr4, hh4⟩ := var_obj gR hv4
  obtain ⟨ty5, fr5, hh5⟩ := var_obj gS hv5
  obtain ⟨ev4, he4, hk4⟩ := trod_if Tryd.underlying76 hd4
  obtain ⟨ev5, he5, hk5⟩ := trod_if Tryd.underlying76 hd5
  obtain ⟨m, hm⟩ := Go.Proofs.cell_of_shapedOpen_int (g := 0) (t := 3) (zero := #[.int .i64 0]) (k := .i64) hsh (of_decide_eq_true (by kernel_rfl)) (by kernel_rfl) (by kernel_rfl) (by kernel_rfl) (by kernel_rfl) Tryd.underlying3
  obtain ⟨cs, hh0, hs0, _⟩ := hsh.1 0 #[.int .i64 0] 3 (of_decide_eq_true (by kernel_rfl)) (by kernel_rfl)
  have hc0 : cs = #[.int .i64 m] := by
    simp only [World.cell?, hh0] at hm
    have hs1 : cs.size = 1 := hs0
    obtain ⟨l⟩ := cs
    match l, hs1, hm with
    | [v], _, hm => simp at hm; rw [hm]
  intro p hp
  rw [tabs] at hp
  simp only [List.mem_cons, List.not_mem_nil, or_false] at hp
  rcases hp with rfl | rfl | rfl | rfl
  · exact ⟨(Array.getElem?_eq_some_iff.1 hh2).1, by simp, _, hh2, ty2, fr2, by rw [← hcs]⟩
  · exact ⟨(Array.getElem?_eq_some_iff.1 hh0).1, by simp, _, hh0, m, 3, (0, 0), by rw [hc0]⟩
  · exact ⟨(Array.getElem?_eq_some_iff.1 hh5).1, by simp, _, hh5, ev5, ty5, fr5, by rw [show cs5 = #[ev5] from by rw [← Array.toList_inj]; exact he5], hk5⟩
  · exact ⟨(Array.getElem?_eq_some_iff.1 hh4).1, by simp, _, hh4, ev4, ty4, fr4, by rw [show cs4 = #[ev4] from by rw [← Array.toList_inj]; exact he4], hk4⟩
/-- The door's own heap, with the table that is laid by its text alone. -/
noncomputable def firstCells : Array Value := match (Rows.laid_unicode_utf8_first : DataW Unit) with
  | .agg l => (l.map fun | .lit (.int k n) => Value.int k n | _ => undef).toArray
  | _ => #[]
noncomputable def doorW (os : Os) : World := { World.doorLaid Tryd.prog 2000 os with heap := (World.doorLaid Tryd.prog 2000 os).heap.modify ((Tryd.prog.globalNamed "unicode/utf8.first").getD 0) (fun o => match o with | .cells _ t fr => .cells firstCells t fr | o => o) }
theorem fnExactReadHeights_door (os : Os) (args : Array Value) : laidMetH Tryd.prog fnExactReadHeights_laid ((doorW os).forCall (fun _ _ => 0) ⟨#[], args, []⟩).memory :=
  laidMetH_of_parts3 (fuel := 8) (laidMet_of_run' 8 (by kernel_rfl) (by kernel_rfl)) (by kernel_rfl) (by kernel_rfl)
set_option maxRecDepth 100000 in
theorem fnExactReadHeights_lifted (os : Os) (started : os.Started) (H : Type) (enc : TypeId × Value → H) :
    ReturnsInHanded {} Tryd.checked os 4 .any (fun w args => (Rows.fnExactReadHeightsSpec.pre enc Tryd.prog Tryd.f4 [] false w args ∧ laidMetH Tryd.prog fnExactReadHeights_laid w) ∧ sizedMet enc Tryd.prog Tryd.f4 (OpenSpec.ofChange Rows.fnExactReadHeightsSpec) false w args) (Rows.fnExactReadHeightsSpec.post enc Tryd.prog Tryd.f4 false true false false) := by
  refine wrap_shaped (C := Tryd.checked) (X := fun w _ => laidMetH Tryd.prog fnExactReadHeights_laid w) (fun _ _ _ hh h => h.of_heap hh) Pr_own started (by kernel_rfl) Tryd.func4
    (ChangeSpec.witness_shaped (enc := enc) (C := Tryd.checked) (os := os) (X := fun w _ => laidMetH Tryd.prog fnExactReadHeights_laid w) false (doorW os) #[.string ⟨#[]⟩] 8 rfl (World.shaped_of_RefB (by kernel_rfl) (by kernel_rfl)) (by kernel_rfl) (by kernel_rfl) (by kernel_rfl) (fnExactReadHeights_door os _)) ?_
  intro W base args ds gs before hval0 hW _ hsh hlaid _
  have hW' := hW
  obtain ⟨p, q, hA0, hV, rfl, _, _⟩ := hW
  have hA : DataW.TrodAll enc Tryd.prog W 0 (fun _ => true) true [9] args.toList ds p := hA0
  have hval : ∀ (j : Nat) t v, [9][j]? = some t → args.toList[j]? = some v → Value.okWide Tryd.prog W .any base t v := fun j t v ht hv => hval0 j t v (by rw [← Array.getElem?_toList]; exact ht) (by rw [← Array.getElem?_toList]; exact hv)
  have hkeep : ∀ W', Below W.heap.size W W' → DataW.TrodAll enc Tryd.prog W' 0 (fun b => decide (b < W.heap.size)) true Tryd.f4.params.toList args.toList ds p := fun W' hb => trodAll_keep Pr_laid hb (by kernel_rfl) hA0
  have hc := fnExactReadHeights_calls hA hval (tab_laid hlaid hsh)
  obtain ⟨d0, rfl⟩ := len1 (trodAll_len hA)
  obtain ⟨rfl, rfl⟩ := trodVars_none hV
  clear hA0 hval0 hval hA
  exact hc.mono fun e W' h => ⟨_, h.1, _, _, _, [], _, [], hW', trodAll_mk1 (shut_bool Tryd.underlying4 _), hkeep W' h.2, rfl, h.2.frame _, fun h => by cases h⟩

theorem fnExactReadHeights_row : Rows.FnExactReadHeightsSaid :=
  OpenClaim.holds_of_wide 4 Tryd.f4 rfl rfl rfl rfl rfl rfl rfl ⟨rfl, rfl, rfl, rfl, rfl⟩ rfl rfl rfl rfl rfl (by kernel_rfl) Tryd.func4 (by kernel_rfl)
    (of_decide_eq_true (by kernel_rfl)) (by unfold Func.isWrapper; first | (rw [if_pos (by decide +kernel)]; kernel_rfl) | (rw [if_neg (by decide +kernel)]; exact ⟨rfl, rfl⟩))
    (fun os started H enc _ => fnExactReadHeights_lifted os started H enc)

theorem fnExactReadHeights_holds : Rows.FnExactReadHeightsCardSaid :=
  Claim7.holds_tied_plain_at .later [] [.data, .data, .data, .data, .sentinel, .sentinel, .pinned] true Rows.fnExactReadHeightsCard.stood.harness true
    fnExactReadHeights_row (fun _ h => by cases h) (by kernel_rfl) (fun _ h => by cases h) fnExactReadHeights_row_tie rfl ⟨rfl, rfl⟩ (by kernel_rfl) rfl
    (fun f fn hf hfn => by
      obtain rfl : f = 4 := Option.some.inj ((show Tryd.prog.funcNamed Rows.fnExactReadHeightsRow.func = some 4 by kernel_rfl).symm.trans hf) |>.symm
      obtain rfl : fn = Tryd.f4 := (Option.some.inj (Tryd.func4.symm.trans hfn)).symm
      exact ⟨by kernel_rfl, fun j t ht => by
        rw [Tryd.params4] at ht
        have hm : t ∈ [9] := by simpa using Array.mem_of_getElem? ht
        have hall : ([9].all fun u => !Tryd.prog.wantsStandIn u) = true := by kernel_rfl
        exact (show Tryd.prog.wantsStandIn t = false by simpa using List.all_eq_true.1 hall t hm)⟩)
    (by kernel_rfl)
end Go.Proofs.YtoincpeodnmfmaaDoor.Abs
