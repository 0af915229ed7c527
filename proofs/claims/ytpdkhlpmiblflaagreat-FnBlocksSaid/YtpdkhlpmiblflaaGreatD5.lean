import Derived.Test.YtpdkhlpmiblflaaGreatD4
set_option linter.unusedVariables false
set_option linter.unusedSimpArgs false
namespace Go.Proofs.YtpdkhlpmiblflaaGreat.Abs
open Go Go.RowKit
set_option linter.unusedSectionVars false
abbrev Nd := List Int
abbrev B3 := Nat × Nat × Nat
def blkT (f c t : Nat) : List B3 := (List.range t).map fun t => (f, c + 1, t)
def blkC (n f c : Nat) : List B3 := (List.range c).flatMap fun c => blkT f c (n - (c + 1) + 1)
def blkF (n f : Nat) : List B3 := (List.range f).flatMap fun f => blkC n f (n - f)
def blks (n : Nat) : List B3 := blkF n n
theorem blkT_succ (f c t : Nat) : blkT f c (t + 1) = blkT f c t ++ [(f, c + 1, t)] := by simp [blkT, List.range_succ]
theorem blkC_succ (n f c : Nat) : blkC n f (c + 1) = blkC n f c ++ blkT f c (n - (c + 1) + 1) := by simp [blkC, List.range_succ]
theorem blkF_succ (n f : Nat) : blkF n (f + 1) = blkF n f ++ blkC n f (n - f) := by simp [blkF, List.range_succ]
theorem mem_blks {n f c t : Nat} : (f, c, t) ∈ blks n ↔ 1 ≤ c ∧ f + c ≤ n ∧ t ≤ n - c := by
  simp only [blks, blkF, blkC, blkT, List.mem_flatMap, List.mem_range, List.mem_map, Prod.mk.injEq]
  constructor
  · rintro ⟨f', h1, c', h2, t', h3, rfl, rfl, rfl⟩
    omega
  · rintro ⟨h1, h2, h3⟩
    exact ⟨f, by omega, c - 1, by omega, t, by omega, rfl, by omega, rfl⟩
theorem len_blkT (f c t : Nat) : (blkT f c t).length = t := by simp [blkT]
theorem flat_le {α : Type} (g : Nat → List α) (m : Nat) : ∀ k, (∀ j, j < k → (g j).length ≤ m) → ((List.range k).flatMap g).length ≤ k * m
  | 0, _ => by simp
  | k + 1, h => by
    have ih := flat_le g m k (fun j hj => h j (by omega))
    have := h k (by omega)
    rw [List.range_succ, List.flatMap_append, List.length_append, Nat.add_mul]
    simp only [List.flatMap_cons, List.flatMap_nil, List.append_nil]
    omega
theorem len_blkC {n f c : Nat} (hc : c ≤ n) : (blkC n f c).length ≤ n * (n + 1) := by
  have := flat_le (fun c => blkT f c (n - (c + 1) + 1)) (n + 1) c (fun j _ => by rw [len_blkT]; omega)
  exact Nat.le_trans this (Nat.mul_le_mul_right _ hc)
theorem len_blkF {n f : Nat} (hf : f ≤ n) : (blkF n f).length ≤ n * (n * (n + 1)) := by
  have := flat_le (fun f => blkC n f (n - f)) (n * (n + 1)) f (fun j _ => len_blkC (by omega))
  exact Nat.le_trans this (Nat.mul_le_mul_right _ hf)

def mvN (x : Nd) (b : B3) : Nd := carried x b.1 b.2.1 b.2.2
theorem carried_len {α : Type} {x : List α} {f c t : Nat} (h : f + c ≤ x.length) (ht : t ≤ x.length - c) : (carried x f c t).length = x.length := by
  simp only [carried, List.length_append, List.length_take, List.length_drop]; omega
theorem carried_perm {α : Type} (x : List α) (f c t : Nat) : (carried x f c t).Perm x := by
  unfold carried
  have h1 : ((x.take f ++ x.drop (f + c)).take t ++ (x.drop f).take c ++ (x.take f ++ x.drop (f + c)).drop t).Perm ((x.drop f).take c ++ (x.take f ++ x.drop (f + c))) := by
    refine (List.perm_append_comm.append_right _).trans ?_
    rw [List.append_assoc, List.take_append_drop]
  refine h1.trans ?_
  have h2 : x = x.take f ++ ((x.drop f).take c ++ x.drop (f + c)) := by
    rw [← List.drop_drop, List.take_append_drop, List.take_append_drop]
  refine List.Perm.trans ?_ (List.Perm.of_eq h2.symm)
  rw [← List.append_assoc, ← List.append_assoc]
  exact List.perm_append_comm.append_right _
theorem carried_map {α β : Type} (g : α → β) (x : List α) (f c t : Nat) : carried (x.map g) f c t = (carried x f c t).map g := by
  simp [carried, List.map_take, List.map_drop]
theorem carried_back {α : Type} {x : List α} {f c t : Nat} (h : f + c ≤ x.length) (ht : t ≤ x.length - c) : carried (carried x f c t) t c f = x := by
  have hrl : (x.take f ++ x.drop (f + c)).length = x.length - c := by simp only [List.length_append, List.length_take, List.length_drop]; omega
  have hbl : ((x.drop f).take c).length = c := by simp only [List.length_take, List.length_drop]; omega
  generalize hr : x.take f ++ x.drop (f + c) = r at hrl
  generalize hb : (x.drop f).take c = b at hbl
  have e0 : carried x f c t = r.take t ++ b ++ r.drop t := by rw [carried, hr, hb]
  have htl : (r.take t).length = t := by rw [List.length_take]; omega
  have e1 : (carried x f c t).take t = r.take t := by
    rw [e0, List.append_assoc, List.take_append_of_le_length (by omega), List.take_of_length_le (by omega)]
  have e2 : (carried x f c t).drop t = b ++ r.drop t := by
    rw [e0, List.append_assoc, List.drop_append_of_le_length (by omega), List.drop_of_length_le (by omega), List.nil_append]
  have e3 : (carried x f c t).drop (t + c) = r.drop t := by
    rw [← List.drop_drop, e2, List.drop_append_of_le_length (by omega), List.drop_of_length_le (by omega), List.nil_append]
  have e4 : ((carried x f c t).drop t).take c = b := by rw [e2, List.take_append_of_le_length (by omega), List.take_of_length_le (by omega)]
  rw [carried, e1, e3, e4, List.take_append_drop, ← hr]
  have hfl : (x.take f).length = f := by rw [List.length_take]; omega
  rw [List.take_append_of_le_length (by omega), List.take_of_length_le (by omega), List.drop_append_of_le_length (by omega), List.drop_of_length_le (by omega), List.nil_append, ← hb, ← List.drop_drop, List.append_assoc, List.take_append_drop, List.take_append_drop]

/-! ### The search -/
abbrev BS := List Nd × (Nd → Option Nat)
def updN (d : Nd → Option Nat) (x : Nd) (v : Nat) : Nd → Option Nat := fun y => if y = x then some v else d y
def bstep (now : Nd) (s : BS) (b : B3) : BS := if (s.2 (mvN now b)).isSome then s else (s.1 ++ [mvN now b], updN s.2 (mvN now b) ((s.2 now).getD 0 + 1))
def runB (now : Nd) (s : BS) (L : List B3) : BS := L.foldl (bstep now) s
def bround (L : List B3) (k : Nat) (s : BS) : BS := if k < s.1.length then runB (s.1.getD k []) s L else s
def bfs (L : List B3) (s0 : Nd) : Nat → BS
  | 0 => ([s0], fun y => if y = s0 then some 0 else none)
  | k + 1 => bround L k (bfs L s0 k)
def dpt (s : BS) (x : Nd) : Nat := (s.2 x).getD 0
def ExtB (s s' : BS) : Prop := s.1 <+: s'.1 ∧ ∀ x v, s.2 x = some v → s'.2 x = some v
theorem ExtB.refl (s : BS) : ExtB s s := ⟨List.prefix_refl _, fun _ _ h => h⟩
theorem ExtB.trans {s s' s'' : BS} (h : ExtB s s') (k : ExtB s' s'') : ExtB s s'' := ⟨h.1.trans k.1, fun x v e => k.2 x v (h.2 x v e)⟩
theorem bstep_ext (now : Nd) (s : BS) (b : B3) : ExtB s (bstep now s b) := by
  unfold bstep
  split
  · exact .refl _
  · rename_i h
    refine ⟨⟨_, rfl⟩, fun x v e => ?_⟩
    show updN s.2 _ _ x = _
    unfold updN
    split
    · rename_i h2; subst h2; rw [e] at h; simp at h
    · exact e
theorem runB_ext (now : Nd) : ∀ (L : List B3) (s : BS), ExtB s (runB now s L)
  | [], s => .refl _
  | b :: L, s => (bstep_ext now s b).trans (runB_ext now L _)
theorem bfs_ext1 (L : List B3) (s0 : Nd) (k : Nat) : ExtB (bfs L s0 k) (bfs L s0 (k + 1)) := by
  show ExtB _ (bround L k (bfs L s0 k))
  unfold bround
  split
  · exact runB_ext _ _ _
  · exact .refl _
theorem bfs_ext (L : List B3) (s0 : Nd) {k m : Nat} (h : k ≤ m) : ExtB (bfs L s0 k) (bfs L s0 m) := by
  obtain ⟨j, rfl⟩ : ∃ j, m = k + j := ⟨m - k, by omega⟩
  clear h
  induction j with
  | zero => exact .refl _
  | succ j ih => exact ih.trans (bfs_ext1 L s0 (k + j))

structure BI (L : List B3) (s0 : Nd) (s : BS) : Prop where
  nodup : s.1.Nodup
  mem : ∀ x, (s.2 x).isSome = true ↔ x ∈ s.1
  perm : ∀ x ∈ s.1, x.Perm s0
  mono : s.1.Pairwise (fun x y => dpt s x ≤ dpt s y)
  root : s.1.head? = some s0 ∧ dpt s s0 = 0
  par : ∀ x ∈ s.1, x ≠ s0 → ∃ y ∈ s.1, ∃ b ∈ L, x = mvN y b ∧ dpt s x = dpt s y + 1
structure MI (L : List B3) (s0 : Nd) (k : Nat) (now : Nd) (D : List B3) (s : BS) : Prop where
  bi : BI L s0 s
  at_ : s.1[k]? = some now
  top : ∀ x ∈ s.1, dpt s x ≤ dpt s now + 1
  closed : ∀ i y, i < k → s.1[i]? = some y → ∀ b ∈ L, mvN y b ∈ s.1 ∧ dpt s (mvN y b) ≤ dpt s y + 1
  done : ∀ b ∈ D, mvN now b ∈ s.1 ∧ dpt s (mvN now b) ≤ dpt s now + 1
theorem MI.step {L : List B3} {s0 : Nd} {k : Nat} {now : Nd} {D : List B3} {s : BS} (h : MI L s0 k now D s) {b : B3} (hb : b ∈ L) : MI L s0 k now (D ++ [b]) (bstep now s b) := by
  have hnow : now ∈ s.1 := List.mem_of_getElem? h.at_
  unfold bstep
  split
  · rename_i hs
    have hm := (h.bi.mem _).1 hs
    refine ⟨h.bi, h.at_, h.top, h.closed, fun b' hb' => ?_⟩
    rcases List.mem_append.1 hb' with hb' | hb'
    · exact h.done b' hb'
    · obtain rfl := List.mem_singleton.1 hb'
      exact ⟨hm, h.top _ hm⟩
  · rename_i hs
    have hnm : mvN now b ∉ s.1 := fun hm => hs ((h.bi.mem _).2 hm)
    have hold : ∀ x ∈ s.1, dpt (s.1 ++ [mvN now b], updN s.2 (mvN now b) ((s.2 now).getD 0 + 1)) x = dpt s x := fun x hx => by
      show (updN s.2 _ _ x).getD 0 = (s.2 x).getD 0
      unfold updN
      rw [if_neg (show ¬ x = mvN now b from fun e => hnm (by rw [← e]; exact hx))]
    have hnew : dpt (s.1 ++ [mvN now b], updN s.2 (mvN now b) ((s.2 now).getD 0 + 1)) (mvN now b) = dpt s now + 1 := by
      show (updN s.2 _ _ (mvN now b)).getD 0 = _
      simp [updN, dpt]
    have hall : ∀ x ∈ s.1 ++ [mvN now b], dpt (s.1 ++ [mvN now b], updN s.2 (mvN now b) ((s.2 now).getD 0 + 1)) x ≤ dpt s now + 1 := fun x hx => by
      rcases List.mem_append.1 hx with hx | hx
      · rw [hold x hx]; exact h.top x hx
      · rw [List.mem_singleton.1 hx, hnew]; exact Nat.le_refl _
    refine ⟨⟨?_, fun x => ?_, fun x hx => ?_, ?_, ⟨?_, ?_⟩, fun x hx hne => ?_⟩, ?_, ?_, fun i y hi hy b' hb' => ?_, fun b' hb' => ?_⟩
    · show (s.1 ++ [mvN now b]).Nodup
      rw [List.nodup_append]
      exact ⟨h.bi.nodup, by simp, fun a ha c hc e => hnm (by rw [List.mem_singleton.1 hc] at e; exact e ▸ ha)⟩
    · show (updN s.2 (mvN now b) _ x).isSome = true ↔ x ∈ s.1 ++ [mvN now b]
      rw [List.mem_append, List.mem_singleton, ← h.bi.mem]
      unfold updN
      split
      · rename_i e; simp [e]
      · rename_i e; simp [e]
    · rcases List.mem_append.1 hx with hx | hx
      · exact h.bi.perm x hx
      · rw [List.mem_singleton.1 hx]
        exact (carried_perm _ _ _ _).trans (h.bi.perm _ hnow)
    · show (s.1 ++ [mvN now b]).Pairwise _
      rw [List.pairwise_append]
      refine ⟨h.bi.mono.imp_of_mem (fun ha hc e => by rw [hold _ ha, hold _ hc]; exact e), by simp, fun a ha c hc => ?_⟩
      rw [List.mem_singleton.1 hc, hnew, hold a ha]
      exact h.top a ha
    · show (s.1 ++ [mvN now b]).head? = some s0
      rw [List.head?_append, h.bi.root.1]; rfl
    · have : s0 ∈ s.1 := List.mem_of_mem_head? (by rw [h.bi.root.1]; rfl)
      rw [hold _ this]; exact h.bi.root.2
    · rcases List.mem_append.1 hx with hx | hx
      · obtain ⟨y, hy, b', hb', e1, e2⟩ := h.bi.par x hx hne
        exact ⟨y, List.mem_append_left _ hy, b', hb', e1, by rw [hold x hx, hold y hy]; exact e2⟩
      · have := List.mem_singleton.1 hx
        subst this
        exact ⟨now, List.mem_append_left _ hnow, b, hb, rfl, by rw [hnew, hold now hnow]⟩
    · show (s.1 ++ [mvN now b])[k]? = some now
      rw [List.getElem?_append_left (List.getElem?_eq_some_iff.1 h.at_).1]; exact h.at_
    · intro x hx
      rw [hold now hnow]; exact hall x hx
    · have hil : i < s.1.length := Nat.lt_trans hi (List.getElem?_eq_some_iff.1 h.at_).1
      have hy' : s.1[i]? = some y := by rw [← hy]; exact (List.getElem?_append_left hil).symm
      have hym := List.mem_of_getElem? hy'
      obtain ⟨h1, h2⟩ := h.closed i y hi hy' b' hb'
      exact ⟨List.mem_append_left _ h1, by rw [hold _ h1, hold _ hym]; exact h2⟩
    · rw [hold now hnow]
      rcases List.mem_append.1 hb' with hb' | hb'
      · obtain ⟨h1, h2⟩ := h.done b' hb'
        exact ⟨List.mem_append_left _ h1, by rw [hold _ h1]; exact h2⟩
      · obtain rfl := List.mem_singleton.1 hb'
        exact ⟨List.mem_append_right _ (by simp), by rw [hnew]; exact Nat.le_refl _⟩
theorem MI.run {L : List B3} {s0 : Nd} {k : Nat} {now : Nd} : ∀ (L' : List B3) {D : List B3} {s : BS}, MI L s0 k now D s → (∀ b ∈ L', b ∈ L) → MI L s0 k now (D ++ L') (runB now s L')
  | [], D, s, h, _ => by simpa [runB] using h
  | b :: L', D, s, h, hs => by
    have := MI.run L' (h.step (hs b (by simp))) (fun b' hb' => hs b' (by simp [hb']))
    simpa [runB] using this
structure RI (L : List B3) (s0 : Nd) (k : Nat) (s : BS) : Prop where
  bi : BI L s0 s
  top : ∀ now, s.1[k]? = some now → ∀ x ∈ s.1, dpt s x ≤ dpt s now + 1
  closed : ∀ i y, i < k → s.1[i]? = some y → ∀ b ∈ L, mvN y b ∈ s.1 ∧ dpt s (mvN y b) ≤ dpt s y + 1
theorem bfs_ri (L : List B3) (s0 : Nd) : ∀ k, RI L s0 k (bfs L s0 k)
  | 0 => by
    have h0 : dpt (bfs L s0 0) s0 = 0 := by simp [dpt, bfs]
    refine ⟨⟨by simp [bfs], fun x => ?_, fun x hx => ?_, by simp [bfs], ⟨rfl, h0⟩, fun x hx hne => ?_⟩, fun now hn x hx => ?_, fun i y hi => absurd hi (Nat.not_lt_zero _)⟩
    · simp only [bfs, List.mem_singleton]
      split
      · rename_i e; simp [e]
      · rename_i e; simp [e]
    · rw [show x = s0 by simpa [bfs] using hx]
    · exact absurd (show x = s0 by simpa [bfs] using hx) hne
    · rw [show x = s0 by simpa [bfs] using hx, h0]; omega
  | k + 1 => by
    have h := bfs_ri L s0 k
    show RI L s0 (k + 1) (bround L k (bfs L s0 k))
    unfold bround
    split
    · rename_i hk
      have hnow : (bfs L s0 k).1[k]? = some ((bfs L s0 k).1.getD k []) := by simp [List.getD, hk]
      have h1 : MI L s0 k ((bfs L s0 k).1.getD k []) [] (bfs L s0 k) := ⟨h.bi, hnow, h.top _ hnow, h.closed, fun b hb => by cases hb⟩
      have h2 := MI.run L h1 (fun b hb => hb)
      rw [List.nil_append] at h2
      refine ⟨h2.bi, fun nx hnx x hx => ?_, fun i y hi hy b hb => ?_⟩
      · have h3 := h2.top x hx
        have h4 : dpt (runB ((bfs L s0 k).1.getD k []) (bfs L s0 k) L) ((bfs L s0 k).1.getD k []) ≤ dpt (runB ((bfs L s0 k).1.getD k []) (bfs L s0 k) L) nx := by
          have ha := List.getElem?_eq_some_iff.1 h2.at_
          have hb := List.getElem?_eq_some_iff.1 hnx
          have := List.pairwise_iff_getElem.1 h2.bi.mono k (k + 1) ha.1 hb.1 (by omega)
          rwa [ha.2, hb.2] at this
        omega
      · rcases Nat.lt_or_ge i k with h3 | h3
        · exact h2.closed i y h3 hy b hb
        · obtain rfl : i = k := by omega
          rw [h2.at_] at hy
          cases hy
          exact h2.done b hb
    · rename_i hk
      exact ⟨h.bi, fun now hn => absurd (List.getElem?_eq_some_iff.1 hn).1 (by omega), fun i y hi hy b hb => h.closed i y (by have := (List.getElem?_eq_some_iff.1 hy).1; omega) hy b hb⟩
theorem dpt_ext {s s' : BS} (h : ExtB s s') {x : Nd} (hx : (s.2 x).isSome = true) : dpt s' x = dpt s x := by
  obtain ⟨v, hv⟩ := Option.isSome_iff_exists.1 hx
  simp [dpt, hv, h.2 x v hv]

/-! ### Arrangements as numbers -/
def okN (n : Nat) (x : Nd) : Prop := x.length = n ∧ ∀ r ∈ x, 0 ≤ r ∧ r ≤ 5
def code6 (x : Nd) : Int := x.foldl (fun n r => n * 6 + r) 0
theorem code6_snoc (x : Nd) (r : Int) : code6 (x ++ [r]) = code6 x * 6 + r := by simp [code6]
theorem okN_snoc {n : Nat} {x : Nd} (h : okN (n + 1) x) : ∃ y r, x = y ++ [r] ∧ okN n y ∧ 0 ≤ r ∧ r ≤ 5 := by
  obtain ⟨hl, hr⟩ := h
  have hne : x ≠ [] := by intro e; subst e; simp at hl
  refine ⟨x.dropLast, x.getLast hne, (List.dropLast_concat_getLast hne).symm, ⟨by simp [hl], fun r hm => hr r (List.dropLast_subset _ hm)⟩, hr _ (List.getLast_mem hne)⟩
theorem code6_b : ∀ {n : Nat} {x : Nd}, okN n x → 0 ≤ code6 x ∧ code6 x < 6 ^ n
  | 0, x, h => by
    have : x = [] := List.eq_nil_of_length_eq_zero h.1
    subst this
    decide
  | n + 1, x, h => by
    obtain ⟨y, r, rfl, hy, hr⟩ := okN_snoc h
    have := code6_b hy
    rw [code6_snoc, Int.pow_succ]
    omega
theorem code6_inj : ∀ {n : Nat} {x y : Nd}, okN n x → okN n y → code6 x = code6 y → x = y
  | 0, x, y, hx, hy, _ => by rw [List.eq_nil_of_length_eq_zero hx.1, List.eq_nil_of_length_eq_zero hy.1]
  | n + 1, x, y, hx, hy, e => by
    obtain ⟨x', r, rfl, hx', hr⟩ := okN_snoc hx
    obtain ⟨y', q, rfl, hy', hq⟩ := okN_snoc hy
    rw [code6_snoc, code6_snoc] at e
    rw [code6_inj hx' hy' (by omega), show r = q by omega]
theorem code6_lt {n : Nat} (hn : n ≤ 6) {x : Nd} (h : okN n x) : 0 ≤ code6 x ∧ code6 x < 46656 := by
  have h1 := code6_b h
  have h2 : (6 : Int) ^ n ≤ 6 ^ 6 := by
    have : (6 : Nat) ^ n ≤ 6 ^ 6 := Nat.pow_le_pow_right (by omega) hn
    exact_mod_cast this
  have h3 : (6 : Int) ^ 6 = 46656 := by decide
  omega
theorem filt_len (N : Nat) : ∀ l : List Nat, l.length = (l.filter (fun x => x != N)).length + (l.filter (fun x => x == N)).length
  | [] => rfl
  | a :: l => by
    have ih := filt_len N l
    by_cases h : a = N
    · subst h; simp; omega
    · simp [h]; omega
theorem nodup_le : ∀ (N : Nat) (l : List Nat), l.Nodup → (∀ x ∈ l, x < N) → l.length ≤ N
  | 0, l, _, h => by
    cases l with
    | nil => simp
    | cons a l => exact absurd (h a (by simp)) (Nat.not_lt_zero _)
  | N + 1, l, hd, h => by
    have h1 : (l.filter (fun x => x != N)).length ≤ N := nodup_le N _ (hd.filter _) (fun x hx => by
      obtain ⟨h2, h3⟩ := List.mem_filter.1 hx
      have := h x h2
      have : x ≠ N := by simpa using h3
      omega)
    have h2 : l.length ≤ (l.filter (fun x => x != N)).length + 1 := by
      have h3 := filt_len N l
      have h4 : (l.filter (fun x => x == N)).length ≤ 1 := by
        have h5 : (l.filter (fun x => x == N)).Nodup := hd.filter _
        match hl : l.filter (fun x => x == N) with
        | [] => simp
        | [a] => simp
        | a :: b :: r =>
          rw [hl] at h5
          have ha : a ∈ l.filter (fun x => x == N) := by rw [hl]; simp
          have hb : b ∈ l.filter (fun x => x == N) := by rw [hl]; simp
          have ea : a = N := by simpa using (List.mem_filter.1 ha).2
          have eb : b = N := by simpa using (List.mem_filter.1 hb).2
          subst ea; subst eb
          simp at h5
      omega
    omega
theorem okN_perm {n : Nat} {x y : Nd} (h : okN n x) (p : y.Perm x) : okN n y := ⟨p.length_eq.trans h.1, fun r hr => h.2 r (p.mem_iff.1 hr)⟩
theorem queue_le {n : Nat} (hn : n ≤ 6) {L : List B3} {s0 : Nd} (h0 : okN n s0) {s : BS} (h : BI L s0 s) : s.1.length ≤ 46656 := by
  have h1 := nodup_le 46656 (s.1.map (fun x => (code6 x).toNat)) (by
    unfold List.Nodup
    rw [List.pairwise_map]
    refine h.nodup.imp_of_mem (fun {a b} ha hb hne e => hne ?_)
    have ha' := okN_perm h0 (h.perm a ha)
    have hb' := okN_perm h0 (h.perm b hb)
    have h3 := code6_lt hn ha'
    have h4 := code6_lt hn hb'
    exact code6_inj ha' hb' (by omega)) (fun c hc => by
    obtain ⟨x, hx, rfl⟩ := List.mem_map.1 hc
    have := code6_lt hn (okN_perm h0 (h.perm x hx))
    omega)
  simpa using h1

/-! ### How far -/
def endB (n : Nat) (s0 : Nd) : BS := bfs (blks n) s0 46656
theorem bfs_stop {L : List B3} {s0 : Nd} {k : Nat} (h : (bfs L s0 k).1.length ≤ k) : ∀ j, bfs L s0 (k + j) = bfs L s0 k
  | 0 => rfl
  | j + 1 => by
    have ih := bfs_stop h j
    show bround L (k + j) (bfs L s0 (k + j)) = _
    rw [ih]
    unfold bround
    rw [if_neg (by omega)]
theorem bfs_end {n : Nat} {s0 : Nd} {k : Nat} (h : (bfs (blks n) s0 k).1.length ≤ k) (hk : k ≤ 46656) : bfs (blks n) s0 k = endB n s0 := by
  have := bfs_stop h (46656 - k)
  rw [show k + (46656 - k) = 46656 by omega] at this
  exact this.symm
theorem end_ri (n : Nat) (s0 : Nd) : RI (blks n) s0 46656 (endB n s0) := bfs_ri (blks n) s0 46656
theorem end_bi (n : Nat) (s0 : Nd) : BI (blks n) s0 (endB n s0) := (end_ri n s0).bi
section ends
variable {n : Nat} {s0 : Nd} (hn : n ≤ 6) (h0 : okN n s0)
include hn h0
theorem end_closed {y : Nd} (hy : y ∈ (endB n s0).1) {b : B3} (hb : b ∈ blks n) : mvN y b ∈ (endB n s0).1 ∧ dpt (endB n s0) (mvN y b) ≤ dpt (endB n s0) y + 1 := by
  have hr := end_ri n s0
  obtain ⟨i, hi⟩ := List.getElem?_of_mem hy
  have hq := queue_le hn h0 hr.bi
  exact hr.closed i y (by have := (List.getElem?_eq_some_iff.1 hi).1; omega) hi b hb
theorem end_reach {x : Nd} (hx : x.Perm s0) : ∀ j, j ≤ n → ∃ y ∈ (endB n s0).1, dpt (endB n s0) y ≤ j ∧ y.Perm s0 ∧ y.take j = x.take j
  | 0, _ => by
    have hr := end_bi n s0
    exact ⟨s0, List.mem_of_mem_head? (by rw [hr.root.1]; rfl), by rw [hr.root.2]; exact Nat.le_refl _, List.Perm.refl _, rfl⟩
  | j + 1, hj => by
    obtain ⟨y, hy, hd, hp, ht⟩ := end_reach hx j (by omega)
    have hyl : y.length = n := hp.length_eq.trans h0.1
    have hxl : x.length = n := hx.length_eq.trans h0.1
    have hpd : (x.drop j).Perm (y.drop j) := by
      have h1 : (x.take j ++ x.drop j).Perm (x.take j ++ y.drop j) := by
        rw [List.take_append_drop, ← ht, List.take_append_drop]
        exact hx.trans hp.symm
      exact (List.perm_append_left_iff _).1 h1
    have hxj : x[j]'(by omega) ∈ y.drop j := hpd.mem_iff.1 (List.mem_iff_getElem.2 ⟨0, by rw [List.length_drop]; omega, by simp⟩)
    obtain ⟨p, hp1, hp2⟩ := List.mem_iff_getElem.1 hxj
    rw [List.length_drop] at hp1
    have hb : (j + p, 1, j) ∈ blks n := mem_blks.2 ⟨by omega, by omega, by omega⟩
    obtain ⟨c1, c2⟩ := end_closed hn h0 hy hb
    refine ⟨_, c1, by omega, (carried_perm _ _ _ _).trans hp, ?_⟩
    have e1 : (y.take (j + p) ++ y.drop (j + p + 1)).take j = y.take j := by
      rw [List.take_append_of_le_length (by rw [List.length_take]; omega), List.take_take, Nat.min_eq_left (by omega)]
    have e2 : (y.drop (j + p)).take 1 = [x[j]'(by omega)] := by
      rw [← hp2, List.getElem_drop, List.drop_eq_getElem_cons (show j + p < y.length by omega)]
      rfl
    show ((y.take (j + p) ++ y.drop (j + p + 1)).take j ++ (y.drop (j + p)).take 1 ++ (y.take (j + p) ++ y.drop (j + p + 1)).drop j).take (j + 1) = x.take (j + 1)
    rw [e1, e2, List.take_append_of_le_length (by simp; omega), List.take_of_length_le (by simp; omega), ht, ← List.take_append_getElem (by omega)]
theorem end_all {x : Nd} (hx : x.Perm s0) : x ∈ (endB n s0).1 ∧ dpt (endB n s0) x ≤ n := by
  obtain ⟨y, h1, h2, h3, h4⟩ := end_reach hn h0 hx n (Nat.le_refl _)
  have hxl : x.length = n := hx.length_eq.trans h0.1
  have hyl : y.length = n := h3.length_eq.trans h0.1
  rw [List.take_of_length_le (by omega), List.take_of_length_le (by omega)] at h4
  subst h4
  exact ⟨h1, h2⟩
theorem dpt_le {s : BS} (he : ExtB s (endB n s0)) {x : Nd} (hx : (s.2 x).isSome = true) : dpt s x ≤ n := by
  rw [← dpt_ext he hx]
  have h1 : ((endB n s0).2 x).isSome = true := by
    obtain ⟨v, hv⟩ := Option.isSome_iff_exists.1 hx
    rw [he.2 x v hv]; rfl
  have hr := end_bi n s0
  exact (end_all hn h0 (hr.perm x ((hr.mem x).1 h1))).2
theorem end_some {x : Nd} (hx : x.Perm s0) : (endB n s0).2 x = some (dpt (endB n s0) x) := by
  have hr := end_bi n s0
  have h1 := (hr.mem x).2 (end_all hn h0 hx).1
  obtain ⟨v, hv⟩ := Option.isSome_iff_exists.1 h1
  show (endB n s0).2 x = some (((endB n s0).2 x).getD 0)
  rw [show (endB n s0).2 x = some v from hv]; rfl
theorem mvN_ok {x : Nd} (hx : x.Perm s0) (b : B3) : (mvN x b).Perm s0 := (carried_perm _ _ _ _).trans hx
theorem end_near {x : Nd} (hx : x.Perm s0) {b : B3} (hb : b ∈ blks n) : dpt (endB n s0) x ≤ dpt (endB n s0) (mvN x b) + 1 := by
  obtain ⟨f, c, t⟩ := b
  have hm := mem_blks.1 hb
  have hxl : x.length = n := hx.length_eq.trans h0.1
  have hb' : (t, c, f) ∈ blks n := mem_blks.2 ⟨hm.1, by omega, by omega⟩
  have := (end_closed hn h0 (end_all hn h0 (mvN_ok hn h0 hx (f, c, t))).1 hb').2
  rwa [show mvN (mvN x (f, c, t)) (t, c, f) = x from carried_back (x := x) (f := f) (c := c) (t := t) (by omega) (by omega)] at this
theorem end_step {x : Nd} (hx : x.Perm s0) (h : 0 < dpt (endB n s0) x) : ∃ b ∈ blks n, dpt (endB n s0) (mvN x b) + 1 = dpt (endB n s0) x := by
  have hr := end_bi n s0
  have hx0 : x ≠ s0 := fun e => by rw [e, hr.root.2] at h; omega
  obtain ⟨y, hy, ⟨f, c, t⟩, hb, e1, e2⟩ := hr.par x (end_all hn h0 hx).1 hx0
  have hm := mem_blks.1 hb
  have hyl : y.length = n := (hr.perm y hy).length_eq.trans h0.1
  refine ⟨(t, c, f), mem_blks.2 ⟨hm.1, by omega, by omega⟩, ?_⟩
  rw [e1, show mvN (mvN y (f, c, t)) (t, c, f) = y from carried_back (x := y) (f := f) (c := c) (t := t) (by omega) (by omega), ← e1]
  exact e2.symm
theorem end_zero {x : Nd} (hx : x.Perm s0) (h : dpt (endB n s0) x = 0) : x = s0 := by
  have hr := end_bi n s0
  rcases Classical.em (x = s0) with e | e
  · exact e
  · obtain ⟨y, hy, b, hb, e1, e2⟩ := hr.par x (end_all hn h0 hx).1 e
    have e2 : dpt (endB n s0) x = dpt (endB n s0) y + 1 := e2
    omega
end ends

/-! ### The moves that sort -/
def nearB (n : Nat) (s0 : Nd) (x : Nd) : Option B3 := (blks n).find? (fun b => decide (dpt (endB n s0) (mvN x b) < dpt (endB n s0) x))
def wayB (n : Nat) (s0 : Nd) : Nat → Nd → List B3 × Nd
  | 0, x => ([], x)
  | m + 1, x => let p := wayB n s0 m x; match nearB n s0 p.2 with
    | some b => (p.1 ++ [b], mvN p.2 b)
    | none => p
section way
variable {n : Nat} {s0 : Nd} (hn : n ≤ 6) (h0 : okN n s0)
include hn h0
theorem near_ex {x : Nd} (hx : x.Perm s0) (h : 0 < dpt (endB n s0) x) : ∃ b, nearB n s0 x = some b ∧ b ∈ blks n ∧ dpt (endB n s0) (mvN x b) + 1 = dpt (endB n s0) x := by
  obtain ⟨b, hb, e⟩ := end_step hn h0 hx h
  cases hf : nearB n s0 x with
  | none =>
    have := List.find?_eq_none.1 hf b hb
    simp at this
    omega
  | some c =>
    have hc := List.find?_some hf
    have hcm := List.mem_of_find?_eq_some hf
    have := end_near hn h0 hx hcm
    simp at hc
    exact ⟨c, rfl, hcm, by omega⟩
theorem way_inv {x : Nd} (hx : x.Perm s0) (m : Nat) : m ≤ dpt (endB n s0) x → (wayB n s0 m x).2.Perm s0 ∧ dpt (endB n s0) (wayB n s0 m x).2 + m = dpt (endB n s0) x ∧ (wayB n s0 m x).1.length = m := by
  induction m with
  | zero => intro _; exact ⟨hx, Nat.add_zero _, rfl⟩
  | succ m ih =>
    intro hm
    obtain ⟨h1, h2, h3⟩ := ih (by omega)
    obtain ⟨b, e1, e2, e3⟩ := near_ex hn h0 h1 (by omega)
    have e4 : wayB n s0 (m + 1) x = ((wayB n s0 m x).1 ++ [b], mvN (wayB n s0 m x).2 b) := by simp only [wayB, e1]
    rw [e4]
    exact ⟨mvN_ok hn h0 h1 b, by simp only; omega, by simp only [List.length_append, h3]; rfl⟩
end way
theorem near_eq {n : Nat} {s0 : Nd} (hn : n ≤ 6) (h0 : okN n s0) {x : Nd} (hx : x.Perm s0) {b : B3} (hb : b ∈ blks n) : (dpt (endB n s0) (mvN x b) + 1 = dpt (endB n s0) x) ↔ dpt (endB n s0) (mvN x b) < dpt (endB n s0) x := by
  have := end_near hn h0 hx hb
  omega

abbrev b3D (b : B3) : List D := [.val (.int .i16 ((b.1 : Nat) : Int)), .val (.int .i16 ((b.2.1 : Nat) : Int)), .val (.int .i16 ((b.2.2 : Nat) : Int))]
abbrev b3s (bs : List B3) : List (List D) := bs.map b3D
theorem b3s_get (bs : List B3) (i : Nat) (h : i < bs.length) : (b3s bs)[i]? = some (b3D (bs.getD i (0, 0, 0))) := map_get b3D bs i h
theorem flat_b3s (ty : TypeId) (sz : Nat) (dp : Bool) (bs : List B3) : flatO ⟨ty, sz, dp, b3s bs⟩ := flatO_map b3D (fun a d hd => by simp only [b3D, List.mem_cons, List.not_mem_nil, or_false] at hd; rcases hd with rfl | rfl | rfl <;> rfl) _ _ _ _
theorem wI16' {n : Nat} (h : n ≤ 32767) : IntKind.i16.wrap ((n : Nat) : Int) = (n : Nat) := by simp only [IntKind.wrap, IntKind.bits, IntKind.signed]; simp; omega
theorem natsub' {a b : Nat} (h : b ≤ a) : (a : Int) - (b : Int) = ((a - b : Nat) : Int) := by omega
theorem b3s_app (l : List B3) (b : B3) : b3s (l ++ [b]) = b3s l ++ [b3D b] := by simp

noncomputable abbrev s_I_blocks : Spec Nat where
  args := fun n1 => [.val (.int .i64 ((n1 : Nat) : Int))]
  pre := fun n1 => n1 ≤ 6
  new := fun n1 => [⟨40, 3, false, b3s (blks n1)⟩]
  res := fun n1 => .own 0

set_option maxRecDepth 20000 in
set_option maxHeartbeats 4000000 in
theorem ok_I_blocks : FnOk Pr 29 s_I_blocks := by
 refine fn_ok 1 0 T0_ok Go.Proofs.Tryz.func29 rfl (enters_of Go.Proofs.Tryz.func29 rfl rfl) (fun _ => rfl) (fun _ => rfl) (fun _ => rfl) ?_
 rintro n1 hn C hP hN hm hG
 change awp C _ _ ⟨[(0, .val (.int .i64 ((n1 : Nat) : Int)))], [], 0⟩
 have hn : n1 ≤ 6 := hn
 have hN2 : n1 * (n1 + 1) ≤ 42 := Nat.le_trans (Nat.mul_le_mul hn (Nat.succ_le_succ hn)) (by decide)
 have hN3 : n1 * (n1 * (n1 + 1)) ≤ 252 := Nat.le_trans (Nat.mul_le_mul hn hN2) (by decide)
 have xn1 := And.intro @wI16' (And.intro @natadd' (And.intro @natadd1 (@natsub')))
 refine awp_seq ?_
 refine r1 T0_ok hP hm hN ?_
 refine g1 ?_
 refine awp_seq ?_
 refine r1 T0_ok hP hm hN ?_
 refine g1 ?_
 refine awp_seq ?_
 refine awp_seq ?_
 refine awp_weak (show Weak C _ ⟨[(0, .val (.int .i64 ((n1 : Nat) : Int))), (3, .own 0)], [(0, ⟨40, 3, false, b3s ([])⟩)], 1⟩ from Weak.trans (weak_nil 3 40 3 rfl) (weak_sl (sub_cons rfl (sub_cons rfl (sub_nil))))) ?_
 refine r1 T0_ok hP hm hN ?_
 iterate 2 refine g1 ?_
 refine awp_block ?_
 refine awp_loop (fun n st => ∃ f : Nat, f ≤ n1 ∧ n = n1 - f ∧ st = ⟨[(8, .val (.int .i64 ((f : Nat) : Int))), (0, .val (.int .i64 ((n1 : Nat) : Int))), (7, .val (.int .i64 ((n1 : Nat) : Int))), (3, .own 0)], [(0, ⟨40, 3, false, b3s (blkF n1 f)⟩)], 1⟩) (n1) ⟨_, weak_sl (sub_cons rfl (sub_cons rfl (sub_cons rfl (sub_cons rfl (sub_nil))))), 0, by omega, rfl, rfl⟩ ?_
 rintro n st ⟨f, hif, hnf, rfl⟩
 refine awp_seq ?_
 refine r1 T0_ok hP hm hN ?_
 refine g1 ?_
 refine awp_seq ?_
 refine awp_cond rfl (fun hc0 => ?_) (fun hc0 => ?_)
 ·
  have hltf : f < n1 := by simpa using hc0
  refine awp_skip ?_
  refine awp_seq ?_
  refine awp_block ?_
  refine awp_seq ?_
  refine r1 T0_ok hP hm hN ?_
  iterate 2 refine g1 ?_
  refine awp_seq ?_
  refine r1 T0_ok hP hm hN ?_
  refine g1 ?_
  refine awp_block ?_
  refine awp_loop (fun n st => ∃ c : Nat, c ≤ n1 - f ∧ n = n1 - f - c ∧ st = ⟨[(8, .val (.int .i64 ((f : Nat) : Int))), (4, .val (.int .i64 ((f : Nat) : Int))), (5, .val (.int .i64 (((c + 1) : Nat) : Int))), (0, .val (.int .i64 ((n1 : Nat) : Int))), (7, .val (.int .i64 ((n1 : Nat) : Int))), (3, .own 0)], [(0, ⟨40, 3, false, b3s (blkF n1 f ++ blkC n1 f c)⟩)], 1⟩) (n1 - f) ⟨_, (by rw [show blkC n1 f 0 = [] from rfl, List.append_nil]; exact weak_sl (sub_cons rfl (sub_cons rfl (sub_cons rfl (sub_cons rfl (sub_cons rfl (sub_cons rfl (sub_nil)))))))), 0, by omega, by omega, rfl⟩ ?_
  rintro n st ⟨c, hic, hnc, rfl⟩
  refine awp_seq ?_
  refine awp_seq ?_
  refine r1 T0_ok hP hm hN ?_
  iterate 5 refine g1 ?_
  refine awp_cond rfl (fun hc1 => ?_) (fun hc1 => ?_)
  ·
   have hcl : c < n1 - f := by simp at hc1; omega
   refine awp_skip ?_
   refine awp_seq ?_
   refine awp_block ?_
   refine awp_seq ?_
   refine r1 T0_ok hP hm hN ?_
   iterate 5 refine g1 ?_
   refine awp_block ?_
   refine awp_loop (fun n st => ∃ t : Nat, t ≤ (n1 - (c + 1) + 1) ∧ n = (n1 - (c + 1) + 1) - t ∧ st = ⟨[(22, .val (.int .i64 ((t : Nat) : Int))), (21, .val (.int .i64 (((n1 - (c + 1) + 1) : Nat) : Int))), (8, .val (.int .i64 ((f : Nat) : Int))), (4, .val (.int .i64 ((f : Nat) : Int))), (5, .val (.int .i64 (((c + 1) : Nat) : Int))), (0, .val (.int .i64 ((n1 : Nat) : Int))), (7, .val (.int .i64 ((n1 : Nat) : Int))), (3, .own 0)], [(0, ⟨40, 3, false, b3s (blkF n1 f ++ blkC n1 f c ++ blkT f c t)⟩)], 1⟩) ((n1 - (c + 1) + 1)) ⟨_, (by rw [show blkT f c 0 = [] from rfl, List.append_nil]; exact weak_sl (sub_cons rfl (sub_cons rfl (sub_cons rfl (sub_cons rfl (sub_cons rfl (sub_cons rfl (sub_cons rfl (sub_cons rfl (sub_nil)))))))))), 0, by omega, rfl, rfl⟩ ?_
   rintro n st ⟨t, hit, hnt, rfl⟩
   refine awp_seq ?_
   refine r1 T0_ok hP hm hN ?_
   refine g1 ?_
   refine awp_seq ?_
   refine awp_cond rfl (fun hc2 => ?_) (fun hc2 => ?_)
   ·
    have hltt : t < n1 - (c + 1) + 1 := by simp at hc2; omega
    have hb1 := len_blkF (n := n1) (f := f) (by omega)
    have hb2 := len_blkC (n := n1) (f := f) (c := c) (by omega)
    have hb3 := len_blkT f c t
    refine awp_skip ?_
    refine awp_seq ?_
    refine awp_block ?_
    refine awp_seq ?_
    refine r1 T0_ok hP hm hN ?_
    iterate 2 refine g1 ?_
    refine r1 T0_ok hP hm hN ?_
    iterate 9 refine g1 ?_
    refine ga1 ?_
    refine g1 ?_
    refine r1 T0_ok hP hm hN ?_
    iterate 2 refine g1 ?_
    refine ⟨(n1 - (c + 1) + 1) - (t + 1), _, by omega, (by (try dsimp only); rw [blkT_succ, ← List.append_assoc, b3s_app]; exact Weak.trans (weak_drop 1) (Weak.trans (weak_nx (nx' := 1) (by omega) (by rfl)) (weak_sl (sub_cons rfl (sub_cons rfl (sub_cons rfl (sub_cons rfl (sub_cons rfl (sub_cons rfl (sub_cons rfl (sub_cons rfl (sub_nil)))))))))))), t + 1, by omega, rfl, rfl⟩
   ·
    have hget : ¬ t < n1 - (c + 1) + 1 := by simp at hc2; omega
    have heqt : t = n1 - (c + 1) + 1 := by omega
    refine awp_exit ?_
    repeat refine thenA_exit ?_
    refine blockA_hit ?_
    refine r1 T0_ok hP hm hN ?_
    iterate 3 refine g1 ?_
    have heT : t = n1 - (c + 1) + 1 := by omega
    subst heT
    refine ⟨n1 - f - (c + 1), _, by omega, (by rw [blkC_succ, ← List.append_assoc]; exact weak_sl (sub_cons rfl (sub_cons rfl (sub_cons rfl (sub_cons rfl (sub_cons rfl (sub_cons rfl (sub_nil)))))))), c + 1, by omega, rfl, rfl⟩
  ·
   have hcl : ¬ c < n1 - f := by simp at hc1; omega
   refine awp_exit ?_
   repeat refine thenA_exit ?_
   refine blockA_hit ?_
   refine r1 T0_ok hP hm hN ?_
   iterate 2 refine g1 ?_
   have heC : c = n1 - f := by omega
   subst heC
   refine ⟨n1 - (f + 1), _, by omega, (by rw [blkF_succ]; exact weak_sl (sub_cons rfl (sub_cons rfl (sub_cons rfl (sub_cons rfl (sub_nil)))))), f + 1, by omega, rfl, rfl⟩
 ·
  have hgef : ¬ f < n1 := by simpa using hc0
  have heqf : f = n1 := by omega
  rw [heqf]
  refine awp_exit ?_
  repeat refine thenA_exit ?_
  refine blockA_hit ?_
  refine awp_seq ?_
  refine r1 T0_ok hP hm hN ?_
  iterate 2 refine g1 ?_
  refine awp_ret ?_
  refine fin_mk [0] rfl rfl ?_ (objs_cons rfl rfl rfl rfl rfl (.inl rfl) objs_nil) (by decide)
  rfl
end Go.Proofs.YtpdkhlpmiblflaaGreat.Abs

