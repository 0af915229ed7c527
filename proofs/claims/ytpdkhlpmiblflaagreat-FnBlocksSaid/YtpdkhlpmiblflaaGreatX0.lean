import Derived.Test.YtpdkhlpmiblflaaGreatD6
set_option linter.unusedVariables false
set_option linter.unusedSimpArgs false
namespace Go.Proofs.YtpdkhlpmiblflaaGreat.Abs
open Go Go.RowKit
def un (u : ByteArray) : Nd := u.data.toList.map fun b => (b.toNat : Int) - 48
theorem un_tx {m : Nat} {x : Nd} (h : okN m x) : un (strOfNums (tx x)) = x := by
  unfold un
  rw [strOfNums_data, tx, List.map_map, List.map_map]
  have e : x.map (((fun b : UInt8 => (b.toNat : Int) - 48) ∘ fun v : Int => UInt8.ofNat v.toNat) ∘ fun r : Int => 48 + r) = x.map id := by
    apply List.map_congr_left
    intro r hr
    have := h.2 r hr
    simp only [Function.comp, UInt8.toNat_ofNat', id]
    omega
  rw [e, List.map_id]
theorem tx_un (u : ByteArray) : strOfNums (tx (un u)) = u := by
  have e : (strOfNums (tx (un u))).data.toList = u.data.toList := by
    rw [strOfNums_data, tx, un, List.map_map, List.map_map]
    have e2 : u.data.toList.map (((fun v : Int => UInt8.ofNat v.toNat) ∘ fun r : Int => 48 + r) ∘ fun b : UInt8 => (b.toNat : Int) - 48) = u.data.toList.map id := by
      apply List.map_congr_left
      intro b _
      simp only [Function.comp, id]
      rw [show (48 + ((b.toNat : Int) - 48)).toNat = b.toNat by omega]
      exact UInt8.ofNat_toNat
    rw [e2, List.map_id]
  cases u with
  | mk d =>
    cases h : strOfNums (tx (un ⟨d⟩)) with
    | mk d' =>
      rw [h] at e
      congr 1
      exact Array.toList_inj.1 e
def fM (d : Nd → Option Nat) : ByteArray → Option Int := fun u => (d (un u)).map fun v => ((v : Nat) : Int)
theorem fM_at {m : Nat} {x : Nd} (h : okN m x) (d : Nd → Option Nat) : fM d (strOfNums (tx x)) = (d x).map fun v => ((v : Nat) : Int) := by rw [fM, un_tx h]
theorem fM_upd {m : Nat} {x : Nd} (h : okN m x) (d : Nd → Option Nat) (v : Nat) : (fun u => if u = strOfNums (tx x) then some ((v : Nat) : Int) else fM d u) = fM (updN d x v) := by
  funext u
  show _ = (updN d x v (un u)).map _
  unfold updN
  by_cases e : u = strOfNums (tx x)
  · subst e
    rw [if_pos rfl, un_tx h, if_pos rfl]; rfl
  · rw [if_neg e, if_neg (fun e2 => e (by rw [← e2, tx_un]))]; rfl
theorem sort_tx (x : Nd) : sortI (tx x) = tx (sortI x) := by
  refine sortI_eq ((sortI_perm x).map _) ?_
  unfold tx
  rw [List.pairwise_map]
  exact (sortI_le x).imp (fun h => by omega)
theorem okN_sort {m : Nat} {x : Nd} (h : okN m x) : okN m (sortI x) := okN_perm h (sortI_perm x)
theorem bad_blks {m f c t : Nat} (h : (f, c, t) ∈ blks m) : blkBad m ((f : Int), (c : Int), (t : Int)) = false := by
  have := mem_blks.1 h
  unfold blkBad
  simp only [Bool.or_eq_false_iff, decide_eq_false_iff_not, Bool.not_eq_false']
  exact ⟨⟨⟨by omega, by omega⟩, by omega⟩, inI_iff.2 (by omega)⟩
theorem bmN_blks {m f c t : Nat} {x : Nd} (hx : x.length = m) (h : (f, c, t) ∈ blks m) : bmN (tx x) ((f : Int), (c : Int), (t : Int)) = (tx (mvN x (f, c, t)), true) := by
  rw [bmN, if_neg (by rw [tx_len, hx, bad_blks h]; simp)]
  show (carried (tx x) f c t, true) = _
  rw [tx, carried_map]; rfl
abbrev txs (q : List Nd) : List (List D) := q.map fun x => [.val (.string (strOfNums (tx x)))]
abbrev mpD (mb : Nat) (d : Nd → Option Nat) (k : Nat) : D := .mp (some mb) (MapS Pr 9 3 (fM d) k)
theorem mpK : Pr.underlying 9 = some .string := by kernel_rfl
theorem mpT : Pr.underlying 53 = some (.map 9 3) := by kernel_rfl
theorem mpE : Pr.underlying 3 = some (.int .i64) := by kernel_rfl
theorem mpZ (w : World) : (zeroValue 3).run Pr w = .ok (.int .i64 0) w := TI.run_zero (T0_ok 3 _ rfl) w
theorem wf_i64 {v : Nat} (h : v ≤ 100) : (Lit.int .i64 (((v : Nat) : Int) + 1)).wf = true := by
  have e : ((v : Nat) : Int) + 1 = ((v + 1 : Nat) : Int) := rfl
  rw [e]
  simp [Lit.wf, IntKind.min, IntKind.max, IntKind.bits, IntKind.signed]
  omega
theorem runB_take {now : Nd} {s : BS} {L : List B3} {i : Nat} (h : i < L.length) : runB now s (L.take (i + 1)) = bstep now (runB now s (L.take i)) (L.getD i (0, 0, 0)) := by
  rw [List.take_succ_eq_append_getElem h, runB, List.foldl_append]
  simp [runB, List.getD, h]
theorem bstep_old {now : Nd} {s : BS} {b : B3} (h : (s.2 (mvN now b)).isSome = true) : bstep now s b = s := by rw [bstep, if_pos h]
theorem bstep_new {now : Nd} {s : BS} {b : B3} (h : (s.2 (mvN now b)).isSome = false) : bstep now s b = (s.1 ++ [mvN now b], updN s.2 (mvN now b) ((s.2 now).getD 0 + 1)) := by rw [bstep, if_neg (by rw [h]; simp)]
theorem len_blks {m : Nat} (h : m ≤ 6) : (blks m).length ≤ 252 := Nat.le_trans (len_blkF (Nat.le_refl m)) (Nat.le_trans (Nat.mul_le_mul h (Nat.mul_le_mul h (Nat.succ_le_succ h))) (by decide))
theorem txs_app (a b : List Nd) : txs (a ++ b) = txs a ++ txs b := List.map_append
theorem b3s_stays (l : List B3) : ∀ y ∈ b3s l, ∀ d ∈ y, staysD d = true := fun y hy d hd => by
  obtain ⟨b, _, rfl⟩ := List.mem_map.1 hy
  simp only [b3D, List.mem_cons, List.not_mem_nil, or_false] at hd
  rcases hd with rfl | rfl | rfl <;> rfl
theorem ints_stays (k : IntKind) (l : List Int) : ∀ y ∈ ints k l, ∀ d ∈ y, staysD d = true := fun y hy d hd => by
  obtain ⟨b, _, rfl⟩ := List.mem_map.1 hy
  rw [List.mem_singleton.1 hd]; rfl
theorem txs_stays (l : List Nd) : ∀ y ∈ txs l, ∀ d ∈ y, staysD d = true := fun y hy d hd => by
  obtain ⟨b, _, rfl⟩ := List.mem_map.1 hy
  rw [List.mem_singleton.1 hd]; rfl
theorem txs_head {xs : List (List D)} {lo at_ : Nat} {q : List Nd} {x : Nd} (h : xs.drop lo = txs (q.drop at_)) (hx : q[at_]? = some x) : xs[lo]? = some [.val (.string (strOfNums (tx x)))] := by
  have h1 : (xs.drop lo)[0]? = xs[lo]? := by rw [List.getElem?_drop]; rfl
  rw [← h1, h, List.getElem?_map, List.getElem?_drop]
  show (q[at_]?).map _ = _
  rw [hx]; rfl
theorem txs_tail {xs : List (List D)} {lo at_ : Nat} {q : List Nd} (h : xs.drop lo = txs (q.drop at_)) : xs.drop (lo + 1) = txs (q.drop (at_ + 1)) := by
  rw [← List.drop_drop, h, ← List.map_drop, List.drop_drop]
structure RoundP (k0 : Nat) (s0 now : Nd) (at_ i : Nat) (f c t : Nat) (S R : BS) : Prop where
  hd : R.1[at_]? = some now
  lt : at_ < R.1.length
  le : R.1.length ≤ 46656
  ok : okN k0 now
  nx : okN k0 (mvN now (f, c, t))
  dn : (R.2 now) = some ((R.2 now).getD 0)
  dle : (R.2 now).getD 0 ≤ k0
theorem roundP {k0 : Nat} (hk : k0 ≤ 6) {s0 : Nd} (h0 : okN k0 s0) {at_ i f c t : Nat} (hat : at_ < (bfs (blks k0) s0 at_).1.length) (hi : i < (blks k0).length) (hb : (blks k0).getD i (0, 0, 0) = (f, c, t)) {now : Nd} (hnow : (bfs (blks k0) s0 at_).1.getD at_ [] = now) :
    RoundP k0 s0 now at_ i f c t (bfs (blks k0) s0 at_) (runB now (bfs (blks k0) s0 at_) ((blks k0).take i)) := by
  have hr := bfs_ri (blks k0) s0 at_
  have ha : (bfs (blks k0) s0 at_).1[at_]? = some now := by rw [← hnow]; simp [List.getD, hat]
  have h1 : MI (blks k0) s0 at_ now [] (bfs (blks k0) s0 at_) := ⟨hr.bi, ha, hr.top _ ha, hr.closed, fun b hb => by cases hb⟩
  have h2 := MI.run ((blks k0).take i) h1 (fun b hb => List.mem_of_mem_take hb)
  have hq := queue_le hk h0 h2.bi
  have hm : now ∈ (runB now (bfs (blks k0) s0 at_) ((blks k0).take i)).1 := List.mem_of_getElem? h2.at_
  have hp := h2.bi.perm _ hm
  have hs := (h2.bi.mem _).2 hm
  have hq0 := queue_le hk h0 hr.bi
  have hext : ExtB (runB now (bfs (blks k0) s0 at_) ((blks k0).take i)) (endB k0 s0) := by
    have e1 : ExtB (runB now (bfs (blks k0) s0 at_) ((blks k0).take i)) (runB now (bfs (blks k0) s0 at_) (blks k0)) := by
      have : runB now (bfs (blks k0) s0 at_) (blks k0) = runB now (runB now (bfs (blks k0) s0 at_) ((blks k0).take i)) ((blks k0).drop i) := by
        rw [runB, runB, runB, ← List.foldl_append, List.take_append_drop]
      rw [this]; exact runB_ext _ _ _
    have e2 : runB now (bfs (blks k0) s0 at_) (blks k0) = bfs (blks k0) s0 (at_ + 1) := by
      show _ = bround _ _ _
      rw [bround, if_pos hat, hnow]
    rw [e2] at e1
    exact e1.trans (bfs_ext (blks k0) s0 (by omega))
  exact ⟨h2.at_, (List.getElem?_eq_some_iff.1 h2.at_).1, hq, okN_perm h0 hp, okN_perm h0 ((carried_perm _ _ _ _).trans hp), by obtain ⟨v, hv⟩ := Option.isSome_iff_exists.1 hs; rw [hv]; rfl, dpt_le hk h0 hext hs⟩
theorem round_q {k0 : Nat} (hk : k0 ≤ 6) {s0 : Nd} (h0 : okN k0 s0) {at_ : Nat} (hat : at_ < (bfs (blks k0) s0 at_).1.length) {now : Nd} (hnow : (bfs (blks k0) s0 at_).1.getD at_ [] = now) (i : Nat) : (runB now (bfs (blks k0) s0 at_) ((blks k0).take i)).1.length ≤ 46656 := by
  have hr := bfs_ri (blks k0) s0 at_
  have ha : (bfs (blks k0) s0 at_).1[at_]? = some now := by rw [← hnow]; simp [List.getD, hat]
  have h1 : MI (blks k0) s0 at_ now [] (bfs (blks k0) s0 at_) := ⟨hr.bi, ha, hr.top _ ha, hr.closed, fun b hb => by cases hb⟩
  exact queue_le hk h0 (MI.run ((blks k0).take i) h1 (fun b hb => List.mem_of_mem_take hb)).bi
theorem bfs_next {k0 : Nat} {s0 now : Nd} {at_ : Nat} (hat : at_ < (bfs (blks k0) s0 at_).1.length) (hnow : (bfs (blks k0) s0 at_).1.getD at_ [] = now) : runB now (bfs (blks k0) s0 at_) ((blks k0).take (blks k0).length) = bfs (blks k0) s0 (at_ + 1) := by
  rw [List.take_length]
  show _ = bround _ _ _
  rw [bround, if_pos hat, hnow]
end Go.Proofs.YtpdkhlpmiblflaaGreat.Abs

