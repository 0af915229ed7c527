import Derived.Test.YtheoapoddmmahaaGreatF5
import Derived.Test.YtheoapoddmmahaaGreatAbsD
set_option linter.unusedVariables false
set_option linter.unusedSimpArgs false
namespace Go.Proofs.YtheoapoddmmahaaGreat.Abs
open Go Go.RowKit

/-! ### Rows that a call hands over -/
def rowsO (f : Nat → List Int) (E : TypeId) : Nat → Nat → List Ob
  | _, 0 => []
  | c, n + 1 => ⟨E, 1, false, i64s (f c)⟩ :: rowsO f E (c + 1) n
theorem rowsO_len (f : Nat → List Int) (E : TypeId) : ∀ (n c : Nat), (rowsO f E c n).length = n
  | 0, _ => rfl
  | n + 1, c => by rw [rowsO, List.length_cons, rowsO_len f E n (c + 1)]
theorem numbered_rows (f : Nat → List Int) (E : TypeId) : ∀ (n c : Nat), numbered (c + 30) (rowsO f E c n) = famR f E c n
  | 0, _ => rfl
  | n + 1, c => by
    rw [rowsO, famR, ← numbered_rows f E n (c + 1), show c + 1 + 30 = c + 30 + 1 by omega]
    rfl
theorem i64s_shC (K : List Nat) (xs : List Int) : (i64s xs).map (·.map (shC K)) = i64s xs := by
  simp [shC]
theorem rowsO_sh (K : List Nat) (f : Nat → List Int) (E : TypeId) : ∀ (n c : Nat), (rowsO f E c n).map (shO K) = rowsO f E c n
  | 0, _ => rfl
  | n + 1, c => by
    rw [rowsO, List.map_cons, rowsO_sh K f E n (c + 1)]
    show (⟨E, 1, false, (i64s (f c)).map (·.map (shC K))⟩ : Ob) :: _ = _
    rw [i64s_shC]
theorem rowsO_mem {f : Nat → List Int} {E : TypeId} {o : Ob} : ∀ (n c : Nat), o ∈ rowsO f E c n → ∃ xs, o = ⟨E, 1, false, i64s xs⟩
  | 0, _, h => by cases h
  | n + 1, c, h => by
    rw [rowsO] at h
    rcases List.mem_cons.1 h with h | h
    · exact ⟨_, h⟩
    · exact rowsO_mem n (c + 1) h
theorem renXs_i64s (ks : List Nat) : ∀ xs : List Int, renXs ks (i64s xs) = some (i64s xs)
  | [] => rfl
  | x :: xs => by
    show (match renCL ks [D.val (.int .i64 x)], renXs ks (i64s xs) with | some y, some ys => some (y :: ys) | _, _ => none) = _
    rw [renXs_i64s ks xs]
    rfl
theorem okG_rows {f : Nat → List Int} {E TE : TypeId} {k : Nat} : ∀ o ∈ (⟨TE, 1, true, tabD (fun j => .own (j + 1)) k⟩ : Ob) :: rowsO f E 0 k, okG (k + 1) o := fun o ho => by
  rcases List.mem_cons.1 ho with h | h
  · subst h
    intro x hx d hd
    obtain ⟨j, hj, rfl⟩ := List.mem_map.1 hx
    simp only [List.mem_singleton] at hd
    subst hd
    exact ⟨by have := List.mem_range.1 hj; omega, rfl⟩
  · obtain ⟨xs, rfl⟩ := rowsO_mem _ _ h
    intro x hx d hd
    obtain ⟨z, _, rfl⟩ := List.mem_map.1 hx
    simp only [List.mem_singleton] at hd
    subst hd
    trivial
theorem outer_sh (TE : TypeId) (k : Nat) : shO (List.range' 29 (k + 1)) ⟨TE, 1, true, tabD (fun j => .own (j + 1)) k⟩ = ⟨TE, 1, true, tabD (fun j => .own (j + 30)) k⟩ := by
  show (⟨TE, 1, true, (tabD (fun j => D.own (j + 1)) k).map (·.map (shC (List.range' 29 (k + 1))))⟩ : Ob) = _
  rw [tabD_map]
  congr 1
  refine tabD_congr (fun j hj => ?_)
  show D.own _ = D.own _
  rw [List.getD, List.getElem?_range' (by omega)]
  simp
  omega
theorem numbered_outer (f : Nat → List Int) (E TE : TypeId) (k : Nat) : numbered 29 ((((⟨TE, 1, true, tabD (fun j => .own (j + 1)) k⟩ : Ob) :: rowsO f E 0 k)).map (shO (List.range' 29 (k + 1)))) = (29, ⟨TE, 1, true, tabD (uO f 0) k⟩) :: famR f E 0 k := by
  rw [List.map_cons, rowsO_sh, outer_sh]
  show (29, (⟨TE, 1, true, tabD (fun j => D.own (j + 30)) k⟩ : Ob)) :: numbered (0 + 30) (rowsO f E 0 k) = _
  rw [numbered_rows]
  congr 3
theorem weak_frzR {C : Ctx} {f : Nat → List Int} {E TE : TypeId} {k nx : Nat} {sl : List (Nat × D)} {hp : HP} (hS0 : C.S = []) (hG : ∀ b, C.w0.heap.size ≤ b → C.G b) (hk : k ≤ 6) (hm : C.m ≤ 30) (hsl : ∀ c xs, c < 6 → frzSl (c + 30) 1 (i64s xs) sl = sl) (hhp : ∀ c xs, c < 6 → frzHP (c + 30) 1 (i64s xs) hp = hp) (hnx : hp.all (fun p => decide (p.1 < 30)) = true) :
    Weak C ⟨sl, (29, ⟨TE, 1, true, tabD (uO f 0) k⟩) :: (famR f E 0 k ++ hp), nx⟩ ⟨sl, (29, ⟨TE, 1, false, tabD (gI f k) k⟩) :: hp, 30⟩ := by
  have app : ∀ (h sz : Nat) (ys : List (List D)) (l l' : HP), frzHP h sz ys (l ++ l') = frzHP h sz ys l ++ frzHP h sz ys l' := by
    intro h sz ys l
    induction l with
    | nil => intro l'; rfl
    | cons p l ih =>
      intro l'
      obtain ⟨q, o⟩ := p
      simp only [List.cons_append, frzHP, ih]
      split
      · rfl
      · rfl
  have step : ∀ n c, c + n = k → Weak C ⟨sl, (29, ⟨TE, 1, true, tabD (uO f c) k⟩) :: (famR f E c n ++ hp), nx⟩ ⟨sl, (29, ⟨TE, 1, true, tabD (uO f k) k⟩) :: hp, nx⟩ := by
    intro n
    induction n with
    | zero =>
      intro c hc
      rw [show c = k by omega]
      exact Weak.refl _ _
    | succ n ih =>
      intro c hc
      refine Weak.trans ?_ (ih (c + 1) (by omega))
      have h0 := weak_frz (C := C) (nx := nx) (sl := sl) (c + 30) (hp := (29, ⟨TE, 1, true, tabD (uO f c) k⟩) :: (famR f E c (n + 1) ++ hp)) (ob := ⟨E, 1, false, i64s (f c)⟩) hS0 hG (by rw [lk_cons, if_neg (by omega), famR, List.cons_append, lk_cons, if_pos rfl]) (.inl rfl)
      rw [show frzSl (c + 30) (⟨E, 1, false, i64s (f c)⟩ : Ob).sz (⟨E, 1, false, i64s (f c)⟩ : Ob).xs sl = sl from hsl c _ (by omega)] at h0
      rw [show frzHP (c + 30) (⟨E, 1, false, i64s (f c)⟩ : Ob).sz (⟨E, 1, false, i64s (f c)⟩ : Ob).xs ((29, ⟨TE, 1, true, tabD (uO f c) k⟩) :: (famR f E c (n + 1) ++ hp)) = (29, ⟨TE, 1, true, tabD (uO f (c + 1)) k⟩) :: (famR f E (c + 1) n ++ hp) by
        show frzHP (c + 30) 1 (i64s (f c)) _ = _
        rw [frzHP, if_neg (by omega), famR, List.cons_append, frzHP, if_pos rfl, app, frz_fam _ _ _ _ _ _ _ (.inl (by omega)), hhp c _ (by omega)]
        show (29, (⟨TE, 1, true, (tabD (uO f c) k).map (·.map (frzC (c + 30) 1 (i64s (f c))))⟩ : Ob)) :: _ = _
        rw [tabD_map]
        congr 3
        refine tabD_congr (fun j hj => ?_)
        unfold uO
        by_cases h1 : j < c
        · rw [if_pos h1, if_pos (by omega)]; rfl
        · by_cases h2 : j = c
          · subst h2; rw [if_neg h1, if_pos (by omega)]; simp [frzC]
          · rw [if_neg h1, if_neg (by omega)]
            simp only [frzC]
            rw [if_neg (by omega)]] at h0
      exact h0
  refine Weak.trans (step k 0 (by omega)) ?_
  rw [uO_end]
  refine Weak.trans (weak_deep (C := C) 29 false (ob := ⟨TE, 1, true, tabD (gI f k) k⟩) (by rw [lk_cons, if_pos rfl]) (fun _ _ => gI_hf _ _ _)) ?_
  rw [hset, if_pos rfl]
  refine weak_nx hm ?_
  rw [List.all_cons, hnx]; rfl
noncomputable def kG (hs : List Int) (bs : List Bk) : Nat := if ask (allG hs bs) then hs.length else 0
noncomputable def okR (hs : List Int) (bs : List Bk) : Bool := ask (allG hs bs)
abbrev rwG (hs : List Int) (bs : List Bk) : Nat → List Int := fun c => selK (gF hs bs) c bs.length
theorem grpL_tab (hs : List Int) (bs : List Bk) : i64ss (grpL hs bs) = tabD (gI (rwG hs bs) hs.length) hs.length := by
  rw [grpL, grpF, tabD]
  simp only [List.map_map]
  refine List.map_congr_left (fun j hj => ?_)
  simp [gI, List.mem_range.1 hj]
end Go.Proofs.YtheoapoddmmahaaGreat.Abs

