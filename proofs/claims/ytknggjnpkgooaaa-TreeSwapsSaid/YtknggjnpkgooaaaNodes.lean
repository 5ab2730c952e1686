/- Trees of nodes in memory: what a tree of the call's own is (Tr), and that it reads as its tree. -/
import Derived.Test.YtknggjnpkgooaaaPTreeSwapsx0
import Derived.WalkSpells
namespace Go.Proofs.Ytknggjnpkgooaaa
open Go.RowKit Go.Proofs.YtknggjnpkgooaaaW.PrintWords Go.Proofs.YtknggjnpkgooaaaW.PrintLast Go.Proofs.YtknggjnpkgooaaaW.PrintMore PTreeSwaps

/-- Induction on a tree. -/
theorem S24.ind {P : S24 → Prop} (h : ∀ x : S24, (∀ y, y ∈ x.f5 → P y) → P x) : ∀ x, P x := by
  have key : ∀ (n : Nat) (x : S24), SizeOf.sizeOf x < n → P x := by
    intro n
    induction n with
    | zero => intro x hx; exact absurd hx (Nat.not_lt_zero _)
    | succ n ih =>
      intro x hx
      refine h x fun y hy => ih y ?_
      have h1 := List.sizeOf_lt_of_mem hy
      obtain ⟨a, b, c, d, e, l⟩ := x
      simp only [S24.mk.sizeOf_spec] at hx
      dsimp only at h1
      omega
  exact fun x => key _ x (Nat.lt_succ_self _)

/-- A node's six cells, its list's value v. -/
def nodeCells (x : S24) (v : Value) : List Value := [.int .i64 x.f0, .string x.f1, .int .i64 x.f2, .int .i64 x.f3, .int .i64 x.f4, v]
theorem nodeCells_length (x : S24) (v : Value) : (nodeCells x v).length = 6 := rfl

/-- A tree whose rows lie in the blocks from lo on and before hi, each part's rows apart from all others'. -/
inductive Tr (w : World) : Nat → Nat → S24 → List Value → Prop
  | leaf {lo hi : Nat} {x : S24} {A : Option Addr} {c : Nat} (h : x.f5 = []) : Tr w lo hi x (nodeCells x (.slice A 0 c))
  | node {lo hi : Nat} {x : S24} {g c : Nat} {cur : Array Value} {b : Nat → Nat} (hlo : lo ≤ g) (hg : w.heap[g]? = some (.cells cur 24 (0, 0))) (hc : x.f5.length ≤ c) (hcm : c ≤ maxLen) (hs : cur.size = c * 6)
      (hb0 : g < b 0) (hb : ∀ j, j < x.f5.length → b j ≤ b (j + 1)) (hhi : b x.f5.length ≤ hi)
      (hk : ∀ (j : Nat) (p : S24), x.f5[j]? = some p → Tr w (b j) (b (j + 1)) p ((cur.toList.drop (j * 6)).take 6)) : Tr w lo hi x (nodeCells x (.slice (some ⟨g, 0, none⟩) x.f5.length c))

theorem Tr.len {w : World} {lo hi : Nat} {x : S24} {cs : List Value} (h : Tr w lo hi x cs) : cs.length = 6 := by cases h <;> rfl
theorem mono_le {b : Nat → Nat} {n : Nat} (hb : ∀ j, j < n → b j ≤ b (j + 1)) : ∀ {i j}, i ≤ j → j ≤ n → b i ≤ b j := by
  intro i j hij hj
  induction j with
  | zero => obtain rfl : i = 0 := by omega
            exact Nat.le_refl _
  | succ j ih =>
    rcases Nat.lt_or_ge i (j + 1) with h | h
    · exact Nat.le_trans (ih (by omega) (by omega)) (hb j (by omega))
    · obtain rfl : i = j + 1 := by omega
      exact Nat.le_refl _
theorem Tr.keep {w w' : World} {lo hi : Nat} {x : S24} {cs : List Value} (h : Tr w lo hi x cs) : (∀ k, lo ≤ k → k < hi → w'.heap[k]? = w.heap[k]?) → Tr w' lo hi x cs := by
  induction h with
  | leaf h => intro _; exact .leaf h
  | @node lo hi x g c cur b hlo hg hc hcm hs hb0 hb hhi hk ih =>
    intro hw
    have h0 := mono_le hb (Nat.zero_le x.f5.length) (Nat.le_refl _)
    refine .node hlo ((hw g hlo (by omega)).trans hg) hc hcm hs hb0 hb hhi fun j p hj => ih j p hj fun k hk1 hk2 => hw k ?_ ?_
    · have hjl := (List.getElem?_eq_some_iff.1 hj).1
      have := mono_le hb (Nat.zero_le j) (by omega)
      omega
    · have hjl := (List.getElem?_eq_some_iff.1 hj).1
      have := mono_le hb (show j + 1 ≤ x.f5.length by omega) (Nat.le_refl _)
      omega
theorem Tr.mono {w : World} {lo hi lo' hi' : Nat} {x : S24} {cs : List Value} (h : Tr w lo hi x cs) (h1 : lo' ≤ lo) (h2 : hi ≤ hi') : Tr w lo' hi' x cs := by
  cases h with
  | leaf h => exact .leaf h
  | node hlo hg hc hcm hs hb0 hb hhi hk => exact .node (by omega) hg hc hcm hs hb0 hb (by omega) hk

/-- A row of a block of one's own reads as its elements do. -/
theorem C_of_block {w : World} {g c : Nat} {cur : Array Value} {xs : List S24} (hg : w.heap[g]? = some (.cells cur 24 (0, 0))) (hc : xs.length ≤ c) (hcm : c ≤ maxLen)
    (hk : ∀ (j : Nat) (p : S24), xs[j]? = some p → k24.K w p ((cur.toList.drop (j * 6)).take 6)) : k24.C w (some ⟨g, 0, none⟩) xs.length xs := by
  refine ⟨rfl, by simp only [maxLen] at hcm; omega, fun _ => ⟨_, rfl, fun j p hj => ⟨_, ?_, hk j p hj, fun i u hu => ?_⟩⟩⟩
  · exact k24.K_len (hk j p hj)
  · rw [add_plain]
    have hjl := (List.getElem?_eq_some_iff.1 hj).1
    rw [cell_of_row w g _ cur 24 (0, 0) hg, ← Array.getElem?_toList]
    rw [List.getElem?_take] at hu
    split at hu
    · rw [List.getElem?_drop] at hu
      exact hu
    · cases hu

theorem Tr.K {w : World} {lo hi : Nat} {x : S24} {cs : List Value} (h : Tr w lo hi x cs) : k24.K w x cs := by
  induction h with
  | leaf h =>
    rename_i x A c
    have h5 : x.f5.length = 0 := by rw [h]; rfl
    have := k24_mk w x (A5 := A) (c5 := c) (by omega) (by rw [h]; exact ⟨rfl, by simp, fun hp => absurd hp (Nat.lt_irrefl _)⟩)
    rw [h5] at this
    exact this
  | node hlo hg hc hcm hs hb0 hb hhi hk ih => exact k24_mk w _ hc (C_of_block hg hc hcm ih)

/-- What a node's cells are. -/
theorem K_cells {w : World} {x : S24} {cs : List Value} (h : k24.K w x cs) : ∃ A c, cs = nodeCells x (.slice A x.f5.length c) ∧ x.f5.length ≤ c ∧ k24.C w A x.f5.length x.f5 := k24_open h

end Go.Proofs.Ytknggjnpkgooaaa
