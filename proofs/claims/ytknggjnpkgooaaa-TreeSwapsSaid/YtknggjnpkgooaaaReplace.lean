/- tree.Replace: the tree with the node at a path exchanged. -/
import Derived.Test.YtknggjnpkgooaaaAt
namespace Go.Proofs.Ytknggjnpkgooaaa
open Go.RowKit Go.Proofs.YtknggjnpkgooaaaW.PrintWords Go.Proofs.YtknggjnpkgooaaaW.PrintLast Go.Proofs.YtknggjnpkgooaaaW.PrintMore PTreeSwaps

/-- The tree with the node at a path exchanged (a path that is there). -/
def replN : S24 → List Int → S24 → S24
  | _, [], m => m
  | x, i :: p, m => { x with f5 := x.f5.set i.toNat (replN (rd_T24 x.f5 i) p m) }

theorem replN_snoc (i : Int) (z : S24) : ∀ (p : List Int) (n y : S24), findN n p = some y → replN n (p ++ [i]) z = replN n p { y with f5 := y.f5.set i.toNat z }
  | [], n, y, h => by
    injection h with h
    subst h
    rfl
  | j :: p, n, y, h => by
    rw [findN] at h
    split at h
    · rw [List.cons_append, replN, replN, replN_snoc i z p _ y h]
    · cases h

/-- Where a path leads, in memory: y's six cells lie at (blk, off) of the tree n whose root lies in block b1; and what n becomes when they are exchanged. -/
structure Pos (w3 : World) (b1 lo0 : Nat) (n : S24) (p : List Int) (blk off : Nat) (y : S24) (cur : Array Value) (cy : List Value) (lo hi : Nat) : Prop where
  hcur : w3.heap[blk]? = some (.cells cur 24 (0, 0))
  fit : off + 6 ≤ cur.size
  here : (cur.toList.drop off).take 6 = cy
  tr : Tr w3 lo hi y cy
  blt : blk < lo
  own : blk = b1 ∨ lo0 ≤ blk
  blo : lo0 ≤ lo
  bhi : hi ≤ w3.heap.size
  found : findN n p = some y
  ctx : ∀ (W : World) (z : S24) (cz : List Value), cz.length = 6 → (∀ k, (k = b1 ∨ lo0 ≤ k) → k < w3.heap.size → k ≠ blk → ¬ (lo ≤ k ∧ k < hi) → W.heap[k]? = w3.heap[k]?) →
    (∃ cur', W.heap[blk]? = some (.cells cur' 24 (0, 0)) ∧ cur'.toList = cur.toList.take off ++ cz ++ cur.toList.drop (off + 6)) → k24.K W z cz → ∃ cr : Array Value, W.heap[b1]? = some (.cells cr 24 (0, 0)) ∧ k24.K W (replN n p z) cr.toList

theorem Pos.start {w3 : World} {b1 lo0 : Nat} {n : S24} {cur : Array Value} {lo hi : Nat} (hc : w3.heap[b1]? = some (.cells cur 24 (0, 0))) (ht : Tr w3 lo hi n cur.toList) (h1 : b1 < lo) (h2 : lo0 ≤ lo) (h3 : hi ≤ w3.heap.size) :
    Pos w3 b1 lo0 n [] b1 0 n cur cur.toList lo hi := by
  have hl := ht.len
  have hs : cur.size = 6 := by rw [← hl]; exact (Array.length_toList).symm
  refine ⟨hc, by omega, by rw [List.drop_zero, List.take_of_length_le (by omega)], ht, h1, .inl rfl, h2, h3, rfl, ?_⟩
  intro W z cz hz _ hcur hK
  obtain ⟨cur', h4, h5⟩ := hcur
  refine ⟨cur', h4, ?_⟩
  rw [List.take_zero, List.nil_append, List.drop_of_length_le (by omega), List.append_nil] at h5
  rw [h5]
  exact hK

theorem Pos.next {w3 : World} {b1 lo0 : Nat} {n : S24} {p : List Int} {blk off : Nat} {y : S24} {cur : Array Value} {cy : List Value} {lo hi : Nat} (h : Pos w3 b1 lo0 n p blk off y cur cy lo hi) {i : Nat} (hi' : i < y.f5.length) :
    ∃ (g c : Nat) (curg : Array Value) (cy' : List Value) (lo' hi' : Nat), cy = nodeCells y (.slice (some ⟨g, 0, none⟩) y.f5.length c) ∧ Pos w3 b1 lo0 n (p ++ [(i : Int)]) g (i * 6) (rd_T24 y.f5 i) curg cy' lo' hi' := by
  obtain ⟨hcur, fit, here, tr, blt, own, blo, bhi, found, ctx⟩ := h
  cases tr with
  | leaf h0 => rw [h0] at hi'; exact absurd hi' (Nat.not_lt_zero _)
  | @node _ _ _ g c curg b hlo hg hc hcm hs hb0 hb hhi hk =>
    have hyi : y.f5[i]? = some (rd_T24 y.f5 i) := by
      rw [rd_T24, Int.toNat_natCast, List.getD_eq_getElem?_getD, List.getElem?_eq_getElem hi']
      rfl
    have hb0i := mono_le hb (Nat.zero_le i) (by omega)
    have hbi := hb i hi'
    have hbl := mono_le hb (show i + 1 ≤ y.f5.length by omega) (Nat.le_refl _)
    have hcl : curg.toList.length = c * 6 := (Array.length_toList).trans hs
    refine ⟨g, c, curg, _, b i, b (i + 1), rfl, hg, by omega, rfl, hk i _ hyi, by omega, .inr (by omega), by omega, by omega, ?_, ?_⟩
    · rw [findN_snoc _ _ _ _ found, if_pos ⟨by omega, by omega⟩]
    · intro W z cz hz hag hcz hK
      obtain ⟨curg', h4, h5⟩ := hcz
      rw [replN_snoc _ _ _ _ _ found, Int.toNat_natCast]
      refine ctx W { y with f5 := y.f5.set i z } (nodeCells y (.slice (some ⟨g, 0, none⟩) y.f5.length c)) rfl ?_ ?_ ?_
      · intro k hk1 hk2 hk3 hk4
        exact hag k hk1 hk2 (by omega) (by omega)
      · refine ⟨cur, (hag blk own (blk_lt hcur) (by omega) (by omega)).trans hcur, ?_⟩
        rw [← here, List.append_assoc, ← List.drop_drop, List.take_append_drop, List.take_append_drop]
      · have hlen : (y.f5.set i z).length = y.f5.length := List.length_set
        have hC : k24.C W (some ⟨g, 0, none⟩) (y.f5.set i z).length (y.f5.set i z) := by
          refine C_of_block (c := c) h4 (by omega) hcm fun j p' hj => ?_
          by_cases hji : j = i
          · subst hji
            rw [List.getElem?_set_self hi'] at hj
            injection hj with hj
            subst hj
            rw [chunk_same (l := curg.toList) (vs := cz) (by omega) hz (by rw [hz]; exact h5)]
            exact hK
          · rw [List.getElem?_set_ne (by omega)] at hj
            have hjl := (List.getElem?_eq_some_iff.1 hj).1
            rw [chunk_other (l := curg.toList) (vs := cz) (by omega) hz (by rw [hz]; exact h5) hji]
            refine ((hk j p' hj).keep (w' := W) fun q h6 h7 => ?_).K
            have hb0j := mono_le hb (Nat.zero_le j) (by omega)
            have hblj := mono_le hb (show j + 1 ≤ y.f5.length by omega) (Nat.le_refl _)
            refine hag q (.inr (by omega)) (by omega) (by omega) ?_
            rcases Nat.lt_or_ge j i with h8 | h8
            · have := mono_le hb (show j + 1 ≤ i by omega) (by omega)
              omega
            · have := mono_le hb (show i + 1 ≤ j by omega) (by omega)
              omega
        have := k24_mk W { y with f5 := y.f5.set i z } (A5 := some ⟨g, 0, none⟩) (c5 := c) (by show (y.f5.set i z).length ≤ c; omega) hC
        dsimp only at this
        rw [hlen] at this
        exact this

/-- What stands at the root when m has been stored where the path leads, and something into a variable b3. -/
theorem Pos.done {w3 w4 : World} {b1 b3 lo0 : Nat} {n : S24} {p : List Int} {blk off : Nat} {y : S24} {cur : Array Value} {cy : List Value} {lo hi : Nat} (h : Pos w3 b1 lo0 n p blk off y cur cy lo hi) {m : S24} {v : Value}
    (hb : Below w3.heap.size w3 w4) (ht : Tr w4 w3.heap.size w4.heap.size m (nodeCells m v)) (h3 : b3 ≠ blk) (h31 : b3 ≠ b1) (h30 : b3 < w3.heap.size) (h32 : b3 < lo0) {W : World} (hfar : ∀ q, q ≠ b3 → W.heap[q]? = (w4.setCells blk off (nodeCells m v)).heap[q]?)
    {cr : Array Value} (hroot : W.heap[b1]? = some (.cells cr 24 (0, 0))) : ∃ A c, cr = (nodeCells (replN n p m) (.slice A (replN n p m).f5.length c)).toArray ∧ k24.K W (replN n p m) (nodeCells (replN n p m) (.slice A (replN n p m).f5.length c)) := by
  have hlt := blk_lt h.hcur
  have hc4 : w4.heap[blk]? = some (.cells cur 24 (0, 0)) := blk_below h.hcur hb
  obtain ⟨cur', h4, h5, h6⟩ := setCells_row (nodeCells m v) off w4 cur hc4 h.fit
  have hlo := h.blo
  have hhi := h.bhi
  have hbl := h.blt
  have hK : k24.K W m (nodeCells m v) := (ht.keep (w' := W) fun q h7 _ => by
    rw [hfar q (by omega)]
    exact setCells_far _ _ q (by omega)).K
  obtain ⟨cr', h8, h9⟩ := h.ctx W m (nodeCells m v) rfl (fun k hk1 hk2 hk3 _ => by
    rw [hfar k (by omega), setCells_far _ _ k hk3]
    exact hb.block k hk2) ⟨cur', by rw [hfar blk (by omega)]; exact h4, h6⟩ hK
  rw [hroot] at h8
  injection h8 with h8
  injection h8 with h8
  subst h8
  obtain ⟨A, c, h10, _, _⟩ := K_cells h9
  exact ⟨A, c, by rw [← h10], h10 ▸ h9⟩

theorem below_setCells {B : Nat} {a w : World} (h : Below B a w) {g : Nat} (hg : B ≤ g) (vs : List Value) (o : Nat) : Below B a (w.setCells g o vs) := by
  obtain ⟨s1, s2, s3, s4⟩ := setCells_same g vs o w
  exact h.trans ⟨s1, s2, s3, by rw [s4]; exact Nat.le_refl _, fun k hk => setCells_far _ _ k (by omega)⟩

def ReplaceSaid (n : S24) (path : List Int) (m : S24) (w : World) (e : Ending) (w' : World) : Prop :=
  Below w.heap.size w w' ∧ ((∃ A c, findN n path ≠ none ∧ k24.K w' (replN n path m) (nodeCells (replN n path m) (.slice A (replN n path m).f5.length c)) ∧ e = .returned (.tuple #[.agg (nodeCells (replN n path m) (.slice A (replN n path m).f5.length c)).toArray, .int .i64 0])) ∨
    (findN n path = none ∧ e = .returned (.tuple #[.agg #[.int .i64 0, .string ⟨#[]⟩, .int .i64 0, .int .i64 0, .int .i64 0, .slice none 0 0], .int .i64 4])))

theorem new_third (w : World) (o o' o'' : Obj) : (((w.alloc o).alloc o').alloc o'').heap[w.heap.size + 2]? = some o'' := by
  have := blk_new ((w.alloc o).alloc o') o''
  rwa [World.size_alloc, World.size_alloc] at this
theorem below_three {w w1 : World} {o o' o'' : Obj} (hb : Below (((w.alloc o).alloc o').alloc o'').heap.size (((w.alloc o).alloc o').alloc o'') w1) : Below w.heap.size w w1 :=
  (below_alloc (below_alloc (below_alloc (Below.refl _ w) o) o') o'').trans (hb.mono (by simp; omega))

set_option maxHeartbeats 800000 in
theorem replace8 (n : S24) (path : List Int) (m : S24) (A : Option Addr) (c : Nat) (A1 : Option Addr) (c1 : Nat) (A2 : Option Addr) (c2 : Nat) (w : World) (hK : k24.C w A n.f5.length n.f5) (hc : n.f5.length ≤ c) (hP : (Kd.int .i64).C w A1 path.length path) (hK2 : k24.C w A2 m.f5.length m.f5) (hF : Fit n) (hF2 : Fit m) :
    Calls Try.prog 8 #[.agg #[.int .i64 n.f0, .string n.f1, .int .i64 n.f2, .int .i64 n.f3, .int .i64 n.f4, .slice A n.f5.length c], .slice A1 path.length c1, .agg #[.int .i64 m.f0, .string m.f1, .int .i64 m.f2, .int .i64 m.f3, .int .i64 m.f4, .slice A2 m.f5.length c2]] w (ReplaceSaid n path m w) := by
  have HK := Aside0.mk hK
  have HP := Aside0.mk hP
  have HC := Aside0.mk hc
  have HF := Aside0.mk hF
  have HK2 := Aside0.mk hK2
  have HF2 := Aside0.mk hF2
  clear hK hP hc hF hK2 hF2
  have hu24 := Aside0.mk Try.underlying24
  go_enter Try.func8, Try.ntmps8
  go_wp2_with fail
  have HBA := Aside0.mk (below_alloc (below_alloc (below_alloc (Below.refl _ w) (.cells #[.int .i64 n.f0, .string n.f1, .int .i64 n.f2, .int .i64 n.f3, .int .i64 n.f4, .slice A n.f5.length c] 24)) (.cells #[.int .i64 m.f0, .string m.f1, .int .i64 m.f2, .int .i64 m.f3, .int .i64 m.f4, .slice A2 m.f5.length c2] 24)) (.cells #[.int .i64 0, .string ⟨#[]⟩, .int .i64 0, .int .i64 0, .int .i64 0, .slice none 0 0] 24))
  refine (find18 n path A c A1 c1 _ (Kd.C_below HK.out HBA.out) HC.out (Kd.C_below HP.out HBA.out)).mono ?_
  rintro e w1 ⟨hb, hor⟩
  have hbox : w1.heap[w.heap.size]? = some (.cells #[.int .i64 n.f0, .string n.f1, .int .i64 n.f2, .int .i64 n.f3, .int .i64 n.f4, .slice A n.f5.length c] 24 (0, 0)) := blk_below (blk_alloc (blk_alloc (blk_new _ _) _) _) hb
  have hmm : w1.heap[w.heap.size + 1]? = some (.cells #[.int .i64 m.f0, .string m.f1, .int .i64 m.f2, .int .i64 m.f3, .int .i64 m.f4, .slice A2 m.f5.length c2] 24 (0, 0)) := blk_below (blk_alloc (new_second w _ _) _) hb
  have hres : w1.heap[w.heap.size + 2]? = some (.cells #[.int .i64 0, .string ⟨#[]⟩, .int .i64 0, .int .i64 0, .int .i64 0, .slice none 0 0] 24 (0, 0)) := blk_below (new_third w _ _ _) hb
  have hs1 : w.heap.size + 3 ≤ w1.heap.size := by have := hb.size; simpa using this
  have HBOX := Aside0.mk hbox
  have HMM := Aside0.mk hmm
  have HRES := Aside0.mk hres
  have HS := Aside0.mk hs1
  have HBW := Aside0.mk (below_three hb)
  have HB0 := Aside0.mk hb
  clear hbox hmm hres hb hs1
  rcases hor with ⟨y, Ay, cy, hf, hy, hcy, rfl⟩ | ⟨hf, rfl⟩
  · have HF1 := Aside0.mk hf
    clear hf hy hcy
    have ba0 : ∀ o, (w1.alloc o).cell? ⟨w.heap.size, 0, none⟩ = some (.int .i64 n.f0) := fun o => blk_cell (blk_alloc HBOX.out o) 0
    have bg0 : ∀ o, (w1.alloc o).frozen? ⟨w.heap.size, 0, none⟩ = false := fun o => blk_frozen (blk_alloc HBOX.out o) 0
    have ba1 : ∀ o, (w1.alloc o).cell? ⟨w.heap.size, 1, none⟩ = some (.string n.f1) := fun o => blk_cell (blk_alloc HBOX.out o) 1
    have bg1 : ∀ o, (w1.alloc o).frozen? ⟨w.heap.size, 1, none⟩ = false := fun o => blk_frozen (blk_alloc HBOX.out o) 1
    have ba2 : ∀ o, (w1.alloc o).cell? ⟨w.heap.size, 2, none⟩ = some (.int .i64 n.f2) := fun o => blk_cell (blk_alloc HBOX.out o) 2
    have bg2 : ∀ o, (w1.alloc o).frozen? ⟨w.heap.size, 2, none⟩ = false := fun o => blk_frozen (blk_alloc HBOX.out o) 2
    have ba3 : ∀ o, (w1.alloc o).cell? ⟨w.heap.size, 3, none⟩ = some (.int .i64 n.f3) := fun o => blk_cell (blk_alloc HBOX.out o) 3
    have bg3 : ∀ o, (w1.alloc o).frozen? ⟨w.heap.size, 3, none⟩ = false := fun o => blk_frozen (blk_alloc HBOX.out o) 3
    have ba4 : ∀ o, (w1.alloc o).cell? ⟨w.heap.size, 4, none⟩ = some (.int .i64 n.f4) := fun o => blk_cell (blk_alloc HBOX.out o) 4
    have bg4 : ∀ o, (w1.alloc o).frozen? ⟨w.heap.size, 4, none⟩ = false := fun o => blk_frozen (blk_alloc HBOX.out o) 4
    have ba5 : ∀ o, (w1.alloc o).cell? ⟨w.heap.size, 5, none⟩ = some (.slice A n.f5.length c) := fun o => blk_cell (blk_alloc HBOX.out o) 5
    have bg5 : ∀ o, (w1.alloc o).frozen? ⟨w.heap.size, 5, none⟩ = false := fun o => blk_frozen (blk_alloc HBOX.out o) 5
    go_wp2_with fail
    refine (clone19 n A c _ (Kd.C_below HK.out (below_alloc HBW.out _)) HF.out).mono ?_
    rintro e w2 ⟨A3, c3, rfl, htr, hb2⟩
    have hbox2 := blk_below (blk_alloc HBOX.out (.cells #[.int .i64 y.f0, .string y.f1, .int .i64 y.f2, .int .i64 y.f3, .int .i64 y.f4, .slice Ay y.f5.length cy] 24)) hb2
    have hmm2 := blk_below (blk_alloc HMM.out (.cells #[.int .i64 y.f0, .string y.f1, .int .i64 y.f2, .int .i64 y.f3, .int .i64 y.f4, .slice Ay y.f5.length cy] 24)) hb2
    have hres2 := blk_below (blk_alloc HRES.out (.cells #[.int .i64 y.f0, .string y.f1, .int .i64 y.f2, .int .i64 y.f3, .int .i64 y.f4, .slice Ay y.f5.length cy] 24)) hb2
    have HBOX2 := Aside0.mk hbox2
    have HMM2 := Aside0.mk hmm2
    have HRES2 := Aside0.mk hres2
    have HTR := Aside0.mk htr
    have HB2 := Aside0.mk (below_after (w := w) (below_alloc HBW.out _) hb2)
    have HS2 := Aside0.mk (hb2.size)
    have qc0 : w2.cell? ⟨w.heap.size, 0, none⟩ = some (.int .i64 n.f0) := blk_cell hbox2 0
    have qf0 := blk_frozen hbox2 0
    have qc1 : w2.cell? ⟨w.heap.size, 1, none⟩ = some (.string n.f1) := blk_cell hbox2 1
    have qf1 := blk_frozen hbox2 1
    have qc2 : w2.cell? ⟨w.heap.size, 2, none⟩ = some (.int .i64 n.f2) := blk_cell hbox2 2
    have qf2 := blk_frozen hbox2 2
    have qc3 : w2.cell? ⟨w.heap.size, 3, none⟩ = some (.int .i64 n.f3) := blk_cell hbox2 3
    have qf3 := blk_frozen hbox2 3
    have qc4 : w2.cell? ⟨w.heap.size, 4, none⟩ = some (.int .i64 n.f4) := blk_cell hbox2 4
    have qf4 := blk_frozen hbox2 4
    have qc5 : w2.cell? ⟨w.heap.size, 5, none⟩ = some (.slice A n.f5.length c) := blk_cell hbox2 5
    have qf5 := blk_frozen hbox2 5
    clear hbox2 hb2 htr hmm2 hres2
    go_wp2_with fail
    have hbox3 := put6 HBOX2.out rfl (.int .i64 n.f0) (.string n.f1) (.int .i64 n.f2) (.int .i64 n.f3) (.int .i64 n.f4) (.slice A3 n.f5.length c3)
    have hmm3 := (far6 w2 (show w.heap.size + 1 ≠ w.heap.size by omega) (.int .i64 n.f0) (.string n.f1) (.int .i64 n.f2) (.int .i64 n.f3) (.int .i64 n.f4) (.slice A3 n.f5.length c3)).trans HMM2.out
    have hres3 := (far6 w2 (show w.heap.size + 2 ≠ w.heap.size by omega) (.int .i64 n.f0) (.string n.f1) (.int .i64 n.f2) (.int .i64 n.f3) (.int .i64 n.f4) (.slice A3 n.f5.length c3)).trans HRES2.out
    have hb3 := below6 HB2.out (Nat.le_refl _) (.int .i64 n.f0) (.string n.f1) (.int .i64 n.f2) (.int .i64 n.f3) (.int .i64 n.f4) (.slice A3 n.f5.length c3)
    have hsz3 := size6 w2 w.heap.size (.int .i64 n.f0) (.string n.f1) (.int .i64 n.f2) (.int .i64 n.f3) (.int .i64 n.f4) (.slice A3 n.f5.length c3)
    have htr3 := HTR.out.keep (w' := ((((((w2.setCell ⟨w.heap.size, 0, none⟩ (.int .i64 n.f0)).setCell ⟨w.heap.size, 1, none⟩ (.string n.f1)).setCell ⟨w.heap.size, 2, none⟩ (.int .i64 n.f2)).setCell ⟨w.heap.size, 3, none⟩ (.int .i64 n.f3)).setCell ⟨w.heap.size, 4, none⟩ (.int .i64 n.f4)).setCell ⟨w.heap.size, 5, none⟩ (.slice A3 n.f5.length c3))) fun q h1 _ => far6 _ (by rw [World.size_alloc] at h1; have := HS.out; omega) _ _ _ _ _ _
    have HLO : Aside0 (w.heap.size + 3 ≤ (w1.alloc (.cells #[.int .i64 y.f0, .string y.f1, .int .i64 y.f2, .int .i64 y.f3, .int .i64 y.f4, .slice Ay y.f5.length cy] 24)).heap.size ∧ (w1.alloc (.cells #[.int .i64 y.f0, .string y.f1, .int .i64 y.f2, .int .i64 y.f3, .int .i64 y.f4, .slice Ay y.f5.length cy] 24)).heap.size ≤ w2.heap.size) := ⟨by rw [World.size_alloc]; have := HS.out; omega, HS2.out⟩
    generalize (w1.alloc (.cells #[.int .i64 y.f0, .string y.f1, .int .i64 y.f2, .int .i64 y.f3, .int .i64 y.f4, .slice Ay y.f5.length cy] 24)).heap.size = lo0 at *
    generalize ((((((w2.setCell ⟨w.heap.size, 0, none⟩ (.int .i64 n.f0)).setCell ⟨w.heap.size, 1, none⟩ (.string n.f1)).setCell ⟨w.heap.size, 2, none⟩ (.int .i64 n.f2)).setCell ⟨w.heap.size, 3, none⟩ (.int .i64 n.f3)).setCell ⟨w.heap.size, 4, none⟩ (.int .i64 n.f4)).setCell ⟨w.heap.size, 5, none⟩ (.slice A3 n.f5.length c3)) = w3 at *
    have HPOS := Aside0.mk (Pos.start (lo0 := lo0) hbox3 htr3 (by have := HLO.out.1; omega) (Nat.le_refl _) (by omega))
    have HB3 := Aside0.mk hb3
    have HSZ3 := Aside0.mk hsz3
    have HMM3 := Aside0.mk hmm3
    have HBOX3 := Aside0.mk hbox3
    have HRES3 := Aside0.mk hres3
    clear hbox3 hmm3 hres3 hb3 hsz3 htr3
    go_loop [10, 26] (fun p i => ∃ (k blk off lo hi : Nat) (z : S24) (cur : Array Value) (cz : List Value), i = .int .i64 k ∧ p = .pointer (some ⟨blk, off, none⟩) ∧ Aside0 (k ≤ path.length) ∧ Aside0 (Pos w3 w.heap.size lo0 n (path.take k) blk off z cur cz lo hi)) (fun _ i => path.length - (intOf i).toNat)
    case atStart => exact ⟨0, w.heap.size, 0, _, _, n, _, _, rfl, rfl, ⟨Nat.zero_le _⟩, HPOS⟩
    case round =>
      obtain ⟨k, blk, off, lo, hi, z, cur, cz, rfl, rfl, HKL, HPK⟩ := hrel
      clear HPOS
      by_cases hlt : k < path.length
      · obtain ⟨ad, rfl, hpk⟩ := Kd.at_int HP.out (k : Int) (by omega) (by omega)
        have hpk' := (HB3.out.cell (World.block_lt_of_cell? w _ hpk)).trans hpk
        rw [Int.toNat_natCast] at hpk'
        clear hpk
        have HX : Aside0 (path.take (k + 1) = path.take k ++ [rd path k]) := ⟨by rw [List.take_succ_eq_append_getElem hlt]; simp [rd, List.getD_eq_getElem?_getD, List.getElem?_eq_getElem hlt]⟩
        generalize rd path k = i at *
        have hin : 0 ≤ i ∧ i < z.f5.length := by
          have h1 := findN_step HX.out HPK.out.found
          by_cases h2 : 0 ≤ i ∧ i < z.f5.length
          · exact h2
          · rw [if_neg h2] at h1
            have h3 := findN_stop h1
            rw [HF1.out] at h3
            cases h3
        obtain ⟨h0i, h1i⟩ := hin
        obtain ⟨i, rfl⟩ := Int.eq_ofNat_of_zero_le h0i
        obtain ⟨g, cg, curg, cz', lo', hi', hcz, hpos'⟩ := HPK.out.next (i := i) (by omega)
        have hc5 : w3.cell? ⟨blk, off + 5, none⟩ = some (.slice (some ⟨g, 0, none⟩) z.f5.length cg) := by
          have h4 := HPK.out.here
          rw [hcz] at h4
          rw [cell_of_row w3 blk _ cur 24 (0, 0) HPK.out.hcur, ← Array.getElem?_toList]
          have h5 : ((cur.toList.drop off).take 6)[5]? = some (.slice (some ⟨g, 0, none⟩) z.f5.length cg) := by rw [h4]; rfl
          rw [List.getElem?_take, if_pos (by omega), List.getElem?_drop] at h5
          exact h5
        have hkb : k ≤ 9223372036854775806 := by have := Kd.C_max HP.out; omega
        have HPN := Aside0.mk hpos'
        have HLT := Aside0.mk hlt
        clear hpos' hcz
        go_wp2
        go_round
        case rel => exact ⟨k + 1, g, i * 6, lo', hi', _, curg, cz', by go_num, by simp, HLT, by rw [HX.out]; exact HPN⟩
        case measure => have := HLT.out; simp [intOf]; omega
      · have HNLT := Aside0.mk hlt
        have HEND : Aside0 (path.take k = path) := ⟨List.take_of_length_le (by omega)⟩
        have mc0 : w3.cell? ⟨w.heap.size + 1, 0, none⟩ = some (.int .i64 m.f0) := blk_cell HMM3.out 0
        have mc1 : w3.cell? ⟨w.heap.size + 1, 1, none⟩ = some (.string m.f1) := blk_cell HMM3.out 1
        have mc2 : w3.cell? ⟨w.heap.size + 1, 2, none⟩ = some (.int .i64 m.f2) := blk_cell HMM3.out 2
        have mc3 : w3.cell? ⟨w.heap.size + 1, 3, none⟩ = some (.int .i64 m.f3) := blk_cell HMM3.out 3
        have mc4 : w3.cell? ⟨w.heap.size + 1, 4, none⟩ = some (.int .i64 m.f4) := blk_cell HMM3.out 4
        have mc5 : w3.cell? ⟨w.heap.size + 1, 5, none⟩ = some (.slice A2 m.f5.length c2) := blk_cell HMM3.out 5
        go_wp2_with fail
        refine (clone19 m A2 c2 w3 (Kd.C_below HK2.out HB3.out) HF2.out).mono ?_
        rintro e w4 ⟨A4, c4, rfl, htr4, hb4⟩
        have HTR4 := Aside0.mk htr4
        have HB4 := Aside0.mk hb4
        have HBW4 := Aside0.mk (below_after HB3.out hb4)
        have hcur4 := blk_below HPK.out.hcur hb4
        have HRES4 := Aside0.mk (blk_below HRES3.out hb4)
        have HCUR4 := Aside0.mk hcur4
        have hbox4 := blk_below HBOX3.out hb4
        have HBOX4 := Aside0.mk hbox4
        have hfit := HPK.out.fit
        have hfz := blk_frozen hcur4
        have hcl : ∀ j, j < 6 → ∃ v, w4.cell? ⟨blk, off + j, none⟩ = some v := fun j hj => ⟨_, (cell_of_row w4 blk _ cur 24 (0, 0) hcur4).trans (Array.getElem?_eq_getElem (by omega))⟩
        obtain ⟨v0, e0⟩ := hcl 0 (by omega)
        obtain ⟨v1, e1⟩ := hcl 1 (by omega)
        obtain ⟨v2, e2⟩ := hcl 2 (by omega)
        obtain ⟨v3, e3⟩ := hcl 3 (by omega)
        obtain ⟨v4, e4⟩ := hcl 4 (by omega)
        obtain ⟨v5, e5⟩ := hcl 5 (by omega)
        rw [Nat.add_zero] at e0
        have z0 := hfz off
        have z1 := hfz (off + 1)
        have z2 := hfz (off + 2)
        have z3 := hfz (off + 3)
        have z4 := hfz (off + 4)
        have z5 := hfz (off + 5)
        have dc0 : w4.cell? ⟨w.heap.size, 0, none⟩ = some (.int .i64 n.f0) := blk_cell HBOX4.out 0
        have dc1 : w4.cell? ⟨w.heap.size, 1, none⟩ = some (.string n.f1) := blk_cell HBOX4.out 1
        have dc2 : w4.cell? ⟨w.heap.size, 2, none⟩ = some (.int .i64 n.f2) := blk_cell HBOX4.out 2
        have dc3 : w4.cell? ⟨w.heap.size, 3, none⟩ = some (.int .i64 n.f3) := blk_cell HBOX4.out 3
        have dc4 : w4.cell? ⟨w.heap.size, 4, none⟩ = some (.int .i64 n.f4) := blk_cell HBOX4.out 4
        have dc5 : w4.cell? ⟨w.heap.size, 5, none⟩ = some (.slice A3 n.f5.length c3) := blk_cell HBOX4.out 5
        have rc0 : w4.cell? ⟨w.heap.size + 2, 0, none⟩ = some (.int .i64 0) := blk_cell HRES4.out 0
        have rf0 := blk_frozen HRES4.out 0
        have rc1 : w4.cell? ⟨w.heap.size + 2, 1, none⟩ = some (.string ⟨#[]⟩) := blk_cell HRES4.out 1
        have rf1 := blk_frozen HRES4.out 1
        have rc2 : w4.cell? ⟨w.heap.size + 2, 2, none⟩ = some (.int .i64 0) := blk_cell HRES4.out 2
        have rf2 := blk_frozen HRES4.out 2
        have rc3 : w4.cell? ⟨w.heap.size + 2, 3, none⟩ = some (.int .i64 0) := blk_cell HRES4.out 3
        have rf3 := blk_frozen HRES4.out 3
        have rc4 : w4.cell? ⟨w.heap.size + 2, 4, none⟩ = some (.int .i64 0) := blk_cell HRES4.out 4
        have rf4 := blk_frozen HRES4.out 4
        have rc5 : w4.cell? ⟨w.heap.size + 2, 5, none⟩ = some (.slice none 0 0) := blk_cell HRES4.out 5
        have rf5 := blk_frozen HRES4.out 5
        clear hcur4 hbox4 hb4 htr4 hfz hcl hfit
        rcases HPK.out.own with hown | hown
        · have hcc := HPK.out.hcur
          have hft := HPK.out.fit
          rw [hown, HBOX3.out] at hcc
          injection hcc with hcc
          injection hcc with hcc
          subst hcc
          obtain rfl : off = 0 := by
            have : (#[.int .i64 n.f0, .string n.f1, .int .i64 n.f2, .int .i64 n.f3, .int .i64 n.f4, .slice A3 n.f5.length c3] : Array Value).size = 6 := rfl
            omega
          subst hown
          clear e0 e1 e2 e3 e4 e5 z0 z1 z2 z3 z4 z5 hft
          have zf0 := blk_frozen HBOX4.out 0
          have zf1 := blk_frozen HBOX4.out 1
          have zf2 := blk_frozen HBOX4.out 2
          have zf3 := blk_frozen HBOX4.out 3
          have zf4 := blk_frozen HBOX4.out 4
          have zf5 := blk_frozen HBOX4.out 5
          have HBS := Aside0.mk (below_setCells HBW4.out (Nat.le_refl w.heap.size) (nodeCells m (.slice A4 m.f5.length c4)) 0)
          have HR4 := Aside0.mk ((setCells_far (g := w.heap.size) (nodeCells m (.slice A4 m.f5.length c4)) 0 (w := w4) (w.heap.size + 2) (by omega)).trans HRES4.out)
          have HROOT := Aside0.mk (put6 HBOX4.out rfl (.int .i64 m.f0) (.string m.f1) (.int .i64 m.f2) (.int .i64 m.f3) (.int .i64 m.f4) (.slice A4 m.f5.length c4))
          go_wp2_with fail
          refine ret_cell_tmp (w.heap.size + 2) 24 #[.int .i64 m.f0, .string m.f1, .int .i64 m.f2, .int .i64 m.f3, .int .i64 m.f4, .slice A4 m.f5.length c4] (0, 0) _ rfl rfl (put6 (HR4.out) rfl _ _ _ _ _ _) hu24.out rfl size24 rfl ?_
          obtain ⟨Ar, cr, hr1, hr2⟩ := HPK.out.done (v := .slice A4 m.f5.length c4) (b3 := w.heap.size + 2) HB4.out HTR4.out (by omega) (by omega) (by have := HLO.out; have := HSZ3.out; omega) (by have := HLO.out.1; omega) (cr := #[.int .i64 m.f0, .string m.f1, .int .i64 m.f2, .int .i64 m.f3, .int .i64 m.f4, .slice A4 m.f5.length c4]) (fun q hq => far6 _ hq _ _ _ _ _ _) ((far6 _ (show w.heap.size ≠ w.heap.size + 2 by omega) _ _ _ _ _ _).trans HROOT.out)
          rw [HEND.out] at hr1 hr2
          refine ⟨below6 (HBS.out) (by omega) _ _ _ _ _ _, .inl ⟨Ar, cr, by rw [HF1.out]; exact Option.some_ne_none _, hr2, ?_⟩⟩
          rw [← hr1]
          rfl
        · have hne : blk ≠ w.heap.size := by have := HLO.out.1; omega
          have hne2 : w.heap.size ≠ blk := by omega
          have hne3 : w.heap.size + 2 ≠ blk := by have := HLO.out.1; omega
          have hne4 : blk ≠ w.heap.size + 2 := by omega
          have HBS := Aside0.mk (below_setCells HBW4.out (show w.heap.size ≤ blk by have := HLO.out.1; omega) (nodeCells m (.slice A4 m.f5.length c4)) off)
          have HR4 := Aside0.mk ((setCells_far (g := blk) (nodeCells m (.slice A4 m.f5.length c4)) off (w := w4) (w.heap.size + 2) hne3).trans HRES4.out)
          have HROOT := Aside0.mk ((setCells_far (g := blk) (nodeCells m (.slice A4 m.f5.length c4)) off (w := w4) w.heap.size hne2).trans HBOX4.out)
          go_wp2_with fail
          refine ret_cell_tmp (w.heap.size + 2) 24 #[.int .i64 n.f0, .string n.f1, .int .i64 n.f2, .int .i64 n.f3, .int .i64 n.f4, .slice A3 n.f5.length c3] (0, 0) _ rfl rfl (put6 (HR4.out) rfl _ _ _ _ _ _) hu24.out rfl size24 rfl ?_
          obtain ⟨Ar, cr, hr1, hr2⟩ := HPK.out.done (v := .slice A4 m.f5.length c4) (b3 := w.heap.size + 2) HB4.out HTR4.out (by omega) (by omega) (by have := HLO.out; have := HSZ3.out; omega) (by have := HLO.out.1; omega) (cr := #[.int .i64 n.f0, .string n.f1, .int .i64 n.f2, .int .i64 n.f3, .int .i64 n.f4, .slice A3 n.f5.length c3]) (fun q hq => far6 _ hq _ _ _ _ _ _) ((far6 _ (show w.heap.size ≠ w.heap.size + 2 by omega) _ _ _ _ _ _).trans HROOT.out)
          rw [HEND.out] at hr1 hr2
          refine ⟨below6 (HBS.out) (by omega) _ _ _ _ _ _, .inl ⟨Ar, cr, by rw [HF1.out]; exact Option.some_ne_none _, hr2, ?_⟩⟩
          rw [← hr1]
          rfl
  · have HF1 := Aside0.mk hf
    clear hf
    have pa0 : ∀ o, (w1.alloc o).cell? ⟨w.heap.size + 2, 0, none⟩ = some (.int .i64 0) := fun o => blk_cell (blk_alloc HRES.out o) 0
    have pg0 : ∀ o, (w1.alloc o).frozen? ⟨w.heap.size + 2, 0, none⟩ = false := fun o => blk_frozen (blk_alloc HRES.out o) 0
    have pa1 : ∀ o, (w1.alloc o).cell? ⟨w.heap.size + 2, 1, none⟩ = some (.string ⟨#[]⟩) := fun o => blk_cell (blk_alloc HRES.out o) 1
    have pg1 : ∀ o, (w1.alloc o).frozen? ⟨w.heap.size + 2, 1, none⟩ = false := fun o => blk_frozen (blk_alloc HRES.out o) 1
    have pa2 : ∀ o, (w1.alloc o).cell? ⟨w.heap.size + 2, 2, none⟩ = some (.int .i64 0) := fun o => blk_cell (blk_alloc HRES.out o) 2
    have pg2 : ∀ o, (w1.alloc o).frozen? ⟨w.heap.size + 2, 2, none⟩ = false := fun o => blk_frozen (blk_alloc HRES.out o) 2
    have pa3 : ∀ o, (w1.alloc o).cell? ⟨w.heap.size + 2, 3, none⟩ = some (.int .i64 0) := fun o => blk_cell (blk_alloc HRES.out o) 3
    have pg3 : ∀ o, (w1.alloc o).frozen? ⟨w.heap.size + 2, 3, none⟩ = false := fun o => blk_frozen (blk_alloc HRES.out o) 3
    have pa4 : ∀ o, (w1.alloc o).cell? ⟨w.heap.size + 2, 4, none⟩ = some (.int .i64 0) := fun o => blk_cell (blk_alloc HRES.out o) 4
    have pg4 : ∀ o, (w1.alloc o).frozen? ⟨w.heap.size + 2, 4, none⟩ = false := fun o => blk_frozen (blk_alloc HRES.out o) 4
    have pa5 : ∀ o, (w1.alloc o).cell? ⟨w.heap.size + 2, 5, none⟩ = some (.slice none 0 0) := fun o => blk_cell (blk_alloc HRES.out o) 5
    have pg5 : ∀ o, (w1.alloc o).frozen? ⟨w.heap.size + 2, 5, none⟩ = false := fun o => blk_frozen (blk_alloc HRES.out o) 5
    go_wp2_with fail
    refine ret_cell_tmp (w.heap.size + 2) 24 #[.int .i64 0, .string ⟨#[]⟩, .int .i64 0, .int .i64 0, .int .i64 0, .slice none 0 0] (0, 0) _ rfl rfl (put6 (blk_alloc HRES.out _) rfl _ _ _ _ _ _) hu24.out rfl size24 rfl ?_
    exact ⟨below6 (below_alloc HBW.out _) (by omega) _ _ _ _ _ _, .inr ⟨HF1.out, rfl⟩⟩
end Go.Proofs.Ytknggjnpkgooaaa
