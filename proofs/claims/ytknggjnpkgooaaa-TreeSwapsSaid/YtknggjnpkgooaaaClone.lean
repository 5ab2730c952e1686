/- tree.Clone: a tree of the call's own that is the tree. -/
import Derived.Test.YtknggjnpkgooaaaCloneRow
import Derived.Deep.RegionWith
namespace Go.Proofs.Ytknggjnpkgooaaa
open Go.RowKit Go.Proofs.YtknggjnpkgooaaaW.PrintWords Go.Proofs.YtknggjnpkgooaaaW.PrintLast Go.Proofs.YtknggjnpkgooaaaW.PrintMore PTreeSwaps

/-- The elements of Clone's row, k of them cloned. -/
structure CloneInv (x : S24) (A : Option Addr) (c : Nat) (w wr : World) (k : Nat) : Prop where
  le : k ≤ x.f5.length
  below : Below w.heap.size w wr
  size : w.heap.size + 2 ≤ wr.heap.size
  box : wr.heap[w.heap.size]? = some (.cells #[.int .i64 x.f0, .string x.f1, .int .i64 x.f2, .int .i64 x.f3, .int .i64 x.f4, .slice A x.f5.length c] 24 (0, 0))
  res : wr.heap[w.heap.size + 1]? = some (.cells #[.int .i64 0, .string ⟨#[]⟩, .int .i64 0, .int .i64 0, .int .i64 0, .slice none 0 0] 24 (0, 0))
  row : x.f5.length = 0 ∨ ∃ (g : Nat) (cur : Array Value) (b : Nat → Nat), A = some ⟨g, 0, none⟩ ∧ w.heap.size + 2 ≤ g ∧ wr.heap[g]? = some (.cells cur 24 (0, 0)) ∧ x.f5.length ≤ c ∧ c ≤ maxLen ∧ cur.size = c * 6 ∧
    g < b 0 ∧ (∀ j, j < k → b j ≤ b (j + 1)) ∧ b k ≤ wr.heap.size ∧
    (∀ (j : Nat) (p : S24), j < k → x.f5[j]? = some p → Tr wr (b j) (b (j + 1)) p ((cur.toList.drop (j * 6)).take 6)) ∧
    (∀ (j : Nat) (p : S24), k ≤ j → x.f5[j]? = some p → k24.K w p ((cur.toList.drop (j * 6)).take 6))

/-- All rows of a tree are small enough to be copied. -/
inductive Fit : S24 → Prop
  | mk (x : S24) (h : x.f5.length * 72 ≤ 140737488355328) (hk : ∀ (j : Nat) (p : S24), x.f5[j]? = some p → Fit p) : Fit x
theorem Fit.len {x : S24} (h : Fit x) : x.f5.length * 72 ≤ 140737488355328 := by cases h; assumption
theorem Fit.kid {x : S24} (h : Fit x) {j : Nat} {p : S24} (hj : x.f5[j]? = some p) : Fit p := by cases h with | mk _ _ hk => exact hk j p hj

theorem splice_get {α : Type} (l vs : List α) (o q : Nat) (h : o + vs.length ≤ l.length) : (l.take o ++ vs ++ l.drop (o + vs.length))[q]? = if q < o then l[q]? else if q < o + vs.length then vs[q - o]? else l[q]? := by
  have ht : (l.take o).length = o := by rw [List.length_take]; omega
  by_cases h1 : q < o
  · rw [if_pos h1, List.append_assoc, List.getElem?_append_left (by omega), List.getElem?_take, if_pos h1]
  · rw [if_neg h1, List.append_assoc, List.getElem?_append_right (by omega), ht]
    by_cases h2 : q < o + vs.length
    · rw [if_pos h2, List.getElem?_append_left (by omega)]
    · rw [if_neg h2, List.getElem?_append_right (by omega), List.getElem?_drop]
      congr 1
      omega
theorem chunk_get {α : Type} (l : List α) (j i : Nat) : ((l.drop (j * 6)).take 6)[i]? = if i < 6 then l[j * 6 + i]? else none := by
  rw [List.getElem?_take]
  split
  · rw [List.getElem?_drop]
  · rfl
theorem chunk_other {α : Type} {l l' vs : List α} {k j : Nat} (h : k * 6 + vs.length ≤ l.length) (hv : vs.length = 6) (he : l' = l.take (k * 6) ++ vs ++ l.drop (k * 6 + vs.length)) (hj : j ≠ k) : (l'.drop (j * 6)).take 6 = (l.drop (j * 6)).take 6 := by
  subst he
  apply List.ext_getElem?
  intro i
  rw [chunk_get, chunk_get]
  split
  · rw [splice_get _ _ _ _ h]
    split
    · rfl
    · rw [if_neg (by omega)]
  · rfl
theorem chunk_same {α : Type} {l l' vs : List α} {k : Nat} (h : k * 6 + vs.length ≤ l.length) (hv : vs.length = 6) (he : l' = l.take (k * 6) ++ vs ++ l.drop (k * 6 + vs.length)) : (l'.drop (k * 6)).take 6 = vs := by
  subst he
  apply List.ext_getElem?
  intro i
  rw [chunk_get]
  split
  · rw [splice_get _ _ _ _ h, if_neg (by omega), if_pos (by omega)]
    congr 1
    omega
  · rw [List.getElem?_eq_none (by omega)]

/-- One element more is cloned, and stored. -/
theorem CloneInv.step {x : S24} {g c : Nat} {w wr w2 : World} {k : Nat} (h : CloneInv x (some ⟨g, 0, none⟩) c w wr k) (hlt : k < x.f5.length) {A2 : Option Addr} {c2 : Nat} (hb : Below wr.heap.size wr.drew w2)
    (ht : Tr w2 wr.heap.size w2.heap.size x.f5[k] (nodeCells x.f5[k] (.slice A2 x.f5[k].f5.length c2))) :
    CloneInv x (some ⟨g, 0, none⟩) c w (w2.setCells g (k * 6) (nodeCells x.f5[k] (.slice A2 x.f5[k].f5.length c2))) (k + 1) := by
  obtain ⟨hle, hbel, hsz, hbox, hres, hrow⟩ := h
  rcases hrow with h0 | ⟨g', cur, b, hA, hg1, hg, hc, hcm, hcs, hb0, hb', hbk, hold, hnew⟩
  · omega
  injection hA with hA
  injection hA with hA
  subst hA
  have hglt : g < wr.heap.size := blk_lt hg
  have hsz2 : wr.heap.size ≤ w2.heap.size := hb.size
  have hblk : ∀ q, q < wr.heap.size → w2.heap[q]? = wr.heap[q]? := fun q hq => hb.block q hq
  have hg2 : w2.heap[g]? = some (.cells cur 24 (0, 0)) := (hblk g hglt).trans hg
  obtain ⟨cur', h3, h4, h5⟩ := setCells_row (nodeCells x.f5[k] (.slice A2 x.f5[k].f5.length c2)) (k * 6) w2 cur hg2 (by rw [nodeCells_length, hcs]; omega)
  obtain ⟨s1, s2, s3, s4⟩ := setCells_same g (nodeCells x.f5[k] (.slice A2 x.f5[k].f5.length c2)) (k * 6) w2
  have hfar : ∀ q, q ≠ g → (w2.setCells g (k * 6) (nodeCells x.f5[k] (.slice A2 x.f5[k].f5.length c2))).heap[q]? = w2.heap[q]? := fun q hq => setCells_far _ _ q hq
  generalize hvs : nodeCells x.f5[k] (.slice A2 x.f5[k].f5.length c2) = vs at *
  have hvl : vs.length = 6 := by rw [← hvs]; rfl
  have hcl : cur.toList.length = c * 6 := (Array.length_toList).trans hcs
  have hfit : k * 6 + vs.length ≤ cur.toList.length := by omega
  generalize w2.setCells g (k * 6) vs = w3 at *
  have hold3 : ∀ q, q < wr.heap.size → q ≠ g → w3.heap[q]? = wr.heap[q]? := fun q h1 h2 => (hfar q h2).trans (hblk q h1)
  have hbk0 : g < b k := Nat.lt_of_lt_of_le hb0 (mono_le hb' (Nat.zero_le k) (Nat.le_refl _))
  refine ⟨by omega, ⟨s1.trans (hb.os.trans hbel.os), s2.trans (hb.tape.trans hbel.tape), s3.trans (hb.output.trans hbel.output), by have := hbel.size; omega, fun q hq => (hold3 q (by have := hbel.size; omega) (by omega)).trans (hbel.block q hq)⟩, by omega, (hold3 _ (by omega) (by omega)).trans hbox, (hold3 _ (by omega) (by omega)).trans hres, .inr ⟨g, cur', fun j => if j ≤ k then (if j = k then wr.heap.size else b j) else w2.heap.size, rfl, hg1, h3, hc, hcm, h4.trans hcs, ?_, ?_, ?_, ?_, ?_⟩⟩
  · simp only [Nat.zero_le, if_true]
    split
    · omega
    · exact hb0
  · intro j hj
    dsimp only
    by_cases h1 : j = k
    · subst h1
      rw [if_pos (Nat.le_refl _), if_pos rfl, if_neg (by omega)]
      omega
    · rw [if_pos (by omega), if_neg h1, if_pos (by omega)]
      by_cases h2 : j + 1 = k
      · rw [if_pos h2]
        have := mono_le hb' (show j ≤ k by omega) (Nat.le_refl _)
        omega
      · rw [if_neg h2]
        exact hb' j (by omega)
  · dsimp only
    rw [if_neg (by omega)]
    omega
  · intro j p hj hp
    dsimp only
    by_cases h1 : j = k
    · subst h1
      obtain rfl : p = x.f5[j] := by rw [List.getElem?_eq_getElem hlt] at hp; exact (Option.some.inj hp).symm
      rw [if_pos (Nat.le_refl _), if_pos rfl, if_neg (by omega), chunk_same hfit hvl h5]
      exact ht.keep fun q h1 h2 => hfar q (by omega)
    · rw [if_pos (by omega), if_neg h1, if_pos (by omega), chunk_other hfit hvl h5 h1]
      have hmj := mono_le hb' (Nat.zero_le j) (by omega)
      have ht' := (hold j p (by omega) hp).keep (w' := w3) fun q h2 h3 => hold3 q (by
        have := mono_le hb' (show j + 1 ≤ k by omega) (Nat.le_refl _)
        omega) (by omega)
      by_cases h2 : j + 1 = k
      · rw [if_pos h2]
        refine ht'.mono (Nat.le_refl _) ?_
        rw [h2]
        exact hbk
      · rw [if_neg h2]
        exact ht'
  · intro j p hj hp
    rw [chunk_other hfit hvl h5 (by omega)]
    exact hnew j p (by omega) hp

/-- Six values stored into a variable of six cells. -/
theorem put6 {w : World} {g : Nat} {t : TypeId} {cs : Array Value} (h : w.heap[g]? = some (.cells cs t (0, 0))) (hs : cs.size = 6) (v0 v1 v2 v3 v4 v5 : Value) :
    ((((((w.setCell ⟨g, 0, none⟩ v0).setCell ⟨g, 1, none⟩ v1).setCell ⟨g, 2, none⟩ v2).setCell ⟨g, 3, none⟩ v3).setCell ⟨g, 4, none⟩ v4).setCell ⟨g, 5, none⟩ v5).heap[g]? = some (.cells #[v0, v1, v2, v3, v4, v5] t (0, 0)) := by
  obtain ⟨l⟩ := cs
  match l, hs with
  | [c0, c1, c2, c3, c4, c5], _ => exact blk_put (blk_put (blk_put (blk_put (blk_put (blk_put h 0 v0 rfl) 1 v1 rfl) 2 v2 rfl) 3 v3 rfl) 4 v4 rfl) 5 v5 rfl
theorem far6 (w : World) {g q : Nat} (hq : q ≠ g) (v0 v1 v2 v3 v4 v5 : Value) :
    ((((((w.setCell ⟨g, 0, none⟩ v0).setCell ⟨g, 1, none⟩ v1).setCell ⟨g, 2, none⟩ v2).setCell ⟨g, 3, none⟩ v3).setCell ⟨g, 4, none⟩ v4).setCell ⟨g, 5, none⟩ v5).heap[q]? = w.heap[q]? := by
  rw [Below.heap_setCell _ _ _ _ hq, Below.heap_setCell _ _ _ _ hq, Below.heap_setCell _ _ _ _ hq, Below.heap_setCell _ _ _ _ hq, Below.heap_setCell _ _ _ _ hq, Below.heap_setCell _ _ _ _ hq]
theorem below6 {B : Nat} {a w : World} (h : Below B a w) {g : Nat} (hg : B ≤ g) (v0 v1 v2 v3 v4 v5 : Value) :
    Below B a ((((((w.setCell ⟨g, 0, none⟩ v0).setCell ⟨g, 1, none⟩ v1).setCell ⟨g, 2, none⟩ v2).setCell ⟨g, 3, none⟩ v3).setCell ⟨g, 4, none⟩ v4).setCell ⟨g, 5, none⟩ v5) :=
  (((((h.setCell (p := ⟨g, 0, none⟩) hg v0).setCell (p := ⟨g, 1, none⟩) hg v1).setCell (p := ⟨g, 2, none⟩) hg v2).setCell (p := ⟨g, 3, none⟩) hg v3).setCell (p := ⟨g, 4, none⟩) hg v4).setCell (p := ⟨g, 5, none⟩) hg v5
theorem size6 (w : World) (g : Nat) (v0 v1 v2 v3 v4 v5 : Value) : ((((((w.setCell ⟨g, 0, none⟩ v0).setCell ⟨g, 1, none⟩ v1).setCell ⟨g, 2, none⟩ v2).setCell ⟨g, 3, none⟩ v3).setCell ⟨g, 4, none⟩ v4).setCell ⟨g, 5, none⟩ v5).heap.size = w.heap.size := by simp [World.setCell]
/-- A function whose one result is a struct in a variable. -/
theorem ret_cell {P : Program} {fn : Func} {R : Ending → World → Prop} {a : Act} {w : World} {p : Tmp} {ty : TypeId} (g : Nat) (t : TypeId) (cs : Array Value) (fr : Nat × Nat) (d : TypeDesc) (hfn : fn.results = #[.cell p ty])
    (hp : a.tmps.getD p undef = .pointer (some ⟨g, 0, none⟩)) (hg : w.heap[g]? = some (.cells cs t fr)) (hu : P.underlying ty = some d) (hd : (match d with | .struct _ | .array _ _ => true | _ => false) = true) (hi : (P.info? ty).map (·.size) = some cs.size) (hde : a.defers = [])
    (hR : R (.returned (.agg cs)) w) : bodyPost P fn R .ret a w := bodyPost_ret (results_single hfn (.cell g t cs fr d hp hg hu hd hi .nil)) hde hR
theorem size24 : (Try.prog.info? 24).map (·.size) = some 6 := by kernel_rfl

theorem CloneInv.done {x : S24} {A : Option Addr} {c : Nat} {w wr : World} {k : Nat} (h : CloneInv x A c w wr k) (hk : x.f5.length ≤ k) : Tr wr (w.heap.size + 2) wr.heap.size x (nodeCells x (.slice A x.f5.length c)) := by
  obtain ⟨hle, hbel, hsz, hbox, hres, hrow⟩ := h
  obtain rfl : k = x.f5.length := by omega
  rcases hrow with h0 | ⟨g, cur, b, rfl, hg1, hg, hc, hcm, hcs, hb0, hb', hbk, hold, hnew⟩
  · rw [h0]
    exact .leaf (List.eq_nil_of_length_eq_zero h0)
  · exact .node hg1 hg hc hcm hcs hb0 hb' hbk fun j p hp => hold j p (List.getElem?_eq_some_iff.1 hp).1 hp

theorem CloneInv.init {x : S24} {A A' : Option Addr} {c c' : Nat} {w w1 : World}
    (hb1 : w1.heap[w.heap.size]? = some (.cells #[.int .i64 x.f0, .string x.f1, .int .i64 x.f2, .int .i64 x.f3, .int .i64 x.f4, .slice A x.f5.length c] 24 (0, 0)))
    (hb2 : w1.heap[w.heap.size + 1]? = some (.cells #[.int .i64 0, .string ⟨#[]⟩, .int .i64 0, .int .i64 0, .int .i64 0, .slice none 0 0] 24 (0, 0)))
    (hbw : Below w.heap.size w w1) (hs1 : w.heap.size + 2 ≤ w1.heap.size) (hrow : RowOf w w1 (w.heap.size + 1 + 1) A' c' x.f5) :
    CloneInv x A' c' w (w1.setCell ⟨w.heap.size, 5, none⟩ (.slice A' x.f5.length c')) 0 := by
  have hf : ∀ q, q ≠ w.heap.size → (w1.setCell ⟨w.heap.size, 5, none⟩ (.slice A' x.f5.length c')).heap[q]? = w1.heap[q]? := fun q hq => Below.heap_setCell _ _ _ _ hq
  refine ⟨Nat.zero_le _, hbw.setCell (p := ⟨w.heap.size, 5, none⟩) (Nat.le_refl _) _, by simp [World.setCell]; omega, blk_put hb1 5 _ rfl, (hf _ (by omega)).trans hb2, ?_⟩
  rcases hrow with h0 | ⟨g, cur, rfl, hg1, hg, hc, hcm, hcs, hk⟩
  · exact .inl h0
  · exact .inr ⟨g, cur, fun _ => w1.heap.size, rfl, hg1, (hf _ (by omega)).trans hg, hc, hcm, hcs, blk_lt hg, fun j hj => by omega, by simp [World.setCell], fun j p hj => by omega, fun j p _ hp => hk j p hp⟩

def CloneSaid (x : S24) (w : World) (e : Ending) (w' : World) : Prop :=
  ∃ A' c', e = .returned (.agg #[.int .i64 x.f0, .string x.f1, .int .i64 x.f2, .int .i64 x.f3, .int .i64 x.f4, .slice A' x.f5.length c']) ∧ Tr w' w.heap.size w'.heap.size x (nodeCells x (.slice A' x.f5.length c')) ∧ Below w.heap.size w w'

set_option maxHeartbeats 800000 in
theorem clone19 (x : S24) : ∀ (A : Option Addr) (c : Nat) (w : World), k24.C w A x.f5.length x.f5 → Fit x →
    Calls Try.prog 19 #[.agg #[.int .i64 x.f0, .string x.f1, .int .i64 x.f2, .int .i64 x.f3, .int .i64 x.f4, .slice A x.f5.length c]] w (CloneSaid x w) := by
  induction x using S24.ind with
  | h x ih =>
  intro A c w hK hl
  have HK := Aside0.mk hK
  have HL := Aside0.mk hl
  have IH := Aside0.mk ih
  clear hK hl ih
  have hu24 := Aside0.mk Try.underlying24
  go_enter Try.func19, Try.ntmps19
  go_wp2_with fail
  refine (clone30 w _ A c x.f5 (ReadsRow.imp_ HK.out ?_ (fun _ _ h => h)) HL.out.len).mono ?_
  · repeat (first | exact Below.refl _ _ | apply below_alloc | apply pw_below_drewN | apply below_drew1)
  rintro e w1 ⟨A', c', rfl, hrow, hb⟩
  rw [World.size_alloc, World.size_alloc] at hrow
  have hs1 : w.heap.size + 2 ≤ w1.heap.size := by have := hb.size; simpa using this
  have hb1 : w1.heap[w.heap.size]? = some (.cells #[.int .i64 x.f0, .string x.f1, .int .i64 x.f2, .int .i64 x.f3, .int .i64 x.f4, .slice A x.f5.length c] 24 (0, 0)) := blk_below (blk_alloc (blk_new _ _) _) hb
  have hb2 : w1.heap[w.heap.size + 1]? = some (.cells #[.int .i64 0, .string ⟨#[]⟩, .int .i64 0, .int .i64 0, .int .i64 0, .slice none 0 0] 24 (0, 0)) := blk_below (by have := blk_new (w.alloc (.cells #[.int .i64 x.f0, .string x.f1, .int .i64 x.f2, .int .i64 x.f3, .int .i64 x.f4, .slice A x.f5.length c] 24)) (.cells #[.int .i64 0, .string ⟨#[]⟩, .int .i64 0, .int .i64 0, .int .i64 0, .slice none 0 0] 24); rw [World.size_alloc] at this; exact this) hb
  have hbw : Below w.heap.size w w1 := by
    refine ⟨hb.os, hb.tape, hb.output, by omega, fun k hk => ?_⟩
    rw [hb.block k (by simp; omega)]
    rw [Below.heap_alloc _ _ _ (by simp; omega), Below.heap_alloc _ _ _ hk]
  have q5 := blk_cell hb1 5
  have f5 := blk_frozen hb1 5
  have HB1 := Aside0.mk hb1
  have HB2 := Aside0.mk hb2
  have HBW := Aside0.mk hbw
  have HS1 := Aside0.mk hs1
  have HROW := Aside0.mk hrow
  clear hb1 hb2 hbw hs1 hrow hb
  simp at q5
  go_wp2_with fail
  clear q5 f5
  go_loopw [11] (fun i wr => ∃ k : Nat, i = .int .i64 k ∧ Aside0 (CloneInv x A' c' w wr k)) (fun i _ => x.f5.length - (intOf i).toNat)
  case atStart => exact ⟨0, rfl, ⟨CloneInv.init HB1.out HB2.out HBW.out HS1.out HROW.out⟩⟩
  case round =>
    obtain ⟨k, rfl, HI⟩ := hrel
    by_cases hlt : k < x.f5.length
    · have hI := HI.out
      obtain ⟨hle, hbel, hsz, hbox, hres, hrow⟩ := hI
      rcases hrow with h0 | ⟨g, cur, b, rfl, hg1, hg, hc, hcm, hcs, hb0, hb, hbk, hold, hnew⟩
      · omega
      have hpk : x.f5[k]? = some x.f5[k] := List.getElem?_eq_getElem hlt
      obtain ⟨Ak, ck, hck, hlk, hKk⟩ := K_cells (hnew k _ (Nat.le_refl _) hpk)
      have q5 : wr.cell? ⟨w.heap.size, 5, none⟩ = some (.slice (some ⟨g, 0, none⟩) x.f5.length c') := (blk_cell hbox 5).trans rfl
      have hcell : ∀ i u, (nodeCells x.f5[k] (.slice Ak x.f5[k].f5.length ck))[i]? = some u → wr.cell? ⟨g, k * 6 + i, none⟩ = some u := by
        intro i u hi
        rw [cell_of_row wr g _ cur 24 (0, 0) hg, ← Array.getElem?_toList]
        rw [← hck, List.getElem?_take] at hi
        split at hi
        · rw [List.getElem?_drop] at hi
          exact hi
        · cases hi
      have e0 := hcell 0 _ rfl
      rw [Nat.add_zero] at e0
      have e1 := hcell 1 _ rfl
      have e2 := hcell 2 _ rfl
      have e3 := hcell 3 _ rfl
      have e4 := hcell 4 _ rfl
      have e5 := hcell 5 _ rfl
      have HLT := Aside0.mk hlt
      clear hcell hck hnew hold hb hbk hb0 hcs hcm hc hres hbox hsz hbel hle hpk
      have hkb : k ≤ 140737488355328 := by have := HL.out.len; omega
      have hltb : decide ((k : Int) < (x.f5.length : Int)) = true := decide_eq_true (by omega)
      go_wp2_with fail
      go_region_with
        (first | (go_at_call 19; refine (IH.out x.f5[k] (List.getElem_mem HLT.out) Ak ck _ ?cK ?cL).mono ?_; (case cK => exact Kd.C_below hKk (Below.drew HI.out.below)); (case cL => exact HL.out.kid (List.getElem?_eq_getElem HLT.out)); rintro e w2 ⟨A2, c2, rfl, htr, hb2⟩; have q5' := pw_cell_below hb2 q5; have e0' := pw_cell_below hb2 e0; have e1' := pw_cell_below hb2 e1; have e2' := pw_cell_below hb2 e2; have e3' := pw_cell_below hb2 e3; have e4' := pw_cell_below hb2 e4; have e5' := pw_cell_below hb2 e5; have HTR := Aside0.mk htr; have HB2 := Aside0.mk hb2; have g2 : Aside0 (w2.heap[g]? = some (.cells cur 24 (0, 0))) := ⟨blk_below (show wr.drew.heap[g]? = _ from hg) hb2⟩; have fr0 := blk_frozen g2.out (k * 6); have fr1 := blk_frozen g2.out (k * 6 + 1); have fr2 := blk_frozen g2.out (k * 6 + 2); have fr3 := blk_frozen g2.out (k * 6 + 3); have fr4 := blk_frozen g2.out (k * 6 + 4); have fr5 := blk_frozen g2.out (k * 6 + 5); clear htr hb2))
      all_goals
        go_wp2
        go_roundw
        case rel => exact ⟨k + 1, by go_num, ⟨HI.out.step HLT.out HB2.out HTR.out⟩⟩
        case measure => have := HLT.out; simp [intOf]; omega
    · have hI := HI.out
      obtain ⟨hle, hbel, hsz, hbox, hres, hrow⟩ := hI
      have HROW2 := Aside0.mk hrow
      have HBEL := Aside0.mk hbel
      have HSZ := Aside0.mk hsz
      have HLE := Aside0.mk hle
      have HNLT := Aside0.mk hlt
      have HRES := Aside0.mk hres
      have HBOX := Aside0.mk hbox
      have r0 := blk_cell hbox 0
      have r1 := blk_cell hbox 1
      have r2 := blk_cell hbox 2
      have r3 := blk_cell hbox 3
      have r4 := blk_cell hbox 4
      have r5 := blk_cell hbox 5
      have f0 := blk_frozen hres 0
      have f1 := blk_frozen hres 1
      have f2 := blk_frozen hres 2
      have f3 := blk_frozen hres 3
      have f4 := blk_frozen hres 4
      have f5 := blk_frozen hres 5
      have p0 := blk_cell hres 0
      have p1 := blk_cell hres 1
      have p2 := blk_cell hres 2
      have p3 := blk_cell hres 3
      have p4 := blk_cell hres 4
      have p5 := blk_cell hres 5
      simp at r0 r1 r2 r3 r4 r5 p0 p1 p2 p3 p4 p5
      have hge : x.f5.length ≤ k := by omega
      clear hle hbel hsz hbox hres hrow hlt
      go_wp2_with fail
      have hd := HI.out.done hge
      refine ret_cell (w.heap.size + 1) 24 #[.int .i64 x.f0, .string x.f1, .int .i64 x.f2, .int .i64 x.f3, .int .i64 x.f4, .slice A' x.f5.length c'] (0, 0) _ rfl rfl (put6 HRES.out rfl _ _ _ _ _ _) hu24.out rfl size24 rfl ?_
      refine ⟨A', c', rfl, ?_, below6 HBEL.out (by omega) _ _ _ _ _ _⟩
      rw [size6]
      exact (hd.keep fun q h1 _ => far6 _ (by omega) _ _ _ _ _ _).mono (by omega) (Nat.le_refl _)
end Go.Proofs.Ytknggjnpkgooaaa
