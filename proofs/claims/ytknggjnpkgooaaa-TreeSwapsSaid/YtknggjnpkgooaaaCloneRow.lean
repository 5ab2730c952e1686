/- slices.Clone of a list of nodes: a row of the call's own, whose elements read as they did. -/
import Derived.Test.YtknggjnpkgooaaaNodes
namespace Go.Proofs.Ytknggjnpkgooaaa
open Go.RowKit Go.Proofs.YtknggjnpkgooaaaW.PrintWords Go.Proofs.YtknggjnpkgooaaaW.PrintLast Go.Proofs.YtknggjnpkgooaaaW.PrintMore PTreeSwaps

/-- An empty row, just made. -/
theorem raw_empty (sz : Nat) (e : TypeId) (w : World) : (Kd.raw sz).R e (w.alloc (.cells #[] e)) w.heap.size (fun _ => True) (.slice (some ⟨w.heap.size, 0, none⟩) 0 0) [] := by
  have h := World.ownsRow_lit (base := w.heap.size) (e := e) (size := (Kd.raw sz).sz) w #[] 0 (Nat.le_refl _) (by simp [maxLen]) (by simp)
  exact ⟨fun _ _ => trivial, [], by simpa using h, by simp, fun j p hj => by simp at hj⟩

/-- A row, of a block from base on, whose elements' cells read as xs in the elder world w0. -/
def RowOf (w0 w : World) (base : Nat) (A : Option Addr) (c : Nat) (xs : List S24) : Prop :=
  xs.length = 0 ∨ ∃ g cur, A = some ⟨g, 0, none⟩ ∧ base ≤ g ∧ w.heap[g]? = some (.cells cur 24 (0, 0)) ∧ xs.length ≤ c ∧ c ≤ maxLen ∧ cur.size = c * 6 ∧
    ∀ (j : Nat) (p : S24), xs[j]? = some p → k24.K w0 p ((cur.toList.drop (j * 6)).take 6)

theorem RowOf_raw {w0 w : World} {base : Nat} {ok : Nat → Prop} {v : Value} {xs : List S24} {news : List (List Value)} (hl : news.length = xs.length) (h : (Kd.raw 6).R 24 w base ok v news)
    (hf : ∀ (j : Nat) (x : S24) (c : List Value), xs[j]? = some x → news[j]? = some c → k24.K w0 x c) : ∃ A c, v = .slice A xs.length c ∧ RowOf w0 w base A c xs := by
  obtain ⟨_, inner, ho, hr⟩ := h
  rcases ho.2 with ⟨rfl, hi⟩ | ⟨g, c, cur, rfl, hb, hh, hc, hcm, hcs, ht⟩
  · have h0 : xs.length = 0 := by
      rw [← hl]
      exact hi
    exact ⟨none, 0, by rw [h0], .inl h0⟩
  · rw [hl] at hc ht
    refine ⟨_, c, by rw [hl], .inr ⟨g, cur, rfl, hb, hh, hc, hcm, hcs, fun j p hj => ?_⟩⟩
    have hjl := (List.getElem?_eq_some_iff.1 hj).1
    have hrj : news[j]? = some (news[j]'(by omega)) := List.getElem?_eq_getElem (by omega)
    have h1 := hf j p _ hj hrj
    have h2 := (hr.2 j _ hrj).1
    rw [← h2, ← ht] at h1
    have h3 : ((cur.toList.take (xs.length * 6)).drop (j * 6)).take 6 = (cur.toList.drop (j * 6)).take 6 := by
      rw [List.drop_take, List.take_take, Nat.min_eq_left (by omega)]
    exact h3 ▸ h1

set_option maxHeartbeats 400000 in
theorem clone30_some (w0 w : World) (A : Addr) (c : Nat) (xs : List S24) (hR : ReadsRow (k24.K w0) 6 w (some A) xs.length xs) (hl : xs.length * 72 ≤ 140737488355328) :
    Calls Try.prog 30 #[.slice (some A) xs.length c] w fun e w' => ∃ A' c', e = .returned (.slice A' xs.length c') ∧ RowOf w0 w' w.heap.size A' c' xs ∧ Below w.heap.size w w' := by
  have h1 : ∀ w, Sem.run Try.prog (binOp BinOp.eql 22 (Value.slice (some A) xs.length c) (Value.slice none 0 0)) w = Result.ok (Value.bool false) w := fun w => Lib.run_eql_slice_nil w 22 24 _ _ _ _ _ Try.underlying22
  obtain ⟨news, hnl, hnr, hnf⟩ := Kd.reads_raw (ReadsRow.imp_ hR ((Below.refl w.heap.size w).alloc (Nat.le_refl _) (.cells #[] 24)) (fun _ _ h => h)) (fun y c hk => ⟨k24.K_len hk, k24.K_one hk⟩)
  have HNL := Aside0.mk hnl
  have HNR := Aside0.mk hnr
  have HNF := Aside0.mk hnf
  have HL := Aside0.mk hl
  clear hR hl hnl hnr hnf
  go_enter Try.func30, Try.ntmps30
  go_wp2_with (at_builtin; refine Kd.R_append_rows (Kd.raw 6) (w0 := w) w.heap.size rfl _ _ 22 24 _ 72 rfl Try.underlying22 info24 rfl (by decide) (by decide) _ [] news (some A) xs.length c (fun _ => True) (fun _ => False) rfl rfl (raw_empty 6 24 w) HNR.out (fun _ _ h => h) (fun _ h => h.elim) (fun _ _ => trivial) ((Below.refl w.heap.size w).alloc (Nat.le_refl _) _) ?c2 ?c3 ?_; (case c2 => simp); (case c3 => simpa using HL.out); intro v1 w1 hn hb hg _; have HN1 := Aside0.mk hn; have HB := Aside0.mk hb; clear hn hb hg)
  go_ret
  obtain ⟨A', c', he, hrow⟩ := RowOf_raw HNL.out HN1.out HNF.out
  exact ⟨A', c', by rw [← he]; rfl, hrow, HB.out⟩

theorem clone30 (w0 w : World) (A : Option Addr) (c : Nat) (xs : List S24) (hR : ReadsRow (k24.K w0) 6 w A xs.length xs) (hl : xs.length * 72 ≤ 140737488355328) :
    Calls Try.prog 30 #[.slice A xs.length c] w fun e w' => ∃ A' c', e = .returned (.slice A' xs.length c') ∧ RowOf w0 w' w.heap.size A' c' xs ∧ Below w.heap.size w w' := by
  cases A with
  | some A => exact clone30_some w0 w A c xs hR hl
  | none =>
    have h0 : xs = [] := by
      rcases Nat.eq_zero_or_pos xs.length with h | h
      · exact List.eq_nil_of_length_eq_zero h
      · obtain ⟨_, h', _⟩ := hR.2.2 h
        cases h'
    subst h0
    have h1 : ∀ w, Sem.run Try.prog (binOp BinOp.eql 22 (Value.slice none 0 c) (Value.slice none 0 0)) w = Result.ok (Value.bool true) w := fun w => Lib.run_eql_slice_nil w 22 24 _ _ _ _ _ Try.underlying22
    clear hR hl
    simp only [List.length_nil]
    go_enter Try.func30, Try.ntmps30
    go_wp2
    go_ret
    exact ⟨none, 0, rfl, .inl rfl, Below.refl _ _⟩

end Go.Proofs.Ytknggjnpkgooaaa
