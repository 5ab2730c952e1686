/- smockinglaw06.heavy ends. -/
import Derived.Test.YtknggjnpkgooaaaClone
import Derived.Test.YtknggjnpkgooaaaPTreeSwapsx1
namespace Go.Proofs.Ytknggjnpkgooaaa
open Go.RowKit Go.Proofs.YtknggjnpkgooaaaW.PrintWords Go.Proofs.YtknggjnpkgooaaaW.PrintLast Go.Proofs.YtknggjnpkgooaaaW.PrintMore PTreeSwaps

theorem wrap_next {i : Int} {n : Nat} (h0 : 0 ≤ i) (h1 : i < n) (hn : n * 72 ≤ 140737488355328) : wrap64 (i + 1) = i + 1 := by
  unfold wrap64
  omega
theorem rd_mem {l : List S24} {i : Int} (h0 : 0 ≤ i) (h1 : i < l.length) : rd_T24 l i ∈ l := by
  rw [rd_T24, List.getD_eq_getElem?_getD, List.getElem?_eq_getElem (by omega)]
  exact List.getElem_mem _

theorem deep_ends (l : List S24) (hl : l.length * 72 ≤ 140737488355328) (hx : ∀ x, x ∈ l → ∀ a, ∃ r, Ev (fun k => smockingref00_Deep.f k x.f5 a) r) (a : Int) : ∃ r, Ev (fun k => smockingref00_Deep.f k l a) r := by
  have loop : ∀ (d : Nat) (i : Int), 0 ≤ i → (l.length : Int) - i = d → ∃ r, Ev (fun k => smockingref00_Deep.l0 k l a i) r := by
    intro d
    induction d with
    | zero =>
      intro i h0 hd
      exact ⟨false, Ev.step (f := fun _ => some false) (fun k => by simp only [smockingref00_Deep.l0]; rw [if_neg (by omega)]) (Ev.now _)⟩
    | succ d ih =>
      intro i h0 hd
      have hi : i < (l.length : Int) := by omega
      by_cases ha : a = 0
      · exact ⟨true, Ev.step (f := fun _ => some true) (fun k => by simp only [smockingref00_Deep.l0]; rw [if_pos hi, if_pos ha]) (Ev.now _)⟩
      · obtain ⟨r, hr⟩ := hx _ (rd_mem h0 hi) (wrap64 (a - 1))
        obtain ⟨q, hq⟩ := ih (i + 1) (by omega) (by omega)
        have h1 : ∀ k, smockingref00_Deep.l0 (k + 1) l a i = (smockingref00_Deep.f k (rd_T24 l i).f5 (wrap64 (a - 1))).bind fun t => (if t = true then (some true) else (smockingref00_Deep.l0 k l a (i + 1))) := fun k => by
          simp only [smockingref00_Deep.l0]
          rw [if_pos hi, if_neg ha, if_pos h0, wrap_next h0 hi hl]
        cases r with
        | true => exact ⟨true, Ev.step h1 (Ev.bind hr (by simpa using Ev.now true))⟩
        | false => exact ⟨q, Ev.step h1 (Ev.bind hr (by simpa using hq))⟩
  obtain ⟨r, hr⟩ := loop l.length 0 (by omega) (by omega)
  exact ⟨r, Ev.step (fun k => by simp only [smockingref00_Deep.f]) hr⟩

theorem nodes_ends (l : List S24) (hl : l.length * 72 ≤ 140737488355328) (hx : ∀ x, x ∈ l → ∀ a, ∃ r, Ev (fun k => smockingref00_Nodes.f k x.f5 a) r) (a : Int) : ∃ r, Ev (fun k => smockingref00_Nodes.f k l a) r := by
  have loop : ∀ (d : Nat) (i m : Int), 0 ≤ i → (l.length : Int) - i = d → ∃ r, Ev (fun k => smockingref00_Nodes.l0 k l a m i) r := by
    intro d
    induction d with
    | zero =>
      intro i m h0 hd
      exact ⟨m, Ev.step (f := fun _ => some m) (fun k => by simp only [smockingref00_Nodes.l0]; rw [if_neg (by omega)]) (Ev.now _)⟩
    | succ d ih =>
      intro i m h0 hd
      have hi : i < (l.length : Int) := by omega
      by_cases ha : m ≤ a
      · obtain ⟨r, hr⟩ := hx _ (rd_mem h0 hi) (wrap64 (a - m))
        obtain ⟨q, hq⟩ := ih (i + 1) (wrap64 ((wrap64 (m + 1)) + r)) (by omega) (by omega)
        have h1 : ∀ k, smockingref00_Nodes.l0 (k + 1) l a m i = (smockingref00_Nodes.f k (rd_T24 l i).f5 (wrap64 (a - m))).bind fun t => (smockingref00_Nodes.l0 k l a (wrap64 ((wrap64 (m + 1)) + t)) (i + 1)) := fun k => by
          simp only [smockingref00_Nodes.l0]
          rw [if_pos hi, if_pos ha, if_pos h0, wrap_next h0 hi hl]
        exact ⟨q, Ev.step h1 (Ev.bind hr hq)⟩
      · exact ⟨m, Ev.step (f := fun _ => some m) (fun k => by simp only [smockingref00_Nodes.l0]; rw [if_pos hi, if_neg ha]) (Ev.now _)⟩
  obtain ⟨r, hr⟩ := loop l.length 0 0 (by omega) (by omega)
  exact ⟨r, Ev.step (fun k => by simp only [smockingref00_Nodes.f]) hr⟩

theorem texts_ends (l : List S24) (hl : l.length * 72 ≤ 140737488355328) (hx : ∀ x, x ∈ l → ∀ a, ∃ r, Ev (fun k => smockingref00_Texts.f k x.f5 a) r) (a : Int) : ∃ r, Ev (fun k => smockingref00_Texts.f k l a) r := by
  have stop : ∀ (m i : Int), ∃ r, Ev (fun k => smockingref00_Texts.j1 k l a m i false) r := by
    intro m i
    by_cases ha : m > a
    · exact ⟨_, Ev.step (f := fun _ => some (wrap64 (a + 1))) (fun k => by simp only [smockingref00_Texts.j1]; rw [if_neg (by decide), if_pos ha]) (Ev.now _)⟩
    · exact ⟨_, Ev.step (f := fun _ => some m) (fun k => by simp only [smockingref00_Texts.j1]; rw [if_neg (by decide), if_neg ha]) (Ev.now _)⟩
  have loop : ∀ (d : Nat) (i m : Int), 0 ≤ i → (l.length : Int) - i = d → ∃ r, Ev (fun k => smockingref00_Texts.l0 k l a m i) r := by
    intro d
    induction d with
    | zero =>
      intro i m h0 hd
      obtain ⟨r, hr⟩ := stop m i
      exact ⟨r, Ev.step (fun k => by simp only [smockingref00_Texts.l0]; rw [if_neg (by omega)]) hr⟩
    | succ d ih =>
      intro i m h0 hd
      have hi : i < (l.length : Int) := by omega
      by_cases ha : m ≤ a
      · have hj : ∃ r, Ev (fun k => smockingref00_Texts.j1 k l a m i true) r := by
          generalize hm : wrap64 (m + (((rd_T24 l i).f1).size : Int)) = m'
          by_cases hb : m' ≤ a
          · obtain ⟨r, hr⟩ := hx _ (rd_mem h0 hi) (wrap64 (a - m'))
            obtain ⟨q, hq⟩ := ih (i + 1) (wrap64 (m' + r)) (by omega) (by omega)
            have h1 : ∀ k, smockingref00_Texts.j1 (k + 1) l a m i true = (smockingref00_Texts.f k (rd_T24 l i).f5 (wrap64 (a - m'))).bind fun t => (smockingref00_Texts.l0 k l a (wrap64 (m' + t)) (i + 1)) := fun k => by
              simp only [smockingref00_Texts.j1]
              rw [if_pos trivial, if_pos h0, if_pos hi, hm, if_pos hb, wrap_next h0 hi hl]
            exact ⟨q, Ev.step h1 (Ev.bind hr hq)⟩
          · obtain ⟨q, hq⟩ := ih (i + 1) m' (by omega) (by omega)
            have h1 : ∀ k, smockingref00_Texts.j1 (k + 1) l a m i true = (smockingref00_Texts.l0 k l a m' (i + 1)) := fun k => by
              simp only [smockingref00_Texts.j1]
              rw [if_pos trivial, if_pos h0, if_pos hi, hm, if_neg hb, wrap_next h0 hi hl]
            exact ⟨q, Ev.step h1 hq⟩
        obtain ⟨r, hr⟩ := hj
        exact ⟨r, Ev.step (fun k => by simp only [smockingref00_Texts.l0]; rw [if_pos hi, decide_eq_true ha]) hr⟩
      · obtain ⟨r, hr⟩ := stop m i
        exact ⟨r, Ev.step (fun k => by simp only [smockingref00_Texts.l0]; rw [if_pos hi, decide_eq_false ha]) hr⟩
  obtain ⟨r, hr⟩ := loop l.length 0 0 (by omega) (by omega)
  exact ⟨r, Ev.step (fun k => by simp only [smockingref00_Texts.f]) hr⟩

theorem kids_fit {x : S24} (h : Fit x) : ∀ y, y ∈ x.f5 → Fit y := fun y hy => by
  obtain ⟨j, hj, rfl⟩ := List.mem_iff_getElem.1 hy
  exact h.kid (List.getElem?_eq_getElem hj)
theorem deep_all (x : S24) : Fit x → ∀ a, ∃ r, Ev (fun k => smockingref00_Deep.f k x.f5 a) r := by
  induction x using S24.ind with
  | h x ih => exact fun hf a => deep_ends x.f5 hf.len (fun y hy => ih y hy (kids_fit hf y hy)) a
theorem nodes_all (x : S24) : Fit x → ∀ a, ∃ r, Ev (fun k => smockingref00_Nodes.f k x.f5 a) r := by
  induction x using S24.ind with
  | h x ih => exact fun hf a => nodes_ends x.f5 hf.len (fun y hy => ih y hy (kids_fit hf y hy)) a
theorem texts_all (x : S24) : Fit x → ∀ a, ∃ r, Ev (fun k => smockingref00_Texts.f k x.f5 a) r := by
  induction x using S24.ind with
  | h x ih => exact fun hf a => texts_ends x.f5 hf.len (fun y hy => ih y hy (kids_fit hf y hy)) a

theorem heavy_ends (x : S24) (hf : Fit x) : ∃ k r, smockingref00_Heavy.f k [x] 3000 = some r := by
  have hm : ∀ y, y ∈ [x] → y = x := fun y hy => List.mem_singleton.1 hy
  obtain ⟨r1, h1⟩ := deep_ends [x] (by simp) (fun y hy => by rw [hm y hy]; exact deep_all x hf) 300
  obtain ⟨r2, h2⟩ := nodes_ends [x] (by simp) (fun y hy => by rw [hm y hy]; exact nodes_all x hf) 3000
  obtain ⟨r3, h3⟩ := texts_ends [x] (by simp) (fun y hy => by rw [hm y hy]; exact texts_all x hf) 20000
  have : ∃ r, Ev (fun k => smockingref00_Heavy.f k [x] 3000) r := by
    unfold smockingref00_Heavy.f
    cases r1 with
    | true => exact ⟨true, Ev.bind h1 (by simpa using Ev.now true)⟩
    | false =>
      by_cases hb : r2 > 3000
      · exact ⟨true, Ev.bind h1 (by simp only [Bool.false_eq_true, if_false]; exact Ev.bind h2 (by simp only [if_pos hb]; exact Ev.now true))⟩
      · exact ⟨decide (r3 > 20000), Ev.bind h1 (by simp only [Bool.false_eq_true, if_false]; exact Ev.bind h2 (by simp only [if_neg hb]; exact Ev.bind h3 (Ev.now _)))⟩
  obtain ⟨r, hr⟩ := this
  obtain ⟨k, hk⟩ := hr.rounds
  exact ⟨k, r, hk⟩

theorem heap24 : Kd.Heap k24 := Kd.heap_fix (fun _ h_ => Kd.heap_iso _ (Kd.heap_pair (Kd.heap_int .i64) (Kd.heap_pair Kd.heap_string (Kd.heap_pair (Kd.heap_int .i64) (Kd.heap_pair (Kd.heap_int .i64) (Kd.heap_pair (Kd.heap_int .i64) (Kd.heap_slice 24 h_)))))))
def SomeBool (w : World) (e : Ending) (w' : World) : Prop := ∃ b : Bool, e = .returned (.bool b) ∧ Below w.heap.size w w'
/-- heavy of a node alone. -/
theorem heavy5 (x : S24) (hf : Fit x) (A : Option Addr) (c : Nat) (w : World) (hK : k24.C w A x.f5.length x.f5) (hc : x.f5.length ≤ c) :
    Calls Try.prog 5 #[.slice none 0 0, .slice none 0 0, .agg #[.int .i64 x.f0, .string x.f1, .int .i64 x.f2, .int .i64 x.f3, .int .i64 x.f4, .slice A x.f5.length c]] w (SomeBool w) := by
  obtain ⟨k, r, h⟩ := heavy_ends x hf
  refine (smockinglaw06_heavy.calls k none 0 [] none 0 [] x.f0 x.f1 x.f2 x.f3 x.f4 (fun k => k < w.heap.size) A c x.f5 r w (Kd.C_nil _ _) (Nat.le_refl _) (Kd.C_nil _ _) (Nat.le_refl _) ?_ ?_).mono fun e w' ⟨h1, h2⟩ => ⟨r, h1, h2⟩
  · exact Kd.V_mk hc (Kd.C_F heap24 hK)
  · have h' : smockingref00_Heavy.f k [⟨x.f0, x.f1, x.f2, x.f3, x.f4, x.f5⟩] 3000 = some r := by cases x; exact h
    unfold smockinglaw06_heavy.f
    rw [if_neg (by simp), if_neg (by simp), h']
    rfl

/-! Sizes. -/
mutual
def szN : S24 → Int
  | ⟨_, _, _, _, _, l⟩ => 1 + szL l
def szL : List S24 → Int
  | [] => 0
  | x :: r => szN x + szL r
end
theorem szN_eq (x : S24) : szN x = 1 + szL x.f5 := by cases x; rw [szN]
theorem szL_append (l r : List S24) : szL (l ++ r) = szL l + szL r := by
  induction l with
  | nil => rw [List.nil_append, szL]; omega
  | cons x l ih => rw [List.cons_append, szL, szL, ih]; omega
theorem szL_set {l : List S24} {i : Nat} (hi : i < l.length) (y : S24) : szL (l.set i y) = szL l - szN l[i] + szN y := by
  rw [List.set_eq_take_append_cons_drop, if_pos hi, szL_append, szL]
  have h1 : szL l = szL (l.take i) + (szN l[i] + szL (l.drop (i + 1))) := by
    conv => lhs; rw [← List.take_append_drop i l, szL_append, List.drop_eq_getElem_cons hi, szL]
  omega
theorem wrap_add (a b : Int) : wrap64 (wrap64 a + wrap64 b) = wrap64 (a + b) := by unfold wrap64; omega
theorem wrap_sub (a b : Int) : wrap64 (wrap64 a - wrap64 b) = wrap64 (a - b) := by unfold wrap64; omega
theorem size_ends (x : S24) : Fit x → Ev (fun k => tree_Size.f k x.f0 x.f1 x.f2 x.f3 x.f4 x.f5) (wrap64 (szN x)) := by
  induction x using S24.ind with
  | h x ih =>
  intro hf
  have hl := hf.len
  have loop : ∀ (d : Nat) (i : Nat), x.f5.length - i = d → i ≤ x.f5.length → Ev (fun k => tree_Size.l0 k (wrap64 (1 + szL (x.f5.take i))) x.f5 (x.f5.length : Int) i) (wrap64 (szN x)) := by
    intro d
    induction d with
    | zero =>
      intro i hd hi
      rw [List.take_of_length_le (by omega), ← szN_eq]
      exact Ev.step (f := fun _ => some (wrap64 (szN x))) (fun k => by simp only [tree_Size.l0]; rw [if_neg (by omega)]) (Ev.now _)
    | succ d ihd =>
      intro i hd hi
      have hlt : i < x.f5.length := by omega
      have hrd : rd_T24 x.f5 (i : Int) = x.f5[i] := by rw [rd_T24, Int.toNat_natCast, List.getD_eq_getElem?_getD, List.getElem?_eq_getElem hlt]; rfl
      have hmem := List.getElem_mem hlt
      have h2 := ih x.f5[i] hmem (kids_fit hf _ hmem)
      have h3 := ihd (i + 1) (by omega) (by omega)
      have h1 : ∀ k, tree_Size.l0 (k + 1) (wrap64 (1 + szL (x.f5.take i))) x.f5 (x.f5.length : Int) i = (tree_Size.f k x.f5[i].f0 x.f5[i].f1 x.f5[i].f2 x.f5[i].f3 x.f5[i].f4 x.f5[i].f5).bind fun t => tree_Size.l0 k (wrap64 (wrap64 (1 + szL (x.f5.take i)) + t)) x.f5 (x.f5.length : Int) ((i + 1 : Nat) : Int) := fun k => by
        simp only [tree_Size.l0]
        rw [if_pos (by omega), if_pos (by omega), if_pos (by omega), hrd, wrap_next (n := x.f5.length) (by omega) (by omega) hl]
        rfl
      refine Ev.step h1 (Ev.bind h2 ?_)
      rw [wrap_add]
      have h4 : 1 + szL (x.f5.take i) + szN x.f5[i] = 1 + szL (x.f5.take (i + 1)) := by
        rw [List.take_succ_eq_append_getElem hlt, szL_append, szL, szL]
        omega
      rw [h4]
      exact h3
  have h0 := loop x.f5.length 0 (by omega) (by omega)
  rw [List.take_zero, szL, show wrap64 (1 + 0) = 1 from by unfold wrap64; omega] at h0
  exact Ev.step (fun k => by simp only [tree_Size.f]; rfl) h0

def SizeSaid (x : S24) (w : World) (e : Ending) (w' : World) : Prop := e = .returned (.int .i64 (wrap64 (szN x))) ∧ Below w.heap.size w w'
theorem size10 (x : S24) (hf : Fit x) (A : Option Addr) (c : Nat) (w : World) (hK : k24.C w A x.f5.length x.f5) (hc : x.f5.length ≤ c) :
    Calls Try.prog 10 #[.agg #[.int .i64 x.f0, .string x.f1, .int .i64 x.f2, .int .i64 x.f3, .int .i64 x.f4, .slice A x.f5.length c]] w (SizeSaid x w) := by
  obtain ⟨k, hk⟩ := (size_ends x hf).rounds
  exact tree_Size.calls k x.f0 x.f1 x.f2 x.f3 x.f4 A c x.f5 _ w hK hc hk
end Go.Proofs.Ytknggjnpkgooaaa
