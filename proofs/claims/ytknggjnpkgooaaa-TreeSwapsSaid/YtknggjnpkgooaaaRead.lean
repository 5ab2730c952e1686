/- An argument that is a node reads as a tree. -/
import Derived.Test.YtknggjnpkgooaaaClone
import Derived.ProofKit
import Derived.OpenShut
import Derived.ShutString
import Derived.ChangeOld
import Derived.SizedLaws
import Derived.Deep.Slices
import Derived.Deep.Fields
namespace Go.Proofs.Ytknggjnpkgooaaa
open Go.RowKit Go.Proofs.YtknggjnpkgooaaaW.PrintWords Go.Proofs.YtknggjnpkgooaaaW.PrintLast Go.Proofs.YtknggjnpkgooaaaW.PrintMore PTreeSwaps
open Go.ChangeShapes Go.WideShapes Go.Deep

theorem bytes24 : Try.prog.bytesOf 24 = 72 := by kernel_rfl
theorem cells24 : Try.prog.cellsOf 24 = 6 := by kernel_rfl
theorem one24 : ∃ fs, Try.prog.underlying 24 = some (.struct fs) ∧ oneCellFields Try.prog fs = true ∧ fs.toList.map (·.type) = [3, 9, 3, 3, 3, 22] := ⟨_, Try.underlying24, by kernel_rfl, rfl⟩
theorem weights_all {H : Type} {P : Program} {e : TypeId} {d : DataW H} : ∀ {l : List (DataW H)}, d ∈ l → ∀ n, n ∈ d.weights P e → n ∈ DataW.weightsAll P e l
  | [], h, _, _ => by cases h
  | x :: r, h, n, hn => by
    rw [DataW.weightsAll]
    rcases List.mem_cons.1 h with rfl | h
    · exact List.mem_append_left _ hn
    · exact List.mem_append_right _ (weights_all h n hn)
theorem weights_slice {H : Type} {P : Program} {t e : TypeId} {elems spare : List (DataW H)} (hu : P.underlying t = some (.slice e)) (h : ∀ n, n ∈ (DataW.slice elems spare).weights P t → n ≤ reachBytes) :
    (elems.length + spare.length) * P.bytesOf e ≤ reachBytes ∧ ∀ d, d ∈ elems → ∀ n, n ∈ d.weights P e → n ≤ reachBytes := by
  have he : (DataW.slice elems spare).weights P t = (elems.length + spare.length) * P.bytesOf e :: (DataW.weightsAll P e elems ++ DataW.weightsAll P e spare) := by simp [DataW.weights, hu]
  rw [he] at h
  exact ⟨h _ List.mem_cons_self, fun d hd n hn => h n (List.mem_cons_of_mem _ (List.mem_append_left _ (weights_all hd n hn)))⟩
theorem weights_agg {H : Type} {P : Program} {t : TypeId} {fs : Array Field} {parts : List (DataW H)} (hu : P.underlying t = some (.struct fs)) (h : ∀ n, n ∈ (DataW.agg parts).weights P t → n ≤ reachBytes) {j : Nat} {t' : TypeId} {d : DataW H} (ht : (fs.toList.map (·.type))[j]? = some t') (hd : parts[j]? = some d) :
    ∀ n, n ∈ d.weights P t' → n ≤ reachBytes := fun n hn => h n (by
  have he : (DataW.agg parts).weights P t = DataW.weightsEach P (fs.toList.map (·.type)) parts := by simp [DataW.weights, hu]
  rw [he]
  exact DataW.weights_mem_each ht hd n hn)

theorem cells_one {cs : List Value} {i : Nat} {v : Value} (h : cs[i]? = some v) : (cs.drop i).take 1 = [v] := by
  obtain ⟨h1, h2⟩ := List.getElem?_eq_some_iff.1 h
  rw [List.drop_eq_getElem_cons h1, h2]
  rfl

/-- What an argument that is a node reads as. -/
theorem read24 {H : Type} {enc : TypeId × Value → H} {W : World} {base : Nat} {spare : Nat → Bool} {held : Bool} : ∀ (k : Nat) (fuel : Nat) (cs : List Value) (d : DataW H) (ps : List MemPlace), SizeOf.sizeOf d < k →
    DataW.trod enc Try.prog W base spare held fuel 24 cs = some (d, ps) → (∀ n, n ∈ d.weights Try.prog 24 → n ≤ reachBytes) → ∃ nd : S24, k24.K W nd cs ∧ Fit nd := by
  intro k
  induction k with
  | zero => intro _ _ _ _ h; exact absurd h (Nat.not_lt_zero _)
  | succ k ih =>
    intro fuel cs d ps hk h hw
    obtain ⟨fs, hu, hone, hty⟩ := one24
    obtain ⟨xs, n, _, hx, hlen, hxl, hg⟩ := DataW.trod_struct hu h
    rw [cells24] at hlen
    have hfl : fs.size = 6 := by
      have := congrArg List.length hty
      simpa using this
    simp only [Prod.mk.injEq] at hx
    obtain ⟨rfl, _⟩ := hx
    have field : ∀ (i : Nat) (t : TypeId), ([3, 9, 3, 3, 3, 22] : List TypeId)[i]? = some t → ∃ v y, cs[i]? = some v ∧ xs[i]? = some y ∧ DataW.trod enc Try.prog W base spare held n t [v] = some y := by
      intro i t hi
      have hil : i < 6 := (List.getElem?_eq_some_iff.1 hi).1
      have hfi : fs[i]? = some (fs[i]'(by omega)) := Array.getElem?_eq_getElem (by omega)
      obtain ⟨ho, hc⟩ := hone_of hone i _ hfi
      have h1 := hg i _ hfi
      have ht : (fs[i]'(by omega)).type = t := by
        have h2 : (fs.toList.map (·.type))[i]? = some t := by rw [hty]; exact hi
        rw [List.getElem?_map, Array.getElem?_toList, hfi] at h2
        exact Option.some.inj h2
      rw [ho, hc, ht, cells_one (List.getElem?_eq_getElem (show i < cs.length by omega))] at h1
      exact ⟨_, _, List.getElem?_eq_getElem (show i < cs.length by omega), List.getElem?_eq_getElem (show i < xs.length by omega), h1.trans (List.getElem?_eq_getElem (show i < xs.length by omega))⟩
    obtain ⟨c0, y0, hc0, hy0, t0⟩ := field 0 3 rfl
    obtain ⟨c1, y1, hc1, hy1, t1⟩ := field 1 9 rfl
    obtain ⟨c2, y2, hc2, hy2, t2⟩ := field 2 3 rfl
    obtain ⟨c3, y3, hc3, hy3, t3⟩ := field 3 3 rfl
    obtain ⟨c4, y4, hc4, hy4, t4⟩ := field 4 3 rfl
    obtain ⟨c5, y5, hc5, hy5, t5⟩ := field 5 22 rfl
    obtain ⟨n0, e0, _, _⟩ := DataW.trod_int Try.underlying3 t0
    obtain ⟨n1, e1, _, _⟩ := DataW.trod_string Try.underlying9 t1
    obtain ⟨n2, e2, _, _⟩ := DataW.trod_int Try.underlying3 t2
    obtain ⟨n3, e3, _, _⟩ := DataW.trod_int Try.underlying3 t3
    obtain ⟨n4, e4, _, _⟩ := DataW.trod_int Try.underlying3 t4
    injection e0 with e0
    injection e1 with e1
    injection e2 with e2
    injection e3 with e3
    injection e4 with e4
    subst e0 e1 e2 e3 e4
    have hcs : cs = [.int .i64 n0, .string n1, .int .i64 n2, .int .i64 n3, .int .i64 n4, c5] := by
      match cs, hlen with
      | [a0, a1, a2, a3, a4, a5], _ =>
        simp at hc0 hc1 hc2 hc3 hc4 hc5
        rw [hc0, hc1, hc2, hc3, hc4, hc5]
    have hw5 : ∀ n, n ∈ y5.1.weights Try.prog 22 → n ≤ reachBytes := weights_agg hu hw (j := 5) (t' := 22) (by rw [hty]; rfl) (by rw [List.getElem?_map, hy5]; rfl)
    have hsz5 : SizeOf.sizeOf y5.1 < k := by
      have h1 : y5.1 ∈ xs.map (fun x => x.fst) := List.mem_map.2 ⟨y5, List.mem_of_getElem? hy5, rfl⟩
      have h2 := List.sizeOf_lt_of_mem h1
      simp only [DataW.agg.sizeOf_spec] at hk
      omega
    rcases open_slice Try.underlying22 t5 with ⟨h5, _⟩ | ⟨a, len, cap, m, n', D, Pl, h5, _, hl, hcap, hm, hy, hi⟩
    · injection h5 with h5
      subst h5
      refine ⟨⟨n0, n1, n2, n3, n4, []⟩, ?_, .mk _ (by simp) (fun j p hj => by simp at hj)⟩
      rw [hcs]
      exact k24_mk W ⟨n0, n1, n2, n3, n4, []⟩ (A5 := none) (c5 := 0) (Nat.le_refl _) (Kd.C_nil _ _)
    · injection h5 with h5
      subst h5
      obtain ⟨yd, yp⟩ := y5
      simp only [Prod.mk.injEq] at hy
      obtain ⟨rfl, _⟩ := hy
      obtain ⟨hwl, hwe⟩ := weights_slice Try.underlying22 hw5
      have hml : len ≤ m := by rw [hm]; split <;> omega
      have hDi : ∀ i, i < len → SizeOf.sizeOf (D i) < k := fun i hil => by
        have h1 : D i ∈ (List.range len).map D := List.mem_map.2 ⟨i, List.mem_range.2 hil, rfl⟩
        have h2 := List.sizeOf_lt_of_mem h1
        simp only [DataW.slice.sizeOf_spec] at hsz5
        omega
      have hex : ∀ i, ∃ nd : S24, i < len → ∃ cs', cs'.length = 6 ∧ k24.K W nd cs' ∧ Fit nd ∧ ∀ q u, cs'[q]? = some u → W.cell? (a.add (i * 6 + q)) = some u := by
        intro i
        by_cases hil : i < len
        · obtain ⟨cs', hcell, htr⟩ := hi i (by omega)
          rw [cells24] at hcell
          obtain ⟨_, hcl, hat⟩ := World.cells?_some hcell
          obtain ⟨nd, hKd, hFd⟩ := ih n' cs' (D i) (Pl i) (hDi i hil) htr (hwe _ (List.mem_map.2 ⟨i, List.mem_range.2 hil, rfl⟩))
          refine ⟨nd, fun _ => ⟨cs', hcl, hKd, hFd, fun q u hq => ?_⟩⟩
          have hql : q < 6 := by rw [← hcl]; exact (List.getElem?_eq_some_iff.1 hq).1
          rw [← Go.Deep.add_add, hat q hql, hq]
        · exact ⟨z24, fun h => absurd h hil⟩
      obtain ⟨f, hf⟩ := Classical.axiomOfChoice hex
      have hlf : ((List.range len).map f).length = len := by simp
      have hgf : ∀ (j : Nat) (p : S24), ((List.range len).map f)[j]? = some p → j < len ∧ p = f j := by
        intro j p hj
        have hjl : j < len := by rw [← hlf]; exact (List.getElem?_eq_some_iff.1 hj).1
        rw [List.getElem?_map, List.getElem?_range hjl] at hj
        exact ⟨hjl, (Option.some.inj hj).symm⟩
      refine ⟨⟨n0, n1, n2, n3, n4, (List.range len).map f⟩, ?_, .mk _ ?_ fun j p hj => ?_⟩
      · rw [hcs]
        have hC : k24.C W (some a) ((List.range len).map f).length ((List.range len).map f) := by
          refine ⟨rfl, by rw [hlf]; simp only [maxLen] at hcap; omega, fun _ => ⟨a, rfl, fun j p hj => ?_⟩⟩
          obtain ⟨hjl, rfl⟩ := hgf j p hj
          obtain ⟨cs', h1, h2, _, h3⟩ := hf j hjl
          exact ⟨cs', h1, h2, h3⟩
        have := k24_mk W ⟨n0, n1, n2, n3, n4, (List.range len).map f⟩ (A5 := some a) (c5 := cap) (by show ((List.range len).map f).length ≤ cap; rw [hlf]; exact hl) hC
        dsimp only at this
        rw [hlf] at this
        exact this
      · show ((List.range len).map f).length * 72 ≤ _
        rw [hlf]
        rw [bytes24] at hwl
        have h1 : ((List.range len).map D).length = len := by simp
        rw [h1] at hwl
        have : reachBytes ≤ 140737488355328 := by decide
        have h2 : len * 72 ≤ (len + (List.map (fun j => D (len + j)) (List.range (m - len))).length) * 72 := Nat.mul_le_mul_right _ (Nat.le_add_right _ _)
        omega
      · obtain ⟨hjl, rfl⟩ := hgf j p hj
        obtain ⟨_, _, _, h2, _⟩ := hf j hjl
        exact h2
end Go.Proofs.Ytknggjnpkgooaaa
