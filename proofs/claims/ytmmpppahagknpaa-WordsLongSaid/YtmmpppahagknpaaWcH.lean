/- A law's texts, opened, with the range of their bytes. -/
import Derived.Test.YtmmpppahagknpaaWcB
import Derived.Deep.Slices
import Derived.Deep.Grids
namespace Go.Proofs.Ytmmpppahagknpaa.Wc
open Go.RowKit Go.Proofs.Ytmmpppahagknpaa.P Go.Proofs.Ytmmpppahagknpaa.Pure Go.Proofs.YtmmpppahagknpaaW.PrintWords Go.Proofs.YtmmpppahagknpaaW.PrintLast Go.Proofs.YtmmpppahagknpaaW.PrintMore
open Go.ChangeShapes Go.WideShapes
set_option linter.unusedVariables false
set_option linter.unusedSimpArgs false
set_option maxRecDepth 30000
theorem bytes5w : Try.prog.bytesOf 5 = 1 := by kernel_rfl
theorem bytes22w : Try.prog.bytesOf 22 = 24 := by kernel_rfl
theorem cells22w : Try.prog.cellsOf 22 = 1 := by kernel_rfl
variable {H : Type} {enc : TypeId × Value → H} {W : World}
theorem wf_u8 {n : Int} (h : (Lit.int .u8 n).wf = true) : 0 ≤ n ∧ n ≤ 255 := by
  have e1 : IntKind.u8.min = 0 := by decide
  have e2 : IntKind.u8.max = 255 := by decide
  simp [Lit.wf] at h
  omega
theorem open_byB {fuel : Nat} {cs : List Value} {x : DataW H × List MemPlace} (h : DataW.trod enc Try.prog W 0 (fun _ => true) true fuel 22 cs = some x) (hw : ∀ n ∈ x.1.weights Try.prog 22, n ≤ reachBytes) :
    ∃ a c zs, cs = [.slice a zs.length c] ∧ zs.length ≤ c ∧ Kd.C (Kd.int .u8) W a zs.length zs ∧ zs.length ≤ 140737488351232 ∧ ∀ z ∈ zs, 0 ≤ z ∧ z ≤ 255 := by
  rcases open_ints Try.underlying22 Try.underlying5 (by kernel_rfl) h with ⟨rfl, _⟩ | ⟨a, len, cap, zs, rfl, _, hl, hm, hz, rfl, hc, hwf⟩
  · exact ⟨none, 0, [], rfl, Nat.le_refl _, Kd.C_nil _ _, by decide, fun z hz => by cases hz⟩
  · simp only [if_true] at hz
    have hlt : (zs.take len).length = len := by rw [List.length_take]; omega
    have hb : len ≤ 140737488351232 := by
      have h1 := hw (((lits (H := H) .u8 (zs.take len)).length + (lits (H := H) .u8 (zs.drop len)).length) * Try.prog.bytesOf 5) (by simp [DataW.weights, Try.underlying22])
      have h2 : (lits (H := H) .u8 (zs.take len)).length = len := by simp [lits]; omega
      rw [h2, bytes5w] at h1
      have : reachBytes = 140737488351232 := rfl
      omega
    refine ⟨some a, cap, zs.take len, by rw [hlt], by omega, ⟨rfl, by omega, fun _ => ⟨a, rfl, fun j p hj => ?_⟩⟩, by omega, fun z hz => wf_u8 (hwf z (List.mem_of_mem_take hz))⟩
    rw [List.getElem?_take] at hj
    split at hj
    · obtain ⟨hj1, rfl⟩ := List.getElem?_eq_some_iff.1 hj
      refine ⟨[.int .u8 zs[j]], rfl, rfl, fun i u hu => ?_⟩
      cases i with
      | zero =>
        simp only [List.getElem?_cons_zero, Option.some.injEq] at hu
        subst hu
        have := hc j hj1
        rw [List.getD_eq_getElem?_getD, hj] at this
        simpa [Kd.int, Kd.scalar] using this
      | succ i => simp at hu
    · cases hj
theorem weightsAll_mem {P : Program} {e : TypeId} : ∀ {l : List (DataW H)} {d : DataW H}, d ∈ l → ∀ n ∈ d.weights P e, n ∈ DataW.weightsAll P e l
  | [], _, h, _, _ => by cases h
  | d0 :: l, d, h, n, hn => by
    simp only [DataW.weightsAll, List.mem_append]
    rcases List.mem_cons.1 h with rfl | h
    · exact .inl hn
    · exact .inr (weightsAll_mem h n hn)
theorem open_texts {a : Option Addr} {len cap : Nat} {d : DataW H} {p : List MemPlace} (h : DataW.Trod enc Try.prog W 0 (fun _ => true) true 25 (.slice a len cap) d p) (hw : ∀ n ∈ d.weights Try.prog 25, n ≤ reachBytes) :
    ∃ T : List (List Int), len = T.length ∧ T.length ≤ cap ∧ Kd.C (Kd.slice 5 (Kd.int .u8)) W a T.length T ∧ T.length ≤ 140737488355328 ∧ (∀ t ∈ T, Byts t) ∧ ∀ t ∈ T, t.length ≤ 140737488355328 := by
  obtain ⟨fuel, hf⟩ := h
  rcases Go.Deep.open_slice Try.underlying25 hf with ⟨hcs, _⟩ | ⟨a', len', cap', m, n, Df, Pl, hcs, _, hl, hm, hmm, hx, hi⟩
  · simp [Value.cells] at hcs
    obtain ⟨rfl, rfl, rfl⟩ := hcs
    exact ⟨[], rfl, Nat.le_refl _, Kd.C_nil _ _, by decide, fun t ht => (by cases ht), fun t ht => (by cases ht)⟩
  · simp [Value.cells] at hcs
    obtain ⟨rfl, rfl, rfl⟩ := hcs
    simp only [if_true] at hmm
    injection hx with hx _
    subst hx
    have hb : len ≤ 140737488351232 := by
      have h1 := hw ((((List.range len).map Df).length + ((List.range (m - len)).map fun j => Df (len + j)).length) * Try.prog.bytesOf 22) (by simp [DataW.weights, Try.underlying25])
      rw [bytes22w] at h1
      simp only [List.length_map, List.length_range] at h1
      have : reachBytes = 140737488351232 := rfl
      omega
    have each : ∀ i, ∃ o : List Int, i < len → ∃ a c, W.cell? (a'.add i) = some (.slice a o.length c) ∧ o.length ≤ c ∧ Kd.C (Kd.int .u8) W a o.length o ∧ o.length ≤ 140737488351232 ∧ Byts o := by
      intro i
      by_cases hlt : i < len
      · obtain ⟨cs', h1, h2⟩ := hi i (by omega)
        rw [cells22w] at h1
        obtain ⟨_, hcl, hcell⟩ := World.cells?_some h1
        obtain ⟨a1, c1, zs, rfl, l1, C1, b1, B1⟩ := open_byB h2 (fun n hn => hw n (by
          simp only [DataW.weights, Try.underlying25, List.mem_cons, List.mem_append]
          exact .inr (.inl (weightsAll_mem (List.mem_map.2 ⟨i, List.mem_range.2 hlt, rfl⟩) n hn))))
        refine ⟨zs, fun _ => ⟨a1, c1, ?_, l1, C1, b1, fun z hz => by have := B1 z hz; constructor <;> omega⟩⟩
        have := hcell 0 (by omega)
        rw [Nat.mul_one] at this
        simpa [Addr.add] using this
      · exact ⟨[], fun h => absurd h hlt⟩
    refine ⟨(List.range len).map (fun i => Classical.choose (each i)), by simp, by simpa using hl, ⟨rfl, by simp; omega, fun _ => ⟨a', rfl, fun j o hj => ?_⟩⟩, by simp; omega, fun o ho => ?_, fun o ho => ?_⟩
    · obtain ⟨hj1, rfl⟩ := List.getElem?_eq_some_iff.1 hj
      simp only [List.length_map, List.length_range] at hj1
      obtain ⟨a1, c1, h1, l1, C1, b1, B1⟩ := Classical.choose_spec (each j) hj1
      simp only [List.getElem_map, List.getElem_range]
      refine ⟨[.slice a1 _ c1], rfl, ⟨a1, c1, rfl, l1, C1⟩, fun i u hu => ?_⟩
      cases i with
      | zero =>
        simp only [List.getElem?_cons_zero, Option.some.injEq] at hu
        subst hu
        rw [show j * (Kd.slice 5 (Kd.int .u8)).sz + 0 = j from by show j * 1 + 0 = j; omega]
        exact h1
      | succ i => simp at hu
    · obtain ⟨i, hi, rfl⟩ := List.mem_map.1 ho
      obtain ⟨a1, c1, h1, l1, C1, b1, B1⟩ := Classical.choose_spec (each i) (List.mem_range.1 hi)
      exact B1
    · obtain ⟨i, hi, rfl⟩ := List.mem_map.1 ho
      obtain ⟨a1, c1, h1, l1, C1, b1, B1⟩ := Classical.choose_spec (each i) (List.mem_range.1 hi)
      omega
end Go.Proofs.Ytmmpppahagknpaa.Wc
