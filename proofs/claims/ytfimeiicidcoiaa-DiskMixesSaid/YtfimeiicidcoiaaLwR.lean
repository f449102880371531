/- The laws' arguments, opened: bytes, choices, operations. -/
import Derived.Test.YtfimeiicidcoiaaLwG
import Derived.Deep.Slices
import Derived.Deep.Grids
namespace Go.Proofs.Ytfimeiicidcoiaa.Dk
open Go.RowKit Go.Proofs.YtfimeiicidcoiaaW.PrintWords Go.Proofs.YtfimeiicidcoiaaW.PrintLast Go.Proofs.YtfimeiicidcoiaaW.PrintMore
open Go.ChangeShapes Go.WideShapes
set_option linter.unusedVariables false
set_option linter.unusedSimpArgs false
variable {H : Type} {enc : TypeId × Value → H} {W : World}
theorem bytes5 : Try.prog.bytesOf 5 = 1 := by kernel_rfl
theorem bytes4 : Try.prog.bytesOf 4 = 1 := by kernel_rfl
theorem bytes37 : Try.prog.bytesOf 37 = 72 := by kernel_rfl
theorem cells37 : Try.prog.cellsOf 37 = 5 := by kernel_rfl
theorem open_by {fuel : Nat} {cs : List Value} {x : DataW H × List MemPlace} (h : DataW.trod enc Try.prog W 0 (fun _ => true) true fuel 22 cs = some x) (hw : ∀ n ∈ x.1.weights Try.prog 22, n ≤ reachBytes) :
    ∃ a c zs, cs = [.slice a zs.length c] ∧ zs.length ≤ c ∧ Kd.C (Kd.int .u8) W a zs.length zs ∧ zs.length ≤ 140737488351232 := by
  rcases open_ints Try.underlying22 Try.underlying5 (by kernel_rfl) h with ⟨rfl, _⟩ | ⟨a, len, cap, zs, rfl, _, hl, hm, hz, rfl, hc, hwf⟩
  · exact ⟨none, 0, [], rfl, Nat.le_refl _, Kd.C_nil _ _, by decide⟩
  · simp only [if_true] at hz
    have hlt : (zs.take len).length = len := by rw [List.length_take]; omega
    have hb : len ≤ 140737488351232 := by
      have h1 := hw (((lits (H := H) .u8 (zs.take len)).length + (lits (H := H) .u8 (zs.drop len)).length) * Try.prog.bytesOf 5) (by simp [DataW.weights, Try.underlying22])
      have h2 : (lits (H := H) .u8 (zs.take len)).length = len := by simp [lits]; omega
      rw [h2, bytes5] at h1
      have : reachBytes = 140737488351232 := rfl
      omega
    refine ⟨some a, cap, zs.take len, by rw [hlt], by omega, ⟨rfl, by omega, fun _ => ⟨a, rfl, fun j p hj => ?_⟩⟩, by omega⟩
    rw [List.getElem?_take] at hj
    split at hj
    · obtain ⟨hj1, rfl⟩ := List.getElem?_eq_some_iff.1 hj
      refine ⟨[.int .u8 zs[j]], rfl, rfl, fun i u hu => ?_⟩
      cases i with
      | zero =>
        simp only [List.getElem?_cons_zero, Option.some.injEq] at hu
        subst hu
        have := hc j hj1
        rw [List.getD_eq_getElem?_getD, hj] at this
        simpa [Kd.int, Kd.scalar] using this
      | succ i => simp at hu
    · cases hj
theorem open_ch {fuel : Nat} {cs : List Value} {x : DataW H × List MemPlace} (h : DataW.trod enc Try.prog W 0 (fun _ => true) true fuel 24 cs = some x) (hw : ∀ n ∈ x.1.weights Try.prog 24, n ≤ reachBytes) :
    ∃ a c zs, cs = [.slice a zs.length c] ∧ zs.length ≤ c ∧ Kd.C Kd.bool W a zs.length zs ∧ zs.length ≤ 140737488351232 := by
  rcases Go.Deep.open_bools Try.underlying24 Try.underlying4 (by kernel_rfl) h with ⟨rfl, _⟩ | ⟨a, len, cap, Bf, rfl, _, hl, hm, rfl, hc⟩
  · exact ⟨none, 0, [], rfl, Nat.le_refl _, Kd.C_nil _ _, by decide⟩
  · have hlt : ((List.range len).map Bf).length = len := by simp
    have hb : len ≤ 140737488351232 := by
      have h1 := hw ((len + (cap - len)) * Try.prog.bytesOf 4) (by simp [Go.Deep.boolRow, DataW.weights, Try.underlying24])
      rw [bytes4] at h1
      have : reachBytes = 140737488351232 := rfl
      omega
    have hmx : maxLen = 9223372036854775807 := by decide
    refine ⟨some a, cap, (List.range len).map Bf, by rw [hlt], by omega, ⟨rfl, by omega, fun _ => ⟨a, rfl, fun j p hj => ?_⟩⟩, by omega⟩
    obtain ⟨hj1, rfl⟩ := List.getElem?_eq_some_iff.1 hj
    rw [hlt] at hj1
    refine ⟨[.bool (Bf j)], rfl, by simp [Kd.bool, Kd.scalar], fun i u hu => ?_⟩
    cases i with
    | zero =>
      simp only [List.getElem?_cons_zero, Option.some.injEq] at hu
      subst hu
      have := hc j (by omega)
      simpa [Kd.bool, Kd.scalar] using this
    | succ i => simp at hu
theorem wf_i64 {n : Int} (h : (Lit.int .i64 n).wf = true) : -9223372036854775808 ≤ n ∧ n ≤ 9223372036854775807 := by
  have e1 : IntKind.i64.min = -9223372036854775808 := by decide
  have e2 : IntKind.i64.max = 9223372036854775807 := by decide
  simp [Lit.wf] at h
  omega
theorem open_op {fuel : Nat} {cs : List Value} {x : DataW H × List MemPlace} (h : DataW.trod enc Try.prog W 0 (fun _ => true) true fuel 37 cs = some x) (hw : ∀ n ∈ x.1.weights Try.prog 37, n ≤ reachBytes) : ∃ o, OpIs W o cs := by
  obtain ⟨xs, n, rfl, rfl, hl, hxl, hf⟩ := DataW.trod_struct Try.underlying37 h
  rw [cells37] at hl
  match cs, hl, xs, hxl with
  | [v0, v1, v2, v3, v4], _, [y0, y1, y2, y3, y4], _ =>
    have g0 := hf 0 _ rfl
    have g1 := hf 1 _ rfl
    have g2 := hf 2 _ rfl
    have g3 := hf 3 _ rfl
    have g4 := hf 4 _ rfl
    have c3 : Try.prog.cellsOf 3 = 1 := by kernel_rfl
    have c22 : Try.prog.cellsOf 22 = 1 := by kernel_rfl
    have c24 : Try.prog.cellsOf 24 = 1 := by kernel_rfl
    simp [c3, c22, c24] at g0 g1 g2 g3 g4
    obtain ⟨n0, e0, _, w0⟩ := DataW.trod_int Try.underlying3 g0
    obtain ⟨n1, e1, _, w1⟩ := DataW.trod_int Try.underlying3 g1
    obtain ⟨n2, e2, _, w2⟩ := DataW.trod_int Try.underlying3 g2
    have hw' : ∀ n ∈ DataW.weightsEach Try.prog [3, 3, 3, 22, 24] [y0.1, y1.1, y2.1, y3.1, y4.1], n ≤ reachBytes := fun n hn => hw n (by simpa [DataW.weights, Try.underlying37] using hn)
    obtain ⟨a3, k3, z3, e3, l3, C3, b3⟩ := open_by g3 (fun n hn => hw' n (by simp [DataW.weightsEach, hn]))
    obtain ⟨a4, k4, z4, e4, l4, C4, b4⟩ := open_ch g4 (fun n hn => hw' n (by simp [DataW.weightsEach, hn]))
    injection e0 with e0; injection e1 with e1; injection e2 with e2; injection e3 with e3; injection e4 with e4
    subst e0; subst e1; subst e2; subst e3; subst e4
    obtain ⟨p1, p2⟩ := wf_i64 w1
    obtain ⟨q1, q2⟩ := wf_i64 w2
    exact ⟨⟨n0, n1, n2, z3, z4⟩, a3, k3, a4, k4, rfl, l3, l4, C3, C4, b3, b4, p1, p2, q1, q2⟩
theorem agg_of {v a b c d e : Value} (h : v.cells.toList = [a, b, c, d, e]) : v = .agg #[a, b, c, d, e] := by
  cases v with
  | agg cs =>
    congr 1
    apply Array.ext'
    exact h
  | _ => simp [Value.cells] at h
theorem weightsAll_mem {P : Program} {e : TypeId} : ∀ {l : List (DataW H)} {d : DataW H}, d ∈ l → ∀ n ∈ d.weights P e, n ∈ DataW.weightsAll P e l
  | [], _, h, _, _ => by cases h
  | d0 :: l, d, h, n, hn => by
    simp only [DataW.weightsAll, List.mem_append]
    rcases List.mem_cons.1 h with rfl | h
    · exact .inl hn
    · exact .inr (weightsAll_mem h n hn)
theorem open_ops {a : Option Addr} {len cap : Nat} {d : DataW H} {p : List MemPlace} (h : DataW.Trod enc Try.prog W 0 (fun _ => true) true 23 (.slice a len cap) d p) (hw : ∀ n ∈ d.weights Try.prog 23, n ≤ reachBytes) :
    ∃ l : List OpM, len = l.length ∧ Ops W a l ∧ l.length ≤ 140737488351232 := by
  obtain ⟨fuel, hf⟩ := h
  rcases Go.Deep.open_slice Try.underlying23 hf with ⟨hcs, _⟩ | ⟨a', len', cap', m, n, Df, Pl, hcs, _, hl, hm, hmm, hx, hi⟩
  · simp [Value.cells] at hcs
    obtain ⟨rfl, rfl, rfl⟩ := hcs
    exact ⟨[], rfl, ⟨rfl, by decide, fun h => absurd h (by decide)⟩, by decide⟩
  · simp [Value.cells] at hcs
    obtain ⟨rfl, rfl, rfl⟩ := hcs
    simp only [if_true] at hmm
    injection hx with hx _
    subst hx
    have hb : len ≤ 140737488351232 := by
      have h1 := hw ((((List.range len).map Df).length + ((List.range (m - len)).map fun j => Df (len + j)).length) * Try.prog.bytesOf 37) (by simp [DataW.weights, Try.underlying23])
      rw [bytes37] at h1
      simp only [List.length_map, List.length_range] at h1
      have : reachBytes = 140737488351232 := rfl
      omega
    have each : ∀ i, ∃ o : OpM, i < len → ∃ cs', OpIs W o cs' ∧ cs'.length = 5 ∧ ∀ j u, cs'[j]? = some u → W.cell? (a'.add (i * 5 + j)) = some u := by
      intro i
      by_cases hlt : i < len
      · obtain ⟨cs', h1, h2⟩ := hi i (by omega)
        rw [cells37] at h1
        obtain ⟨_, hcl, hcell⟩ := World.cells?_some h1
        obtain ⟨o, ho⟩ := open_op h2 (fun n hn => hw n (by
          simp only [DataW.weights, Try.underlying23, List.mem_cons, List.mem_append]
          exact .inr (.inl (weightsAll_mem (List.mem_map.2 ⟨i, List.mem_range.2 hlt, rfl⟩) n hn))))
        refine ⟨o, fun _ => ⟨cs', ho, hcl, fun j u hj => ?_⟩⟩
        have hj5 : j < 5 := by
          have := (List.getElem?_eq_some_iff.1 hj).1
          omega
        rw [← Addr.add_add, hcell j hj5, hj]
      · exact ⟨⟨0, 0, 0, [], []⟩, fun h => absurd h hlt⟩
    refine ⟨(List.range len).map (fun i => Classical.choose (each i)), by simp, ⟨rfl, by simp; omega, fun _ => ⟨a', rfl, fun j o hj => ?_⟩⟩, by simpa using hb⟩
    obtain ⟨hj1, rfl⟩ := List.getElem?_eq_some_iff.1 hj
    simp only [List.length_map, List.length_range] at hj1
    obtain ⟨cs', h1, h2, h3⟩ := Classical.choose_spec (each j) hj1
    exact ⟨cs', h2, by simpa using h1, h3⟩
end Go.Proofs.Ytfimeiicidcoiaa.Dk
