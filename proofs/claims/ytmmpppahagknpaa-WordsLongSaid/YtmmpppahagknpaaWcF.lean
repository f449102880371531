/- What the laws of Counts call. -/
import Derived.Test.YtmmpppahagknpaaWcE
namespace Go.Proofs.Ytmmpppahagknpaa.Wc
open Go.RowKit Go.Proofs.Ytmmpppahagknpaa.P Go.Proofs.Ytmmpppahagknpaa.Pure Go.Proofs.YtmmpppahagknpaaW.PrintWords Go.Proofs.YtmmpppahagknpaaW.PrintLast Go.Proofs.YtmmpppahagknpaaW.PrintMore
set_option linter.unusedVariables false
set_option linter.unusedSimpArgs false
set_option maxRecDepth 30000
theorem w64b {x : Int} (h1 : 0 ≤ x) (h2 : x ≤ 4611686018427387904) : wrap64 x = x := by
  simp only [wrap64]; omega
def to61 (p : Cn) : S61 := ⟨p.1, p.2⟩
def to45 (p : Cn) : S45 := ⟨p.1, p.2⟩
/-! ### The printed functions -/
theorem is_l0 (x : List S45) (hx : x.length ≤ 100000) : ∀ (d i : Nat) (acc : List S61), x.length - i ≤ d → i ≤ x.length → acc.length = i → ∀ k, d + 1 ≤ k → imprimaturlaw18_is.l0 k x acc i = some (acc ++ (x.drop i).map (fun y => (⟨y.f0, y.f1⟩ : S61))) := by
  intro d
  induction d with
  | zero =>
    intro i acc hd hi ha k hk
    obtain ⟨k, rfl⟩ : ∃ m, k = m + 1 := ⟨k - 1, by omega⟩
    simp only [imprimaturlaw18_is.l0]
    rw [if_neg (by omega), List.drop_eq_nil_of_le (by omega)]
    simp
  | succ d ih =>
    intro i acc hd hi ha k hk
    obtain ⟨k, rfl⟩ : ∃ m, k = m + 1 := ⟨k - 1, by omega⟩
    simp only [imprimaturlaw18_is.l0]
    by_cases h : i < x.length
    · rw [if_pos (by omega), if_pos (by omega), if_pos (by omega), w64 (by omega) (by omega)]
      have e : rd_T45 x (i : Int) = x[i] := by unfold rd_T45; rw [Int.toNat_natCast, List.getD_eq_getElem?_getD, List.getElem?_eq_getElem h]; rfl
      have := ih (i + 1) (acc ++ [(⟨x[i].f0, x[i].f1⟩ : S61)]) (by omega) (by omega) (by simp; omega) k (by omega)
      rw [e, show ((i : Int) + 1) = ((i + 1 : Nat) : Int) by omega, this, List.drop_eq_getElem_cons h]
      simp only [List.map_cons, List.append_assoc, List.cons_append, List.nil_append]
    · rw [if_neg (by omega), List.drop_eq_nil_of_le (by omega)]
      simp
theorem is_eq (l : List Cn) (hl : l.length ≤ 100000) (k : Nat) (hk : l.length + 1 ≤ k) : imprimaturlaw18_is.f k (l.map to45) = some (l.map to61) := by
  unfold imprimaturlaw18_is.f
  have := is_l0 (l.map to45) (by simpa using hl) l.length 0 [] (by simp) (Nat.zero_le _) rfl k hk
  rw [show ((0 : Nat) : Int) = 0 from rfl] at this
  rw [this]
  simp [to45, to61, Function.comp_def]
theorem same61_l0 (x : List S61) (hx : x.length ≤ 100000) : ∀ (d i : Nat), x.length - i ≤ d → i ≤ x.length → ∀ k, d + 1 ≤ k → imprimaturref18_Same.l0 k x x i = some true := by
  intro d
  induction d with
  | zero =>
    intro i hd hi k hk
    obtain ⟨k, rfl⟩ : ∃ m, k = m + 1 := ⟨k - 1, by omega⟩
    simp only [imprimaturref18_Same.l0]
    rw [if_neg (by omega)]
  | succ d ih =>
    intro i hd hi k hk
    obtain ⟨k, rfl⟩ : ∃ m, k = m + 1 := ⟨k - 1, by omega⟩
    simp only [imprimaturref18_Same.l0]
    by_cases h : i < x.length
    · rw [if_pos (by omega), if_pos (by omega), if_pos (by omega), if_pos trivial, if_pos trivial, w64 (by omega) (by omega)]
      rw [show ((i : Int) + 1) = ((i + 1 : Nat) : Int) by omega]
      exact ih (i + 1) (by omega) (by omega) k (by omega)
    · rw [if_neg (by omega)]
theorem same61_eq (x : List S61) (hx : x.length ≤ 100000) (k : Nat) (hk : x.length + 1 ≤ k) : imprimaturref18_Same.f k x x = some true := by
  unfold imprimaturref18_Same.f
  rw [if_pos rfl]
  exact same61_l0 x hx x.length 0 (by omega) (Nat.zero_le _) k hk
theorem size_l0 (T : List (List Int)) (hT : T.length ≤ 140737488355328) (hl : ∀ t ∈ T, t.length ≤ 140737488355328) : ∀ (d i n : Nat), T.length - i ≤ d → i ≤ T.length → n = tot (T.take i) + i → n ≤ 200000000000000 → ∀ k, d + 1 ≤ k → ∃ r : Int, imprimaturref06_Size.l0 k T 1500 n i = some r ∧ (r ≤ 1500 → r = (tot T : Int) + T.length) := by
  intro d
  induction d with
  | zero =>
    intro i n hd hi hn hb k hk
    obtain ⟨k, rfl⟩ : ∃ m, k = m + 1 := ⟨k - 1, by omega⟩
    simp only [imprimaturref06_Size.l0]
    rw [if_neg (by omega)]
    refine ⟨_, rfl, fun _ => ?_⟩
    obtain rfl : i = T.length := by omega
    rw [List.take_length] at hn
    omega
  | succ d ih =>
    intro i n hd hi hn hb k hk
    obtain ⟨k, rfl⟩ : ∃ m, k = m + 1 := ⟨k - 1, by omega⟩
    simp only [imprimaturref06_Size.l0]
    by_cases h : i < T.length
    · rw [if_pos (by omega)]
      by_cases hg : (n : Int) ≤ 1500
      · have e : rd_L1 T (i : Int) = T[i] := by unfold rd_L1; rw [Int.toNat_natCast, List.getD_eq_getElem?_getD, List.getElem?_eq_getElem h]; rfl
        have h1 := hl T[i] (List.getElem_mem h)
        rw [if_pos hg, if_pos (by omega), e, w64b (x := (n : Int) + 1) (by omega) (by omega), w64b (x := (n : Int) + 1 + (T[i].length : Int)) (by omega) (by omega), w64b (x := (i : Int) + 1) (by omega) (by omega)]
        have := ih (i + 1) (n + 1 + T[i].length) (by omega) (by omega) (by rw [tot_snoc h]; omega) (by omega) k (by omega)
        rw [show ((n : Int) + 1 + (T[i].length : Int)) = ((n + 1 + T[i].length : Nat) : Int) by omega, show ((i : Int) + 1) = ((i + 1 : Nat) : Int) by omega]
        exact this
      · rw [if_neg hg]
        exact ⟨_, rfl, fun h => absurd h hg⟩
    · rw [if_neg (by omega)]
      refine ⟨_, rfl, fun _ => ?_⟩
      obtain rfl : i = T.length := by omega
      rw [List.take_length] at hn
      omega
/-! ### Rows of counts as the law compares them -/
section
variable {w w1 w2 W w' : World} {Z : Nat → Prop} {v v1 v2 : Value} {cs : List CE} {l : List Cn} {A : Option Addr} {c : Nat} {T : List (List Int)}
theorem Ct.get {e : TypeId} (h : Ct w w1 e Z v cs l) {α : Type} (d : Kd α) (hd : d.sz = 2) (f : Cn → α) (hK : ∀ x : CE, Kd.C (Kd.int .u8) w1 x.A x.b.length x.b → x.b.length ≤ x.c → d.K w1 (f x.pr) x.enc) : ∃ A c, v = .slice A l.length c ∧ l.length ≤ c ∧ Kd.C d w1 A l.length (l.map f) := by
  obtain ⟨A, c, rfl, hc, hC⟩ := h.C
  have hl := h.len
  rw [hl] at hc hC
  refine ⟨A, c, by rw [hl], hc, by rw [List.length_map], ?_, fun hp => ?_⟩
  · exact hC.2.1
  · obtain ⟨ad, ha, hx⟩ := hC.2.2 hp
    refine ⟨ad, ha, fun j p hj => ?_⟩
    rw [← h.pr, List.map_map, List.getElem?_map] at hj
    obtain ⟨x, hx1, rfl⟩ := Option.map_eq_some_iff.1 hj
    obtain ⟨cl, h1, h2, h3⟩ := hx j x hx1
    have h2' : cl = x.enc := h2
    subst h2'
    have hv := Kd.V_reads' (h.el x (List.mem_of_getElem? hx1))
    refine ⟨x.enc, by rw [hd]; rfl, hK x hv.2.2 hv.2.1, fun i u hi => ?_⟩
    rw [hd]
    exact h3 i u hi
def R61 (W : World) (v : Value) (l : List Cn) : Prop := ∃ A c, v = .slice A l.length c ∧ l.length ≤ c ∧ Kd.C k61 W A l.length (l.map to61)
theorem R61.below (h : R61 w v l) (hb : Below w.heap.size w w') : R61 w' v l := by
  obtain ⟨A, c, h1, h2, h3⟩ := h
  exact ⟨A, c, h1, h2, Kd.C_below h3 hb⟩
theorem Ct.r61 (h : Ct w w1 61 Z v cs l) : R61 w1 v l := h.get k61 rfl to61 (fun x h1 h2 => k61_mk w1 (to61 x.pr) h2 h1)
theorem Ct.r45 (h : Ct w w1 45 Z v cs l) : ∃ A c, v = .slice A l.length c ∧ l.length ≤ c ∧ Kd.C k45 w1 A l.length (l.map to45) := h.get k45 rfl to45 (fun x h1 h2 => k45_mk w1 (to45 x.pr) h2 h1)
theorem c_is (h : Ct w w1 45 Z v cs l) (hl : l.length ≤ 100000) : Calls Try.prog 24 #[v] w1 fun e w' => ∃ v', e = .returned v' ∧ R61 w' v' l ∧ Below w1.heap.size w1 w' := by
  obtain ⟨A, c, rfl, hc, hC⟩ := h.r45
  have hlm : (l.map to45).length = l.length := List.length_map _
  have := imprimaturlaw18_is.calls (l.length + 1) (fun k => k < w1.heap.size) A c (l.map to45) (l.map to61) w1 (Kd.V_mk (by rw [hlm]; exact hc) (C_came k45_heap (by rw [hlm]; exact hC))) (is_eq l hl _ (Nat.le_refl _))
  rw [hlm] at this
  refine this.mono ?_
  rintro e w' ⟨v', rfl, hN, hb⟩
  obtain ⟨A', c', rfl, hc', hC'⟩ := Kd.N_reads hN
  rw [List.length_map] at hc' hC'
  exact ⟨_, rfl, ⟨A', c', by rw [List.length_map], hc', hC'⟩, hb⟩
theorem c_ref (hT : Kd.C (Kd.slice 5 (Kd.int .u8)) w A T.length T) (hc : T.length ≤ c) (hB : ∀ t ∈ T, Byts t) (hs : T.length + tot T ≤ 16384) :
    Calls Try.prog 25 #[.slice A T.length c] w fun e w' => ∃ v, e = .returned v ∧ R61 w' v (countsR (wordsOf T)) ∧ Below w.heap.size w w' := by
  refine (rCounts_calls A c T hT hc hB (fun t ht => by have := tot_mem ht; omega) (by have := wordsOf_tot hB (by omega); omega) (by omega)).mono ?_
  rintro e w' ⟨v, cs, Z, rfl, hct⟩
  exact ⟨v, rfl, hct.r61, hct.b⟩
theorem c_same (h1 : R61 w v1 l) (h2 : R61 w v2 l) (hl : l.length ≤ 100000) : Calls Try.prog 23 #[v1, v2] w fun e w' => e = .returned (.bool true) ∧ Drawn0 w w' := by
  obtain ⟨A, c, rfl, hc, hC⟩ := h1
  obtain ⟨A2, c2, rfl, hc2, hC2⟩ := h2
  have hlm : (l.map to61).length = l.length := List.length_map _
  have := imprimaturref18_Same.calls (l.length + 1) A c (l.map to61) A2 c2 (l.map to61) true w (by rw [hlm]; exact hC) (by rw [hlm]; exact hc) (by rw [hlm]; exact hC2) (by rw [hlm]; exact hc2) (same61_eq _ (by rw [hlm]; exact hl) _ (by rw [hlm]; exact Nat.le_refl _))
  rwa [hlm] at this
theorem c_much (hT : Kd.C (Kd.slice 5 (Kd.int .u8)) w A T.length T) (hc : T.length ≤ c) (hTl : T.length ≤ 140737488355328) (hl : ∀ t ∈ T, t.length ≤ 140737488355328) :
    ∃ b : Bool, (b = false → T.length + tot T ≤ 1500) ∧ Calls Try.prog 21 #[.slice A T.length c] w fun e w' => e = .returned (.bool b) ∧ Drawn0 w w' := by
  obtain ⟨r, h1, h2⟩ := size_l0 T hTl hl T.length 0 0 (by omega) (Nat.zero_le _) (by simp [tot]) (by omega) (T.length + 1) (Nat.le_refl _)
  have hf : imprimaturlaw18_much.f (T.length + 1) T = some (decide (r > 1500)) := by
    unfold imprimaturlaw18_much.f imprimaturref06_Size.f
    rw [show ((0 : Nat) : Int) = 0 from rfl] at h1
    rw [h1]
    rfl
  refine ⟨_, fun hb => ?_, imprimaturlaw18_much.calls _ A c T _ w hT hc hf⟩
  have : ¬ r > 1500 := by simpa using hb
  have := h2 (by omega)
  omega
theorem c_known : Calls Try.prog 12 #[] w fun e w' => e = .returned (.bool true) ∧ Below w.heap.size w w' := imprimaturlaw18_known.calls true w rfl
end
end Go.Proofs.Ytmmpppahagknpaa.Wc
