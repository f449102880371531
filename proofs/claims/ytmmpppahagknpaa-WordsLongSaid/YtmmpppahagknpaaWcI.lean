/- Counts add up: plain lists. -/
import Derived.Test.YtmmpppahagknpaaWcA
namespace Go.Proofs.Ytmmpppahagknpaa.Wc
set_option linter.unusedVariables false
set_option linter.unusedSimpArgs false
/-- What the law sums: the numbers at a key. -/
def numOf (x : List Int) : List Cn → Int
  | [] => 0
  | p :: l => (if p.1 = x then p.2 else 0) + numOf x l
theorem numOf_append (x : List Int) : ∀ a b : List Cn, numOf x (a ++ b) = numOf x a + numOf x b
  | [], b => by simp [numOf]
  | p :: a, b => by simp only [List.cons_append, numOf, numOf_append x a b]; omega
theorem numOf_snoc (x : List Int) {l : List Cn} {j : Nat} (h : j < l.length) : numOf x (l.take (j + 1)) = numOf x (l.take j) + if l[j].1 = x then l[j].2 else 0 := by
  rw [List.take_succ_eq_append_getElem h, numOf_append]
  simp [numOf]
theorem numOf_insR (x y : List Int) : ∀ l : List Cn, numOf x (insR y l) = numOf x l + if y = x then 1 else 0
  | [] => by simp [insR, numOf]
  | p :: l => by
    unfold insR
    split
    · simp only [numOf, numOf_insR x y l]; omega
    · split
      · rename_i h
        subst h
        simp only [numOf]
        split <;> omega
      · simp only [numOf]; omega
theorem numOf_counts (x : List Int) (ws : List (List Int)) : numOf x (countsR ws) = (ws.count x : Int) := by
  have : ∀ (ws : List (List Int)) (a : List Cn), numOf x (ws.foldl (fun a x => insR x a) a) = numOf x a + (ws.count x : Int) := by
    intro ws
    induction ws with
    | nil => intro a; simp
    | cons y ws ih =>
      intro a
      rw [List.foldl_cons, ih, numOf_insR, List.count_cons]
      by_cases h : y = x
      · simp [h]; omega
      · simp [h]
  have := this ws []
  unfold countsR
  rw [this]
  simp [numOf]
theorem numOf_none {x : List Int} : ∀ {l : List Cn}, (∀ p ∈ l, p.1 ≠ x) → numOf x l = 0
  | [], _ => rfl
  | p :: l, h => by
    rw [numOf, if_neg (h p (List.mem_cons_self ..)), numOf_none (fun q hq => h q (List.mem_cons_of_mem _ hq))]
    rfl
theorem numOf_key {p : Cn} : ∀ {l : List Cn}, Rising l → p ∈ l → numOf p.1 l = p.2
  | [], _, h => by cases h
  | q :: l, hr, h => by
    obtain ⟨hr1, hr2⟩ := List.pairwise_cons.1 hr
    rcases List.mem_cons.1 h with rfl | h
    · rw [numOf, if_pos rfl, numOf_none (fun r hr' e => by
        have := hr1 r hr'
        rw [e, ltB_irrefl] at this
        cases this)]
      omega
    · rw [numOf, if_neg (fun e => by
        have := hr1 p h
        rw [e, ltB_irrefl] at this
        cases this), numOf_key hr2 h]
      omega
theorem mem_counts {ws : List (List Int)} {p : Cn} : p ∈ countsR ws ↔ 1 ≤ p.2 ∧ p.2 = (ws.count p.1 : Int) := by
  constructor
  · intro h
    exact ⟨(countsR_bound ws p h).1, by rw [← numOf_counts, numOf_key (countsR_rising ws) h]⟩
  · rintro ⟨h1, h2⟩
    have hn := numOf_counts p.1 ws
    have : ¬ ∀ q ∈ countsR ws, q.1 ≠ p.1 := fun h => by
      rw [numOf_none h] at hn
      omega
    obtain ⟨q, hq⟩ := Classical.not_forall.1 this
    obtain ⟨hq, he⟩ := Classical.not_imp.1 hq
    have he : q.1 = p.1 := Classical.not_not.1 he
    have hv := numOf_key (countsR_rising ws) hq
    rw [he, hn] at hv
    have : q = p := Prod.ext he (by rw [h2]; exact hv.symm)
    rw [← this]
    exact hq
theorem rising_ext : ∀ {a b : List Cn}, Rising a → Rising b → (∀ p, p ∈ a ↔ p ∈ b) → a = b
  | [], [], _, _, _ => rfl
  | [], q :: b, _, _, h => by have := (h q).2 (List.mem_cons_self ..); cases this
  | p :: a, [], _, _, h => by have := (h p).1 (List.mem_cons_self ..); cases this
  | p :: a, q :: b, ha, hb, h => by
    obtain ⟨a1, a2⟩ := List.pairwise_cons.1 ha
    obtain ⟨b1, b2⟩ := List.pairwise_cons.1 hb
    have e : p = q := by
      rcases List.mem_cons.1 ((h p).1 (List.mem_cons_self ..)) with e | hp
      · exact e
      · rcases List.mem_cons.1 ((h q).2 (List.mem_cons_self ..)) with e | hq
        · exact e.symm
        · have x1 := b1 p hp
          have x2 := a1 q hq
          rw [ltB_asymm _ _ x1] at x2
          cases x2
    subst e
    rw [rising_ext a2 b2 (fun r => ⟨fun hr => by
      rcases List.mem_cons.1 ((h r).1 (List.mem_cons_of_mem _ hr)) with rfl | h'
      · have := a1 r hr
        rw [ltB_irrefl] at this
        cases this
      · exact h', fun hr => by
      rcases List.mem_cons.1 ((h r).2 (List.mem_cons_of_mem _ hr)) with rfl | h'
      · have := b1 r hr
        rw [ltB_irrefl] at this
        cases this
      · exact h'⟩)]
theorem counts_perm_eq {ws vs : List (List Int)} (h : ws.Perm vs) : countsR ws = countsR vs :=
  rising_ext (countsR_rising ws) (countsR_rising vs) (fun p => by rw [mem_counts, mem_counts, h.count_eq])
theorem counts_add {ws vs : List (List Int)} {p : Cn} (h : p ∈ countsR (ws ++ vs)) : numOf p.1 (countsR ws) + numOf p.1 (countsR vs) = p.2 := by
  rw [numOf_counts, numOf_counts, (mem_counts.1 h).2, List.count_append]
  omega
theorem numOf_bound {x : List Int} {N : Int} (h0 : 0 ≤ N) : ∀ {l : List Cn}, (∀ p ∈ l, 1 ≤ p.2 ∧ p.2 ≤ N) → 0 ≤ numOf x l ∧ numOf x l ≤ l.length * N
  | [], _ => by simp [numOf]
  | p :: l, h => by
    have ih := numOf_bound (x := x) h0 (l := l) (fun q hq => h q (List.mem_cons_of_mem _ hq))
    have hp := h p (List.mem_cons_self ..)
    rw [numOf, List.length_cons, Int.natCast_add, Int.add_mul]
    split <;> constructor <;> omega
end Go.Proofs.Ytmmpppahagknpaa.Wc
