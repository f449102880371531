/- Counts of words, in plain Lean: the reference's insertion and the program's order of first meeting hold the same. -/
import Derived.Test.YtmmpppahagknpaaCutM
import Derived.Lib.Bytealg
import Derived.Laws.Strings
import Derived.Shelf.SlSortCmp.WholeK
namespace Go.Proofs.Ytmmpppahagknpaa.Wc
set_option linter.unusedVariables false
set_option linter.unusedSimpArgs false
set_option maxRecDepth 30000
/-- Words in their order. -/
def ltB : List Int → List Int → Bool
  | [], [] => false
  | [], _ :: _ => true
  | _ :: _, [] => false
  | a :: x, b :: y => if a < b then true else if b < a then false else ltB x y
theorem ltB_irrefl : ∀ x, ltB x x = false
  | [] => rfl
  | a :: x => by rw [ltB, if_neg (Int.lt_irrefl a), if_neg (Int.lt_irrefl a)]; exact ltB_irrefl x
theorem ltB_trans : ∀ x y z, ltB x y = true → ltB y z = true → ltB x z = true
  | [], [], _, h, _ => by simp [ltB] at h
  | [], _ :: _, [], _, h => by simp [ltB] at h
  | [], _ :: _, _ :: _, _, _ => rfl
  | _ :: _, [], _, h, _ => by simp [ltB] at h
  | _ :: _, _ :: _, [], _, h => by simp [ltB] at h
  | a :: x, b :: y, c :: z, h1, h2 => by
    rw [ltB] at h1 h2 ⊢
    by_cases hab : a < b
    · by_cases hbc : b < c
      · rw [if_pos (by omega)]
      · rw [if_neg hbc] at h2
        by_cases hcb : c < b
        · rw [if_pos hcb] at h2; cases h2
        · rw [if_pos (by omega)]
    · rw [if_neg hab] at h1
      by_cases hba : b < a
      · rw [if_pos hba] at h1; cases h1
      · rw [if_neg hba] at h1
        by_cases hbc : b < c
        · rw [if_pos (by omega)]
        · rw [if_neg hbc] at h2
          by_cases hcb : c < b
          · rw [if_pos hcb] at h2; cases h2
          · rw [if_neg hcb] at h2
            rw [if_neg (by omega), if_neg (by omega)]
            exact ltB_trans x y z h1 h2
theorem ltB_tri : ∀ x y, ltB x y = false → ltB y x = false → x = y
  | [], [], _, _ => rfl
  | [], _ :: _, h, _ => by simp [ltB] at h
  | _ :: _, [], _, h => by simp [ltB] at h
  | a :: x, b :: y, h1, h2 => by
    rw [ltB] at h1 h2
    by_cases hab : a < b
    · rw [if_pos hab] at h1; cases h1
    · rw [if_neg hab] at h1
      by_cases hba : b < a
      · rw [if_pos hba] at h2; cases h2
      · rw [if_neg hba] at h1
        rw [if_neg hba, if_neg hab] at h2
        rw [show a = b by omega, ltB_tri x y h1 h2]
theorem ltB_asymm (x y : List Int) (h : ltB x y = true) : ltB y x = false := by
  cases h2 : ltB y x with
  | false => rfl
  | true => exact (ltB_trans x y x h h2).symm.trans (ltB_irrefl x)
/-- What Compare tells. -/
def cmpB (x y : List Int) : Int := if ltB x y = true then -1 else if x = y then 0 else 1
/-! ### The fold -/
abbrev Cn := List Int × Int
def bump (x : List Int) (p : Cn) : Cn := if p.1 = x then (p.1, p.2 + 1) else p
/-- The reference's way. -/
def insR (x : List Int) : List Cn → List Cn
  | [] => [(x, 1)]
  | p :: l => if ltB p.1 x = true then p :: insR x l else if p.1 = x then (p.1, p.2 + 1) :: l else (x, 1) :: p :: l
def countsR (ws : List (List Int)) : List Cn := ws.foldl (fun a x => insR x a) []
/-- The program's way. -/
def addP (x : List Int) (l : List Cn) : List Cn := if x ∈ l.map (·.1) then l.map (bump x) else l ++ [(x, 1)]
def countsP (ws : List (List Int)) : List Cn := ws.foldl (fun a x => addP x a) []
def Rising (l : List Cn) : Prop := l.Pairwise (fun p q => ltB p.1 q.1 = true)
theorem bump_key (x : List Int) (p : Cn) : (bump x p).1 = p.1 := by unfold bump; split <;> rfl
theorem bump_keys (x : List Int) (l : List Cn) : (l.map (bump x)).map (·.1) = l.map (·.1) := by
  rw [List.map_map]
  exact List.map_congr_left fun p _ => bump_key x p
theorem bump_other {x : List Int} {l : List Cn} (h : x ∉ l.map (·.1)) : l.map (bump x) = l := by
  conv => rhs; rw [← List.map_id l]
  refine List.map_congr_left fun p hp => ?_
  unfold bump
  rw [if_neg (fun e => h (List.mem_map.2 ⟨p, hp, e⟩))]
  rfl
theorem not_key {x : List Int} {l : List Cn} (h : ∀ p ∈ l, ltB x p.1 = true) : x ∉ l.map (·.1) := fun hx => by
  obtain ⟨p, hp, e⟩ := List.mem_map.1 hx
  have := h p hp
  rw [e, ltB_irrefl] at this
  cases this
/-- The reference's insertion into a rising list: a word that is there is counted, another one is put between. -/
theorem insR_is (x : List Int) : ∀ l, Rising l → (x ∈ l.map (·.1) → insR x l = l.map (bump x)) ∧ (x ∉ l.map (·.1) → (insR x l).Perm ((x, 1) :: l)) ∧ Rising (insR x l) ∧ ∀ p ∈ insR x l, p.1 = x ∨ p.1 ∈ l.map (·.1)
  | [], _ => ⟨fun h => by simp at h, fun _ => List.Perm.refl _, by simp [insR, Rising], fun p hp => by simp [insR] at hp; exact .inl (by rw [hp])⟩
  | p :: l, hr => by
    have hr' := List.pairwise_cons.1 hr
    obtain ⟨i1, i2, i3, i4⟩ := insR_is x l hr'.2
    unfold insR
    by_cases h1 : ltB p.1 x = true
    · have hne : p.1 ≠ x := fun e => by rw [e, ltB_irrefl] at h1; cases h1
      rw [if_pos h1]
      refine ⟨fun hx => ?_, fun hx => ?_, List.pairwise_cons.2 ⟨fun q hq => ?_, i3⟩, fun q hq => ?_⟩
      · rw [List.map_cons] at hx
        rcases List.mem_cons.1 hx with h | h
        · exact absurd h.symm hne
        · rw [List.map_cons, i1 h, bump, if_neg hne]
      · rw [List.map_cons] at hx
        exact ((i2 (fun h => hx (List.mem_cons_of_mem _ h))).cons p).trans (List.Perm.swap _ _ _)
      · rcases i4 q hq with h | h
        · rw [h]; exact h1
        · obtain ⟨q', hq', e⟩ := List.mem_map.1 h
          rw [← e]; exact hr'.1 q' hq'
      · rcases List.mem_cons.1 hq with rfl | h
        · exact .inr (by rw [List.map_cons]; exact List.mem_cons_self ..)
        · rcases i4 q h with h | h
          · exact .inl h
          · exact .inr (by rw [List.map_cons]; exact List.mem_cons_of_mem _ h)
    · rw [if_neg h1]
      by_cases h2 : p.1 = x
      · rw [if_pos h2]
        have hn : x ∉ l.map (·.1) := not_key (fun q hq => by rw [← h2]; exact hr'.1 q hq)
        refine ⟨fun _ => ?_, fun hx => ?_, List.pairwise_cons.2 ⟨hr'.1, hr'.2⟩, fun q hq => ?_⟩
        · rw [List.map_cons, bump_other hn, bump, if_pos h2]
        · exact absurd (by rw [List.map_cons, h2]; exact List.mem_cons_self ..) hx
        · rcases List.mem_cons.1 hq with rfl | h
          · exact .inl h2
          · exact .inr (by rw [List.map_cons]; exact List.mem_cons_of_mem _ (List.mem_map.2 ⟨q, h, rfl⟩))
      · rw [if_neg h2]
        have hxp : ltB x p.1 = true := by
          cases hq : ltB x p.1 with
          | true => rfl
          | false => exact absurd (ltB_tri _ _ (by simpa using h1) hq) h2
        refine ⟨fun hx => ?_, fun _ => List.Perm.refl _, List.pairwise_cons.2 ⟨fun q hq => ?_, hr⟩, fun q hq => ?_⟩
        · refine absurd hx (not_key fun q hq => ?_)
          rcases List.mem_cons.1 hq with rfl | h
          · exact hxp
          · exact ltB_trans _ _ _ hxp (hr'.1 q h)
        · rcases List.mem_cons.1 hq with rfl | h
          · exact hxp
          · exact ltB_trans _ _ _ hxp (hr'.1 q h)
        · rcases List.mem_cons.1 hq with rfl | h
          · exact .inl rfl
          · exact .inr (List.mem_map.2 ⟨q, h, rfl⟩)
theorem perm_keys {l m : List Cn} (h : l.Perm m) (x : List Int) : x ∈ l.map (·.1) ↔ x ∈ m.map (·.1) := (h.map _).mem_iff
/-- Both ways hold the same counts. -/
theorem counts_perm (ws : List (List Int)) : ∀ (a b : List Cn), Rising a → a.Perm b → (ws.foldl (fun a x => insR x a) a).Perm (ws.foldl (fun a x => addP x a) b) ∧ Rising (ws.foldl (fun a x => insR x a) a) := by
  induction ws with
  | nil => exact fun a b hr hp => ⟨hp, hr⟩
  | cons x ws ih =>
    intro a b hr hp
    obtain ⟨i1, i2, i3, _⟩ := insR_is x a hr
    rw [List.foldl_cons, List.foldl_cons]
    refine ih _ _ i3 ?_
    unfold addP
    by_cases hx : x ∈ a.map (·.1)
    · rw [i1 hx, if_pos ((perm_keys hp x).1 hx)]
      exact hp.map _
    · rw [if_neg (fun h => hx ((perm_keys hp x).2 h))]
      refine (i2 hx).trans ((hp.cons _).trans ?_)
      exact (List.perm_append_singleton _ _).symm
theorem countsR_rising (ws : List (List Int)) : Rising (countsR ws) := (counts_perm ws [] [] List.Pairwise.nil (List.Perm.refl _)).2
theorem counts_same (ws : List (List Int)) : (countsR ws).Perm (countsP ws) := (counts_perm ws [] [] List.Pairwise.nil (List.Perm.refl _)).1
/-- Two rising lists that hold the same are one. -/
theorem rising_eq : ∀ {a b : List Cn}, Rising a → Rising b → a.Perm b → a = b
  | [], b, _, _, h => (List.nil_perm.1 h).symm
  | p :: a, [], _, _, h => absurd h.symm (by simp)
  | p :: a, q :: b, ha, hb, h => by
    have ha' := List.pairwise_cons.1 ha
    have hb' := List.pairwise_cons.1 hb
    have e : p = q := by
      have h1 := h.subset (List.mem_cons_self ..)
      have h2 := h.symm.subset (List.mem_cons_self ..)
      rcases List.mem_cons.1 h1 with h1 | h1
      · exact h1
      · rcases List.mem_cons.1 h2 with h2 | h2
        · exact h2.symm
        · have x1 := hb'.1 p h1
          have x2 := ha'.1 q h2
          rw [ltB_asymm _ _ x1] at x2
          cases x2
    subst e
    rw [rising_eq ha'.2 hb'.2 (List.Perm.cons_inv h)]
/-- A sorted list of what the program counted is the reference's. -/
theorem nodup_P (ws : List (List Int)) : ((countsP ws).map (·.1)).Nodup := by
  have h := (counts_same ws).map (·.1)
  refine h.nodup_iff.1 ?_
  have hr := countsR_rising ws
  unfold Rising at hr
  rw [List.Nodup, List.pairwise_map]
  refine hr.imp fun {p q} hpq e => ?_
  rw [e, ltB_irrefl] at hpq
  cases hpq
theorem sorted_eq {ws : List (List Int)} {l : List Cn} (hp : l.Perm (countsP ws)) (hs : l.Pairwise (fun p q => ltB q.1 p.1 = false)) : l = countsR ws := by
  refine rising_eq ?_ (countsR_rising ws) (hp.trans (counts_same ws).symm)
  have hn : (l.map (·.1)).Nodup := (hp.map _).nodup_iff.2 (nodup_P ws)
  rw [List.Nodup, List.pairwise_map] at hn
  refine (List.pairwise_and_iff.2 ⟨hs, hn⟩).imp fun {p q} h => ?_
  cases hq : ltB p.1 q.1 with
  | true => rfl
  | false => exact absurd (ltB_tri _ _ hq h.1) h.2
/-! ### How great the counts are -/
theorem insR_bound {N : Int} (x : List Int) : ∀ l : List Cn, (∀ p ∈ l, 1 ≤ p.2 ∧ p.2 ≤ N) → 0 ≤ N → ∀ p ∈ insR x l, 1 ≤ p.2 ∧ p.2 ≤ N + 1
  | [], _, hN, p, hp => by simp [insR] at hp; rw [hp]; constructor <;> simp only <;> omega
  | q :: l, h, hN, p, hp => by
    have hq := h q (List.mem_cons_self ..)
    have hl : ∀ p ∈ l, 1 ≤ p.2 ∧ p.2 ≤ N := fun p hp => h p (List.mem_cons_of_mem _ hp)
    unfold insR at hp
    split at hp
    · rcases List.mem_cons.1 hp with rfl | hp
      · omega
      · exact insR_bound x l hl hN p hp
    · split at hp
      · rcases List.mem_cons.1 hp with rfl | hp
        · simp only; omega
        · have := hl p hp; omega
      · rcases List.mem_cons.1 hp with rfl | hp
        · simp only; omega
        · have := h p hp; omega
theorem countsR_bound (ws : List (List Int)) : ∀ p ∈ countsR ws, 1 ≤ p.2 ∧ p.2 ≤ (ws.length : Int) := by
  have : ∀ (ws : List (List Int)) (a : List Cn) (N : Int), 0 ≤ N → (∀ p ∈ a, 1 ≤ p.2 ∧ p.2 ≤ N) → ∀ p ∈ ws.foldl (fun a x => insR x a) a, 1 ≤ p.2 ∧ p.2 ≤ N + (ws.length : Int) := by
    intro ws
    induction ws with
    | nil => intro a N _ h p hp; have := h p hp; simp only [List.length_nil]; omega
    | cons x ws ih =>
      intro a N hN h p hp
      have := ih _ (N + 1) (by omega) (insR_bound x a h hN) p hp
      simp only [List.length_cons]
      omega
  intro p hp
  have := this ws [] 0 (by decide) (fun p hp => by cases hp) p hp
  omega
theorem countsP_bound (ws : List (List Int)) : ∀ p ∈ countsP ws, 1 ≤ p.2 ∧ p.2 ≤ (ws.length : Int) := fun p hp => countsR_bound ws p ((counts_same ws).symm.subset hp)
theorem countsR_length (ws : List (List Int)) : (countsR ws).length ≤ ws.length := by
  have hi : ∀ (x : List Int) (l : List Cn), (insR x l).length ≤ l.length + 1 := by
    intro x l
    induction l with
    | nil => simp [insR]
    | cons p l ih => unfold insR; split; simp; omega; split <;> simp
  have : ∀ (ws : List (List Int)) (a : List Cn), (ws.foldl (fun a x => insR x a) a).length ≤ a.length + ws.length := by
    intro ws
    induction ws with
    | nil => intro a; simp
    | cons x ws ih => intro a; have := ih (insR x a); have := hi x a; simp only [List.foldl_cons, List.length_cons]; omega
  have h := this ws []
  rw [List.length_nil, Nat.zero_add] at h
  exact h
theorem countsP_length (ws : List (List Int)) : (countsP ws).length ≤ ws.length := by rw [← (counts_same ws).length_eq]; exact countsR_length ws
theorem countsR_snoc (ws : List (List Int)) (x : List Int) : countsR (ws ++ [x]) = insR x (countsR ws) := by simp [countsR]
theorem countsP_snoc (ws : List (List Int)) (x : List Int) : countsP (ws ++ [x]) = addP x (countsP ws) := by simp [countsP]
/-- The reference's scan: the place of a word. -/
theorem insR_at (x : List Int) : ∀ (l : List Cn) (k : Nat), k ≤ l.length → (∀ j, j < k → ltB (l.getD j ([], 0)).1 x = true) → (k < l.length → ltB (l.getD k ([], 0)).1 x = false) →
    insR x l = if k < l.length ∧ (l.getD k ([], 0)).1 = x then l.set k ((l.getD k ([], 0)).1, (l.getD k ([], 0)).2 + 1) else l.take k ++ [(x, 1)] ++ l.drop k
  | [], k, hk, _, _ => by
    obtain rfl : k = 0 := by simpa using hk
    simp [insR]
  | p :: l, 0, _, _, h1 => by
    have h1 := h1 (by simp)
    simp only [List.getD_cons_zero] at h1
    unfold insR
    rw [h1]
    simp only [Bool.false_eq_true, if_false, List.getD_cons_zero, List.length_cons, List.set_cons_zero, List.take_zero, List.drop_zero, List.nil_append, List.singleton_append, Nat.zero_lt_succ, true_and]
  | p :: l, k + 1, hk, h0, h1 => by
    have hp := h0 0 (by omega)
    simp only [List.getD_cons_zero] at hp
    have ih := insR_at x l k (by simpa using hk) (fun j hj => by have := h0 (j + 1) (by omega); simpa using this) (fun hlt => by have := h1 (by simpa using hlt); simpa using this)
    unfold insR
    rw [hp, if_pos rfl, ih]
    simp only [List.getD_cons_succ, List.length_cons, Nat.add_lt_add_iff_right]
    split <;> simp
/-- The program's: a word at the place k is counted there. -/
theorem addP_at {x : List Int} {l : List Cn} (hn : (l.map (·.1)).Nodup) {k : Nat} (hk : k < l.length) (hx : (l.getD k ([], 0)).1 = x) : addP x l = l.set k (x, (l.getD k ([], 0)).2 + 1) := by
  have e : l.getD k ([], 0) = l[k] := by rw [List.getD_eq_getElem?_getD, List.getElem?_eq_getElem hk]; rfl
  rw [e] at hx ⊢
  unfold addP
  rw [if_pos (List.mem_map.2 ⟨l[k], List.getElem_mem hk, hx⟩)]
  refine List.ext_getElem (by simp) fun j h1 h2 => ?_
  rw [List.getElem_map, List.getElem_set]
  unfold bump
  simp only [List.length_map] at h1
  by_cases hj : k = j
  · subst hj
    rw [if_pos hx, if_pos rfl, hx]
  · rw [if_neg hj, if_neg]
    intro e
    have h3 := List.pairwise_iff_getElem.1 hn
    rcases Nat.lt_or_gt_of_ne hj with h | h
    · exact h3 k j (by simpa using hk) (by simpa using h1) h (by simp [hx, e])
    · exact h3 j k (by simpa using h1) (by simpa using hk) h (by simp [hx, e])
theorem addP_new {x : List Int} {l : List Cn} (h : x ∉ l.map (·.1)) : addP x l = l ++ [(x, 1)] := if_neg h
end Go.Proofs.Ytmmpppahagknpaa.Wc
