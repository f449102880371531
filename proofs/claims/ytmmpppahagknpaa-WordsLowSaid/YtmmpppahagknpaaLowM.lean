/- A low text has the same kinds of signs, and so the same words made low. -/
import Derived.Test.YtmmpppahagknpaaCutM
import Derived.Test.YtmmpppahagknpaaPx7
namespace Go.Proofs.Ytmmpppahagknpaa.Pure
open Go.RowKit Go.Proofs.Ytmmpppahagknpaa.P Go.Proofs.YtmmpppahagknpaaW.PrintWords Go.Proofs.YtmmpppahagknpaaW.PrintLast

theorem Low_eq (l : List Int) (hl : l.length ≤ 100000) : words_Low.f l = some (l.map lowB) := if_pos (by omega)
theorem RLow_loop (l : List Int) (hb : Byts l) (hl : l.length ≤ 100000) : ∀ (d i : Nat), l.length - i ≤ d → i ≤ l.length → ∀ k, d + 2 ≤ k → imprimaturref18_Low.l0 k l ((l.take i).map lowB) i = some (l.map lowB) := by
  intro d
  induction d with
  | zero =>
    intro i hd hi k hk
    obtain ⟨k, rfl⟩ : ∃ m, k = m + 1 := ⟨k - 1, by omega⟩
    obtain rfl : i = l.length := by omega
    simp only [imprimaturref18_Low.l0]
    rw [if_neg (by omega), List.take_length]
  | succ d ih =>
    intro i hd hi k hk
    obtain ⟨k, rfl⟩ : ∃ m, k = m + 1 := ⟨k - 1, by omega⟩
    simp only [imprimaturref18_Low.l0]
    by_cases h : i < l.length
    · have hr : rd l (i : Int) = l[i] := by simp [rd, List.getD_eq_getElem?_getD, List.getElem?_eq_getElem h]
      have hby := hb l[i] (List.getElem_mem h)
      unfold Byt at hby
      have ht : (l.take (i + 1)).map lowB = (l.take i).map lowB ++ [lowB l[i]] := by rw [List.take_succ_eq_append_getElem h, List.map_append]; rfl
      have hlen : ((l.take i).map lowB).length < 140737488355328 := by simp; omega
      have := ih (i + 1) (by omega) (by omega) k (by omega)
      rw [ht] at this
      have e : ((i + 1 : Nat) : Int) = (i : Int) + 1 := by omega
      rw [e] at this
      rw [if_pos (by omega), if_pos (by omega), hr, w64 (by omega) (by omega)]
      by_cases h1 : l[i] > 64
      · by_cases h2 : l[i] < 91
        · have e2 : lowB l[i] = (l[i] + 32) % 256 := by unfold lowB; rw [if_pos (by omega)]; omega
          rw [if_pos h1, if_pos h2, if_pos hlen, ← e2]; exact this
        · have e2 : lowB l[i] = l[i] := by unfold lowB; rw [if_neg (by omega)]
          rw [if_pos h1, if_neg h2, if_pos hlen]; rw [e2] at this; exact this
      · have e2 : lowB l[i] = l[i] := by unfold lowB; rw [if_neg (by omega)]
        rw [if_neg h1, if_pos hlen]; rw [e2] at this; exact this
    · obtain rfl : i = l.length := by omega
      rw [if_neg (by omega), List.take_length]
theorem RLow_eq (l : List Int) (hb : Byts l) (hl : l.length ≤ 100000) (k : Nat) (hk : l.length + 2 ≤ k) : imprimaturref18_Low.f k l = some (l.map lowB) := by
  unfold imprimaturref18_Low.f
  have h := RLow_loop l hb hl l.length 0 (by omega) (by omega) k hk
  simpa using h
theorem lowB_byt {x : Int} (h : Byt x) : Byt (lowB x) := by unfold Byt at *; unfold lowB; split <;> omega
theorem low_byts {l : List Int} (h : Byts l) : Byts (l.map lowB) := fun x hx => by
  obtain ⟨y, hy, rfl⟩ := List.mem_map.1 hx
  exact lowB_byt (h y hy)
theorem lowB_idem (x : Int) : lowB (lowB x) = lowB x := by unfold lowB; repeat' split
                                                           all_goals omega
theorem lowB_32 (x : Int) : lowB x = 32 ↔ x = 32 := by unfold lowB; split <;> omega
theorem lowB_high {x : Int} (h : 128 ≤ x) : lowB x = x := by unfold lowB; rw [if_neg (by omega)]
theorem lowK_low (x : Int) (h : x < 128) (h0 : 0 ≤ x) : lowK (lowB x) = lowK x ∧ lowB x < 128 := by
  unfold lowK lowB
  constructor
  · repeat' split
    all_goals omega
  · split <;> omega
theorem cont_low (b : Int) : cont (lowB b) = cont b ∧ (cont b = true → lowB b = b) := by
  unfold cont lowB
  constructor
  · split
    · rw [decide_eq_decide]; omega
    · rfl
  · simp only [decide_eq_true_eq]
    intro h
    rw [if_neg (by omega)]
theorem kind_low : ∀ (l : List Int), Byts l → kindM (l.map lowB) = kindM l
  | [], _ => rfl
  | c :: t, hb => by
    obtain ⟨hc, ht⟩ := byts_cons hb
    unfold Byt at hc
    rw [List.map_cons]
    by_cases h1 : c < 128
    · obtain ⟨e1, e2⟩ := lowK_low c h1 hc.1
      simp only [kindM]
      rw [if_pos e2, if_pos h1, e1]
    · have e : lowB c = c := lowB_high (by omega)
      rw [e]
      simp only [kindM, if_neg h1]
      by_cases h2 : 192 ≤ c ∧ c < 224
      · rw [if_pos h2, if_pos h2]
        match t with
        | [] => rfl
        | b :: _ =>
          simp only [List.map_cons]
          obtain ⟨c1, c2⟩ := cont_low b
          rw [c1]
          by_cases hcb : cont b = true
          · rw [c2 hcb]
          · simp [hcb]
      · rw [if_neg h2, if_neg h2]
        by_cases h3 : 224 ≤ c ∧ c < 240
        · rw [if_pos h3, if_pos h3]
          match t with
          | [] => rfl
          | [_] => rfl
          | b :: b2 :: _ =>
            simp only [List.map_cons]
            obtain ⟨c1, c2⟩ := cont_low b
            obtain ⟨d1, d2⟩ := cont_low b2
            rw [c1, d1]
            by_cases hcb : cont b = true
            · by_cases hcb2 : cont b2 = true
              · rw [c2 hcb, d2 hcb2]
              · simp [hcb2]
            · simp [hcb]
        · rw [if_neg h3, if_neg h3]
          by_cases h4 : 240 ≤ c ∧ c < 248
          · rw [if_pos h4, if_pos h4]
            match t with
            | [] => rfl
            | [_] => rfl
            | [_, _] => rfl
            | b :: b2 :: b3 :: _ =>
              simp only [List.map_cons]
              obtain ⟨c1, c2⟩ := cont_low b
              obtain ⟨d1, d2⟩ := cont_low b2
              obtain ⟨f1, f2⟩ := cont_low b3
              rw [c1, d1, f1]
              by_cases hcb : cont b = true
              · by_cases hcb2 : cont b2 = true
                · by_cases hcb3 : cont b3 = true
                  · rw [c2 hcb, d2 hcb2, f2 hcb3]
                  · simp [hcb3]
                · simp [hcb2]
              · simp [hcb]
          · rw [if_neg h4, if_neg h4]
theorem kind_low_drop (l : List Int) (hb : Byts l) (n : Nat) : kindM ((l.map lowB).drop n) = kindM (l.drop n) := by
  rw [← List.map_drop]; exact kind_low _ (hb.drop n)
theorem rd_low (l : List Int) (i : Int) : rd (l.map lowB) i = lowB (rd l i) := by
  unfold rd
  simp only [List.getD_eq_getElem?_getD, List.getElem?_map]
  cases l[i.toNat]? with
  | none => simp [lowB]
  | some x => rfl
theorem run_low (l : List Int) (hb : Byts l) (hl : l.length ≤ 100000) (kd : Int) (k0 : 0 ≤ kd) : ∀ (d : Nat) (sz last sg : Int), (l.length : Int) - sz ≤ d → 1 ≤ sz → sz ≤ l.length → ∀ k, d + 14 ≤ k →
    words_run.l0 k (l.map lowB) kd sz last sg (kindM (l.drop sz.toNat)).1 (kindM (l.drop sz.toNat)).2 = words_run.l0 k l kd sz last sg (kindM (l.drop sz.toNat)).1 (kindM (l.drop sz.toNat)).2 := by
  intro d
  induction d with
  | zero =>
    intro sz last sg hd h1 h2 k hk
    obtain ⟨k, rfl⟩ : ∃ m, k = m + 1 := ⟨k - 1, by omega⟩
    have e : l.drop sz.toNat = [] := List.drop_eq_nil_of_le (by omega)
    simp only [words_run.l0]
    rw [e, kind_nil, if_neg (fun h => by have := h.1; omega), if_neg (fun h => by have := h.1; omega)]
  | succ d ih =>
    intro sz last sg hd h1 h2 k hk
    obtain ⟨k, rfl⟩ : ∃ m, k = m + 1 := ⟨k - 1, by omega⟩
    simp only [words_run.l0]
    obtain ⟨kn, n, hkn⟩ : ∃ kn n, kindM (l.drop sz.toNat) = (kn, n) := ⟨_, _, rfl⟩
    rw [hkn]
    by_cases hc : kn = kd ∧ kd ≠ 0 ∧ kd ≠ -1
    · rw [if_pos hc, if_pos hc]
      by_cases h3 : kd = 2 ∧ sg = 3
      · rw [if_pos h3, if_pos h3]
      · have hne : l.drop sz.toNat ≠ [] := by
          intro e
          rw [e, kind_nil] at hkn
          injection hkn with h1 h2
          omega
        have hbnd := kindM_bounds _ (hb.drop sz.toNat) hne
        rw [hkn] at hbnd
        obtain ⟨_, _, n1, n2, n4, _⟩ := hbnd
        dsimp only at n1 n2 n4
        have hlen : ((l.drop sz.toNat).length : Int) = (l.length : Int) - sz := by simp; omega
        rw [if_neg h3, if_neg h3, w64 (x := sz + n) (by omega) (by omega), List.length_map]
        rw [if_pos ⟨by omega, by omega⟩, if_pos ⟨by omega, by omega⟩, kind_at _ ((low_byts hb).drop _) (by simp; omega) k (by omega), kind_at _ (hb.drop _) (by simp; omega) k (by omega), kind_low_drop l hb]
        simp only [Option.bind_some]
        exact ih (sz + n) sz (wrap64 (sg + 1)) (by omega) (by omega) (by omega) k (by omega)
    · rw [if_neg hc, if_neg hc]
theorem runf_low (l : List Int) (hb : Byts l) (hl : l.length ≤ 100000) (hne : l ≠ []) (k : Nat) (hk : l.length + 15 ≤ k) : words_run.f k (l.map lowB) = words_run.f k l := by
  have hbnd := kindM_bounds l hb hne
  unfold words_run.f
  rw [kind_at l hb (by omega) k (by omega), kind_at _ (low_byts hb) (by simp; omega) k (by omega), kind_low l hb]
  simp only [Option.bind_some, List.length_map]
  rw [if_pos ⟨by omega, by omega⟩, if_pos ⟨by omega, by omega⟩, kind_at _ (hb.drop _) (by simp; omega) k (by omega), kind_at _ ((low_byts hb).drop _) (by simp; omega) k (by omega), kind_low_drop l hb]
  simp only [Option.bind_some]
  exact run_low l hb hl _ hbnd.1 l.length _ _ _ (by omega) (by omega) (by omega) k (by omega)
theorem solid_low (l : List Int) (hb : Byts l) : solidM (l.map lowB) = solidM l := by unfold solidM; rw [kind_low l hb]
theorem solid_low_drop (l : List Int) (hb : Byts l) (n : Nat) : solidM ((l.map lowB).drop n) = solidM (l.drop n) := by unfold solidM; rw [kind_low_drop l hb]
theorem word_low (l : List Int) (hb : Byts l) (hl : l.length ≤ 100000) (hne : l ≠ []) : wordN (l.map lowB) = wordN l := by
  have hlb := low_byts hb
  have hpos : 0 < l.length := List.length_pos_iff.2 hne
  have hne' : l.map lowB ≠ [] := by simpa using hne
  obtain ⟨_, _, a3⟩ := wordN_eq l hb hl hne
  obtain ⟨_, _, b3⟩ := wordN_eq (l.map lowB) hlb (by simpa using hl) hne'
  obtain ⟨K, hK⟩ : ∃ K, K = l.length + 40 := ⟨_, rfl⟩
  have e1 := (a3 (K + 1) (by omega)).1
  have e2 := (b3 (K + 1) (by simp; omega)).1
  suffices h : words_word.f (K + 1) (l.map lowB) = words_word.f (K + 1) l by
    rw [e1, e2] at h
    injection h with h
    omega
  clear e1 e2 a3 b3
  have hj : ∀ b, (b = true → solidM (l.drop 1) = true) → words_word.j0 (K + 1) (l.map lowB) b = words_word.j0 (K + 1) l b := by
    intro b hbs
    simp only [words_word.j0, List.length_map]
    cases b with
    | true =>
      simp only [if_true]
      rw [← List.map_drop, runf_low (l.drop 1) (hb.drop 1) (by simp; omega) (solid_ne (hbs rfl)) K (by simp; omega)]
    | false =>
      rw [if_neg (by decide), if_neg (by decide), runf_low l hb hl hne K (by omega)]
      obtain ⟨sz, last, ends, r1, _, G⟩ := run_both l hb hl hne K (by omega)
      rw [r1]
      simp only [Option.bind_some]
      have hs1 := G.s1
      have hs2 := G.s2
      rw [solid_eq _ (hlb.drop sz.toNat) (by simp; omega) K (by omega), solid_eq _ (hb.drop sz.toNat) (by simp; omega) K (by omega), solid_low_drop l hb]
      have hr : rd (l.map lowB) last = 32 ↔ rd l last = 32 := by rw [rd_low]; exact lowB_32 _
      simp only [hr]
  have hr0 : rd (l.map lowB) 0 = 32 ↔ rd l 0 = 32 := by rw [rd_low]; exact lowB_32 _
  have hL : 0 < (l.length : Int) := by omega
  unfold words_word.f
  simp only [hr0, List.length_map, if_pos hL]
  by_cases h32 : rd l 0 = 32
  · rw [if_pos h32, if_pos h32, if_pos (by omega), if_pos (by omega), solid_eq _ (hlb.drop 1) (by simp; omega) _ (by omega), solid_eq _ (hb.drop 1) (by simp; omega) _ (by omega), solid_low_drop l hb]
    simp only [Option.bind_some]
    exact hj _ id
  · rw [if_neg h32, if_neg h32]
    exact hj false (fun h => by cases h)
theorem cut_low : ∀ (d : Nat) (l : List Int), Byts l → l.length ≤ d → l.length ≤ 100000 → cutN d (l.map lowB) = (cutN d l).map (List.map lowB) := by
  intro d
  induction d with
  | zero => intro l _ _ _; rfl
  | succ d ih =>
    intro l hb hd hl
    by_cases hne : l = []
    · subst hne; rfl
    · have hne' : l.map lowB ≠ [] := by simpa using hne
      obtain ⟨h1, h2, _⟩ := wordN_eq l hb hl hne
      have hdl : (l.drop (wordN l)).length = l.length - wordN l := List.length_drop
      simp only [cutN, if_neg hne, if_neg hne']
      rw [word_low l hb hl hne, List.map_cons, ← List.map_take, ← List.map_drop, ih _ (hb.drop _) (by omega) (by omega)]
theorem cutM_low (l : List Int) (hb : Byts l) (hl : l.length ≤ 100000) : cutM (l.map lowB) = (cutM l).map (List.map lowB) := by
  unfold cutM
  rw [List.length_map]
  exact cut_low _ l hb (Nat.le_refl _) hl
end Go.Proofs.Ytmmpppahagknpaa.Pure
