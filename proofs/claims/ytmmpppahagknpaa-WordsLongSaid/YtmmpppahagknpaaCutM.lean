/- A text's words, as the program and as the document cut them, are the same plain function of the text. -/
import Derived.Test.YtmmpppahagknpaaKindM
import Derived.Test.YtmmpppahagknpaaPx3
import Derived.Test.YtmmpppahagknpaaPx6
namespace Go.Proofs.Ytmmpppahagknpaa.Pure
open Go.RowKit Go.Proofs.Ytmmpppahagknpaa.P Go.Proofs.YtmmpppahagknpaaW.PrintWords Go.Proofs.YtmmpppahagknpaaW.PrintLast

theorem Byts.drop {l : List Int} (h : Byts l) (n : Nat) : Byts (l.drop n) := fun x hx => h x (List.mem_of_mem_drop hx)
theorem Byts.take {l : List Int} (h : Byts l) (n : Nat) : Byts (l.take n) := fun x hx => h x (List.mem_of_mem_take hx)
theorem w64 {x : Int} (h0 : -1000000000 ≤ x) (h1 : x ≤ 1000000000) : wrap64 x = x := by unfold wrap64; omega
theorem rd_snoc (xs : List Int) (y : Int) : rd (xs ++ [y]) (xs.length : Int) = y := by
  unfold rd; simp [List.getD_eq_getElem?_getD]
theorem rd_app (xs ys : List Int) (i : Int) (h : i.toNat < xs.length) : rd (xs ++ ys) i = rd xs i := by
  unfold rd; simp only [List.getD_eq_getElem?_getD]; rw [List.getElem?_append_left h]

/-- What a run comes to, and the ends of its signs. -/
structure Good (l : List Int) (sz last : Int) (ends : List Int) : Prop where
  s1 : 1 ≤ sz
  s2 : sz ≤ l.length
  e1 : 1 ≤ ends.length
  e2 : (ends.length : Int) ≤ sz
  top : rd ends ((ends.length : Int) - 1) = sz
  two : 2 ≤ ends.length → rd ends ((ends.length : Int) - 2) = last ∧ 0 < last ∧ last < sz
  one : ends.length = 1 → last = 0

theorem kind_nil : kindM [] = (-1, 0) := rfl
theorem run_signs (l : List Int) (hb : Byts l) (hl : l.length ≤ 100000) (kd : Int) (k0 : 0 ≤ kd) : ∀ (d : Nat) (sz last : Int) (ends : List Int), (l.length : Int) - sz ≤ d → Good l sz last ends → ∀ k, d + 14 ≤ k →
    ∃ sz' last' ends', words_run.l0 k l kd sz last (ends.length : Int) (kindM (l.drop sz.toNat)).1 (kindM (l.drop sz.toNat)).2 = some (kd, sz', last') ∧ imprimaturref18_signs.l0 k l kd ends = some (kd, ends') ∧ Good l sz' last' ends' := by
  intro d
  induction d with
  | zero =>
    intro sz last ends hd G k hk
    obtain ⟨k, rfl⟩ : ∃ m, k = m + 1 := ⟨k - 1, by omega⟩
    have hs := G.s2
    have hs1 := G.s1
    have he1 := G.e1
    have he2 := G.e2
    have e : l.drop sz.toNat = [] := List.drop_eq_nil_of_le (by omega)
    refine ⟨sz, last, ends, ?_, ?_, G⟩
    · simp only [words_run.l0]
      rw [e, kind_nil, if_neg (fun h => by have := h.1; omega)]
    · simp only [imprimaturref18_signs.l0]
      by_cases hz : kd = 0
      · rw [if_pos hz]
      · rw [if_neg hz, w64 (by omega) (by omega), if_pos (by omega), if_pos (by omega), G.top, if_pos (by omega), if_pos hs, e, rkind_at [] (by intro x hx; cases hx) (by simp) k (by omega), kind_nil]
        simp only [Option.bind_some]
        rw [if_neg (by omega)]
  | succ d ih =>
    intro sz last ends hd G k hk
    obtain ⟨k, rfl⟩ : ∃ m, k = m + 1 := ⟨k - 1, by omega⟩
    have hs := G.s2
    have hs1 := G.s1
    have he1 := G.e1
    have he2 := G.e2
    have hbd := hb.drop sz.toNat
    have hld : (l.drop sz.toNat).length < 1000000 := by simp; omega
    obtain ⟨kn, n, hkn⟩ : ∃ kn n, kindM (l.drop sz.toNat) = (kn, n) := ⟨_, _, rfl⟩
    by_cases hz : kd = 0
    · refine ⟨sz, last, ends, ?_, ?_, G⟩
      · simp only [words_run.l0]
        rw [if_neg (fun h => h.2.1 hz)]
      · simp only [imprimaturref18_signs.l0]
        rw [if_pos hz]
    · have hsig : ∀ X, imprimaturref18_signs.l0 (k + 1) l kd ends = X ↔ (if kn = kd then (if kd = 2 then (if (ends.length : Int) = 3 then (some (kd, ends)) else (if ends.length < 17592186044416 then (imprimaturref18_signs.l0 k l kd (ends ++ [wrap64 (sz + n)])) else (none))) else (if ends.length < 17592186044416 then (imprimaturref18_signs.l0 k l kd (ends ++ [wrap64 (sz + n)])) else (none))) else (some (kd, ends))) = X := by
        intro X
        simp only [imprimaturref18_signs.l0]
        rw [if_neg hz, w64 (by omega) (by omega), if_pos (by omega), if_pos (by omega), G.top, if_pos (by omega), if_pos hs, rkind_at _ hbd hld k (by omega), hkn]
        simp only [Option.bind_some]
      by_cases hc : kn = kd
      · by_cases h3 : kd = 2 ∧ (ends.length : Int) = 3
        · refine ⟨sz, last, ends, ?_, ?_, G⟩
          · simp only [words_run.l0]
            rw [hkn, if_pos ⟨hc, hz, by omega⟩, if_pos h3]
          · rw [hsig, if_pos hc, if_pos h3.1, if_pos h3.2]
        · have hne : l.drop sz.toNat ≠ [] := by
            intro e
            rw [e, kind_nil] at hkn
            injection hkn with h1 h2
            omega
          have hbnd := kindM_bounds _ hbd hne
          rw [hkn] at hbnd
          obtain ⟨_, _, n1, n2, n4, _⟩ := hbnd
          dsimp only at n1 n2 n4
          have hlen : ((l.drop sz.toNat).length : Int) = (l.length : Int) - sz := by simp; omega
          have ew : wrap64 (sz + n) = sz + n := w64 (by omega) (by omega)
          have ew2 : wrap64 ((ends.length : Int) + 1) = ((ends ++ [sz + n]).length : Int) := by rw [w64 (by omega) (by omega)]; simp
          have G' : Good l (sz + n) sz (ends ++ [sz + n]) := by
            have hL : (ends ++ [sz + n]).length = ends.length + 1 := by simp
            refine ⟨by omega, by omega, by omega, by rw [hL]; omega, ?_, ?_, ?_⟩
            · rw [hL, show (((ends.length + 1 : Nat) : Int) - 1) = (ends.length : Int) by omega]; exact rd_snoc _ _
            · intro _
              rw [hL, show (((ends.length + 1 : Nat) : Int) - 2) = (ends.length : Int) - 1 by omega, rd_app _ _ _ (by omega)]
              exact ⟨G.top, by omega, by omega⟩
            · intro h; omega
          obtain ⟨sz', last', ends', r1, r2, r3⟩ := ih (sz + n) sz (ends ++ [sz + n]) (by omega) G' k (by omega)
          refine ⟨sz', last', ends', ?_, ?_, r3⟩
          · simp only [words_run.l0]
            rw [hkn, if_pos ⟨hc, hz, by omega⟩, if_neg h3, ew, if_pos ⟨by omega, by omega⟩, kind_at _ (hb.drop _) (by simp; omega) k (by omega)]
            simp only [Option.bind_some]
            rw [ew2]
            exact r1
          · rw [hsig, if_pos hc, ew]
            by_cases h2 : kd = 2
            · rw [if_pos h2, if_neg (fun h => h3 ⟨h2, h⟩), if_pos (by omega)]; exact r2
            · rw [if_neg h2, if_pos (by omega)]; exact r2
      · refine ⟨sz, last, ends, ?_, ?_, G⟩
        · simp only [words_run.l0]
          rw [hkn, if_neg (fun h => hc h.1)]
        · rw [hsig, if_neg hc]

theorem run_both (l : List Int) (hb : Byts l) (hl : l.length ≤ 100000) (hne : l ≠ []) (k : Nat) (hk : l.length + 15 ≤ k) :
    ∃ sz last ends, words_run.f k l = some ((kindM l).1, sz, last) ∧ imprimaturref18_signs.f k l = some ((kindM l).1, ends) ∧ Good l sz last ends := by
  have hbnd := kindM_bounds l hb hne
  obtain ⟨kd, n, hkn⟩ : ∃ kd n, kindM l = (kd, n) := ⟨_, _, rfl⟩
  rw [hkn] at hbnd ⊢
  obtain ⟨b1, b2, b3, b4, b5, b6⟩ := hbnd
  dsimp only at b1 b2 b3 b4 b5 b6 ⊢
  have G : Good l n 0 [n] := ⟨b3, b4, by simp, by simp; omega, by simp [rd], by intro h; simp at h, fun _ => rfl⟩
  obtain ⟨sz', last', ends', r1, r2, r3⟩ := run_signs l hb hl kd b1 l.length n 0 [n] (by omega) G k (by omega)
  refine ⟨sz', last', ends', ?_, ?_, r3⟩
  · unfold words_run.f
    rw [kind_at l hb (by omega) k (by omega), hkn]
    simp only [Option.bind_some]
    rw [if_pos ⟨by omega, b4⟩, kind_at _ (hb.drop _) (by simp; omega) k (by omega)]
    simp only [Option.bind_some]
    exact r1
  · unfold imprimaturref18_signs.f
    rw [rkind_at l hb (by omega) k (by omega), hkn]
    simp only [Option.bind_some]
    rw [if_neg (by omega)]
    exact r2

def solidM (l : List Int) : Bool := (kindM l).1 == 1 || (kindM l).1 == 2 || (kindM l).1 == 4
theorem solid_eq (l : List Int) (hb : Byts l) (hl : l.length ≤ 100000) (k : Nat) (hk : 12 ≤ k) : words_solid.f k l = some (solidM l) := by
  unfold words_solid.f solidM
  rw [kind_at l hb (by omega) k hk]
  simp only [Option.bind_some]
  by_cases h1 : (kindM l).1 = 1
  · rw [if_pos h1]; simp [h1]
  · rw [if_neg h1]
    by_cases h2 : (kindM l).1 = 2
    · rw [if_pos h2]; simp [h2]
    · rw [if_neg h2]; simp [h1, h2]
theorem rsolid_eq (l : List Int) (hb : Byts l) (hl : l.length ≤ 100000) (k : Nat) (hk : 12 ≤ k) : imprimaturref18_solid.f k l = some (solidM l) := by
  unfold imprimaturref18_solid.f solidM
  rw [rkind_at l hb (by omega) k hk]
  simp only [Option.bind_some]
  by_cases h1 : (kindM l).1 = 1
  · rw [if_pos h1]; simp [h1]
  · rw [if_neg h1]
    by_cases h2 : (kindM l).1 = 2
    · rw [if_pos h2]; simp [h2]
    · rw [if_neg h2]; simp [h1, h2]
theorem solid_ne {l : List Int} (h : solidM l = true) : l ≠ [] := by
  rintro rfl
  simp [solidM, kind_nil] at h

/-- The word at a text's beginning: one number for both. -/
theorem word_both (l : List Int) (hb : Byts l) (hl : l.length ≤ 100000) (hne : l ≠ []) :
    ∃ n : Nat, 1 ≤ n ∧ n ≤ l.length ∧ ∀ k, l.length + 20 ≤ k → words_word.f k l = some (n : Int) ∧ imprimaturref18_Word.f k l = some (n : Int) := by
  have hpos : 0 < l.length := List.length_pos_iff.2 hne
  suffices h : ∃ n : Nat, 1 ≤ n ∧ n ≤ l.length ∧ words_word.f (l.length + 20) l = some (n : Int) ∧ imprimaturref18_Word.f (l.length + 20) l = some (n : Int) by
    obtain ⟨n, h1, h2, h3, h4⟩ := h
    exact ⟨n, h1, h2, fun k hk => ⟨up (words_word.mono l) h3 k hk, up (imprimaturref18_Word.mono l) h4 k hk⟩⟩
  generalize hK : l.length + 20 = K
  obtain ⟨K, rfl⟩ : ∃ m, K = m + 1 := ⟨K - 1, by omega⟩
  by_cases h32 : rd l 0 = 32 ∧ solidM (l.drop 1) = true
  · have hnd := solid_ne h32.2
    have hbd := hb.drop 1
    obtain ⟨sz, last, ends, r1, r2, G⟩ := run_both (l.drop 1) hbd (by simp; omega) hnd K (by simp; omega)
    have hs1 := G.s1
    have hs2 := G.s2
    have he1 := G.e1
    have he2 := G.e2
    have hdl : ((l.drop 1).length : Int) = (l.length : Int) - 1 := by simp; omega
    have ew : wrap64 (1 + sz) = 1 + sz := w64 (by omega) (by omega)
    refine ⟨(1 + sz).toNat, by omega, by omega, ?_, ?_⟩
    · unfold words_word.f
      rw [if_pos (by omega), if_pos h32.1, if_pos (by omega), solid_eq _ hbd (by simp; omega) _ (by omega), h32.2]
      simp only [Option.bind_some, words_word.j0, if_true]
      rw [if_pos (by omega), r1]
      simp only [Option.bind_some]
      rw [ew]; congr 1; omega
    · unfold imprimaturref18_Word.f
      rw [if_pos (by omega), if_pos h32.1, if_pos (by omega), rsolid_eq _ hbd (by simp; omega) _ (by omega), h32.2]
      simp only [Option.bind_some, imprimaturref18_Word.j0, if_true]
      rw [if_pos (by omega), r2]
      simp only [Option.bind_some]
      rw [w64 (x := (ends.length : Int) - 1) (by omega) (by omega), if_pos (by omega), if_pos (by omega), G.top, ew]; congr 1; omega
  · obtain ⟨sz, last, ends, r1, r2, G⟩ := run_both l hb hl hne K (by omega)
    have hs1 := G.s1
    have hs2 := G.s2
    have he1 := G.e1
    have he2 := G.e2
    have hW : words_word.f (K + 1) l = words_word.j0 (K + 1) l false := by
      unfold words_word.f
      rw [if_pos (by omega)]
      by_cases h1 : rd l 0 = 32
      · rw [if_pos h1, if_pos (by omega), solid_eq _ (hb.drop 1) (by simp; omega) _ (by omega)]
        simp only [Option.bind_some]
        rw [show solidM (l.drop 1) = false by cases h : solidM (l.drop 1) with
          | false => rfl
          | true => exact absurd ⟨h1, h⟩ h32]
      · rw [if_neg h1]
    have hR : imprimaturref18_Word.f (K + 1) l = imprimaturref18_Word.j0 (K + 1) l false := by
      unfold imprimaturref18_Word.f
      rw [if_pos (by omega)]
      by_cases h1 : rd l 0 = 32
      · rw [if_pos h1, if_pos (by omega), rsolid_eq _ (hb.drop 1) (by simp; omega) _ (by omega)]
        simp only [Option.bind_some]
        rw [show solidM (l.drop 1) = false by cases h : solidM (l.drop 1) with
          | false => rfl
          | true => exact absurd ⟨h1, h⟩ h32]
      · rw [if_neg h1]
    have e1 : wrap64 ((ends.length : Int) - 1) = (ends.length : Int) - 1 := w64 (by omega) (by omega)
    have e2 : wrap64 ((ends.length : Int) - 2) = (ends.length : Int) - 2 := w64 (by omega) (by omega)
    rw [hW, hR]
    simp only [words_word.j0, imprimaturref18_Word.j0]
    rw [if_neg (by decide), if_neg (by decide), r1, r2]
    simp only [Option.bind_some]
    rw [e1, e2, G.top]
    by_cases hk3 : (kindM l).1 = 3
    · rw [if_pos hk3, if_pos hk3]
      by_cases hl2 : 2 ≤ ends.length
      · obtain ⟨t1, t2, t3⟩ := G.two hl2
        rw [t1]
        by_cases hb32 : rd l last = 32
        · by_cases hso : solidM (l.drop sz.toNat) = true
          · refine ⟨last.toNat, by omega, by omega, ?_, ?_⟩
            · rw [if_pos (by omega), if_pos (by omega), if_pos (by omega), if_pos hb32, if_pos (by omega), if_pos hs2, solid_eq _ (hb.drop _) (by simp; omega) _ (by omega), hso]
              simp; omega
            · rw [if_pos (by omega), if_pos (by omega), if_pos (by omega), if_pos (by omega), if_pos (by omega), if_pos hb32, if_pos (by omega), if_pos (by omega), if_pos (by omega), if_pos hs2, rsolid_eq _ (hb.drop _) (by simp; omega) _ (by omega), hso]
              simp; omega
          · have hso' : solidM (l.drop sz.toNat) = false := by simpa using hso
            refine ⟨sz.toNat, by omega, by omega, ?_, ?_⟩
            · rw [if_pos (by omega), if_pos (by omega), if_pos (by omega), if_pos hb32, if_pos (by omega), if_pos hs2, solid_eq _ (hb.drop _) (by simp; omega) _ (by omega), hso']
              simp; omega
            · rw [if_pos (by omega), if_pos (by omega), if_pos (by omega), if_pos (by omega), if_pos (by omega), if_pos hb32, if_pos (by omega), if_pos (by omega), if_pos (by omega), if_pos hs2, rsolid_eq _ (hb.drop _) (by simp; omega) _ (by omega), hso']
              simp; omega
        · refine ⟨sz.toNat, by omega, by omega, ?_, ?_⟩
          · rw [if_pos (by omega), if_pos (by omega), if_pos (by omega), if_neg hb32]; congr 1; omega
          · rw [if_pos (by omega), if_pos (by omega), if_pos (by omega), if_pos (by omega), if_pos (by omega), if_neg hb32]
            rw [if_pos (by omega), if_pos (by omega)]; congr 1; omega
      · have hl0 := G.one (by omega)
        refine ⟨sz.toNat, by omega, by omega, ?_, ?_⟩
        · rw [if_neg (by omega)]; congr 1; omega
        · rw [if_neg (by omega)]
          rw [if_pos (by omega), if_pos (by omega)]; congr 1; omega
    · refine ⟨sz.toNat, by omega, by omega, ?_, ?_⟩
      · rw [if_neg hk3]; congr 1; omega
      · rw [if_neg hk3]
        rw [if_pos (by omega), if_pos (by omega)]; congr 1; omega
/-- How many bytes the word at a text's beginning has. -/
def wordN (l : List Int) : Nat := ((words_word.f (l.length + 20) l).getD 0).toNat
theorem wordN_eq (l : List Int) (hb : Byts l) (hl : l.length ≤ 100000) (hne : l ≠ []) : 1 ≤ wordN l ∧ wordN l ≤ l.length ∧ ∀ k, l.length + 20 ≤ k → words_word.f k l = some (wordN l : Int) ∧ imprimaturref18_Word.f k l = some (wordN l : Int) := by
  obtain ⟨n, h1, h2, h3⟩ := word_both l hb hl hne
  have e : wordN l = n := by
    unfold wordN
    rw [(h3 _ (Nat.le_refl _)).1]
    simp
  rw [e]
  exact ⟨h1, h2, h3⟩
/-- A text's words. -/
def cutN : Nat → List Int → List (List Int)
  | 0, _ => []
  | d + 1, l => if l = [] then [] else l.take (wordN l) :: cutN d (l.drop (wordN l))
theorem cut_both : ∀ (d : Nat) (l : List Int) (acc : List (List Int)), Byts l → l.length ≤ d → l.length ≤ 100000 → acc.length + l.length ≤ 100000 → ∀ k, d + 30 ≤ k →
    words_cut.l0 k l acc = some (acc ++ cutN d l) ∧ imprimaturref18_Cut.l0 k l acc = some (acc ++ cutN d l) := by
  intro d
  induction d with
  | zero =>
    intro l acc hb hd hl ha k hk
    obtain ⟨k, rfl⟩ : ∃ m, k = m + 1 := ⟨k - 1, by omega⟩
    obtain rfl : l = [] := List.eq_nil_of_length_eq_zero (by omega)
    simp [words_cut.l0, imprimaturref18_Cut.l0, cutN]
  | succ d ih =>
    intro l acc hb hd hl ha k hk
    obtain ⟨k, rfl⟩ : ∃ m, k = m + 1 := ⟨k - 1, by omega⟩
    by_cases hne : l = []
    · subst hne
      simp [words_cut.l0, imprimaturref18_Cut.l0, cutN]
    · have hpos : 0 < l.length := List.length_pos_iff.2 hne
      obtain ⟨h1, h2, h3⟩ := wordN_eq l hb hl hne
      obtain ⟨h4, h5⟩ := h3 k (by omega)
      have hdl : (l.drop (wordN l)).length = l.length - wordN l := List.length_drop
      obtain ⟨i1, i2⟩ := ih (l.drop (wordN l)) (acc ++ [l.take (wordN l)]) (hb.drop _) (by omega) (by omega) (by simp; omega) k (by omega)
      have hc : cutN (d + 1) l = l.take (wordN l) :: cutN d (l.drop (wordN l)) := by simp [cutN, hne]
      constructor
      · simp only [words_cut.l0]
        rw [if_pos (by omega), h4]
        simp only [Option.bind_some]
        rw [if_pos (by omega), if_pos (by omega), Int.toNat_natCast]
        unfold slices_Clone_byte_byte.f
        rw [if_pos (by simp; omega)]
        simp only [Option.bind_some]
        rw [if_pos (by omega), i1, hc]; simp
      · simp only [imprimaturref18_Cut.l0]
        rw [if_pos (by omega), h5]
        simp only [Option.bind_some]
        rw [if_pos (by omega), if_pos (by omega), Int.toNat_natCast, if_pos (by omega), i2, hc]; simp
def cutM (l : List Int) : List (List Int) := cutN l.length l
theorem Cut_eq (l : List Int) (hb : Byts l) (hl : l.length ≤ 16384) (k : Nat) (hk : l.length + 30 ≤ k) : words_Cut.f k l = some (cutM l, 0) := by
  unfold words_Cut.f words_cut.f
  rw [if_neg (by omega), (cut_both l.length l [] hb (Nat.le_refl _) (by omega) (by simp; omega) k hk).1]
  simp [cutM]
theorem RCut_eq (l : List Int) (hb : Byts l) (hl : l.length ≤ 16384) (k : Nat) (hk : l.length + 30 ≤ k) : imprimaturref18_Cut.f k l = some (cutM l) := by
  unfold imprimaturref18_Cut.f
  rw [(cut_both l.length l [] hb (Nat.le_refl _) (by omega) (by simp; omega) k hk).2]
  simp [cutM]
/-- The words together are the text; none is empty. -/
theorem cutN_whole : ∀ (d : Nat) (l : List Int), Byts l → l.length ≤ d → l.length ≤ 100000 → (cutN d l).flatten = l ∧ (∀ w ∈ cutN d l, 1 ≤ w.length) ∧ (cutN d l).length ≤ l.length := by
  intro d
  induction d with
  | zero =>
    intro l hb hd hl
    obtain rfl : l = [] := List.eq_nil_of_length_eq_zero (by omega)
    simp [cutN]
  | succ d ih =>
    intro l hb hd hl
    by_cases hne : l = []
    · subst hne; simp [cutN]
    · obtain ⟨h1, h2, h3⟩ := wordN_eq l hb hl hne
      have hdl : (l.drop (wordN l)).length = l.length - wordN l := List.length_drop
      obtain ⟨i1, i2, i3⟩ := ih (l.drop (wordN l)) (hb.drop _) (by omega) (by omega)
      have hc : cutN (d + 1) l = l.take (wordN l) :: cutN d (l.drop (wordN l)) := by simp [cutN, hne]
      rw [hc]
      refine ⟨by rw [List.flatten_cons, i1, List.take_append_drop], ?_, by simp; omega⟩
      intro w hw
      rcases List.mem_cons.1 hw with rfl | hw
      · simp; omega
      · exact i2 w hw
theorem cutM_whole (l : List Int) (hb : Byts l) (hl : l.length ≤ 100000) : (cutM l).flatten = l ∧ (∀ w ∈ cutM l, 1 ≤ w.length) ∧ (cutM l).length ≤ l.length := cutN_whole l.length l hb (Nat.le_refl _) hl
theorem Same_refl (L : List (List Int)) (hL : L.length ≤ 100000) : ∀ (d i : Nat), L.length - i ≤ d → i ≤ L.length → ∀ k, d + 2 ≤ k → imprimaturref06_Same.l0 k L L i = some true := by
  intro d
  induction d with
  | zero =>
    intro i hd hi k hk
    obtain ⟨k, rfl⟩ : ∃ m, k = m + 1 := ⟨k - 1, by omega⟩
    simp only [imprimaturref06_Same.l0]
    rw [if_neg (by omega)]
  | succ d ih =>
    intro i hd hi k hk
    obtain ⟨k, rfl⟩ : ∃ m, k = m + 1 := ⟨k - 1, by omega⟩
    simp only [imprimaturref06_Same.l0]
    by_cases h : i < L.length
    · rw [if_pos (by omega), if_pos (by omega), if_pos (by omega)]
      rw [if_pos trivial, w64 (by omega) (by omega)]
      have := ih (i + 1) (by omega) (by omega) k (by omega)
      rw [← this]; congr 1
    · rw [if_neg (by omega)]
theorem Same_self (L : List (List Int)) (hL : L.length ≤ 100000) (k : Nat) (hk : L.length + 2 ≤ k) : imprimaturref06_Same.f k L L = some true := by
  unfold imprimaturref06_Same.f
  rw [if_pos rfl]
  exact Same_refl L hL L.length 0 (by omega) (by omega) k hk
theorem byts_of_wf {l : List Int} (h : ∀ x ∈ l, (Lit.int .u8 x).wf = true) : Byts l := fun x hx => by
  have := h x hx
  simp [Lit.wf] at this
  unfold Byt
  simp [IntKind.min, IntKind.max, IntKind.bits, IntKind.signed] at this
  omega
end Go.Proofs.Ytmmpppahagknpaa.Pure
