/- A text's words have signs of one kind each, as a plain statement. -/
import Derived.Test.YtmmpppahagknpaaCutM
namespace Go.Proofs.Ytmmpppahagknpaa.Pure
open Go.RowKit Go.Proofs.Ytmmpppahagknpaa.P Go.Proofs.YtmmpppahagknpaaW.PrintWords Go.Proofs.YtmmpppahagknpaaW.PrintLast

/-- A sign is told alike, whatever stands behind it. -/
theorem kindM_take (l : List Int) (m : Nat) (h : (kindM l).2 ≤ m) (hm : 1 ≤ m) : kindM (l.take m) = kindM l := by
  obtain ⟨m, rfl⟩ : ∃ k, m = k + 1 := ⟨m - 1, by omega⟩
  match l with
  | [] => simp
  | c :: t =>
    rw [List.take_succ_cons]
    unfold kindM at h ⊢
    by_cases h1 : c < 128
    · simp [h1]
    · by_cases h2 : 192 ≤ c ∧ c < 224
      · simp only [if_neg h1, if_pos h2] at h ⊢
        match t, m with
        | [], _ => simp
        | b :: t', 0 =>
          simp only [List.take_zero]
          by_cases hc : (cont b && okS ((c - 192) * 64 + b % 64) 128) = true
          · simp only [if_pos hc] at h; omega
          · simp only [if_neg hc]
        | b :: t', m + 1 => simp only [List.take_succ_cons]
      · by_cases h3 : 224 ≤ c ∧ c < 240
        · simp only [if_neg h1, if_neg h2, if_pos h3] at h ⊢
          match t, m with
          | [], _ => simp
          | [b], 0 => simp
          | [b], m + 1 => simp
          | b :: b2 :: t', 0 =>
            simp only [List.take_zero]
            by_cases hc : (cont b && cont b2 && okS (((c - 224) * 64 + b % 64) * 64 + b2 % 64) 2048) = true
            · simp only [if_pos hc] at h; omega
            · simp only [if_neg hc]
          | b :: b2 :: t', 1 =>
            simp only [List.take_succ_cons, List.take_zero]
            by_cases hc : (cont b && cont b2 && okS (((c - 224) * 64 + b % 64) * 64 + b2 % 64) 2048) = true
            · simp only [if_pos hc] at h; omega
            · simp only [if_neg hc]
          | b :: b2 :: t', m + 2 => simp only [List.take_succ_cons]
        · by_cases h4 : 240 ≤ c ∧ c < 248
          · simp only [if_neg h1, if_neg h2, if_neg h3, if_pos h4] at h ⊢
            match t, m with
            | [], _ => simp
            | [b], 0 => simp
            | [b], m + 1 => simp
            | [b, b2], 0 => simp
            | [b, b2], 1 => simp
            | [b, b2], m + 2 => simp
            | b :: b2 :: b3 :: t', 0 =>
              simp only [List.take_zero]
              by_cases hc : (cont b && cont b2 && cont b3 && okS ((((c - 240) * 64 + b % 64) * 64 + b2 % 64) * 64 + b3 % 64) 65536) = true
              · simp only [if_pos hc] at h; omega
              · simp only [if_neg hc]
            | b :: b2 :: b3 :: t', 1 =>
              simp only [List.take_succ_cons, List.take_zero]
              by_cases hc : (cont b && cont b2 && cont b3 && okS ((((c - 240) * 64 + b % 64) * 64 + b2 % 64) * 64 + b3 % 64) 65536) = true
              · simp only [if_pos hc] at h; omega
              · simp only [if_neg hc]
            | b :: b2 :: b3 :: t', 2 =>
              simp only [List.take_succ_cons, List.take_zero]
              by_cases hc : (cont b && cont b2 && cont b3 && okS ((((c - 240) * 64 + b % 64) * 64 + b2 % 64) * 64 + b3 % 64) 65536) = true
              · simp only [if_pos hc] at h; omega
              · simp only [if_neg hc]
            | b :: b2 :: b3 :: t', m + 3 => simp only [List.take_succ_cons]
          · simp only [if_neg h1, if_neg h2, if_neg h3, if_neg h4]
/-- So many signs of a kind, from a place of a text to another. -/
def At (kd : Int) (l : List Int) : Nat → Nat → Nat → Prop
  | 0, p, q => p = q
  | c + 1, p, q => ∃ n : Nat, kindM (l.drop p) = (kd, (n : Int)) ∧ 1 ≤ n ∧ p + n ≤ l.length ∧ At kd l c (p + n) q
theorem At.snoc {kd : Int} {l : List Int} {n : Nat} : ∀ (c p q : Nat), At kd l c p q → kindM (l.drop q) = (kd, (n : Int)) → 1 ≤ n → q + n ≤ l.length → At kd l (c + 1) p (q + n)
  | 0, p, q, h, hk, h1, h2 => by
    have h : p = q := h
    subst h
    exact ⟨n, hk, h1, h2, rfl⟩
  | c + 1, p, q, ⟨m, h3, h4, h5, h6⟩, hk, h1, h2 => ⟨m, h3, h4, h5, At.snoc c (p + m) q h6 hk h1 h2⟩
theorem At.le {kd : Int} {l : List Int} : ∀ (c p q : Nat), At kd l c p q → p + c ≤ q
  | 0, p, q, h => by
    have h : p = q := h
    omega
  | c + 1, p, q, ⟨m, _, h4, _, h6⟩ => by
    have := At.le c (p + m) q h6
    omega
/-- A text that is so many signs of a kind. -/
def AllK (kd : Int) : Nat → List Int → Prop
  | 0, w => w = []
  | c + 1, w => w ≠ [] ∧ (kindM w).1 = kd ∧ AllK kd c (w.drop (kindM w).2.toNat)
theorem allK_at {kd : Int} {l : List Int} {q : Nat} (hq : q ≤ l.length) : ∀ (c p : Nat), At kd l c p q → AllK kd c ((l.take q).drop p)
  | 0, p, h => by
    have h : p = q := h
    subst h
    show (l.take p).drop p = []
    rw [List.drop_eq_nil_iff, List.length_take]
    omega
  | c + 1, p, ⟨n, h1, h2, h3, h4⟩ => by
    have hle := At.le c (p + n) q h4
    have e : (l.take q).drop p = (l.drop p).take (q - p) := List.drop_take
    have hk : kindM ((l.take q).drop p) = (kd, (n : Int)) := by
      rw [e, kindM_take _ _ (by rw [h1]; simp only; omega) (by omega), h1]
    refine ⟨?_, by rw [hk], ?_⟩
    · intro h0
      have := congrArg List.length h0
      simp at this
      omega
    · rw [hk, Int.toNat_natCast, List.drop_drop]
      exact allK_at hq c (p + n) h4
structure RunA (l : List Int) (kd sz last : Int) (c : Nat) : Prop where
  s1 : 1 ≤ sz
  s2 : sz ≤ l.length
  at_ : At kd l c 0 sz.toNat
  c1 : 1 ≤ c
  cb : (c : Int) ≤ sz
  c2 : kd = 2 → c ≤ 3
  c0 : kd = 0 → c = 1
  two : 2 ≤ c → At kd l (c - 1) 0 last.toNat ∧ 0 < last ∧ last < sz
  one : c = 1 → last = 0
theorem run_at (l : List Int) (hb : Byts l) (hl : l.length ≤ 100000) (kd : Int) (k0 : 0 ≤ kd) : ∀ (d : Nat) (sz last : Int) (c : Nat), (l.length : Int) - sz ≤ d → RunA l kd sz last c → ∀ k, d + 14 ≤ k →
    ∃ sz' last' c', words_run.l0 k l kd sz last (c : Int) (kindM (l.drop sz.toNat)).1 (kindM (l.drop sz.toNat)).2 = some (kd, sz', last') ∧ RunA l kd sz' last' c' := by
  intro d
  induction d with
  | zero =>
    intro sz last c hd G k hk
    obtain ⟨k, rfl⟩ : ∃ m, k = m + 1 := ⟨k - 1, by omega⟩
    have hs := G.s2
    have hs1 := G.s1
    have e : l.drop sz.toNat = [] := List.drop_eq_nil_of_le (by omega)
    refine ⟨sz, last, c, ?_, G⟩
    simp only [words_run.l0]
    rw [e, kind_nil, if_neg (fun h => by have := h.1; omega)]
  | succ d ih =>
    intro sz last c hd G k hk
    obtain ⟨k, rfl⟩ : ∃ m, k = m + 1 := ⟨k - 1, by omega⟩
    have hs := G.s2
    have hs1 := G.s1
    have hc1 := G.c1
    have hcb := G.cb
    have hbd := hb.drop sz.toNat
    obtain ⟨kn, n, hkn⟩ : ∃ kn n, kindM (l.drop sz.toNat) = (kn, n) := ⟨_, _, rfl⟩
    by_cases hc : kn = kd ∧ kd ≠ 0 ∧ kd ≠ -1
    · by_cases h3 : kd = 2 ∧ (c : Int) = 3
      · refine ⟨sz, last, c, ?_, G⟩
        simp only [words_run.l0]
        rw [hkn, if_pos hc, if_pos h3]
      · have hne : l.drop sz.toNat ≠ [] := by
          intro e
          rw [e, kind_nil] at hkn
          injection hkn with h1 h2
          omega
        have hbnd := kindM_bounds _ hbd hne
        rw [hkn] at hbnd
        obtain ⟨_, _, n1, n2, n4, _⟩ := hbnd
        dsimp only at n1 n2 n4
        have hlen : ((l.drop sz.toNat).length : Int) = (l.length : Int) - sz := by simp; omega
        have ew : wrap64 (sz + n) = sz + n := w64 (by omega) (by omega)
        have ew2 : wrap64 ((c : Int) + 1) = ((c + 1 : Nat) : Int) := by rw [w64 (by omega) (by omega)]; simp
        obtain ⟨n0, rfl⟩ : ∃ m : Nat, n = m := ⟨n.toNat, by omega⟩
        have hkn2 : kindM (l.drop sz.toNat) = (kd, (n0 : Int)) := by rw [hkn, hc.1]
        have eq1 : (sz + (n0 : Int)).toNat = sz.toNat + n0 := by omega
        have G' : RunA l kd (sz + n0) sz (c + 1) := by
          refine ⟨by omega, by omega, by rw [eq1]; exact At.snoc c 0 sz.toNat G.at_ hkn2 (by omega) (by omega), by omega, by omega, fun h => by have := G.c2 h; omega, fun h => absurd h hc.2.1, fun _ => ⟨by simpa using G.at_, by omega, by omega⟩, fun h => by omega⟩
        obtain ⟨sz', last', c', r1, r3⟩ := ih (sz + n0) sz (c + 1) (by omega) G' k (by omega)
        refine ⟨sz', last', c', ?_, r3⟩
        simp only [words_run.l0]
        rw [hkn, if_pos hc, if_neg h3, ew, if_pos ⟨by omega, by omega⟩, kind_at _ (hb.drop _) (by simp; omega) k (by omega)]
        simp only [Option.bind_some]
        rw [ew2]
        exact r1
    · refine ⟨sz, last, c, ?_, G⟩
      simp only [words_run.l0]
      rw [hkn, if_neg hc]
theorem run_one (l : List Int) (hb : Byts l) (hl : l.length ≤ 100000) (hne : l ≠ []) (k : Nat) (hk : l.length + 15 ≤ k) :
    ∃ sz last c, words_run.f k l = some ((kindM l).1, sz, last) ∧ RunA l (kindM l).1 sz last c := by
  have hbnd := kindM_bounds l hb hne
  obtain ⟨kd, n, hkn⟩ : ∃ kd n, kindM l = (kd, n) := ⟨_, _, rfl⟩
  rw [hkn] at hbnd ⊢
  obtain ⟨b1, b2, b3, b4, b5, b6⟩ := hbnd
  dsimp only at b1 b2 b3 b4 b5 b6 ⊢
  obtain ⟨n0, rfl⟩ : ∃ m : Nat, n = m := ⟨n.toNat, by omega⟩
  have G : RunA l kd n0 0 1 := ⟨b3, b4, ⟨n0, by simpa using hkn, by omega, by omega, by simp [At]⟩, by decide, b3, fun _ => by decide, fun _ => rfl, fun h => by omega, fun _ => rfl⟩
  obtain ⟨sz', last', c', r1, r3⟩ := run_at l hb hl kd b1 l.length n0 0 1 (by omega) G k (by omega)
  refine ⟨sz', last', c', ?_, r3⟩
  unfold words_run.f
  rw [kind_at l hb (by omega) k (by omega), hkn]
  simp only [Option.bind_some]
  rw [if_pos ⟨by omega, b4⟩, kind_at _ (hb.drop _) (by simp; omega) k (by omega)]
  simp only [Option.bind_some]
  exact r1
/-- What the law looks at: a word, without a byte 32 ahead of it. -/
def strip (w : List Int) : List Int := if 1 < w.length ∧ rd w 0 = 32 ∧ (kindM (w.drop 1)).1 ≠ 3 then w.drop 1 else w
def One (w : List Int) : Prop := ∃ kd c, AllK kd c (strip w) ∧ 1 ≤ c ∧ (kd = 2 → c ≤ 3) ∧ (kd = 0 → c ≤ 1)
theorem at_first {kd : Int} {l : List Int} {c q : Nat} (h : At kd l c 0 q) (hc : 1 ≤ c) : ∃ n : Nat, kindM l = (kd, (n : Int)) ∧ 1 ≤ n ∧ n ≤ q ∧ At kd l (c - 1) n q := by
  obtain ⟨c, rfl⟩ : ∃ m, c = m + 1 := ⟨c - 1, by omega⟩
  obtain ⟨n, h1, h2, h3, h4⟩ := h
  have := At.le c (0 + n) q h4
  rw [Nat.zero_add] at h4
  exact ⟨n, by simpa using h1, h2, by omega, by simpa using h4⟩
theorem one_plain {kd : Int} {l : List Int} {c q : Nat} (hl : l ≠ []) (h : At kd l c 0 q) (hc : 1 ≤ c) (hq : q ≤ l.length) (h2 : kd = 2 → c ≤ 3) (h0 : kd = 0 → c ≤ 1) : One (l.take q) := by
  have e : strip (l.take q) = l.take q := by
    unfold strip
    rw [if_neg]
    rintro ⟨h1, h32, hk⟩
    obtain ⟨n, k1, k2, k3, k4⟩ := at_first h hc
    match l, hl with
    | a :: t, _ =>
      obtain ⟨q, rfl⟩ : ∃ m, q = m + 1 := ⟨q - 1, by omega⟩
      have ha : a = 32 := by simpa [rd] using h32
      subst ha
      have hk0 : kindM (32 :: t) = (3, 1) := rfl
      rw [hk0] at k1
      injection k1 with e1 e2
      subst e1
      obtain rfl : n = 1 := by omega
      simp only [List.length_take, List.length_cons] at h1
      have hc2 : 1 ≤ c - 1 := by
        rcases Nat.eq_zero_or_pos (c - 1) with hz | hz
        · rw [hz] at k4
          have k4 : 1 = q + 1 := k4
          omega
        · exact hz
      obtain ⟨c', hc'⟩ : ∃ m, c - 1 = m + 1 := ⟨c - 2, by omega⟩
      rw [hc'] at k4
      obtain ⟨n2, m1, m2, m3, m4⟩ := k4
      have := At.le c' (1 + n2) (q + 1) m4
      apply hk
      have e2 : ((32 :: t).take (q + 1)).drop 1 = ((32 :: t).drop 1).take q := by simp
      rw [e2, kindM_take _ _ (by rw [m1]; simp only; omega) (by omega), m1]
  refine ⟨kd, c, ?_, hc, h2, h0⟩
  rw [e]
  simpa using allK_at hq c 0 h
theorem word_one (l : List Int) (hb : Byts l) (hl : l.length ≤ 100000) (hne : l ≠ []) : One (l.take (wordN l)) := by
  have hpos : 0 < l.length := List.length_pos_iff.2 hne
  obtain ⟨_, _, hw⟩ := wordN_eq l hb hl hne
  have hw := (hw (l.length + 20) (Nat.le_refl _)).1
  generalize hK : l.length + 20 = K at hw
  obtain ⟨K, rfl⟩ : ∃ m, K = m + 1 := ⟨K - 1, by omega⟩
  by_cases h32 : rd l 0 = 32 ∧ solidM (l.drop 1) = true
  · have hnd := solid_ne h32.2
    have hbd := hb.drop 1
    obtain ⟨sz, last, c, r1, G⟩ := run_one (l.drop 1) hbd (by simp; omega) hnd K (by simp; omega)
    have hs1 := G.s1
    have hs2 := G.s2
    have hdl : ((l.drop 1).length : Int) = (l.length : Int) - 1 := by simp; omega
    have ew : wrap64 (1 + sz) = 1 + sz := w64 (by omega) (by omega)
    have hn : wordN l = 1 + sz.toNat := by
      unfold words_word.f at hw
      rw [if_pos (by omega), if_pos h32.1, if_pos (by omega), solid_eq _ hbd (by simp; omega) _ (by omega), h32.2] at hw
      simp only [Option.bind_some, words_word.j0, if_true] at hw
      rw [if_pos (by omega), r1] at hw
      simp only [Option.bind_some] at hw
      rw [ew] at hw
      injection hw with hw
      omega
    match l, hne with
    | a :: t, _ =>
      have ha : a = 32 := by simpa [rd] using h32.1
      subst ha
      simp only [List.drop_succ_cons, List.drop_zero] at hnd hbd r1 G hs2 hdl h32
      rw [hn, Nat.add_comm, List.take_succ_cons]
      obtain ⟨n, k1, k2, k3, k4⟩ := at_first G.at_ G.c1
      have hk : kindM (t.take sz.toNat) = kindM t := kindM_take _ _ (by rw [k1]; simp only; omega) (by omega)
      have e : strip (32 :: t.take sz.toNat) = t.take sz.toNat := by
        unfold strip
        rw [if_pos]
        · rfl
        · refine ⟨by simp; omega, rfl, ?_⟩
          show (kindM (t.take sz.toNat)).1 ≠ 3
          rw [hk]
          have := h32.2
          simp only [solidM, Bool.or_eq_true, beq_iff_eq] at this
          omega
      refine ⟨(kindM t).1, c, ?_, G.c1, G.c2, fun h => Nat.le_of_eq (G.c0 h)⟩
      rw [e]
      simpa using allK_at (by omega) c 0 G.at_
  · obtain ⟨sz, last, c, r1, G⟩ := run_one l hb hl hne K (by omega)
    have hs1 := G.s1
    have hs2 := G.s2
    have hW : words_word.f (K + 1) l = words_word.j0 (K + 1) l false := by
      unfold words_word.f
      rw [if_pos (by omega)]
      by_cases h1 : rd l 0 = 32
      · rw [if_pos h1, if_pos (by omega), solid_eq _ (hb.drop 1) (by simp; omega) _ (by omega)]
        simp only [Option.bind_some]
        rw [show solidM (l.drop 1) = false by cases h : solidM (l.drop 1) with
          | false => rfl
          | true => exact absurd ⟨h1, h⟩ h32]
      · rw [if_neg h1]
    rw [hW] at hw
    simp only [words_word.j0] at hw
    rw [if_neg (by decide), r1] at hw
    simp only [Option.bind_some] at hw
    have full : wordN l = sz.toNat → One (l.take (wordN l)) := fun h => by
      rw [h]
      exact one_plain hne G.at_ G.c1 (by omega) G.c2 (fun h => Nat.le_of_eq (G.c0 h))
    by_cases hk3 : (kindM l).1 = 3
    · rw [if_pos hk3] at hw
      by_cases hl0 : last > 0
      · have hc2 : 2 ≤ c := by
          rcases Nat.lt_or_ge c 2 with h | h
          · have := G.one (by have := G.c1; omega)
            omega
          · exact h
        obtain ⟨t1, t2, t3⟩ := G.two hc2
        rw [if_pos hl0, if_pos (by omega), if_pos (by omega)] at hw
        by_cases hb32 : rd l last = 32
        · rw [if_pos hb32, if_pos (by omega), if_pos hs2, solid_eq _ (hb.drop _) (by simp; omega) _ (by omega)] at hw
          simp only [Option.bind_some] at hw
          by_cases hso : solidM (l.drop sz.toNat) = true
          · rw [if_pos hso] at hw
            injection hw with hw
            have : wordN l = last.toNat := by omega
            rw [this]
            exact one_plain hne t1 (by omega) (by omega) (fun h => by omega) (fun h => by omega)
          · rw [if_neg hso] at hw
            injection hw with hw
            exact full (by omega)
        · rw [if_neg hb32] at hw
          injection hw with hw
          exact full (by omega)
      · rw [if_neg hl0] at hw
        injection hw with hw
        exact full (by omega)
    · rw [if_neg hk3] at hw
      injection hw with hw
      exact full (by omega)
theorem cutN_one : ∀ (d : Nat) (l : List Int), Byts l → l.length ≤ d → l.length ≤ 100000 → ∀ w ∈ cutN d l, One w ∧ Byts w ∧ w.length ≤ l.length := by
  intro d
  induction d with
  | zero => intro l hb hd hl w hw; simp [cutN] at hw
  | succ d ih =>
    intro l hb hd hl w hw
    by_cases hne : l = []
    · subst hne; simp [cutN] at hw
    · obtain ⟨h1, h2, h3⟩ := wordN_eq l hb hl hne
      have hdl : (l.drop (wordN l)).length = l.length - wordN l := List.length_drop
      have hc : cutN (d + 1) l = l.take (wordN l) :: cutN d (l.drop (wordN l)) := by simp [cutN, hne]
      rw [hc] at hw
      rcases List.mem_cons.1 hw with rfl | hw
      · exact ⟨word_one l hb hl hne, hb.take _, by rw [List.length_take]; omega⟩
      · obtain ⟨o1, o2, o3⟩ := ih (l.drop (wordN l)) (hb.drop _) (by omega) (by omega) w hw
        exact ⟨o1, o2, by omega⟩
theorem cutM_one (l : List Int) (hb : Byts l) (hl : l.length ≤ 100000) : ∀ w ∈ cutM l, One w ∧ Byts w ∧ w.length ≤ l.length := cutN_one l.length l hb (Nat.le_refl _) hl
end Go.Proofs.Ytmmpppahagknpaa.Pure
