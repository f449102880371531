/- The kind of a text's first sign, as the program and as the document reckon it, is one plain function. -/
import Derived.Test.YtmmpppahagknpaaPx2
import Derived.Test.YtmmpppahagknpaaPx5
import Derived.Laws.BitsAllLaws
namespace Go.Proofs.Ytmmpppahagknpaa.Pure
open Go.RowKit Go.Proofs.Ytmmpppahagknpaa.P Go.Proofs.YtmmpppahagknpaaW.PrintWords Go.Proofs.YtmmpppahagknpaaW.PrintLast

def Byt (x : Int) : Prop := 0 ≤ x ∧ x < 256
def Byts (l : List Int) : Prop := ∀ x ∈ l, Byt x

def lowK (c : Int) : Int := if 97 ≤ c ∧ c ≤ 122 ∨ 65 ≤ c ∧ c ≤ 90 then 1 else if 48 ≤ c ∧ c ≤ 57 then 2 else if c = 9 ∨ c = 10 ∨ c = 13 ∨ c = 32 then 3 else 4
def okS (x least : Int) : Bool := decide (least ≤ x ∧ x ≤ 1114111 ∧ ¬ (55296 ≤ x ∧ x ≤ 57343))
def cont (b : Int) : Bool := decide (128 ≤ b ∧ b < 192)
def kindM : List Int → Int × Int
  | [] => (-1, 0)
  | c :: t =>
    if c < 128 then (lowK c, 1)
    else if 192 ≤ c ∧ c < 224 then
      match t with
      | b :: _ => if cont b && okS ((c - 192) * 64 + b % 64) 128 then (1, 2) else (0, 1)
      | _ => (0, 1)
    else if 224 ≤ c ∧ c < 240 then
      match t with
      | b :: b2 :: _ => if cont b && cont b2 && okS (((c - 224) * 64 + b % 64) * 64 + b2 % 64) 2048 then (1, 3) else (0, 1)
      | _ => (0, 1)
    else if 240 ≤ c ∧ c < 248 then
      match t with
      | b :: b2 :: b3 :: _ => if cont b && cont b2 && cont b3 && okS ((((c - 240) * 64 + b % 64) * 64 + b2 % 64) * 64 + b3 % 64) 65536 then (1, 4) else (0, 1)
      | _ => (0, 1)
    else (0, 1)

theorem nat_byt {c : Int} (h : Byt c) : ∃ n : Nat, n < 256 ∧ c = n := ⟨c.toNat, by unfold Byt at h; omega, by unfold Byt at h; omega⟩
theorem and192 {b : Int} (h : Byt b) : (Go.bits .and .u8 b 192 = 128) ↔ cont b = true := by
  obtain ⟨n, hn, rfl⟩ := nat_byt h
  revert n
  have : ∀ n : Fin 256, (Go.bits .and .u8 ((n.val : Nat) : Int) 192 = 128) ↔ cont ((n.val : Nat) : Int) = true := by decide +kernel
  exact fun n hn _ => this ⟨n, hn⟩
theorem and63 {b : Int} (h : Byt b) : (Go.bits .and .u8 b 63) % 4294967296 = b % 64 := by
  obtain ⟨n, hn, rfl⟩ := nat_byt h
  revert n
  have : ∀ n : Fin 256, (Go.bits .and .u8 ((n.val : Nat) : Int) 63) % 4294967296 = ((n.val : Nat) : Int) % 64 := by decide +kernel
  exact fun n hn _ => this ⟨n, hn⟩
theorem or6 {x y : Int} (h0 : 0 ≤ x) (h1 : x < 67108864) (h2 : 0 ≤ y) (h3 : y < 64) : Go.bits .or .u32 ((x * 64) % 4294967296) y = x * 64 + y := by
  obtain ⟨n, rfl⟩ := Int.eq_ofNat_of_zero_le h0
  obtain ⟨m, rfl⟩ := Int.eq_ofNat_of_zero_le h2
  have e : ((n : Int) * 64) % 4294967296 = ((n * 64 : Nat) : Int) := by omega
  rw [e, u32_or_nat _ _ (by omega) (by omega)]
  have : n * 64 ||| m = n * 64 + m := by
    have := Nat.shiftLeft_add_eq_or_of_lt (show m < 2 ^ 6 by omega) n
    rw [Nat.shiftLeft_eq] at this
    exact this.symm
  rw [this]
  omega
theorem low_eq {c : Int} (h : Byt c) : words_low.f 3 c = some (lowK c) := by
  obtain ⟨n, hn, rfl⟩ := nat_byt h
  revert n
  have : ∀ n : Fin 256, words_low.f 3 ((n.val : Nat) : Int) = some (lowK ((n.val : Nat) : Int)) := by decide +kernel
  exact fun n hn _ => this ⟨n, hn⟩
theorem up {α : Type} {g : Nat → Option α} (hm : ∀ k, LeO (g k) (g (k + 1))) {k : Nat} {r : α} (h : g k = some r) (n : Nat) (hn : k ≤ n) : g n = some r := at_rounds hm hn h
theorem shape_eq {c : Int} (h : Byt c) : words_shape.f 3 c = some (if 192 ≤ c ∧ c < 224 then (2, 128) else if 224 ≤ c ∧ c < 240 then (3, 2048) else if 240 ≤ c ∧ c < 248 then (4, 65536) else (0, 0)) := by
  obtain ⟨n, hn, rfl⟩ := nat_byt h
  revert n
  have : ∀ n : Fin 256, words_shape.f 3 ((n.val : Nat) : Int) = some (if 192 ≤ ((n.val : Nat) : Int) ∧ ((n.val : Nat) : Int) < 224 then (2, 128) else if 224 ≤ ((n.val : Nat) : Int) ∧ ((n.val : Nat) : Int) < 240 then (3, 2048) else if 240 ≤ ((n.val : Nat) : Int) ∧ ((n.val : Nat) : Int) < 248 then (4, 65536) else (0, 0)) := by decide +kernel
  exact fun n hn _ => this ⟨n, hn⟩
theorem lead {c : Int} (h : Byt c) : (192 ≤ c ∧ c < 224 → Go.bits .and .u32 (c % 4294967296) (((shl .u32 1 (wrap64 (7 - 2))) - 1) % 4294967296) = c - 192) ∧ (224 ≤ c ∧ c < 240 → Go.bits .and .u32 (c % 4294967296) (((shl .u32 1 (wrap64 (7 - 3))) - 1) % 4294967296) = c - 224) ∧ (240 ≤ c ∧ c < 248 → Go.bits .and .u32 (c % 4294967296) (((shl .u32 1 (wrap64 (7 - 4))) - 1) % 4294967296) = c - 240) := by
  obtain ⟨n, hn, rfl⟩ := nat_byt h
  revert n
  have : ∀ n : Fin 256, (192 ≤ ((n.val : Nat) : Int) ∧ ((n.val : Nat) : Int) < 224 → Go.bits .and .u32 (((n.val : Nat) : Int) % 4294967296) (((shl .u32 1 (wrap64 (7 - 2))) - 1) % 4294967296) = ((n.val : Nat) : Int) - 192) ∧ (224 ≤ ((n.val : Nat) : Int) ∧ ((n.val : Nat) : Int) < 240 → Go.bits .and .u32 (((n.val : Nat) : Int) % 4294967296) (((shl .u32 1 (wrap64 (7 - 3))) - 1) % 4294967296) = ((n.val : Nat) : Int) - 224) ∧ (240 ≤ ((n.val : Nat) : Int) ∧ ((n.val : Nat) : Int) < 248 → Go.bits .and .u32 (((n.val : Nat) : Int) % 4294967296) (((shl .u32 1 (wrap64 (7 - 4))) - 1) % 4294967296) = ((n.val : Nat) : Int) - 240) := by decide +kernel
  exact fun n hn _ => this ⟨n, hn⟩
/-- One more byte of a sign. -/
theorem l0_step (k : Nat) (n least x : Int) (ys : List Int) (i : Nat) (hi : i < ys.length) (hl : ys.length < 1000) (hb : Byt (rd ys i)) (h0 : 0 ≤ x) (h1 : x < 67108864) :
    words_Kind.l0 (k + 1) n least x ys (ys.length : Int) i = if cont (rd ys i) = true then words_Kind.l0 k n least (x * 64 + rd ys i % 64) ys (ys.length : Int) ((i + 1 : Nat) : Int) else some (0, 1) := by
  simp only [words_Kind.l0]
  rw [if_pos (by omega), if_pos (by omega), if_pos (by omega)]
  have e : wrap64 ((i : Int) + 1) = ((i + 1 : Nat) : Int) := by unfold wrap64; omega
  by_cases hc : cont (rd ys i) = true
  · rw [if_pos ((and192 hb).2 hc), if_pos hc, and63 hb, or6 h0 h1 (by omega) (by omega), e]
  · rw [if_neg (fun h => hc ((and192 hb).1 h)), if_neg hc]
theorem l0_end (k : Nat) (n least x : Int) (ys : List Int) : words_Kind.l0 (k + 1) n least x ys (ys.length : Int) (ys.length : Int) = some (if okS x least = true then (1, n) else (0, 1)) := by
  simp only [words_Kind.l0]
  rw [if_neg (by omega)]
  unfold okS
  simp only [decide_eq_true_eq]
  repeat' split
  all_goals (first | rfl | omega)
theorem byts_cons {c : Int} {t : List Int} (h : Byts (c :: t)) : Byt c ∧ Byts t := ⟨h c (List.mem_cons_self ..), fun x hx => h x (List.mem_cons_of_mem _ hx)⟩
theorem wl1 : wrap64 (7 - 2) = 5 := by decide +kernel
theorem wl2 : wrap64 (7 - 3) = 4 := by decide +kernel
theorem wl3 : wrap64 (7 - 4) = 3 := by decide +kernel
theorem Kind_eq : ∀ (l : List Int), Byts l → l.length < 1000000 → words_Kind.f 12 l = some (kindM l)
  | [], _, _ => by rfl
  | c :: t, hb, hl => by
    obtain ⟨hc, ht⟩ := byts_cons hb
    have hl0 : ((c :: t).length : Int) = (t.length : Int) + 1 := by simp
    have hlen : t.length < 1000000 := by simp at hl; omega
    have hrd : rd (c :: t) 0 = c := rfl
    unfold words_Kind.f
    rw [if_neg (by omega), if_pos (by omega), hrd]
    by_cases h1 : c < 128
    · rw [if_pos h1, up (words_low.mono c) (low_eq hc) 12 (by omega)]
      simp [kindM, h1]
    · rw [if_neg h1, up (words_shape.mono c) (shape_eq hc) 12 (by omega)]
      simp only [Option.bind_some, kindM, if_neg h1]
      by_cases h2 : 192 ≤ c ∧ c < 224
      · simp only [if_pos h2]
        rw [if_neg (by decide)]
        match t, ht with
        | [], _ => simp [words_Kind.j0]
        | b :: t', ht =>
          obtain ⟨hb1, _⟩ := byts_cons ht
          have hx : c - 192 < 32 := by omega
          simp only [List.length_cons]
          rw [show decide ((((t'.length + 1 + 1 : Nat) : Int)) < 2) = false by simp; omega]
          simp only [words_Kind.j0]
          rw [if_neg (by decide), wl1, if_pos (by decide), if_pos (by decide), if_pos (by simp only [List.length_cons]; omega)]
          have e : ((c :: b :: t').take (Int.toNat 2)).drop 1 = [b] := by simp
          rw [e, ← wl1, (lead hc).1 h2]
          refine Eq.trans (l0_step 10 2 128 (c - 192) [b] 0 (by simp) (by simp) hb1 (by omega) (by omega)) ?_
          have e1 : rd [b] ((0 : Nat) : Int) = b := rfl
          rw [e1]
          by_cases hcb : cont b = true
          · rw [if_pos hcb]
            refine Eq.trans (l0_end 9 2 128 ((c - 192) * 64 + b % 64) [b]) ?_; simp [hcb]
          · rw [if_neg hcb]; simp [hcb]
      · by_cases h3 : 224 ≤ c ∧ c < 240
        · simp only [if_neg h2, if_pos h3]
          rw [if_neg (by decide)]
          match t, ht with
          | [], _ => simp [words_Kind.j0]
          | [b], _ => simp [words_Kind.j0]
          | b :: b2 :: t', ht =>
            obtain ⟨hb1, ht2⟩ := byts_cons ht
            obtain ⟨hb2, _⟩ := byts_cons ht2
            simp only [List.length_cons]
            rw [show decide ((((t'.length + 1 + 1 + 1 : Nat) : Int)) < 3) = false by simp; omega]
            simp only [words_Kind.j0]
            rw [if_neg (by decide), wl2, if_pos (by decide), if_pos (by decide), if_pos (by simp only [List.length_cons]; omega)]
            have e : ((c :: b :: b2 :: t').take (Int.toNat 3)).drop 1 = [b, b2] := by simp
            rw [e, ← wl2, (lead hc).2.1 h3]
            refine Eq.trans (l0_step 10 3 2048 (c - 224) [b, b2] 0 (by simp) (by simp) hb1 (by omega) (by omega)) ?_
            have e1 : rd [b, b2] ((0 : Nat) : Int) = b := rfl
            rw [e1]
            by_cases hcb : cont b = true
            · rw [if_pos hcb]; refine Eq.trans (l0_step 9 3 2048 _ [b, b2] 1 (by simp) (by simp) hb2 (by omega) (by omega)) ?_
              have e2 : rd [b, b2] ((1 : Nat) : Int) = b2 := rfl
              rw [e2]
              by_cases hcb2 : cont b2 = true
              · rw [if_pos hcb2]
                refine Eq.trans (l0_end 8 3 2048 (((c - 224) * 64 + b % 64) * 64 + b2 % 64) [b, b2]) ?_; simp [hcb, hcb2]
              · rw [if_neg hcb2]; simp [hcb2]
            · rw [if_neg hcb]; simp [hcb]
        · by_cases h4 : 240 ≤ c ∧ c < 248
          · simp only [if_neg h2, if_neg h3, if_pos h4]
            rw [if_neg (by decide)]
            match t, ht with
            | [], _ => simp [words_Kind.j0]
            | [b], _ => simp [words_Kind.j0]
            | [b, b2], _ => simp [words_Kind.j0]
            | b :: b2 :: b3 :: t', ht =>
              obtain ⟨hb1, ht2⟩ := byts_cons ht
              obtain ⟨hb2, ht3⟩ := byts_cons ht2
              obtain ⟨hb3, _⟩ := byts_cons ht3
              simp only [List.length_cons]
              rw [show decide ((((t'.length + 1 + 1 + 1 + 1 : Nat) : Int)) < 4) = false by simp; omega]
              simp only [words_Kind.j0]
              rw [if_neg (by decide), wl3, if_pos (by decide), if_pos (by decide), if_pos (by simp only [List.length_cons]; omega)]
              have e : ((c :: b :: b2 :: b3 :: t').take (Int.toNat 4)).drop 1 = [b, b2, b3] := by simp
              rw [e, ← wl3, (lead hc).2.2 h4]
              refine Eq.trans (l0_step 10 4 65536 (c - 240) [b, b2, b3] 0 (by simp) (by simp) hb1 (by omega) (by omega)) ?_
              have e1 : rd [b, b2, b3] ((0 : Nat) : Int) = b := rfl
              rw [e1]
              by_cases hcb : cont b = true
              · rw [if_pos hcb]; refine Eq.trans (l0_step 9 4 65536 _ [b, b2, b3] 1 (by simp) (by simp) hb2 (by omega) (by omega)) ?_
                have e2 : rd [b, b2, b3] ((1 : Nat) : Int) = b2 := rfl
                rw [e2]
                by_cases hcb2 : cont b2 = true
                · rw [if_pos hcb2]; refine Eq.trans (l0_step 8 4 65536 _ [b, b2, b3] 2 (by simp) (by simp) hb3 (by omega) (by omega)) ?_
                  have e3 : rd [b, b2, b3] ((2 : Nat) : Int) = b3 := rfl
                  rw [e3]
                  by_cases hcb3 : cont b3 = true
                  · rw [if_pos hcb3]
                    refine Eq.trans (l0_end 7 4 65536 ((((c - 240) * 64 + b % 64) * 64 + b2 % 64) * 64 + b3 % 64) [b, b2, b3]) ?_; simp [hcb, hcb2, hcb3]
                  · rw [if_neg hcb3]; simp [hcb3]
                · rw [if_neg hcb2]; simp [hcb2]
              · rw [if_neg hcb]; simp [hcb]
          · simp only [if_neg h2, if_neg h3, if_neg h4]
            simp [words_Kind.j0]
theorem rlow_eq {c : Int} (h : Byt c) (h1 : c < 128) : (if c = 9 then (imprimaturref18_Kind.j0 12 c true) else (if c = 10 then (imprimaturref18_Kind.j0 12 c true) else (if c = 13 then (imprimaturref18_Kind.j0 12 c true) else (imprimaturref18_Kind.j0 12 c (c == 32))))) = some (lowK c, 1) := by
  obtain ⟨n, hn, rfl⟩ := nat_byt h
  have hn' : n < 128 := by omega
  clear h h1 hn
  revert n
  have : ∀ n : Fin 128, (if ((n.val : Nat) : Int) = 9 then (imprimaturref18_Kind.j0 12 ((n.val : Nat) : Int) true) else (if ((n.val : Nat) : Int) = 10 then (imprimaturref18_Kind.j0 12 ((n.val : Nat) : Int) true) else (if ((n.val : Nat) : Int) = 13 then (imprimaturref18_Kind.j0 12 ((n.val : Nat) : Int) true) else (imprimaturref18_Kind.j0 12 ((n.val : Nat) : Int) (((n.val : Nat) : Int) == 32))))) = some (lowK ((n.val : Nat) : Int), 1) := by decide +kernel
  exact fun n hn => this ⟨n, hn⟩
theorem tdivs {c : Int} (h : Byt c) : ((Int.tdiv c 32) % 256 = 6 ↔ 192 ≤ c ∧ c < 224) ∧ ((Int.tdiv c 16) % 256 = 14 ↔ 224 ≤ c ∧ c < 240) ∧ ((Int.tdiv c 8) % 256 = 30 ↔ 240 ≤ c ∧ c < 248) ∧ ((Int.tdiv c 64) % 256 = 2 ↔ cont c = true) ∧ Int.tmod c 64 = c % 64 := by
  unfold Byt at h
  rw [Int.tdiv_eq_ediv_of_nonneg h.1, Int.tdiv_eq_ediv_of_nonneg h.1, Int.tdiv_eq_ediv_of_nonneg h.1, Int.tdiv_eq_ediv_of_nonneg h.1, Int.tmod_eq_emod_of_nonneg h.1]
  unfold cont
  simp only [decide_eq_true_eq]
  refine ⟨by omega, by omega, by omega, by omega, trivial⟩
theorem v_step (k : Nat) (x : Int) (ys : List Int) (i : Nat) (hi : i < ys.length) (hl : ys.length < 1000) (hb : Byt (rd ys i)) (h0 : 0 ≤ x) (h1 : x < 67108864) :
    imprimaturref18_value.l0 (k + 1) ys x i = if cont (rd ys i) = true then imprimaturref18_value.l0 k ys (x * 64 + rd ys i % 64) ((i + 1 : Nat) : Int) else some (0, false) := by
  simp only [imprimaturref18_value.l0]
  rw [if_pos (by omega), if_pos (by omega)]
  have e : wrap64 ((i : Int) + 1) = ((i + 1 : Nat) : Int) := by unfold wrap64; omega
  by_cases hc : cont (rd ys i) = true
  · rw [if_pos ((tdivs hb).2.2.2.1.2 hc), if_pos hc, (tdivs hb).2.2.2.2, e]
    congr 1
    unfold wrap64; omega
  · rw [if_neg (fun h => hc ((tdivs hb).2.2.2.1.1 h)), if_neg hc]
theorem v_end (k : Nat) (x : Int) (ys : List Int) : imprimaturref18_value.l0 (k + 1) ys x (ys.length : Int) = some (x, true) := by
  simp only [imprimaturref18_value.l0]
  rw [if_neg (by omega)]
theorem okS_tail (n x least : Int) (hx : 0 ≤ x) (h1 : x < 4294967296) : (if x < least then some ((0 : Int), (1 : Int)) else if x > 1114111 then some (0, 1) else if wrap64 (Int.tdiv x 2048) = 27 then some (0, 1) else some (1, n)) = some (if okS x least = true then (1, n) else (0, 1)) := by
  rw [Int.tdiv_eq_ediv_of_nonneg hx]
  have e : wrap64 (x / 2048) = x / 2048 := by unfold wrap64; omega
  rw [e]
  unfold okS
  simp only [decide_eq_true_eq]
  repeat' split
  all_goals (first | rfl | omega)
theorem wsub {c : Int} (h : Byt c) (m : Int) (hm : 0 ≤ m ∧ m < 256) : wrap64 (wrap64 c - m) = c - m := by unfold Byt at h; unfold wrap64; omega
theorem RKind_eq : ∀ (l : List Int), Byts l → l.length < 1000000 → imprimaturref18_Kind.f 12 l = some (kindM l)
  | [], _, _ => by rfl
  | c :: t, hb, hl => by
    obtain ⟨hc, ht⟩ := byts_cons hb
    have hl0 : ((c :: t).length : Int) = (t.length : Int) + 1 := by simp
    have hlen : t.length < 1000000 := by simp at hl; omega
    have hrd : rd (c :: t) 0 = c := rfl
    obtain ⟨t1, t2, t3, _, _⟩ := tdivs hc
    unfold imprimaturref18_Kind.f
    rw [if_neg (by omega), if_pos (by omega), hrd]
    by_cases h1 : c < 128
    · rw [if_pos h1, rlow_eq hc h1]
      simp [kindM, h1]
    · rw [if_neg h1]
      simp only [kindM, if_neg h1]
      by_cases h2 : 192 ≤ c ∧ c < 224
      · rw [if_pos (t1.2 h2), if_pos h2]
        simp only [imprimaturref18_Kind.j2, imprimaturref18_Kind.j3, imprimaturref18_Kind.j4, imprimaturref18_Kind.j5]
        rw [if_neg (fun h => by have := t2.1 h; omega), if_neg (fun h => by have := t3.1 h; omega), if_neg (by decide)]
        match t, ht with
        | [], _ => simp
        | b :: t', ht =>
          obtain ⟨hb1, _⟩ := byts_cons ht
          rw [if_neg (by simp; omega), if_pos (by decide), if_pos (by simp only [List.length_cons]; omega)]
          have e : (c :: b :: t').take (Int.toNat 2) = [c, b] := by simp
          rw [e]
          have hv : imprimaturref18_value.f 8 [c, b] = imprimaturref18_value.l0 7 [c, b] (c - 192) 1 := by
            unfold imprimaturref18_value.f
            rw [if_pos (by simp), if_pos (by simp), show rd [c, b] 0 = c from rfl, wsub hc 192 (by omega)]
            rfl
          have hs : imprimaturref18_value.l0 7 [c, b] (c - 192) 1 = some (if cont b = true then ((c - 192) * 64 + b % 64, true) else (0, false)) := by
            refine Eq.trans (v_step 6 (c - 192) [c, b] 1 (by simp) (by simp) hb1 (by omega) (by omega)) ?_
            have e1 : rd [c, b] ((1 : Nat) : Int) = b := rfl
            rw [e1]
            by_cases hcb : cont b = true
            · rw [if_pos hcb, if_pos hcb]; exact v_end 5 _ [c, b]
            · rw [if_neg hcb, if_neg hcb]
          rw [hv, hs]
          by_cases hcb : cont b = true
          · simp only [if_pos hcb, Option.bind_some, if_true]
            rw [okS_tail _ _ _ (by omega) (by omega)]
            simp [hcb]
          · simp [hcb]
      · rw [if_neg (fun h => h2 (t1.1 h)), if_neg h2]
        by_cases h3 : 224 ≤ c ∧ c < 240
        · rw [if_pos h3]
          simp only [imprimaturref18_Kind.j2, imprimaturref18_Kind.j3, imprimaturref18_Kind.j4, imprimaturref18_Kind.j5]
          rw [if_pos (t2.2 h3), if_neg (fun h => by have := t3.1 h; omega), if_neg (by decide)]
          match t, ht with
          | [], _ => simp
          | [b], _ => simp
          | b :: b2 :: t', ht =>
            obtain ⟨hb1, ht2⟩ := byts_cons ht
            obtain ⟨hb2, _⟩ := byts_cons ht2
            rw [if_neg (by simp; omega), if_pos (by decide), if_pos (by simp only [List.length_cons]; omega)]
            have e : (c :: b :: b2 :: t').take (Int.toNat 3) = [c, b, b2] := by simp
            rw [e]
            have hv : imprimaturref18_value.f 8 [c, b, b2] = imprimaturref18_value.l0 7 [c, b, b2] (c - 224) 1 := by
              unfold imprimaturref18_value.f
              rw [if_pos (by simp), if_neg (by simp), if_pos (by simp), show rd [c, b, b2] 0 = c from rfl, wsub hc 224 (by omega)]
              rfl
            have hs : imprimaturref18_value.l0 7 [c, b, b2] (c - 224) 1 = some (if cont b = true ∧ cont b2 = true then (((c - 224) * 64 + b % 64) * 64 + b2 % 64, true) else (0, false)) := by
              refine Eq.trans (v_step 6 (c - 224) [c, b, b2] 1 (by simp) (by simp) hb1 (by omega) (by omega)) ?_
              have e1 : rd [c, b, b2] ((1 : Nat) : Int) = b := rfl
              rw [e1]
              by_cases hcb : cont b = true
              · rw [if_pos hcb]
                refine Eq.trans (v_step 5 _ [c, b, b2] 2 (by simp) (by simp) hb2 (by omega) (by omega)) ?_
                have e2 : rd [c, b, b2] ((2 : Nat) : Int) = b2 := rfl
                rw [e2]
                by_cases hcb2 : cont b2 = true
                · rw [if_pos hcb2, if_pos ⟨hcb, hcb2⟩]; exact v_end 4 _ [c, b, b2]
                · rw [if_neg hcb2, if_neg (fun h => hcb2 h.2)]
              · rw [if_neg hcb, if_neg (fun h => hcb h.1)]
            rw [hv, hs]
            by_cases hcb : cont b = true
            · by_cases hcb2 : cont b2 = true
              · simp only [if_pos (And.intro hcb hcb2), Option.bind_some, if_true]
                rw [okS_tail _ _ _ (by omega) (by omega)]
                simp [hcb, hcb2]
              · simp [hcb, hcb2]
            · simp [hcb]
        · rw [if_neg h3]
          by_cases h4 : 240 ≤ c ∧ c < 248
          · rw [if_pos h4]
            simp only [imprimaturref18_Kind.j2, imprimaturref18_Kind.j3, imprimaturref18_Kind.j4, imprimaturref18_Kind.j5]
            rw [if_neg (fun h => h3 (t2.1 h)), if_pos (t3.2 h4), if_neg (by decide)]
            match t, ht with
            | [], _ => simp
            | [b], _ => simp
            | [b, b2], _ => simp
            | b :: b2 :: b3 :: t', ht =>
              obtain ⟨hb1, ht2⟩ := byts_cons ht
              obtain ⟨hb2, ht3⟩ := byts_cons ht2
              obtain ⟨hb3, _⟩ := byts_cons ht3
              rw [if_neg (by simp; omega), if_pos (by decide), if_pos (by simp only [List.length_cons]; omega)]
              have e : (c :: b :: b2 :: b3 :: t').take (Int.toNat 4) = [c, b, b2, b3] := by simp
              rw [e]
              have hv : imprimaturref18_value.f 8 [c, b, b2, b3] = imprimaturref18_value.l0 7 [c, b, b2, b3] (c - 240) 1 := by
                unfold imprimaturref18_value.f
                rw [if_pos (by simp), if_neg (by simp), if_neg (by simp), show rd [c, b, b2, b3] 0 = c from rfl, wsub hc 240 (by omega)]
                rfl
              have hs : imprimaturref18_value.l0 7 [c, b, b2, b3] (c - 240) 1 = some (if cont b = true ∧ cont b2 = true ∧ cont b3 = true then ((((c - 240) * 64 + b % 64) * 64 + b2 % 64) * 64 + b3 % 64, true) else (0, false)) := by
                refine Eq.trans (v_step 6 (c - 240) [c, b, b2, b3] 1 (by simp) (by simp) hb1 (by omega) (by omega)) ?_
                have e1 : rd [c, b, b2, b3] ((1 : Nat) : Int) = b := rfl
                rw [e1]
                by_cases hcb : cont b = true
                · rw [if_pos hcb]
                  refine Eq.trans (v_step 5 _ [c, b, b2, b3] 2 (by simp) (by simp) hb2 (by omega) (by omega)) ?_
                  have e2 : rd [c, b, b2, b3] ((2 : Nat) : Int) = b2 := rfl
                  rw [e2]
                  by_cases hcb2 : cont b2 = true
                  · rw [if_pos hcb2]
                    refine Eq.trans (v_step 4 _ [c, b, b2, b3] 3 (by simp) (by simp) hb3 (by omega) (by omega)) ?_
                    have e3 : rd [c, b, b2, b3] ((3 : Nat) : Int) = b3 := rfl
                    rw [e3]
                    by_cases hcb3 : cont b3 = true
                    · rw [if_pos hcb3, if_pos ⟨hcb, hcb2, hcb3⟩]; exact v_end 3 _ [c, b, b2, b3]
                    · rw [if_neg hcb3, if_neg (fun h => hcb3 h.2.2)]
                  · rw [if_neg hcb2, if_neg (fun h => hcb2 h.2.1)]
                · rw [if_neg hcb, if_neg (fun h => hcb h.1)]
              rw [hv, hs]
              by_cases hcb : cont b = true
              · by_cases hcb2 : cont b2 = true
                · by_cases hcb3 : cont b3 = true
                  · simp only [if_pos (And.intro hcb (And.intro hcb2 hcb3)), Option.bind_some, if_true]
                    rw [okS_tail _ _ _ (by omega) (by omega)]
                    simp [hcb, hcb2, hcb3]
                  · simp [hcb, hcb2, hcb3]
                · simp [hcb, hcb2]
              · simp [hcb]
          · rw [if_neg h4]
            simp only [imprimaturref18_Kind.j2, imprimaturref18_Kind.j3, imprimaturref18_Kind.j4, imprimaturref18_Kind.j5]
            rw [if_neg (fun h => h3 (t2.1 h)), if_neg (fun h => h4 (t3.1 h))]
            simp
/-- What is told of a first sign. -/
theorem kindM_bounds (l : List Int) (hb : Byts l) (hl : l ≠ []) : 0 ≤ (kindM l).1 ∧ (kindM l).1 ≤ 4 ∧ 1 ≤ (kindM l).2 ∧ (kindM l).2 ≤ (l.length : Int) ∧ (kindM l).2 ≤ 4 ∧ ((kindM l).1 = 0 → (kindM l).2 = 1) := by
  match l, hl with
  | c :: t, _ =>
    obtain ⟨hc, ht⟩ := byts_cons hb
    simp only [kindM]
    have hlow : 0 ≤ lowK c ∧ lowK c ≤ 4 := by
      unfold lowK
      repeat' split
      all_goals omega
    repeat' split
    all_goals (dsimp only [List.length_cons]; refine ⟨?_, ?_, ?_, ?_, ?_, ?_⟩)
    all_goals (first | omega | (intro h; omega) | (intro h; rfl) | (simp; omega))
theorem kind_at (l : List Int) (hb : Byts l) (hl : l.length < 1000000) (k : Nat) (hk : 12 ≤ k) : words_Kind.f k l = some (kindM l) := up (words_Kind.mono l) (Kind_eq l hb hl) k hk
theorem rkind_at (l : List Int) (hb : Byts l) (hl : l.length < 1000000) (k : Nat) (hk : 12 ≤ k) : imprimaturref18_Kind.f k l = some (kindM l) := up (imprimaturref18_Kind.mono l) (RKind_eq l hb hl) k hk
end Go.Proofs.Ytmmpppahagknpaa.Pure
