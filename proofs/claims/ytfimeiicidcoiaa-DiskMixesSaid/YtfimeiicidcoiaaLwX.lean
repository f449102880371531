/- Operations on a disk and the reference, one behind the other, beside blocks that stay as they are. -/
import Derived.Test.YtfimeiicidcoiaaLwP
namespace Go.Proofs.Ytfimeiicidcoiaa.Dk
open Go.RowKit Go.Proofs.YtfimeiicidcoiaaW.PrintWords Go.Proofs.YtfimeiicidcoiaaW.PrintLast Go.Proofs.YtfimeiicidcoiaaW.PrintMore
set_option linter.unusedVariables false
set_option linter.unusedSimpArgs false
variable {w0 w w' W W' w1 w2 : World} {B g gc g2 : Nat} {F F' Fc F2 K : Nat → Prop} {D D' C : DM} {R : RM}
def playsM (D : DM) (l : List OpM) : DM := l.foldl playM D
theorem playsM_take {l : List OpM} {i : Nat} {o : OpM} (h : l[i]? = some o) : playsM D (l.take (i + 1)) = playM (playsM D (l.take i)) o := by
  obtain ⟨hi, rfl⟩ := List.getElem?_eq_some_iff.1 h
  rw [List.take_succ_eq_append_getElem hi, playsM, playsM, List.foldl_append]
  rfl
theorem playsM_all (l : List OpM) : playsM D (l.take l.length) = playsM D l := by rw [List.take_length]
def Lp (w0 w1 w : World) (g : Nat) (D0 : DM) (g2 : Nat) (K : Nat → Prop) (l : List OpM) (i m : Nat) : Prop :=
  ∃ F F2 R, Two w w0.heap.size g F (playsM D0 (l.take i)) g2 F2 R ∧ DOk (playsM D0 (l.take i)) ∧ ROk R ∧ (playsM D0 (l.take i)).held.length ≤ 3000 + wsum (l.take i) ∧ R.wait.length ≤ m + wsum (l.take i) ∧ (∀ k, F k → ¬ K k) ∧ (∀ k, F2 k → ¬ K k) ∧ Upd w1 w (fun k => ¬ K k) ∧ Below w0.heap.size w0 w
theorem lp_start {l : List OpM} {m : Nat} (h : Two w1 w0.heap.size g F D g2 F2 R) (hD : DOk D) (hR : ROk R) (hh : D.held.length ≤ 3000) (hw : R.wait.length ≤ m) (h1 : ∀ k, F k → ¬ K k) (h2 : ∀ k, F2 k → ¬ K k) (hb : Below w0.heap.size w0 w1) : Lp w0 w1 w1 g D g2 K l 0 m :=
  ⟨F, F2, R, h, hD, hR, Nat.le_add_right_of_le hh, Nat.le_add_right_of_le hw, h1, h2, Upd.refl _ _, hb⟩
theorem lp_step {l : List OpM} {i m : Nat} (h : Lp w0 w1 w g D g2 K l i m) (hK : ∀ k, K k → k < w1.heap.size) (hm : m ≤ 3000) (hl : wsum l ≤ 3000) {kd at_ nn : Int} {x : List Int} {ch : List Bool} (ho : l[i]? = some ⟨kd, at_, nn, x, ch⟩) {ab ac : Option Addr} {cb cc : Nat}
    (hO : ∀ W, Below w0.heap.size w0 W → OpIs W ⟨kd, at_, nn, x, ch⟩ [.int .i64 kd, .int .i64 at_, .int .i64 nn, .slice ab x.length cb, .slice ac ch.length cc]) :
    Calls Try.prog 29 #[.pointer (some ⟨g, 0, none⟩), .pointer (some ⟨g2, 0, none⟩), .agg #[.int .i64 kd, .int .i64 at_, .int .i64 nn, .slice ab x.length cb, .slice ac ch.length cc]] w fun e w' => Bl e ∧ Lp w0 w1 w' g D g2 K l (i + 1) m := by
  obtain ⟨F, F2, R, hT, hD, hR, hh, hw, h1, h2, hu, hb⟩ := h
  have hs := wsum_take ho
  have hle := wsum_le l (i + 1)
  have hx : x.length ≤ 3000 := by simp only [wOp] at hs; omega
  have hOW : ∀ W, Upd w W (fun k => w0.heap.size ≤ k) → OpIs W ⟨kd, at_, nn, x, ch⟩ [.int .i64 kd, .int .i64 at_, .int .i64 nn, .slice ab x.length cb, .slice ac ch.length cc] := fun W hW => hO W (below_upd hb hW (fun _ h => h))
  refine (plays_calls hT hD hR (by omega) (by omega) hb.size kd at_ nn x ch ab ac cb cc hx hOW).mono ?_
  rintro e w' ⟨hbl, F', F2', R', hF, hF2, hT', hR', hw', hu'⟩
  have hn := (OpIs.C (o := ⟨kd, at_, nn, x, ch⟩) (hOW w (Upd.refl _ _))).2.2.2.2.2
  have hp := playM_hs (D := playsM D (l.take i)) ⟨kd, at_, nn, x, ch⟩
  refine ⟨hbl, F', F2', R', by rw [playsM_take ho]; exact hT', by rw [playsM_take ho]; exact playM_ok _ hD (by omega) hn, hR', by rw [playsM_take ho]; omega, ?_, fun k hk hKk => ?_, fun k hk hKk => ?_, ?_, ?_⟩
  · simp only [wOp] at hs
    omega
  · rcases hF k hk with h | h
    · exact h1 k h hKk
    · have := hK k hKk; have := hu.size; omega
  · rcases hF2 k hk with h | h
    · exact h2 k h hKk
    · have := hK k hKk; have := hu.size; omega
  · exact hu.trans hu' (fun k hk => .inl (hk.elim (h1 k) (h2 k)))
  · exact below_upd hb hu' (fun k hk => hk.elim (hT.d.lo k) (fun h => (hT.r.lo k h).1))
/-- A disk whose blocks are among those that stay. -/
theorem St.stay (h : St w0 w1 g F D) (hu : Upd w1 w (fun k => ¬ K k)) (hF : ∀ k, F k → K k) (hb : Below w0.heap.size w0 w) : St w0 w g F D :=
  ⟨h.d.frame hu (fun k _ h1 h2 => h2 (hF k h1)), hb⟩
/-- Read's answer, to be written over. -/
def Fresh (w w' : World) (e : Ending) : Prop := ∃ Y m c b n, e = .returned (.tuple #[.slice Y m c, .int .i64 n]) ∧ m ≤ 64 ∧ w.heap.size ≤ b ∧ Below w.heap.size w w' ∧ (0 < m → Y = some ⟨b, 0, none⟩ ∧ ∃ cs : Array Value, w'.heap[b]? = some (.cells cs 64 (0, 0)) ∧ cs.size = m)
theorem sRead (h : St w0 w g F D) (hok : DOk D) (k : Int) : Calls Try.prog 27 #[.pointer (some ⟨g, 0, none⟩), .int .i64 k] w fun e w' => Fresh w w' e := by
  obtain ⟨⟨_, _, _, h⟩, _⟩ := h
  by_cases hk : atM D k = 0
  · refine (Read_calls h hok k hk).mono ?_
    rintro e w' ⟨rfl, hl, hb, hB⟩
    exact ⟨_, 64, 64, w.heap.size, 0, rfl, Nat.le_refl _, Nat.le_refl _, hB, fun _ => ⟨rfl, _, hb, by simp [nums_length, hl]⟩⟩
  · refine (Read_fails h k hk).mono ?_
    rintro e w' ⟨rfl, rfl⟩
    exact ⟨none, 0, 0, w.heap.size, _, rfl, by decide, Nat.le_refl _, Below.refl _ _, fun h => absurd h (by decide)⟩
theorem sBytesR (h : St w0 w g F D) (hok : DOk D) : Calls Try.prog 14 #[.pointer (some ⟨g, 0, none⟩)] w fun e w' => ∃ A c, e = .returned (.slice A (bytesM D).length c) ∧ Kd.R (Kd.int .u8) 5 w' w.heap.size (fun k => w.heap.size ≤ k) (.slice A (bytesM D).length c) (bytesM D) ∧ Below w.heap.size w w' := by
  obtain ⟨⟨_, _, _, h⟩, _⟩ := h
  refine (Bytes_calls h hok).mono ?_
  rintro e w' ⟨v, rfl, hr, hb⟩
  obtain ⟨A, c, rfl⟩ := Kd.R_slice hr
  exact ⟨A, c, rfl, hr, hb⟩
theorem bytes_small (h : St w0 w g F D) (hn : D.sec.length ≤ 100) : (bytesM D).length ≤ 6400 := by
  obtain ⟨⟨_, _, _, h⟩, _⟩ := h
  obtain ⟨As, cs, rfl, _⟩ := Kd.R_reads h.sec
  have h64 : ∀ i, i < D.sec.length → (D.sec.getD i []).length = 64 := fun i hi => (sec_load h.sec i hi).elim fun _ h => h.2.1
  have := bytesTo_length h64 D.sec.length (Nat.le_refl _)
  show (bytesTo _ _).length ≤ _
  omega
end Go.Proofs.Ytfimeiicidcoiaa.Dk
