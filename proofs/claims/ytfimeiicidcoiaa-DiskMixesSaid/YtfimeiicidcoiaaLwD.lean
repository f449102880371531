/- What an operation leaves of a disk; the calls of package disk, on a disk of any form. -/
import Derived.Test.YtfimeiicidcoiaaLwC
namespace Go.Proofs.Ytfimeiicidcoiaa.Dk
open Go.RowKit Go.Proofs.YtfimeiicidcoiaaW.PrintWords Go.Proofs.YtfimeiicidcoiaaW.PrintLast Go.Proofs.YtfimeiicidcoiaaW.PrintMore
set_option linter.unusedVariables false
set_option linter.unusedSimpArgs false
variable {w W W' : World} {B g g2 : Nat} {F F2 : Nat → Prop} {D : DM} {R : RM}
theorem setM_ok {n : Int} {l : List Bool} (h : DOk D) (hn : n ≤ 9223372036854775807) : DOk (setM D n l).1 := by
  unfold setM
  split
  · exact h
  · split
    · exact h
    · exact ⟨h.at_, h.n1, h.n2, by simp only; omega, hn⟩
theorem goesM_hs : (goesM D).1.held = D.held ∧ (goesM D).1.sec = D.sec := by
  unfold goesM
  split
  · exact ⟨rfl, rfl⟩
  · split <;> exact ⟨rfl, rfl⟩
theorem loseM_hs (l : List Bool) : (loseM l D).held.length ≤ D.held.length ∧ (loseM l D).sec.length = D.sec.length := by
  unfold loseM
  split
  · exact ⟨Nat.le_refl _, rfl⟩
  · exact ⟨Nat.zero_le _, putsTo_length _ _ _ _⟩
theorem flushM_hs : (flushM D).1.held.length ≤ D.held.length ∧ (flushM D).1.sec.length = D.sec.length := by
  unfold flushM
  split
  · exact ⟨Nat.le_refl _, rfl⟩
  · split
    · have := loseM_hs (D := (goesM D).1) (goesM D).1.choice
      rw [goesM_hs.1, goesM_hs.2] at this
      exact this
    · exact ⟨Nat.zero_le _, by show (putsTo _ _ _ _).length = _; rw [putsTo_length, goesM_hs.2]⟩
theorem writeM_hs (k : Int) (x : List Int) : (writeM D k x).1.held.length ≤ D.held.length + 1 ∧ (writeM D k x).1.sec.length = D.sec.length := by
  have h1 : (holdM D k x).held.length = D.held.length + 1 := by simp [holdM]
  unfold writeM
  split
  · exact ⟨Nat.le_succ _, rfl⟩
  · split
    · exact ⟨Nat.le_succ _, rfl⟩
    · split
      · have := loseM_hs (D := (goesM (holdM D k x)).1) (goesM (holdM D k x)).1.choice
        rw [goesM_hs.1, goesM_hs.2, h1] at this
        exact this
      · show (goesM (holdM D k x)).1.held.length ≤ _ ∧ _
        rw [goesM_hs.1, goesM_hs.2, h1]
        exact ⟨Nat.le_refl _, rfl⟩
theorem saveFrom_hs (x : List Int) (k : Int) : ∀ m i (D : DM), (saveFrom x k m i D).1.held.length ≤ D.held.length + m ∧ (saveFrom x k m i D).1.sec.length = D.sec.length
  | 0, _, _ => ⟨Nat.le_refl _, rfl⟩
  | m + 1, i, D => by
    unfold saveFrom
    have hw := writeM_hs (D := D) (k + i) (secAt x i)
    split
    · exact ⟨by omega, hw.2⟩
    · have := saveFrom_hs x k m (i + 1) (writeM D (k + i) (secAt x i)).1
      exact ⟨by omega, this.2.trans hw.2⟩
theorem saveFrom_ok (x : List Int) (k : Int) : ∀ m i (D : DM), DOk D → D.held.length + m ≤ 10000000 → DOk (saveFrom x k m i D).1
  | 0, _, _, h, _ => h
  | m + 1, i, D, h, hn => by
    unfold saveFrom
    have hw := writeM_hs (D := D) (k + i) (secAt x i)
    have ho := writeM_ok (k := k + i) (x := secAt x i) h (by omega)
    split
    · exact ho
    · exact saveFrom_ok x k m (i + 1) _ ho (by omega)
theorem saveM_hs (k : Int) (x : List Int) : (saveM D k x).1.held.length ≤ D.held.length + x.length ∧ (saveM D k x).1.sec.length = D.sec.length := by
  unfold saveM
  split
  · exact ⟨Nat.le_add_right _ _, rfl⟩
  · have := saveFrom_hs x k ((x.length + 63) / 64) 0 D
    exact ⟨by omega, this.2⟩
theorem saveM_ok {k : Int} {x : List Int} (h : DOk D) (hn : D.held.length + x.length ≤ 10000000) : DOk (saveM D k x).1 := by
  unfold saveM
  split
  · exact h
  · exact saveFrom_ok x k _ 0 D h (by omega)
theorem playM_hs (o : OpM) : (playM D o).held.length ≤ D.held.length + wOp o ∧ (playM D o).sec.length = D.sec.length := by
  unfold playM wOp
  split
  · have := writeM_hs (D := D) o.at_ o.b; exact ⟨by omega, this.2⟩
  · split
    · have := flushM_hs (D := D); exact ⟨by omega, this.2⟩
    · split
      · unfold setM
        split
        · exact ⟨by simp only; omega, rfl⟩
        · split <;> exact ⟨by simp only; omega, rfl⟩
      · split
        · have := loseM_hs (D := D) o.ch; exact ⟨by omega, this.2⟩
        · split
          · exact ⟨by simp only [startM]; omega, rfl⟩
          · split
            · have := saveM_hs (D := D) o.at_ o.b; exact ⟨by omega, this.2⟩
            · exact ⟨by omega, rfl⟩
theorem playM_ok (o : OpM) (h : DOk D) (hn : D.held.length + wOp o ≤ 10000000) (hn2 : o.n ≤ 9223372036854775807) : DOk (playM D o) := by
  unfold playM
  unfold wOp at hn
  split
  · exact writeM_ok h (by omega)
  · split
    · exact flushM_ok h
    · split
      · exact setM_ok h hn2
      · split
        · exact loseM_ok _ h
        · split
          · exact startM_ok h
          · split
            · exact saveM_ok h (by omega)
            · exact h
def DPost (w w' : World) (B g : Nat) (F : Nat → Prop) (D' : DM) : Prop := ∃ F', (∀ k, F' k → F k ∨ w.heap.size ≤ k) ∧ DiskAt w' B g F' D' ∧ Upd w w' F
theorem DPost.of_grow {D' : DM} (h : DiskAt W B g (Grow F w W) D') (hu : Upd w W F) : DPost w W B g F D' := ⟨_, fun _ => Grow.out, h, hu⟩
theorem DPost.of_same {D' : DM} (h : DiskAt W B g F D') (hu : Upd w W F) : DPost w W B g F D' := ⟨F, fun _ h => .inl h, h, hu⟩
theorem dWrite (h : DiskAt w B g F D) (hok : DOk D) (hn : D.held.length < 10000000) (k : Int) (A : Option Addr) (c : Nat) (x : List Int) (hC : Kd.C (Kd.int .u8) w A x.length x) :
    Calls Try.prog 19 #[.pointer (some ⟨g, 0, none⟩), .int .i64 k, .slice A x.length c] w fun e w' => e = .returned (.int .i64 (writeM D k x).2) ∧ DPost w w' B g F (writeM D k x).1 := by
  obtain ⟨_, _, _, h⟩ := h
  exact (Write_calls h hok hn k A c x hC).mono fun e w' ⟨he, hd, hu⟩ => ⟨he, .of_grow hd hu⟩
theorem dFlush (h : DiskAt w B g F D) (hok : DOk D) :
    Calls Try.prog 13 #[.pointer (some ⟨g, 0, none⟩)] w fun e w' => e = .returned (.int .i64 (flushM D).2) ∧ DPost w w' B g F (flushM D).1 := by
  obtain ⟨_, _, _, h⟩ := h
  exact (Flush_calls h hok).mono fun e w' ⟨he, hd, hu⟩ => ⟨he, .of_same hd hu⟩
theorem dSet (h : DiskAt w B g F D) (n : Int) (A : Option Addr) (c : Nat) (l : List Bool) (hC : Kd.C Kd.bool w A l.length l) :
    Calls Try.prog 25 #[.pointer (some ⟨g, 0, none⟩), .int .i64 n, .slice A l.length c] w fun e w' => e = .returned (.int .i64 (setM D n l).2) ∧ DPost w w' B g F (setM D n l).1 := by
  obtain ⟨_, _, _, h⟩ := h
  exact (Set_calls h n A c l hC).mono fun e w' ⟨he, hd, hu⟩ => ⟨he, .of_grow hd hu⟩
theorem dLose (h : DiskAt w B g F D) (hok : DOk D) (A : Option Addr) (c : Nat) (l : List Bool) (hc : l.length ≤ c) (hC : ∀ W', Upd w W' F → Kd.C Kd.bool W' A l.length l) :
    Calls Try.prog 15 #[.pointer (some ⟨g, 0, none⟩), .slice A l.length c] w fun e w' => e = .returned (.tuple #[]) ∧ DPost w w' B g F (loseM l D) := by
  obtain ⟨_, _, _, h⟩ := h
  exact (Lose_calls h hok A c l hc (fun W hW _ => hC W hW)).mono fun e w' ⟨he, hd, hu⟩ => ⟨he, .of_same hd hu⟩
theorem dStart (h : DiskAt w B g F D) : Calls Try.prog 12 #[.pointer (some ⟨g, 0, none⟩)] w fun e w' => e = .returned (.tuple #[]) ∧ DPost w w' B g F (startM D) := by
  obtain ⟨_, _, _, h⟩ := h
  exact (Start_calls h).mono fun e w' ⟨he, hd, hu⟩ => ⟨he, .of_same hd hu⟩
theorem dSave (h : DiskAt w B g F D) (hok : DOk D) (hn : D.held.length + 20000 ≤ 10000000) (k : Int) (A : Option Addr) (c : Nat) (x : List Int) (hx : x.length ≤ 1000000000) (hxc : x.length ≤ c) (hC : ∀ W, Upd w W F → Kd.C (Kd.int .u8) W A x.length x) :
    Calls Try.prog 22 #[.pointer (some ⟨g, 0, none⟩), .int .i64 k, .slice A x.length c] w fun e w' => e = .returned (.int .i64 (saveM D k x).2) ∧ DPost w w' B g F (saveM D k x).1 := by
  obtain ⟨_, _, _, h⟩ := h
  exact (Save_calls h hok hn k A c x hx hxc hC).mono fun e w' ⟨he, hd, hu⟩ => ⟨he, .of_grow hd hu⟩
theorem Reads.block {b : Nat} {x : List Int} {e : TypeId} {m : Nat × Nat} {c : Nat} (h : w.heap[b]? = some (.cells (nums .u8 x).toArray e m)) (hx : x.length ≤ 1000000) (hc : x.length ≤ c) : Reads w (.slice (some ⟨b, 0, none⟩) x.length c) x := ⟨_, _, rfl, hc, C_block h hx⟩
theorem dRead (h : DiskAt w B g F D) (hok : DOk D) (k : Int) : Calls Try.prog 27 #[.pointer (some ⟨g, 0, none⟩), .int .i64 k] w fun e w' => TwoRead w w' e := by
  obtain ⟨_, _, _, h⟩ := h
  by_cases hk : atM D k = 0
  · refine (Read_calls h hok k hk).mono ?_
    rintro e w' ⟨rfl, hl, hb, hB⟩
    have := Reads.block (c := 64) hb (by omega) (by omega)
    rw [hl] at this
    exact ⟨_, _, _, rfl, this, hB⟩
  · refine (Read_fails h k hk).mono ?_
    rintro e w' ⟨rfl, rfl⟩
    exact ⟨_, [], _, rfl, Reads.nil _, Below.refl _ _⟩
theorem dLoad (h : DiskAt w B g F D) (hok : DOk D) (k n : Int) (h1 : -9223372036854775808 ≤ n) (h2 : n ≤ 9223372036854775807) : Calls Try.prog 23 #[.pointer (some ⟨g, 0, none⟩), .int .i64 k, .int .i64 n] w fun e w' => TwoRead w w' e := by
  obtain ⟨_, _, _, h⟩ := h
  by_cases hk : loadE D k n = 0
  · have hn : 0 ≤ n := by
      unfold loadE at hk
      split at hk
      · omega
      · split at hk <;> omega
    obtain ⟨n0, rfl⟩ : ∃ m : Nat, n = m := ⟨n.toNat, by omega⟩
    refine (Load_calls h hok k n0 h2 hk).mono ?_
    rintro e w' ⟨A, rfl, hC, hB⟩
    have hl : ((readsTo D k ((n0 + 63) / 64)).take n0).length = n0 := hC.1
    refine ⟨_, (readsTo D k ((n0 + 63) / 64)).take n0, _, rfl, ⟨A, n0, by rw [hl], by omega, by rw [hl]; exact hC⟩, hB⟩
  · refine (Load_fails h hok k n h1 h2 hk).mono ?_
    rintro e w' ⟨rfl, m, rfl⟩
    exact ⟨_, [], _, rfl, Reads.nil _, pw_below_drewN (Below.refl _ _) m⟩
/-- The reference's calls, in the same form. -/
theorem rPost_write (h : RefAt w B g2 F2 R) (hok : ROk R) (hB : B ≤ w.heap.size) (hn : R.wait.length < 9000000) (k : Int) (A : Option Addr) (c : Nat) (x : List Int) (hC : Kd.C (Kd.int .u8) w A x.length x) :
    Calls Try.prog 40 #[.pointer (some ⟨g2, 0, none⟩), .int .i64 k, .slice A x.length c] w fun e w' => Num e ∧ RefPost w w' B g2 F2 R 1 := by
  obtain ⟨_, _, _, h⟩ := h
  exact (rWrite_calls h hok hB hn k A c x hC).mono fun e w' ⟨n, R', he, h1, h2, h3, h4, h5⟩ => ⟨⟨n, he⟩, R', _, fun _ => Grow.out, h1, h2, h3, h4, h5⟩
theorem rPost_flush (h : RefAt w B g2 F2 R) (hok : ROk R) : Calls Try.prog 41 #[.pointer (some ⟨g2, 0, none⟩)] w fun e w' => Num e ∧ RefPost w w' B g2 F2 R 0 := by
  obtain ⟨_, _, _, h⟩ := h
  exact (rFlush_calls h hok).mono fun e w' ⟨n, R', he, h1, h2, h3, h4, h5⟩ => ⟨⟨n, he⟩, R', _, fun _ h => .inl h, h1, h2, h3, h4, h5⟩
theorem rPost_set (h : RefAt w B g2 F2 R) (hok : ROk R) (n : Int) (hn : n ≤ 9223372036854775807) (A : Option Addr) (c : Nat) (l : List Bool) (hc : l.length ≤ c) (hC : ∀ W, Upd w W (fun k => B ≤ k) → Kd.C Kd.bool W A l.length l) :
    Calls Try.prog 42 #[.pointer (some ⟨g2, 0, none⟩), .int .i64 n, .slice A l.length c] w fun e w' => Num e ∧ RefPost w w' B g2 F2 R 0 := by
  obtain ⟨_, _, _, h⟩ := h
  refine (rSet_calls h n A c l hc hC).mono fun e w' ⟨he, ⟨vc', h1⟩, h2⟩ => ⟨⟨_, he⟩, _, _, fun _ h => .inl h, ⟨_, _, _, h1⟩, ?_, ?_, ?_, h2⟩
  · unfold rsetM
    split
    · exact hok
    · split
      · exact hok
      · exact ⟨hok.at_, hok.s64, hok.w64, hok.n1, hok.n2, by simp only; omega, hn⟩
  · unfold rsetM
    split
    · exact Nat.le_refl _
    · split <;> exact Nat.le_refl _
  · unfold rsetM
    split
    · rfl
    · split <;> rfl
theorem rPost_lose (h : RefAt w B g2 F2 R) (hok : ROk R) (A : Option Addr) (c : Nat) (l : List Bool) (hC : ∀ W, Upd w W F2 → Kd.C Kd.bool W A l.length l) :
    Calls Try.prog 43 #[.pointer (some ⟨g2, 0, none⟩), .slice A l.length c] w fun e w' => e = .returned (.tuple #[]) ∧ RefPost w w' B g2 F2 R 0 := by
  obtain ⟨_, _, _, h⟩ := h
  exact (rLose_calls h hok A c l hC).mono fun e w' ⟨he, ⟨_, h1⟩, h2⟩ => ⟨he, _, _, fun _ h => .inl h, ⟨_, _, _, h1⟩, rloseM_ok l hok, (rloseM_same l).2.1, (rloseM_same l).1, h2⟩
theorem rPost_start (h : RefAt w B g2 F2 R) (hok : ROk R) : Calls Try.prog 44 #[.pointer (some ⟨g2, 0, none⟩)] w fun e w' => e = .returned (.tuple #[]) ∧ RefPost w w' B g2 F2 R 0 := by
  obtain ⟨_, _, _, h⟩ := h
  exact (rStart_calls h).mono fun e w' ⟨he, h1, h2⟩ => ⟨he, _, _, fun _ h => .inl h, ⟨_, _, _, h1⟩, ⟨hok.at_, hok.s64, hok.w64, hok.n1, hok.n2, by simp [rstartM], by simp [rstartM]⟩, Nat.le_refl _, rfl, h2⟩
theorem rPost_save (h : RefAt w B g2 F2 R) (hok : ROk R) (hB : B ≤ w.heap.size) (k : Int) (A : Option Addr) (c : Nat) (x : List Int) (hx : x.length ≤ 1000000000) (hxc : x.length ≤ c) (hn : R.wait.length + x.length < 9000000) (hC : ∀ W, Upd w W F2 → Kd.C (Kd.int .u8) W A x.length x) :
    Calls Try.prog 47 #[.pointer (some ⟨g2, 0, none⟩), .int .i64 k, .slice A x.length c] w fun e w' => Num e ∧ RefPost w w' B g2 F2 R x.length := by
  obtain ⟨_, _, _, h⟩ := h
  exact rSave_calls h hok hB k A c x hx hxc hn hC
theorem rRead (h : RefAt w B g2 F2 R) (hok : ROk R) (k : Int) : Calls Try.prog 45 #[.pointer (some ⟨g2, 0, none⟩), .int .i64 k] w fun e w' => TwoRead w w' e := by
  obtain ⟨_, _, _, h⟩ := h
  refine (rRead_calls h hok k).mono ?_
  rintro e w' ⟨v, b, n, rfl, hr, rfl, _⟩
  exact ⟨v, b, n, rfl, hr, Below.refl _ _⟩
theorem rLoad (h : RefAt w B g2 F2 R) (hok : ROk R) (k n : Int) : Calls Try.prog 46 #[.pointer (some ⟨g2, 0, none⟩), .int .i64 k, .int .i64 n] w fun e w' => TwoRead w w' e := by
  obtain ⟨_, _, _, h⟩ := h
  exact rLoad_calls h hok k n
end Go.Proofs.Ytfimeiicidcoiaa.Dk
