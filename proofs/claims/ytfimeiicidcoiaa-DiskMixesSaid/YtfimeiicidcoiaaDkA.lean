/- Contracts of package disk's small methods: Up, Strokes, Held, Size, ready, at, Start, goes. -/
import Derived.Test.YtfimeiicidcoiaaDkBase
namespace Go.Proofs.Ytfimeiicidcoiaa.Dk
open Go.RowKit Go.Proofs.YtfimeiicidcoiaaW.PrintWords Go.Proofs.YtfimeiicidcoiaaW.PrintLast Go.Proofs.YtfimeiicidcoiaaW.PrintMore
set_option linter.unusedVariables false
set_option linter.unusedSimpArgs false
variable {w : World} {B g : Nat} {F : Nat → Prop} {D : DM} {vs vh vc : Value}

theorem Up_calls (h : DAt w B g F D vs vh vc) : Calls Try.prog 10 #[.pointer (some ⟨g, 0, none⟩)] w fun e w' => e = .returned (.bool (!D.down)) ∧ w = w' := by
  have h2 := h.c2
  clear h
  go_enter Try.func10, Try.ntmps10
  go_wp2
  go_ret
  exact ⟨rfl, rfl⟩
theorem Strokes_calls (h : DAt w B g F D vs vh vc) : Calls Try.prog 26 #[.pointer (some ⟨g, 0, none⟩)] w fun e w' => e = .returned (.int .i64 D.strokes) ∧ w = w' := by
  have h2 := h.c3
  clear h
  go_enter Try.func26, Try.ntmps26
  go_wp2
  go_ret
  exact ⟨rfl, rfl⟩
theorem Held_calls (h : DAt w B g F D vs vh vc) : Calls Try.prog 17 #[.pointer (some ⟨g, 0, none⟩)] w fun e w' => e = .returned (.int .i64 (D.held.length : Int)) ∧ w = w' := by
  obtain ⟨A, c, rfl, _⟩ := Kd.R_reads h.held
  have h2 := h.c1
  clear h
  go_enter Try.func17, Try.ntmps17
  go_wp2
  go_ret
  exact ⟨rfl, rfl⟩
theorem Size_calls (h : DAt w B g F D vs vh vc) : Calls Try.prog 21 #[.pointer (some ⟨g, 0, none⟩)] w fun e w' => e = .returned (.int .i64 (D.sec.length : Int)) ∧ w = w' := by
  obtain ⟨A, c, rfl, _⟩ := Kd.R_reads h.sec
  have h2 := h.c0
  clear h
  go_enter Try.func21, Try.ntmps21
  go_wp2
  go_ret
  exact ⟨rfl, rfl⟩
def readyM (D : DM) : Int := if D.down = true then 60 else 0
theorem ready_calls (h : DAt w B g F D vs vh vc) : Calls Try.prog 31 #[.pointer (some ⟨g, 0, none⟩)] w fun e w' => e = .returned (.int .i64 (readyM D)) ∧ w = w' := by
  have h2 := h.c2
  clear h
  cases hd : D.down with
  | true =>
    rw [hd] at h2
    have hr := Lib.hid (show readyM D = 60 by simp [readyM, hd])
    clear hd
    go_enter Try.func31, Try.ntmps31
    go_wp2
    go_ret
    exact ⟨by rw [hr.out] <;> rfl, rfl⟩
  | false =>
    rw [hd] at h2
    have hr := Lib.hid (show readyM D = 0 by simp [readyM, hd])
    clear hd
    go_enter Try.func31, Try.ntmps31
    go_wp2
    go_ret
    exact ⟨by rw [hr.out] <;> rfl, rfl⟩
def atM (D : DM) (k : Int) : Int := if D.down = true then 60 else if k < 0 ∨ (D.sec.length : Int) ≤ k then 61 else 0
theorem at_calls (h : DAt w B g F D vs vh vc) (k : Int) : Calls Try.prog 36 #[.pointer (some ⟨g, 0, none⟩), .int .i64 k] w fun e w' => e = .returned (.int .i64 (atM D k)) ∧ w = w' := by
  have H := Aside0.mk h
  obtain ⟨A, c, rfl, _⟩ := Kd.R_reads h.sec
  have h2 := h.c0
  clear h
  cases hd : D.down with
  | true =>
    have hr := Lib.hid (show atM D k = 60 by simp [atM, hd])
    have hq := Lib.hid (show readyM D = 60 by simp [readyM, hd])
    clear hd
    go_enter Try.func36, Try.ntmps36
    go_wp2_with (first | (go_at_call 31; refine (ready_calls H.out).mono ?_; rintro e w' ⟨rfl, rfl⟩; rw [hq.out]))
    go_ret
    exact ⟨by rw [hr.out] <;> rfl, rfl⟩
  | false =>
    have hq := Lib.hid (show readyM D = 0 by simp [readyM, hd])
    by_cases hk : k < 0
    · have hr := Lib.hid (show atM D k = 61 by simp [atM, hd, hk])
      clear hd
      go_enter Try.func36, Try.ntmps36
      go_wp2_with (first | (go_at_call 31; refine (ready_calls H.out).mono ?_; rintro e w' ⟨rfl, rfl⟩; rw [hq.out]))
      go_ret
      exact ⟨by rw [hr.out] <;> rfl, rfl⟩
    · by_cases hk2 : (D.sec.length : Int) ≤ k
      · have hr := Lib.hid (show atM D k = 61 by simp [atM, hd, hk2])
        clear hd
        go_enter Try.func36, Try.ntmps36
        go_wp2_with (first | (go_at_call 31; refine (ready_calls H.out).mono ?_; rintro e w' ⟨rfl, rfl⟩; rw [hq.out]))
        go_ret
        exact ⟨by rw [hr.out] <;> rfl, rfl⟩
      · have hr := Lib.hid (show atM D k = 0 by simp [atM, hd, hk, hk2])
        clear hd
        go_enter Try.func36, Try.ntmps36
        go_wp2_with (first | (go_at_call 31; refine (ready_calls H.out).mono ?_; rintro e w' ⟨rfl, rfl⟩; rw [hq.out]))
        go_ret
        exact ⟨by rw [hr.out] <;> rfl, rfl⟩
def startM (D : DM) : DM := { D with down := false, set := false, choice := [] }
theorem Start_calls (h : DAt w B g F D vs vh vc) : Calls Try.prog 12 #[.pointer (some ⟨g, 0, none⟩)] w fun e w' => e = .returned (.tuple #[]) ∧ DiskAt w' B g F (startM D) ∧ Upd w w' F := by
  have H := Aside0.mk h
  have hf := h.free
  have h2 := h.c2
  have h5 := h.c5
  have h6 := h.c6
  clear h
  go_enter Try.func12, Try.ntmps12
  go_wp2
  have H1 := H.out.putDown false
  have H2 := H1.putSet false
  have H3 := H2.putChoice (.slice none 0 0) [] (Kd.R_nil _ _ _ _ _)
  have HU := ((H.out.upd 2 (.bool false)).trans (H1.upd 5 (.bool false)) (fun _ h => .inl h)).trans (H2.upd 6 (.slice none 0 0)) (fun _ h => .inl h)
  go_end0
  exact ⟨rfl, ⟨_, _, _, H3⟩, HU⟩
def goesM (D : DM) : DM × Bool :=
  if D.set = false then ({ D with strokes := wrap64 (D.strokes + 1) }, false) else if D.left > 0 then ({ D with strokes := wrap64 (D.strokes + 1), left := D.left - 1 }, false) else ({ D with strokes := wrap64 (D.strokes + 1) }, true)
theorem goes_calls (h : DAt w B g F D vs vh vc) (hl : D.left ≤ 9223372036854775807) : Calls Try.prog 32 #[.pointer (some ⟨g, 0, none⟩)] w fun e w' => e = .returned (.bool (goesM D).2) ∧ DAt w' B g F (goesM D).1 vs vh vc ∧ Upd w w' F := by
  have H := Aside0.mk h
  have hf := h.free
  have h3 := h.c3
  have h4 := h.c4
  have h5 := h.c5
  have H1 := Aside0.mk (h.putStrokes (wrap64 (D.strokes + 1)))
  have HU := Aside0.mk (h.upd 3 (.int .i64 (wrap64 (D.strokes + 1))))
  clear h
  cases hs : D.set with
  | false =>
    rw [hs] at h5
    have hq := Lib.hid (show goesM D = ({ D with strokes := wrap64 (D.strokes + 1) }, false) by simp [goesM, hs])
    clear hs
    go_enter Try.func32, Try.ntmps32
    go_wp2
    go_ret
    exact ⟨by rw [hq.out] <;> rfl, by rw [hq.out]; exact H1.out, HU.out⟩
  | true =>
    rw [hs] at h5
    by_cases h0 : D.left > 0
    · have hq := Lib.hid (show goesM D = ({ D with strokes := wrap64 (D.strokes + 1), left := D.left - 1 }, false) by simp [goesM, hs, h0])
      clear hs
      have H2 := Aside0.mk (H1.out.putLeft (D.left - 1))
      have HU2 := Aside0.mk (HU.out.trans (H1.out.upd 4 (.int .i64 (D.left - 1))) (fun _ h => .inl h))
      go_enter Try.func32, Try.ntmps32
      go_wp2
      go_ret
      exact ⟨by rw [hq.out] <;> rfl, by rw [hq.out]; exact H2.out, HU2.out⟩
    · have hq := Lib.hid (show goesM D = ({ D with strokes := wrap64 (D.strokes + 1) }, true) by simp [goesM, hs, h0])
      clear hs
      go_enter Try.func32, Try.ntmps32
      go_wp2
      go_ret
      exact ⟨by rw [hq.out] <;> rfl, by rw [hq.out]; exact H1.out, HU.out⟩
end Go.Proofs.Ytfimeiicidcoiaa.Dk
