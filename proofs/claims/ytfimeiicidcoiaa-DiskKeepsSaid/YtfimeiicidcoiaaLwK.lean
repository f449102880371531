/- The law DiskKeeps. -/
import Derived.Test.YtfimeiicidcoiaaLwG
namespace Go.Proofs.Ytfimeiicidcoiaa.Dk
open Go.RowKit Go.Proofs.YtfimeiicidcoiaaW.PrintWords Go.Proofs.YtfimeiicidcoiaaW.PrintLast Go.Proofs.YtfimeiicidcoiaaW.PrintMore
set_option linter.unusedVariables false
set_option linter.unusedSimpArgs false
variable {w : World}
/-- Flushed: started anew, all held writes put. -/
def cleanM (D : DM) : DM := (flushM (startM D)).1
theorem clean_flush (D : DM) : (flushM (startM D)).2 = 0 := by simp [flushM, startM, goesM]
theorem clean_held (D : DM) : (cleanM D).held = [] ∧ (cleanM D).down = false ∧ (cleanM D).set = false := by simp [cleanM, flushM, startM, goesM, putsM]
theorem lost_sec {D : DM} (l : List Bool) (h : D.held = []) : (loseM l D).sec = D.sec ∧ (loseM l D).held = [] := by
  unfold loseM
  split
  · exact ⟨rfl, h⟩
  · exact ⟨by simp [putsM, h, putsTo], rfl⟩
theorem keeps_bytes (D : DM) (l : List Bool) : bytesM (startM (loseM l (cleanM D))) = bytesM (cleanM D) := by
  have := (lost_sec l (clean_held D).1).1
  simp only [bytesM, startM, this]
theorem keeps_held (D : DM) (l : List Bool) : (startM (loseM l (cleanM D))).held = [] := (lost_sec l (clean_held D).1).2
set_option maxHeartbeats 16000000 in
theorem Keeps_calls (A A2 A3 : Option Addr) (c c2 c3 : Nat) (x : List Int) (n : Int) (l : List OpM) (ch : List Bool) (h : Args w A c x A2 l) (hc3 : ch.length ≤ c3) (hC3 : Kd.C Kd.bool w A3 ch.length ch) :
    Calls Try.prog 3 #[.slice A x.length c, .int .i64 n, .slice A2 l.length c2, .slice A3 ch.length c3] w fun e w' => Tru w w' e := by
  have HM := Aside0.mk (sMade A c x n A2 c2 l h.xc h.C h.O h.l)
  have HC3 := Aside0.mk (show ∀ W, Below w.heap.size w W → Kd.C Kd.bool W A3 ch.length ch from fun W hW => Kd.C_below hC3 hW)
  have HL3 := Aside0.mk hc3
  clear h hC3 hc3
  go_enter Try.func3, Try.ntmps3
  go_wp2_with (first | (go_at_call 9; refine HM.out.mono ?_; rintro e w1 (⟨rfl, hb⟩ | ⟨g, F, D, rfl, hs, hok, hh, h1, h2⟩) <;> skip) | (go_at_call 11; refine (sKnown hb).mono ?_; rintro e w2 ⟨rfl, hb2⟩))
  · go_ret
    exact ⟨rfl, hb2⟩
  have HS := Aside0.mk hs
  have HK := Aside0.mk hok
  clear hs hok hh h1 h2
  cases hd : D.down with
  | true =>
    have HD := Lib.hid hd
    clear hd
    go_wp2_with (first | (go_at_call 10; refine (sUp HS.out).mono ?_; rintro e w2 ⟨rfl, rfl⟩; rw [HD.out]) | (go_at_call 11; refine (sKnown HS.out.b).mono ?_; rintro e w2 ⟨rfl, hb2⟩))
    go_ret
    exact ⟨rfl, hb2⟩
  | false =>
    have HD := Lib.hid hd
    clear hd
    by_cases h5 : 5000 < ch.length
    · go_wp2_with (first | (go_at_call 10; refine (sUp HS.out).mono ?_; rintro e w2 ⟨rfl, rfl⟩; rw [HD.out]) | (go_at_call 11; refine (sKnown HS.out.b).mono ?_; rintro e w2 ⟨rfl, hb2⟩))
      go_ret
      exact ⟨rfl, hb2⟩
    · have HF := Lib.hid (clean_flush D)
      have HK1 := Aside0.mk (startM_ok HK.out)
      have HK2 := Aside0.mk (show DOk (cleanM D) from flushM_ok HK1.out)
      have HK3 := Aside0.mk (loseM_ok ch HK2.out)
      have HK4 := Aside0.mk (startM_ok HK3.out)
      have HQ := Lib.hid (keeps_bytes D ch)
      have HQ2 := Lib.hid (keeps_held D ch)
      go_wp2_with (first | (go_at_call 10; refine (sUp HS.out).mono ?_; rintro e w2 ⟨rfl, rfl⟩; rw [HD.out]) | (go_at_call 12; refine (sStart HS.out).mono ?_; rintro e w2 ⟨rfl, F2, hs2, _⟩; have HS2 := Aside0.mk hs2; clear hs2) | (go_at_call 13; refine (sFlush HS2.out HK1.out).mono ?_; rintro e w3 ⟨rfl, F3, hs3, _⟩; rw [HF.out]; have HS3 := Aside0.mk (show St w w3 g F3 (cleanM D) from hs3); clear hs3) | (go_at_call 14; refine (sBytes HS3.out HK2.out).mono ?_; rintro e w4 ⟨A4, c4, rfl, hr4, hb4⟩; have HR4 := Aside0.mk hr4; have HS4 := Aside0.mk (HS3.out.below hb4); clear hr4 hb4) | (go_at_call 15; refine (sLose HS4.out HK2.out A3 c3 ch HL3.out HC3.out).mono ?_; rintro e w5 ⟨rfl, F5, hs5, hr5⟩; have HS5 := Aside0.mk hs5; have HR5 := Aside0.mk (hr5 _ _ HR4.out); clear hs5 hr5))
      go_wp2_with (first | (go_at_call 12; refine (sStart HS5.out).mono ?_; rintro e w6 ⟨rfl, F6, hs6, hr6⟩; have HS6 := Aside0.mk hs6; have HR6 := Aside0.mk (hr6 _ _ HR5.out); clear hs6 hr6) | (go_at_call 14; refine (sBytes HS6.out HK4.out).mono ?_; rintro e w7 ⟨A7, c7, rfl, hr7, hb7⟩; have HR7 := Aside0.mk hr7; have HS7 := Aside0.mk (HS6.out.below hb7); have HR47 := Aside0.mk (HR6.out.below hb7); clear hr7 hb7) | (go_at_call 16; refine (Same_calls A7 c7 _ A4 c4 _ HR7.out.C HR47.out.C).mono ?_; rintro e w8 ⟨rfl, rfl⟩; rw [HQ.out, sameM_refl]) | (go_at_call 17; refine (sHeld HS7.out).mono ?_; rintro e w9 ⟨rfl, rfl⟩; rw [HQ2.out]) | (go_at_call 10; refine (sUp HS7.out).mono ?_; rintro e w10 ⟨rfl, rfl⟩) | (go_at_call 11; refine (sKnown HS7.out.b).mono ?_; rintro e w11 ⟨rfl, hb11⟩))
      go_ret
      exact ⟨rfl, hb11⟩
end Go.Proofs.Ytfimeiicidcoiaa.Dk
