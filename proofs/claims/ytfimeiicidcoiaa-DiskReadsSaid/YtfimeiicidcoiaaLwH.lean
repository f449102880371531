/- The law DiskReads. -/
import Derived.Test.YtfimeiicidcoiaaPlA
namespace Go.Proofs.Ytfimeiicidcoiaa.Dk
open Go.RowKit Go.Proofs.YtfimeiicidcoiaaW.PrintWords Go.Proofs.YtfimeiicidcoiaaW.PrintLast Go.Proofs.YtfimeiicidcoiaaW.PrintMore
set_option linter.unusedVariables false
set_option linter.unusedSimpArgs false
variable {w0 w w' : World} {g : Nat} {F : Nat → Prop} {D : DM}
theorem sSave (h : St w0 w g F D) (hok : DOk D) (hn : D.held.length + 20000 ≤ 10000000) (k : Int) (A : Option Addr) (c : Nat) (x : List Int) (hx : x.length ≤ 1000000000) (hxc : x.length ≤ c) (hC : ∀ W, Below w0.heap.size w0 W → Kd.C (Kd.int .u8) W A x.length x) :
    Calls Try.prog 22 #[.pointer (some ⟨g, 0, none⟩), .int .i64 k, .slice A x.length c] w fun e w' => e = .returned (.int .i64 (saveM D k x).2) ∧ SPost w0 w w' g F (saveM D k x).1 :=
  (dSave h.d hok hn k A c x hx hxc (fun W hW => hC W (below_upd h.b hW h.d.lo))).mono fun e w' ⟨he, hp⟩ => ⟨he, h.call hp⟩
/-- What was saved is loaded. -/
theorem sLoad (h : St w0 w g F D) (hok : DOk D) (k : Int) (x : List Int) (hx : x.length ≤ 1000000) (hd : D.down = false) (hs : spanM D k x.length = 0) (hr : ∀ i, i < (x.length + 63) / 64 → readM D (k + (i : Nat)) = secAt x i) :
    Calls Try.prog 23 #[.pointer (some ⟨g, 0, none⟩), .int .i64 k, .int .i64 x.length] w fun e w' => ∃ A, e = .returned (.tuple #[.slice A x.length x.length, .int .i64 0]) ∧ Kd.C (Kd.int .u8) w' A x.length x ∧ Below w.heap.size w w' := by
  have he : loadE D k x.length = 0 := by
    unfold loadE
    rw [hd, if_neg (by decide), if_neg (by omega), hs]
  obtain ⟨⟨_, _, _, h⟩, _⟩ := h
  refine (Load_calls h hok k x.length (by omega) he).mono ?_
  rintro e w' ⟨A, rfl, hC, hb⟩
  rw [saved_reads hr] at hC
  exact ⟨A, rfl, hC, hb⟩
set_option maxHeartbeats 16000000 in
theorem Reads_calls (A A2 A4 : Option Addr) (c c2 c4 : Nat) (y : List Int) (n at_ : Int) (l : List OpM) (x : List Int) (fl : Bool) (h : Args w A c y A2 l) (hc4 : x.length ≤ c4) (hC4 : Kd.C (Kd.int .u8) w A4 x.length x) :
    Calls Try.prog 5 #[.slice A y.length c, .int .i64 n, .slice A2 l.length c2, .int .i64 at_, .slice A4 x.length c4, .bool fl] w fun e w' => Tru w w' e := by
  have HM := Aside0.mk (sMade A c y n A2 c2 l h.xc h.C h.O h.l)
  have HC4 := Aside0.mk (show ∀ W, Below w.heap.size w W → Kd.C (Kd.int .u8) W A4 x.length x from fun W hW => Kd.C_below hC4 hW)
  have HL4 := Aside0.mk hc4
  clear h hC4 hc4
  by_cases hx : 1000 < x.length
  · go_enter Try.func5, Try.ntmps5
    go_wp2_with (first | (go_at_call 9; refine HM.out.mono ?_; rintro e w1 (⟨rfl, hb⟩ | ⟨g, F, D, rfl, hs, hok, hh, h1, h2⟩) <;> skip) | (go_at_call 11; refine (sKnown hb).mono ?_; rintro e w2 ⟨rfl, hb2⟩) | (go_at_call 11; refine (sKnown hs.b).mono ?_; rintro e w2 ⟨rfl, hb2⟩))
    all_goals go_ret
    all_goals exact ⟨rfl, hb2⟩
  go_enter Try.func5, Try.ntmps5
  go_wp2_with (first | (go_at_call 9; refine HM.out.mono ?_; rintro e w1 (⟨rfl, hb⟩ | ⟨g, F, D, rfl, hs, hok, hh, h1, h2⟩) <;> skip) | (go_at_call 11; refine (sKnown hb).mono ?_; rintro e w2 ⟨rfl, hb2⟩))
  · go_ret
    exact ⟨rfl, hb2⟩
  have HS := Aside0.mk hs
  have HK := Aside0.mk hok
  have HH := Aside0.mk hh
  obtain ⟨S, hS⟩ : ∃ S, D.sec.length = S := ⟨_, rfl⟩
  rw [hS] at h1 h2
  have HSZ := Lib.hid (show (startM D).sec.length = S from hS)
  clear hs hok hh hS
  obtain ⟨hk0, hk1⟩ := amongM_lt at_ ((S : Int) + 1) (by omega)
  obtain ⟨k, hk⟩ : ∃ k, amongM at_ ((S : Int) + 1) = k := ⟨_, rfl⟩
  rw [hk] at hk0 hk1
  have HKK := Lib.hid hk
  clear hk
  have HK1 := Aside0.mk (startM_ok HK.out)
  have HCS := Aside0.mk (calm_save (x := x) (calm_start D) hk0 (by rw [HSZ.out]; omega))
  rcases HCS.out with ⟨he, hm⟩ | ⟨he, hm, hsame⟩
  · have HE := Lib.hid he
    have HD := Aside0.mk (calm_saved (calm_start D) hk0 (by rw [HSZ.out]; omega) he)
    have HK2 := Aside0.mk (saveM_ok (k := k) (x := x) HK1.out (by have := HH.out; show D.held.length + _ ≤ _; omega))
    clear he hm
    cases fl with
    | false =>
      go_wp2_with (first | (go_at_call 12; refine (sStart HS.out).mono ?_; rintro e w2 ⟨rfl, F2, hs2, _⟩; have HS2 := Aside0.mk hs2; clear hs2) | (go_at_call 21; refine (sSize HS2.out).mono ?_; rintro e w3 ⟨rfl, rfl⟩; rw [HSZ.out]) | (go_at_call 20; refine (Among_calls at_ ((S : Int) + 1) (by omega) (by omega)).mono ?_; rintro e w3 ⟨rfl, rfl⟩; rw [HKK.out]))
      go_wp2_with (first | (go_at_call 22; refine (sSave HS2.out HK1.out (by have := HH.out; show D.held.length + _ ≤ _; omega) k A4 c4 x (by omega) HL4.out HC4.out).mono ?_; rintro e w4 ⟨rfl, F4, hs4, _⟩; rw [HE.out]; have HS4 := Aside0.mk hs4; clear hs4) | (go_at_call 23; refine (sLoad HS4.out HK2.out k x (by omega) HD.out.1.down HD.out.2.2.1 HD.out.2.2.2).mono ?_; rintro e w5 ⟨A5, rfl, hC5, hb5⟩; have HC5 := Aside0.mk hC5; have HS5 := Aside0.mk (HS4.out.below hb5); clear hC5 hb5) | (go_at_call 16; refine (Same_calls A4 c4 x A5 x.length x (HC4.out _ HS5.out.b) HC5.out).mono ?_; rintro e w6 ⟨rfl, rfl⟩; rw [sameM_refl]) | (go_at_call 11; refine (sKnown HS5.out.b).mono ?_; rintro e w7 ⟨rfl, hb7⟩))
      go_ret
      exact ⟨rfl, hb7⟩
    | true =>
      have HFL := Aside0.mk (calm_flush HD.out.1)
      have HFE := Lib.hid HFL.out.1
      have HK3 := Aside0.mk (flushM_ok HK2.out)
      have HSP := Aside0.mk (show spanM (flushM (saveM (startM D) k x).1).1 k x.length = 0 from by
        have h := HD.out.2.2.1
        unfold spanM at h ⊢
        rw [HFL.out.2.2.2.down]
        rw [HD.out.1.down] at h
        rw [HFL.out.2.2.1, putsTo_length]
        exact h)
      have HRD := Aside0.mk (show ∀ i, i < (x.length + 63) / 64 → readM (flushM (saveM (startM D) k x).1).1 (k + (i : Nat)) = secAt x i from fun i hi => by
        rw [flush_read HD.out.1 HK2.out (by omega)]
        exact HD.out.2.2.2 i hi)
      go_wp2_with (first | (go_at_call 12; refine (sStart HS.out).mono ?_; rintro e w2 ⟨rfl, F2, hs2, _⟩; have HS2 := Aside0.mk hs2; clear hs2) | (go_at_call 21; refine (sSize HS2.out).mono ?_; rintro e w3 ⟨rfl, rfl⟩; rw [HSZ.out]) | (go_at_call 20; refine (Among_calls at_ ((S : Int) + 1) (by omega) (by omega)).mono ?_; rintro e w3 ⟨rfl, rfl⟩; rw [HKK.out]))
      go_wp2_with (first | (go_at_call 22; refine (sSave HS2.out HK1.out (by have := HH.out; show D.held.length + _ ≤ _; omega) k A4 c4 x (by omega) HL4.out HC4.out).mono ?_; rintro e w4 ⟨rfl, F4, hs4, _⟩; rw [HE.out]; have HS4 := Aside0.mk hs4; clear hs4) | (go_at_call 13; refine (sFlush HS4.out HK2.out).mono ?_; rintro e w8 ⟨rfl, F8, hs8, _⟩; rw [HFE.out]; have HS8 := Aside0.mk hs8; clear hs8) | (go_at_call 23; refine (sLoad HS8.out HK3.out k x (by omega) HFL.out.2.2.2.down HSP.out HRD.out).mono ?_; rintro e w5 ⟨A5, rfl, hC5, hb5⟩; have HC5 := Aside0.mk hC5; have HS5 := Aside0.mk (HS8.out.below hb5); clear hC5 hb5) | (go_at_call 16; refine (Same_calls A4 c4 x A5 x.length x (HC4.out _ HS5.out.b) HC5.out).mono ?_; rintro e w6 ⟨rfl, rfl⟩; rw [sameM_refl]) | (go_at_call 11; refine (sKnown HS5.out.b).mono ?_; rintro e w7 ⟨rfl, hb7⟩))
      go_ret
      exact ⟨rfl, hb7⟩
  · have HE := Lib.hid he
    have HSZ2 := Lib.hid (show (saveM (startM D) k x).1.sec.length = S by rw [hsame]; exact HSZ.out)
    have hm2 : 64 * ((S : Int) - k) < (x.length : Int) := by rw [HSZ.out] at hm; exact hm
    clear he hm hsame
    go_wp2_with (first | (go_at_call 12; refine (sStart HS.out).mono ?_; rintro e w2 ⟨rfl, F2, hs2, _⟩; have HS2 := Aside0.mk hs2; clear hs2) | (go_at_call 21; refine (sSize HS2.out).mono ?_; rintro e w3 ⟨rfl, rfl⟩; rw [HSZ.out]) | (go_at_call 20; refine (Among_calls at_ ((S : Int) + 1) (by omega) (by omega)).mono ?_; rintro e w3 ⟨rfl, rfl⟩; rw [HKK.out]))
    go_wp2_with (first | (go_at_call 22; refine (sSave HS2.out HK1.out (by have := HH.out; show D.held.length + _ ≤ _; omega) k A4 c4 x (by omega) HL4.out HC4.out).mono ?_; rintro e w4 ⟨rfl, F4, hs4, _⟩; rw [HE.out]; have HS4 := Aside0.mk hs4; clear hs4) | (go_at_call 21; refine (sSize HS4.out).mono ?_; rintro e w5 ⟨rfl, rfl⟩; rw [HSZ2.out]) | (go_at_call 11; refine (sKnown HS4.out.b).mono ?_; rintro e w7 ⟨rfl, hb7⟩))
    go_ret
    exact ⟨rfl, hb7⟩
end Go.Proofs.Ytfimeiicidcoiaa.Dk
