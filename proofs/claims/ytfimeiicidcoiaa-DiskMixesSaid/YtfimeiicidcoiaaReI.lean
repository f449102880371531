/- The reference's span and Load. -/
import Derived.Test.YtfimeiicidcoiaaReH
namespace Go.Proofs.Ytfimeiicidcoiaa.Dk
open Go.RowKit Go.Proofs.YtfimeiicidcoiaaW.PrintWords Go.Proofs.YtfimeiicidcoiaaW.PrintLast Go.Proofs.YtfimeiicidcoiaaW.PrintMore
set_option linter.unusedVariables false
set_option linter.unusedSimpArgs false
variable {w w1 : World} {B g : Nat} {F G : Nat → Prop} {R : RM} {vs vh vc : Value}
def rspanM (R : RM) (k n : Int) : Int := if R.down = true then 60 else if k < 0 ∨ (R.sec.length : Int) < k ∨ 64 * ((R.sec.length : Int) - k) < n then 61 else 0
set_option maxHeartbeats 8000000 in
theorem rspan_calls (h : RAt w B g F R vs vh vc) (hok : ROk R) (k n : Int) :
    Calls Try.prog 50 #[.pointer (some ⟨g, 0, none⟩), .int .i64 k, .int .i64 n] w fun e w' => e = .returned (.int .i64 (rspanM R k n)) ∧ w = w' := by
  obtain ⟨As, cs, rfl, hsl, _⟩ := Kd.R_reads h.sec
  have h0 := h.c0
  have h2 := h.c2
  have hn1 := hok.n1
  clear h hok hsl
  cases hd : R.down with
  | true =>
    rw [hd] at h2
    have hq := Lib.hid (show rspanM R k n = 60 by simp [rspanM, hd])
    clear hd
    go_enter Try.func50, Try.ntmps50
    go_wp2
    go_ret
    exact ⟨by rw [hq.out] <;> rfl, rfl⟩
  | false =>
    rw [hd] at h2
    by_cases hk : k < 0
    · have hq := Lib.hid (show rspanM R k n = 61 by simp [rspanM, hd, hk])
      clear hd
      go_enter Try.func50, Try.ntmps50
      go_wp2
      go_ret
      exact ⟨by rw [hq.out] <;> rfl, rfl⟩
    by_cases hk2 : (R.sec.length : Int) < k
    · have hq := Lib.hid (show rspanM R k n = 61 by simp [rspanM, hd, hk2])
      clear hd
      go_enter Try.func50, Try.ntmps50
      go_wp2
      go_ret
      exact ⟨by rw [hq.out] <;> rfl, rfl⟩
    by_cases hk3 : 64 * ((R.sec.length : Int) - k) < n
    · have hq := Lib.hid (show rspanM R k n = 61 by simp [rspanM, hd, hk3])
      clear hd
      go_enter Try.func50, Try.ntmps50
      go_wp2
      go_ret
      exact ⟨by rw [hq.out] <;> rfl, rfl⟩
    · have hq := Lib.hid (show rspanM R k n = 0 by simp [rspanM, hd, hk, hk2, hk3])
      clear hd
      go_enter Try.func50, Try.ntmps50
      go_wp2
      go_ret
      exact ⟨by rw [hq.out] <;> rfl, rfl⟩
theorem rspan0 {k n : Int} (h : rspanM R k n = 0) : R.down = false ∧ 0 ≤ k ∧ k ≤ R.sec.length ∧ n ≤ 64 * ((R.sec.length : Int) - k) := by
  unfold rspanM at h
  cases hd : R.down with
  | true => rw [hd] at h; simp at h
  | false =>
    rw [hd] at h
    by_cases hc : k < 0 ∨ (R.sec.length : Int) < k ∨ 64 * ((R.sec.length : Int) - k) < n
    · simp [hc] at h
    · refine ⟨rfl, ?_, ?_, ?_⟩ <;> omega
theorem there0 {k : Int} (hd : R.down = false) (h0 : 0 ≤ k) (h1 : k < R.sec.length) : thereM R k = 0 := by
  unfold thereM
  rw [hd, if_neg (by decide), if_neg (by omega)]
def TwoRead (w w' : World) (e : Ending) : Prop := ∃ v b q, e = .returned (.tuple #[v, .int .i64 q]) ∧ Reads w' v b ∧ Below w.heap.size w w'
set_option maxHeartbeats 8000000 in
theorem rLoad_calls (h : RAt w B g F R vs vh vc) (hok : ROk R) (k n : Int) :
    Calls Try.prog 46 #[.pointer (some ⟨g, 0, none⟩), .int .i64 k, .int .i64 n] w fun e w' => TwoRead w w' e := by
  have H := Aside0.mk h
  have HOK := Aside0.mk hok
  have h2 := h.c2
  have hn1 := hok.n1
  clear h hok
  cases hd : R.down with
  | true =>
    rw [hd] at h2
    clear hd
    go_enter Try.func46, Try.ntmps46
    go_wp2
    refine bodyPost_ret (results_tmp2 rfl _ _ _) rfl ?_
    exact ⟨_, [], 60, rfl, Reads.nil _, Below.refl _ _⟩
  | false =>
    rw [hd] at h2
    clear hd
    by_cases hn : n < 0
    · go_enter Try.func46, Try.ntmps46
      go_wp2
      refine bodyPost_ret (results_tmp2 rfl _ _ _) rfl ?_
      exact ⟨_, [], 1, rfl, Reads.nil _, Below.refl _ _⟩
    · by_cases ha : rspanM R k n = 0
      · have HA := Aside0.mk ha
        obtain ⟨hd, hk0, hk1, hk2⟩ := rspan0 ha
        have HD := Aside0.mk hd
        clear ha hd
        go_enter Try.func46, Try.ntmps46
        go_wp2_with (first | (go_at_call 50; refine (rspan_calls H.out HOK.out k n).mono ?_; rintro e w' ⟨rfl, rfl⟩; rw [HA.out]))
        go_loopw [1, 9] (fun v1 v9 w' => ∃ (i : Nat) (xs : List Int), v1 = .int .i64 (k + i) ∧ xs.length = 64 * i ∧ (i : Int) ≤ R.sec.length - k ∧ Aside0 (Kd.R (Kd.int .u8) 5 w' w.heap.size (fun k => w.heap.size ≤ k) v9 xs) ∧ Aside0 (Below w.heap.size w w') ∧ ∃ A c, v9 = .slice A xs.length c) (fun _ v9 _ => (n - (match v9 with | .slice _ m _ => (m : Int) | _ => 0)).toNat)
        case atStart => exact ⟨0, [], by simp, rfl, by omega, ⟨Kd.R_nil _ _ _ _ _⟩, ⟨Below.refl _ _⟩, none, 0, rfl⟩
        case round =>
          obtain ⟨i, xs, rfl, hl, hi, HR, HB, A9, c9, rfl⟩ := hrel
          by_cases hlt : (xs.length : Int) < n
          · have HT := Aside0.mk (there0 (R := R) (k := k + i) HD.out (by omega) (by omega))
            have HLX := Aside0.mk hl
            have hxb : xs.length ≤ 1048576 := by omega
            clear hl
            have HW := Aside0.mk (H.out.below HB.out)
            clear h2
            go_wp2_with (first | (go_at_call 45; refine (rRead_calls HW.out HOK.out (k + i)).mono ?_; rintro e w3 ⟨v3, b3, n3, rfl, ⟨A3, c3, rfl, hc3, hC3⟩, rfl, hb3⟩; have HC3 := Aside0.mk hC3; have HB3 := Aside0.mk (hb3 HT.out); clear hC3 hb3 hc3) | ((with_reducible refine gate_builtin (b := .append) (xs := #[.tmp 35, .tmp 36]) rfl ?_); at_builtin; refine Kd.R_append_rows (Kd.int .u8) (Rr := (Kd.int .u8).K w) (w0 := w) w.heap.size rfl (.tmp 35) (.tmp 36) 22 5 (.int .u8 0) 1 rfl Try.underlying22 info5 rfl (by decide) (by omega) _ xs b3 A3 b3.length c3 (fun k => w.heap.size ≤ k) (fun _ => False) rfl rfl HR.out HC3.out (fun _ _ h => h) (fun _ h => h.elim) (fun _ h => Nat.le_trans HB.out.size h) HB.out HB.out.size ?aL ?_; (case aL => have := HB3.out; omega); intro v1 w1 hr1 hb1 hg1 _; obtain ⟨A1, c1, rfl⟩ := Kd.R_slice hr1; have HR1 := Aside0.mk hr1; have HB1 := Aside0.mk hb1; clear hr1 hb1 hg1))
            have e64 := HB3.out
            have hl := HLX.out
            go_roundw
            case rel => exact ⟨i + 1, xs ++ b3, by go_num, by rw [List.length_append]; omega, by omega, ⟨by have := HR1.out; rwa [List.length_append] at this⟩, HB1, _, _, by rw [List.length_append]⟩
            case measure => simp; omega
          · obtain ⟨_, _, e, hc, hC3⟩ := Kd.R_reads HR.out
            injection e with e1 e2 e3
            subst e1; subst e3
            clear e2 hC3
            clear hl
            obtain ⟨m, hm⟩ : ∃ m : Nat, n = m := ⟨n.toNat, by omega⟩
            subst hm
            have HT := Aside0.mk (Kd.R_take HR.out (m := m) (by omega))
            go_wp2
            refine bodyPost_ret (results_tmp2 rfl _ _ _) rfl ?_
            exact ⟨_, xs.take m, 0, rfl, Reads.of_R HT.out, HB.out⟩
      · obtain ⟨q, hq0⟩ : ∃ q, rspanM R k n = q := ⟨_, rfl⟩
        have HA := Lib.hid hq0
        rw [hq0] at ha
        clear hq0
        go_enter Try.func46, Try.ntmps46
        go_wp2_with (first | (go_at_call 50; refine (rspan_calls H.out HOK.out k n).mono ?_; rintro e w' ⟨rfl, rfl⟩; rw [HA.out]))
        refine bodyPost_ret (results_tmp2 rfl _ _ _) rfl ?_
        exact ⟨_, [], q, rfl, Reads.nil _, Below.refl _ _⟩
end Go.Proofs.Ytfimeiicidcoiaa.Dk
