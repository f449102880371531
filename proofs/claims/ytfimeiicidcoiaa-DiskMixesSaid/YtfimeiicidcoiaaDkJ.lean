/- Contracts of package disk: Load. -/
import Derived.Test.YtfimeiicidcoiaaDkI
namespace Go.Proofs.Ytfimeiicidcoiaa.Dk
open Go.RowKit Go.Proofs.YtfimeiicidcoiaaW.PrintWords Go.Proofs.YtfimeiicidcoiaaW.PrintLast Go.Proofs.YtfimeiicidcoiaaW.PrintMore
set_option linter.unusedVariables false
set_option linter.unusedSimpArgs false
variable {w W W1 : World} {B g N : Nat} {F : Nat → Prop} {D : DM} {vs vh vc : Value}
def readsTo (D : DM) (k : Int) : Nat → List Int
  | 0 => []
  | i + 1 => readsTo D k i ++ readM D (k + i)
/-- Load's errno. -/
def loadE (D : DM) (k n : Int) : Int := if D.down = true then 60 else if n < 0 then 1 else spanM D k n
theorem need_nat (n0 : Nat) : needM n0 = ((n0 + 63) / 64 : Nat) := by
  unfold needM
  rw [Int.tmod_eq_emod_of_nonneg (by omega), Int.tdiv_eq_ediv_of_nonneg (by omega)]
  split <;> omega
theorem spanM_zero {k n : Int} (h : spanM D k n = 0) : D.down = false ∧ 0 ≤ k ∧ k ≤ (D.sec.length : Int) ∧ needM n ≤ (D.sec.length : Int) - k := by
  unfold spanM at h
  split at h
  · omega
  · rename_i hd
    split at h
    · omega
    · refine ⟨by simpa using hd, by omega, by omega, by omega⟩
theorem read_length (h : DAt w B g F D vs vh vc) (k : Int) (hk : atM D k = 0) : (readM D k).length = 64 := by
  obtain ⟨As, cs, rfl, hsl, _⟩ := Kd.R_reads h.sec
  obtain ⟨Ah, ch, rfl, hhl, _⟩ := Kd.R_reads h.held
  have hkb : 0 ≤ k ∧ k < (D.sec.length : Int) := by
    unfold atM at hk
    split at hk
    · omega
    · split at hk
      · omega
      · omega
  exact readTo_length ((sec_load h.sec k.toNat (by omega)).elim fun _ h => h.2.1) (fun j hj => (held_load h.held j hj).elim fun _ h => h.2.1) _ (Nat.le_refl _)
theorem readsTo_length (h : DAt w B g F D vs vh vc) (k : Int) (N : Nat) (hk : ∀ i : Nat, i < N → atM D (k + i) = 0) : ∀ i, i ≤ N → (readsTo D k i).length = i * 64
  | 0, _ => rfl
  | i + 1, hi => by
    rw [readsTo, List.length_append, readsTo_length h k N hk i (by omega), read_length h _ (hk i (by omega))]
    omega
set_option maxHeartbeats 8000000 in
theorem Load_fails (h : DAt w B g F D vs vh vc) (hok : DOk D) (k n : Int) (h1 : -9223372036854775808 ≤ n) (h2 : n ≤ 9223372036854775807) (he : loadE D k n ≠ 0) :
    Calls Try.prog 23 #[.pointer (some ⟨g, 0, none⟩), .int .i64 k, .int .i64 n] w fun e w' => e = .returned (.tuple #[.slice none 0 0, .int .i64 (loadE D k n)]) ∧ ∃ m, w' = w.drewN m := by
  have H := Aside0.mk h
  have HOK := Aside0.mk hok
  have N1 := Aside0.mk h1
  have N2 := Aside0.mk h2
  clear h hok h1 h2
  cases hd : D.down with
  | true =>
    have hq := Lib.hid (show loadE D k n = 60 by simp [loadE, hd])
    have hr := Lib.hid (show readyM D = 60 by simp [readyM, hd])
    clear hd he
    go_enter Try.func23, Try.ntmps23
    go_wp2_with (first | (go_at_call 31; refine (ready_calls H.out).mono ?_; rintro e w' ⟨rfl, rfl⟩; rw [hr.out]))
    refine bodyPost_ret (results_tmp2 rfl _ _ _) rfl ?_
    exact ⟨by rw [hq.out] <;> rfl, 0, rfl⟩
  | false =>
    have hr := Lib.hid (show readyM D = 0 by simp [readyM, hd])
    by_cases hn : n < 0
    · have hq := Lib.hid (show loadE D k n = 1 by simp [loadE, hd, hn])
      clear hd he
      go_enter Try.func23, Try.ntmps23
      go_wp2_with (first | (go_at_call 31; refine (ready_calls H.out).mono ?_; rintro e w' ⟨rfl, rfl⟩; rw [hr.out]))
      refine bodyPost_ret (results_tmp2 rfl _ _ _) rfl ?_
      exact ⟨by rw [hq.out] <;> rfl, 0, rfl⟩
    · have hq := Lib.hid (show loadE D k n = spanM D k n by simp [loadE, hd, hn])
      rw [hq.out] at he
      obtain ⟨q, hq0⟩ : ∃ q, spanM D k n = q := ⟨_, rfl⟩
      have HQ := Lib.hid hq0
      rw [hq0] at he
      clear hd hq0
      go_enter Try.func23, Try.ntmps23
      go_wp2_with (first | (go_at_call 31; refine (ready_calls H.out).mono ?_; rintro e w' ⟨rfl, rfl⟩; rw [hr.out]) | (go_at_call 37; refine (span_calls H.out HOK.out k n N1.out N2.out).mono ?_; rintro e w' ⟨rfl, m, rfl⟩; rw [HQ.out]))
      refine bodyPost_ret (results_tmp2 rfl _ _ _) rfl ?_
      exact ⟨by rw [hq.out, HQ.out] <;> rfl, _, rfl⟩
set_option maxHeartbeats 8000000 in
theorem Load_calls (h : DAt w B g F D vs vh vc) (hok : DOk D) (k : Int) (n0 : Nat) (h2 : (n0 : Int) ≤ 9223372036854775807) (he : loadE D k n0 = 0) :
    Calls Try.prog 23 #[.pointer (some ⟨g, 0, none⟩), .int .i64 k, .int .i64 n0] w fun e w' => ∃ A, e = .returned (.tuple #[.slice A n0 n0, .int .i64 0]) ∧ Kd.C (Kd.int .u8) w' A n0 ((readsTo D k ((n0 + 63) / 64)).take n0) ∧ Below w.heap.size w w' := by
  have H := Aside0.mk h
  have HOK := Aside0.mk hok
  have N2 := Aside0.mk h2
  have hd : D.down = false := by
    cases hd : D.down
    · rfl
    · simp [loadE, hd] at he
  have hsp : spanM D k n0 = 0 := by
    simp only [loadE, hd] at he
    rw [if_neg (by simp), if_neg (by omega)] at he
    exact he
  obtain ⟨_, hk0, hk1, hk2⟩ := spanM_zero hsp
  obtain ⟨k0, rfl⟩ : ∃ n : Nat, k = n := ⟨k.toNat, by omega⟩
  rw [need_nat] at hk2
  obtain ⟨M, hM⟩ : ∃ M, M = (n0 + 63) / 64 := ⟨_, rfl⟩
  rw [← hM] at hk2 ⊢
  have hn1 := hok.n1
  have hkM : k0 + M ≤ D.sec.length := by omega
  have hat : ∀ i : Nat, i < M → atM D ((k0 : Int) + i) = 0 := fun i hi => by
    unfold atM
    rw [if_neg (by simp [hd]), if_neg (by omega)]
  have HAT := Aside0.mk hat
  have hr := Lib.hid (show readyM D = 0 by simp [readyM, hd])
  have HSP := Lib.hid hsp
  have HND := Lib.hid (show needM n0 = (M : Int) by rw [need_nat, hM])
  have hM1 : n0 ≤ M * 64 := by omega
  have hM2 : M ≤ 16384 := by omega
  have hn0 : n0 ≤ 1048576 := by omega
  clear h hok h2 he hsp hat hk0 hk1 hk2 hd hM
  go_enter Try.func23, Try.ntmps23
  go_wp2_with (first | (go_at_call 31; refine (ready_calls H.out).mono ?_; rintro e w' ⟨rfl, rfl⟩; rw [hr.out]) | (go_at_call 37; refine (span_calls H.out HOK.out k0 n0 (by omega) N2.out).mono ?_; rintro e w' ⟨rfl, m, rfl⟩; rw [HSP.out]) | (go_at_call 38; refine (need_calls n0 (by omega) N2.out).mono ?_; rintro e w' ⟨rfl, rfl⟩; rw [HND.out]))
  go_loopw [10, 11, 12, 13, 30, 33] (fun v10 v11 v12 v13 v30 v33 w' => ∃ i : Nat, v30 = .int .i64 i ∧ i ≤ M ∧ Aside0 (Kd.R (Kd.int .u8) 5 w' w.heap.size (fun k => w.heap.size ≤ k) v10 (readsTo D k0 i)) ∧ Aside0 (Below w.heap.size w w')) (fun _ _ _ _ v30 _ _ => M - (intOf v30).toNat)
  case atStart => exact ⟨0, rfl, Nat.zero_le _, ⟨Kd.R_nil _ _ _ _ _⟩, ⟨pw_below_drewN (Below.refl _ _) _⟩⟩
  case round =>
    obtain ⟨i, rfl, hi, HR, HV⟩ := hrel
    by_cases hlt : i < M
    · have HD := Aside0.mk (H.out.below HV.out)
      have HATi := Aside0.mk (HAT.out i hlt)
      have HP := Aside0.mk (show readsTo D k0 (i + 1) = readsTo D k0 i ++ readM D ((k0 : Int) + i) by rw [readsTo])
      have HLR := Aside0.mk (readsTo_length HD.out k0 M HAT.out i hi)
      go_wp2_with (first | (go_at_call 27; refine (Read_calls HD.out HOK.out ((k0 : Int) + i) HATi.out).mono ?_; rintro e w3 ⟨rfl, h64, hb3, hB3⟩; have HB3 := Aside0.mk hB3; have HV3 := Aside0.mk (Below.trans HV.out (Below.mono HB3.out HV.out.size)); have HRW := Aside0.mk (Kd.R_below HR.out HB3.out); have HC := C_block hb3 (by omega); rw [h64] at HC; have HC' := Aside0.mk HC; clear h64 hb3 hB3 HC) | ((with_reducible refine gate_builtin (b := .append) (xs := #[.tmp 41, .tmp 42]) rfl ?_); at_builtin; refine Kd.R_append_rows (Kd.int .u8) (Rr := (Kd.int .u8).K wr) (w0 := w) w.heap.size rfl (.tmp 41) (.tmp 42) 22 5 (.int .u8 0) 1 rfl Try.underlying22 info5 rfl (by decide) (by omega) _ (readsTo D k0 i) (readM D ((k0 : Int) + i)) (some ⟨wr.heap.size, 0, none⟩) 64 64 (fun k => w.heap.size ≤ k) (fun _ => False) rfl rfl HRW.out HC'.out (fun _ _ h => h) (fun _ h => h.elim) (fun _ h => Nat.le_trans HV3.out.size h) HV3.out HV3.out.size ?aL ?_; (case aL => rw [HLR.out]; omega); intro v1 w1 hr1 hb1 hg1 _; have HR1 := Aside0.mk hr1; have HB1 := Aside0.mk hb1; clear hr1 hb1 hg1))
      go_roundw
      case rel => exact ⟨i + 1, by go_num, by omega, ⟨by rw [HP.out]; exact HR1.out⟩, HB1⟩
      case measure => simp [intOf]; omega
    · obtain rfl : i = M := by omega
      have HLR := readsTo_length (H.out.below HV.out) k0 i HAT.out i hi
      obtain ⟨A1, c1, rfl, hc1, hC1⟩ := Kd.R_reads HR.out
      rw [HLR] at hc1
      have HC1 := Aside0.mk hC1
      have HL := Aside0.mk HLR
      clear hC1
      simp only [HLR]
      clear HLR
      go_wp2
      refine bodyPost_ret (results_tmp2 rfl _ _ _) rfl ?_
      have hC := C_take HC1.out n0
      rw [show ((readsTo D (k0 : Int) i).take n0).length = n0 by rw [List.length_take, HL.out]; omega] at hC
      exact ⟨A1, rfl, hC, HV.out⟩
end Go.Proofs.Ytfimeiicidcoiaa.Dk
