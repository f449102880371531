/- The reference's Read. -/
import Derived.Test.YtfimeiicidcoiaaReG
namespace Go.Proofs.Ytfimeiicidcoiaa.Dk
open Go.RowKit Go.Proofs.YtfimeiicidcoiaaW.PrintWords Go.Proofs.YtfimeiicidcoiaaW.PrintLast Go.Proofs.YtfimeiicidcoiaaW.PrintMore
set_option linter.unusedVariables false
set_option linter.unusedSimpArgs false
variable {w w1 : World} {B g : Nat} {F G : Nat → Prop} {R : RM} {vs vh vc : Value}
/-- Bytes that can be read. -/
def Reads (w : World) (v : Value) (b : List Int) : Prop := ∃ A c, v = .slice A b.length c ∧ b.length ≤ c ∧ Kd.C (Kd.int .u8) w A b.length b
theorem Reads.nil (w : World) : Reads w (.slice none 0 0) [] := ⟨none, 0, rfl, Nat.le_refl _, rfl, by decide, fun h => absurd h (by decide)⟩
theorem Reads.of_R {ok : Nat → Prop} {v : Value} {b : List Int} (h : Kd.R (Kd.int .u8) 5 w B ok v b) : Reads w v b := Kd.R_reads h
/-- A sector of the reference. -/
theorem sec_elem {gs ns cs : Nat} {L : List (List Int)} (h : Kd.R kBy 22 w B F (.slice (some ⟨gs, 0, none⟩) ns cs) L) (k : Int) (h0 : 0 ≤ k) (h1 : k < ns) :
    ∃ u, w.cell? ⟨gs, k.toNat, none⟩ = some u ∧ Kd.R (Kd.int .u8) 5 w B F u (L.getD k.toNat []) := by
  obtain ⟨c, hl, hM, hx, _⟩ := Kd.R_elem h [] k h0 h1
  obtain ⟨u, rfl, hr⟩ := hM
  have := hx 0 u rfl
  refine ⟨u, ?_, Kd.R_mono hr (fun _ h => h.1)⟩
  rw [show k.toNat * kBy.sz + 0 = k.toNat from by show k.toNat * 1 + 0 = _; omega] at this
  exact this
set_option maxHeartbeats 8000000 in
theorem rRead_calls (h : RAt w B g F R vs vh vc) (hok : ROk R) (k : Int) :
    Calls Try.prog 45 #[.pointer (some ⟨g, 0, none⟩), .int .i64 k] w fun e w' => ∃ v b n, e = .returned (.tuple #[v, .int .i64 n]) ∧ Reads w' v b ∧ w = w' ∧ (thereM R k = 0 → b.length = 64) := by
  have H := Aside0.mk h
  have HOK := Aside0.mk hok
  obtain ⟨As, cs, rfl, hsl, _⟩ := Kd.R_reads h.sec
  obtain ⟨Ah, ch, rfl, hhl, _⟩ := Kd.R_reads h.wait
  have h1 := h.c1
  have h0 := h.c0
  have hn2 := hok.n2
  clear h hok hsl hhl
  by_cases ha : thereM R k = 0
  · have hk0 : 0 ≤ k ∧ k < (R.sec.length : Int) := by
      unfold thereM at ha
      split at ha
      · omega
      · split at ha
        · omega
        · omega
    have HA := Aside0.mk ha
    clear ha
    obtain ⟨hk0, hk1⟩ := hk0
    rcases R_cases H.out.sec with ⟨_, hz⟩ | ⟨gs, caps', es, hgs⟩
    · have : R.sec.length = 0 := congrArg List.length hz
      omega
    injection es with es1 es2 es3
    subst es1
    clear es2 es3
    obtain ⟨us, hus, hRu⟩ := sec_elem H.out.sec k hk0 hk1
    have hlb : (R.sec.getD k.toNat []).length = 64 := by
      rw [List.getD_eq_getElem?_getD, List.getElem?_eq_getElem (by omega)]
      exact HOK.out.s64 _ (List.getElem_mem (by omega))
    obtain ⟨bs, hbs⟩ : ∃ b, R.sec.getD k.toNat [] = b := ⟨_, rfl⟩
    rw [hbs] at hRu hlb
    have HLB := Aside0.mk hlb
    have HUS := Aside0.mk hRu
    obtain ⟨Au, cu, rfl⟩ := Kd.R_slice hRu
    clear hbs hlb
    clear hRu
    go_enter Try.func45, Try.ntmps45
    go_wp2_with (first | (go_at_call 48; refine (there_calls H.out k).mono ?_; rintro e w' ⟨rfl, rfl⟩; rw [HA.out]))
    go_loopw [7] (fun v7 w' => w' = w ∧ (v7 = .int .i64 (-1) ∨ ∃ j : Nat, v7 = .int .i64 j ∧ j < R.wait.length)) (fun v7 _ => (intOf v7 + 1).toNat)
    case atStart =>
      refine ⟨rfl, ?_⟩
      rcases Nat.eq_zero_or_pos R.wait.length with h | h
      · exact .inl (by rw [h]; rfl)
      · exact .inr ⟨R.wait.length - 1, by congr 1; omega, by omega⟩
    case round =>
      obtain ⟨rfl, hv⟩ := hrel
      rcases hv with rfl | ⟨j, rfl, hj⟩
      · go_wp2
        refine bodyPost_ret (results_tmp2 rfl _ _ _) rfl ?_
        exact ⟨_, bs, _, rfl, Reads.of_R HUS.out, rfl, fun _ => HLB.out⟩
      · rcases R_cases H.out.wait with ⟨_, hz⟩ | ⟨gh, caph, eh, hgh⟩
        · have : R.wait.length = 0 := by rw [hz]; rfl
          omega
        injection eh with eh1 eh2 eh3
        subst eh1
        clear eh2 eh3
        obtain ⟨u, hu1, hu2, hu3⟩ := wait_elem H.out.sec H.out.wait j hj
        have hl64 : (R.wait.getD j (0, [])).2.length = 64 := by
          rw [List.getD_eq_getElem?_getD, List.getElem?_eq_getElem hj]
          exact HOK.out.w64 _ (List.getElem_mem hj)
        obtain ⟨a, b, hab⟩ : ∃ a b, R.wait.getD j (0, []) = (a, b) := ⟨_, _, rfl⟩
        rw [hab] at hl64 hu3
        have hu1' : wr.cell? ⟨gh, j * 2, none⟩ = some (.int .i64 (R.wait.getD j (0, [])).1) := hu1
        rw [hab] at hu1'
        dsimp only at hl64 hu3 hu1'
        have HL := Aside0.mk hl64
        have HU := Aside0.mk hu3
        clear hab hl64 hu3 hu1
        by_cases hak : a = k
        · subst hak
          go_wp2
          refine bodyPost_ret (results_tmp2 rfl _ _ _) rfl ?_
          exact ⟨_, b, _, rfl, Reads.of_R HU.out, rfl, fun _ => HL.out⟩
        · have tak : (a == k) = false := by simpa using hak
          clear hak
          go_wp2
          go_roundw
          case rel =>
            refine ⟨trivial, ?_⟩
            rcases Nat.eq_zero_or_pos j with h | h
            · exact .inl (by rw [h]; rfl)
            · exact .inr ⟨j - 1, by congr 1; omega, by omega⟩
          case measure => simp [intOf]
  · obtain ⟨q, hq0⟩ : ∃ q, thereM R k = q := ⟨_, rfl⟩
    have HA := Lib.hid hq0
    rw [hq0] at ha
    clear hq0
    go_enter Try.func45, Try.ntmps45
    go_wp2_with (first | (go_at_call 48; refine (there_calls H.out k).mono ?_; rintro e w' ⟨rfl, rfl⟩; rw [HA.out]))
    refine bodyPost_ret (results_tmp2 rfl _ _ _) rfl ?_
    exact ⟨_, [], q, rfl, Reads.nil _, rfl, fun h => absurd (HA.out.symm.trans h) (by simpa using ha)⟩
end Go.Proofs.Ytfimeiicidcoiaa.Dk
