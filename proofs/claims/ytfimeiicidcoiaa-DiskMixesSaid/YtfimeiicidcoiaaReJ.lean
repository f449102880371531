/- The reference's Save. -/
import Derived.Test.YtfimeiicidcoiaaReI
namespace Go.Proofs.Ytfimeiicidcoiaa.Dk
open Go.RowKit Go.Proofs.YtfimeiicidcoiaaW.PrintWords Go.Proofs.YtfimeiicidcoiaaW.PrintLast Go.Proofs.YtfimeiicidcoiaaW.PrintMore
set_option linter.unusedVariables false
set_option linter.unusedSimpArgs false
variable {w w1 : World} {B g : Nat} {F G : Nat → Prop} {R : RM} {vs vh vc : Value}
/-- What a call leaves of the reference's disk: at most m writes more wait; its blocks are those it had, or new ones. -/
def RefPost (w w' : World) (B g : Nat) (F : Nat → Prop) (R : RM) (m : Nat) : Prop :=
  ∃ R' F', (∀ k, F' k → F k ∨ w.heap.size ≤ k) ∧ RefAt w' B g F' R' ∧ ROk R' ∧ R'.wait.length ≤ R.wait.length + m ∧ R'.sec.length = R.sec.length ∧ Upd w w' F
def Num (e : Ending) : Prop := ∃ n, e = .returned (.int .i64 n)
theorem full_take (A : Option Addr) (c m : Nat) (x : List Int) (hm : m ≤ x.length) (hx : m ≤ 64) (hC : Kd.C (Kd.int .u8) w A x.length x) :
    Calls Try.prog 39 #[.slice A m c] w fun e w' => ∃ v xs, e = .returned v ∧ xs.length = 64 ∧ Kd.R (Kd.int .u8) 5 w' w.heap.size (fun k => w.heap.size ≤ k) v xs ∧ Below w.heap.size w w' := by
  have h := full_calls A c (x.take m) (by rw [List.length_take]; omega) (Kd.C_take hC hm)
  rwa [show (x.take m).length = m by rw [List.length_take]; omega] at h
set_option maxHeartbeats 8000000 in
theorem rSave_calls (h : RAt w B g F R vs vh vc) (hok : ROk R) (hB : B ≤ w.heap.size) (k : Int) (A : Option Addr) (c : Nat) (x : List Int) (hx : x.length ≤ 1000000000) (hxc : x.length ≤ c) (hn : R.wait.length + x.length < 9000000) (hC : ∀ W, Upd w W F → Kd.C (Kd.int .u8) W A x.length x) :
    Calls Try.prog 47 #[.pointer (some ⟨g, 0, none⟩), .int .i64 k, .slice A x.length c] w fun e w' => Num e ∧ RefPost w w' B g F R x.length := by
  have H := Aside0.mk h
  have HC := Aside0.mk hC
  have HOK := Aside0.mk hok
  have HN := Aside0.mk hn
  have HB := Aside0.mk hB
  have HX := Aside0.mk hxc
  clear h hC hok hn hB hxc
  by_cases ha : rspanM R k x.length = 0
  · have HA := Aside0.mk ha
    clear ha
    go_enter Try.func47, Try.ntmps47
    go_wp2_with (first | (go_at_call 50; refine (rspan_calls H.out HOK.out k _).mono ?_; rintro e w' ⟨rfl, rfl⟩; rw [HA.out]))
    go_loopw [1, 2] (fun v1 v2 w' => ∃ (k' : Int) (y : List Int) (A' : Option Addr) (c' : Nat) (R' : RM) (F' : Nat → Prop), v1 = .int .i64 k' ∧ v2 = .slice A' y.length c' ∧ y.length ≤ x.length ∧ Aside0 (y.length ≤ c') ∧ Aside0 (∀ W, Upd w W F → Kd.C (Kd.int .u8) W A' y.length y) ∧ Aside0 (∀ k, F' k → F k ∨ w.heap.size ≤ k) ∧ Aside0 (RefAt w' B g F' R') ∧ Aside0 (ROk R') ∧ Aside0 (R'.wait.length + y.length ≤ R.wait.length + x.length) ∧ Aside0 (R'.sec.length = R.sec.length) ∧ Aside0 (Upd w w' F)) (fun _ v2 _ => (match v2 with | .slice _ m _ => m | _ => 0))
    case atStart => exact ⟨k, x, A, c, R, F, rfl, rfl, Nat.le_refl _, HX, HC, ⟨fun _ h => .inl h⟩, ⟨_, _, _, H.out⟩, HOK, ⟨Nat.le_refl _⟩, ⟨rfl⟩, ⟨Upd.refl _ _⟩⟩
    case round =>
      obtain ⟨k', y, A', c', R', F', rfl, rfl, hyx, HYC, HCy, HF, HR, HO, HW, HS, HU⟩ := hrel
      by_cases hy0 : y.length = 0
      · go_wp2
        go_ret
        exact ⟨⟨0, rfl⟩, R', F', HF.out, HR.out, HO.out, by have := HW.out; omega, HS.out, HU.out⟩
      · by_cases hy : y.length < 64
        · have HT := Aside0.mk (full_take (w := wr) A' c' y.length y (by omega) (by omega) (HCy.out wr HU.out))
          have HD := Aside0.mk (show ∀ W, Upd w W F → Kd.C (Kd.int .u8) W (if c' = y.length then A' else A'.map (·.add (y.length * (Kd.int .u8).sz))) (y.drop y.length).length (y.drop y.length) from fun W hW => Kd.C_drop (HCy.out W hW) (by omega) HYC.out)
          have HLD := Aside0.mk (show (y.drop y.length).length = y.length - y.length from List.length_drop)
          obtain ⟨vs', vh', vc', hR⟩ := HR.out
          have HR1 := Aside0.mk hR
          have HLT := Aside0.mk (show ∀ k, F' k → B ≤ k from fun k hk => (hR.lt k hk).1)
          have hyc := HYC.out
          clear hR
          go_wp2_with (first | (go_at_call 39; refine HT.out.mono ?_; rintro e w3 ⟨v3, xs, rfl, hxl, hr3, hb3⟩; obtain ⟨A3, c3, rfl⟩ := Kd.R_slice hr3; have HR3 := Aside0.mk (HR1.out.below hb3); have HB3 := Aside0.mk hb3; have HC3 := Aside0.mk (Kd.R_reads' hr3).2.2; clear hxl hr3 hb3) | (go_at_call 40; refine (rWrite_calls HR3.out HO.out (by have := HB.out; have := HU.out.size; have := HB3.out.size; omega) (by have := HW.out; have := HN.out; omega) k' A3 c3 xs HC3.out).mono ?_; rintro e w4 ⟨n4, R4, rfl, hr4, ho4, hw4, hs4, hu4⟩; have HR4 := Aside0.mk hr4; have HO4 := Aside0.mk ho4; have HW4 := Aside0.mk hw4; have HS4 := Aside0.mk hs4; have HU4 := Aside0.mk hu4; clear hr4 ho4 hw4 hs4 hu4))
          all_goals (have HG4 : ∀ k, Grow F' w3 w4 k → F k ∨ w.heap.size ≤ k := fun k hk => hk.elim (HF.out k) (fun hk => .inr (Nat.le_trans HU.out.size (Nat.le_trans HB3.out.size hk.1))))
          all_goals (have HU5 : Upd w w4 F := (HU.out.trans (Upd.of_below (F := F') HB3.out) HF.out).trans HU4.out HF.out)
          · go_ret
            exact ⟨⟨n4, rfl⟩, R4, _, HG4, HR4.out, HO4.out, by have := HW4.out; have := HW.out; omega, HS4.out.trans HS.out, HU5⟩
          · go_roundw
            case rel => exact ⟨_, y.drop y.length, _, c' - y.length, R4, _, rfl, by rw [List.length_drop]; simp [Kd.int, Kd.scalar, Addr.add], by rw [HLD.out]; omega, ⟨by rw [HLD.out]; omega⟩, HD, ⟨HG4⟩, HR4, HO4, ⟨by rw [HLD.out]; have := HW4.out; have := HW.out; omega⟩, ⟨HS4.out.trans HS.out⟩, ⟨HU5⟩⟩
            case measure => simp; omega
        · have HT := Aside0.mk (full_take (w := wr) A' c' 64 y (by omega) (by omega) (HCy.out wr HU.out))
          have HD := Aside0.mk (show ∀ W, Upd w W F → Kd.C (Kd.int .u8) W (if c' = 64 then A' else A'.map (·.add (64 * (Kd.int .u8).sz))) (y.drop 64).length (y.drop 64) from fun W hW => Kd.C_drop (HCy.out W hW) (by omega) HYC.out)
          have HLD := Aside0.mk (show (y.drop 64).length = y.length - 64 from List.length_drop)
          obtain ⟨vs', vh', vc', hR⟩ := HR.out
          have HR1 := Aside0.mk hR
          have HLT := Aside0.mk (show ∀ k, F' k → B ≤ k from fun k hk => (hR.lt k hk).1)
          have hyc := HYC.out
          clear hR
          go_wp2_with (first | (go_at_call 39; refine HT.out.mono ?_; rintro e w3 ⟨v3, xs, rfl, hxl, hr3, hb3⟩; obtain ⟨A3, c3, rfl⟩ := Kd.R_slice hr3; have HR3 := Aside0.mk (HR1.out.below hb3); have HB3 := Aside0.mk hb3; have HC3 := Aside0.mk (Kd.R_reads' hr3).2.2; clear hxl hr3 hb3) | (go_at_call 40; refine (rWrite_calls HR3.out HO.out (by have := HB.out; have := HU.out.size; have := HB3.out.size; omega) (by have := HW.out; have := HN.out; omega) k' A3 c3 xs HC3.out).mono ?_; rintro e w4 ⟨n4, R4, rfl, hr4, ho4, hw4, hs4, hu4⟩; have HR4 := Aside0.mk hr4; have HO4 := Aside0.mk ho4; have HW4 := Aside0.mk hw4; have HS4 := Aside0.mk hs4; have HU4 := Aside0.mk hu4; clear hr4 ho4 hw4 hs4 hu4))
          all_goals (have HG4 : ∀ k, Grow F' w3 w4 k → F k ∨ w.heap.size ≤ k := fun k hk => hk.elim (HF.out k) (fun hk => .inr (Nat.le_trans HU.out.size (Nat.le_trans HB3.out.size hk.1))))
          all_goals (have HU5 : Upd w w4 F := (HU.out.trans (Upd.of_below (F := F') HB3.out) HF.out).trans HU4.out HF.out)
          · go_ret
            exact ⟨⟨n4, rfl⟩, R4, _, HG4, HR4.out, HO4.out, by have := HW4.out; have := HW.out; omega, HS4.out.trans HS.out, HU5⟩
          · go_roundw
            case rel => exact ⟨_, y.drop 64, _, c' - 64, R4, _, rfl, by rw [List.length_drop]; simp [Kd.int, Kd.scalar, Addr.add], by rw [HLD.out]; omega, ⟨by rw [HLD.out]; omega⟩, HD, ⟨HG4⟩, HR4, HO4, ⟨by rw [HLD.out]; have := HW4.out; have := HW.out; omega⟩, ⟨HS4.out.trans HS.out⟩, ⟨HU5⟩⟩
            case measure => simp; omega
  · obtain ⟨q, hq0⟩ : ∃ q, rspanM R k x.length = q := ⟨_, rfl⟩
    have HA := Lib.hid hq0
    rw [hq0] at ha
    clear hq0
    go_enter Try.func47, Try.ntmps47
    go_wp2_with (first | (go_at_call 50; refine (rspan_calls H.out HOK.out k _).mono ?_; rintro e w' ⟨rfl, rfl⟩; rw [HA.out]))
    go_ret
    exact ⟨⟨q, rfl⟩, R, F, fun _ h => .inl h, ⟨_, _, _, H.out⟩, HOK.out, by omega, rfl, Upd.refl _ _⟩
end Go.Proofs.Ytfimeiicidcoiaa.Dk
