/- The law's made. -/
import Derived.Test.YtfimeiicidcoiaaLwE
namespace Go.Proofs.Ytfimeiicidcoiaa.Dk
open Go.RowKit Go.Proofs.YtfimeiicidcoiaaW.PrintWords Go.Proofs.YtfimeiicidcoiaaW.PrintLast Go.Proofs.YtfimeiicidcoiaaW.PrintMore
set_option linter.unusedVariables false
set_option linter.unusedSimpArgs false
variable {w W W' : World} {B g g2 : Nat} {F F2 : Nat → Prop} {D : DM} {R : RM}
/-- An operation is read out of its row, whole. -/
theorem load_op {p : Addr} {v0 v1 v2 v3 v4 : Value} (h0 : w.cell? p = some v0) (h1 : w.cell? ⟨p.block, p.off + 1, none⟩ = some v1) (h2 : w.cell? ⟨p.block, p.off + 2, none⟩ = some v2) (h3 : w.cell? ⟨p.block, p.off + 3, none⟩ = some v3) (h4 : w.cell? ⟨p.block, p.off + 4, none⟩ = some v4) :
    (Instr.loadAt 37 (.pointer (some p))).run Try.prog w = .ok (.agg #[v0, v1, v2, v3, v4]) w := by
  refine run_loadAt_at 37 Try.underlying37 rfl p [v0, v1, v2, v3, v4] (by kernel_rfl) (fun j u hj => ?_)
  match j with
  | 0 => injection hj with hj; subst hj; exact h0
  | 1 => injection hj with hj; subst hj; exact h1
  | 2 => injection hj with hj; subst hj; exact h2
  | 3 => injection hj with hj; subst hj; exact h3
  | 4 => injection hj with hj; subst hj; exact h4
  | j + 5 => simp at hj
def Made (w w' : World) (e : Ending) : Prop := Below w.heap.size w w' ∧ (e = .returned (.pointer none) ∨ ∃ g F D, e = .returned (.pointer (some ⟨g, 0, none⟩)) ∧ DiskAt w' w.heap.size g F D ∧ DOk D ∧ D.held.length ≤ 3000 ∧ 1 ≤ D.sec.length ∧ D.sec.length ≤ 100)
theorem RAt.lower {B' : Nat} {vs vh vc : Value} (h : RAt w B g F R vs vh vc) (hb : B' ≤ B) (hc : R.choice = []) : RAt w B' g F R vs vh vc where
  blk := h.blk
  sec := Kd.R_lower h.sec hb
  wait := Kd.R_lower h.wait hb
  choice := by
    obtain ⟨A, c, h1, h2, _⟩ := h.choice
    refine ⟨A, c, h1, h2, fun W _ => ?_⟩
    rw [hc]
    exact ⟨rfl, by decide, fun h => absurd h (by decide)⟩
  own := h.own
  lt := fun k hk => ⟨Nat.le_trans hb (h.lt k hk).1, (h.lt k hk).2⟩
theorem wsum_le (l : List OpM) : ∀ i, wsum (l.take i) ≤ wsum l := fun i => by
  have : wsum l = wsum (l.take i) + wsum (l.drop i) := by
    rw [wsum, wsum, wsum, ← List.sum_append, ← List.map_append, List.take_append_drop]
  omega
set_option maxHeartbeats 16000000 in
theorem made_calls (A : Option Addr) (c : Nat) (x : List Int) (n : Int) (A2 : Option Addr) (c2 : Nat) (l : List OpM) (hxc : x.length ≤ c) (hC : Kd.C (Kd.int .u8) w A x.length x) (hO : Ops w A2 l) (hl : l.length ≤ 140737488351232) :
    Calls Try.prog 9 #[.slice A x.length c, .int .i64 n, .slice A2 l.length c2] w fun e w' => Made w w' e := by
  have HC := Aside0.mk hC
  have HO := Aside0.mk hO
  have HXC := Aside0.mk hxc
  clear hC hO hxc
  by_cases hx : 1500 < x.length
  · go_enter Try.func9, Try.ntmps9
    go_wp2
    go_ret
    exact ⟨Below.refl _ _, .inl rfl⟩
  by_cases hn : 100 < n
  · go_enter Try.func9, Try.ntmps9
    go_wp2
    go_ret
    exact ⟨Below.refl _ _, .inl rfl⟩
  go_enter Try.func9, Try.ntmps9
  go_wp2_with (first | (go_at_call 18; refine (long_calls A2 c2 l HO.out hl).mono ?_; rintro e w1 ⟨bl, rfl, ⟨m, rfl⟩, hlong⟩; have HLG := Aside0.mk hlong; clear hlong))
  · go_ret
    exact ⟨pw_below_drewN (Below.refl _ _) m, .inl rfl⟩
  have HLG2 := Aside0.mk (HLG.out (by simp_all))
  have hb0 : bl = false := by simp_all
  subst hb0
  have HCm := Aside0.mk (Kd.C_drewN HC.out m)
  by_cases hbad : newBad x n
  · have HBAD := Aside0.mk hbad
    clear hbad
    go_wp2_with (first | (go_at_call 30; refine (New_fails A c x n (by omega) HBAD.out).mono ?_; rintro e w1 ⟨rfl, rfl⟩) | (go_at_call 28; refine (rNew_fails A c x n (by omega) HBAD.out).mono ?_; rintro e w1 ⟨rfl, rfl⟩))
    go_ret
    exact ⟨pw_below_drewN (Below.refl _ _) m, .inl rfl⟩
  obtain ⟨n0, rfl⟩ : ∃ k : Nat, n = k := ⟨n.toNat, by unfold newBad at hbad; omega⟩
  have hn0 : 1 ≤ n0 ∧ n0 ≤ 100 := by unfold newBad at hbad; omega
  have HBAD := Aside0.mk hbad
  have HN0 := Aside0.mk hn0
  clear hbad hn0
  have HBm := Aside0.mk (pw_below_drewN (Below.refl w.heap.size w) m)
  go_wp2_with (first | (go_at_call 30; refine (New_calls A c x n0 (by omega) HXC.out HCm.out HBAD.out).mono ?_; rintro e w1 ⟨g1, rfl, hd1, hb1⟩; have HD1 := Aside0.mk hd1; have HB1 := Aside0.mk hb1; have HC1 := Aside0.mk (Kd.C_below HCm.out hb1); clear hd1 hb1) | (go_at_call 28; refine (rNew_calls A c x n0 (by omega) HXC.out HC1.out HBAD.out).mono ?_; rintro e w2 ⟨g2, R2, rfl, hr2, hok2, hw2, hc2, hs2, hb2⟩; have HR2 := Aside0.mk hr2; have HOK2 := Aside0.mk hok2; have HW2 := Aside0.mk hw2; have HCH2 := Aside0.mk hc2; have HB2 := Aside0.mk hb2; clear hr2 hok2 hw2 hc2 hs2 hb2))
  have HT0 := Aside0.mk (show Two w2 w.heap.size g1 (fun k => w.heap.size ≤ k ∧ k < w1.heap.size) (newM x n0 n0) g2 (fun k => w1.heap.size ≤ k ∧ k < w2.heap.size) R2 from by
    refine ⟨HD1.out.frame (Upd.of_below (F := fun _ => False) HB2.out) (fun _ _ _ h => h), ?_, fun k h1 h2 => ?_⟩
    · obtain ⟨_, _, _, h⟩ := HR2.out
      exact ⟨_, _, _, h.lower HB1.out.size HCH2.out⟩
    · omega)
  have HBW := Aside0.mk (show Below w.heap.size w w2 from Upd.below (F := fun _ => False) (((Upd.of_below (F := fun _ => False) HBm.out).trans (Upd.of_below (F := fun _ => False) HB1.out) (fun _ h => h.elim)).trans (Upd.of_below (F := fun _ => False) HB2.out) (fun _ h => h.elim)) (fun _ h => h.elim))
  have HK0 := Aside0.mk (show DOk (newM x n0 n0) from newM_ok x n0 (by have := HN0.out; omega))
  have HS0 := Aside0.mk (show (newM x n0 n0).sec.length = n0 from secTo_length x n0 n0 (Nat.le_refl _))
  have HH0 := Aside0.mk (show (newM x n0 n0).held.length ≤ wsum (l.take 0) from Nat.zero_le _)
  have HR0 := Aside0.mk (show R2.wait.length ≤ wsum (l.take 0) by rw [HW2.out]; exact Nat.zero_le _)
  obtain ⟨D0, hD0⟩ : ∃ D0, newM x n0 n0 = D0 := ⟨_, rfl⟩
  rw [hD0] at HT0 HK0 HS0 HH0
  clear hD0
  go_loopw [11] (fun v11 w' => ∃ (i : Nat) (F F2 : Nat → Prop) (D : DM) (R : RM), v11 = .int .i64 i ∧ i ≤ l.length ∧ Aside0 (Two w' w.heap.size g1 F D g2 F2 R) ∧ Aside0 (DOk D) ∧ Aside0 (ROk R) ∧ Aside0 (D.held.length ≤ wsum (l.take i)) ∧ Aside0 (R.wait.length ≤ wsum (l.take i)) ∧ Aside0 (D.sec.length = n0) ∧ Aside0 (Below w.heap.size w w')) (fun v11 _ => l.length - (intOf v11).toNat)
  case atStart => exact ⟨0, _, _, D0, R2, rfl, Nat.zero_le _, HT0, HK0, HOK2, HH0, HR0, HS0, HBW⟩
  case round =>
    obtain ⟨i, F, F2, D, R, rfl, hi, HT, HK, HRK, HH, HRW, HS, HB⟩ := hrel
    by_cases hlt : i < l.length
    · obtain ⟨ad, ab, cb, ac, cc, o, rfl, ho, h0, h1, h2, h3, h4, hOp⟩ := HO.out.get i hlt
      obtain ⟨kd, at_, nn, y, ch⟩ := o
      have HW := Aside0.mk (wsum_take ho)
      have HL := Aside0.mk (wsum_le l (i + 1))
      have hb := HB.out
      have HLO := Aside0.mk (load_op (cell_kept h0 hb) (cell_kept h1 hb) (cell_kept h2 hb) (cell_kept h3 hb) (cell_kept h4 hb))
      have HOP := Aside0.mk (show ∀ W, Upd wr W (fun k => w.heap.size ≤ k) → OpIs W ⟨kd, at_, nn, y, ch⟩ [.int .i64 kd, .int .i64 at_, .int .i64 nn, .slice ab y.length cb, .slice ac ch.length cc] from fun W hW => OpIs.below hOp (Upd.below (F := fun k => w.heap.size ≤ k) ((Upd.of_below (F := fun k => w.heap.size ≤ k) hb).trans hW (fun k hk => .inl hk)) (fun k hk => hk)))
      have HY := Aside0.mk (show y.length ≤ 3000 by have := HW.out; have := HL.out; have := HLG2.out; simp only [wOp] at *; omega)
      clear h0 h1 h2 h3 h4 hOp ho hb
      go_wp2_with (first | (refine load_at (ty := 37) (.tmp 55) rfl rfl HLO.out rfl ?_) | (go_at_call 29; refine (plays_calls HT.out HK.out HRK.out (by have := HH.out; have := HW.out; have := HL.out; have := HLG2.out; omega) (by have := HRW.out; have := HW.out; have := HL.out; have := HLG2.out; omega) HB.out.size kd at_ nn y ch ab ac cb cc HY.out HOP.out).mono ?_; rintro e w5 ⟨⟨b5, rfl⟩, F5, F25, R5, hF5, hF25, hT5, hok5, hw5, hu5⟩; have HT5 := Aside0.mk hT5; have HOK5 := Aside0.mk hok5; have HW5 := Aside0.mk hw5; have HU5 := Aside0.mk hu5; clear hF5 hF25 hT5 hok5 hw5 hu5))
      have HP := playM_hs (D := D) ⟨kd, at_, nn, y, ch⟩
      have HN9 := (OpIs.C (o := ⟨kd, at_, nn, y, ch⟩) (HOP.out wr (Upd.refl _ _))).2.2.2.2.2
      have HOKP := Aside0.mk (playM_ok ⟨kd, at_, nn, y, ch⟩ HK.out (by have := HH.out; have := HW.out; have := HL.out; have := HLG2.out; omega) HN9)
      go_roundw
      case rel => exact ⟨i + 1, F5, F25, _, R5, by go_num, by omega, HT5, HOKP, HOK5, ⟨by have := HH.out; have := HW.out; omega⟩, ⟨by have := HRW.out; have := HW.out; have := HW5.out; simp only [wOp] at *; omega⟩, ⟨HP.2.trans HS.out⟩, ⟨Upd.below ((Upd.of_below HB.out).trans HU5.out (fun k hk => .inl hk)) (fun k hk => hk.elim (fun h => HT.out.d.lo k h) (fun h => (HT.out.r.lo k h).1))⟩⟩
      case measure => simp [intOf]; omega
    · obtain rfl : i = l.length := by omega
      have HTL := Aside0.mk (wsum_le l l.length)
      go_wp2
      go_ret
      exact ⟨HB.out, .inr ⟨g1, F, D, rfl, HT.out.d, HK.out, by have := HH.out; have := HTL.out; have := HLG2.out; omega, by rw [HS.out]; exact HN0.out.1, by rw [HS.out]; exact HN0.out.2⟩⟩
end Go.Proofs.Ytfimeiicidcoiaa.Dk
