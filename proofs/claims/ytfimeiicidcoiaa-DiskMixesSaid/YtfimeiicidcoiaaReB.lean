/- The reference's stroke and Set. -/
import Derived.Test.YtfimeiicidcoiaaReA
namespace Go.Proofs.Ytfimeiicidcoiaa.Dk
open Go.RowKit Go.Proofs.YtfimeiicidcoiaaW.PrintWords Go.Proofs.YtfimeiicidcoiaaW.PrintLast Go.Proofs.YtfimeiicidcoiaaW.PrintMore
set_option linter.unusedVariables false
set_option linter.unusedSimpArgs false
variable {w w1 : World} {B g : Nat} {F G : Nat → Prop} {R : RM} {vs vh vc : Value}
def strokeM (R : RM) : RM × Bool :=
  if R.left - 1 = -1 then ({ R with strokes := wrap64 (R.strokes + 1), left := R.left - 1 }, true)
  else if R.left - 1 < -1 then ({ R with strokes := wrap64 (R.strokes + 1), left := -1 }, false) else ({ R with strokes := wrap64 (R.strokes + 1), left := R.left - 1 }, false)
set_option maxHeartbeats 2000000 in
theorem stroke_calls (h : RAt w B g F R vs vh vc) (hl : -1 ≤ R.left) (hl2 : R.left ≤ 9223372036854775807) : Calls Try.prog 49 #[.pointer (some ⟨g, 0, none⟩)] w fun e w' => e = .returned (.bool (strokeM R).2) ∧ RAt w' B g F (strokeM R).1 vs vh vc ∧ Upd w w' F := by
  have H := Aside0.mk h
  have hf := h.free
  have h3 := h.c3
  have h4 := h.c4
  have H1 := h.put 3 (.int .i64 (wrap64 (R.strokes + 1))) { R with strokes := wrap64 (R.strokes + 1) } vs vh rfl h.sec h.wait rfl
  have H2 := Aside0.mk (H1.put 4 (.int .i64 (R.left - 1)) { R with strokes := wrap64 (R.strokes + 1), left := R.left - 1 } vs vh rfl H1.sec H1.wait rfl)
  have HU2 := Aside0.mk ((h.upd 3 (.int .i64 (wrap64 (R.strokes + 1)))).trans (H1.upd 4 (.int .i64 (R.left - 1))) (fun _ h => .inl h))
  clear h H1
  by_cases ha : R.left - 1 = -1
  · have hq := Lib.hid (show strokeM R = ({ R with strokes := wrap64 (R.strokes + 1), left := R.left - 1 }, true) by simp [strokeM, ha])
    have ta : (R.left - 1 == -1) = true := by simpa using ha
    clear ha
    go_enter Try.func49, Try.ntmps49
    go_wp2
    go_ret
    exact ⟨by rw [hq.out] <;> rfl, by rw [hq.out]; exact H2.out, HU2.out⟩
  · by_cases hb : R.left - 1 < -1
    · have hq := Lib.hid (show strokeM R = ({ R with strokes := wrap64 (R.strokes + 1), left := -1 }, false) by simp [strokeM, ha, hb])
      have H3 := Aside0.mk (H2.out.put 4 (.int .i64 (-1)) { R with strokes := wrap64 (R.strokes + 1), left := -1 } vs vh rfl H2.out.sec H2.out.wait rfl)
      have HU3 := Aside0.mk (HU2.out.trans (H2.out.upd 4 (.int .i64 (-1))) (fun _ h => .inl h))
      go_enter Try.func49, Try.ntmps49
      go_wp2
      go_ret
      exact ⟨by rw [hq.out] <;> rfl, by rw [hq.out]; exact H3.out, HU3.out⟩
    · have hq := Lib.hid (show strokeM R = ({ R with strokes := wrap64 (R.strokes + 1), left := R.left - 1 }, false) by simp [strokeM, ha, hb])
      go_enter Try.func49, Try.ntmps49
      go_wp2
      go_ret
      exact ⟨by rw [hq.out] <;> rfl, by rw [hq.out]; exact H2.out, HU2.out⟩
def rsetM (R : RM) (n : Int) (l : List Bool) : RM := if n < 0 then R else if (l.length : Int) > 4096 then R else { R with left := n, choice := l }
def rsetE (n : Int) (l : List Bool) : Int := if n < 0 then 1 else if (l.length : Int) > 4096 then 2 else 0
theorem RAt.putChoice (h : RAt w B g F R vs vh vc) (A : Option Addr) (c : Nat) (l : List Bool) (hc : l.length ≤ c) (hC : ∀ W, Upd w W (fun k => B ≤ k) → Kd.C Kd.bool W A l.length l) : RAt (w.setCell ⟨g, 5, none⟩ (.slice A l.length c)) B g F { R with choice := l } vs vh (.slice A l.length c) where
  blk := by rw [heap_setCell_same w g 5 _ 73 _ h.blk]; rfl
  sec := Kd.R_set h.sec h.blk (by simp [kBy, Kd.slice, Kd.int, Kd.scalar]) 5 _
  wait := Kd.R_set h.wait h.blk (by simp [kWa, kBy, Kd.pair, Kd.slice, Kd.int, Kd.scalar]) 5 _
  choice := ⟨A, c, rfl, hc, fun W hW => hC W (((h.upd 5 _).mono (fun k hk => (h.lt k hk).1)).trans hW (fun _ h => .inl h))⟩
  own := h.own
  lt := fun k hk => ⟨(h.lt k hk).1, by simpa [World.setCell] using (h.lt k hk).2⟩
set_option maxHeartbeats 2000000 in
theorem rSet_calls (h : RAt w B g F R vs vh vc) (n : Int) (A : Option Addr) (c : Nat) (l : List Bool) (hc : l.length ≤ c) (hC : ∀ W, Upd w W (fun k => B ≤ k) → Kd.C Kd.bool W A l.length l) :
    Calls Try.prog 42 #[.pointer (some ⟨g, 0, none⟩), .int .i64 n, .slice A l.length c] w fun e w' => e = .returned (.int .i64 (rsetE n l)) ∧ (∃ vc', RAt w' B g F (rsetM R n l) vs vh vc') ∧ Upd w w' F := by
  have H := Aside0.mk h
  have hf := h.free
  have h4 := h.c4
  have h5 := h.c5
  have H1 := h.put 4 (.int .i64 n) { R with left := n } vs vh rfl h.sec h.wait rfl
  have H2 := Aside0.mk (H1.putChoice A c l hc (fun W hW => hC W (((h.upd 4 (.int .i64 n)).mono (fun k hk => (h.lt k hk).1)).trans hW (fun _ h => .inl h))))
  have HU2 := Aside0.mk ((h.upd 4 (.int .i64 n)).trans (H1.upd 5 (.slice A l.length c)) (fun _ h => .inl h))
  clear h H1 hC
  by_cases hn : n < 0
  · have hq := Lib.hid (show rsetM R n l = R by simp [rsetM, hn])
    have he := Lib.hid (show rsetE n l = 1 by simp [rsetE, hn])
    go_enter Try.func42, Try.ntmps42
    go_wp2
    go_ret
    exact ⟨by rw [he.out] <;> rfl, by rw [hq.out]; exact ⟨_, H.out⟩, Upd.refl _ _⟩
  · by_cases hl : (l.length : Int) > 4096
    · have hq := Lib.hid (show rsetM R n l = R by simp [rsetM, hn, hl])
      have he := Lib.hid (show rsetE n l = 2 by simp [rsetE, hn, hl])
      go_enter Try.func42, Try.ntmps42
      go_wp2
      go_ret
      exact ⟨by rw [he.out] <;> rfl, by rw [hq.out]; exact ⟨_, H.out⟩, Upd.refl _ _⟩
    · have hq := Lib.hid (show rsetM R n l = { R with left := n, choice := l } by simp [rsetM, hn, hl])
      have he := Lib.hid (show rsetE n l = 0 by simp [rsetE, hn, hl])
      go_enter Try.func42, Try.ntmps42
      go_wp2
      go_ret
      exact ⟨by rw [he.out] <;> rfl, by rw [hq.out]; exact ⟨_, H2.out⟩, HU2.out⟩
end Go.Proofs.Ytfimeiicidcoiaa.Dk
