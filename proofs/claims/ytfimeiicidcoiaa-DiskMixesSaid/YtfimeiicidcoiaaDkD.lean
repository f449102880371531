/- Contracts of package disk: Set, Write. -/
import Derived.Test.YtfimeiicidcoiaaDkC
namespace Go.Proofs.Ytfimeiicidcoiaa.Dk
open Go.RowKit Go.Proofs.YtfimeiicidcoiaaW.PrintWords Go.Proofs.YtfimeiicidcoiaaW.PrintLast Go.Proofs.YtfimeiicidcoiaaW.PrintMore
set_option linter.unusedVariables false
set_option linter.unusedSimpArgs false
section
variable {w w1 : World} {B g : Nat} {F : Nat → Prop} {D : DM} {vs vh vc : Value}
theorem R_grow {α : Type} {d : Kd α} {e : Nat} {v : Value} {xs : List α} (h : d.R e w1 B (fun k => F k ∨ w.heap.size ≤ k) v xs) : d.R e w1 B (Grow F w w1) v xs :=
  Kd.R_mono (Kd.R_bound h) (fun k hk => hk.1.imp id (fun h => ⟨h, hk.2.2.1⟩))
theorem DAt.grow (h : DAt w1 B g F D vs vh vc) (hB : B ≤ w.heap.size) : DAt w1 B g (Grow F w w1) D vs vh vc :=
  h.mono (fun _ h => .inl h) (fun k hk => by
    rcases hk with hk | hk
    · exact h.lt k hk
    · exact ⟨by omega, hk.2⟩)
theorem DAt.regrow {w2 : World} (h : DAt w2 B g (Grow F w w1) D vs vh vc) (hs : w1.heap.size = w2.heap.size) : DAt w2 B g (Grow F w w2) D vs vh vc := by
  have e : Grow F w w1 = Grow F w w2 := by funext k; simp [Grow, hs]
  rw [← e]; exact h
theorem DAt.hB (h : DAt w B g F D vs vh vc) : B ≤ w.heap.size := by
  have := h.lt g h.own
  omega
theorem info4 : (Try.prog.info? 4).map (fun i => (i.zero, i.size, i.bytes)) = some (some (.bool false), 1, 1) := by kernel_rfl
theorem info5 : (Try.prog.info? 5).map (fun i => (i.zero, i.size, i.bytes)) = some (some (.int .u8 0), 1, 1) := by kernel_rfl
theorem info67' : (Try.prog.info? 67).map (fun i => (i.zero, i.size, i.bytes)) = some (some (.agg (.int .i64 0 :: List.replicate 64 (.int .u8 0)).toArray), 65, 72) := by kernel_rfl
theorem info64' : (Try.prog.info? 64).map (fun i => (i.zero, i.size, i.bytes)) = some (some (.agg (List.replicate 64 (.int .u8 0)).toArray), 64, 64) := by kernel_rfl
def setM (D : DM) (n : Int) (l : List Bool) : DM × Int := if n < 0 then (D, 1) else if (l.length : Int) > 4096 then (D, 2) else ({ D with set := true, left := n, choice := l }, 0)
set_option maxHeartbeats 1000000 in
theorem Set_calls (h : DAt w B g F D vs vh vc) (n : Int) (A : Option Addr) (c : Nat) (l : List Bool) (hC : Kd.C Kd.bool w A l.length l) :
    Calls Try.prog 25 #[.pointer (some ⟨g, 0, none⟩), .int .i64 n, .slice A l.length c] w fun e w' => e = .returned (.int .i64 (setM D n l).2) ∧ DiskAt w' B g (Grow F w w') (setM D n l).1 ∧ Upd w w' F := by
  have H := Aside0.mk h
  have HC := Aside0.mk hC
  have hB := h.hB
  clear h hC
  by_cases hn : n < 0
  · have hq := Lib.hid (show setM D n l = (D, 1) by simp [setM, hn])
    go_enter Try.func25, Try.ntmps25
    go_wp2
    go_ret
    exact ⟨by rw [hq.out] <;> rfl, by rw [hq.out]; exact ⟨_, _, _, H.out.grow hB⟩, Upd.refl _ _⟩
  · by_cases hl : (l.length : Int) > 4096
    · have hq := Lib.hid (show setM D n l = (D, 2) by simp [setM, hn, hl])
      go_enter Try.func25, Try.ntmps25
      go_wp2
      go_ret
      exact ⟨by rw [hq.out] <;> rfl, by rw [hq.out]; exact ⟨_, _, _, H.out.grow hB⟩, Upd.refl _ _⟩
    · have hq := Lib.hid (show setM D n l = ({ D with set := true, left := n, choice := l }, 0) by simp [setM, hn, hl])
      have hl2 := Lib.hid hl
      go_enter Try.func25, Try.ntmps25
      go_wp2_with (first | ((with_reducible refine gate_builtin (b := .append) (xs := #[.const (.slice none 0 0), .tmp 21]) rfl ?_); at_builtin; refine Kd.R_append_rows Kd.bool (Rr := Kd.bool.K w) (w0 := w) B rfl (.const (.slice none 0 0)) (.tmp 21) 24 4 (.bool false) 1 rfl Try.underlying24 info4 rfl (by decide) (by omega) (.slice none 0 0) [] l A l.length c (fun k => F k ∨ w.heap.size ≤ k) (fun _ => False) rfl rfl (Kd.R_nil _ _ _ _ _) HC.out (fun _ _ h => h) (fun _ h => h.elim) (fun _ h => .inr h) (Below.refl _ _) hB ?aL ?_; (case aL => have := hl2.out; simp; omega); intro v1 w1 hr1 hb1 hg1 _; simp only [List.nil_append] at hr1; obtain ⟨A1, c1, rfl⟩ := Kd.R_slice hr1; have H1 := Aside0.mk (H.out.below (Below.mono (B := w.heap.size) ⟨hg1.os, hg1.tape, hg1.output, hg1.size, fun k hk => hg1.block k hk (by simp [Value.ownBlock])⟩ (Nat.le_refl _))); have HU1 := Aside0.mk (Upd.of_grown (F := F) hg1 (by simp [Value.ownBlock])); have HR1 := Aside0.mk (R_grow hr1); clear hr1 hb1 hg1; have H1g := Aside0.mk (H1.out.grow hB); have hf := H1.out.free; have h4 := H1.out.c4; have h5 := H1.out.c5; have h6 := H1.out.c6))
      have H2 := H1g.out.putSet true
      have H3 := H2.putLeft n
      have H4 := H3.putChoice (.slice A1 l.length c1) l (R_setBlk (R_setBlk HR1.out H1.out.blk (by simp [Kd.bool, Kd.scalar]) 5 (.bool true)) H2.blk (by simp [Kd.bool, Kd.scalar]) 4 (.int .i64 n))
      have HU := ((HU1.out.trans (H1.out.upd 5 (.bool true)) (fun _ h => .inl h)).setCell (p := ⟨g, 4, none⟩) (.inl H.out.own) (.int .i64 n)).setCell (p := ⟨g, 6, none⟩) (.inl H.out.own) (.slice A1 l.length c1)
      go_ret
      refine ⟨by rw [hq.out] <;> rfl, ?_, HU⟩
      rw [hq.out]
      exact ⟨_, _, _, H4.regrow (by simp [World.setCell])⟩
end
end Go.Proofs.Ytfimeiicidcoiaa.Dk
