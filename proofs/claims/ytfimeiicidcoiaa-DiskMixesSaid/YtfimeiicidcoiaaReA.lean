/- What a disk of the reference is in memory (its answers are of no account: only that its calls end and touch nothing else); there, stroke, Start. -/
import Derived.Test.YtfimeiicidcoiaaDkO
namespace Go.Proofs.Ytfimeiicidcoiaa.Dk
open Go.RowKit Go.Proofs.YtfimeiicidcoiaaW.PrintWords Go.Proofs.YtfimeiicidcoiaaW.PrintLast Go.Proofs.YtfimeiicidcoiaaW.PrintMore
set_option linter.unusedVariables false
set_option linter.unusedSimpArgs false
def kBy : Kd (List Int) := Kd.slice 5 (Kd.int .u8)
def kWa : Kd (Int × List Int) := Kd.pair (Kd.int .i64) kBy
structure RM where
  sec : List (List Int)
  wait : List (Int × List Int)
  down : Bool
  strokes : Int
  left : Int
  choice : List Bool
structure RAt (w : World) (B g : Nat) (F : Nat → Prop) (R : RM) (vs vh vc : Value) : Prop where
  blk : w.heap[g]? = some (.cells #[vs, vh, .bool R.down, .int .i64 R.strokes, .int .i64 R.left, vc] 73 (0, 0))
  sec : Kd.R kBy 22 w B F vs R.sec
  wait : Kd.R kWa 77 w B F vh R.wait
  choice : ∃ A c, vc = .slice A R.choice.length c ∧ R.choice.length ≤ c ∧ ∀ W, Upd w W (fun k => B ≤ k) → Kd.C Kd.bool W A R.choice.length R.choice
  own : F g
  lt : ∀ k, F k → B ≤ k ∧ k < w.heap.size
variable {w w1 : World} {B g : Nat} {F G : Nat → Prop} {R : RM} {vs vh vc : Value}
theorem RAt.cell (h : RAt w B g F R vs vh vc) (j : Nat) : w.cell? ⟨g, j, none⟩ = #[vs, vh, .bool R.down, .int .i64 R.strokes, .int .i64 R.left, vc][j]? := by simp [World.cell?, h.blk]
theorem RAt.free (h : RAt w B g F R vs vh vc) (j : Nat) : w.frozen? ⟨g, j, none⟩ = false := by simp [World.frozen?, h.blk]
theorem RAt.c0 (h : RAt w B g F R vs vh vc) : w.cell? ⟨g, 0, none⟩ = some vs := h.cell 0
theorem RAt.c1 (h : RAt w B g F R vs vh vc) : w.cell? ⟨g, 1, none⟩ = some vh := h.cell 1
theorem RAt.c2 (h : RAt w B g F R vs vh vc) : w.cell? ⟨g, 2, none⟩ = some (.bool R.down) := h.cell 2
theorem RAt.c3 (h : RAt w B g F R vs vh vc) : w.cell? ⟨g, 3, none⟩ = some (.int .i64 R.strokes) := h.cell 3
theorem RAt.c4 (h : RAt w B g F R vs vh vc) : w.cell? ⟨g, 4, none⟩ = some (.int .i64 R.left) := h.cell 4
theorem RAt.c5 (h : RAt w B g F R vs vh vc) : w.cell? ⟨g, 5, none⟩ = some vc := h.cell 5
/-- Another object was written, or new ones were made. -/
theorem RAt.frame (h : RAt w B g F R vs vh vc) (hu : Upd w w1 G) (hd : ∀ k, F k → ¬ G k) (hG : ∀ k, G k → B ≤ k) : RAt w1 B g F R vs vh vc where
  blk := (hu.block g (h.lt g h.own).2 (hd g h.own)).trans h.blk
  sec := Kd.R_kept h.sec hu.kept hd
  wait := Kd.R_kept h.wait hu.kept hd
  choice := by
    obtain ⟨A, c, h1, h2, h3⟩ := h.choice
    exact ⟨A, c, h1, h2, fun W hW => h3 W ((hu.mono hG).trans hW (fun _ h => .inl h))⟩
  own := h.own
  lt := fun k hk => ⟨(h.lt k hk).1, Nat.lt_of_lt_of_le (h.lt k hk).2 hu.size⟩
theorem RAt.below (h : RAt w B g F R vs vh vc) (hb : Below w.heap.size w w1) : RAt w1 B g F R vs vh vc where
  blk := (hb.block g (h.lt g h.own).2).trans h.blk
  sec := Kd.R_below h.sec hb
  wait := Kd.R_below h.wait hb
  choice := by
    obtain ⟨A, c, h1, h2, h3⟩ := h.choice
    exact ⟨A, c, h1, h2, fun W hW => h3 W ((Upd.of_below hb).trans hW (fun _ h => .inl h))⟩
  own := h.own
  lt := fun k hk => ⟨(h.lt k hk).1, Nat.lt_of_lt_of_le (h.lt k hk).2 hb.size⟩
/-- A store into one of the struct's fields. -/
theorem RAt.put (h : RAt w B g F R vs vh vc) (j : Nat) (u : Value) (R' : RM) (vs' vh' : Value) (hc : (#[vs, vh, .bool R.down, .int .i64 R.strokes, .int .i64 R.left, vc] : Array Value).setIfInBounds j u = #[vs', vh', .bool R'.down, .int .i64 R'.strokes, .int .i64 R'.left, vc])
    (hs : Kd.R kBy 22 w B F vs' R'.sec) (hh : Kd.R kWa 77 w B F vh' R'.wait) (hch : R'.choice = R.choice) : RAt (w.setCell ⟨g, j, none⟩ u) B g F R' vs' vh' vc where
  blk := by rw [heap_setCell_same w g j _ 73 u h.blk, hc]
  sec := Kd.R_set hs h.blk (by simp [kBy, Kd.slice, Kd.int, Kd.scalar]) j u
  wait := Kd.R_set hh h.blk (by simp [kWa, kBy, Kd.pair, Kd.slice, Kd.int, Kd.scalar]) j u
  choice := by
    obtain ⟨A, c, h1, h2, h3⟩ := h.choice
    rw [hch]
    exact ⟨A, c, h1, h2, fun W hW => h3 W (((Upd.refl w (fun k => B ≤ k)).setCell (p := ⟨g, j, none⟩) (.inl (h.lt g h.own).1) u).trans hW (fun _ h => .inl h))⟩
  own := h.own
  lt := fun k hk => ⟨(h.lt k hk).1, by simpa [World.setCell] using (h.lt k hk).2⟩
theorem RAt.upd (h : RAt w B g F R vs vh vc) (j : Nat) (u : Value) : Upd w (w.setCell ⟨g, j, none⟩ u) F := (Upd.refl w F).setCell (.inl h.own) u
def rstartM (R : RM) : RM := { R with down := false, left := -1 }
theorem rStart_calls (h : RAt w B g F R vs vh vc) : Calls Try.prog 44 #[.pointer (some ⟨g, 0, none⟩)] w fun e w' => e = .returned (.tuple #[]) ∧ RAt w' B g F (rstartM R) vs vh vc ∧ Upd w w' F := by
  have H := Aside0.mk h
  have hf := h.free
  have h2 := h.c2
  have h4 := h.c4
  clear h
  go_enter Try.func44, Try.ntmps44
  go_wp2
  have H1 := H.out.put 2 (.bool false) { R with down := false } vs vh rfl H.out.sec H.out.wait rfl
  have H2 := H1.put 4 (.int .i64 (-1)) (rstartM R) vs vh rfl H1.sec H1.wait rfl
  have HU := (H.out.upd 2 (.bool false)).trans (H1.upd 4 (.int .i64 (-1))) (fun _ h => .inl h)
  go_end0
  exact ⟨rfl, H2, HU⟩
def thereM (R : RM) (k : Int) : Int := if R.down = true then 60 else if k < 0 ∨ (R.sec.length : Int) ≤ k then 61 else 0
theorem there_calls (h : RAt w B g F R vs vh vc) (k : Int) : Calls Try.prog 48 #[.pointer (some ⟨g, 0, none⟩), .int .i64 k] w fun e w' => e = .returned (.int .i64 (thereM R k)) ∧ w = w' := by
  obtain ⟨A, c, rfl, _⟩ := Kd.R_reads h.sec
  have h0 := h.c0
  have h2 := h.c2
  clear h
  cases hd : R.down with
  | true =>
    rw [hd] at h2
    have hr := Lib.hid (show thereM R k = 60 by simp [thereM, hd])
    clear hd
    go_enter Try.func48, Try.ntmps48
    go_wp2
    go_ret
    exact ⟨by rw [hr.out] <;> rfl, rfl⟩
  | false =>
    rw [hd] at h2
    by_cases hk : k < 0
    · have hr := Lib.hid (show thereM R k = 61 by simp [thereM, hd, hk])
      clear hd
      go_enter Try.func48, Try.ntmps48
      go_wp2
      go_ret
      exact ⟨by rw [hr.out] <;> rfl, rfl⟩
    · by_cases hk2 : (R.sec.length : Int) ≤ k
      · have hr := Lib.hid (show thereM R k = 61 by simp [thereM, hd, hk2])
        clear hd
        go_enter Try.func48, Try.ntmps48
        go_wp2
        go_ret
        exact ⟨by rw [hr.out] <;> rfl, rfl⟩
      · have hr := Lib.hid (show thereM R k = 0 by simp [thereM, hd, hk, hk2])
        clear hd
        go_enter Try.func48, Try.ntmps48
        go_wp2
        go_ret
        exact ⟨by rw [hr.out] <;> rfl, rfl⟩
end Go.Proofs.Ytfimeiicidcoiaa.Dk
