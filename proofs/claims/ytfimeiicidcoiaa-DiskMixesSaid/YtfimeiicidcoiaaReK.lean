/- The reference's New. -/
import Derived.Test.YtfimeiicidcoiaaReJ
namespace Go.Proofs.Ytfimeiicidcoiaa.Dk
open Go.RowKit Go.Proofs.YtfimeiicidcoiaaW.PrintWords Go.Proofs.YtfimeiicidcoiaaW.PrintLast Go.Proofs.YtfimeiicidcoiaaW.PrintMore
set_option linter.unusedVariables false
set_option linter.unusedSimpArgs false
variable {w w1 : World} {B g : Nat} {F G : Nat → Prop} {R : RM} {vs vh vc : Value}
theorem info22 : (Try.prog.info? 22).map (fun i => (i.zero, i.size, i.bytes)) = some (some (.slice none 0 0), 1, 24) := by kernel_rfl
theorem buildSlice70 (v : Value) (w : World) (hv : ∃ A n c, v = .slice A n c) : (Instr.buildSlice 70 1 #[(0, v)]).run Try.prog w = .ok (.slice (some ⟨w.heap.size, 0, none⟩) 1 1) (w.alloc (.cells #[v] 22)) := by
  obtain ⟨A, n, c, rfl⟩ := hv
  obtain ⟨ie, hie, hz⟩ := Option.map_eq_some_iff.1 info22
  injection hz with hz1 hz2
  injection hz2 with hz2 hz3
  refine run_buildSlice w 70 22 1 _ _ ie _ Try.underlying70 hie hz1 (by rw [hz2]; decide) (by rw [hz2]; decide) ?_
  rw [hz2]
  have := Great.fill_whole (s := 1) (by decide) [.slice A n c] ((Array.range (1 * 1)).map (fun i => (Value.slice none 0 0).cells[i % (Value.slice none 0 0).cells.size]!)) (by simp [Value.cells]) (by simp)
  simpa [Value.cells] using this
def rnewM (L : List (List Int)) : RM := { sec := L, wait := [], down := false, strokes := 0, left := -1, choice := [] }
set_option maxHeartbeats 8000000 in
theorem rNew_fails (A : Option Addr) (c : Nat) (x : List Int) (n : Int) (hx : x.length ≤ 1000000000) (hbad : newBad x n) :
    Calls Try.prog 28 #[.slice A x.length c, .int .i64 n] w fun e w' => e = .returned (.tuple #[.pointer none, .int .i64 1]) ∧ w = w' := by
  by_cases h1 : n < 1
  · clear hbad
    go_enter Try.func28, Try.ntmps28
    go_wp2
    refine bodyPost_ret (results_tmp2 rfl _ _ _) rfl ?_
    exact ⟨rfl, rfl⟩
  · by_cases h2 : 16384 < n
    · clear hbad
      go_enter Try.func28, Try.ntmps28
      go_wp2
      refine bodyPost_ret (results_tmp2 rfl _ _ _) rfl ?_
      exact ⟨rfl, rfl⟩
    · have h3 : 64 * n < (x.length : Int) := by unfold newBad at hbad; omega
      clear hbad
      go_enter Try.func28, Try.ntmps28
      go_wp2
      refine bodyPost_ret (results_tmp2 rfl _ _ _) rfl ?_
      exact ⟨rfl, rfl⟩
def NewRef (w w' : World) (n : Nat) (e : Ending) : Prop := ∃ g R, e = .returned (.tuple #[.pointer (some ⟨g, 0, none⟩), .int .i64 0]) ∧ RefAt w' w.heap.size g (fun k => w.heap.size ≤ k ∧ k < w'.heap.size) R ∧ ROk R ∧ R.wait = [] ∧ R.choice = [] ∧ R.sec.length = n ∧ Below w.heap.size w w'
set_option maxHeartbeats 8000000 in
theorem rNew_calls (A : Option Addr) (c : Nat) (x : List Int) (n : Nat) (hx : x.length ≤ 1000000000) (hxc : x.length ≤ c) (hC : Kd.C (Kd.int .u8) w A x.length x) (hok : ¬ newBad x n) :
    Calls Try.prog 28 #[.slice A x.length c, .int .i64 n] w fun e w' => NewRef w w' n e := by
  have HC := Aside0.mk hC
  have HX := Aside0.mk hxc
  have hn1 : 1 ≤ n := by unfold newBad at hok; omega
  have hn2 : n ≤ 16384 := by unfold newBad at hok; omega
  have hn3 : x.length ≤ n * 64 := by unfold newBad at hok; omega
  clear hok hC hxc
  go_enter Try.func28, Try.ntmps28
  go_wp2
  have hb0 := heap_alloc_new w (.cells #[.slice none 0 0, .slice none 0 0, .bool false, .int .i64 0, .int .i64 (-1), .slice none 0 0] 73)
  have HR0 := Aside0.mk (show RAt (w.alloc (.cells #[.slice none 0 0, .slice none 0 0, .bool false, .int .i64 0, .int .i64 (-1), .slice none 0 0] 73)) w.heap.size w.heap.size (fun k => w.heap.size ≤ k ∧ k < (w.alloc (.cells #[.slice none 0 0, .slice none 0 0, .bool false, .int .i64 0, .int .i64 (-1), .slice none 0 0] 73)).heap.size) (rnewM []) (.slice none 0 0) (.slice none 0 0) (.slice none 0 0) from
    ⟨hb0, Kd.R_nil _ _ _ _ _, Kd.R_nil _ _ _ _ _, ⟨none, 0, rfl, Nat.le_refl _, fun W hW => Kd.C_nil _ _⟩, ⟨Nat.le_refl _, blk_lt hb0⟩, fun k hk => hk⟩)
  have HB0 := Aside0.mk (below_alloc (Below.refl w.heap.size w) (.cells #[.slice none 0 0, .slice none 0 0, .bool false, .int .i64 0, .int .i64 (-1), .slice none 0 0] 73))
  have HC0 := Aside0.mk (show ∀ W, Below w.heap.size w W → Kd.C (Kd.int .u8) W A x.length x from fun W hW => Kd.C_below HC.out hW)
  clear hb0
  go_loopw [0, 7] (fun v0 v7 w' => ∃ (i : Nat) (y : List Int) (A' : Option Addr) (c' : Nat) (L : List (List Int)) (As : Option Addr) (cs : Nat), v0 = .slice A' y.length c' ∧ v7 = .int .i64 i ∧ i ≤ n ∧ y.length ≤ x.length ∧ Aside0 (y.length ≤ c') ∧ Aside0 (∀ W, Below w.heap.size w W → Kd.C (Kd.int .u8) W A' y.length y) ∧ Aside0 (L.length = i) ∧ Aside0 (∀ s ∈ L, s.length = 64) ∧ Aside0 (RAt w' w.heap.size w.heap.size (fun k => w.heap.size ≤ k ∧ k < w'.heap.size) (rnewM L) (.slice As L.length cs) (.slice none 0 0) (.slice none 0 0)) ∧ Aside0 (Below w.heap.size w w')) (fun _ v7 _ => n - (intOf v7).toNat)
  case atStart => exact ⟨0, x, A, c, [], none, 0, rfl, rfl, Nat.zero_le _, Nat.le_refl _, HX, HC0, ⟨rfl⟩, ⟨fun _ h => absurd h (by simp)⟩, HR0, HB0⟩
  case round =>
    obtain ⟨i, y, A', c', L, As, cs, rfl, rfl, hi, hy, HYC, HCy, HL, HL64, HD, HB⟩ := hrel
    have h0 := HD.out.c0
    have hLn : L.length ≤ 16384 := by have := HL.out; omega
    by_cases hlt : i < n
    · by_cases hy64 : y.length > 64
      · have HT := Aside0.mk (full_take (w := wr.drew) A' c' 64 y (by omega) (by omega) (Kd.C_below (HCy.out wr HB.out) (below_drew (Below.refl _ _))))
        have hyc := HYC.out
        go_wp2
        refine start_ (n := 13) (S := fun w' => w'.cell? ⟨w.heap.size, 0, none⟩ = some (.slice As L.length cs)) (ds := [12]) #[false, false, false, false, false, false, false, false, false, false, false, false, false] (by kernel_rfl) rfl rfl (h0) (fun hHeld => ?_)
        refine pure_ (i := 0) (N := some 31) (v := ?_) (a' := ?_) #[true, false, false, false, false, false, false, false, false, false, false, false, false] rfl rfl (by kernel_rfl) (fun _ _ _ h => h) (Or.inl ⟨by rfl, ?_⟩) ?_ ?_
        rotate_left
        · intro w'
          go_simp
          with_reducible rfl
        rotate_left
        · simp only [Act.put, List.setIfInBounds_toArray, List.set_cons_zero, List.set_cons_succ, i64_w, i32_w]
          rfl
        refine pure_ (i := 1) (N := some 32) (v := ?_) (a' := ?_) #[true, true, false, false, false, false, false, false, false, false, false, false, false] rfl rfl (by kernel_rfl) (fun _ _ _ h => h) (Or.inl ⟨by rfl, ?_⟩) ?_ ?_
        rotate_left
        · intro w'
          go_simp
          with_reducible rfl
        rotate_left
        · simp only [Act.put, List.setIfInBounds_toArray, List.set_cons_zero, List.set_cons_succ, i64_w, i32_w]
          rfl
        refine pure_ (i := 2) (N := some 33) (v := ?_) (a' := ?_) #[true, true, true, false, false, false, false, false, false, false, false, false, false] rfl rfl (by kernel_rfl) (fun _ _ _ h => h) (Or.inl ⟨by rfl, ?_⟩) ?_ ?_
        rotate_left
        · intro w'
          go_simp
          with_reducible rfl
        rotate_left
        · simp only [Act.put, List.setIfInBounds_toArray, List.set_cons_zero, List.set_cons_succ, i64_w, i32_w]
          rfl
        refine pure_ (i := 3) (N := some 34) (v := ?_) (a' := ?_) #[true, true, true, true, false, false, false, false, false, false, false, false, false] rfl rfl (by kernel_rfl) (fun _ _ _ h => h) (Or.inl ⟨by rfl, ?_⟩) ?_ ?_
        rotate_left
        · intro w'
          go_simp
          with_reducible rfl
        rotate_left
        · simp only [Act.put, List.setIfInBounds_toArray, List.set_cons_zero, List.set_cons_succ, i64_w, i32_w]
          rfl
        refine pure_ (i := 5) (N := some 36) (v := ?_) (a' := ?_) #[true, true, true, true, false, true, false, false, false, false, false, false, false] rfl rfl (by kernel_rfl) (fun _ _ _ h => h) (Or.inl ⟨by rfl, ?_⟩) ?_ ?_
        rotate_left
        · intro w'
          go_simp
          with_reducible rfl
        rotate_left
        · simp only [Act.put, List.setIfInBounds_toArray, List.set_cons_zero, List.set_cons_succ, i64_w, i32_w]
          rfl
        refine pure_ (i := 6) (N := some 37) (v := ?_) (a' := ?_) #[true, true, true, true, false, true, true, false, false, false, false, false, false] rfl rfl (by kernel_rfl) (fun _ _ _ h => h) (Or.inl ⟨by rfl, ?_⟩) ?_ ?_
        rotate_left
        · intro w'
          go_simp
          rw [if_pos (by omega)]
          (try with_reducible rfl)
        rotate_left
        · simp only [Act.put, List.setIfInBounds_toArray, List.set_cons_zero, List.set_cons_succ, i64_w, i32_w]
          rfl
        refine take_ (i := 4) (N := some 35) (v := ?_) (a' := ?_) #[true, true, true, true, true, true, true, false, false, false, false, false, false] rfl rfl (by kernel_rfl) (fun _ _ _ h => h) (Or.inl ⟨by rfl, ?_⟩) hHeld ?_ ?_
        rotate_left
        · intro w' s0
          go_simp
          with_reducible rfl
        rotate_left
        · simp only [Act.put, List.setIfInBounds_toArray, List.set_cons_zero, List.set_cons_succ, i64_w, i32_w]
          rfl
        refine one_ (i := 7) (N := some 38) #[true, true, true, true, true, true, true, true, false, false, false, false, false] rfl rfl (by kernel_rfl) (by decide) (fun K hK => ?_)
        refine goes_ Try.func39 (by kernel_rfl) rfl #[.slice A' 64 c'] (by rfl) rfl rfl (by simp only [List.map_toArray, List.map_cons, List.map_nil]; rfl) ?_
        with_reducible refine (HT.out).mono ?_
        rintro e w3 ⟨v3, xs, rfl, hxl, hr3, hb3⟩
        refine ⟨_, rfl, ?_⟩
        obtain ⟨A3, c3, rfl⟩ := Kd.R_slice hr3
        have hbw3 : Below wr.heap.size wr w3 := ⟨hb3.os, hb3.tape, hb3.output, hb3.size, hb3.block⟩
        have HBW3 := Aside0.mk hbw3
        have H3A := Aside0.mk (HD.out.below hbw3)
        have HXL := Aside0.mk hxl
        have HXS := Aside0.mk (Kd.R_mono (Kd.R_lower (Kd.R_bound hr3) (show w.heap.size ≤ wr.drew.heap.size from HB.out.size)) (ok' := fun k => wr.heap.size ≤ k ∧ k < w3.heap.size ∧ ∃ cells, w3.heap[k]? = some (.cells cells 5 (0, 0))) (fun k hk => ⟨hk.1, hk.2.2.1, by obtain ⟨q, hq, hc⟩ := hk.2.2.2; simp only [Kd.int, Kd.scalar, List.mem_cons, List.not_mem_nil, or_false] at hq; rw [hq] at hc; exact hc⟩))
        clear hr3 hb3 hxl hbw3
        refine hK.out _ _ ((H3A.out.c0)) (fun hHeld => ?_)
        clear hK K
        refine norm_ (a' := ?_) ?_ ?_
        rotate_left
        · show Act.put _ (some 38) _ = _
          simp only [Act.put, List.setIfInBounds_toArray, List.set_cons_zero, List.set_cons_succ, i64_w, i32_w]
          rfl
        refine one_ (i := 8) (N := some 39) #[true, true, true, true, true, true, true, true, true, false, false, false, false] rfl rfl (by kernel_rfl) (by decide) (fun K hK => ?_)
        refine value_ (w1 := w3.alloc (.cells #[.slice A3 xs.length c3] 22)) (v := .slice (some ⟨w3.heap.size, 0, none⟩) 1 1) (by rfl) rfl ?hbs ?_
        case hbs =>
          refine exec_buildSlice (t := 70) (n := 1) (parts := #[(0, .tmp 38)]) (args := #[(0, .slice A3 xs.length c3)]) ?ho ?he ?hr
          case ho => rfl
          case he => kernel_rfl
          case hr => exact buildSlice70 _ w3 ⟨_, _, _, rfl⟩
        refine hK.out _ _ (((H3A.out.below (below_alloc (Below.refl _ _) _)).c0)) (fun hHeld => ?_)
        clear hK K
        refine norm_ (a' := ?_) ?_ ?_
        rotate_left
        · show Act.put _ (some 39) _ = _
          simp only [Act.put, List.setIfInBounds_toArray, List.set_cons_zero, List.set_cons_succ, i64_w, i32_w]
          rfl
        refine one_ (i := 9) (N := some 40) #[true, true, true, true, true, true, true, true, true, true, false, false, false] rfl rfl (by kernel_rfl) (by decide) (fun K hK => ?_)
        refine Kd.R_append_step kBy (w0 := w) (W := w3) w.heap.size (by rfl) (.tmp 35) (.tmp 39) 70 22 (.slice none 0 0) 24 rfl Try.underlying70 info22 rfl (by decide) (by decide) (.slice As L.length cs) L xs [.slice A3 xs.length c3] (fun k => w.heap.size ≤ k) (fun k => wr.heap.size ≤ k ∧ k < w3.heap.size ∧ ∃ cells, w3.heap[k]? = some (.cells cells 5 (0, 0))) rfl rfl ⟨_, rfl, HXS.out⟩ (fun k hk => ⟨Nat.le_trans HB.out.size hk.1, row_ne H3A.out.sec hk.2.2 (by decide)⟩) (fun k hk => Nat.le_trans HB.out.size (Nat.le_trans HBW3.out.size hk)) (Kd.R_mono H3A.out.sec (fun _ h => h.1)) (Upd.below ((Upd.of_below (F := fun _ => False) HB.out).trans (Upd.of_below (F := fun _ => False) HBW3.out) (fun _ h => h.elim)) (fun _ h => h.elim)) (Nat.le_trans HB.out.size HBW3.out.size) (by omega) ?_
        intro v1 w1 hr1 hb1 hg1 _
        obtain ⟨A1, c1, rfl⟩ := Kd.R_slice hr1
        have HR1 := Aside0.mk hr1
        have HG1 := Aside0.mk hg1
        have HB1 := Aside0.mk hb1
        have hb1k := blk_other H3A.out.blk H3A.out.sec (by decide) hg1
        have h1b : w1.cell? ⟨w.heap.size, 0, none⟩ = some (.slice As L.length cs) := by simp [World.cell?, hb1k]
        have hf1 : ∀ j, w1.frozen? ⟨w.heap.size, j, none⟩ = false := fun j => by simp [World.frozen?, hb1k]
        have HBK := Aside0.mk hb1k
        clear hr1 hb1 hg1 hb1k
        refine hK.out _ _ ((h1b)) (fun hHeld => ?_)
        clear hK K
        refine norm_ (a' := ?_) ?_ ?_
        rotate_left
        · show Act.put _ (some 40) _ = _
          simp only [Act.put, List.setIfInBounds_toArray, List.set_cons_zero, List.set_cons_succ, i64_w, i32_w]
          rfl
        refine pure_ (i := 10) (N := some 41) (v := ?_) (a' := ?_) #[true, true, true, true, true, true, true, true, true, true, true, false, false] rfl rfl (by kernel_rfl) (fun _ _ _ h => h) (Or.inl ⟨by rfl, ?_⟩) ?_ ?_
        rotate_left
        · intro w'
          go_simp
          with_reducible rfl
        rotate_left
        · simp only [Act.put, List.setIfInBounds_toArray, List.set_cons_zero, List.set_cons_succ, i64_w, i32_w]
          rfl
        refine pure_ (i := 11) (N := some 42) (v := ?_) (a' := ?_) #[true, true, true, true, true, true, true, true, true, true, true, true, false] rfl rfl (by kernel_rfl) (fun _ _ _ h => h) (Or.inl ⟨by rfl, ?_⟩) ?_ ?_
        rotate_left
        · intro w'
          go_simp
          with_reducible rfl
        rotate_left
        · simp only [Act.put, List.setIfInBounds_toArray, List.set_cons_zero, List.set_cons_succ, i64_w, i32_w]
          rfl
        refine last_ (i := 12) (N := none) #[true, true, true, true, true, true, true, true, true, true, true, true, true] rfl rfl (by kernel_rfl) (by decide) (fun K hK => ?_)
        refine skip_ (w1 := ?_) (by rfl) rfl ?_ ?_
        rotate_left
        · go_simp
          rfl
        refine hK.out _ _ ?_
        clear hK K
        refine done_ (by kernel_rfl) ?_
        have H2 := Aside0.mk (show RAt (w1.setCell ⟨w.heap.size, 0, none⟩ (.slice A1 (L.length + 1) c1)) w.heap.size w.heap.size (fun k => w.heap.size ≤ k ∧ k < (w1.setCell ⟨w.heap.size, 0, none⟩ (.slice A1 (L.length + 1) c1)).heap.size) (rnewM (L ++ [xs])) (.slice A1 (L ++ [xs]).length c1) (.slice none 0 0) (.slice none 0 0) from
          { blk := by rw [heap_setCell_same w1 w.heap.size 0 _ 73 _ HBK.out, show (L ++ [xs]).length = L.length + 1 by simp]; rfl
            sec := Kd.R_set (Kd.R_mono (Kd.R_bound HR1.out) (fun k hk => ⟨hk.1, by simpa [World.setCell] using hk.2.2.1⟩)) HBK.out (by simp [kBy, Kd.slice, Kd.int, Kd.scalar]) 0 _
            wait := Kd.R_nil _ _ _ _ _
            choice := ⟨none, 0, rfl, Nat.le_refl _, fun W hW => Kd.C_nil _ _⟩
            own := ⟨Nat.le_refl _, by simpa [World.setCell] using blk_lt HBK.out⟩
            lt := fun k hk => hk })
        have HU1 := (Upd.of_below (F := fun _ => False) HB.out).trans (Upd.of_below (F := fun _ => False) HBW3.out) (fun _ h => h.elim)
        have HB2 := Aside0.mk (show Below w.heap.size w (w1.setCell ⟨w.heap.size, 0, none⟩ (.slice A1 (L.length + 1) c1)) from below_set HB1.out (Nat.le_refl _))
        have HC2 := Aside0.mk (show ∀ W, Below w.heap.size w W → Kd.C (Kd.int .u8) W (if c' = 64 then A' else A'.map (·.add (64 * (Kd.int .u8).sz))) (y.drop 64).length (y.drop 64) from fun W hW => Kd.C_drop (HCy.out W hW) (by omega) HYC.out)
        have HLn := Aside0.mk (show (L ++ [xs]).length = i + 1 by rw [List.length_append, HL.out]; rfl)
        have HL6 := Aside0.mk (show ∀ s ∈ L ++ [xs], s.length = 64 from fun s hs => by
          rcases List.mem_append.1 hs with hs | hs
          · exact HL64.out s hs
          · rw [List.mem_singleton.1 hs]; exact HXL.out)
        clear HU1 hf1 h1b h0
        go_wp2
        go_roundw
        case rel => exact ⟨i + 1, y.drop 64, _, c' - 64, L ++ [xs], A1, c1, by rw [List.length_drop]; simp [Kd.int, Kd.scalar, Addr.add] <;> (intro h; have := HYC.out; omega), by go_num, by omega, by rw [List.length_drop]; omega, ⟨by rw [List.length_drop]; omega⟩, HC2, HLn, HL6, H2, HB2⟩
        case measure => simp [intOf]; omega
      · have HT := Aside0.mk (full_calls (w := wr.drew) A' c' y (by omega) (Kd.C_below (HCy.out wr HB.out) (below_drew (Below.refl _ _))))
        go_wp2
        refine start_ (n := 12) (S := fun w' => w'.cell? ⟨w.heap.size, 0, none⟩ = some (.slice As L.length cs)) (ds := [11]) #[false, false, false, false, false, false, false, false, false, false, false, false] (by kernel_rfl) rfl rfl (h0) (fun hHeld => ?_)
        refine pure_ (i := 0) (N := some 45) (v := ?_) (a' := ?_) #[true, false, false, false, false, false, false, false, false, false, false, false] rfl rfl (by kernel_rfl) (fun _ _ _ h => h) (Or.inl ⟨by rfl, ?_⟩) ?_ ?_
        rotate_left
        · intro w'
          go_simp
          with_reducible rfl
        rotate_left
        · simp only [Act.put, List.setIfInBounds_toArray, List.set_cons_zero, List.set_cons_succ, i64_w, i32_w]
          rfl
        refine pure_ (i := 1) (N := some 46) (v := ?_) (a' := ?_) #[true, true, false, false, false, false, false, false, false, false, false, false] rfl rfl (by kernel_rfl) (fun _ _ _ h => h) (Or.inl ⟨by rfl, ?_⟩) ?_ ?_
        rotate_left
        · intro w'
          go_simp
          with_reducible rfl
        rotate_left
        · simp only [Act.put, List.setIfInBounds_toArray, List.set_cons_zero, List.set_cons_succ, i64_w, i32_w]
          rfl
        refine pure_ (i := 2) (N := some 47) (v := ?_) (a' := ?_) #[true, true, true, false, false, false, false, false, false, false, false, false] rfl rfl (by kernel_rfl) (fun _ _ _ h => h) (Or.inl ⟨by rfl, ?_⟩) ?_ ?_
        rotate_left
        · intro w'
          go_simp
          with_reducible rfl
        rotate_left
        · simp only [Act.put, List.setIfInBounds_toArray, List.set_cons_zero, List.set_cons_succ, i64_w, i32_w]
          rfl
        refine pure_ (i := 3) (N := some 48) (v := ?_) (a' := ?_) #[true, true, true, true, false, false, false, false, false, false, false, false] rfl rfl (by kernel_rfl) (fun _ _ _ h => h) (Or.inl ⟨by rfl, ?_⟩) ?_ ?_
        rotate_left
        · intro w'
          go_simp
          with_reducible rfl
        rotate_left
        · simp only [Act.put, List.setIfInBounds_toArray, List.set_cons_zero, List.set_cons_succ, i64_w, i32_w]
          rfl
        refine pure_ (i := 5) (N := some 50) (v := ?_) (a' := ?_) #[true, true, true, true, false, true, false, false, false, false, false, false] rfl rfl (by kernel_rfl) (fun _ _ _ h => h) (Or.inl ⟨by rfl, ?_⟩) ?_ ?_
        rotate_left
        · intro w'
          go_simp
          with_reducible rfl
        rotate_left
        · simp only [Act.put, List.setIfInBounds_toArray, List.set_cons_zero, List.set_cons_succ, i64_w, i32_w]
          rfl
        refine take_ (i := 4) (N := some 49) (v := ?_) (a' := ?_) #[true, true, true, true, true, true, false, false, false, false, false, false] rfl rfl (by kernel_rfl) (fun _ _ _ h => h) (Or.inl ⟨by rfl, ?_⟩) hHeld ?_ ?_
        rotate_left
        · intro w' s0
          go_simp
          with_reducible rfl
        rotate_left
        · simp only [Act.put, List.setIfInBounds_toArray, List.set_cons_zero, List.set_cons_succ, i64_w, i32_w]
          rfl
        refine one_ (i := 6) (N := some 51) #[true, true, true, true, true, true, true, false, false, false, false, false] rfl rfl (by kernel_rfl) (by decide) (fun K hK => ?_)
        refine goes_ Try.func39 (by kernel_rfl) rfl #[.slice A' y.length c'] (by rfl) rfl rfl (by simp only [List.map_toArray, List.map_cons, List.map_nil]; rfl) ?_
        with_reducible refine (HT.out).mono ?_
        rintro e w3 ⟨v3, xs, rfl, hxl, hr3, hb3⟩
        refine ⟨_, rfl, ?_⟩
        obtain ⟨A3, c3, rfl⟩ := Kd.R_slice hr3
        have hbw3 : Below wr.heap.size wr w3 := ⟨hb3.os, hb3.tape, hb3.output, hb3.size, hb3.block⟩
        have HBW3 := Aside0.mk hbw3
        have H3A := Aside0.mk (HD.out.below hbw3)
        have HXL := Aside0.mk hxl
        have HXS := Aside0.mk (Kd.R_mono (Kd.R_lower (Kd.R_bound hr3) (show w.heap.size ≤ wr.drew.heap.size from HB.out.size)) (ok' := fun k => wr.heap.size ≤ k ∧ k < w3.heap.size ∧ ∃ cells, w3.heap[k]? = some (.cells cells 5 (0, 0))) (fun k hk => ⟨hk.1, hk.2.2.1, by obtain ⟨q, hq, hc⟩ := hk.2.2.2; simp only [Kd.int, Kd.scalar, List.mem_cons, List.not_mem_nil, or_false] at hq; rw [hq] at hc; exact hc⟩))
        clear hr3 hb3 hxl hbw3
        refine hK.out _ _ ((H3A.out.c0)) (fun hHeld => ?_)
        clear hK K
        refine norm_ (a' := ?_) ?_ ?_
        rotate_left
        · show Act.put _ (some 51) _ = _
          simp only [Act.put, List.setIfInBounds_toArray, List.set_cons_zero, List.set_cons_succ, i64_w, i32_w]
          rfl
        refine one_ (i := 7) (N := some 52) #[true, true, true, true, true, true, true, true, false, false, false, false] rfl rfl (by kernel_rfl) (by decide) (fun K hK => ?_)
        refine value_ (w1 := w3.alloc (.cells #[.slice A3 xs.length c3] 22)) (v := .slice (some ⟨w3.heap.size, 0, none⟩) 1 1) (by rfl) rfl ?hbs ?_
        case hbs =>
          refine exec_buildSlice (t := 70) (n := 1) (parts := #[(0, .tmp 51)]) (args := #[(0, .slice A3 xs.length c3)]) ?ho ?he ?hr
          case ho => rfl
          case he => kernel_rfl
          case hr => exact buildSlice70 _ w3 ⟨_, _, _, rfl⟩
        refine hK.out _ _ (((H3A.out.below (below_alloc (Below.refl _ _) _)).c0)) (fun hHeld => ?_)
        clear hK K
        refine norm_ (a' := ?_) ?_ ?_
        rotate_left
        · show Act.put _ (some 52) _ = _
          simp only [Act.put, List.setIfInBounds_toArray, List.set_cons_zero, List.set_cons_succ, i64_w, i32_w]
          rfl
        refine one_ (i := 8) (N := some 53) #[true, true, true, true, true, true, true, true, true, false, false, false] rfl rfl (by kernel_rfl) (by decide) (fun K hK => ?_)
        refine Kd.R_append_step kBy (w0 := w) (W := w3) w.heap.size (by rfl) (.tmp 49) (.tmp 52) 70 22 (.slice none 0 0) 24 rfl Try.underlying70 info22 rfl (by decide) (by decide) (.slice As L.length cs) L xs [.slice A3 xs.length c3] (fun k => w.heap.size ≤ k) (fun k => wr.heap.size ≤ k ∧ k < w3.heap.size ∧ ∃ cells, w3.heap[k]? = some (.cells cells 5 (0, 0))) rfl rfl ⟨_, rfl, HXS.out⟩ (fun k hk => ⟨Nat.le_trans HB.out.size hk.1, row_ne H3A.out.sec hk.2.2 (by decide)⟩) (fun k hk => Nat.le_trans HB.out.size (Nat.le_trans HBW3.out.size hk)) (Kd.R_mono H3A.out.sec (fun _ h => h.1)) (Upd.below ((Upd.of_below (F := fun _ => False) HB.out).trans (Upd.of_below (F := fun _ => False) HBW3.out) (fun _ h => h.elim)) (fun _ h => h.elim)) (Nat.le_trans HB.out.size HBW3.out.size) (by omega) ?_
        intro v1 w1 hr1 hb1 hg1 _
        obtain ⟨A1, c1, rfl⟩ := Kd.R_slice hr1
        have HR1 := Aside0.mk hr1
        have HG1 := Aside0.mk hg1
        have HB1 := Aside0.mk hb1
        have hb1k := blk_other H3A.out.blk H3A.out.sec (by decide) hg1
        have h1b : w1.cell? ⟨w.heap.size, 0, none⟩ = some (.slice As L.length cs) := by simp [World.cell?, hb1k]
        have hf1 : ∀ j, w1.frozen? ⟨w.heap.size, j, none⟩ = false := fun j => by simp [World.frozen?, hb1k]
        have HBK := Aside0.mk hb1k
        clear hr1 hb1 hg1 hb1k
        refine hK.out _ _ ((h1b)) (fun hHeld => ?_)
        clear hK K
        refine norm_ (a' := ?_) ?_ ?_
        rotate_left
        · show Act.put _ (some 53) _ = _
          simp only [Act.put, List.setIfInBounds_toArray, List.set_cons_zero, List.set_cons_succ, i64_w, i32_w]
          rfl
        refine pure_ (i := 9) (N := some 54) (v := ?_) (a' := ?_) #[true, true, true, true, true, true, true, true, true, true, false, false] rfl rfl (by kernel_rfl) (fun _ _ _ h => h) (Or.inl ⟨by rfl, ?_⟩) ?_ ?_
        rotate_left
        · intro w'
          go_simp
          with_reducible rfl
        rotate_left
        · simp only [Act.put, List.setIfInBounds_toArray, List.set_cons_zero, List.set_cons_succ, i64_w, i32_w]
          rfl
        refine pure_ (i := 10) (N := some 55) (v := ?_) (a' := ?_) #[true, true, true, true, true, true, true, true, true, true, true, false] rfl rfl (by kernel_rfl) (fun _ _ _ h => h) (Or.inl ⟨by rfl, ?_⟩) ?_ ?_
        rotate_left
        · intro w'
          go_simp
          with_reducible rfl
        rotate_left
        · simp only [Act.put, List.setIfInBounds_toArray, List.set_cons_zero, List.set_cons_succ, i64_w, i32_w]
          rfl
        refine last_ (i := 11) (N := none) #[true, true, true, true, true, true, true, true, true, true, true, true] rfl rfl (by kernel_rfl) (by decide) (fun K hK => ?_)
        refine skip_ (w1 := ?_) (by rfl) rfl ?_ ?_
        rotate_left
        · go_simp
          rfl
        refine hK.out _ _ ?_
        clear hK K
        refine done_ (by kernel_rfl) ?_
        have H2 := Aside0.mk (show RAt (w1.setCell ⟨w.heap.size, 0, none⟩ (.slice A1 (L.length + 1) c1)) w.heap.size w.heap.size (fun k => w.heap.size ≤ k ∧ k < (w1.setCell ⟨w.heap.size, 0, none⟩ (.slice A1 (L.length + 1) c1)).heap.size) (rnewM (L ++ [xs])) (.slice A1 (L ++ [xs]).length c1) (.slice none 0 0) (.slice none 0 0) from
          { blk := by rw [heap_setCell_same w1 w.heap.size 0 _ 73 _ HBK.out, show (L ++ [xs]).length = L.length + 1 by simp]; rfl
            sec := Kd.R_set (Kd.R_mono (Kd.R_bound HR1.out) (fun k hk => ⟨hk.1, by simpa [World.setCell] using hk.2.2.1⟩)) HBK.out (by simp [kBy, Kd.slice, Kd.int, Kd.scalar]) 0 _
            wait := Kd.R_nil _ _ _ _ _
            choice := ⟨none, 0, rfl, Nat.le_refl _, fun W hW => Kd.C_nil _ _⟩
            own := ⟨Nat.le_refl _, by simpa [World.setCell] using blk_lt HBK.out⟩
            lt := fun k hk => hk })
        have HU1 := (Upd.of_below (F := fun _ => False) HB.out).trans (Upd.of_below (F := fun _ => False) HBW3.out) (fun _ h => h.elim)
        have HB2 := Aside0.mk (show Below w.heap.size w (w1.setCell ⟨w.heap.size, 0, none⟩ (.slice A1 (L.length + 1) c1)) from below_set HB1.out (Nat.le_refl _))
        have HC2 := Aside0.mk (show ∀ W, Below w.heap.size w W → Kd.C (Kd.int .u8) W none ([] : List Int).length [] from fun W hW => Kd.C_nil _ _)
        have HLn := Aside0.mk (show (L ++ [xs]).length = i + 1 by rw [List.length_append, HL.out]; rfl)
        have HL6 := Aside0.mk (show ∀ s ∈ L ++ [xs], s.length = 64 from fun s hs => by
          rcases List.mem_append.1 hs with hs | hs
          · exact HL64.out s hs
          · rw [List.mem_singleton.1 hs]; exact HXL.out)
        clear HU1 hf1 h1b h0
        go_wp2
        go_roundw
        case rel => exact ⟨i + 1, [], none, 0, L ++ [xs], A1, c1, rfl, by go_num, by omega, Nat.zero_le _, ⟨Nat.le_refl _⟩, HC2, HLn, HL6, H2, HB2⟩
        case measure => simp [intOf]; omega
    · obtain rfl : i = n := by omega
      go_wp2
      refine bodyPost_ret (results_tmp2 rfl _ _ _) rfl ?_
      exact ⟨w.heap.size, rnewM L, rfl, ⟨_, _, _, HD.out⟩, ⟨fun _ h => absurd h (by simp [rnewM]), HL64.out, fun _ h => absurd h (by simp [rnewM]), by have := HL.out; show L.length ≤ _; omega, Nat.zero_le _, by show (-1 : Int) ≤ -1; omega, by show (-1 : Int) ≤ _; omega⟩, rfl, rfl, HL.out, HB.out⟩
end Go.Proofs.Ytfimeiicidcoiaa.Dk
