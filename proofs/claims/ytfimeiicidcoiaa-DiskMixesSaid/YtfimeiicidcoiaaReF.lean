/- The reference's Write. -/
import Derived.Test.YtfimeiicidcoiaaReE
import Derived.Great.BuildSlice
namespace Go.Proofs.Ytfimeiicidcoiaa.Dk
open Go.RowKit Go.Proofs.YtfimeiicidcoiaaW.PrintWords Go.Proofs.YtfimeiicidcoiaaW.PrintLast Go.Proofs.YtfimeiicidcoiaaW.PrintMore
set_option linter.unusedVariables false
set_option linter.unusedSimpArgs false
variable {w w1 : World} {B g : Nat} {F G : Nat → Prop} {R : RM} {vs vh vc : Value}
theorem info77 : (Try.prog.info? 77).map (fun i => (i.zero, i.size, i.bytes)) = some (some (.agg #[.int .i64 0, .slice none 0 0]), 2, 32) := by kernel_rfl
theorem full64 (A : Option Addr) (c : Nat) (x : List Int) (hx : x.length = 64) (hC : Kd.C (Kd.int .u8) w A x.length x) :
    Calls Try.prog 39 #[.slice A 64 c] w fun e w' => ∃ v xs, e = .returned v ∧ xs.length = 64 ∧ Kd.R (Kd.int .u8) 5 w' w.heap.size (fun k => w.heap.size ≤ k) v xs ∧ Below w.heap.size w w' := by
  have h := full_calls A c x (by omega) hC
  rwa [hx] at h
/-- The block of a row of one type is not that of a row of another. -/
theorem row_ne {β : Type} {d2 : Kd β} {e e2 : Nat} {v2 : Value} {ys : List β} {k : Nat} (h2 : d2.R e2 w B F v2 ys) (hb : ∃ cells, w.heap[k]? = some (.cells cells e (0, 0))) (hne : e ≠ e2) : some k ≠ v2.ownBlock := by
  intro he
  obtain ⟨inner, ho⟩ := Kd.R_own h2
  obtain ⟨cells2, hc2⟩ := own_typed ho k he.symm
  obtain ⟨cells, hb⟩ := hb
  rw [hb] at hc2
  injection hc2 with hc2
  injection hc2 with _ hc2 _
  exact hne hc2
theorem slice_one {v : Value} {A : Option Addr} {n c : Nat} (h : v = .slice A n c) : v.cells = #[v] := by subst h; rfl
theorem buildSlice71 (k : Int) (v : Value) (w : World) (hv : ∃ A n c, v = .slice A n c) : (Instr.buildSlice 71 1 #[(0, .agg #[.int .i64 k, v])]).run Try.prog w = .ok (.slice (some ⟨w.heap.size, 0, none⟩) 1 1) (w.alloc (.cells #[.int .i64 k, v] 77)) := by
  obtain ⟨A, n, c, rfl⟩ := hv
  obtain ⟨ie, hie, hz⟩ := Option.map_eq_some_iff.1 info77
  injection hz with hz1 hz2
  injection hz2 with hz2 hz3
  refine run_buildSlice w 71 77 1 _ _ ie _ Try.underlying71 hie hz1 (by rw [hz2]; decide) (by rw [hz2]; decide) ?_
  rw [hz2]
  have := Great.fill_whole (s := 2) (by decide) [.agg #[.int .i64 k, .slice A n c]] ((Array.range (1 * 2)).map (fun i => (Value.agg #[.int .i64 0, .slice none 0 0]).cells[i % (Value.agg #[.int .i64 0, .slice none 0 0]).cells.size]!)) (by simp [Value.cells]) (by simp)
  simpa [Value.cells] using this
def RefAt (w : World) (B g : Nat) (F : Nat → Prop) (R : RM) : Prop := ∃ vs vh vc, RAt w B g F R vs vh vc
def rholdM (R : RM) (k : Int) (x : List Int) : RM := { R with wait := R.wait ++ [(k, x)] }
theorem RAt.grow_to {w1 w2 : World} (h : RAt w2 B g (Grow F w w1) R vs vh vc) (hB : B ≤ w.heap.size) (hs : w1.heap.size ≤ w2.heap.size) (hl : ∀ k, F k → B ≤ k ∧ k < w.heap.size) (hu : Upd w w2 F)
    (hc : ∃ A c, vc = .slice A R.choice.length c ∧ R.choice.length ≤ c ∧ ∀ W, Upd w W (fun k => B ≤ k) → Kd.C Kd.bool W A R.choice.length R.choice) : RAt w2 B g (Grow F w w2) R vs vh vc where
  blk := h.blk
  sec := Kd.R_mono h.sec (fun k hk => hk.imp id (fun hk => ⟨hk.1, by omega⟩))
  wait := Kd.R_mono h.wait (fun k hk => hk.imp id (fun hk => ⟨hk.1, by omega⟩))
  choice := by
    obtain ⟨A, c, h1, h2, h3⟩ := hc
    exact ⟨A, c, h1, h2, fun W hW => h3 W ((hu.mono (fun k hk => (hl k hk).1)).trans hW (fun _ h => .inl h))⟩
  own := h.own.imp id (fun hk => ⟨hk.1, by omega⟩)
  lt := fun k hk => by
    rcases hk with hk | hk
    · exact ⟨(hl k hk).1, Nat.lt_of_lt_of_le (hl k hk).2 hu.size⟩
    · exact ⟨by omega, hk.2⟩
theorem RAt.grow (h : RAt w B g F R vs vh vc) (hB : B ≤ w.heap.size) : RAt w B g (Grow F w w) R vs vh vc where
  blk := h.blk
  sec := Kd.R_mono h.sec (fun k hk => .inl hk)
  wait := Kd.R_mono h.wait (fun k hk => .inl hk)
  choice := by
    obtain ⟨A, c, h1, h2, h3⟩ := h.choice
    exact ⟨A, c, h1, h2, h3⟩
  own := .inl h.own
  lt := fun k hk => by
    rcases hk with hk | hk
    · exact h.lt k hk
    · exact ⟨by omega, hk.2⟩
theorem putsTo_mem (keep : Nat → Bool) (K : List (Int × List Int)) (L : List (List Int)) (hw : ∀ h ∈ K, h.2.length = 64) (hs : ∀ s ∈ L, s.length = 64) : ∀ n, n ≤ K.length → ∀ s ∈ putsTo keep K L n, s.length = 64
  | 0, _, s, h => hs s h
  | n + 1, hn, s, h => by
    unfold putsTo at h
    split at h
    · rcases List.mem_or_eq_of_mem_set h with h | rfl
      · exact putsTo_mem keep K L hw hs n (by omega) s h
      · refine hw _ ?_
        rw [List.getD_eq_getElem?_getD, List.getElem?_eq_getElem (by omega : n < K.length)]
        exact List.getElem_mem (by omega)
    · exact putsTo_mem keep K L hw hs n (by omega) s h
theorem rholdM_ok {k : Int} {x : List Int} (h : ROk R) (hk : thereM R k = 0) (hx : x.length = 64) (hn : R.wait.length < 9000000) : ROk (rholdM R k x) := by
  refine ⟨fun y hy => ?_, h.s64, fun y hy => ?_, h.n1, by simp [rholdM]; omega, h.l0, h.l1⟩
  · simp only [rholdM, List.mem_append, List.mem_singleton] at hy
    rcases hy with hy | rfl
    · exact h.at_ y hy
    · unfold thereM at hk
      split at hk
      · omega
      · split at hk
        · omega
        · constructor <;> simp only [rholdM] <;> omega
  · simp only [rholdM, List.mem_append, List.mem_singleton] at hy
    rcases hy with hy | rfl
    · exact h.w64 y hy
    · exact hx
theorem strokeM_same : (strokeM R).1.wait = R.wait ∧ (strokeM R).1.sec = R.sec ∧ (strokeM R).1.choice = R.choice := by
  unfold strokeM
  split
  · exact ⟨rfl, rfl, rfl⟩
  · split <;> exact ⟨rfl, rfl, rfl⟩
theorem strokeM_ok (h : ROk R) : ROk (strokeM R).1 := by
  unfold strokeM
  split
  · exact ⟨h.at_, h.s64, h.w64, h.n1, h.n2, by have := h.l0; simp only; omega, by have := h.l1; simp only; omega⟩
  · split
    · exact ⟨h.at_, h.s64, h.w64, h.n1, h.n2, by simp only; omega, by simp only; omega⟩
    · exact ⟨h.at_, h.s64, h.w64, h.n1, h.n2, by have := h.l0; simp only; omega, by have := h.l1; simp only; omega⟩
theorem rloseM_ok (l : List Bool) (h : ROk R) : ROk (rloseM l R) := by
  unfold rloseM
  split
  · exact h
  · exact ⟨fun y hy => by simp at hy, fun s hs => putsTo_mem _ _ _ h.w64 h.s64 _ (Nat.le_refl _) s hs, fun y hy => by simp at hy, by simp only [putsTo_length]; exact h.n1, Nat.zero_le _, h.l0, h.l1⟩
theorem rloseM_same (l : List Bool) : (rloseM l R).sec.length = R.sec.length ∧ (rloseM l R).wait.length ≤ R.wait.length ∧ (rloseM l R).choice = R.choice := by
  unfold rloseM
  split
  · exact ⟨rfl, Nat.le_refl _, rfl⟩
  · exact ⟨putsTo_length _ _ _ _, Nat.zero_le _, rfl⟩
set_option maxHeartbeats 8000000 in
theorem rWrite_calls (h : RAt w B g F R vs vh vc) (hok : ROk R) (hB : B ≤ w.heap.size) (hn : R.wait.length < 9000000) (k : Int) (A : Option Addr) (c : Nat) (x : List Int) (hC : Kd.C (Kd.int .u8) w A x.length x) :
    Calls Try.prog 40 #[.pointer (some ⟨g, 0, none⟩), .int .i64 k, .slice A x.length c] w fun e w' => ∃ n R', e = .returned (.int .i64 n) ∧ RefAt w' B g (Grow F w w') R' ∧ ROk R' ∧ R'.wait.length ≤ R.wait.length + 1 ∧ R'.sec.length = R.sec.length ∧ Upd w w' F := by
  have H := Aside0.mk h
  have HC := Aside0.mk hC
  have HOK := Aside0.mk hok
  have HN := Aside0.mk hn
  have HB := Aside0.mk hB
  obtain ⟨Ah, ch, rfl, hhl, _⟩ := Kd.R_reads h.wait
  have h1 := h.c1
  clear h hC hok hn hhl hB
  by_cases ha : thereM R k = 0
  · have HA := Aside0.mk ha
    clear ha
    by_cases h64 : x.length = 64
    · have H64 := Aside0.mk h64
      go_enter Try.func40, Try.ntmps40
      go_wp2_with (first | (go_at_call 48; refine (there_calls H.out k).mono ?_; rintro e w' ⟨rfl, rfl⟩; rw [HA.out]))
      refine start_ (n := 14) (S := fun w' => w'.cell? ⟨g, 1, none⟩ = some (.slice Ah R.wait.length ch)) (ds := [13]) #[false, false, false, false, false, false, false, false, false, false, false, false, false, false] (by kernel_rfl) rfl rfl (h1) (fun hHeld => ?_)
      refine pure_ (i := 0) (N := some 17) (v := ?_) (a' := ?_) #[true, false, false, false, false, false, false, false, false, false, false, false, false, false] rfl rfl (by kernel_rfl) (fun _ _ _ h => h) (Or.inl ⟨by rfl, ?_⟩) ?_ ?_
      rotate_left
      · intro w'
        go_simp
        with_reducible rfl
      rotate_left
      · simp only [Act.put, List.setIfInBounds_toArray, List.set_cons_zero, List.set_cons_succ, i64_w, i32_w]
        rfl
      refine pure_ (i := 1) (N := some 18) (v := ?_) (a' := ?_) #[true, true, false, false, false, false, false, false, false, false, false, false, false, false] rfl rfl (by kernel_rfl) (fun _ _ _ h => h) (Or.inl ⟨by rfl, ?_⟩) ?_ ?_
      rotate_left
      · intro w'
        go_simp
        with_reducible rfl
      rotate_left
      · simp only [Act.put, List.setIfInBounds_toArray, List.set_cons_zero, List.set_cons_succ, i64_w, i32_w]
        rfl
      refine pure_ (i := 2) (N := some 19) (v := ?_) (a' := ?_) #[true, true, true, false, false, false, false, false, false, false, false, false, false, false] rfl rfl (by kernel_rfl) (fun _ _ _ h => h) (Or.inl ⟨by rfl, ?_⟩) ?_ ?_
      rotate_left
      · intro w'
        go_simp
        with_reducible rfl
      rotate_left
      · simp only [Act.put, List.setIfInBounds_toArray, List.set_cons_zero, List.set_cons_succ, i64_w, i32_w]
        rfl
      refine pure_ (i := 3) (N := some 20) (v := ?_) (a' := ?_) #[true, true, true, true, false, false, false, false, false, false, false, false, false, false] rfl rfl (by kernel_rfl) (fun _ _ _ h => h) (Or.inl ⟨by rfl, ?_⟩) ?_ ?_
      rotate_left
      · intro w'
        go_simp
        with_reducible rfl
      rotate_left
      · simp only [Act.put, List.setIfInBounds_toArray, List.set_cons_zero, List.set_cons_succ, i64_w, i32_w]
        rfl
      refine pure_ (i := 5) (N := some 22) (v := ?_) (a' := ?_) #[true, true, true, true, false, true, false, false, false, false, false, false, false, false] rfl rfl (by kernel_rfl) (fun _ _ _ h => h) (Or.inl ⟨by rfl, ?_⟩) ?_ ?_
      rotate_left
      · intro w'
        go_simp
        with_reducible rfl
      rotate_left
      · simp only [Act.put, List.setIfInBounds_toArray, List.set_cons_zero, List.set_cons_succ, i64_w, i32_w]
        rfl
      refine pure_ (i := 6) (N := some 23) (v := ?_) (a' := ?_) #[true, true, true, true, false, true, true, false, false, false, false, false, false, false] rfl rfl (by kernel_rfl) (fun _ _ _ h => h) (Or.inl ⟨by rfl, ?_⟩) ?_ ?_
      rotate_left
      · intro w'
        go_simp
        with_reducible rfl
      rotate_left
      · simp only [Act.put, List.setIfInBounds_toArray, List.set_cons_zero, List.set_cons_succ, i64_w, i32_w]
        rfl
      refine take_ (i := 4) (N := some 21) (v := ?_) (a' := ?_) #[true, true, true, true, true, true, true, false, false, false, false, false, false, false] rfl rfl (by kernel_rfl) (fun _ _ _ h => h) (Or.inl ⟨by rfl, ?_⟩) hHeld ?_ ?_
      rotate_left
      · intro w' s0
        go_simp
        with_reducible rfl
      rotate_left
      · simp only [Act.put, List.setIfInBounds_toArray, List.set_cons_zero, List.set_cons_succ, i64_w, i32_w]
        rfl
      refine one_ (i := 7) (N := some 24) #[true, true, true, true, true, true, true, true, false, false, false, false, false, false] rfl rfl (by kernel_rfl) (by decide) (fun K hK => ?_)
      refine goes_ Try.func39 (by kernel_rfl) rfl #[.slice A 64 c] (by rfl) rfl rfl (by simp only [List.map_toArray, List.map_cons, List.map_nil]; rfl) ?_
      with_reducible refine (full64 (w := w.drew) A c x H64.out (Kd.C_below HC.out (below_drew (Below.refl _ _)))).mono ?_
      rintro e w3 ⟨v3, xs, rfl, hxl, hr3, hb3⟩
      refine ⟨_, rfl, ?_⟩
      obtain ⟨A3, c3, rfl⟩ := Kd.R_slice hr3
      have hbw3 : Below w.heap.size w w3 := ⟨hb3.os, hb3.tape, hb3.output, hb3.size, hb3.block⟩
      have HBW3 := Aside0.mk hbw3
      have H3A := Aside0.mk (H.out.below hbw3)
      have HXL := Aside0.mk hxl
      have HXS := Aside0.mk (Kd.R_mono (Kd.R_lower (Kd.R_bound hr3) (show B ≤ w.drew.heap.size from HB.out)) (ok' := fun k => w.heap.size ≤ k ∧ k < w3.heap.size ∧ ∃ cells, w3.heap[k]? = some (.cells cells 5 (0, 0))) (fun k hk => ⟨hk.1, hk.2.2.1, by obtain ⟨q, hq, hc⟩ := hk.2.2.2; simp only [Kd.int, Kd.scalar, List.mem_cons, List.not_mem_nil, or_false] at hq; rw [hq] at hc; exact hc⟩))
      clear hr3 hb3 hxl hbw3
      refine hK.out _ _ ((H3A.out.c1)) (fun hHeld => ?_)
      clear hK K
      refine norm_ (a' := ?_) ?_ ?_
      rotate_left
      · show Act.put _ (some 24) _ = _
        simp only [Act.put, List.setIfInBounds_toArray, List.set_cons_zero, List.set_cons_succ, i64_w, i32_w]
        rfl
      refine pure_ (i := 8) (N := some 25) (v := ?_) (a' := ?_) #[true, true, true, true, true, true, true, true, true, false, false, false, false, false] rfl rfl (by kernel_rfl) (fun _ _ _ h => h) (Or.inl ⟨by rfl, ?_⟩) ?_ ?_
      rotate_left
      · intro w'
        go_simp
        with_reducible rfl
      rotate_left
      · simp only [Act.put, List.setIfInBounds_toArray, List.set_cons_zero, List.set_cons_succ, i64_w, i32_w]
        rfl
      refine one_ (i := 9) (N := some 26) #[true, true, true, true, true, true, true, true, true, true, false, false, false, false] rfl rfl (by kernel_rfl) (by decide) (fun K hK => ?_)
      refine value_ (w1 := w3.alloc (.cells #[.int .i64 k, (.slice A3 xs.length c3)] 77)) (v := .slice (some ⟨w3.heap.size, 0, none⟩) 1 1) (by rfl) rfl ?hbs ?_
      case hbs =>
        refine exec_buildSlice (t := 71) (n := 1) (parts := #[(0, .tmp 25)]) (args := #[(0, .agg #[.int .i64 k, (.slice A3 xs.length c3)])]) ?ho ?he ?hr
        case ho => rfl
        case he => kernel_rfl
        case hr => exact buildSlice71 k (.slice A3 xs.length c3) w3 ⟨_, _, _, rfl⟩
      refine hK.out _ _ (((H3A.out.below (below_alloc (Below.refl _ _) _)).c1)) (fun hHeld => ?_)
      clear hK K
      refine norm_ (a' := ?_) ?_ ?_
      rotate_left
      · show Act.put _ (some 26) _ = _
        simp only [Act.put, List.setIfInBounds_toArray, List.set_cons_zero, List.set_cons_succ, i64_w, i32_w]
        rfl
      refine one_ (i := 10) (N := some 27) #[true, true, true, true, true, true, true, true, true, true, true, false, false, false] rfl rfl (by kernel_rfl) (by decide) (fun K hK => ?_)
      refine Kd.R_append_step kWa (w0 := w) (W := w3) B (by rfl) (.tmp 21) (.tmp 26) 71 77 (.agg #[.int .i64 0, .slice none 0 0]) 32 rfl Try.underlying71 info77 rfl (by decide) (by decide) (.slice Ah R.wait.length ch) R.wait (k, xs) [.int .i64 k, (.slice A3 xs.length c3)] (fun k => F k ∨ w.heap.size ≤ k) (fun k => w.heap.size ≤ k ∧ k < w3.heap.size ∧ ∃ cells, w3.heap[k]? = some (.cells cells 5 (0, 0))) rfl rfl ⟨[.int .i64 k], [(.slice A3 xs.length c3)], rfl, rfl, _, rfl, HXS.out⟩ (fun k hk => ⟨.inr hk.1, row_ne H3A.out.wait hk.2.2 (by decide)⟩) (fun k hk => .inr (Nat.le_trans HBW3.out.size hk)) (Kd.R_mono H3A.out.wait (fun _ h => .inl h)) (Below.mono HBW3.out HB.out) (Nat.le_trans HB.out HBW3.out.size) (by have := HN.out; omega) ?_
      intro v1 w1 hr1 hb1 hg1 _
      obtain ⟨A1, c1, rfl⟩ := Kd.R_slice hr1
      have HR1 := Aside0.mk (R_grow hr1)
      have HG1 := Aside0.mk hg1
      have hb1k := blk_other H3A.out.blk H3A.out.wait (by decide) hg1
      have h1b : w1.cell? ⟨g, 1, none⟩ = some (.slice Ah R.wait.length ch) := by simp [World.cell?, hb1k]
      have hf1 : ∀ j, w1.frozen? ⟨g, j, none⟩ = false := fun j => by simp [World.frozen?, hb1k]
      have HBK := Aside0.mk hb1k
      clear hr1 hb1 hg1 hb1k
      refine hK.out _ _ ((h1b)) (fun hHeld => ?_)
      clear hK K
      refine norm_ (a' := ?_) ?_ ?_
      rotate_left
      · show Act.put _ (some 27) _ = _
        simp only [Act.put, List.setIfInBounds_toArray, List.set_cons_zero, List.set_cons_succ, i64_w, i32_w]
        rfl
      refine pure_ (i := 11) (N := some 28) (v := ?_) (a' := ?_) #[true, true, true, true, true, true, true, true, true, true, true, true, false, false] rfl rfl (by kernel_rfl) (fun _ _ _ h => h) (Or.inl ⟨by rfl, ?_⟩) ?_ ?_
      rotate_left
      · intro w'
        go_simp
        with_reducible rfl
      rotate_left
      · simp only [Act.put, List.setIfInBounds_toArray, List.set_cons_zero, List.set_cons_succ, i64_w, i32_w]
        rfl
      refine pure_ (i := 12) (N := some 29) (v := ?_) (a' := ?_) #[true, true, true, true, true, true, true, true, true, true, true, true, true, false] rfl rfl (by kernel_rfl) (fun _ _ _ h => h) (Or.inl ⟨by rfl, ?_⟩) ?_ ?_
      rotate_left
      · intro w'
        go_simp
        with_reducible rfl
      rotate_left
      · simp only [Act.put, List.setIfInBounds_toArray, List.set_cons_zero, List.set_cons_succ, i64_w, i32_w]
        rfl
      refine last_ (i := 13) (N := none) #[true, true, true, true, true, true, true, true, true, true, true, true, true, true] rfl rfl (by kernel_rfl) (by decide) (fun K hK => ?_)
      refine skip_ (w1 := ?_) (by rfl) rfl ?_ ?_
      rotate_left
      · go_simp
        rfl
      refine hK.out _ _ ?_
      clear hK K
      refine done_ (by kernel_rfl) ?_
      have H2 := Aside0.mk (show RAt (w1.setCell ⟨g, 1, none⟩ (.slice A1 (R.wait ++ [(k, xs)]).length c1)) B g (Grow F w w1) (rholdM R k xs) vs (.slice A1 (R.wait ++ [(k, xs)]).length c1) vc from
        { blk := by rw [heap_setCell_same w1 g 1 _ 73 _ HBK.out]; rfl
          sec := Kd.R_set (Kd.R_mono (Kd.R_over H3A.out.sec H3A.out.wait (by simp [kBy, Kd.slice, Kd.int, Kd.scalar]) HG1.out) (fun _ h => .inl h)) HBK.out (by simp [kBy, Kd.slice, Kd.int, Kd.scalar]) 1 _
          wait := Kd.R_set HR1.out HBK.out (by simp [kWa, kBy, Kd.pair, Kd.slice, Kd.int, Kd.scalar]) 1 _
          choice := by
            obtain ⟨A, c, h1, h2, h3⟩ := H.out.choice
            exact ⟨A, c, h1, h2, fun W hW => h3 W (((((Upd.of_below (F := F) HBW3.out).trans (Upd.of_row H3A.out.wait HG1.out) (fun _ h => .inl h)).setCell (p := ⟨g, 1, none⟩) (.inl H.out.own) _).mono (fun k hk => (H.out.lt k hk).1)).trans hW (fun _ h => .inl h))⟩
          own := .inl H.out.own
          lt := fun k hk => by
            have s1 := HBW3.out.size
            have s2 := HG1.out.size
            have s3 := HB.out
            rw [show (w1.setCell ⟨g, 1, none⟩ _).heap.size = w1.heap.size by simp [World.setCell]]
            rcases hk with hk | hk
            · have := H.out.lt k hk
              exact ⟨this.1, by omega⟩
            · exact ⟨by omega, hk.2⟩ })
      have HU2 := Aside0.mk ((((Upd.of_below (F := F) HBW3.out).trans (Upd.of_row H3A.out.wait HG1.out) (fun _ h => .inl h)).setCell (p := ⟨g, 1, none⟩) (.inl H.out.own) (.slice A1 (R.wait ++ [(k, xs)]).length c1)))
      have HOK2 := Aside0.mk (rholdM_ok HOK.out HA.out HXL.out HN.out)
      have HS2 := Aside0.mk (show (rholdM R k xs).wait.length = R.wait.length + 1 by simp [rholdM])
      rw [show (R.wait ++ [(k, xs)]).length = R.wait.length + 1 by simp] at H2 HU2
      clear hf1 h1b HBK HR1 HXS
      cases hg : (strokeM (rholdM R k xs)).2 with
      | true =>
        have hg' := Lib.hid hg
        clear hg
        go_wp2_with (first | (go_at_call 49; refine (stroke_calls H2.out HOK2.out.l0 HOK2.out.l1).mono ?_; rintro e w4 ⟨rfl, h4, hu4⟩; rw [hg'.out]; obtain ⟨Ac, cc, rfl, hlc, hCc⟩ := h4.choice; have H4 := Aside0.mk h4; have HU4 := Aside0.mk hu4; have HCC := Aside0.mk hCc; have hc5 := h4.c5; clear h4 hu4 hCc hlc) | (go_at_call 43; refine (rLose_calls H4.out (strokeM_ok HOK2.out) Ac cc _ (fun W hW => HCC.out W (hW.mono (fun k hk => (H4.out.lt k hk).1)))).mono ?_; rintro e w5 ⟨rfl, ⟨vh5, h5⟩, hu5⟩; have H5 := Aside0.mk h5; have HU5 := Aside0.mk hu5; clear h5 hu5))
        go_ret
        have hu := (HU2.out.trans HU4.out (fun _ => Grow.out)).trans HU5.out (fun _ => Grow.out)
        refine ⟨_, rloseM _ (strokeM (rholdM R k xs)).1, rfl, ⟨_, _, _, RAt.grow_to H5.out HB.out (Nat.le_trans (Nat.le_of_eq (by simp [World.setCell])) (Nat.le_trans HU4.out.size HU5.out.size)) H.out.lt hu ?_⟩, rloseM_ok _ (strokeM_ok HOK2.out), ?_, ?_, hu⟩
        · have hch := H.out.choice
          have ech : (strokeM (rholdM R k xs)).1.choice = R.choice := strokeM_same.2.2
          rw [(rloseM_same _).2.2]
          rw [ech] at hch ⊢
          exact hch
        · have := (rloseM_same (R := (strokeM (rholdM R k xs)).1) (strokeM (rholdM R k xs)).1.choice).2.1
          rw [strokeM_same.1, HS2.out] at this
          exact this
        · rw [(rloseM_same _).1, strokeM_same.2.1]
          rfl
      | false =>
        have hg' := Lib.hid hg
        clear hg
        go_wp2_with (first | (go_at_call 49; refine (stroke_calls H2.out HOK2.out.l0 HOK2.out.l1).mono ?_; rintro e w4 ⟨rfl, h4, hu4⟩; rw [hg'.out]; have H4 := Aside0.mk h4; have HU4 := Aside0.mk hu4; clear h4 hu4))
        go_ret
        have hu := HU2.out.trans HU4.out (fun _ => Grow.out)
        refine ⟨_, (strokeM (rholdM R k xs)).1, rfl, ⟨_, _, _, RAt.grow_to H4.out HB.out (Nat.le_trans (Nat.le_of_eq (by simp [World.setCell])) HU4.out.size) H.out.lt hu ?_⟩, strokeM_ok HOK2.out, ?_, ?_, hu⟩
        · rw [strokeM_same.2.2]
          exact H.out.choice
        · rw [strokeM_same.1, HS2.out]
          exact Nat.le_refl _
        · rw [strokeM_same.2.1]
          rfl
    · have t64 : decide ((x.length : Int) = 64) = false := by simp; omega
      go_enter Try.func40, Try.ntmps40
      go_wp2_with (first | (go_at_call 48; refine (there_calls H.out k).mono ?_; rintro e w' ⟨rfl, rfl⟩; rw [HA.out]))
      go_ret
      exact ⟨1, R, rfl, ⟨_, _, _, H.out.grow HB.out⟩, HOK.out, by omega, rfl, Upd.refl _ _⟩
  · obtain ⟨q, hq0⟩ : ∃ q, thereM R k = q := ⟨_, rfl⟩
    have HA := Lib.hid hq0
    rw [hq0] at ha
    clear hq0
    go_enter Try.func40, Try.ntmps40
    go_wp2_with (first | (go_at_call 48; refine (there_calls H.out k).mono ?_; rintro e w' ⟨rfl, rfl⟩; rw [HA.out]))
    go_ret
    exact ⟨q, R, rfl, ⟨_, _, _, H.out.grow HB.out⟩, HOK.out, by omega, rfl, Upd.refl _ _⟩
end Go.Proofs.Ytfimeiicidcoiaa.Dk
