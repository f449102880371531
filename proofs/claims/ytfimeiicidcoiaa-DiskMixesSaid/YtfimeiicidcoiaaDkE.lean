/- Contracts of package disk: Write. -/
import Derived.Test.YtfimeiicidcoiaaDkD
import Derived.Great.BuildSlice
namespace Go.Proofs.Ytfimeiicidcoiaa.Dk
open Go.RowKit Go.Proofs.YtfimeiicidcoiaaW.PrintWords Go.Proofs.YtfimeiicidcoiaaW.PrintLast Go.Proofs.YtfimeiicidcoiaaW.PrintMore
set_option linter.unusedVariables false
set_option linter.unusedSimpArgs false
section
variable {P : Program} {ops : Array Oper} {Q : Exit → Act → World → Prop}
theorem load_ {oi : Oper} {N : Option Tmp} {a : Act} {w : World} {v : Value} {K : Act → World → Prop} (hw : Region.wanted oi (yielded ops a.tmps) = true) (hN : oi.dst = N) (ty : TypeId) (x : Operand) (ho : oi.op = .load ty x) (hrun : (Instr.loadAt ty (a.eval x)).run P w = .ok v w)
    (h : K (a.put N v) w) : if Region.wanted oi (yielded ops a.tmps) = true then Oper.wp P oi a w K Q else K (a.put N undef) w := by
  refine value_ hw hN ?_ h
  unfold execOp
  simp [ho, hrun]
/-- A whole array is read, from wherever it lies. -/
theorem run_loadAt_at {P : Program} {w : World} (ty : TypeId) {d : TypeDesc} (hu : P.underlying ty = some d) (hd : (match d with | .struct _ | .array _ _ => true | _ => false) = true) (ad : Addr) (c : List Value) (hi : (P.info? ty).map (·.size) = some c.length)
    (hc : ∀ j u, c[j]? = some u → w.cell? (ad.add j) = some u) : (Instr.loadAt ty (.pointer (some ad))).run P w = .ok (.agg c.toArray) w := by
  have hl : (loadCells ad c.length).run P w = .ok c.toArray w := run_loadCells_list (P := P) w ad c hc
  obtain ⟨i, hi1, hi2⟩ := Option.map_eq_some_iff.1 hi
  have ha : (isAgg ty).run P w = .ok true w := by
    unfold isAgg
    cases d <;> simp_all [run_underlying hu]
  have hs : (sizeOf ty).run P w = .ok c.length w := by simp [sizeOf, typeInfo, hi1, hi2]
  simp [Instr.loadAt, Instr.sureAddr, loadVar, ha, hs, hl]
end
variable {w : World} {B g : Nat} {F : Nat → Prop} {D : DM} {vs vh vc : Value}
/-- 64 bytes somewhere, read as a whole. -/
theorem load_sector {A : Option Addr} {x : List Int} (h : Kd.C (Kd.int .u8) w A x.length x) (hx : x.length = 64) : ∃ ad, A = some ad ∧ (Instr.loadAt 64 (.pointer (some ad))).run Try.prog w = .ok (.agg (nums .u8 x).toArray) w := by
  obtain ⟨h1, h2, h3⟩ := h
  obtain ⟨ad, ha, hc⟩ := h3 (by omega)
  refine ⟨ad, ha, run_loadAt_at 64 Try.underlying64 rfl ad _ (by rw [nums_length, hx]; exact size64) (fun j u hu => ?_)⟩
  simp only [nums, List.getElem?_map, Option.map_eq_some_iff] at hu
  obtain ⟨n, hn, rfl⟩ := hu
  obtain ⟨c, hsz, hK, hx1⟩ := hc j n hn
  have := hx1 0 (.int .u8 n) (by rw [hK]; rfl)
  simpa [Kd.int, Kd.scalar] using this
theorem arr64 (a : Option Addr) (c : Nat) (w : World) : (Instr.arrayAt 64 (.slice a 64 c)).run Try.prog w = .ok (.pointer a) w := by
  simp [Instr.arrayAt, run_underlying Try.underlying64]
attribute [local simp] arr64
theorem fold_all (off : Nat) (l : List Value) (cs : Array Value) (hs : cs.size = off + l.length) :
    (l.toArray.zipIdx.foldl (fun cs (x : Value × Nat) => cs.setIfInBounds (off + x.2) x.1) cs) = (cs.toList.take off ++ l).toArray := by
  have hz : (l.toArray.zipIdx.foldl (fun cs (x : Value × Nat) => cs.setIfInBounds (off + x.2) x.1) cs) = ((l.zipIdx 0).foldl (fun cs (x : Value × Nat) => cs.setIfInBounds (off + x.2) x.1) cs) := by
    rw [← Array.foldl_toList]; simp
  rw [hz]
  obtain ⟨h1, h2⟩ := Great.foldl_set off l 0 cs
  apply Array.ext_getElem?
  intro k
  rw [h2 k]
  by_cases hk : k < off
  · rw [if_neg (by omega)]
    simp [List.getElem?_append, hk, List.getElem?_take]
    omega
  · by_cases hk2 : k < off + l.length
    · rw [if_pos ⟨by omega, by omega, by omega⟩]
      simp [List.getElem?_append]
      rw [if_neg (by omega)]
      congr 1
      omega
    · rw [if_neg (by omega)]
      simp [List.getElem?_append]
      rw [if_neg (by omega), List.getElem?_eq_none (by omega), Array.getElem?_eq_none (by omega)]
theorem built67 (parts : List (Nat × Value)) : Try.prog.built 67 parts = Instr.fill ((#[(0, 1), (1, 64)] : Array (Nat × Nat))[·]?) (.int .i64 0 :: List.replicate 64 (.int .u8 0)).toArray parts := by kernel_rfl
theorem build67 (k : Int) (x : List Int) (hx : x.length = 64) (w : World) : (Instr.build 67 #[(0, .int .i64 k), (1, .agg (nums .u8 x).toArray)]).run Try.prog w = .ok (.agg (.int .i64 k :: nums .u8 x).toArray) w := by
  refine run_build w 67 _ _ ?_
  rw [built67]
  have hl : (nums .u8 x).length = 64 := by rw [nums_length, hx]
  obtain ⟨Z, hZ, hZl⟩ : ∃ Z : List Value, Z = List.replicate 64 (.int .u8 0) ∧ Z.length = 64 := ⟨_, rfl, rfl⟩
  rw [← hZ]
  clear hZ
  obtain ⟨l, hl'⟩ : ∃ l, l = nums .u8 x := ⟨_, rfl⟩
  rw [← hl'] at hl ⊢
  clear hl'
  have hf := fold_all 1 l (.int .i64 k :: Z).toArray (by simp [hl, hZl])
  simp only [Instr.fill]
  simp [Value.cells, hl, hZl]
  simpa using hf
theorem buildSlice58 (cs : List Value) (hl : cs.length = 65) (w : World) : (Instr.buildSlice 58 1 #[(0, .agg cs.toArray)]).run Try.prog w = .ok (.slice (some ⟨w.heap.size, 0, none⟩) 1 1) (w.alloc (.cells cs.toArray 67)) := by
  obtain ⟨ie, hie, hz⟩ := Option.map_eq_some_iff.1 info67'
  injection hz with hz1 hz2
  injection hz2 with hz2 hz3
  refine run_buildSlice w 58 67 1 _ _ ie _ Try.underlying58 hie hz1 (by rw [hz2]; decide) (by rw [hz2]; decide) ?_
  rw [hz2]
  have := Great.fill_whole (s := 65) (by decide) [.agg cs.toArray] ((Array.range (1 * 65)).map (fun i => (Value.agg (.int .i64 0 :: List.replicate 64 (.int .u8 0)).toArray).cells[i % (Value.agg (.int .i64 0 :: List.replicate 64 (.int .u8 0)).toArray).cells.size]!)) (by simp [Value.cells, hl]) (by simp)
  simpa [Value.cells] using this
theorem exec_build {P : Program} {ρ : Operand → Value} {o : Oper} {t : TypeId} {parts : Array (Nat × Operand)} {args : Array (Nat × Value)} {v : Value} {w : World} (ho : o.op = .build t parts) (he : parts.map (fun x => (x.1, ρ x.2)) = args) (hrun : (Instr.build t args).run P w = .ok v w) : (execOp ρ o).run P w = .ok (.value v) w := by
  subst he
  unfold execOp
  simp [ho, hrun]
theorem exec_buildSlice {P : Program} {ρ : Operand → Value} {o : Oper} {t : TypeId} {n : Nat} {parts : Array (Nat × Operand)} {args : Array (Nat × Value)} {v : Value} {w w1 : World} (ho : o.op = .buildSlice t n parts) (he : parts.map (fun x => (x.1, ρ x.2)) = args) (hrun : (Instr.buildSlice t n args).run P w = .ok v w1) : (execOp ρ o).run P w = .ok (.value v) w1 := by
  subst he
  unfold execOp
  simp [ho, hrun]
theorem Grow.out {w1 : World} {k : Nat} (h : Grow F w w1 k) : F k ∨ w.heap.size ≤ k := h.imp id (·.1)
theorem DiskAt.grow_to {w1 w2 : World} (h : DiskAt w2 B g (Grow F w w1) D) (hB : B ≤ w.heap.size) (hs : w1.heap.size ≤ w2.heap.size) (hl : ∀ k, F k → B ≤ k ∧ k < w.heap.size) : DiskAt w2 B g (Grow F w w2) D := by
  obtain ⟨a, b, c, h⟩ := h
  refine ⟨a, b, c, h.mono (fun k hk => hk.imp id (fun hk => ⟨hk.1, by omega⟩)) (fun k hk => ?_)⟩
  rcases hk with hk | hk
  · exact h.lt k (.inl hk)
  · exact ⟨by omega, hk.2⟩
def holdM (D : DM) (k : Int) (x : List Int) : DM := { D with held := D.held ++ [(k, x)] }
def writeM (D : DM) (k : Int) (x : List Int) : DM × Int :=
  if atM D k ≠ 0 then (D, atM D k) else if x.length ≠ 64 then (D, 1) else
  if (goesM (holdM D k x)).2 = true then (loseM (goesM (holdM D k x)).1.choice (goesM (holdM D k x)).1, 60) else ((goesM (holdM D k x)).1, 0)
theorem holdM_ok {k : Int} {x : List Int} (h : DOk D) (hk : atM D k = 0) (hn : D.held.length < 10000000) : DOk (holdM D k x) := by
  refine ⟨fun y hy => ?_, h.n1, by simp [holdM]; omega, h.n3, h.l1⟩
  simp only [holdM, List.mem_append, List.mem_singleton] at hy
  rcases hy with hy | rfl
  · exact h.at_ y hy
  · unfold atM at hk
    split at hk
    · omega
    · split at hk
      · omega
      · constructor <;> simp only [holdM] <;> omega
set_option maxHeartbeats 1000000 in
theorem Write_calls (h : DAt w B g F D vs vh vc) (hok : DOk D) (hn : D.held.length < 10000000) (k : Int) (A : Option Addr) (c : Nat) (x : List Int) (hC : Kd.C (Kd.int .u8) w A x.length x) :
    Calls Try.prog 19 #[.pointer (some ⟨g, 0, none⟩), .int .i64 k, .slice A x.length c] w fun e w' => e = .returned (.int .i64 (writeM D k x).2) ∧ DiskAt w' B g (Grow F w w') (writeM D k x).1 ∧ Upd w w' F := by
  have H := Aside0.mk h
  have HC := Aside0.mk hC
  have HOK := Aside0.mk hok
  have HN := Aside0.mk hn
  have HB := Aside0.mk h.hB
  obtain ⟨Ah, ch, rfl, hhl, _⟩ := Kd.R_reads h.held
  have h1 := h.c1
  clear h hC hok hn hhl
  by_cases ha : atM D k = 0
  · have HA := Aside0.mk ha
    clear ha
    by_cases h64 : x.length = 64
    · obtain ⟨ad, hA, hlb⟩ := load_sector (Kd.C_below HC.out (below_drew (Below.refl _ _))) h64
      subst hA
      have HLB := Aside0.mk hlb
      have H64 := Aside0.mk h64
      clear hlb
      have HBS := Aside0.mk (show (Instr.buildSlice 58 1 #[(0, .agg (.int .i64 k :: nums .u8 x).toArray)]).run Try.prog w.drew = .ok (.slice (some ⟨w.heap.size, 0, none⟩) 1 1) (w.drew.alloc (.cells (.int .i64 k :: nums .u8 x).toArray 67)) from buildSlice58 (.int .i64 k :: nums .u8 x) (by rw [List.length_cons, nums_length, h64]) w.drew)
      have HRH := Aside0.mk (Kd.R_mono (Kd.R_drew H.out.held) (fun _ h => .inl h) (ok' := fun k => F k ∨ w.heap.size ≤ k))
      have H1A := Aside0.mk (H.out.below (below_alloc (below_drew (Below.refl w.heap.size w)) (.cells (.int .i64 k :: nums .u8 x).toArray 67)))
      go_enter Try.func19, Try.ntmps19
      go_wp2_with (first | (go_at_call 36; refine (at_calls H.out k).mono ?_; rintro e w' ⟨rfl, rfl⟩; rw [HA.out]))
      refine start_ (n := 15) (S := fun w' => w'.cell? ⟨g, 1, none⟩ = some (.slice Ah D.held.length ch)) (ds := [14]) #[false, false, false, false, false, false, false, false, false, false, false, false, false, false, false] (by kernel_rfl) rfl rfl (h1) (fun hHeld => ?_)
      refine pure_ (i := 0) (N := some 17) (v := ?_) (a' := ?_) #[true, false, false, false, false, false, false, false, false, false, false, false, false, false, false] rfl rfl (by kernel_rfl) (fun _ _ _ h => h) (Or.inl ⟨by rfl, ?_⟩) ?_ ?_
      rotate_left
      · intro w'
        go_simp
        with_reducible rfl
      rotate_left
      · simp only [Act.put, List.setIfInBounds_toArray, List.set_cons_zero, List.set_cons_succ, i64_w, i32_w]
        rfl
      refine pure_ (i := 1) (N := some 18) (v := ?_) (a' := ?_) #[true, true, false, false, false, false, false, false, false, false, false, false, false, false, false] rfl rfl (by kernel_rfl) (fun _ _ _ h => h) (Or.inl ⟨by rfl, ?_⟩) ?_ ?_
      rotate_left
      · intro w'
        go_simp
        with_reducible rfl
      rotate_left
      · simp only [Act.put, List.setIfInBounds_toArray, List.set_cons_zero, List.set_cons_succ, i64_w, i32_w]
        rfl
      refine pure_ (i := 2) (N := some 19) (v := ?_) (a' := ?_) #[true, true, true, false, false, false, false, false, false, false, false, false, false, false, false] rfl rfl (by kernel_rfl) (fun _ _ _ h => h) (Or.inl ⟨by rfl, ?_⟩) ?_ ?_
      rotate_left
      · intro w'
        go_simp
        with_reducible rfl
      rotate_left
      · simp only [Act.put, List.setIfInBounds_toArray, List.set_cons_zero, List.set_cons_succ, i64_w, i32_w]
        rfl
      refine pure_ (i := 3) (N := some 20) (v := ?_) (a' := ?_) #[true, true, true, true, false, false, false, false, false, false, false, false, false, false, false] rfl rfl (by kernel_rfl) (fun _ _ _ h => h) (Or.inl ⟨by rfl, ?_⟩) ?_ ?_
      rotate_left
      · intro w'
        go_simp
        with_reducible rfl
      rotate_left
      · simp only [Act.put, List.setIfInBounds_toArray, List.set_cons_zero, List.set_cons_succ, i64_w, i32_w]
        rfl
      refine pure_ (i := 5) (N := some 22) (v := ?_) (a' := ?_) #[true, true, true, true, false, true, false, false, false, false, false, false, false, false, false] rfl rfl (by kernel_rfl) (fun _ _ _ h => h) (Or.inl ⟨by rfl, ?_⟩) ?_ ?_
      rotate_left
      · intro w'
        go_simp
        with_reducible rfl
      rotate_left
      · simp only [Act.put, List.setIfInBounds_toArray, List.set_cons_zero, List.set_cons_succ, i64_w, i32_w]
        rfl
      refine pure_ (i := 6) (N := some 23) (v := ?_) (a' := ?_) #[true, true, true, true, false, true, true, false, false, false, false, false, false, false, false] rfl rfl (by kernel_rfl) (fun _ _ _ h => h) (Or.inl ⟨by rfl, ?_⟩) ?_ ?_
      rotate_left
      · intro w'
        go_simp
        with_reducible rfl
      rotate_left
      · simp only [Act.put, List.setIfInBounds_toArray, List.set_cons_zero, List.set_cons_succ, i64_w, i32_w]
        rfl
      refine pure_ (i := 7) (N := some 24) (v := ?_) (a' := ?_) #[true, true, true, true, false, true, true, true, false, false, false, false, false, false, false] rfl rfl (by kernel_rfl) (fun _ _ _ h => h) (Or.inl ⟨by rfl, ?_⟩) ?_ ?_
      rotate_left
      · intro w'
        go_simp
        with_reducible rfl
      rotate_left
      · simp only [Act.put, List.setIfInBounds_toArray, List.set_cons_zero, List.set_cons_succ, i64_w, i32_w]
        rfl
      refine take_ (i := 4) (N := some 21) (v := ?_) (a' := ?_) #[true, true, true, true, true, true, true, true, false, false, false, false, false, false, false] rfl rfl (by kernel_rfl) (fun _ _ _ h => h) (Or.inl ⟨by rfl, ?_⟩) hHeld ?_ ?_
      rotate_left
      · intro w' s0
        go_simp
        with_reducible rfl
      rotate_left
      · simp only [Act.put, List.setIfInBounds_toArray, List.set_cons_zero, List.set_cons_succ, i64_w, i32_w]
        rfl
      refine one_ (i := 8) (N := some 25) #[true, true, true, true, true, true, true, true, true, false, false, false, false, false, false] rfl rfl (by kernel_rfl) (by decide) (fun K hK => ?_)
      refine load_ (by rfl) rfl 64 (.tmp 24) rfl HLB.out ?_
      refine hK.out _ _ (h1) (fun hHeld => ?_)
      clear hK K
      refine norm_ (a' := ?_) ?_ ?_
      rotate_left
      · show Act.put _ (some 25) _ = _
        simp only [Act.put, List.setIfInBounds_toArray, List.set_cons_zero, List.set_cons_succ, i64_w, i32_w]
        rfl
      refine pure_ (i := 9) (N := some 26) (v := .agg (.int .i64 k :: nums .u8 x).toArray) (a' := ?_) #[true, true, true, true, true, true, true, true, true, true, false, false, false, false, false] rfl rfl (by kernel_rfl) (fun _ _ _ h => h) (Or.inl ⟨by rfl, ?_⟩) ?_ ?_
      · intro w'
        exact exec_build (args := #[(0, .int .i64 k), (1, .agg (nums .u8 x).toArray)]) rfl (by kernel_rfl) (build67 k x H64.out w')
      rotate_left
      · simp only [Act.put, List.setIfInBounds_toArray, List.set_cons_zero, List.set_cons_succ, i64_w, i32_w]
        rfl
      refine one_ (i := 10) (N := some 27) #[true, true, true, true, true, true, true, true, true, true, true, false, false, false, false] rfl rfl (by kernel_rfl) (by decide) (fun K hK => ?_)
      refine value_ (w1 := w.drew.alloc (.cells (.int .i64 k :: nums .u8 x).toArray 67)) (v := .slice (some ⟨w.heap.size, 0, none⟩) 1 1) (by rfl) rfl ?hbs ?_
      case hbs =>
        refine exec_buildSlice (t := 58) (n := 1) (parts := #[(0, .tmp 26)]) (args := #[(0, .agg (.int .i64 k :: nums .u8 x).toArray)]) ?ho ?he ?hr
        case ho => rfl
        case he => kernel_rfl
        case hr => exact HBS.out
      refine hK.out _ _ ((H1A.out.c1)) (fun hHeld => ?_)
      clear hK K
      refine norm_ (a' := ?_) ?_ ?_
      rotate_left
      · show Act.put _ (some 27) _ = _
        simp only [Act.put, List.setIfInBounds_toArray, List.set_cons_zero, List.set_cons_succ, i64_w, i32_w]
        rfl
      refine one_ (i := 11) (N := some 28) #[true, true, true, true, true, true, true, true, true, true, true, true, false, false, false] rfl rfl (by kernel_rfl) (by decide) (fun K hK => ?_)
      refine Kd.R_append_step kHeld (w0 := w) (W := w.drew) B (by rfl) (.tmp 21) (.tmp 27) 58 67 (.agg (.int .i64 0 :: List.replicate 64 (.int .u8 0)).toArray) 72 rfl Try.underlying58 info67' rfl (by decide) (by decide) (.slice Ah D.held.length ch) D.held (k, x) (.int .i64 k :: nums .u8 x) (fun k => F k ∨ w.heap.size ≤ k) (fun _ => False) rfl rfl ⟨rfl, H64.out⟩ (fun _ h => h.elim) (fun _ h => .inr h) HRH.out (below_drew (Below.mono (Below.refl _ _) HB.out)) HB.out (by have := HN.out; omega) ?_
      intro v1 w1 hr1 hb1 hg1d _
      have hg1 : w.grownBy w1 (Value.slice Ah D.held.length ch).ownBlock := ⟨hg1d.os, hg1d.tape, hg1d.output, hg1d.size, hg1d.block⟩
      obtain ⟨A1, c1, rfl⟩ := Kd.R_slice hr1
      have HR1 := Aside0.mk (R_grow hr1)
      have HG1 := Aside0.mk hg1
      have hb1k := blk_other H.out.blk H.out.held (by decide) hg1
      have h1b : w1.cell? ⟨g, 1, none⟩ = some (.slice Ah D.held.length ch) := by simp [World.cell?, hb1k]
      have hf1 : ∀ j, w1.frozen? ⟨g, j, none⟩ = false := fun j => by simp [World.frozen?, hb1k]
      have HBK := Aside0.mk hb1k
      clear hr1 hb1 hg1d hg1 hb1k
      refine hK.out _ _ ((h1b)) (fun hHeld => ?_)
      clear hK K
      refine norm_ (a' := ?_) ?_ ?_
      rotate_left
      · show Act.put _ (some 28) _ = _
        simp only [Act.put, List.setIfInBounds_toArray, List.set_cons_zero, List.set_cons_succ, i64_w, i32_w]
        rfl
      refine pure_ (i := 12) (N := some 29) (v := ?_) (a' := ?_) #[true, true, true, true, true, true, true, true, true, true, true, true, true, false, false] rfl rfl (by kernel_rfl) (fun _ _ _ h => h) (Or.inl ⟨by rfl, ?_⟩) ?_ ?_
      rotate_left
      · intro w'
        go_simp
        with_reducible rfl
      rotate_left
      · simp only [Act.put, List.setIfInBounds_toArray, List.set_cons_zero, List.set_cons_succ, i64_w, i32_w]
        rfl
      refine pure_ (i := 13) (N := some 30) (v := ?_) (a' := ?_) #[true, true, true, true, true, true, true, true, true, true, true, true, true, true, false] rfl rfl (by kernel_rfl) (fun _ _ _ h => h) (Or.inl ⟨by rfl, ?_⟩) ?_ ?_
      rotate_left
      · intro w'
        go_simp
        with_reducible rfl
      rotate_left
      · simp only [Act.put, List.setIfInBounds_toArray, List.set_cons_zero, List.set_cons_succ, i64_w, i32_w]
        rfl
      refine last_ (i := 14) (N := none) #[true, true, true, true, true, true, true, true, true, true, true, true, true, true, true] rfl rfl (by kernel_rfl) (by decide) (fun K hK => ?_)
      refine skip_ (w1 := ?_) (by rfl) rfl ?_ ?_
      rotate_left
      · go_simp
        rfl
      refine hK.out _ _ ?_
      clear hK K
      refine done_ (by kernel_rfl) ?_

      have H2 := Aside0.mk (DAt.mk_put (F := Grow F w w1) (D := D) HBK.out 1 (.slice A1 (D.held ++ [(k, x)]).length c1) (holdM D k x) vs (.slice A1 (D.held ++ [(k, x)]).length c1) vc rfl (Kd.R_mono (R_other H.out.sec H.out.held rfl (by decide) HG1.out) (fun _ h => .inl h)) HR1.out (Kd.R_mono (R_other H.out.choice H.out.held rfl (by decide) HG1.out) (fun _ h => .inl h)) (.inl H.out.own) (fun k hk => by
        rcases hk with hk | hk
        · exact ⟨(H.out.lt k hk).1, Nat.lt_of_lt_of_le (H.out.lt k hk).2 HG1.out.size⟩
        · exact ⟨by have := HB.out; omega, hk.2⟩))
      have HU2 := Aside0.mk ((Upd.of_row H.out.held HG1.out).setCell (p := ⟨g, 1, none⟩) (.inl H.out.own) (.slice A1 (D.held ++ [(k, x)]).length c1))
      rw [show (D.held ++ [(k, x)]).length = D.held.length + 1 by simp] at H2 HU2
      have HOK2 := Aside0.mk (holdM_ok (x := x) HOK.out HA.out HN.out)
      clear hf1 h1b HBK HR1
      cases hg : (goesM (holdM D k x)).2 with
      | true =>
        have hq := Lib.hid (show writeM D k x = (loseM (goesM (holdM D k x)).1.choice (goesM (holdM D k x)).1, 60) by simp [writeM, HA.out, H64.out, hg])
        have hg' := Lib.hid hg
        clear hg
        go_wp2_with (first | (go_at_call 32; refine (goes_calls H2.out HOK2.out.l1).mono ?_; rintro e w3 ⟨rfl, h3, hu3⟩; rw [hg'.out]; obtain ⟨Ac, cc, rfl, hlc, _⟩ := Kd.R_reads h3.choice; have H3 := Aside0.mk h3; have HU3 := Aside0.mk hu3; have HLC := Aside0.mk hlc; have hc6 := h3.c6; clear h3 hu3 hlc) | (go_at_call 15; refine (Lose_calls H3.out (goesM_ok HOK2.out) Ac cc _ HLC.out (own_choice H3.out)).mono ?_; rintro e w4 ⟨rfl, h4, hu4⟩; have H4 := Aside0.mk h4; have HU4 := Aside0.mk hu4; clear h4 hu4))
        go_ret
        refine ⟨by rw [hq.out] <;> rfl, ?_, (HU2.out.trans HU3.out (fun _ => Grow.out)).trans HU4.out (fun _ => Grow.out)⟩
        rw [hq.out]
        exact H4.out.grow_to HB.out (Nat.le_trans (Nat.le_of_eq (by simp [World.setCell])) (Nat.le_trans HU3.out.size HU4.out.size)) H.out.lt
      | false =>
        have hq := Lib.hid (show writeM D k x = ((goesM (holdM D k x)).1, 0) by simp [writeM, HA.out, H64.out, hg])
        have hg' := Lib.hid hg
        clear hg
        go_wp2_with (first | (go_at_call 32; refine (goes_calls H2.out HOK2.out.l1).mono ?_; rintro e w3 ⟨rfl, h3, hu3⟩; rw [hg'.out]; have H3 := Aside0.mk h3; have HU3 := Aside0.mk hu3; clear h3 hu3))
        go_ret
        refine ⟨by rw [hq.out] <;> rfl, ?_, HU2.out.trans HU3.out (fun _ => Grow.out)⟩
        rw [hq.out]
        exact DiskAt.grow_to ⟨_, _, _, H3.out⟩ HB.out (Nat.le_trans (Nat.le_of_eq (by simp [World.setCell])) HU3.out.size) H.out.lt
    · have hq := Lib.hid (show writeM D k x = (D, 1) by simp [writeM, HA.out, h64])
      have t64 : decide ((x.length : Int) = 64) = false := by simp; omega
      go_enter Try.func19, Try.ntmps19
      go_wp2_with (first | (go_at_call 36; refine (at_calls H.out k).mono ?_; rintro e w' ⟨rfl, rfl⟩; rw [HA.out]))
      go_ret
      exact ⟨by rw [hq.out] <;> rfl, by rw [hq.out]; exact ⟨_, _, _, H.out.grow HB.out⟩, Upd.refl _ _⟩
  · have hq := Lib.hid (show writeM D k x = (D, atM D k) by simp [writeM, ha])
    obtain ⟨q, hq0⟩ : ∃ q, atM D k = q := ⟨_, rfl⟩
    have HA := Lib.hid hq0
    rw [hq0] at ha
    clear hq0
    go_enter Try.func19, Try.ntmps19
    go_wp2_with (first | (go_at_call 36; refine (at_calls H.out k).mono ?_; rintro e w' ⟨rfl, rfl⟩; rw [HA.out]))
    go_ret
    exact ⟨by rw [hq.out, HA.out] <;> rfl, by rw [hq.out]; exact ⟨_, _, _, H.out.grow HB.out⟩, Upd.refl _ _⟩
theorem writeM_ok {k : Int} {x : List Int} (h : DOk D) (hn : D.held.length < 10000000) : DOk (writeM D k x).1 := by
  unfold writeM
  split
  · exact h
  · rename_i ha
    split
    · exact h
    · have := goesM_ok (holdM_ok (x := x) h (by simpa using ha) hn)
      split
      · exact loseM_ok _ this
      · exact this
end Go.Proofs.Ytfimeiicidcoiaa.Dk
