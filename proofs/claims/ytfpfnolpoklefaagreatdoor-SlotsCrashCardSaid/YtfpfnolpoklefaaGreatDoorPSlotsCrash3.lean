/- SlotsCrash: the texts ShH ShI MkA MkB MkC MkD MkE MkF MkG LoH LoI LoJ LoK LoR LoL LoM LoN LoO LoP LoQ LoT LoS LoU LawSlotsCrash. -/
import Derived.Test.YtfpfnolpoklefaaGreatDoorPSlotsCrash2
import Derived.Deep.Slices
import Derived.Deep.Grids
import Derived.Test.YtfpfnolpoklefaaGreatDoorRows
import Derived.Test.YtfpfnolpoklefaaGreatDoorCards
import Derived.Test.YtfpfnolpoklefaaGreatDoorTie
import Derived.Test.YtfpfnolpoklefaaGreatDoorPSlotsCrash1
import Derived.WalkKit
import Derived.ProofKit
import Derived.OpenShut
import Derived.ShutString
import Derived.ChangeOld
import Derived.Below
import Derived.SizedLaws
import Derived.SevenTiedAt
import Derived.LaidMore
import Derived.Stop.Joined
/- Contracts of package sha2: Copy, Reset, New. -/
namespace Go.Proofs.YtfpfnolpoklefaaGreatDoor.Sh
open Go.Proofs.YtfpfnolpoklefaaGreatDoor.Dk
open Go.RowKit Go.Proofs.YtfpfnolpoklefaaGreatDoorW.PrintWords Go.Proofs.YtfpfnolpoklefaaGreatDoorW.PrintLast Go.Proofs.YtfpfnolpoklefaaGreatDoorW.PrintMore
set_option linter.unusedVariables false
set_option linter.unusedSimpArgs false
set_option maxRecDepth 30000

variable {w w0 w1 w2 wr : World} {g : Nat} {n : Int} {r : Option (List Int)} {hv xs ys : List Int}
theorem upd_cell (w : World) (g j : Nat) (u : Value) : Upd w (w.setCell ⟨g, j, none⟩ u) (· = g) := (Upd.refl w (fun k => k = g)).setCell (p := ⟨g, j, none⟩) (.inl rfl) u
theorem HAt.cr (h : HAt w0 w g n r hv) : ∃ A m c, w.cell? ⟨g, 16, none⟩ = some (.slice A m c) ∧ ∀ x, r = some x → Row8 w w0.heap.size (.slice A m c) x := by
  obtain ⟨vr, h6, h1, ⟨⟨A, m, c, rfl⟩, h2⟩, _⟩ := h.blk
  exact ⟨A, m, c, by rw [cell_of_row _ _ _ _ _ _ h1]; rfl, h2⟩
theorem HAt.setN (h : HAt w0 w g n r hv) (k : Int) : HAt w0 (w.setCell ⟨g, 15, none⟩ (.int .i64 k)) g k r hv := by
  obtain ⟨vr, h6, h1, h2, h3⟩ := h.blk
  have hup : Upd w (w.setCell ⟨g, 15, none⟩ (.int .i64 k)) (· = g) := upd_cell w g _ _
  exact ⟨⟨vr, h6, by rw [heap_setCell_same w g 15 _ 161 _ h1]; simp [hC, narrowA], ⟨h2.1, fun x hx => (h2.2 x hx).type h1 (by decide) hup⟩, h3⟩, h.hl, h.lo, below_put h.b h.lo 15 _⟩
theorem HAt.setR (h : HAt w0 w g n r hv) {A : Option Addr} {m c : Nat} {x : List Int} (hr : Row8 w w0.heap.size (.slice A m c) x) : HAt w0 (w.setCell ⟨g, 16, none⟩ (.slice A m c)) g n (some x) hv := by
  obtain ⟨vr, h6, h1, h2, h3⟩ := h.blk
  have hup : Upd w (w.setCell ⟨g, 16, none⟩ (.slice A m c)) (· = g) := upd_cell w g _ _
  exact ⟨⟨.slice A m c, h6, by rw [heap_setCell_same w g 16 _ 161 _ h1]; simp [hC, narrowA], ⟨⟨_, _, _, rfl⟩, fun y hy => by injection hy with hy; subst hy; exact hr.type h1 (by decide) hup⟩, h3⟩, h.hl, h.lo, below_put h.b h.lo 16 _⟩
theorem hC_set6 {vr : Value} {h6 us : List Int} (hl : hv.length = 8) (h : h6.length = 8) (hu : us.length = 8) : (hC n vr hv h6).take 25 ++ nums .u64 us ++ (hC n vr hv h6).drop (25 + (nums .u64 us).length) = hC n vr hv us := by
  have e : (nums IntKind.u64 us).length = 8 := by rw [nums_length, hu]
  have e2 : (nums IntKind.u32 hv).length = 8 := by rw [nums_length, hl]
  have e3 : (nums IntKind.u64 h6).length = 8 := by rw [nums_length, h]
  rw [e]
  simp [hC, narrowA, List.drop_append, List.drop_of_length_le, List.take_append, List.take_of_length_le, e2, e3]
theorem HAt.set6 (h : HAt w0 w g n r hv) {us : List Int} (hu : us.length = 8) : HAt w0 (w.setCells g 25 (nums .u64 us)) g n r hv := by
  obtain ⟨vr, h6, h1, h2, h3⟩ := h.blk
  obtain ⟨cur', c1, c2, c3⟩ := setCells_row (nums .u64 us) 25 w _ h1 (by simp [hC_len h.hl h3, nums_length, hu])
  have hup := setCells_upd g 25 (nums .u64 us) w
  refine ⟨⟨vr, us, ?_, ⟨h2.1, fun x hx => (h2.2 x hx).type h1 (by decide) hup⟩, hu⟩, h.hl, h.lo, ?_⟩
  · rw [c1]
    congr 2
    apply Array.toList_inj.1
    rw [c3]
    exact hC_set6 h.hl h3 hu
  · obtain ⟨s1, s2, s3, s4⟩ := setCells_same g (nums .u64 us) 25 w
    exact ⟨s1.trans h.b.os, s2.trans h.b.tape, s3.trans h.b.output, by rw [s4]; exact h.b.size, fun k hk => (setCells_far _ _ k (by have := h.lo; omega)).trans (h.b.block k hk)⟩
theorem HAt.there6 (h : HAt w0 w g n r hv) : w.there g 25 8 := fun j hj => by
  refine ⟨?_, h.free _⟩
  obtain ⟨vr, h6, h1, h2, h3⟩ := h.blk
  rw [cell_of_row _ _ _ _ _ _ h1, List.getElem?_toArray, List.getElem?_eq_getElem (by rw [hC_len h.hl h3]; omega)]
  rfl
theorem u64_one (x : List Int) : ((nums .u64 x).toArray : Array Value).all (·.oneCell') = true := by
  simp [nums, List.all_eq_true]
  intro a _
  rfl
def z127 : List Value := (List.replicate 15 (.int .i64 0)) ++ (.int .i64 0 :: .slice none 0 0 :: (nums .u32 (List.replicate 8 0) ++ nums .u64 (List.replicate 8 0)))
theorem run_alloc127 (w : World) : (Instr.alloc 161 true (.tuple #[])).run Tryz.prog w = .ok (.pointer (some ⟨w.heap.size, 0, none⟩)) (w.alloc (.cells z127.toArray 161)) := by kernel_rfl
theorem hC_one {A : Option Addr} {m c : Nat} {h6 : List Int} : (hC n (.slice A m c) hv h6).toArray.all (·.oneCell') = true := by
  rw [Array.all_eq_true_iff_forall_mem]
  intro v hv'
  simp only [hC, narrowA, List.mem_toArray, List.mem_append, List.mem_cons, nums, List.mem_map] at hv'
  rcases hv' with h | rfl | rfl | ⟨_, _, rfl⟩ | ⟨_, _, rfl⟩
  · simp at h
    rcases h with h | h | h | h | h | h | h | h | h | h | h | h | h | h | h <;> subst h <;> rfl
  all_goals rfl
theorem info127 {vr : Value} {h6 : List Int} (hl : hv.length = 8) (h : h6.length = 8) : (Tryz.prog.info? 161).map (·.size) = some (hC n vr hv h6).length := by rw [hC_len hl h]; kernel_rfl
theorem z127_len : z127.length = 33 := by simp [z127, nums_length]
attribute [irreducible] z127
/-- A copy. -/
def CopyPost (w0 w w' : World) (n : Int) (x hv : List Int) (e : Ending) : Prop := ∃ g2, e = .returned (.pointer (some ⟨g2, 0, none⟩)) ∧ HAt w0 w' g2 n (some x) hv ∧ Below w.heap.size w w'
set_option maxHeartbeats 16000000 in
theorem copy_calls (h : HAt w0 w g n (some xs) hv) (hx : xs.length ≤ 1000) : Calls Tryz.prog 84 #[.pointer (some ⟨g, 0, none⟩)] w fun e w' => CopyPost w0 w w' n xs hv e := by
  obtain ⟨vr, h6, h1, ⟨⟨A, m, c, rfl⟩, h2⟩, h3⟩ := h.blk
  have HR := Aside0.mk (h2 xs rfl)
  obtain ⟨rfl, hmc, hC8⟩ := Row8.C (h2 xs rfl)
  have HL := Aside0.mk (run_loadAt_cells (P := Tryz.prog) (w := w) 161 Tryz.underlying161 rfl g 0 (hC n (.slice A xs.length c) hv h6) (info127 h.hl h3) (fun j u hu => by rw [Nat.zero_add, cell_of_row _ _ j _ _ _ h1]; simpa using hu))
  have HST := Aside0.mk (run_storeAt_new (P := Tryz.prog) w 161 z127.toArray (hC n (.slice A xs.length c) hv h6).toArray (by rw [List.size_toArray]; exact info127 h.hl h3) (by simp [z127_len, hC_len h.hl h3]) hC_one)
  have HB2 := Aside0.mk (below_alloc (Below.refl w.heap.size w) (.cells (hC n (.slice A xs.length c) hv h6).toArray 161))
  have HA2 := Aside0.mk (show HAt w0 (w.alloc (.cells (hC n (.slice A xs.length c) hv h6).toArray 161)) w.heap.size n none hv from ⟨⟨_, h6, heap_alloc_new w _, ⟨⟨_, _, _, rfl⟩, fun x hx => by cases hx⟩, h3⟩, h.hl, h.b.size, h.b.trans (HB2.out.mono h.b.size)⟩)
  have HC2 := Aside0.mk (Kd.C_below hC8 HB2.out)
  have hc16 : (w.alloc (.cells (hC n (.slice A xs.length c) hv h6).toArray 161)).cell? ⟨g, 16, none⟩ = some (.slice A xs.length c) := by
    rw [cell_of_row _ _ _ _ _ _ (blk_below h1 HB2.out)]
    rfl
  have HLO := Aside0.mk h.b.size
  clear h h1 h2 hC8
  go_enter Tryz.func84, Tryz.ntmps84
  go_wp2_with (first | ((with_reducible refine load_at (ty := 161) (.tmp 7) ?_ ?_ HL.out ?_ ?_); exact rfl; exact rfl; exact rfl) | ((with_reducible refine alloc_at (e := 161) ?_ ?_ (run_alloc127 _) ?_); exact rfl; exact rfl) | ((with_reducible refine store_at (ty := 161) (.tmp 3) (.tmp 8) ?_ ?_ ?_ HST.out ?_ ?_ ?_); exact rfl; exact rfl; exact rfl; exact rfl; exact rfl; generalize w.alloc (.cells (hC n (.slice A xs.length c) hv h6).toArray 161) = w2 at HB2 HA2 HC2 hc16 ⊢) | ((with_reducible refine gate_builtin (b := .append) (xs := #[.const (.slice none 0 0), .tmp 12]) rfl ?_); at_builtin; refine app8 (q := w2.heap.size) info5 Tryz.underlying22 rfl (.const (.slice none 0 0)) (.tmp 12) rfl _ _ xs _ _ _ rfl rfl (Row8.nil _ _) HC2.out ?aQ ?aL ?_; (case aQ => exact Nat.le_refl _); (case aL => simp; omega); intro A1 c1 w3 hr3 hb3 hg3; have HR3 := Aside0.mk hr3; have HB3 := Aside0.mk hb3; have HA3 := Aside0.mk (HA2.out.below hb3); have hf := HA3.out.free 16; obtain ⟨_, _, _, hc, _⟩ := HA3.out.cr; clear hr3 hb3 hg3))
  go_ret
  exact ⟨w.heap.size, rfl, HA3.out.setR (A := A1) (m := xs.length) (c := c1) (x := xs) ((show Row8 w3 w2.heap.size (.slice A1 xs.length c1) xs from HR3.out).lower HA2.out.b.size), below_put (HB2.out.trans (HB3.out.mono HB2.out.size)) (Nat.le_refl _) 16 _⟩

theorem HAt.st17 (h : HAt w0 w g n r hv) {us : List Int} (hu : us.length = 8) : (Instr.storeAt 158 (.pointer (some ⟨g, 17, none⟩)) (.agg (nums .u32 us).toArray)).run Tryz.prog w = .ok () (w.setCells g 17 (nums .u32 us)) :=
  run_storeAt_mid (P := Tryz.prog) w g 17 158 (nums .u32 us).toArray (by rw [List.size_toArray, nums_length, hu]; exact h.there) (info124 _ hu) (u32_one _)
theorem HAt.st25 (h : HAt w0 w g n r hv) {us : List Int} (hu : us.length = 8) : (Instr.storeAt 159 (.pointer (some ⟨g, 25, none⟩)) (.agg (nums .u64 us).toArray)).run Tryz.prog w = .ok () (w.setCells g 25 (nums .u64 us)) :=
  run_storeAt_mid (P := Tryz.prog) w g 25 159 (nums .u64 us).toArray (by rw [List.size_toArray, nums_length, hu]; exact h.there6) (info125 _ hu) (u64_one _)
theorem narrow_callsA (w : World) : Calls Tryz.prog 96 #[] w fun e w' => e = .returned (.agg narrowA) ∧ Below w.heap.size w w' := narrow_calls w
theorem wide_callsA (w : World) : Calls Tryz.prog 97 #[] w fun e w' => e = .returned (.agg wideA) ∧ Below w.heap.size w w' := wide_calls w
theorem begin32L_length : begin32L.length = 8 := begR_length _ 8
theorem begin64L_length : begin64L.length = 8 := begR_length _ 8
def ResetPost (w0 w w' : World) (g : Nat) (e : Ending) : Prop := e = .returned (.tuple #[]) ∧ HAt w0 w' g 0 (some []) begin32L ∧ Upd w w' (· = g)
set_option maxHeartbeats 16000000 in
theorem reset_calls (hg0 : Glob w0) (h : HAt w0 w g n r hv) : Calls Tryz.prog 82 #[.pointer (some ⟨g, 0, none⟩)] w fun e w' => ResetPost w0 w w' g e := by
  have hg := Aside0.mk hg0
  have HA0 := Aside0.mk h
  have hf15 := h.free 15
  have hc15 := h.cn
  have HA1 := Aside0.mk (h.setN 0)
  have HU1 := Aside0.mk (upd_cell w g 15 (.int .i64 0))
  obtain ⟨A, m, c, hc16, _⟩ := h.cr
  have hf16 := h.free 16
  clear h hg0
  have HA2 := Aside0.mk (HA1.out.setR (Row8.nil (w.setCell ⟨g, 15, none⟩ (.int .i64 0)) w0.heap.size))
  have HU2 := Aside0.mk (HU1.out.trans (upd_cell (w.setCell ⟨g, 15, none⟩ (.int .i64 0)) g 16 (.slice none 0 0)) (fun _ h => .inl h))
  go_enter Tryz.func82, Tryz.ntmps82
  go_wp2_with (first | (go_at_call 96; (with_reducible refine (narrow_callsA _).mono ?_); rintro e w3 ⟨rfl, hb⟩; have HA3 := Aside0.mk (HA2.out.below hb); have HU3 := Aside0.mk (HU2.out.trans (Upd.of_below (F := (· = g)) hb) (fun _ h => .inl h)); clear hb) | (go_at_call 98; (with_reducible refine (begin32_calls (hg.out.below HA3.out.b)).mono ?_); rintro e w4 ⟨rfl, hb⟩; have HA4 := Aside0.mk (HA3.out.below hb); have HU4 := Aside0.mk (HU3.out.trans (Upd.of_below (F := (· = g)) hb) (fun _ h => .inl h)); clear hb) | (go_at_call 97; (with_reducible refine (wide_callsA _).mono ?_); rintro e w5 ⟨rfl, hb⟩; have HA5 := Aside0.mk (HA4.out.below hb); have HU5 := Aside0.mk (HU4.out.trans (Upd.of_below (F := (· = g)) hb) (fun _ h => .inl h)); clear hb) | (go_at_call 99; (with_reducible refine (begin64_calls (hg.out.below HA5.out.b)).mono ?_); rintro e w6 ⟨rfl, hb⟩; have HA6 := Aside0.mk (HA5.out.below hb); have HU6 := Aside0.mk (HU5.out.trans (Upd.of_below (F := (· = g)) hb) (fun _ h => .inl h)); clear hb; have HST := Aside0.mk (HA6.out.st17 begin32L_length); have HA7 := Aside0.mk (HA6.out.setH begin32L_length); have HU7 := Aside0.mk (HU6.out.trans (setCells_upd g 17 (nums .u32 begin32L) w6) (fun _ h => .inl h))) | ((with_reducible refine store_at (ty := 158) (.tmp 17) (.tmp 13) ?_ ?_ ?_ HST.out ?_ ?_ ?_); exact rfl; exact rfl; exact rfl; exact rfl; exact rfl; generalize w6.setCells g 17 (nums .u32 begin32L) = w7 at HA7 HU7 ⊢; clear HST; have HST6 := Aside0.mk (HA7.out.st25 begin64L_length)) | ((with_reducible refine store_at (ty := 159) (.tmp 19) (.tmp 15) ?_ ?_ ?_ HST6.out ?_ ?_ ?_); exact rfl; exact rfl; exact rfl; exact rfl; exact rfl; have HA8 := Aside0.mk (HA7.out.set6 begin64L_length); have HU8 := Aside0.mk (HU7.out.trans (setCells_upd g 25 (nums .u64 begin64L) w7) (fun _ h => .inl h)); generalize w7.setCells g 25 (nums .u64 begin64L) = w8 at HA8 HU8 ⊢))
  go_end0
  exact ⟨rfl, HA8.out, HU8.out⟩
theorem build127 (w : World) : (Instr.build 161 #[(0, .agg narrowA)]).run Tryz.prog w = .ok (.agg (hC 0 (.slice none 0 0) [0, 0, 0, 0, 0, 0, 0, 0] [0, 0, 0, 0, 0, 0, 0, 0]).toArray) w := by kernel_rfl
def NewPost (w w' : World) (e : Ending) : Prop := ∃ g, e = .returned (.tuple #[.pointer (some ⟨g, 0, none⟩), .int .i64 0]) ∧ HAt w w' g 0 (some []) begin32L
set_option maxHeartbeats 16000000 in
theorem new_calls (hg0 : Glob w) : Calls Tryz.prog 66 #[.int .i64 256] w fun e w' => NewPost w w' e := by
  have hg := Aside0.mk hg0
  have HST := Aside0.mk (fun w1 : World => run_storeAt_new (P := Tryz.prog) w1 154 zeros15 narrowA info120 (by simp [zeros15_size, narrowA]) narrowA_one)
  clear hg0
  go_enter Tryz.func66, Tryz.ntmps66
  go_wp2_with (first | ((with_reducible refine alloc_at (e := 154) ?_ ?_ (run_alloc120 _) ?_); exact rfl; exact rfl) | (go_at_call 81; (with_reducible refine (of_callsA _).mono ?_); rintro e w1 ⟨rfl, hb1⟩; have HB2 := Aside0.mk (show Below w.heap.size w (w1.alloc (.cells narrowA 154)) from hb1.trans ((below_alloc (Below.refl _ _) _).mono hb1.size)); have HS2 := Aside0.mk (show (w1.alloc (.cells narrowA 154)).heap[w1.heap.size]? = some (.cells narrowA 154 (0, 0)) from heap_alloc_new w1 _); clear hb1) | ((with_reducible refine store_at (ty := 154) (.tmp 4) (.tmp 10) ?_ ?_ ?_ (HST.out _) ?_ ?_ ?_); exact rfl; exact rfl; exact rfl; exact rfl; exact rfl; generalize w1.alloc (.cells narrowA 154) = w2 at HB2 HS2 ⊢; generalize w1.heap.size = s at HS2 ⊢; have HLS := Aside0.mk (show (Instr.loadAt 154 (.pointer (some ⟨s, 0, none⟩))).run Tryz.prog w2 = .ok (.agg narrowA) w2 from run_loadAt_cells (P := Tryz.prog) (w := w2) 154 Tryz.underlying154 rfl s 0 narrowA.toList info120 (fun j u hu => by rw [Nat.zero_add, cell_of_row _ _ j _ _ _ HS2.out]; simpa using hu))) | ((with_reducible refine load_at (ty := 154) (.tmp 4) ?_ ?_ HLS.out ?_ ?_); exact rfl; exact rfl; exact rfl) | ((with_reducible refine build_at (t := 161) (parts := #[(0, .tmp 14)]) (args := #[(0, .agg narrowA)]) ?_ ?_ build127 ?_ ?_); exact rfl; exact rfl; (first | (with_reducible rfl) | kernel_rfl | (simp; done))) | (go_at_call 82; (with_reducible refine (reset_calls hg.out (show HAt w (w2.alloc (.cells (hC 0 (.slice none 0 0) [0, 0, 0, 0, 0, 0, 0, 0] [0, 0, 0, 0, 0, 0, 0, 0]).toArray 161)) w2.heap.size 0 none [0, 0, 0, 0, 0, 0, 0, 0] from ⟨⟨_, _, heap_alloc_new w2 _, ⟨⟨_, _, _, rfl⟩, fun x hx => by cases hx⟩, by simp⟩, by simp, HB2.out.size, HB2.out.trans ((below_alloc (Below.refl _ _) _).mono HB2.out.size)⟩)).mono ?_); rintro e w5 ⟨rfl, ha5, _⟩; have HA5 := Aside0.mk ha5; clear ha5))
  refine bodyPost_ret (results_tmp2 rfl _ _ _) rfl ?_
  exact ⟨w2.heap.size, rfl, HA5.out⟩

end Go.Proofs.YtfpfnolpoklefaaGreatDoor.Sh
/- Contracts of package sha2: Write, Sum; of package store: digest. -/
namespace Go.Proofs.YtfpfnolpoklefaaGreatDoor.Sh
open Go.Proofs.YtfpfnolpoklefaaGreatDoor.Dk
open Go.RowKit Go.Proofs.YtfpfnolpoklefaaGreatDoorW.PrintWords Go.Proofs.YtfpfnolpoklefaaGreatDoorW.PrintLast Go.Proofs.YtfpfnolpoklefaaGreatDoorW.PrintMore
set_option linter.unusedVariables false
set_option linter.unusedSimpArgs false
set_option maxRecDepth 30000

variable {w w0 w1 w2 wr : World} {g q : Nat} {n : Int} {r : Option (List Int)} {hv xs ys : List Int} {v : Value}
theorem C_bys {gs o : Nat} (h : Bys w gs o xs) (hx : xs.length ≤ 1000000000) : C8 w (some ⟨gs, o, none⟩) xs := by
  refine ⟨rfl, by omega, fun _ => ⟨_, rfl, fun j p hj => ⟨[.int .u8 p], rfl, rfl, fun i u hu => ?_⟩⟩⟩
  cases i with
  | succ i => simp at hu
  | zero =>
    simp only [List.getElem?_cons_zero, Option.some.injEq] at hu
    subst hu
    have hlt := (List.getElem?_eq_some_iff.1 hj).1
    have e : (⟨gs, o, none⟩ : Addr).add (j * (Kd.int .u8).sz + 0) = ⟨gs, o + j, none⟩ := by rw [Addr.add_mid]; simp [Kd.int, Kd.scalar]
    rw [e, h j hlt, List.getD_eq_getElem?_getD, hj]
    rfl
theorem RowAt.C (h : RowAt w g v xs) (hx : xs.length ≤ 1000000000) : ∃ A c, v = .slice A xs.length c ∧ C8 w A xs := by
  obtain ⟨A, c, rfl, hc, h⟩ := h
  refine ⟨A, c, rfl, ?_⟩
  rcases h with rfl | ⟨gs, o, rfl, _, _, hb⟩
  · exact ⟨rfl, by simp, fun h => absurd h (by simp)⟩
  · exact C_bys hb hx
theorem row8_at {cs : Array Value} {t : Nat} (h : Row8 w q v xs) (hb : w.heap[g]? = some (.cells cs t (0, 0))) (ht : 5 ≠ t) : RowAt w g v xs := by
  obtain ⟨A, c, rfl, hc, _⟩ := h.reads
  refine ⟨A, c, rfl, hc, ?_⟩
  by_cases h0 : 0 < xs.length
  · obtain ⟨gs, c', e, _, hlt, _, ⟨cells, hcl⟩, hx⟩ := h.form h0
    injection e with e
    refine .inr ⟨gs, 0, e, blk_ne hcl hb ht, hlt, fun j hj => by rw [Nat.zero_add]; exact hx j hj⟩
  · exact .inl (List.eq_nil_of_length_eq_zero (by omega))
theorem HAt.grown (h : HAt w0 w g n r hv) (hr : Row8 w q v xs) (hg : w.grownBy w1 v.ownBlock) (hb : Below w0.heap.size w w1) : HAt w0 w1 g n none hv := by
  obtain ⟨vr, h6, h1, h2, h3⟩ := h.blk
  have hne := Kd.R_ne hr h1 (by decide)
  exact ⟨⟨vr, h6, blk_grown h1 hg hne, ⟨h2.1, fun x hx => by cases hx⟩, h3⟩, h.hl, h.lo, h.b.trans hb⟩
theorem HAt.rowAt (h : HAt w0 w g n r hv) (hr : Row8 w q v xs) : RowAt w g v xs := by
  obtain ⟨vr, h6, h1, h2, h3⟩ := h.blk
  exact row8_at hr h1 (by decide)
theorem takeF_len (hv : List Int) : ∀ (k : Nat) (xs : List Int), xs.length ≤ k → (takeF hv xs).2.length ≤ xs.length ∧ (takeF hv xs).2.length < 64
  | k, xs, hk => by
    by_cases h : 64 ≤ xs.length
    · rw [takeF_ge h]
      cases k with
      | zero => omega
      | succ k =>
        have := takeF_len (mixM hv (xs.take 64)) k (xs.drop 64) (by simp; omega)
        simp at this
        omega
    · rw [takeF_lt (by omega)]
      exact ⟨Nat.le_refl _, by show xs.length < 64; omega⟩
def WritePost (w0 w w' : World) (g : Nat) (n : Int) (r hv b : List Int) (e : Ending) : Prop := e = .returned (.int .i64 0) ∧ HAt w0 w' g (n + b.length) (some (takeF hv (r ++ b)).2) (takeF hv (r ++ b)).1 ∧ w.heap.size ≤ w'.heap.size
set_option maxHeartbeats 16000000 in
theorem write_calls (hg0 : Glob w0) (h : HAt w0 w g n (some xs) hv) (hn : 0 ≤ n) (A : Option Addr) (c : Nat) (b : List Int) (hnb : n + b.length ≤ 1048576) (hx : xs.length ≤ 64) (hC : ∀ W, Upd w W (· = g) → C8 W A b) :
    Calls Tryz.prog 67 #[.pointer (some ⟨g, 0, none⟩), .slice A b.length c] w fun e w' => WritePost w0 w w' g n xs hv b e := by
  have hg := Aside0.mk hg0
  have hc15 := h.cn
  have hf15 := h.free 15
  have hf16 := h.free 16
  obtain ⟨A1, m1, c1, hc16, hr16⟩ := h.cr
  have hr := hr16 xs rfl
  have HA1 := Aside0.mk (h.setN (n + b.length))
  have HU1 := upd_cell w g 15 (.int .i64 (n + b.length))
  have HR1 := Aside0.mk (show Row8 (w.setCell ⟨g, 15, none⟩ (.int .i64 (n + b.length))) w0.heap.size (.slice A1 m1 c1) xs from by obtain ⟨vr, h6, h1, _⟩ := h.blk; exact hr.type h1 (by decide) HU1)
  have HC1 := Aside0.mk (hC _ HU1)
  have HZ := Aside0.mk (show w.heap.size ≤ (w.setCell ⟨g, 15, none⟩ (.int .i64 (n + b.length))).heap.size from HU1.size)
  have hq : decide (1048576 - n < (b.length : Int)) = false := decide_eq_false (by omega)
  obtain ⟨m, hm⟩ : ∃ m, m = n + b.length := ⟨_, rfl⟩
  have hm1 : m ≤ 1048576 := by omega
  have HM := Lib.hid hm
  rw [← hm] at HA1 HR1 HC1 HZ
  have hms : n + (b.length : Int) = m := hm.symm
  clear h hg0 hr hr16 HU1 hC hm
  have hbl : b.length ≤ 1048576 := by omega
  go_enter Tryz.func67, Tryz.ntmps67
  go_wp2_with (first | ((with_reducible refine gate_builtin (b := .append) (xs := #[.tmp 31, .tmp 32]) rfl ?_); at_builtin; refine app8 (q := w0.heap.size) info5 Tryz.underlying22 rfl (.tmp 31) (.tmp 32) rfl _ _ _ _ _ _ rfl rfl HR1.out HC1.out ?aQ ?aL ?_; (case aQ => have := HA1.out.b.size; omega); (case aL => omega); intro A3 c3 w3 hr3 hb3 hg3; have HA3 := Aside0.mk (HA1.out.grown HR1.out hg3 hb3); have HZ3 := Aside0.mk (Nat.le_trans HZ.out hg3.size); have HR3 := Aside0.mk (show RowAt w3 g (.slice A3 (xs.length + b.length) c3) (xs ++ b) from by have h := HA3.out.rowAt hr3; rwa [List.length_append] at h); clear hr3 hb3 hg3) | (go_at_call 83; (with_reducible refine (take_calls hg.out _ HA3.out HR3.out (by simp; omega)).mono ?_); rintro e w4 ⟨v4, rfl, hr4, ha4, hu4⟩; obtain ⟨A4, c4, rfl, hc4⟩ := RowAt.C hr4 (by have := takeF_len hv _ (xs ++ b) (Nat.le_refl _); omega); have HA4 := Aside0.mk ha4; have HC4 := Aside0.mk hc4; have HZ4 := Aside0.mk (Nat.le_trans HZ3.out hu4.size); clear hr4 ha4 hu4 hc4) | ((with_reducible refine gate_builtin (b := .append) (xs := #[.const (.slice none 0 0), .tmp 34]) rfl ?_); at_builtin; refine app8 (q := w4.heap.size) info5 Tryz.underlying22 rfl (.const (.slice none 0 0)) (.tmp 34) rfl _ _ _ _ _ _ rfl rfl (Row8.nil _ _) HC4.out ?aQ ?aL ?_; (case aQ => exact Nat.le_refl _); (case aL => have := takeF_len hv _ (xs ++ b) (Nat.le_refl _); simp; omega); intro A5 c5 w5 hr5 hb5 hg5; have HR5 := Aside0.mk hr5; have HA5 := Aside0.mk (HA4.out.below hb5); have HZ5 := Aside0.mk (Nat.le_trans HZ4.out hb5.size); have hf := HA5.out.free 16; obtain ⟨_, _, _, hc, _⟩ := HA5.out.cr; clear hr5 hb5 hg5))
  go_ret
  exact ⟨rfl, by rw [← HM.out]; exact HA5.out.setR (HR5.out.lower HA4.out.b.size), by have := HZ5.out; simpa [World.setCell] using this⟩

def sumM (hv r : List Int) (k : Nat) : List Int := tellM (takeF hv (r ++ padM k)).1
def SumPost (w0 w' : World) (x : List Int) (e : Ending) : Prop := ∃ v, e = .returned v ∧ Row8 w' w0.heap.size v x ∧ Below w0.heap.size w0 w'
theorem padN_le (k : Nat) : padN k ≤ 72 := by unfold padN; omega
theorem padM_length (k : Nat) : (padM k).length = padN k := padR_length k 8
set_option maxHeartbeats 16000000 in
theorem sum_calls (hg0 : Glob w0) (k : Nat) (hk : k ≤ 1048576) (h : HAt w0 w g k (some xs) hv) (hx : xs.length < 64) : Calls Tryz.prog 68 #[.pointer (some ⟨g, 0, none⟩)] w fun e w' => SumPost w0 w' (sumM hv xs k) e := by
  have hg := Aside0.mk hg0
  have HA1 := Aside0.mk h
  have HX := Aside0.mk hx
  clear h hg0 hx
  go_enter Tryz.func68, Tryz.ntmps68
  go_wp2_with (first | (go_at_call 84; (with_reducible refine (copy_calls HA1.out (by have := HX.out; omega)).mono ?_); rintro e w2 ⟨g2, rfl, ha2, hb2⟩; clear hb2))
  have HA2 := Aside0.mk ha2.drew
  have hw256 : wrap64 256 = 256 := by simp [wrap64]
  clear ha2
  repeat (first | go_step | go_guarded | go_upon)
  refine start_ (n := 16) (S := fun w' => w'.cell? ⟨g2, 15, none⟩ = some (.int .i64 k) ∧ w'.cell? ⟨g2, 0, none⟩ = some (.int .i64 4)) (ds := []) (bz 16 0) (by kernel_rfl) rfl rfl ⟨HA2.out.cn, HA2.out.c0⟩ (fun hHeld => ?_)
  refine pz 0 (some 11) (bz 16 1) ?_
  refine pz 1 (some 12) (bz 16 3) ?_
  refine pz 2 (some 13) (bz 16 7) ?_
  refine pz 4 (some 15) (bz 16 23) ?_
  refine pz 5 (some 16) (bz 16 55) ?_
  refine pz 6 (some 17) (bz 16 119) ?_
  refine pz 7 (some 18) (bz 16 247) ?_
  refine tz2 3 (some 14) (bz 16 255) hHeld ?_
  refine tz2 8 (some 19) (bz 16 511) hHeld ?_
  refine pz 9 (some 20) (bz 16 1023) ?_
  refine one_ (i := 10) (N := some 21) (bz 16 2047) rfl rfl (by kernel_rfl) (by decide) (fun K hK => ?_)
  refine goes_ Tryz.func85 (by kernel_rfl) rfl #[.int .i64 k, .int .i64 (wrap64 256)] (by rfl) rfl rfl (by simp only [List.map_toArray, List.map_cons, List.map_nil]; rfl) ?_
  rw [show wrap64 256 = 256 by simp [wrap64]]
  with_reducible refine (pad_calls k hk).mono ?_
  rintro e w3 ⟨vp, rfl, hr, hb⟩
  refine ⟨_, rfl, ?_⟩
  have HA3 := Aside0.mk (HA2.out.below hb)
  have HP3 := Aside0.mk hr
  have HZ3 := Aside0.mk (show w0.heap.size ≤ w3.heap.size from HA3.out.b.size)
  have HZ2 := Aside0.mk (show w0.heap.size ≤ w2.drew.heap.size from HA2.out.b.size)
  clear hr hb
  refine hK.out _ _ ⟨HA3.out.cn, HA3.out.c0⟩ (fun hHeld => ?_)
  clear hK K
  refine norm_ (a' := ?_) ?_ ?_
  rotate_left
  · show Act.put _ (some 21) _ = _
    simp only [Act.put, List.setIfInBounds_toArray, List.set_cons_zero, List.set_cons_succ, i64_w, i32_w]
    rfl
  refine pz 11 (some 10) (bz 16 4095) ?_
  refine pz 12 (some 22) (bz 16 8191) ?_
  refine pz 13 (some 23) (bz 16 16383) ?_
  refine pz 14 (some 4) (bz 16 32767) ?_
  refine pz 15 (some 5) (bz 16 65535) ?_
  refine done_ (by kernel_rfl) ?_
  clear hHeld hw256
  obtain ⟨A3, c3, rfl, hpc, hp8⟩ := HP3.out.reads
  obtain ⟨A2, m2, c2, hc16, hr16⟩ := HA3.out.cr
  have HR2 := Aside0.mk (hr16 xs rfl)
  have HP8 := Aside0.mk hp8
  have hpl : (padM k).length ≤ 72 := by rw [padM_length]; exact padN_le k
  have HPL := Aside0.mk hpl
  clear hpc hr16 hp8 HP3 hpl
  obtain ⟨h5, hh5⟩ : ∃ h5, (takeF hv (xs ++ padM k)).1 = h5 := ⟨_, rfl⟩
  have HH5 := Lib.hid hh5
  go_wp2_with (first | ((with_reducible refine gate_builtin (b := .append) (xs := #[.tmp 28, .tmp 29]) rfl ?_); at_builtin; refine app8 (q := w0.heap.size) info5 Tryz.underlying22 rfl (.tmp 28) (.tmp 29) rfl _ _ _ _ _ _ rfl rfl HR2.out HP8.out ?aQ ?aL ?_; (case aQ => exact HZ3.out); (case aL => have := HX.out; have := HPL.out; omega); intro A4 c4 w4 hr4 hb4 hg4; have HA4 := Aside0.mk (HA3.out.grown HR2.out hg4 hb4); have HR4 := Aside0.mk (show RowAt w4 g2 (.slice A4 (xs.length + (padM k).length) c4) (xs ++ padM k) from by have h := HA4.out.rowAt hr4; rwa [List.length_append] at h); clear hr4 hb4 hg4) | (go_at_call 83; (with_reducible refine (take_calls hg.out _ HA4.out HR4.out (by have := HX.out; have := HPL.out; simp; omega)).mono ?_); rintro e w5 ⟨v5, rfl, hr5, ha5, hu5⟩; rw [hh5] at ha5; have HA5 := Aside0.mk ha5; have hc0 := HA5.out.c0; clear hr5 ha5 hu5 hh5))
  have HL5 := Aside0.mk HA5.out.hl
  have HA6 := Aside0.mk HA5.out.drew
  repeat (first | go_step | go_guarded | go_upon)
  refine start_ (n := 10) (S := fun w' => w'.rangeAt g2 0 narrowA.toList ∧ w'.rangeAt g2 17 (nums .u32 h5)) (ds := []) (bz 10 0) (by kernel_rfl) rfl rfl ⟨HA6.out.rs, HA6.out.rh⟩ (fun hHeld => ?_)
  refine pz 0 (some 38) (bz 10 1) ?_
  refine pz 1 (some 39) (bz 10 3) ?_
  refine pz 2 (some 40) (bz 10 7) ?_
  refine pz 4 (some 42) (bz 10 23) ?_
  refine pz 5 (some 43) (bz 10 55) ?_
  refine pz 6 (some 44) (bz 10 119) ?_
  refine take_ (i := 3) (N := some 41) (v := .agg narrowA) (a' := ?_) (bz 10 127) rfl rfl (by kernel_rfl) (fun _ _ _ h => h) (yieldsIf_load_mid (by rfl) 154 (.tmp 40) rfl g2 0 (by rfl) narrowA.toList _ (fun w' h => h.1) Tryz.underlying154 rfl (by kernel_rfl)) hHeld ?_ ?_
  rotate_left
  · simp only [Act.put, List.setIfInBounds_toArray, List.set_cons_zero, List.set_cons_succ, i64_w, i32_w]
    rfl
  refine take_ (i := 7) (N := some 45) (v := .agg (nums .u32 h5).toArray) (a' := ?_) (bz 10 255) rfl rfl (by kernel_rfl) (fun _ _ _ h => h) (yieldsIf_load_mid (by rfl) 158 (.tmp 44) rfl g2 17 (by rfl) (nums .u32 h5) _ (fun w' h => h.2) Tryz.underlying158 rfl (by rw [nums_length, HL5.out]; kernel_rfl)) hHeld ?_ ?_
  rotate_left
  · simp only [Act.put, List.setIfInBounds_toArray, List.set_cons_zero, List.set_cons_succ, i64_w, i32_w]
    rfl
  refine one_ (i := 8) (N := some 46) (bz 10 511) rfl rfl (by kernel_rfl) (by decide) (fun K hK => ?_)
  refine goes_ Tryz.func86 (by kernel_rfl) rfl #[.agg narrowA, .agg (nums .u32 h5).toArray] (by rfl) rfl rfl (by simp only [List.map_toArray, List.map_cons, List.map_nil]; rfl) ?_
  with_reducible refine (tell_calls h5 HL5.out).mono ?_
  rintro e w7 ⟨v7, rfl, hr, hb⟩
  refine ⟨_, rfl, ?_⟩
  have HA7 := Aside0.mk (HA6.out.below hb)
  have HR7 := Aside0.mk (hr.lower HA6.out.b.size)
  clear hr hb
  refine hK.out _ _ ⟨HA7.out.rs, HA7.out.rh⟩ (fun hHeld => ?_)
  clear hK K
  refine norm_ (a' := ?_) ?_ ?_
  rotate_left
  · show Act.put _ (some 46) _ = _
    simp only [Act.put, List.setIfInBounds_toArray, List.set_cons_zero, List.set_cons_succ, i64_w, i32_w]
    rfl
  refine pz 9 (some 2) (bz 10 1023) ?_
  refine done_ (by kernel_rfl) ?_
  clear hHeld
  go_wp2_with (fail)
  go_ret
  exact ⟨v7, rfl, by rw [sumM, HH5.out]; exact HR7.out, HA7.out.b⟩

theorem HAt.upd_below {W : World} (h : HAt w0 w g n r hv) (hu : Upd w W (· = g)) : Below w0.heap.size w0 W := Upd.below (F := fun k => w0.heap.size ≤ k) ((Upd.of_below (F := fun k => w0.heap.size ≤ k) h.b).trans hu (fun k hk => .inl (by rw [hk]; exact h.lo))) (fun k hk => hk)
end Go.Proofs.YtfpfnolpoklefaaGreatDoor.Sh
/- Package merkle: digest. -/
namespace Go.Proofs.YtfpfnolpoklefaaGreatDoor.Sh
open Go.Proofs.YtfpfnolpoklefaaGreatDoor.Dk
open Go.RowKit Go.Proofs.YtfpfnolpoklefaaGreatDoorW.PrintWords Go.Proofs.YtfpfnolpoklefaaGreatDoorW.PrintLast Go.Proofs.YtfpfnolpoklefaaGreatDoorW.PrintMore
set_option linter.unusedVariables false
set_option linter.unusedSimpArgs false
set_option maxRecDepth 30000
variable {w w0 w1 w2 wr : World} {g c : Nat} {A : Option Addr} {L : List (List Int)} {mark : Int}
/-- The state of a hash behind some bytes: the numbers, the rest, how many bytes there were. -/
def stM (s : List Int × List Int × Nat) (b : List Int) : List Int × List Int × Nat := ((takeF s.1 (s.2.1 ++ b)).1, (takeF s.1 (s.2.1 ++ b)).2, s.2.2 + b.length)
def mdS (mark : Int) (L : List (List Int)) : List Int × List Int × Nat := L.foldl stM (stM (begin32L, [], 0) [mark])
def mdigM (mark : Int) (L : List (List Int)) : List Int := sumM (mdS mark L).1 (mdS mark L).2.1 (mdS mark L).2.2
def totL (L : List (List Int)) : Nat := (L.map List.length).sum
theorem mdS_snoc {i : Nat} (h : i < L.length) : mdS mark (L.take (i + 1)) = stM (mdS mark (L.take i)) L[i] := by
  unfold mdS
  rw [List.take_succ_eq_append_getElem h, List.foldl_append]
  rfl
theorem mdS_facts (mark : Int) : ∀ i, i ≤ L.length → (mdS mark (L.take i)).2.1.length < 64 ∧ (mdS mark (L.take i)).2.2 = 1 + totL (L.take i) := by
  intro i
  induction i with
  | zero => intro _; exact ⟨(takeF_len _ _ _ (Nat.le_refl _)).2, by simp [mdS, stM, totL]⟩
  | succ i ih =>
    intro hi
    rw [mdS_snoc (by omega)]
    refine ⟨(takeF_len _ _ _ (Nat.le_refl _)).2, ?_⟩
    show (mdS mark (L.take i)).2.2 + L[i].length = _
    rw [(ih (by omega)).2]
    unfold totL
    rw [List.take_succ_eq_append_getElem (by omega)]
    simp only [List.map_append, List.sum_append, List.map_cons, List.map_nil, List.sum_cons, List.sum_nil]
    omega
theorem totL_take (L : List (List Int)) (i : Nat) : totL (L.take i) ≤ totL L := by
  conv => rhs; rw [← List.take_append_drop i L]
  unfold totL
  simp only [List.map_append, List.sum_append]
  omega
theorem build22 (m : Int) (w : World) : (Instr.buildSlice 22 1 #[(0, .int .u8 m)]).run Tryz.prog w = .ok (.slice (some ⟨w.heap.size, 0, none⟩) 1 1) (w.alloc (.cells #[.int .u8 m] 5)) := by kernel_rfl
theorem C8_mark {w1 : World} {n : Int} {r : Option (List Int)} {hv : List Int} (h : HAt w w1 g n r hv) (m : Int) : ∀ W, Upd (w1.alloc (.cells #[.int .u8 m] 5)) W (· = g) → C8 W (some ⟨w1.heap.size, 0, none⟩) [m] := fun W hW => by
  obtain ⟨_, _, hb, _⟩ := h.blk
  have hlt := blk_lt hb
  have h1 := heap_alloc_new w1 (.cells #[.int .u8 m] 5)
  refine C_block (x := [m]) (e := 5) (m := (0, 0)) ?_ (by simp)
  rw [hW.block w1.heap.size (by rw [World.size_alloc]; exact Nat.lt_succ_self _) (fun e => by have e' : w1.heap.size = g := e; omega)]
  exact h1
set_option maxHeartbeats 16000000 in
theorem mdigest_calls (hg0 : Glob w) (mark : Int) (hL : Kd.C (Kd.slice 5 (Kd.int .u8)) w A L.length L) (hc : L.length ≤ c) (hl : 1 + totL L ≤ 1048576) (hn : L.length ≤ 1000000) :
    Calls Tryz.prog 52 #[.int .u8 mark, .slice A L.length c] w fun e w' => SumPost w w' (mdigM mark L) e := by
  have hg := Aside0.mk hg0
  have HL := Aside0.mk hL
  have HT := Aside0.mk hl
  have hbb := fun W => build22 mark W
  clear hg0 hL hl
  go_enter Tryz.func52, Tryz.ntmps52
  go_wp2_with (first
    | (go_at_call 66; (with_reducible refine (new_calls hg.out).mono ?_); rintro e w1 ⟨g, rfl, ha1⟩; have HA1 := Aside0.mk ha1; have HM1 := Aside0.mk (C8_mark ha1 mark); have HA1' := Aside0.mk (ha1.below (below_alloc (Below.refl w1.heap.size w1) (.cells #[.int .u8 mark] 5))); have HW1 := Aside0.mk (show Calls Tryz.prog 67 #[.pointer (some ⟨g, 0, none⟩), .slice (some ⟨w1.heap.size, 0, none⟩) 1 1] (w1.alloc (.cells #[.int .u8 mark] 5)) fun e w' => WritePost w (w1.alloc (.cells #[.int .u8 mark] 5)) w' g 0 [] begin32L [mark] e from write_calls hg.out HA1'.out (by decide) (some ⟨w1.heap.size, 0, none⟩) 1 [mark] (by simp) (by decide) HM1.out); clear ha1)
    | (go_at_call 67; (with_reducible refine HW1.out.mono ?_); rintro e w2 ⟨rfl, ha2, _⟩; have HA2 := Aside0.mk (show HAt w w2 g ((mdS mark (L.take 0)).2.2 : Int) (some (mdS mark (L.take 0)).2.1) (mdS mark (L.take 0)).1 from ha2); clear ha2))
  go_loopw [19] (fun v19 w' => ∃ i : Nat, v19 = .int .i64 i ∧ i ≤ L.length ∧ Aside0 (HAt w w' g ((mdS mark (L.take i)).2.2 : Int) (some (mdS mark (L.take i)).2.1) (mdS mark (L.take i)).1)) (fun v19 _ => L.length - (intOf v19).toNat)
  case atStart => exact ⟨0, rfl, Nat.zero_le _, HA2⟩
  case round =>
    obtain ⟨i, rfl, hi, HA⟩ := hrel
    obtain ⟨f1, f2⟩ := mdS_facts (L := L) mark i hi
    by_cases hlt : i < L.length
    · obtain ⟨ad, A0, c0, rfl, hcw, hl0, hC0⟩ := P.at_L1 HL.out (i : Int) (by omega) (by omega)
      rw [Int.toNat_natCast] at hcw
      obtain ⟨t, ht⟩ : ∃ t, P.rd_L1 L (i : Int) = t := ⟨_, rfl⟩
      have hti : L[i] = t := by rw [← ht]; unfold P.rd_L1; rw [Int.toNat_natCast, List.getD_eq_getElem?_getD, List.getElem?_eq_getElem hlt]; rfl
      rw [ht] at hcw hl0 hC0
      have hcell := Kd.cell_heap (fun k hk => HA.out.b.block k hk) hcw
      obtain ⟨g1, g2⟩ := mdS_facts (L := L) mark (i + 1) hlt
      have hsn := mdS_snoc (mark := mark) hlt
      rw [hti] at hsn
      have hb2 : (mdS mark (L.take i)).2.2 + t.length ≤ 1048576 := by
        have e : (mdS mark (L.take (i + 1))).2.2 = (mdS mark (L.take i)).2.2 + t.length := by rw [hsn]; rfl
        have := totL_take L (i + 1)
        have := HT.out
        omega
      have HSN := Aside0.mk hsn
      have HC0 := Aside0.mk hC0
      obtain ⟨S, hS⟩ : ∃ S, mdS mark (L.take i) = S := ⟨_, rfl⟩
      rw [hS] at HA HSN f1 hb2
      clear hcw hC0 ht hti hsn hS f2 g1 g2
      go_wp2_with (first | (go_at_call 67; (with_reducible refine (write_calls hg.out HA.out (by omega) A0 c0 t (by omega) (by omega) (fun W hW => Kd.C_below HC0.out (HA.out.upd_below hW))).mono ?_); rintro e w3 ⟨rfl, ha3, _⟩; have HA3 := Aside0.mk (show HAt w w3 g ((stM S t).2.2 : Int) (some (stM S t).2.1) (stM S t).1 from by (have h := ha3; rw [← Int.natCast_add] at h; exact h)); clear ha3))
      go_roundw
      case rel => exact ⟨i + 1, by go_num, by omega, ⟨by rw [HSN.out]; exact HA3.out⟩⟩
      case measure => simp [intOf]; omega
    · obtain rfl : i = L.length := by omega
      rw [List.take_length] at HA f1 f2
      have hb3 : (mdS mark L).2.2 ≤ 1048576 := by have := HT.out; omega
      go_wp2_with (first | (go_at_call 68; (with_reducible refine (sum_calls hg.out (mdS mark L).2.2 hb3 HA.out f1).mono ?_); rintro e w4 ⟨v4, rfl, hr4, hb4⟩; have HS := Aside0.mk (show SumPost w w4 (mdigM mark L) (.returned v4) from ⟨v4, rfl, hr4, hb4⟩); clear hr4 hb4))
      go_ret
      exact HS.out

end Go.Proofs.YtfpfnolpoklefaaGreatDoor.Sh
/- Package merkle: eight (a row of eight bytes of the call's own). -/
namespace Go.Proofs.YtfpfnolpoklefaaGreatDoor.Sh
open Go.Proofs.YtfpfnolpoklefaaGreatDoor.Dk
open Go.RowKit Go.Proofs.YtfpfnolpoklefaaGreatDoorW.PrintWords Go.Proofs.YtfpfnolpoklefaaGreatDoorW.PrintLast Go.Proofs.YtfpfnolpoklefaaGreatDoorW.PrintMore
set_option linter.unusedVariables false
set_option linter.unusedSimpArgs false
set_option maxRecDepth 30000
variable {w w0 w1 w2 wr : World} {g c : Nat} {xs : List Int} {n : Int}
theorem cell_u8 {w : World} {b g n cap : Nat} {ok : Nat → Prop} {xs : List Int} (h : Kd.R (Kd.int .u8) 5 w b ok (.slice (some ⟨g, 0, none⟩) n cap) xs) {i : Nat} (hi : i < xs.length) : ∃ z, w.cell? ⟨g, i, none⟩ = some (.int .u8 z) := by
  have hn := (Kd.R_reads' h).1
  obtain ⟨c, hl, hM, hx, _⟩ := Kd.R_elem h 0 (i : Int) (by omega) (by omega)
  rw [Int.toNat_natCast] at hM hx
  have hM' : c = [.int .u8 (xs.getD i 0)] := hM
  subst hM'
  have := hx 0 _ rfl
  rw [show i * (Kd.int .u8).sz + 0 = i from by show i * 1 + 0 = _; omega] at this
  exact ⟨_, this⟩
theorem typed_set {w : World} {g : Nat} (h : ∃ cells, w.heap[g]? = some (.cells cells 5 (0, 0))) (i : Nat) (u : Value) : ∃ cells, (w.setCell ⟨g, i, none⟩ u).heap[g]? = some (.cells cells 5 (0, 0)) := by
  obtain ⟨cells, h⟩ := h
  unfold World.setCell
  simp only [Array.getElem?_modify]
  rw [if_pos trivial, h]
  exact ⟨_, rfl⟩
theorem zeros8 : ∃ xs : List Int, List.replicate (8 : Int).toNat (0 : Int) = xs ∧ xs.length = 8 := ⟨_, rfl, rfl⟩
set_option maxHeartbeats 8000000 in
theorem eight_calls : Calls Tryz.prog 53 #[.int .i64 n] w fun e w' => ∃ v x, e = .returned v ∧ x.length = 8 ∧ Row8 w' w.heap.size v x ∧ Below w.heap.size w w' := by
  go_enter Tryz.func53, Tryz.ntmps53
  go_wp2_with (first | (at_make; refine Kd.R_make (Kd.int .u8) (w0 := w) w.heap.size 5 rfl rfl 22 (.const (.int .i64 8)) (.const (.int .i64 8)) rfl 8 rfl rfl Tryz.underlying22 (.int .u8 0) 1 info5 rfl (by decide) (by decide) 0 (okp := fun _ => False) (ok := fun k => w.heap.size ≤ k) rfl (fun _ h => h.elim) (Nat.le_refl _) (by decide) (by decide) (Below.refl _ _) (Nat.le_refl _) ?_; intro v1 w1 hr1 hb1 _ _; (obtain ⟨xs0, hxs0, hl0⟩ := zeros8); rw [hxs0] at hr1; obtain ⟨g, cap, rfl, hg1, hg2, cells, hg3⟩ := Kd.R_form hr1 (by rw [hl0]; decide); rw [hl0] at hr1 ⊢; have HR1 := Aside0.mk hr1; have HB1 := Aside0.mk hb1; have HG := Aside0.mk (show ∃ cells, w1.heap[g]? = some (.cells cells 5 (0, 0)) from ⟨cells, hg3⟩); clear hr1 hb1 hg3))
  go_loopw [8] (fun v8 w' => ∃ (i : Nat) (xs : List Int), v8 = .int .i64 i ∧ i ≤ 8 ∧ xs.length = 8 ∧ Aside0 (Kd.R (Kd.int .u8) 5 w' w.heap.size (fun k => w.heap.size ≤ k) (.slice (some ⟨g, 0, none⟩) 8 cap) xs) ∧ Aside0 (Below w.heap.size w w') ∧ Aside0 (∃ cells, w'.heap[g]? = some (.cells cells 5 (0, 0)))) (fun v8 _ => 8 - (intOf v8).toNat)
  case atStart => exact ⟨0, xs0, rfl, by decide, hl0, HR1, HB1, HG⟩
  case round =>
    clear HR1 HB1 HG hl0 hxs0
    obtain ⟨i, xs, rfl, hi, hl0, HR, HB, HG⟩ := hrel
    by_cases hil : i < 8
    · have hfz : wr.frozen? ⟨g, i, none⟩ = false := by obtain ⟨cells, hg3⟩ := HG.out; exact blk_frozen hg3 i
      obtain ⟨z, hcz⟩ := cell_u8 HR.out (i := i) (by omega)
      have HS := Aside0.mk (show ∀ y : Int, Kd.R (Kd.int .u8) 5 (wr.setCell ⟨g, i, none⟩ (.int .u8 y)) w.heap.size (fun k => w.heap.size ≤ k) (.slice (some ⟨g, 0, none⟩) 8 cap) (xs.set i y) from fun y => Kd.R_putn (h1 := fun _ => rfl) HR.out (i : Int) y)
      go_wp2
      go_roundw
      case rel => exact ⟨i + 1, _, by go_num, by omega, by rw [List.length_set]; exact hl0, ⟨HS.out _⟩, ⟨HB.out.setCell (p := ⟨g, i, none⟩) hg1 _⟩, ⟨typed_set HG.out _ _⟩⟩
      case measure => simp [intOf]; omega
    · obtain rfl : i = 8 := by omega
      go_wp2_with (fail)
      go_ret
      exact ⟨_, xs, rfl, hl0, HR.out, HB.out⟩

end Go.Proofs.YtfpfnolpoklefaaGreatDoor.Sh
/- Package merkle: Leaf of a chunk (that 32 bytes come). -/
namespace Go.Proofs.YtfpfnolpoklefaaGreatDoor.Sh
open Go.Proofs.YtfpfnolpoklefaaGreatDoor.Dk
open Go.RowKit Go.Proofs.YtfpfnolpoklefaaGreatDoorW.PrintWords Go.Proofs.YtfpfnolpoklefaaGreatDoorW.PrintLast Go.Proofs.YtfpfnolpoklefaaGreatDoorW.PrintMore
set_option linter.unusedVariables false
set_option linter.unusedSimpArgs false
set_option maxRecDepth 30000
section
variable {w W w' : World} {A A1 A2 : Option Addr} {c n c1 c2 G : Nat} {xs x1 x2 : List Int}
theorem C_two {m : Nat × Nat} {n1 n2 : Nat} (h : w.heap[G]? = some (.cells #[.slice A1 n1 c1, .slice A2 n2 c2] 22 m)) (e1 : x1.length = n1) (e2 : x2.length = n2) (l1 : n1 ≤ c1) (C1 : Kd.C (Kd.int .u8) w A1 n1 x1) (l2 : n2 ≤ c2) (C2 : Kd.C (Kd.int .u8) w A2 n2 x2) :
    Kd.C (Kd.slice 5 (Kd.int .u8)) w (some ⟨G, 0, none⟩) 2 [x1, x2] := by
  subst e1 e2
  refine ⟨rfl, by decide, fun _ => ⟨_, rfl, fun j p hj => ?_⟩⟩
  have hcell : ∀ i, w.cell? ⟨G, i, none⟩ = (#[Value.slice A1 x1.length c1, Value.slice A2 x2.length c2] : Array Value)[i]? := fun i => by rw [World.cell?, h]; simp
  match j, hj with
  | 0, hj =>
    simp only [List.getElem?_cons_zero, Option.some.injEq] at hj
    subst hj
    refine ⟨[.slice A1 x1.length c1], rfl, ⟨A1, c1, rfl, l1, C1⟩, fun i u hu => ?_⟩
    cases i with
    | zero =>
      simp only [List.getElem?_cons_zero, Option.some.injEq] at hu
      subst hu
      exact hcell 0
    | succ i => simp at hu
  | 1, hj =>
    simp only [List.getElem?_cons_succ, List.getElem?_cons_zero, Option.some.injEq] at hj
    subst hj
    refine ⟨[.slice A2 x2.length c2], rfl, ⟨A2, c2, rfl, l2, C2⟩, fun i u hu => ?_⟩
    cases i with
    | zero =>
      simp only [List.getElem?_cons_zero, Option.some.injEq] at hu
      subst hu
      exact hcell 1
    | succ i => simp at hu
  | j + 2, hj => simp at hj
end

variable {w w0 w1 w2 wr : World} {g c : Nat} {A : Option Addr} {b : List Int} {n : Int}
theorem build87 (v1 v2 : Option Addr × Nat × Nat) (w : World) : (Instr.buildSlice 87 2 #[(0, .slice v1.1 v1.2.1 v1.2.2), (1, .slice v2.1 v2.2.1 v2.2.2)]).run Tryz.prog w = .ok (.slice (some ⟨w.heap.size, 0, none⟩) 2 2) (w.alloc (.cells #[.slice v1.1 v1.2.1 v1.2.2, .slice v2.1 v2.2.1 v2.2.2] 22)) := by kernel_rfl
theorem leaf_dig {A1 : Option Addr} {c1 : Nat} {x : List Int} (hg : Glob w) (hb1 : Below w.heap.size w w1) (hr1 : Row8 w1 w.heap.size (.slice A1 x.length c1) x) (hx8 : x.length = 8) (hC : C8 w A b) (hc : b.length ≤ c) (hb : b.length ≤ 1024) :
    Calls Tryz.prog 52 #[.int .u8 0, .slice (some ⟨w1.heap.size, 0, none⟩) 2 2] (w1.alloc (.cells #[.slice A1 8 c1, .slice A b.length c] 22)) fun e w' => ∃ v, e = .returned v ∧ Row8 w' w.heap.size v (mdigM 0 [x, b]) ∧ Below w.heap.size w w' := by
  have hba := below_alloc (Below.refl w1.heap.size w1) (.cells #[.slice A1 8 c1, .slice A b.length c] 22)
  have hr := Kd.R_reads' hr1
  rw [hx8] at hr
  have h2 := C_two (x1 := x) (x2 := b) (n1 := 8) (n2 := b.length) (heap_alloc_new w1 (.cells #[.slice A1 8 c1, .slice A b.length c] 22)) hx8 rfl hr.2.1 (Kd.C_below hr.2.2 hba) hc (Kd.C_below (Kd.C_below hC hb1) hba)
  have hbw : Below w.heap.size w (w1.alloc (.cells #[.slice A1 8 c1, .slice A b.length c] 22)) := below_alloc hb1 _
  have hd := mdigest_calls (L := [x, b]) (c := 2) (hg.below hbw) 0 h2 (by simp) (by simp [totL, hx8]; omega) (by simp)
  refine hd.mono ?_
  rintro e w' ⟨v, rfl, hv, hbv⟩
  exact ⟨v, rfl, hv.lower hbw.size, Upd.below (F := fun _ => False) ((Upd.of_below (F := fun _ => False) hbw).trans (Upd.of_below (F := fun _ => False) hbv) (fun _ h => .inl h)) (fun _ h => h.elim)⟩
set_option maxHeartbeats 8000000 in
theorem Leaf_calls (hg0 : Glob w) (hn : 0 ≤ n) (hC : C8 w A b) (hc : b.length ≤ c) (hb : b.length ≤ 1024) : Calls Tryz.prog 45 #[.int .i64 n, .slice A b.length c] w fun e w' => ∃ v x, e = .returned (.tuple #[v, .int .i64 0]) ∧ Row8 w' w.heap.size v (mdigM 0 [x, b]) ∧ Below w.heap.size w w' := by
  have hg := Aside0.mk hg0
  have HC := Aside0.mk hC
  have hq1 : decide (n < 0) = false := decide_eq_false (by omega)
  have hq2 : decide (1024 < (b.length : Int)) = false := decide_eq_false (by omega)
  have hbb := fun (A1 : Option Addr) (n1 c1 : Nat) (W : World) => build87 (A1, n1, c1) (A, b.length, c) W
  clear hg0 hC
  go_enter Tryz.func45, Tryz.ntmps45
  go_wp2_with (first | (go_at_call 53; (with_reducible refine (eight_calls).mono ?_); rintro e w1 ⟨v1, x, rfl, hx8, hr1, hb1⟩; obtain ⟨A1, c1, rfl⟩ := Kd.R_slice hr1; have HR1 := Aside0.mk hr1; have HB1 := Aside0.mk hb1; have HDG := Aside0.mk (leaf_dig hg.out hb1 hr1 hx8 HC.out hc hb); rw [hx8]; clear hr1 hb1) | (go_at_call 52; (with_reducible refine HDG.out.mono ?_); rintro e w2 ⟨v2, rfl, hr2, hb2⟩; have HR2 := Aside0.mk hr2; have HB2 := Aside0.mk hb2; clear hr2 hb2))
  refine bodyPost_ret (results_tmp2 rfl _ _ _) rfl ?_
  exact ⟨v2, x, rfl, HR2.out, HB2.out⟩

end Go.Proofs.YtfpfnolpoklefaaGreatDoor.Sh
/- Package merkle: the digest's length; top of one leaf. -/
namespace Go.Proofs.YtfpfnolpoklefaaGreatDoor.Sh
open Go.Proofs.YtfpfnolpoklefaaGreatDoor.Dk
open Go.RowKit Go.Proofs.YtfpfnolpoklefaaGreatDoorW.PrintWords Go.Proofs.YtfpfnolpoklefaaGreatDoorW.PrintLast Go.Proofs.YtfpfnolpoklefaaGreatDoorW.PrintMore
set_option linter.unusedVariables false
set_option linter.unusedSimpArgs false
set_option maxRecDepth 30000
theorem tellM_length {h : List Int} (hl : h.length = 8) : (tellM h).length = 32 := by
  have : ∀ l : List Int, (l.flatMap tell1).length = 4 * l.length := by
    intro l
    induction l with
    | nil => rfl
    | cons a l ih => rw [List.flatMap_cons, List.length_append, ih]; simp [tell1]; omega
  rw [tellM, this, hl]
theorem takeF_h (hv : List Int) (h8 : hv.length = 8) : ∀ (k : Nat) (xs : List Int), xs.length ≤ k → (takeF hv xs).1.length = 8 := by
  intro k
  induction k generalizing hv with
  | zero => intro xs hk; rw [takeF_lt (by omega)]; exact h8
  | succ k ih =>
    intro xs hk
    by_cases h : 64 ≤ xs.length
    · rw [takeF_ge h]
      exact ih _ (mixM_length h8) _ (by simp; omega)
    · rw [takeF_lt (by omega)]; exact h8

theorem stM_h {s : List Int × List Int × Nat} (h : s.1.length = 8) (b : List Int) : (stM s b).1.length = 8 := takeF_h _ h _ _ (Nat.le_refl _)
theorem mdS_h (mark : Int) : ∀ L : List (List Int), (mdS mark L).1.length = 8 := fun L => by
  have : ∀ (L : List (List Int)) (s : List Int × List Int × Nat), s.1.length = 8 → (L.foldl stM s).1.length = 8 := by
    intro L
    induction L with
    | nil => intro s h; exact h
    | cons b L ih => intro s h; exact ih _ (stM_h h b)
  exact this L _ (stM_h begin32L_length _)
theorem mdigM_length (mark : Int) (L : List (List Int)) : (mdigM mark L).length = 32 := tellM_length (takeF_h _ (mdS_h mark L) _ _ (Nat.le_refl _))
variable {w w0 w1 w2 wr : World} {g c : Nat} {A : Option Addr} {x : List Int}
theorem top1_calls (hL : Kd.C (Kd.slice 5 (Kd.int .u8)) w A 1 [x]) (hc : 1 ≤ c) : Calls Tryz.prog 55 #[.slice A 1 c] w fun e w' => (∃ A' c', e = .returned (.slice A' x.length c') ∧ x.length ≤ c' ∧ C8 w A' x) ∧ w = w' := by
  obtain ⟨ad, A0, c0, rfl, hcw, hl0, hC0⟩ := P.at_L1 hL (0 : Int) (by decide) (by decide)
  have hx : P.rd_L1 [x] 0 = x := rfl
  rw [hx] at hcw hl0 hC0
  have hcw' : w.cell? ad = some (.slice A0 x.length c0) := by simpa [Addr.add] using hcw
  have HC := Aside0.mk hC0
  clear hL hC0 hx
  go_enter Tryz.func55, Tryz.ntmps55
  go_wp2_with (fail)
  go_ret
  exact ⟨⟨A0, c0, rfl, hl0, HC.out⟩, rfl⟩

end Go.Proofs.YtfpfnolpoklefaaGreatDoor.Sh
/- Package merkle: Root of one leaf. -/
namespace Go.Proofs.YtfpfnolpoklefaaGreatDoor.Sh
open Go.Proofs.YtfpfnolpoklefaaGreatDoor.Dk
open Go.RowKit Go.Proofs.YtfpfnolpoklefaaGreatDoorW.PrintWords Go.Proofs.YtfpfnolpoklefaaGreatDoorW.PrintLast Go.Proofs.YtfpfnolpoklefaaGreatDoorW.PrintMore
set_option linter.unusedVariables false
set_option linter.unusedSimpArgs false
set_option maxRecDepth 30000
variable {w w0 w1 w2 wr : World} {g c : Nat} {A : Option Addr} {x : List Int}
theorem leaves1 (hx : x.length = 32) : P.merkle_leaves.f 5 [x] = some 0 := by
  have e : P.rd_L1 [x] 0 = x := rfl
  simp [P.merkle_leaves.f, P.merkle_leaves.l0, e, hx, wrap64]
theorem two_dig {A1 A2 : Option Addr} {c1 c2 : Nat} {x1 x2 : List Int} (mark : Int) (hg : Glob w) (hb1 : Below w.heap.size w w1) (C1 : C8 w1 A1 x1) (l1 : x1.length ≤ c1) (C2 : C8 w1 A2 x2) (l2 : x2.length ≤ c2) (hl : x1.length + x2.length ≤ 10000) {n1 n2 : Nat} (e1 : x1.length = n1) (e2 : x2.length = n2) :
    Calls Tryz.prog 52 #[.int .u8 mark, .slice (some ⟨w1.heap.size, 0, none⟩) 2 2] (w1.alloc (.cells #[.slice A1 n1 c1, .slice A2 n2 c2] 22)) fun e w' => ∃ v, e = .returned v ∧ Row8 w' w.heap.size v (mdigM mark [x1, x2]) ∧ Below w.heap.size w w' := by
  subst e1 e2
  have hba := below_alloc (Below.refl w1.heap.size w1) (.cells #[.slice A1 x1.length c1, .slice A2 x2.length c2] 22)
  have h2 := C_two (heap_alloc_new w1 (.cells #[.slice A1 x1.length c1, .slice A2 x2.length c2] 22)) rfl rfl l1 (Kd.C_below C1 hba) l2 (Kd.C_below C2 hba)
  have hbw : Below w.heap.size w (w1.alloc (.cells #[.slice A1 x1.length c1, .slice A2 x2.length c2] 22)) := below_alloc hb1 _
  have hd := mdigest_calls (L := [x1, x2]) (c := 2) (hg.below hbw) mark h2 (by simp) (by simp [totL]; omega) (by simp)
  refine hd.mono ?_
  rintro e w' ⟨v, rfl, hv, hbv⟩
  exact ⟨v, rfl, hv.lower hbw.size, Upd.below (F := fun _ => False) ((Upd.of_below (F := fun _ => False) hbw).trans (Upd.of_below (F := fun _ => False) hbv) (fun _ h => .inl h)) (fun _ h => h.elim)⟩
set_option maxHeartbeats 8000000 in
theorem Root1_calls (hg0 : Glob w) (hL : Kd.C (Kd.slice 5 (Kd.int .u8)) w A 1 [x]) (hc : 1 ≤ c) (hx : x.length = 32) : Calls Tryz.prog 46 #[.slice A 1 c] w fun e w' => ∃ v y, e = .returned (.tuple #[v, .int .i64 0]) ∧ y.length = 32 ∧ Row8 w' w.heap.size v y ∧ Below w.heap.size w w' := by
  have hg := Aside0.mk hg0
  have HL := Aside0.mk hL
  have HLV := Aside0.mk (show Calls Tryz.prog 54 #[.slice A 1 c] w fun e w' => e = .returned (.int .i64 0) ∧ Drawn0 w w' from P.merkle_leaves.calls 5 A c [x] 0 w hL hc (leaves1 hx))
  have HX := Aside0.mk hx
  have hbb := fun (A1 : Option Addr) (n1 c1 : Nat) (A2 : Option Addr) (n2 c2 : Nat) (W : World) => build87 (A1, n1, c1) (A2, n2, c2) W
  clear hg0 hL hx
  go_enter Tryz.func46, Tryz.ntmps46
  go_wp2_with (first
    | (go_at_call 54; (with_reducible refine HLV.out.mono ?_); rintro e w1 ⟨rfl, m1, rfl⟩)
    | (go_at_call 53; (with_reducible refine (eight_calls).mono ?_); rintro e w2 ⟨v1, x8, rfl, hx8, hr1, hb1⟩; obtain ⟨A1, c1, rfl⟩ := Kd.R_slice hr1; have HR1 := Aside0.mk (Kd.R_reads' hr1); have HX8 := Aside0.mk hx8; have HB1 := Aside0.mk (show Below w.heap.size w w2 from ⟨hb1.os, hb1.tape, hb1.output, hb1.size, hb1.block⟩); rw [hx8]; clear hr1 hb1 hx8)
    | (go_at_call 55; (with_reducible refine (top1_calls (Kd.C_below HL.out HB1.out) hc).mono ?_); rintro e w3 ⟨⟨A2, c2, rfl, hl2, hC2⟩, rfl⟩; rw [HX.out]; have HDG := Aside0.mk (two_dig 2 hg.out HB1.out (by have h := HR1.out.2.2; exact h) HR1.out.2.1 hC2 hl2 (by rw [HX8.out, HX.out]; decide) HX8.out HX.out); clear hl2 hC2)
    | (go_at_call 52; (with_reducible refine HDG.out.mono ?_); rintro e w4 ⟨v4, rfl, hr4, hb4⟩; have HR4 := Aside0.mk hr4; have HB4 := Aside0.mk hb4; clear hr4 hb4))
  refine bodyPost_ret (results_tmp2 rfl _ _ _) rfl ?_
  exact ⟨v4, _, rfl, mdigM_length _ _, HR4.out, HB4.out⟩

end Go.Proofs.YtfpfnolpoklefaaGreatDoor.Sh
/- Package merkle: Cut of 64 bytes into one chunk. -/
namespace Go.Proofs.YtfpfnolpoklefaaGreatDoor.Sh
open Go.Proofs.YtfpfnolpoklefaaGreatDoor.Dk
open Go.RowKit Go.Proofs.YtfpfnolpoklefaaGreatDoorW.PrintWords Go.Proofs.YtfpfnolpoklefaaGreatDoorW.PrintLast Go.Proofs.YtfpfnolpoklefaaGreatDoorW.PrintMore
set_option linter.unusedVariables false
set_option linter.unusedSimpArgs false
set_option maxRecDepth 30000
variable {w w0 w1 w2 wr : World} {g c : Nat} {A : Option Addr} {b : List Int}
theorem count64 (w : World) : Calls Tryz.prog 35 #[.int .i64 64, .int .i64 64] w fun e w' => e = .returned (.tuple #[.int .i64 1, .int .i64 0]) ∧ Drawn0 w w' := by
  have h := Lo.count_calls (w := w) 64 64
  rwa [show (if Lo.countE 64 64 = 0 then Lo.countN 64 64 else 0) = 1 by decide, show Lo.countE 64 64 = 0 by decide] at h
theorem build_one (A : Option Addr) (n c : Nat) (w : World) : (Instr.buildSlice 87 1 #[(0, .slice A n c)]).run Tryz.prog w = .ok (.slice (some ⟨w.heap.size, 0, none⟩) 1 1) (w.alloc (.cells #[.slice A n c] 22)) := by kernel_rfl
theorem C_came {α : Type} {d : Kd α} {w : World} {A : Option Addr} {n : Nat} {xs : List α} (hd : Kd.Heap d) (h : d.C w A n xs) : Kd.F d w (fun k => k < w.heap.size) A n xs := fun W' hW => hd.C (fun k hk => hW k hk hk) h
theorem info22 : (Tryz.prog.info? 22).map (fun i => (i.zero, i.size, i.bytes)) = some (some (.slice none 0 0), 1, 24) := by kernel_rfl
abbrev kT : Kd (List Int) := Kd.slice 5 (Kd.int .u8)
/-- A text of one's own, as an element. -/
theorem FK_text {W : World} {A : Option Addr} {x : List Int} {n c : Nat} (hC : C8 W A x) (hn : x.length = n) (hc : n ≤ c) : Kd.FK kT W (fun k => k < W.heap.size) x [.slice A n c] := by
  subst hn
  exact Kd.FK_slice_mk hc (C_came (Kd.heap_int .u8) hC)
/-- append(nil, x) for a text x: one text is read. -/
theorem appT {P : Program} {ops : Array Oper} {o : Oper} {rest : List Oper} {a : Act} {W w0 : World} {Q : Exit → Act → World → Prop} {q n c : Nat} {A : Option Addr} {b : List Int} {N : Option Tmp}
    (hi : (P.info? 22).map (fun i => (i.zero, i.size, i.bytes)) = some (some (.slice none 0 0), 1, 24)) (ht : P.underlying 87 = some (.slice 22)) (hN : o.dst = N) (hgd : o.guard = none) (s x : Operand) (ho : o.op = .call { callee := .builtin .append, args := #[s, x], argTypes := #[87, 87] })
    (hs : a.eval s = .slice none 0 0) (hx : a.eval x = .slice (some ⟨W.heap.size, 0, none⟩) 1 1) (hC : C8 W A b) (hn : b.length = n) (hc : n ≤ c) (HB : Below q w0 W) (hq : q ≤ W.heap.size)
    (h : ∀ A1 c1 w1, 1 ≤ c1 → Kd.C kT w1 A1 1 [b] → Below q w0 w1 → wpList P ops Q rest (a.put N (.slice A1 1 c1)) w1) : wpList P ops Q (o :: rest) a (W.alloc (.cells #[.slice A n c] 22)) := by
  subst hN
  refine Kd.N_append kT (w0 := w0) q hgd s x 87 22 (.slice none 0 0) 24 ho ht hi rfl (by decide) (by decide) (.slice none 0 0) [] b [.slice A n c] (fun _ => True) (fun k => k < W.heap.size) hs hx (FK_text hC hn hc) (fun k _ => ⟨trivial, by simp [Value.ownBlock]⟩) (fun _ _ => trivial) (Kd.N_nil _ _ _ _ _) HB hq (by decide) ?_
  intro v1 w1 hN hb hg hat
  obtain ⟨A1, c1, rfl, h1, h2⟩ := Kd.N_reads hN
  exact h A1 c1 w1 h1 h2 hb
set_option maxHeartbeats 8000000 in
theorem Cut1_calls (hC0 : C8 w A b) (hl : b.length = 64) (hc : 64 ≤ c) : Calls Tryz.prog 44 #[.slice A 64 c, .int .i64 64] w fun e w' => ∃ A1 c1, e = .returned (.tuple #[.slice A1 1 c1, .int .i64 0]) ∧ 1 ≤ c1 ∧ Kd.C kT w' A1 1 [b] ∧ Below w.heap.size w w' := by
  obtain ⟨ad, rfl, _⟩ := hC0.2.2 (by omega)
  have HC := Aside0.mk (show ∀ m, Kd.C (Kd.int .u8) (w.drewN m) (some ad) 64 b from fun m => by
    have := Kd.C_below hC0 (pw_below_drewN (Below.refl _ _) m)
    rwa [hl] at this)
  have HBD := Aside0.mk (show ∀ m, Below w.heap.size w (w.drewN m) from fun m => pw_below_drewN (Below.refl _ _) m)
  have HSZ := Aside0.mk (show ∀ m, (w.drewN m).heap.size = w.heap.size from fun m => Nat.le_antisymm (by simp) (HBD.out m).size)
  have HL := Aside0.mk hl
  have hbb := fun (A1 : Option Addr) (n1 c1 : Nat) (W : World) => build_one A1 n1 c1 W
  clear hC0 hl
  go_enter Tryz.func44, Tryz.ntmps44
  go_wp2_with (first | (go_at_call 35; (with_reducible refine (count64 w).mono ?_); rintro e w1 ⟨rfl, m1, rfl⟩))
  refine wp_loop_rounds 2 ?_
  rw [rounds_succ]
  go_wp2_with (first
    | ((with_reducible refine gate_builtin (b := .append) (xs := #[.const (.slice none 0 0), .tmp 37]) rfl ?_); at_builtin; refine app8 (q := (w.drewN m1).heap.size) info5 Tryz.underlying22 rfl (.const (.slice none 0 0)) (.tmp 37) rfl _ [] b _ _ _ rfl rfl (Row8.nil _ _) (HC.out m1) ?aQ ?aL ?_; (case aQ => exact Nat.le_refl _); (case aL => simp); intro A2 c2 w2 hr2 hb2 _; rw [List.nil_append] at hr2 ⊢; rw [HL.out] at ⊢; have HR2 := Aside0.mk (Kd.R_reads' hr2); have HB2 := Aside0.mk (below_trans (HBD.out m1) hb2); clear hr2 hb2)
    | ((with_reducible refine gate_builtin (b := .append) (xs := #[.tmp 28, .tmp 39]) rfl ?_); at_builtin; refine appT (w0 := w) (q := w.heap.size) info22 Tryz.underlying87 rfl rfl (.tmp 28) (.tmp 39) rfl rfl rfl HR2.out.2.2 HL.out (by have := HR2.out.2.1; rw [HL.out] at this; exact this) HB2.out HB2.out.size ?_; intro A3 c3 w3 hc3 hC3 hb3; have HC3 := Aside0.mk hC3; have HB3 := Aside0.mk hb3; clear hC3 hb3))
  rw [rounds_succ]
  go_wp2_with (fail)
  refine bodyPost_ret (results_tmp2 rfl _ _ _) rfl ?_
  exact ⟨A3, c3, rfl, hc3, HC3.out, HB3.out⟩
end Go.Proofs.YtfpfnolpoklefaaGreatDoor.Sh
/- Package merkle: Of of 64 bytes in one chunk: 32 bytes come. -/
namespace Go.Proofs.YtfpfnolpoklefaaGreatDoor.Sh
open Go.Proofs.YtfpfnolpoklefaaGreatDoor.Dk
open Go.RowKit Go.Proofs.YtfpfnolpoklefaaGreatDoorW.PrintWords Go.Proofs.YtfpfnolpoklefaaGreatDoorW.PrintLast Go.Proofs.YtfpfnolpoklefaaGreatDoorW.PrintMore
set_option linter.unusedVariables false
set_option linter.unusedSimpArgs false
set_option maxRecDepth 30000
variable {w w0 w1 w2 wr : World} {g c : Nat} {A : Option Addr} {b : List Int}
theorem leaf64 (hg : Glob w) (hC : C8 w A b) (hl : b.length = 64) (hc : 64 ≤ c) : Calls Tryz.prog 45 #[.int .i64 0, .slice A 64 c] w fun e w' => ∃ A1 c1 x, e = .returned (.tuple #[.slice A1 32 c1, .int .i64 0]) ∧ 32 ≤ c1 ∧ x.length = 32 ∧ C8 w' A1 x ∧ Below w.heap.size w w' := by
  have h := Leaf_calls (n := 0) hg (Int.le_refl _) hC (by omega) (by omega) (c := c)
  rw [hl] at h
  refine h.mono ?_
  rintro e w' ⟨v, x, rfl, hr, hb⟩
  obtain ⟨A1, c1, rfl⟩ := Kd.R_slice hr
  have hr2 := Kd.R_reads' hr
  have hl2 : (mdigM 0 [x, b]).length = 32 := mdigM_length _ _
  refine ⟨A1, c1, mdigM 0 [x, b], by rw [hl2], by rw [← hl2]; exact hr2.2.1, hl2, hr2.2.2, hb⟩
theorem cell_one (hC : Kd.C kT w A 1 [b]) : ∃ ad A0 c0, A = some ad ∧ w.cell? ad = some (.slice A0 b.length c0) ∧ b.length ≤ c0 ∧ C8 w A0 b := by
  obtain ⟨ad, A0, c0, rfl, hcw, hl0, hC0⟩ := P.at_L1 hC (0 : Int) (by decide) (by decide)
  have hx : P.rd_L1 [b] 0 = b := rfl
  rw [hx] at hcw hl0 hC0
  exact ⟨ad, A0, c0, rfl, by simpa [Addr.add] using hcw, hl0, hC0⟩
set_option maxHeartbeats 8000000 in
theorem Of1_calls (hg0 : Glob w) (hC0 : C8 w A b) (hl : b.length = 64) (hc : 64 ≤ c) : Calls Tryz.prog 29 #[.slice A 64 c, .int .i64 64] w fun e w' => ∃ A1 c1 x, e = .returned (.tuple #[.slice A1 32 c1, .int .i64 0]) ∧ 32 ≤ c1 ∧ x.length = 32 ∧ C8 w' A1 x ∧ Below w.heap.size w w' := by
  have HG := Aside0.mk hg0
  have HL := Aside0.mk hl
  have HCT := Aside0.mk (Cut1_calls hC0 hl hc)
  have hbb := fun (A1 : Option Addr) (n1 c1 : Nat) (W : World) => build_one A1 n1 c1 W
  clear hC0 hl hg0
  go_enter Tryz.func29, Tryz.ntmps29
  go_wp2_with (first | (go_at_call 44; (with_reducible refine HCT.out.mono ?_); rintro e w1 ⟨A1, c1, rfl, hc1, hC1, hb1⟩; obtain ⟨ad, A0, c0, rfl, hcw, hl0, hC0⟩ := cell_one hC1; rw [HL.out] at hcw hl0; have HB1 := Aside0.mk hb1; have HLF := Aside0.mk (leaf64 (HG.out.below hb1) hC0 HL.out hl0); clear hC1 hb1 hC0 hl0))
  refine wp_loop_rounds 2 ?_
  rw [rounds_succ]
  go_wp2_with (first
    | (go_at_call 45; (with_reducible refine HLF.out.mono ?_); rintro e w2 ⟨A2, c2, x, rfl, hc2, hx2, hC2, hb2⟩; have HC2 := Aside0.mk hC2; have HX := Aside0.mk hx2; have HB2 := Aside0.mk (below_trans HB1.out hb2); clear hC2 hx2 hb2)
    | ((with_reducible refine gate_builtin (b := .append) (xs := #[.tmp 35, .tmp 37]) rfl ?_); at_builtin; refine appT (w0 := w) (q := w.heap.size) info22 Tryz.underlying87 rfl rfl (.tmp 35) (.tmp 37) rfl rfl rfl HC2.out HX.out hc2 HB2.out HB2.out.size ?_; intro A3 c3 w3 hc3 hC3 hb3; have HB3 := Aside0.mk hb3; have HRT := Aside0.mk (Root1_calls (HG.out.below hb3) hC3 hc3 HX.out); clear hC3 hb3))
  rw [rounds_succ]
  go_wp2_with (first | (go_at_call 46; (with_reducible refine HRT.out.mono ?_); rintro e w4 ⟨v4, y, rfl, hy, hr4, hb4⟩; have HY := Aside0.mk hy; have HR4 := Aside0.mk hr4; have HB4 := Aside0.mk (below_trans HB3.out hb4); clear hy hr4 hb4))
  refine bodyPost_ret (results_tmp2 rfl _ _ _) rfl ?_
  obtain ⟨A4, c4, rfl⟩ := Kd.R_slice HR4.out
  have hr := Kd.R_reads' HR4.out
  exact ⟨A4, c4, y, by rw [HY.out] <;> rfl, by rw [← HY.out]; exact hr.2.1, HY.out, hr.2.2, HB4.out⟩
end Go.Proofs.YtfpfnolpoklefaaGreatDoor.Sh
/- Package slots: Holds of 64 bytes, where the record has no root: ErrHash. -/
namespace Go.Proofs.YtfpfnolpoklefaaGreatDoor.Lo
open Go.Proofs.YtfpfnolpoklefaaGreatDoor.Dk
open Go.RowKit Go.Proofs.YtfpfnolpoklefaaGreatDoorW.PrintWords Go.Proofs.YtfpfnolpoklefaaGreatDoorW.PrintLast Go.Proofs.YtfpfnolpoklefaaGreatDoorW.PrintMore
set_option linter.unusedVariables false
set_option linter.unusedSimpArgs false
set_option maxRecDepth 30000
variable {w w0 w1 w2 wr : World} {slot z ch : Int} {sv : Value} {E : Int}
theorem eq_nil {W : World} {A : Option Addr} {c : Nat} {y : List Int} (hy : y.length = 32) (hc : 32 ≤ c) (hC : C8 W A y) : Calls Tryz.prog 30 #[.slice A 32 c, .slice none 0 0] W fun e w' => e = .returned (.bool false) ∧ Drawn0 W w' := by
  have h := P.bytes_Equal.calls A c y none 0 [] false W hC (by omega) (Kd.C_nil _ _) (Nat.zero_le _) (by
    unfold P.bytes_Equal.f
    match y, hy with
    | a :: l, _ => rw [ByteArray.toList_eq, ByteArray.toList_eq]; rfl)
  rwa [hy] at h
set_option maxHeartbeats 8000000 in
theorem holds_hash (hg0 : Sh.Glob w) (ver exp : Int) (HG : ∀ W, Below w.heap.size w W → Calls Tryz.prog 7 #[sv, .int .i64 slot, .int .i64 64] W fun e w' => ∃ A c b, e = .returned (.tuple #[.slice A 64 c, .int .i64 0]) ∧ 64 ≤ c ∧ b.length = 64 ∧ C8 w' A b ∧ Below W.heap.size W w') :
    Calls Tryz.prog 8 #[sv, .int .i64 slot, Tgt ver exp 64 64 none 0 0] w fun e w' => e = .returned (.tuple #[.agg #[.slice none 0 0, .slice none 0 0], .int .i64 84]) ∧ Below w.heap.size w w' := by
  have HGG := Aside0.mk HG
  have HGL := Aside0.mk hg0
  clear HG hg0
  unfold Tgt
  go_enter Tryz.func8, Tryz.ntmps8
  go_wp2_with (first
    | (go_at_call 7; (with_reducible refine (HGG.out _ (below_alloc (below_alloc (Below.refl w.heap.size w) _) _)).mono ?_); rintro e w1 ⟨A, c, b, rfl, hc, hb, hC, hb1⟩; have HB1 := Aside0.mk (below_trans (below_alloc (below_alloc (Below.refl w.heap.size w) _) _) hb1); have HBK := Aside0.mk (vocab_blk _ hb1); have HBT := Aside0.mk (blk_below (blk_below (heap_alloc_new w _) (below_alloc (Below.refl _ _) _)) hb1); have ht3 := cellB HBT.out 3 _ rfl; have ht4 := cellB HBT.out 4 _ rfl; have HOF := Aside0.mk (Sh.Of1_calls (HGL.out.below HB1.out) hC hb hc); clear hb1 hC hb)
    | (go_at_call 29; (with_reducible refine HOF.out.mono ?_); rintro e w2 ⟨A2, c2, y, rfl, hc2, hy, hC2, hb2⟩; have HB2 := Aside0.mk (below_trans HB1.out hb2); have HBK2 := Aside0.mk (blk_below HBK.out hb2); have hs4 := cellB (blk_below HBT.out hb2) 4 _ rfl; have HEQ := Aside0.mk (eq_nil hy hc2 hC2); clear hb2 hC2 hy)
    | (go_at_call 30; (with_reducible refine HEQ.out.mono ?_); rintro e w3 ⟨rfl, m3, rfl⟩; have HB3 := Aside0.mk (below_trans HB2.out (pw_below_drewN (Below.refl _ _) m3)); have HBK3 := Aside0.mk (blk_below HBK2.out (pw_below_drewN (Below.refl _ _) m3)); have hv0 := cellB HBK3.out 0 _ rfl; have hv1 := cellB HBK3.out 1 _ rfl; have hf0 := blk_frozen HBK3.out 0; have hf1 := blk_frozen HBK3.out 1))
  refine bodyPost_ret (results_ct rfl _ _ (w.heap.size + 1) 32 _ (0, 0) _ rfl (setCell_blk (setCell_blk HBK3.out 0 (.slice none 0 0)) 1 (.slice none 0 0)) Tryz.underlying32 rfl (by kernel_rfl)) rfl ?_
  exact ⟨rfl, (HB3.out.setCell (p := ⟨w.heap.size + 1, 0, none⟩) (Nat.le_succ _) _).setCell (p := ⟨w.heap.size + 1, 1, none⟩) (Nat.le_succ _) _⟩
end Go.Proofs.YtfpfnolpoklefaaGreatDoor.Lo
/- Slots of a law's own: the state, the calls on it; plain facts of Put. -/
namespace Go.Proofs.YtfpfnolpoklefaaGreatDoor.Lo
open Go.Proofs.YtfpfnolpoklefaaGreatDoor.Dk
open Go.RowKit Go.Proofs.YtfpfnolpoklefaaGreatDoorW.PrintWords Go.Proofs.YtfpfnolpoklefaaGreatDoorW.PrintLast Go.Proofs.YtfpfnolpoklefaaGreatDoorW.PrintMore
set_option linter.unusedVariables false
set_option linter.unusedSimpArgs false
set_option maxRecDepth 30000
variable {w0 w w' W W' w1 w2 : World} {B s g : Nat} {F F' : Nat → Prop} {D D' : DM} {fr n slot z ch pl q : Int} {v : Value} {xs x b y : List Int} {A : Option Addr} {c m at' o : Nat}
theorem lputF_hs : ∀ (m : Nat) (D : DM) (at' : Nat) (b : List Int), (lputF m D q at' b).1.held.length ≤ D.held.length + m ∧ (lputF m D q at' b).1.sec.length = D.sec.length
  | 0, _, _, _ => ⟨Nat.le_refl _, rfl⟩
  | m + 1, D, at', b => by
    unfold lputF
    have hw := writeM_hs (D := D) (q + (at' / 64 : Nat)) (lseg (readM D (q + (at' / 64 : Nat))) b (at' % 64))
    split
    · exact ⟨by have := (flushM_hs (D := D)).1; omega, (flushM_hs (D := D)).2⟩
    · split
      · exact ⟨by dsimp only; omega, rfl⟩
      · split
        · exact ⟨by omega, hw.2⟩
        · have := lputF_hs m (writeM D (q + (at' / 64 : Nat)) (lseg (readM D (q + (at' / 64 : Nat))) b (at' % 64))).1 (at' + lstep b at') (b.drop (lstep b at'))
          exact ⟨by omega, this.2.trans hw.2⟩
theorem lputF_ok : ∀ (m : Nat) (D : DM) (at' : Nat) (b : List Int), DOk D → D.held.length + m ≤ 10000000 → DOk (lputF m D q at' b).1
  | 0, _, _, _, h, _ => h
  | m + 1, D, at', b, h, hm => by
    unfold lputF
    have hw := writeM_hs (D := D) (q + (at' / 64 : Nat)) (lseg (readM D (q + (at' / 64 : Nat))) b (at' % 64))
    have ho := writeM_ok (k := q + (at' / 64 : Nat)) (x := lseg (readM D (q + (at' / 64 : Nat))) b (at' % 64)) h (by omega)
    split
    · exact flushM_ok h
    · split
      · exact h
      · split
        · exact ho
        · exact lputF_ok m _ _ _ ho (by omega)
theorem lPutM_hs : (lPutM D fr n slot z ch pl b).1.held.length ≤ D.held.length + (b.length + 1) ∧ (lPutM D fr n slot z ch pl b).1.sec.length = D.sec.length := by
  unfold lPutM
  split
  · exact ⟨by dsimp only; omega, rfl⟩
  · split
    · exact ⟨by dsimp only; omega, rfl⟩
    · split
      · exact ⟨by dsimp only; omega, rfl⟩
      · exact lputF_hs _ _ _ _
theorem lPutM_ok (hd : DOk D) (hn : D.held.length + (b.length + 1) ≤ 10000000) : DOk (lPutM D fr n slot z ch pl b).1 := by
  unfold lPutM
  split
  · exact hd
  · split
    · exact hd
    · split
      · exact hd
      · exact lputF_ok _ _ _ _ hd hn
theorem LOk.dm (hk : LOk D fr n) (h : DOk D') (hl : D'.sec.length = D.sec.length) : LOk D' fr n := ⟨h, hk.hf, hk.hn, by rw [hl]; exact hk.hl, by rw [hl]; exact hk.hz⟩
theorem piece_self (h : o + y.length ≤ x.length) : piece (over x o y) o y.length = y := by
  unfold piece
  apply List.ext_getElem?
  intro i
  rw [List.getElem?_take]
  by_cases hi : i < y.length
  · rw [if_pos hi, List.getElem?_drop, over_get h, if_neg (by omega), if_pos (by omega)]
    congr 1
    omega
  · rw [if_neg hi, List.getElem?_eq_none (by omega)]
/-- A Put on a calm disk: refused, and nothing is changed; or it is there. -/
inductive Put2 (D D' : DM) (fr n slot z ch pl : Int) (b : List Int) (e : Int) : Prop where
  | no (he : e ≠ 0) (hd : D' = D)
  | yes (he : e = 0) (q : Nat) (hq : fr + slot * n = (q : Int)) (at' : Nat) (ha : pl * ch = (at' : Int)) (hz : pl * ch + b.length ≤ z) (hb : (b.length : Int) = min ch (z - pl * ch)) (hc : countE z ch = 0) (h0 : 0 ≤ pl) (h1 : pl < countN z ch) (hr : lreadyM D n slot z = 0) (ho : Over D D' (64 * q + at') b)
theorem calm_lPut (hc : Dk.Calm D) (h6 : Six D) (hk : LOk D fr n) (hh : D.held.length + b.length ≤ 9000000) : Put2 D (lPutM D fr n slot z ch pl b).1 fr n slot z ch pl b (lPutM D fr n slot z ch pl b).2 := by
  unfold lPutM
  split
  · rename_i h
    exact .no h rfl
  · rename_i h
    have hr : lreadyM D n slot z = 0 := by simpa using h
    split
    · exact .no (show (1 : Int) ≠ 0 by decide) rfl
    · rename_i h2
      split
      · exact .no (show (1 : Int) ≠ 0 by decide) rfl
      · rename_i h3
        have hce : countE z ch = 0 := by
          rcases Classical.em (countE z ch = 0) with h | h
          · exact h
          · exact absurd (.inl h) h2
        have hp0 : 0 ≤ pl := by
          rcases Int.lt_or_le pl 0 with h | h
          · exact absurd (.inr (.inl h)) h2
          · exact h
        have hp1 : pl < countN z ch := by
          rcases Int.lt_or_le pl (countN z ch) with h | h
          · exact h
          · exact absurd (.inr (.inr h)) h2
        have hb : (b.length : Int) = min ch (z - pl * ch) := by simpa using h3
        obtain ⟨r1, r2, r3⟩ := lready_zero hr
        obtain ⟨c1, c2, c3, c4⟩ := count_zero hce
        obtain ⟨p1, p2⟩ := place_le hce hp0 hp1
        have hl := hk.hl
        have hn := hk.hn
        have hf := hk.hf
        obtain ⟨qn, hq⟩ : ∃ qn : Nat, fr + slot * n = (qn : Int) := ⟨(fr + slot * n).toNat, by rcases r2 with rfl | rfl <;> omega⟩
        obtain ⟨an, ha⟩ : ∃ an : Nat, pl * ch = (an : Int) := ⟨(pl * ch).toNat, by omega⟩
        have hqn : (qn : Int) + n ≤ (D.sec.length : Int) := by rcases r2 with rfl | rfl <;> omega
        have hzz : pl * ch + b.length ≤ z := by omega
        rw [hq, ha, Int.toNat_natCast]
        obtain ⟨e1, e2⟩ := calm_lput (qn := qn) (at' := an) (b := b) hc h6 hk.d (by omega) hh
        exact .yes e1 qn hq an ha hzz hb hce hp0 hp1 hr e2
/-- Slots of the law's own, younger than w0. -/
structure Ls (w0 w : World) (s g : Nat) (F : Nat → Prop) (D : DM) (fr n : Int) : Prop where
  S : LAt w w0.heap.size s g F D fr n
  K : LOk D fr n
  G : Sh.Glob w0
  b : Below w0.heap.size w0 w
theorem Ls.glob (h : Ls w0 w s g F D fr n) : Sh.Glob w := h.G.below h.b
theorem Ls.below (h : Ls w0 w s g F D fr n) (hb : Below w.heap.size w w') : Ls w0 w' s g F D fr n := ⟨h.S.below hb, h.K, h.G, below_trans h.b hb⟩
theorem Ls.st (h : Ls w0 w s g F D fr n) : St w0 w g F D := ⟨h.S.d, h.b⟩
/-- Rows of bytes that were there, and are no blocks of the disk's. -/
def Keeps (w w' : World) (F F' : Nat → Prop) : Prop := (∀ A xs, (C8 w A xs ∧ ∀ a, A = some a → a.block < w.heap.size ∧ ¬ F a.block) → C8 w' A xs ∧ ∀ a, A = some a → a.block < w'.heap.size ∧ ¬ F' a.block) ∧ (∀ v xs, Row w F v xs → Row w' F' v xs)
theorem Keeps.of (hF : ∀ k, F' k → F k ∨ w.heap.size ≤ k) (hu : Upd w w' F) : Keeps w w' F F' :=
  ⟨fun A xs ⟨h1, h2⟩ => ⟨h1.upd hu h2, fun a ha => ⟨Nat.lt_of_lt_of_le (h2 a ha).1 hu.size, fun hf => by
    have := h2 a ha
    rcases hF _ hf with h | h
    · exact this.2 h
    · omega⟩⟩, fun v xs h => h.post hF hu⟩
def LsPo (w0 w w' : World) (s g : Nat) (F : Nat → Prop) (D' : DM) (fr n : Int) : Prop := ∃ F', Ls w0 w' s g F' D' fr n ∧ Keeps w w' F F' ∧ (∀ k, F' k → F k ∨ w.heap.size ≤ k) ∧ Upd w w' F
theorem Ls.po (h : Ls w0 w s g F D fr n) (hk : LOk D' fr n) (hp : LPo w w' w0.heap.size s g F D' fr n) : LsPo w0 w w' s g F D' fr n := by
  obtain ⟨F', hF, hs, hu⟩ := hp
  exact ⟨F', ⟨hs, hk, h.G, below_upd h.b hu h.S.d.lo⟩, .of hF hu, hF, hu⟩
theorem Ls.dpo (h : Ls w0 w s g F D fr n) (hk : LOk D' fr n) (hp : DPost w w' w0.heap.size g F D') : LsPo w0 w w' s g F D' fr n := h.po hk (h.S.post hp)
theorem lsGet (h : Ls w0 w s g F D fr n) : Calls Tryz.prog 7 #[.pointer (some ⟨s, 0, none⟩), .int .i64 slot, .int .i64 z] w fun e w' => ∃ A c, e = .returned (.tuple #[.slice A (lGetR D fr n slot z).length c, .int .i64 (lGetE D n slot z)]) ∧ (lGetR D fr n slot z).length ≤ c ∧ Fr8 w w' A (lGetR D fr n slot z) ∧ Below w.heap.size w w' := Get_calls h.S h.K
theorem lsRoom (h : Ls w0 w s g F D fr n) : Calls Tryz.prog 12 #[.pointer (some ⟨s, 0, none⟩)] w fun e w' => e = .returned (.int .i64 (64 * n)) ∧ w = w' := room_calls h.S h.K
theorem lsPut (h : Ls w0 w s g F D fr n) (ver exp : Int) (Ar : Option Addr) (nr cr : Nat) (hh : D.held.length + b.length ≤ 9000000) (hc : b.length ≤ c) (hC : ∀ W, Upd w W F → C8 W A b) :
    Calls Tryz.prog 13 #[.pointer (some ⟨s, 0, none⟩), .int .i64 slot, Tgt ver exp z ch Ar nr cr, .int .i64 pl, .slice A b.length c] w fun e w' => e = .returned (.int .i64 (lPutM D fr n slot z ch pl b).2) ∧ LsPo w0 w w' s g F (lPutM D fr n slot z ch pl b).1 fr n :=
  (Put_calls h.S h.K ver exp Ar nr cr hh hc hC h.b.size (fun k hk => ⟨h.S.d.lo k hk, disk_hi h.S.d k hk⟩)).mono fun e w' ⟨he, hp⟩ => ⟨he, h.po (h.K.dm (lPutM_ok h.K.d (by omega)) lPutM_hs.2) hp⟩
end Go.Proofs.YtfpfnolpoklefaaGreatDoor.Lo
/- What the law of slots knows: fixed calls. -/
namespace Go.Proofs.YtfpfnolpoklefaaGreatDoor.Lo
open Go.Proofs.YtfpfnolpoklefaaGreatDoor.Dk
open Go.RowKit Go.Proofs.YtfpfnolpoklefaaGreatDoorW.PrintWords Go.Proofs.YtfpfnolpoklefaaGreatDoorW.PrintLast Go.Proofs.YtfpfnolpoklefaaGreatDoorW.PrintMore
set_option linter.unusedVariables false
set_option linter.unusedSimpArgs false
set_option maxRecDepth 30000
variable {w0 w w' W W' w1 w2 : World} {B s g : Nat} {F F' : Nat → Prop} {D D' : DM} {fr n slot z ch pl q : Int} {v : Value} {xs x b y : List Int} {A : Option Addr} {c m at' o : Nat}
theorem newM_len (x : List Int) (n : Nat) : (newM x n n).sec.length = n := secTo_length x n n (Nat.le_refl _)
theorem newM_calm (x : List Int) (n : Nat) : Dk.Calm (newM x n n) := ⟨rfl, rfl⟩
theorem newM_six (x : List Int) (n : Nat) : Six (newM x n n) := by
  refine ⟨fun i hi => ?_, fun i hi => absurd hi (by simp [newM])⟩
  rw [newM_len] at hi
  show ((secTo x n n).getD i []).length = 64
  unfold secTo
  rw [Nat.sub_self, List.replicate_zero, List.append_nil, List.getD_eq_getElem?_getD, List.getElem?_map, List.getElem?_range hi]
  exact secAt_length x i
theorem newM_bytes (x : List Int) (n : Nat) : bytesM (newM x n n) = flatR (newM x n n) (newM x n n).sec.length := (flat_bytes rfl _).symm
def lS : List Int := (List.replicate 64 0).set 5 9
def lD0 : DM := newM [] 2 2
def lD1 : DM := (lPutM lD0 0 1 1 64 64 0 lS).1
theorem lS_len : lS.length = 64 := by decide
theorem lD0_len : lD0.sec.length = 2 := newM_len [] 2
theorem lD0_ok : LOk lD0 0 1 := ⟨newM_ok [] 2 (by decide), by decide, by decide, by rw [lD0_len]; decide, by rw [lD0_len]; decide⟩
theorem lP1 : (lPutM lD0 0 1 1 64 64 0 lS).2 = 0 ∧ Over lD0 lD1 64 lS := by
  have h := calm_lPut (slot := 1) (z := 64) (ch := 64) (pl := 0) (b := lS) (newM_calm [] 2) (newM_six [] 2) lD0_ok (by rw [lS_len]; show 0 + 64 ≤ 9000000; decide)
  have hr : lreadyM lD0 1 1 64 = 0 := by decide
  rw [show newM [] 2 2 = lD0 from rfl] at h
  rcases h with ⟨he, hd⟩ | ⟨he, q, hq, at', ha, _, _, _, _, _, _, ho⟩
  · exfalso
    apply he
    have e : lPutM lD0 0 1 1 64 64 0 lS = lputM lD0 (0 + 1 * 1) ((0 : Int) * 64).toNat lS := by
      unfold lPutM
      rw [if_neg (by rw [hr]; decide), if_neg (by decide), if_neg (by rw [lS_len]; decide)]
    have h2 := calm_lput (D := lD0) (qn := 1) (at' := 0) (b := lS) (newM_calm [] 2) (newM_six [] 2) lD0_ok.d (by rw [lS_len, lD0_len]; decide) (by rw [lS_len]; show 0 + 64 ≤ 9000000; decide)
    have h3 := h2.1
    rw [show (0 : Int) + 1 * 1 = ((1 : Nat) : Int) by decide, show ((0 : Int) * 64).toNat = 0 by decide] at e
    rw [e]
    exact h3
  · obtain rfl : q = 1 := by omega
    obtain rfl : at' = 0 := by omega
    exact ⟨he, ho⟩
theorem lD1_ok : LOk lD1 0 1 := lD0_ok.dm lP1.2.ok lP1.2.len
theorem lG1 : lGetE lD1 1 1 64 = 0 ∧ lGetR lD1 0 1 1 64 = lS := by
  have hr : lreadyM lD1 1 1 64 = 0 := by
    unfold lreadyM
    rw [if_neg (by rw [lP1.2.calm.down]; decide), if_neg (by decide)]
  have he : lGetE lD1 1 1 64 = 0 := by
    unfold lGetE
    rw [if_neg (by rw [hr]; decide), if_neg (by decide)]
  refine ⟨he, ?_⟩
  rw [getR_piece (q := 1) lP1.2.six lD1_ok he (by decide), lP1.2.flat, show 64 * 1 = 64 by decide, show (64 : Int).toNat = lS.length by rw [lS_len]; rfl]
  exact piece_self (by rw [lS_len, flat_length (D := lD0) (newM_six [] 2) _ (Nat.le_refl _), lD0_len]; decide)
theorem lNew2 : Calls Tryz.prog 10 #[.slice none 0 0, .int .i64 2] w fun e w' => ∃ g F, e = .returned (.tuple #[.pointer (some ⟨g, 0, none⟩), .int .i64 0]) ∧ DiskAt w' w.heap.size g F lD0 ∧ Below w.heap.size w w' :=
  (New_calls none 0 [] 2 (by decide) (by decide) ⟨rfl, by decide, fun h => absurd h (by decide)⟩ (by unfold newBad; decide)).mono fun e w' ⟨g, h1, h2, h3⟩ => ⟨g, _, h1, h2, h3⟩
theorem lOpen (h : DiskAt w w0.heap.size g F D) (hk : LOk D fr n) (hg : Sh.Glob w0) (hb : Below w0.heap.size w0 w) : Calls Tryz.prog 9 #[.pointer (some ⟨g, 0, none⟩), .int .i64 fr, .int .i64 n] w fun e w' => ∃ s, e = .returned (.tuple #[.pointer (some ⟨s, 0, none⟩), .int .i64 0]) ∧ Ls w0 w' s g F D fr n ∧ Below w.heap.size w w' := by
  refine (Open_calls h hk.hz fr n).mono ?_
  rintro e w' (⟨hn, _⟩ | ⟨_, s, rfl, hs, _, hb2⟩)
  · exact absurd ⟨hk.hn, hk.hf, hk.hl⟩ hn
  · exact ⟨s, rfl, ⟨hs, hk, hg, below_trans hb hb2⟩, hb2⟩
theorem lGet1 (h : Ls w0 w s g F lD1 0 1) : Calls Tryz.prog 7 #[.pointer (some ⟨s, 0, none⟩), .int .i64 1, .int .i64 64] w fun e w' => ∃ A c b, e = .returned (.tuple #[.slice A 64 c, .int .i64 0]) ∧ 64 ≤ c ∧ b = lS ∧ C8 w' A b ∧ Below w.heap.size w w' := by
  refine (lsGet h).mono ?_
  rintro e w' ⟨A, c, rfl, hc, hf, hb⟩
  rw [lG1.1]
  rw [lG1.2] at hf hc ⊢
  rw [lS_len] at hc ⊢
  exact ⟨A, c, lS, rfl, hc, rfl, hf.C, hb⟩
theorem lHolds1 (h : Ls w0 w s g F lD1 0 1) : Calls Tryz.prog 8 #[.pointer (some ⟨s, 0, none⟩), .int .i64 1, Tgt 0 0 64 64 none 0 0] w fun e w' => e = .returned (.tuple #[.agg #[.slice none 0 0, .slice none 0 0], .int .i64 84]) ∧ Below w.heap.size w w' :=
  holds_hash h.glob 0 0 (fun W hW => (lGet1 (h.below hW)).mono fun e w' ⟨A, c, b, he, hc, hb, hC, hB⟩ => ⟨A, c, b, he, hc, by rw [hb]; exact lS_len, hC, hB⟩)
theorem lPut1 (h : Ls w0 w s g F lD0 0 1) (hc : 64 ≤ c) (hC : ∀ W, Upd w W F → C8 W A lS) : Calls Tryz.prog 13 #[.pointer (some ⟨s, 0, none⟩), .int .i64 1, Tgt 0 0 64 64 none 0 0, .int .i64 0, .slice A 64 c] w fun e w' => e = .returned (.int .i64 0) ∧ LsPo w0 w w' s g F lD1 0 1 := by
  have hp := lsPut (b := lS) (slot := 1) (z := 64) (ch := 64) (pl := 0) (A := A) (c := c) h 0 0 none 0 0 (by rw [lS_len]; show 0 + 64 ≤ 9000000; decide) (by rw [lS_len]; exact hc) hC
  rw [lS_len, lP1.1] at hp
  exact hp
def Kn (w0 w' : World) (e : Ending) : Prop := e = .returned (.bool true) ∧ Below w0.heap.size w0 w'
set_option maxHeartbeats 16000000 in
theorem known_calls (hg : Sh.Glob w) : Calls Tryz.prog 14 #[] w fun e w' => Kn w w' e := by
  have HG := Aside0.mk hg
  clear hg
  go_enter Tryz.func14, Tryz.ntmps14
  go_wp2_with (first | (go_at_call 10; (with_reducible refine lNew2.mono ?_); rintro e w1 ⟨g, F, rfl, hd1, hb1⟩; have HD1 := Aside0.mk hd1; have HB1 := Aside0.mk hb1; clear hd1 hb1) | (go_at_call 9; (with_reducible refine (lOpen HD1.out lD0_ok HG.out HB1.out).mono ?_); rintro e w2 ⟨s, rfl, hs2, hb2⟩; have HS2 := Aside0.mk hs2; clear hs2 hb2))
  obtain ⟨A3, w3, hmk, hr3, hb3⟩ := run_make8 (P := Tryz.prog) info5 Tryz.underlying22 w2 64 64 (by decide) (by decide)
  obtain ⟨g3, c3, hA3, hg3, _, _, hcs3, hcell3⟩ := hr3.form (by rw [List.length_replicate]; decide)
  rw [List.length_replicate] at hA3
  injection hA3 with hA3 _ hc3
  subst hA3 hc3
  have hmk : (Instr.makeSlice 22 (.int .i64 64) (.int .i64 64)).run Tryz.prog w2 = .ok (.slice (some ⟨g3, 0, none⟩) 64 64) w3 := hmk
  have hcl : w3.cell? ⟨g3, 5, none⟩ = some (.int .u8 0) := (hr3.celln (i := 5) (by decide)).1
  have hfz : w3.frozen? ⟨g3, 5, none⟩ = false := (hr3.celln (i := 5) (by decide)).2
  have HRL := Aside0.mk (show Row8 (w3.setCell ⟨g3, 5, none⟩ (.int .u8 9)) w2.heap.size (.slice (some ⟨g3, 0, none⟩) 64 64) lS from hr3.put 5 9)
  have HB3 := Aside0.mk hb3
  clear hr3 hb3 hcs3 hcell3
  have HN4 := Aside0.mk (heap_alloc_new (w3.setCell ⟨g3, 5, none⟩ (.int .u8 9)) (.cells #[.int .i64 0, .int .i64 0, .int .i64 64, .int .i64 64, .slice none 0 0] 24))
  have HB4 := Aside0.mk (show Below w2.heap.size w2 ((w3.setCell ⟨g3, 5, none⟩ (.int .u8 9)).alloc (.cells #[.int .i64 0, .int .i64 0, .int .i64 64, .int .i64 64, .slice none 0 0] 24)) from below_alloc (HB3.out.setCell (p := ⟨g3, 5, none⟩) hg3 _) _)
  have HR4 := Aside0.mk (HRL.out.below (below_alloc (Below.refl _ _) (.cells #[.int .i64 0, .int .i64 0, .int .i64 64, .int .i64 64, .slice none 0 0] 24)))
  have HHI := Aside0.mk (disk_hi HS2.out.S.d)
  have HG3 := Aside0.mk hg3
  obtain ⟨q, hq⟩ : ∃ q, (w3.setCell ⟨g3, 5, none⟩ (.int .u8 9)).heap.size = q := ⟨_, rfl⟩
  have hq2 : w2.heap.size ≤ q := by rw [← hq]; exact (HB3.out.setCell (p := ⟨g3, 5, none⟩) hg3 _).size
  go_wp2_with (fail)
  obtain ⟨w4, hw4⟩ : ∃ w4, (w3.setCell ⟨g3, 5, none⟩ (.int .u8 9)).alloc (.cells #[.int .i64 0, .int .i64 0, .int .i64 64, .int .i64 64, .slice none 0 0] 24) = w4 := ⟨_, rfl⟩
  have e3 : w3.heap.size = q := by rw [← hq]; simp
  rw [hw4] at HN4 HB4 HR4 ⊢
  rw [hq] at HN4
  clear hmk hcl hfz hw4 e3 hq HRL HB3
  have HS4 := Aside0.mk (HS2.out.below HB4.out)
  have HC4 := Aside0.mk (show ∀ W, Upd w4 W F → C8 W (some ⟨g3, 0, none⟩) lS from fun W hW => C8.upd HR4.out.C.2.2 hW (fun a ha => by
    injection ha with ha
    subst ha
    exact ⟨(HR4.out.own g3 rfl).2, fun hf => by have h1 := HHI.out g3 hf; have h2 := HG3.out; omega⟩))
  go_wp2_with (first
    | (go_at_call 13; (with_reducible refine (lPut1 HS4.out (Nat.le_refl _) HC4.out).mono ?_); rintro e w5 ⟨rfl, F5, hs5, _, _, hu5⟩; have HS5 := Aside0.mk hs5; have HC5 := Aside0.mk (HC4.out _ hu5); have HN5 := Aside0.mk ((hu5.block q (blk_lt HN4.out) (fun hf => by have h1 := HHI.out q hf; omega)).trans HN4.out); clear hs5 hu5)
    | (go_at_call 7; (with_reducible refine (lGet1 HS5.out).mono ?_); rintro e w6 ⟨A6, c6, b6, rfl, hc6, rfl, hC6, hb6⟩; have HS6 := Aside0.mk (HS5.out.below hb6); have HC6 := Aside0.mk hC6; have HC56 := Aside0.mk (Kd.C_below HC5.out hb6); have HN6 := Aside0.mk (blk_below HN5.out hb6); have hk0 := cellB HN6.out 0 _ rfl; have hk1 := cellB HN6.out 1 _ rfl; have hk2 := cellB HN6.out 2 _ rfl; have hk3 := cellB HN6.out 3 _ rfl; have hk4 := cellB HN6.out 4 _ rfl; clear hb6 hC6))
  go_wp2_with (first
    | (go_at_call 8; (with_reducible refine (lHolds1 HS6.out).mono ?_); rintro e w7 ⟨rfl, hb7⟩; have HB7 := Aside0.mk hb7; have HS7 := Aside0.mk (HS6.out.below hb7); clear hb7))
  have HB8 := Aside0.mk (below_alloc (Below.refl w7.heap.size w7) (.cells #[.slice none 0 0, .slice none 0 0] 32))
  have HS8 := Aside0.mk (HS7.out.below HB8.out)
  have HSM := Aside0.mk (show Calls Tryz.prog 18 #[.slice (some ⟨g3, 0, none⟩) 64 64, .slice A6 64 c6] (w7.alloc (.cells #[.slice none 0 0, .slice none 0 0] 32)) fun e w' => e = .returned (.bool true) ∧ (w7.alloc (.cells #[.slice none 0 0, .slice none 0 0] 32)) = w' from by
    have h := Same_calls (some ⟨g3, 0, none⟩) 64 lS A6 c6 lS (Kd.C_below (Kd.C_below HC56.out HB7.out) HB8.out) (Kd.C_below (Kd.C_below HC6.out HB7.out) HB8.out)
    rwa [sameM_refl, lS_len] at h)
  go_wp2_with (first
    | (go_at_call 12; (with_reducible refine (lsRoom HS8.out).mono ?_); rintro e w9 ⟨rfl, rfl⟩)
    | (go_at_call 18; (with_reducible refine HSM.out.mono ?_); rintro e w9 ⟨rfl, rfl⟩))
  go_ret
  exact ⟨rfl, HS8.out.b⟩
end Go.Proofs.YtfpfnolpoklefaaGreatDoor.Lo
/- The law SlotsNil, walked. -/
namespace Go.Proofs.YtfpfnolpoklefaaGreatDoor.Lo
open Go.Proofs.YtfpfnolpoklefaaGreatDoor.Dk
open Go.RowKit Go.Proofs.YtfpfnolpoklefaaGreatDoorW.PrintWords Go.Proofs.YtfpfnolpoklefaaGreatDoorW.PrintLast Go.Proofs.YtfpfnolpoklefaaGreatDoorW.PrintMore
set_option linter.unusedVariables false
set_option linter.unusedSimpArgs false
set_option maxRecDepth 30000
variable {w0 w w' W W' w1 w2 : World} {B s g : Nat} {F F' : Nat → Prop} {D D' : DM} {fr n slot z ch pl q ver exp : Int} {v : Value} {xs x b y : List Int} {A Ar : Option Addr} {c m at' o nr cr nb : Nat}
theorem tgt_cells {m : Nat × Nat} {t : Nat} (h : w.heap[t]? = some (.cells #[.int .i64 ver, .int .i64 exp, .int .i64 z, .int .i64 ch, .slice Ar nr cr] 24 m)) : w.cell? ⟨t, 0, none⟩ = some (.int .i64 ver) ∧ w.cell? ⟨t, 1, none⟩ = some (.int .i64 exp) ∧ w.cell? ⟨t, 2, none⟩ = some (.int .i64 z) ∧ w.cell? ⟨t, 3, none⟩ = some (.int .i64 ch) ∧ w.cell? ⟨t, 4, none⟩ = some (.slice Ar nr cr) := ⟨cellB h 0 _ rfl, cellB h 1 _ rfl, cellB h 2 _ rfl, cellB h 3 _ rfl, cellB h 4 _ rfl⟩
end Go.Proofs.YtfpfnolpoklefaaGreatDoor.Lo
/- The slots laws' arguments, opened: bytes, choices, records, operations. -/
namespace Go.Proofs.YtfpfnolpoklefaaGreatDoor.Dk
open Go.RowKit Go.Proofs.YtfpfnolpoklefaaGreatDoorW.PrintWords Go.Proofs.YtfpfnolpoklefaaGreatDoorW.PrintLast Go.Proofs.YtfpfnolpoklefaaGreatDoorW.PrintMore
open Go.ChangeShapes Go.WideShapes
set_option linter.unusedVariables false
set_option linter.unusedSimpArgs false
set_option maxRecDepth 30000
variable {H : Type} {enc : TypeId × Value → H} {W : World}
theorem bytes5 : Tryz.prog.bytesOf 5 = 1 := by kernel_rfl
theorem bytes4 : Tryz.prog.bytesOf 4 = 1 := by kernel_rfl
theorem open_by {fuel : Nat} {cs : List Value} {x : DataW H × List MemPlace} (h : DataW.trod enc Tryz.prog W 0 (fun _ => true) true fuel 22 cs = some x) (hw : ∀ n ∈ x.1.weights Tryz.prog 22, n ≤ reachBytes) :
    ∃ a c zs, cs = [.slice a zs.length c] ∧ zs.length ≤ c ∧ Kd.C (Kd.int .u8) W a zs.length zs ∧ zs.length ≤ 140737488351232 := by
  rcases open_ints Tryz.underlying22 Tryz.underlying5 (by kernel_rfl) h with ⟨rfl, _⟩ | ⟨a, len, cap, zs, rfl, _, hl, hm, hz, rfl, hc, hwf⟩
  · exact ⟨none, 0, [], rfl, Nat.le_refl _, Kd.C_nil _ _, by decide⟩
  · simp only [if_true] at hz
    have hlt : (zs.take len).length = len := by rw [List.length_take]; omega
    have hb : len ≤ 140737488351232 := by
      have h1 := hw (((lits (H := H) .u8 (zs.take len)).length + (lits (H := H) .u8 (zs.drop len)).length) * Tryz.prog.bytesOf 5) (by simp [DataW.weights, Tryz.underlying22])
      have h2 : (lits (H := H) .u8 (zs.take len)).length = len := by simp [lits]; omega
      rw [h2, bytes5] at h1
      have : reachBytes = 140737488351232 := rfl
      omega
    refine ⟨some a, cap, zs.take len, by rw [hlt], by omega, ⟨rfl, by omega, fun _ => ⟨a, rfl, fun j p hj => ?_⟩⟩, by omega⟩
    rw [List.getElem?_take] at hj
    split at hj
    · obtain ⟨hj1, rfl⟩ := List.getElem?_eq_some_iff.1 hj
      refine ⟨[.int .u8 zs[j]], rfl, rfl, fun i u hu => ?_⟩
      cases i with
      | zero =>
        simp only [List.getElem?_cons_zero, Option.some.injEq] at hu
        subst hu
        have := hc j hj1
        rw [List.getD_eq_getElem?_getD, hj] at this
        simpa [Kd.int, Kd.scalar] using this
      | succ i => simp at hu
    · cases hj
theorem open_ch {fuel : Nat} {cs : List Value} {x : DataW H × List MemPlace} (h : DataW.trod enc Tryz.prog W 0 (fun _ => true) true fuel 59 cs = some x) (hw : ∀ n ∈ x.1.weights Tryz.prog 59, n ≤ reachBytes) :
    ∃ a c zs, cs = [.slice a zs.length c] ∧ zs.length ≤ c ∧ Kd.C Kd.bool W a zs.length zs ∧ zs.length ≤ 140737488351232 := by
  rcases Go.Deep.open_bools Tryz.underlying59 Tryz.underlying4 (by kernel_rfl) h with ⟨rfl, _⟩ | ⟨a, len, cap, Bf, rfl, _, hl, hm, rfl, hc⟩
  · exact ⟨none, 0, [], rfl, Nat.le_refl _, Kd.C_nil _ _, by decide⟩
  · have hlt : ((List.range len).map Bf).length = len := by simp
    have hb : len ≤ 140737488351232 := by
      have h1 := hw ((len + (cap - len)) * Tryz.prog.bytesOf 4) (by simp [Go.Deep.boolRow, DataW.weights, Tryz.underlying59])
      rw [bytes4] at h1
      have : reachBytes = 140737488351232 := rfl
      omega
    have hmx : maxLen = 9223372036854775807 := by decide
    refine ⟨some a, cap, (List.range len).map Bf, by rw [hlt], by omega, ⟨rfl, by omega, fun _ => ⟨a, rfl, fun j p hj => ?_⟩⟩, by omega⟩
    obtain ⟨hj1, rfl⟩ := List.getElem?_eq_some_iff.1 hj
    rw [hlt] at hj1
    refine ⟨[.bool (Bf j)], rfl, by simp [Kd.bool, Kd.scalar], fun i u hu => ?_⟩
    cases i with
    | zero =>
      simp only [List.getElem?_cons_zero, Option.some.injEq] at hu
      subst hu
      have := hc j (by omega)
      simpa [Kd.bool, Kd.scalar] using this
    | succ i => simp at hu
theorem wf_i64 {n : Int} (h : (Lit.int .i64 n).wf = true) : -9223372036854775808 ≤ n ∧ n ≤ 9223372036854775807 := by
  have e1 : IntKind.i64.min = -9223372036854775808 := by decide
  have e2 : IntKind.i64.max = 9223372036854775807 := by decide
  simp [Lit.wf] at h
  omega
theorem cellsO : Tryz.prog.cellsOf 53 = 8 := by kernel_rfl
theorem cellsT : Tryz.prog.cellsOf 24 = 5 := by kernel_rfl
theorem open_tgt {fuel : Nat} {cs : List Value} {x : DataW H × List MemPlace} (h : DataW.trod enc Tryz.prog W 0 (fun _ => true) true fuel 24 cs = some x) (hw : ∀ n ∈ x.1.weights Tryz.prog 24, n ≤ reachBytes) :
    ∃ v e s k a c zs, cs = [.int .i64 v, .int .i64 e, .int .i64 s, .int .i64 k, .slice a (List.length zs) c] ∧ zs.length ≤ c ∧ Kd.C (Kd.int .u8) W a zs.length zs ∧ zs.length ≤ 140737488351232 ∧ (-9223372036854775808 ≤ s ∧ s ≤ 9223372036854775807) ∧ (-9223372036854775808 ≤ k ∧ k ≤ 9223372036854775807) := by
  obtain ⟨xs, n, rfl, rfl, hl, hxl, hf⟩ := DataW.trod_struct Tryz.underlying24 h
  rw [cellsT] at hl
  match cs, hl, xs, hxl with
  | [v0, v1, v2, v3, v4], _, [y0, y1, y2, y3, y4], _ =>
    have g0 := hf 0 _ rfl
    have g1 := hf 1 _ rfl
    have g2 := hf 2 _ rfl
    have g3 := hf 3 _ rfl
    have g4 := hf 4 _ rfl
    have c2 : Tryz.prog.cellsOf 2 = 1 := by kernel_rfl
    have c22 : Tryz.prog.cellsOf 22 = 1 := by kernel_rfl
    simp [c2, c22] at g0 g1 g2 g3 g4
    obtain ⟨n0, e0, _, w0⟩ := DataW.trod_int Tryz.underlying2 g0
    obtain ⟨n1, e1, _, w1⟩ := DataW.trod_int Tryz.underlying2 g1
    obtain ⟨n2, e2, _, w2⟩ := DataW.trod_int Tryz.underlying2 g2
    obtain ⟨n3, e3, _, w3⟩ := DataW.trod_int Tryz.underlying2 g3
    have hw' : ∀ n ∈ DataW.weightsEach Tryz.prog [2, 2, 2, 2, 22] [y0.1, y1.1, y2.1, y3.1, y4.1], n ≤ reachBytes := fun n hn => hw n (by simpa [DataW.weights, Tryz.underlying24] using hn)
    obtain ⟨a4, k4, z4, e4, l4, C4, b4⟩ := open_by g4 (fun n hn => hw' n (by simp [DataW.weightsEach, hn]))
    injection e0 with e0; injection e1 with e1; injection e2 with e2; injection e3 with e3; injection e4 with e4
    subst e0; subst e1; subst e2; subst e3; subst e4
    exact ⟨n0, n1, n2, n3, a4, k4, z4, rfl, l4, C4, b4, wf_i64 w2, wf_i64 w3⟩
theorem agg_of8 {v a b c d e f g h' : Value} (h : v.cells.toList = [a, b, c, d, e, f, g, h']) : v = .agg #[a, b, c, d, e, f, g, h'] := by
  cases v with
  | agg cs =>
    congr 1
    apply Array.ext'
    exact h
  | _ => simp [Value.cells] at h
abbrev OpM := P.S53
abbrev kOp : Kd OpM := P.k53
theorem open_op {fuel : Nat} {cs : List Value} {x : DataW H × List MemPlace} (h : DataW.trod enc Tryz.prog W 0 (fun _ => true) true fuel 53 cs = some x) (hw : ∀ n ∈ x.1.weights Tryz.prog 53, n ≤ reachBytes) : ∃ o : OpM, kOp.K W o cs ∧ o.f3.length ≤ 140737488351232 := by
  obtain ⟨xs, n, rfl, rfl, hl, hxl, hf⟩ := DataW.trod_struct Tryz.underlying53 h
  rw [cellsO] at hl
  match cs, hl, xs, hxl with
  | [v0, v1, v2, v3, v4, v5, v6, v7], _, [y0, y1, y2, y3], _ =>
    have g0 := hf 0 _ rfl
    have g1 := hf 1 _ rfl
    have g2 := hf 2 _ rfl
    have g3 := hf 3 _ rfl
    have c3 : Tryz.prog.cellsOf 3 = 1 := by kernel_rfl
    have c22 : Tryz.prog.cellsOf 22 = 1 := by kernel_rfl
    simp [c3, c22, cellsT] at g0 g1 g2 g3
    obtain ⟨n0, e0, _, w0⟩ := DataW.trod_int Tryz.underlying3 g0
    obtain ⟨n2, e2, _, w2⟩ := DataW.trod_int Tryz.underlying3 g2
    have hw' : ∀ n ∈ DataW.weightsEach Tryz.prog [3, 24, 3, 22] [y0.1, y1.1, y2.1, y3.1], n ≤ reachBytes := fun n hn => hw n (by simpa [DataW.weights, Tryz.underlying53] using hn)
    obtain ⟨vv, ee, ss, kk, a1, k1, z1, e1, l1, C1, b1, _, _⟩ := open_tgt g1 (fun n hn => hw' n (by simp [DataW.weightsEach, hn]))
    obtain ⟨a3, k3, z3, e3, l3, C3, b3⟩ := open_by g3 (fun n hn => hw' n (by simp [DataW.weightsEach, hn]))
    simp only [List.cons.injEq, and_true] at e0 e1 e2 e3
    obtain ⟨q1, q2, q3, q4, q5⟩ := e1
    subst e0 e2 e3 q1 q2 q3 q4 q5
    exact ⟨⟨n0, ⟨vv, ee, ss, kk, z1⟩, n2, z3⟩, P.k53_mk W ⟨n0, ⟨vv, ee, ss, kk, z1⟩, n2, z3⟩ l1 C1 l3 C3, b3⟩
end Go.Proofs.YtfpfnolpoklefaaGreatDoor.Dk
/- The reference of slots: Open, bad, Count. -/
namespace Go.Proofs.YtfpfnolpoklefaaGreatDoor.Lo
open Go.Proofs.YtfpfnolpoklefaaGreatDoor.Dk
open Go.RowKit Go.Proofs.YtfpfnolpoklefaaGreatDoorW.PrintWords Go.Proofs.YtfpfnolpoklefaaGreatDoorW.PrintLast Go.Proofs.YtfpfnolpoklefaaGreatDoorW.PrintMore
set_option linter.unusedVariables false
set_option linter.unusedSimpArgs false
set_option maxRecDepth 30000
variable {w w0 w1 w2 wr : World} {A : Option Addr} {c len k : Nat} {fr n slot z room ch : Int} {v : Value}
def rFits (k : Nat) (fr n : Int) : Prop := 1 ≤ n ∧ 0 ≤ fr ∧ fr + 2 * n ≤ (k : Int)
abbrev Rs (v : Value) (f r : Int) : Value := .agg #[v, .int .i64 f, .int .i64 r]
set_option maxHeartbeats 16000000 in
theorem rOpen_calls (hl : len = 64 * k) (hk : k ≤ 1000) (fr n : Int) : Calls Tryz.prog 37 #[.slice A len c, .int .i64 fr, .int .i64 n] w fun e w' => ((rFits k fr n ∧ e = .returned (.tuple #[Rs (.slice A len c) (64 * fr) (64 * n), .int .i64 0])) ∨ (¬ rFits k fr n ∧ e = .returned (.tuple #[Rs (.slice none 0 0) 0 0, .int .i64 1]))) ∧ Below w.heap.size w w' := by
  have hk2 : (len : Int) / 64 = (k : Int) := by omega
  have hlb : len ≤ 64000 := by omega
  have HK := Lib.hid hk2

  by_cases h0 : n < 1
  · have q0 : decide (n < 1) = true := decide_eq_true h0
    have HN := Aside0.mk (show ¬ rFits k fr n from fun hf => by unfold rFits at hf; omega)
    clear hl hk2 h0
    go_enter Tryz.func37, Tryz.ntmps37
    go_wp2_with (fail)
    refine bodyPost_ret (results_ct rfl _ _ w.heap.size 49 _ (0, 0) _ rfl (heap_alloc_new w _) Tryz.underlying49 rfl (by kernel_rfl)) rfl ?_
    exact ⟨.inr ⟨HN.out, rfl⟩, below_alloc (Below.refl w.heap.size w) _⟩
  have q0 : decide (n < 1) = false := decide_eq_false h0
  by_cases h1 : (len : Int) / 64 < n
  · have q1 : decide ((len : Int) / 64 < n) = true := decide_eq_true h1
    have HN := Aside0.mk (show ¬ rFits k fr n from fun hf => by unfold rFits at hf; omega)
    clear hl hk2 h0 h1
    go_enter Tryz.func37, Tryz.ntmps37
    go_wp2_with (fail)
    refine bodyPost_ret (results_ct rfl _ _ w.heap.size 49 _ (0, 0) _ rfl (heap_alloc_new w _) Tryz.underlying49 rfl (by kernel_rfl)) rfl ?_
    exact ⟨.inr ⟨HN.out, rfl⟩, below_alloc (Below.refl w.heap.size w) _⟩
  have q1 : decide ((len : Int) / 64 < n) = false := decide_eq_false h1
  by_cases h2 : fr < 0
  · have q2 : decide (fr < 0) = true := decide_eq_true h2
    have HN := Aside0.mk (show ¬ rFits k fr n from fun hf => by unfold rFits at hf; omega)
    clear hl hk2 h0 h1 h2
    go_enter Tryz.func37, Tryz.ntmps37
    go_wp2_with (fail)
    refine bodyPost_ret (results_ct rfl _ _ w.heap.size 49 _ (0, 0) _ rfl (heap_alloc_new w _) Tryz.underlying49 rfl (by kernel_rfl)) rfl ?_
    exact ⟨.inr ⟨HN.out, rfl⟩, below_alloc (Below.refl w.heap.size w) _⟩
  have q2 : decide (fr < 0) = false := decide_eq_false h2
  by_cases h3 : (len : Int) / 64 < fr
  · have q3 : decide ((len : Int) / 64 < fr) = true := decide_eq_true h3
    have HN := Aside0.mk (show ¬ rFits k fr n from fun hf => by unfold rFits at hf; omega)
    clear hl hk2 h0 h1 h2 h3
    go_enter Tryz.func37, Tryz.ntmps37
    go_wp2_with (fail)
    refine bodyPost_ret (results_ct rfl _ _ w.heap.size 49 _ (0, 0) _ rfl (heap_alloc_new w _) Tryz.underlying49 rfl (by kernel_rfl)) rfl ?_
    exact ⟨.inr ⟨HN.out, rfl⟩, below_alloc (Below.refl w.heap.size w) _⟩
  have q3 : decide ((len : Int) / 64 < fr) = false := decide_eq_false h3
  have hb1 : 1 ≤ n ∧ n ≤ 1000 := by omega
  have hb2 : 0 ≤ fr ∧ fr ≤ 1000 := by omega
  by_cases h4 : (len : Int) / 64 < fr + 2 * n
  · have q4 : decide ((len : Int) / 64 < fr + 2 * n) = true := decide_eq_true h4
    have HN := Aside0.mk (show ¬ rFits k fr n from fun hf => by unfold rFits at hf; omega)
    clear hl hk2 h0 h1 h2 h3 h4
    go_enter Tryz.func37, Tryz.ntmps37
    go_wp2_with (fail)
    refine bodyPost_ret (results_ct rfl _ _ w.heap.size 49 _ (0, 0) _ rfl (heap_alloc_new w _) Tryz.underlying49 rfl (by kernel_rfl)) rfl ?_
    exact ⟨.inr ⟨HN.out, rfl⟩, below_alloc (Below.refl w.heap.size w) _⟩
  have q4 : decide ((len : Int) / 64 < fr + 2 * n) = false := decide_eq_false h4
  have HY := Aside0.mk (show rFits k fr n by unfold rFits; omega)
  clear hl hk2 h0 h1 h2 h3 h4
  go_enter Tryz.func37, Tryz.ntmps37
  go_wp2_with (fail)
  refine bodyPost_ret (results_ct rfl _ _ w.heap.size 49 _ (0, 0) _ rfl (heap_alloc_new w _) Tryz.underlying49 rfl (by kernel_rfl)) rfl ?_
  exact ⟨.inl ⟨HY.out, rfl⟩, below_alloc (Below.refl w.heap.size w) _⟩
def rBad (slot z room : Int) : Bool := decide (slot < 0) || decide (1 < slot) || decide (room < z)
theorem rbad_calls (f : Int) : Calls Tryz.prog 38 #[Rs v f room, .int .i64 slot, .int .i64 z] w fun e w' => e = .returned (.bool (rBad slot z room)) ∧ Below w.heap.size w w' := by
  have HB := Aside0.mk (below_alloc (Below.refl w.heap.size w) (.cells #[v, .int .i64 f, .int .i64 room] 49))
  unfold Rs
  by_cases h0 : slot < 0
  · have q0 : decide (slot < 0) = true := decide_eq_true h0
    have HR := Lib.hid (show rBad slot z room = true by unfold rBad; rw [q0]; rfl)
    clear h0
    go_enter Tryz.func38, Tryz.ntmps38
    go_wp2_with (fail)
    go_ret
    exact ⟨by rw [HR.out] <;> rfl, HB.out⟩
  have q0 : decide (slot < 0) = false := decide_eq_false h0
  by_cases h1 : 1 < slot
  · have q1 : decide (1 < slot) = true := decide_eq_true h1
    have HR := Lib.hid (show rBad slot z room = true by unfold rBad; rw [q0, q1]; rfl)
    clear h0 h1
    go_enter Tryz.func38, Tryz.ntmps38
    go_wp2_with (fail)
    go_ret
    exact ⟨by rw [HR.out] <;> rfl, HB.out⟩
  have q1 : decide (1 < slot) = false := decide_eq_false h1
  have HR := Lib.hid (show rBad slot z room = decide (room < z) by unfold rBad; rw [q0, q1]; rfl)
  clear h0 h1
  go_enter Tryz.func38, Tryz.ntmps38
  go_wp2_with (fail)
  go_ret
  exact ⟨by rw [HR.out] <;> rfl, HB.out⟩
theorem rcount_loop (hc : 64 ≤ ch) (hc2 : ch ≤ 1024) : ∀ (k : Nat) (x c0 : Int), 0 ≤ c0 → c0 ≤ 100000 - k → x ≤ 131072 → -1024 ≤ x → 1 ≤ k → x ≤ 64 * (k : Int) - 64 → P.imprimaturref06_Count.l0 k x ch c0 = some (c0 + (if 0 < x then (x + ch - 1) / ch else 0), 0) := by
  intro k
  induction k with
  | zero => intro x c0 _ _ _ _ h _; exfalso; omega
  | succ k ih =>
    intro x c0 h0 h1 h2 h3 h5 h4
    rw [P.imprimaturref06_Count.l0]
    by_cases hx : 0 < x
    · rw [if_pos hx, if_pos hx, show wrap64 (x - ch) = x - ch by simp only [wrap64]; omega, show wrap64 (c0 + 1) = c0 + 1 by simp only [wrap64]; omega, ih (x - ch) (c0 + 1) (by omega) (by omega) (by omega) (by omega) (by omega) (by omega)]
      have e : (x + ch - 1) / ch = 1 + (if 0 < x - ch then (x - ch + ch - 1) / ch else 0) := by
        have e1 : x + ch - 1 = (x - 1) + 1 * ch := by omega
        rw [e1, Int.add_mul_ediv_right _ _ (by omega)]
        by_cases h : 0 < x - ch
        · rw [if_pos h, show x - ch + ch - 1 = x - 1 by omega, Int.add_comm]
        · rw [if_neg h, Int.ediv_eq_zero_of_lt (by omega) (by omega)]
          rfl
      rw [e]
      simp only [Option.some.injEq, Prod.mk.injEq, and_true]
      omega
    · rw [if_neg hx, if_neg hx, Int.add_zero]
theorem rcount_calls (z ch : Int) : Calls Tryz.prog 39 #[.int .i64 z, .int .i64 ch] w fun e w' => e = .returned (.tuple #[.int .i64 (if countE z ch = 0 then countN z ch else 0), .int .i64 (countE z ch)]) ∧ Drawn0 w w' := by
  refine P.imprimaturref06_Count.calls 3002 z ch _ _ w ?_
  obtain ⟨K, hK⟩ : ∃ K, K = 3000 := ⟨_, rfl⟩
  rw [show 3002 = K + 2 by omega]
  unfold P.imprimaturref06_Count.f
  by_cases h1 : z < 0
  · have hE : countE z ch = 1 := by unfold countE; rw [if_pos (.inl h1)]
    rw [hE, if_pos h1, P.imprimaturref06_Count.j0, if_pos rfl, if_neg (by decide)]
  · rw [if_neg h1]
    by_cases h2 : ch < 64
    · have hE : countE z ch = 1 := by unfold countE; rw [if_pos (.inr (.inl h2))]
      rw [hE, if_pos h2, P.imprimaturref06_Count.j0, if_pos rfl, if_neg (by decide)]
    · rw [if_neg h2]
      by_cases h3 : 1024 < ch
      · have hE : countE z ch = 1 := by unfold countE; rw [if_pos (.inr (.inr h3))]
        rw [hE, P.imprimaturref06_Count.j0, if_pos (decide_eq_true h3), if_neg (by decide)]
      · rw [P.imprimaturref06_Count.j0, if_neg (show ¬ decide (ch > 1024) = true by simpa using h3)]
        by_cases h4 : 131072 < z
        · have hE : countE z ch = 2 := by unfold countE; rw [if_neg (show ¬ (z < 0 ∨ ch < 64 ∨ 1024 < ch) by omega), if_pos h4]
          rw [hE, if_pos h4, if_neg (by decide)]
        · have hE : countE z ch = 0 := by unfold countE; rw [if_neg (show ¬ (z < 0 ∨ ch < 64 ∨ 1024 < ch) by omega), if_neg h4]
          rw [hE, if_neg h4, if_pos rfl, rcount_loop (by omega) (by omega) (K + 1) z 0 (by omega) (by omega) (by omega) (by omega) (by omega) (by omega)]
          by_cases hz : 0 < z
          · rw [if_pos hz, Int.zero_add]; rfl
          · obtain rfl : z = 0 := by omega
            rw [if_neg (by omega)]
            unfold countN
            rw [Int.ediv_eq_zero_of_lt (by omega) (by omega)]
            rfl

end Go.Proofs.YtfpfnolpoklefaaGreatDoor.Lo
/- The reference of slots: Put. -/
namespace Go.Proofs.YtfpfnolpoklefaaGreatDoor.Lo
open Go.Proofs.YtfpfnolpoklefaaGreatDoor.Dk
open Go.RowKit Go.Proofs.YtfpfnolpoklefaaGreatDoorW.PrintWords Go.Proofs.YtfpfnolpoklefaaGreatDoorW.PrintLast Go.Proofs.YtfpfnolpoklefaaGreatDoorW.PrintMore
set_option linter.unusedVariables false
set_option linter.unusedSimpArgs false
set_option maxRecDepth 30000
attribute [local go_sem] max2_int min2_int max_two min_two
variable {w w' w0 w1 w2 wr : World} {A Ab Ar : Option Addr} {c cb len k nr cr : Nat} {fr n slot z room ch pl ver exp : Int} {v : Value} {X b : List Int}
/-- Put of the reference: all bytes, the error. -/
def rPutM (X : List Int) (fr room slot z ch pl : Int) (b : List Int) : List Int × Int :=
  if rBad slot z room = true then (X, 110) else if countE z ch ≠ 0 ∨ pl < 0 ∨ countN z ch ≤ pl then (X, 1) else if (b.length : Int) ≠ min ch (z - pl * ch) then (X, 1) else (over X (fr + slot * room + pl * ch).toNat b, 0)
structure RPo (w w' : World) (A : Option Addr) (c : Nat) (X : List Int) (R : List Int × Int) (e : Ending) : Prop where
  b : Below w.heap.size w w'
  r : ∃ A' c', e = .returned (.tuple #[.slice A' R.1.length c', .int .i64 R.2]) ∧ ((R.2 ≠ 0 ∧ R.1 = X ∧ A' = A ∧ c' = c) ∨ (R.2 = 0 ∧ R.1.length ≤ c' ∧ Fr8 w w' A' R.1))
theorem below_more {q : Nat} (h : Below q w1 w) (h2 : Below q w w') : Below q w1 w' := ⟨h2.os.trans h.os, h2.tape.trans h.tape, h2.output.trans h.output, Nat.le_trans h.size h2.size, fun i hi => (h2.block i hi).trans (h.block i hi)⟩
theorem Fr8_of {xs : List Int} (h : Row8 w' w.heap.size (.slice A xs.length c) xs) : Fr8 w w' A xs := ⟨(Kd.R_reads' h).2.2, fun a ha => by
  subst ha
  exact h.own a.block (by simp [Value.ownBlock]), c, h⟩
theorem wrap_nat (a b e : Nat) (h : a + b = e) (hb : e ≤ 1000000000) : wrap64 ((a : Int) + (b : Int)) = (e : Int) := by unfold wrap64; omega
set_option maxHeartbeats 16000000 in
theorem rPut_calls (hX : C8 w A X) (hc : X.length ≤ c) (hb : C8 w Ab b) (hcb : b.length ≤ cb) (hf : 0 ≤ fr) (hr : 64 ≤ room) (hl : fr + 2 * room ≤ (X.length : Int)) (hXl : X.length ≤ 64000) (hbl : b.length ≤ 140737488351232) :
    Calls Tryz.prog 19 #[Rs (.slice A X.length c) fr room, .int .i64 slot, Tgt ver exp z ch Ar nr cr, .int .i64 pl, .slice Ab b.length cb] w fun e w' => RPo w w' A c X (rPutM X fr room slot z ch pl b) e := by
  obtain ⟨ad, rfl, _⟩ := hX.2.2 (by omega)
  have HX := Aside0.mk hX
  have HBB := Aside0.mk hb
  have HG := Aside0.mk (show ((w.alloc (.cells #[.slice (some ad) X.length c, .int .i64 fr, .int .i64 room] 49)).alloc (.cells #[.int .i64 ver, .int .i64 exp, .int .i64 z, .int .i64 ch, .slice Ar nr cr] 24)).heap[w.heap.size]? = some (.cells #[.slice (some ad) X.length c, .int .i64 fr, .int .i64 room] 49) from blk_below (heap_alloc_new w _) (below_alloc (Below.refl _ _) _))
  have HT := Aside0.mk (show ((w.alloc (.cells #[.slice (some ad) X.length c, .int .i64 fr, .int .i64 room] 49)).alloc (.cells #[.int .i64 ver, .int .i64 exp, .int .i64 z, .int .i64 ch, .slice Ar nr cr] 24)).heap[w.heap.size + 1]? = some (.cells #[.int .i64 ver, .int .i64 exp, .int .i64 z, .int .i64 ch, .slice Ar nr cr] 24) by
    have h := heap_alloc_new (w.alloc (.cells #[.slice (some ad) X.length c, .int .i64 fr, .int .i64 room] 49)) (.cells #[.int .i64 ver, .int .i64 exp, .int .i64 z, .int .i64 ch, .slice Ar nr cr] 24)
    rwa [World.size_alloc] at h)
  have HBA := Aside0.mk (show Below w.heap.size w ((w.alloc (.cells #[.slice (some ad) X.length c, .int .i64 fr, .int .i64 room] 49)).alloc (.cells #[.int .i64 ver, .int .i64 exp, .int .i64 z, .int .i64 ch, .slice Ar nr cr] 24)) from below_alloc (below_alloc (Below.refl _ _) _) _)
  clear hX hb
  have HRF := Aside0.mk (show rPutM X fr room slot z ch pl b = if rBad slot z room = true then (X, 110) else if countE z ch ≠ 0 ∨ pl < 0 ∨ countN z ch ≤ pl then (X, 1) else if (b.length : Int) ≠ min ch (z - pl * ch) then (X, 1) else (over X (fr + slot * room + pl * ch).toNat b, 0) from rfl)
  have HBAD := Aside0.mk (fun W => rbad_calls (w := W) (v := .slice (some ad) X.length c) (slot := slot) (z := z) (room := room) fr)
  obtain ⟨q, hq⟩ : ∃ q, rBad slot z room = q := ⟨_, rfl⟩
  rw [hq] at HBAD
  cases q with
  | true =>
    have HR := Aside0.mk (show rPutM X fr room slot z ch pl b = (X, 110) by rw [HRF.out, if_pos hq])
    clear hq HRF
    unfold Tgt Rs
    go_enter Tryz.func19, Tryz.ntmps19
    go_wp2_with (first | (go_at_call 38; (with_reducible refine (HBAD.out _).mono ?_); rintro e w1 ⟨rfl, hb1⟩; have HB1 := Aside0.mk (below_trans HBA.out hb1); have HG1 := Aside0.mk (blk_below HG.out hb1); have hc0 := cellB HG1.out 0 _ rfl; clear hb1))
    refine bodyPost_ret (results_tmp2 rfl _ _ _) rfl ?_
    rw [HR.out]
    exact ⟨HB1.out, some ad, c, rfl, .inl ⟨show (110 : Int) ≠ 0 by decide, rfl, rfl, rfl⟩⟩
  | false =>
    obtain ⟨N, hN⟩ : ∃ N, (if countE z ch = 0 then countN z ch else 0) = N := ⟨_, rfl⟩
    obtain ⟨E, hE⟩ : ∃ E, countE z ch = E := ⟨_, rfl⟩
    have HCT := Aside0.mk (show ∀ W, Calls Tryz.prog 39 #[.int .i64 z, .int .i64 ch] W fun e w' => e = .returned (.tuple #[.int .i64 N, .int .i64 E]) ∧ Drawn0 W w' from fun W => by have h := rcount_calls (w := W) z ch; rwa [hN, hE] at h)
    have HRF2 := Aside0.mk (show rPutM X fr room slot z ch pl b = if E ≠ 0 ∨ pl < 0 ∨ countN z ch ≤ pl then (X, 1) else if (b.length : Int) ≠ min ch (z - pl * ch) then (X, 1) else (over X (fr + slot * room + pl * ch).toNat b, 0) by rw [HRF.out, if_neg (by rw [hq]; decide), hE])
    have hbd : 0 ≤ slot ∧ slot ≤ 1 ∧ z ≤ room := by
      unfold rBad at hq
      simp only [Bool.or_eq_false_iff, decide_eq_false_iff_not] at hq
      omega
    clear hq HRF
    by_cases hE0 : E = 0
    · subst hE0
      rw [hE, if_pos rfl] at hN
      by_cases hp0 : pl < 0
      · have HR := Aside0.mk (show rPutM X fr room slot z ch pl b = (X, 1) by rw [HRF2.out, if_pos (.inr (.inl hp0))])
        have qp : decide (pl < 0) = true := decide_eq_true hp0
        clear hE hN hp0 HRF2
        unfold Tgt Rs
        go_enter Tryz.func19, Tryz.ntmps19
        go_wp2_with (first | (go_at_call 38; (with_reducible refine (HBAD.out _).mono ?_); rintro e w1 ⟨rfl, hb1⟩; have HB1 := Aside0.mk (below_trans HBA.out hb1); have HG1 := Aside0.mk (blk_below HG.out hb1); have HT1 := Aside0.mk (blk_below HT.out hb1); obtain ⟨hk0, hk1, hk2, hk3, hk4⟩ := tgt_cells HT1.out; clear hb1) | (go_at_call 39; (with_reducible refine (HCT.out _).mono ?_); rintro e w2 ⟨rfl, m2, rfl⟩; have HB2 := Aside0.mk (below_trans HB1.out (pw_below_drewN (Below.refl _ _) m2)); have HG2 := Aside0.mk (blk_below HG1.out (pw_below_drewN (Below.refl _ _) m2)); have HT2 := Aside0.mk (blk_below HT1.out (pw_below_drewN (Below.refl _ _) m2)); clear hk0 hk1 hk2 hk3 hk4; obtain ⟨hk0, hk1, hk2, hk3, hk4⟩ := tgt_cells HT2.out; have hc0 := cellB HG2.out 0 _ rfl; have hc1 := cellB HG2.out 1 _ rfl; have hc2 := cellB HG2.out 2 _ rfl))
        refine bodyPost_ret (results_tmp2 rfl _ _ _) rfl ?_
        rw [HR.out]
        exact ⟨HB2.out, some ad, c, rfl, .inl ⟨show (1 : Int) ≠ 0 by decide, rfl, rfl, rfl⟩⟩
      have qp : decide (pl < 0) = false := decide_eq_false hp0
      by_cases hpn : N ≤ pl
      · have HR := Aside0.mk (show rPutM X fr room slot z ch pl b = (X, 1) by rw [HRF2.out, if_pos (.inr (.inr (by rw [hN]; exact hpn)))])
        have qn : decide (pl ≥ N) = true := decide_eq_true hpn
        have qn2 : decide (N ≤ pl) = true := decide_eq_true hpn
        clear hE hN hp0 hpn HRF2
        unfold Tgt Rs
        go_enter Tryz.func19, Tryz.ntmps19
        go_wp2_with (first | (go_at_call 38; (with_reducible refine (HBAD.out _).mono ?_); rintro e w1 ⟨rfl, hb1⟩; have HB1 := Aside0.mk (below_trans HBA.out hb1); have HG1 := Aside0.mk (blk_below HG.out hb1); have HT1 := Aside0.mk (blk_below HT.out hb1); obtain ⟨hk0, hk1, hk2, hk3, hk4⟩ := tgt_cells HT1.out; clear hb1) | (go_at_call 39; (with_reducible refine (HCT.out _).mono ?_); rintro e w2 ⟨rfl, m2, rfl⟩; have HB2 := Aside0.mk (below_trans HB1.out (pw_below_drewN (Below.refl _ _) m2)); have HG2 := Aside0.mk (blk_below HG1.out (pw_below_drewN (Below.refl _ _) m2)); have HT2 := Aside0.mk (blk_below HT1.out (pw_below_drewN (Below.refl _ _) m2)); clear hk0 hk1 hk2 hk3 hk4; obtain ⟨hk0, hk1, hk2, hk3, hk4⟩ := tgt_cells HT2.out; have hc0 := cellB HG2.out 0 _ rfl; have hc1 := cellB HG2.out 1 _ rfl; have hc2 := cellB HG2.out 2 _ rfl))
        refine bodyPost_ret (results_tmp2 rfl _ _ _) rfl ?_
        rw [HR.out]
        exact ⟨HB2.out, some ad, c, rfl, .inl ⟨show (1 : Int) ≠ 0 by decide, rfl, rfl, rfl⟩⟩
      have qn : decide (pl ≥ N) = false := decide_eq_false hpn
      have qn2 : decide (N ≤ pl) = false := decide_eq_false hpn
      obtain ⟨z0, c1, c2, z1⟩ := count_zero hE
      obtain ⟨p0, p1⟩ := place_le hE (by omega) (show pl < countN z ch by omega)
      obtain ⟨pc, hpc⟩ : ∃ pc, pl * ch = pc := ⟨_, rfl⟩
      have HRF3 := Aside0.mk (show rPutM X fr room slot z ch pl b = if (b.length : Int) ≠ min ch (z - pc) then (X, 1) else (over X (fr + slot * room + pc).toNat b, 0) by rw [HRF2.out, if_neg (show ¬ ((0 : Int) ≠ 0 ∨ pl < 0 ∨ countN z ch ≤ pl) by omega), hpc])
      rw [hpc] at p0 p1
      have k1 : wrap64 (pl * ch) = pc := by rw [hpc]; unfold wrap64; omega
      have k1' : IntKind.i64.wrap (pl * ch) = pc := (i64_w _).trans k1
      clear hE hN hp0 hpn HRF2 hpc
      have hbl2 : b.length < 9000000000000000000 := by omega
      by_cases hcz : ch < z - pc
      · have qc : decide (ch < z - pc) = true := decide_eq_true hcz
        have HMN := Aside0.mk (show min ch (z - pc) = ch by omega)
        have hle : ch ≤ z - pc := by omega
        clear hcz
        by_cases hbn : (b.length : Int) = ch
        · have qb : ((b.length : Int) == ch) = true := beq_iff_eq.mpr hbn
          have qb2 : ((b.length : Int) != ch) = false := by rw [bne, qb]; rfl
          have hbz : (b.length : Int) ≤ z - pc := by omega
          have HRF4 := Aside0.mk (show rPutM X fr room slot z ch pl b = (over X (fr + slot * room + pc).toNat b, 0) by rw [HRF3.out, HMN.out, if_neg (by omega)])
          obtain ⟨sr, hsr⟩ : ∃ sr, slot * room = sr := ⟨_, rfl⟩
          have hsr2 : 0 ≤ sr ∧ sr ≤ room := by
            obtain rfl | rfl : slot = 0 ∨ slot = 1 := by omega
            · rw [Int.zero_mul] at hsr; omega
            · rw [Int.one_mul] at hsr; omega
          have k2 : wrap64 (slot * room) = sr := by rw [hsr]; unfold wrap64; omega
          have k2' : IntKind.i64.wrap (slot * room) = sr := (i64_w _).trans k2
          obtain ⟨o, ho⟩ : ∃ o : Nat, fr + sr + pc = (o : Int) := ⟨(fr + sr + pc).toNat, by omega⟩
          have k3 : wrap64 (fr + sr) = fr + sr := by unfold wrap64; omega
          have k3' : IntKind.i64.wrap (fr + sr) = fr + sr := (i64_w _).trans k3
          have k4 : wrap64 (fr + sr + pc) = (o : Int) := by rw [ho]; unfold wrap64; omega
          have k4' : IntKind.i64.wrap (fr + sr + pc) = (o : Int) := (i64_w _).trans k4
          rw [hsr, ho, Int.toNat_natCast] at HRF4
          have hol : o + b.length ≤ X.length := by omega
          clear hsr ho hbn HRF3 HMN
          unfold Tgt Rs
          go_enter Tryz.func19, Tryz.ntmps19
          go_wp2_with (first | (go_at_call 38; (with_reducible refine (HBAD.out _).mono ?_); rintro e w1 ⟨rfl, hb1⟩; have HB1 := Aside0.mk (below_trans HBA.out hb1); have HG1 := Aside0.mk (blk_below HG.out hb1); have HT1 := Aside0.mk (blk_below HT.out hb1); obtain ⟨hk0, hk1, hk2, hk3, hk4⟩ := tgt_cells HT1.out; clear hb1) | (go_at_call 39; (with_reducible refine (HCT.out _).mono ?_); rintro e w2 ⟨rfl, m2, rfl⟩; have HB2 := Aside0.mk (below_trans HB1.out (pw_below_drewN (Below.refl _ _) m2)); have HG2 := Aside0.mk (blk_below HG1.out (pw_below_drewN (Below.refl _ _) m2)); have HT2 := Aside0.mk (blk_below HT1.out (pw_below_drewN (Below.refl _ _) m2)); clear hk0 hk1 hk2 hk3 hk4; obtain ⟨hk0, hk1, hk2, hk3, hk4⟩ := tgt_cells HT2.out; have hc0 := cellB HG2.out 0 _ rfl; have hc1 := cellB HG2.out 1 _ rfl; have hc2 := cellB HG2.out 2 _ rfl))
          obtain ⟨wz, hwz⟩ : ∃ wz, w1.drewN m2 = wz := ⟨_, rfl⟩
          rw [hwz] at HB2 HG2 ⊢
          clear hk0 hk1 hk2 hk3 hk4 hc0 hc1 hc2 hwz k1 k1' k2 k2' k3 k3' k4 k4' qp qn qn2 qc qb qb2
          have HBZ := Aside0.mk (below_drew HB2.out)
          have HGZ := Aside0.mk (show wz.drew.heap[w.heap.size]? = some (.cells #[.slice (some ad) X.length c, .int .i64 fr, .int .i64 room] 49) from HG2.out)
          have HLT := Aside0.mk (show (X.take o).length = o by rw [List.length_take]; omega)
          have HTK := Aside0.mk (show Kd.C (Kd.int .u8) wz.drew (some ad) o (X.take o) from by
            have h := C8.take (Kd.C_below HX.out HBZ.out) (m := o) (by omega)
            unfold C8 at h
            rwa [HLT.out] at h)
          obtain ⟨e, he⟩ : ∃ e : Nat, o + b.length = e := ⟨_, rfl⟩
          have he2 : e ≤ X.length := by omega
          have hoc : o ≤ c := by omega
          have k5 : wrap64 ((o : Int) + (b.length : Int)) = (e : Int) := wrap_nat o b.length e he (by omega)
          have f2 : 0 ≤ (e : Int) ∧ (e : Int) ≤ (X.length : Int) := ⟨Int.natCast_nonneg e, Int.ofNat_le.mpr he2⟩
          obtain ⟨AD, hAD⟩ : ∃ AD, (if c = e then some ad else some (ad.add e)) = AD := ⟨_, rfl⟩
          have HLD := Aside0.mk (show (X.drop e).length = X.length - e by rw [List.length_drop])
          have HDR := Aside0.mk (show Kd.C (Kd.int .u8) wz.drew AD (X.length - e) (X.drop e) from by
            have h := Kd.C_drop (c := c) (Kd.C_below HX.out HBZ.out) (m := e) he2 hc
            rw [show (Kd.int .u8).sz = 1 from rfl, Nat.mul_one] at h
            rw [show (Option.map (fun x : Addr => x.add e) (some ad)) = some (ad.add e) from rfl, hAD, HLD.out] at h
            exact h)
          have HE := Aside0.mk he
          have HOV := Aside0.mk (show X.take o ++ b ++ X.drop e = over X o b by unfold over; rw [he])
          clear he he2
          refine start_ (n := 17) (S := fun w' => w'.cell? ⟨w.heap.size, 0, none⟩ = some (.slice (some ad) X.length c)) (ds := []) (bz 17 0) (by kernel_rfl) rfl rfl ((cellB HGZ.out 0 _ rfl)) (fun hHeld => ?_)
          refine pz 0 (some 76) (bz 17 1) ?_
          refine pz 1 (some 77) (bz 17 3) ?_
          refine pz 3 (some 79) (bz 17 11) ?_
          refine pz 6 (some 82) (bz 17 75) ?_
          refine pz 8 (some 84) (bz 17 331) ?_
          refine pz 10 (some 86) (bz 17 1355) ?_
          refine pz 11 (some 87) (bz 17 3403) ?_
          refine pz 12 (some 88) (bz 17 7499) ?_
          refine pz 13 (some 89) (bz 17 15691) ?_
          refine tz1 2 (some 78) (bz 17 15695) hHeld ?_
          refine pz 4 (some 80) (bz 17 15711) ?_
          refine tz1 9 (some 85) (bz 17 16223) hHeld ?_
          refine pz 14 (some 90) (bz 17 32607) ?_
          refine one_ (i := 5) (N := some 81) (bz 17 32639) rfl rfl (by kernel_rfl) (by decide) (fun K hK => ?_)
          refine app8_step (q := wz.drew.heap.size) info5 Tryz.underlying22 (by rfl) rfl (.tmp 76) (.tmp 80) rfl (.slice none 0 0) [] (X.take o) (some ad) o _ rfl rfl (Row8.nil _ _) HTK.out (Nat.le_refl _) (by simp only [List.length_nil]; omega) ?_
          intro A3 c3 w3 hr3 hb3 _
          rw [List.nil_append] at hr3 ⊢
          rw [HLT.out] at hr3 ⊢
          have HR3 := Aside0.mk hr3
          have HB3 := Aside0.mk (below_trans HBZ.out hb3)
          have HG3 := Aside0.mk (blk_below HGZ.out hb3)
          have HH3 := Aside0.mk hb3
          clear hr3 hb3
          refine hK.out _ _ ((cellB HG3.out 0 _ rfl)) (fun hHeld => ?_)
          clear hK K
          refine norm_ (a' := ?_) ?_ ?_
          rotate_left
          · show Act.put _ (some 81) _ = _
            simp only [Act.put, List.setIfInBounds_toArray, List.set_cons_zero, List.set_cons_succ, i64_w, i32_w]
            rfl
          refine one_ (i := 7) (N := some 83) (bz 17 32767) rfl rfl (by kernel_rfl) (by decide) (fun K hK => ?_)
          refine app8_step (q := wz.drew.heap.size) info5 Tryz.underlying22 (by rfl) rfl (.tmp 81) (.tmp 82) rfl (.slice A3 o c3) (X.take o) b Ab b.length cb rfl rfl HR3.out (Kd.C_below HBB.out HB3.out) HH3.out.size (by rw [HLT.out]; omega) ?_
          intro A4 c4 w4 hr4 hb4 _
          rw [List.length_append, HLT.out] at hr4 ⊢
          have HR4 := Aside0.mk hr4
          have HH4 := Aside0.mk (below_more HH3.out hb4)
          have HB4 := Aside0.mk (below_trans HBZ.out HH4.out)
          have HG4 := Aside0.mk (blk_below HGZ.out HH4.out)
          clear hr4 hb4
          refine hK.out _ _ ((cellB HG4.out 0 _ rfl)) (fun hHeld => ?_)
          clear hK K
          refine norm_ (a' := ?_) ?_ ?_
          rotate_left
          · show Act.put _ (some 83) _ = _
            simp only [Act.put, List.setIfInBounds_toArray, List.set_cons_zero, List.set_cons_succ, i64_w, i32_w]
            rfl
          refine one_ (i := 15) (N := some 91) (bz 17 65535) rfl rfl (by kernel_rfl) (by decide) (fun K hK => ?_)
          refine app8_step (q := wz.drew.heap.size) info5 Tryz.underlying22 (by rfl) rfl (.tmp 83) (.tmp 90) rfl (.slice A4 (o + b.length) c4) (X.take o ++ b) (X.drop e) AD (X.length - e) _ rfl rfl HR4.out (Kd.C_below HDR.out HH4.out) HH4.out.size (by rw [List.length_append, HLT.out]; omega) ?_
          intro A5 c5 w5 hr5 hb5 _
          rw [HOV.out] at hr5 ⊢
          have HR5 := Aside0.mk hr5
          have HH5 := Aside0.mk (below_more HH4.out hb5)
          have HB5 := Aside0.mk (below_trans HBZ.out HH5.out)
          have HG5 := Aside0.mk (blk_below HGZ.out HH5.out)
          clear hr5 hb5
          refine hK.out _ _ ((cellB HG5.out 0 _ rfl)) (fun hHeld => ?_)
          clear hK K
          refine norm_ (a' := ?_) ?_ ?_
          rotate_left
          · show Act.put _ (some 91) _ = _
            simp only [Act.put, List.setIfInBounds_toArray, List.set_cons_zero, List.set_cons_succ, i64_w, i32_w]
            rfl
          refine pz 16 (some 16) (bz 17 131071) ?_
          refine done_ (by kernel_rfl) ?_
          go_wp2_with (fail)
          refine bodyPost_ret (results_tmp2 rfl _ _ _) rfl ?_
          rw [HRF4.out]
          exact ⟨HB5.out, A5, c5, rfl, .inr ⟨rfl, (Kd.R_reads' HR5.out).2.1, Fr8_of (HR5.out.lower HBZ.out.size)⟩⟩
        · have HR := Aside0.mk (show rPutM X fr room slot z ch pl b = (X, 1) by rw [HRF3.out, HMN.out, if_pos hbn])
          have qb : ((b.length : Int) == ch) = false := beq_eq_false_iff_ne.mpr hbn
          have qb2 : ((b.length : Int) != ch) = true := bne_iff_ne.mpr hbn
          clear hbn HRF3
          unfold Tgt Rs
          go_enter Tryz.func19, Tryz.ntmps19
          go_wp2_with (first | (go_at_call 38; (with_reducible refine (HBAD.out _).mono ?_); rintro e w1 ⟨rfl, hb1⟩; have HB1 := Aside0.mk (below_trans HBA.out hb1); have HG1 := Aside0.mk (blk_below HG.out hb1); have HT1 := Aside0.mk (blk_below HT.out hb1); obtain ⟨hk0, hk1, hk2, hk3, hk4⟩ := tgt_cells HT1.out; clear hb1) | (go_at_call 39; (with_reducible refine (HCT.out _).mono ?_); rintro e w2 ⟨rfl, m2, rfl⟩; have HB2 := Aside0.mk (below_trans HB1.out (pw_below_drewN (Below.refl _ _) m2)); have HG2 := Aside0.mk (blk_below HG1.out (pw_below_drewN (Below.refl _ _) m2)); have HT2 := Aside0.mk (blk_below HT1.out (pw_below_drewN (Below.refl _ _) m2)); clear hk0 hk1 hk2 hk3 hk4; obtain ⟨hk0, hk1, hk2, hk3, hk4⟩ := tgt_cells HT2.out; have hc0 := cellB HG2.out 0 _ rfl; have hc1 := cellB HG2.out 1 _ rfl; have hc2 := cellB HG2.out 2 _ rfl))
          refine bodyPost_ret (results_tmp2 rfl _ _ _) rfl ?_
          rw [HR.out]
          exact ⟨HB2.out, some ad, c, rfl, .inl ⟨show (1 : Int) ≠ 0 by decide, rfl, rfl, rfl⟩⟩
      · have qc : decide (ch < z - pc) = false := decide_eq_false hcz
        have HMN := Aside0.mk (show min ch (z - pc) = z - pc by omega)
        clear hcz
        by_cases hbn : (b.length : Int) = z - pc
        · have qb : ((b.length : Int) == z - pc) = true := beq_iff_eq.mpr hbn
          have qb2 : ((b.length : Int) != z - pc) = false := by rw [bne, qb]; rfl
          have hbz : (b.length : Int) ≤ z - pc := by omega
          have HRF4 := Aside0.mk (show rPutM X fr room slot z ch pl b = (over X (fr + slot * room + pc).toNat b, 0) by rw [HRF3.out, HMN.out, if_neg (by omega)])
          obtain ⟨sr, hsr⟩ : ∃ sr, slot * room = sr := ⟨_, rfl⟩
          have hsr2 : 0 ≤ sr ∧ sr ≤ room := by
            obtain rfl | rfl : slot = 0 ∨ slot = 1 := by omega
            · rw [Int.zero_mul] at hsr; omega
            · rw [Int.one_mul] at hsr; omega
          have k2 : wrap64 (slot * room) = sr := by rw [hsr]; unfold wrap64; omega
          have k2' : IntKind.i64.wrap (slot * room) = sr := (i64_w _).trans k2
          obtain ⟨o, ho⟩ : ∃ o : Nat, fr + sr + pc = (o : Int) := ⟨(fr + sr + pc).toNat, by omega⟩
          have k3 : wrap64 (fr + sr) = fr + sr := by unfold wrap64; omega
          have k3' : IntKind.i64.wrap (fr + sr) = fr + sr := (i64_w _).trans k3
          have k4 : wrap64 (fr + sr + pc) = (o : Int) := by rw [ho]; unfold wrap64; omega
          have k4' : IntKind.i64.wrap (fr + sr + pc) = (o : Int) := (i64_w _).trans k4
          rw [hsr, ho, Int.toNat_natCast] at HRF4
          have hol : o + b.length ≤ X.length := by omega
          clear hsr ho hbn HRF3 HMN
          unfold Tgt Rs
          go_enter Tryz.func19, Tryz.ntmps19
          go_wp2_with (first | (go_at_call 38; (with_reducible refine (HBAD.out _).mono ?_); rintro e w1 ⟨rfl, hb1⟩; have HB1 := Aside0.mk (below_trans HBA.out hb1); have HG1 := Aside0.mk (blk_below HG.out hb1); have HT1 := Aside0.mk (blk_below HT.out hb1); obtain ⟨hk0, hk1, hk2, hk3, hk4⟩ := tgt_cells HT1.out; clear hb1) | (go_at_call 39; (with_reducible refine (HCT.out _).mono ?_); rintro e w2 ⟨rfl, m2, rfl⟩; have HB2 := Aside0.mk (below_trans HB1.out (pw_below_drewN (Below.refl _ _) m2)); have HG2 := Aside0.mk (blk_below HG1.out (pw_below_drewN (Below.refl _ _) m2)); have HT2 := Aside0.mk (blk_below HT1.out (pw_below_drewN (Below.refl _ _) m2)); clear hk0 hk1 hk2 hk3 hk4; obtain ⟨hk0, hk1, hk2, hk3, hk4⟩ := tgt_cells HT2.out; have hc0 := cellB HG2.out 0 _ rfl; have hc1 := cellB HG2.out 1 _ rfl; have hc2 := cellB HG2.out 2 _ rfl))
          obtain ⟨wz, hwz⟩ : ∃ wz, w1.drewN m2 = wz := ⟨_, rfl⟩
          rw [hwz] at HB2 HG2 ⊢
          clear hk0 hk1 hk2 hk3 hk4 hc0 hc1 hc2 hwz k1 k1' k2 k2' k3 k3' k4 k4' qp qn qn2 qc qb qb2
          have HBZ := Aside0.mk (below_drew HB2.out)
          have HGZ := Aside0.mk (show wz.drew.heap[w.heap.size]? = some (.cells #[.slice (some ad) X.length c, .int .i64 fr, .int .i64 room] 49) from HG2.out)
          have HLT := Aside0.mk (show (X.take o).length = o by rw [List.length_take]; omega)
          have HTK := Aside0.mk (show Kd.C (Kd.int .u8) wz.drew (some ad) o (X.take o) from by
            have h := C8.take (Kd.C_below HX.out HBZ.out) (m := o) (by omega)
            unfold C8 at h
            rwa [HLT.out] at h)
          obtain ⟨e, he⟩ : ∃ e : Nat, o + b.length = e := ⟨_, rfl⟩
          have he2 : e ≤ X.length := by omega
          have hoc : o ≤ c := by omega
          have k5 : wrap64 ((o : Int) + (b.length : Int)) = (e : Int) := wrap_nat o b.length e he (by omega)
          have f2 : 0 ≤ (e : Int) ∧ (e : Int) ≤ (X.length : Int) := ⟨Int.natCast_nonneg e, Int.ofNat_le.mpr he2⟩
          obtain ⟨AD, hAD⟩ : ∃ AD, (if c = e then some ad else some (ad.add e)) = AD := ⟨_, rfl⟩
          have HLD := Aside0.mk (show (X.drop e).length = X.length - e by rw [List.length_drop])
          have HDR := Aside0.mk (show Kd.C (Kd.int .u8) wz.drew AD (X.length - e) (X.drop e) from by
            have h := Kd.C_drop (c := c) (Kd.C_below HX.out HBZ.out) (m := e) he2 hc
            rw [show (Kd.int .u8).sz = 1 from rfl, Nat.mul_one] at h
            rw [show (Option.map (fun x : Addr => x.add e) (some ad)) = some (ad.add e) from rfl, hAD, HLD.out] at h
            exact h)
          have HE := Aside0.mk he
          have HOV := Aside0.mk (show X.take o ++ b ++ X.drop e = over X o b by unfold over; rw [he])
          clear he he2
          refine start_ (n := 17) (S := fun w' => w'.cell? ⟨w.heap.size, 0, none⟩ = some (.slice (some ad) X.length c)) (ds := []) (bz 17 0) (by kernel_rfl) rfl rfl ((cellB HGZ.out 0 _ rfl)) (fun hHeld => ?_)
          refine pz 0 (some 76) (bz 17 1) ?_
          refine pz 1 (some 77) (bz 17 3) ?_
          refine pz 3 (some 79) (bz 17 11) ?_
          refine pz 6 (some 82) (bz 17 75) ?_
          refine pz 8 (some 84) (bz 17 331) ?_
          refine pz 10 (some 86) (bz 17 1355) ?_
          refine pz 11 (some 87) (bz 17 3403) ?_
          refine pz 12 (some 88) (bz 17 7499) ?_
          refine pz 13 (some 89) (bz 17 15691) ?_
          refine tz1 2 (some 78) (bz 17 15695) hHeld ?_
          refine pz 4 (some 80) (bz 17 15711) ?_
          refine tz1 9 (some 85) (bz 17 16223) hHeld ?_
          refine pz 14 (some 90) (bz 17 32607) ?_
          refine one_ (i := 5) (N := some 81) (bz 17 32639) rfl rfl (by kernel_rfl) (by decide) (fun K hK => ?_)
          refine app8_step (q := wz.drew.heap.size) info5 Tryz.underlying22 (by rfl) rfl (.tmp 76) (.tmp 80) rfl (.slice none 0 0) [] (X.take o) (some ad) o _ rfl rfl (Row8.nil _ _) HTK.out (Nat.le_refl _) (by simp only [List.length_nil]; omega) ?_
          intro A3 c3 w3 hr3 hb3 _
          rw [List.nil_append] at hr3 ⊢
          rw [HLT.out] at hr3 ⊢
          have HR3 := Aside0.mk hr3
          have HB3 := Aside0.mk (below_trans HBZ.out hb3)
          have HG3 := Aside0.mk (blk_below HGZ.out hb3)
          have HH3 := Aside0.mk hb3
          clear hr3 hb3
          refine hK.out _ _ ((cellB HG3.out 0 _ rfl)) (fun hHeld => ?_)
          clear hK K
          refine norm_ (a' := ?_) ?_ ?_
          rotate_left
          · show Act.put _ (some 81) _ = _
            simp only [Act.put, List.setIfInBounds_toArray, List.set_cons_zero, List.set_cons_succ, i64_w, i32_w]
            rfl
          refine one_ (i := 7) (N := some 83) (bz 17 32767) rfl rfl (by kernel_rfl) (by decide) (fun K hK => ?_)
          refine app8_step (q := wz.drew.heap.size) info5 Tryz.underlying22 (by rfl) rfl (.tmp 81) (.tmp 82) rfl (.slice A3 o c3) (X.take o) b Ab b.length cb rfl rfl HR3.out (Kd.C_below HBB.out HB3.out) HH3.out.size (by rw [HLT.out]; omega) ?_
          intro A4 c4 w4 hr4 hb4 _
          rw [List.length_append, HLT.out] at hr4 ⊢
          have HR4 := Aside0.mk hr4
          have HH4 := Aside0.mk (below_more HH3.out hb4)
          have HB4 := Aside0.mk (below_trans HBZ.out HH4.out)
          have HG4 := Aside0.mk (blk_below HGZ.out HH4.out)
          clear hr4 hb4
          refine hK.out _ _ ((cellB HG4.out 0 _ rfl)) (fun hHeld => ?_)
          clear hK K
          refine norm_ (a' := ?_) ?_ ?_
          rotate_left
          · show Act.put _ (some 83) _ = _
            simp only [Act.put, List.setIfInBounds_toArray, List.set_cons_zero, List.set_cons_succ, i64_w, i32_w]
            rfl
          refine one_ (i := 15) (N := some 91) (bz 17 65535) rfl rfl (by kernel_rfl) (by decide) (fun K hK => ?_)
          refine app8_step (q := wz.drew.heap.size) info5 Tryz.underlying22 (by rfl) rfl (.tmp 83) (.tmp 90) rfl (.slice A4 (o + b.length) c4) (X.take o ++ b) (X.drop e) AD (X.length - e) _ rfl rfl HR4.out (Kd.C_below HDR.out HH4.out) HH4.out.size (by rw [List.length_append, HLT.out]; omega) ?_
          intro A5 c5 w5 hr5 hb5 _
          rw [HOV.out] at hr5 ⊢
          have HR5 := Aside0.mk hr5
          have HH5 := Aside0.mk (below_more HH4.out hb5)
          have HB5 := Aside0.mk (below_trans HBZ.out HH5.out)
          have HG5 := Aside0.mk (blk_below HGZ.out HH5.out)
          clear hr5 hb5
          refine hK.out _ _ ((cellB HG5.out 0 _ rfl)) (fun hHeld => ?_)
          clear hK K
          refine norm_ (a' := ?_) ?_ ?_
          rotate_left
          · show Act.put _ (some 91) _ = _
            simp only [Act.put, List.setIfInBounds_toArray, List.set_cons_zero, List.set_cons_succ, i64_w, i32_w]
            rfl
          refine pz 16 (some 16) (bz 17 131071) ?_
          refine done_ (by kernel_rfl) ?_
          go_wp2_with (fail)
          refine bodyPost_ret (results_tmp2 rfl _ _ _) rfl ?_
          rw [HRF4.out]
          exact ⟨HB5.out, A5, c5, rfl, .inr ⟨rfl, (Kd.R_reads' HR5.out).2.1, Fr8_of (HR5.out.lower HBZ.out.size)⟩⟩
        · have HR := Aside0.mk (show rPutM X fr room slot z ch pl b = (X, 1) by rw [HRF3.out, HMN.out, if_pos hbn])
          have qb : ((b.length : Int) == z - pc) = false := beq_eq_false_iff_ne.mpr hbn
          have qb2 : ((b.length : Int) != z - pc) = true := bne_iff_ne.mpr hbn
          clear hbn HRF3
          unfold Tgt Rs
          go_enter Tryz.func19, Tryz.ntmps19
          go_wp2_with (first | (go_at_call 38; (with_reducible refine (HBAD.out _).mono ?_); rintro e w1 ⟨rfl, hb1⟩; have HB1 := Aside0.mk (below_trans HBA.out hb1); have HG1 := Aside0.mk (blk_below HG.out hb1); have HT1 := Aside0.mk (blk_below HT.out hb1); obtain ⟨hk0, hk1, hk2, hk3, hk4⟩ := tgt_cells HT1.out; clear hb1) | (go_at_call 39; (with_reducible refine (HCT.out _).mono ?_); rintro e w2 ⟨rfl, m2, rfl⟩; have HB2 := Aside0.mk (below_trans HB1.out (pw_below_drewN (Below.refl _ _) m2)); have HG2 := Aside0.mk (blk_below HG1.out (pw_below_drewN (Below.refl _ _) m2)); have HT2 := Aside0.mk (blk_below HT1.out (pw_below_drewN (Below.refl _ _) m2)); clear hk0 hk1 hk2 hk3 hk4; obtain ⟨hk0, hk1, hk2, hk3, hk4⟩ := tgt_cells HT2.out; have hc0 := cellB HG2.out 0 _ rfl; have hc1 := cellB HG2.out 1 _ rfl; have hc2 := cellB HG2.out 2 _ rfl))
          refine bodyPost_ret (results_tmp2 rfl _ _ _) rfl ?_
          rw [HR.out]
          exact ⟨HB2.out, some ad, c, rfl, .inl ⟨show (1 : Int) ≠ 0 by decide, rfl, rfl, rfl⟩⟩
    · have HR := Aside0.mk (show rPutM X fr room slot z ch pl b = (X, 1) by rw [HRF2.out, if_pos (.inl hE0)])
      have e1 : (E == 0) = false := beq_eq_false_iff_ne.mpr hE0
      have e2 : (E != 0) = true := bne_iff_ne.mpr hE0
      clear hE hN hE0 HRF2
      unfold Tgt Rs
      go_enter Tryz.func19, Tryz.ntmps19
      go_wp2_with (first | (go_at_call 38; (with_reducible refine (HBAD.out _).mono ?_); rintro e w1 ⟨rfl, hb1⟩; have HB1 := Aside0.mk (below_trans HBA.out hb1); have HG1 := Aside0.mk (blk_below HG.out hb1); have HT1 := Aside0.mk (blk_below HT.out hb1); obtain ⟨hk0, hk1, hk2, hk3, hk4⟩ := tgt_cells HT1.out; clear hb1) | (go_at_call 39; (with_reducible refine (HCT.out _).mono ?_); rintro e w2 ⟨rfl, m2, rfl⟩; have HB2 := Aside0.mk (below_trans HB1.out (pw_below_drewN (Below.refl _ _) m2)); have HG2 := Aside0.mk (blk_below HG1.out (pw_below_drewN (Below.refl _ _) m2)); have HT2 := Aside0.mk (blk_below HT1.out (pw_below_drewN (Below.refl _ _) m2)); clear hk0 hk1 hk2 hk3 hk4; obtain ⟨hk0, hk1, hk2, hk3, hk4⟩ := tgt_cells HT2.out; have hc0 := cellB HG2.out 0 _ rfl; have hc1 := cellB HG2.out 1 _ rfl; have hc2 := cellB HG2.out 2 _ rfl))
      refine bodyPost_ret (results_tmp2 rfl _ _ _) rfl ?_
      rw [HR.out]
      exact ⟨HB2.out, some ad, c, rfl, .inl ⟨show (1 : Int) ≠ 0 by decide, rfl, rfl, rfl⟩⟩

end Go.Proofs.YtfpfnolpoklefaaGreatDoor.Lo
/- Slots of a law, opened beside the reference. -/
namespace Go.Proofs.YtfpfnolpoklefaaGreatDoor.Lo
open Go.Proofs.YtfpfnolpoklefaaGreatDoor.Dk
open Go.RowKit Go.Proofs.YtfpfnolpoklefaaGreatDoorW.PrintWords Go.Proofs.YtfpfnolpoklefaaGreatDoorW.PrintLast Go.Proofs.YtfpfnolpoklefaaGreatDoorW.PrintMore
set_option linter.unusedVariables false
set_option linter.unusedSimpArgs false
set_option maxRecDepth 30000
variable {w w' w0 w1 w2 wr : World} {A Ab Ar : Option Addr} {B B' s g c cb len k nr cr : Nat} {F F' : Nat → Prop} {D D' : DM} {fr n slot z room ch pl ver exp sec : Int} {v : Value} {X b : List Int}
theorem DiskAt.lower (h : DiskAt w B g F D) (hb : B' ≤ B) : DiskAt w B' g F D := by
  obtain ⟨vs, vh, vc, h⟩ := h
  exact ⟨vs, vh, vc, h.blk, Kd.R_lower h.sec hb, Kd.R_lower h.held hb, Kd.R_lower h.choice hb, h.own, fun k hk => ⟨Nat.le_trans hb (h.lt k hk).1, (h.lt k hk).2⟩⟩
theorem LAt.lower (h : LAt w B s g F D fr n) (hb : B' ≤ B) : LAt w B' s g F D fr n := ⟨h.blk, DiskAt.lower h.d hb, h.nF⟩
theorem Ls.under (h : Ls w1 w s g F D fr n) (hb : Below w0.heap.size w0 w) (hz : w0.heap.size ≤ w1.heap.size) (hg : Sh.Glob w0) : Ls w0 w s g F D fr n := ⟨h.S.lower hz, h.K, hg, hb⟩
/-- A row of bytes that is there, in no block of the disk's. -/
def Rd (w : World) (F : Nat → Prop) (A : Option Addr) (xs : List Int) : Prop := C8 w A xs ∧ ∀ a, A = some a → a.block < w.heap.size ∧ ¬ F a.block
theorem Rd.below (h : Rd w F A X) (hb : Below w.heap.size w w') : Rd w' F A X := ⟨Kd.C_below h.1 hb, fun a ha => ⟨Nat.lt_of_lt_of_le (h.2 a ha).1 hb.size, (h.2 a ha).2⟩⟩
theorem Rd.keep (h : Rd w F A X) (hk : Keeps w w' F F') : Rd w' F' A X := hk.1 A X h
theorem fBytes (h : St w0 w g F D) (hok : DOk D) : Calls Tryz.prog 20 #[.pointer (some ⟨g, 0, none⟩)] w fun e w' => ∃ A c, e = .returned (.slice A (bytesM D).length c) ∧ (bytesM D).length ≤ c ∧ Fr8 w w' A (bytesM D) ∧ Below w.heap.size w w' := by
  obtain ⟨⟨_, _, _, h⟩, _⟩ := h
  refine (Bytes_calls h hok).mono ?_
  rintro e w' ⟨v, rfl, hr, hb⟩
  obtain ⟨A, c, rfl⟩ := Kd.R_slice hr
  exact ⟨A, c, rfl, (Kd.R_reads' hr).2.1, Fr8_of hr, hb⟩
theorem LAt.frame {G : Nat → Prop} (h : LAt w B s g F D fr n) (hu : Upd w w' G) (hs : ¬ G s) (hd : ∀ k, F k → ¬ G k) : LAt w' B s g F D fr n := ⟨(hu.block s (blk_lt h.blk) hs).trans h.blk, h.d.frame hu (fun k _ hk => hd k hk), h.nF⟩
theorem Fr8.rd {w1 : World} (h : Fr8 w1 w A X) (hF : ∀ k, F k → k < w1.heap.size) : Rd w F A X := ⟨h.C, fun a ha => ⟨(h.own a ha).2, fun hf => by have h1 := (h.own a ha).1; have h2 := hF _ hf; omega⟩⟩
theorem Rd.frame {G : Nat → Prop} (h : Rd w F A X) (hu : Upd w w' G) (hd : ∀ a, A = some a → ¬ G a.block) : Rd w' F A X := ⟨h.1.upd hu (fun a ha => ⟨(h.2 a ha).1, hd a ha⟩), fun a ha => ⟨Nat.lt_of_lt_of_le (h.2 a ha).1 hu.size, (h.2 a ha).2⟩⟩
theorem range_of {t h : Nat} {l : List Value} {m : Nat × Nat} (hb : w.heap[h]? = some (.cells l.toArray t m)) : w.rangeAt h 0 l := fun j v hj => by
  rw [Nat.zero_add]
  exact cellB hb j v (by simpa using hj)
theorem store_ref (h : w.heap[g]? = some (.cells #[.slice none 0 0, .int .i64 0, .int .i64 0] 49)) (A : Option Addr) (l c : Nat) (f r : Int) : (Instr.storeAt 49 (.pointer (some ⟨g, 0, none⟩)) (.agg #[.slice A l c, .int .i64 f, .int .i64 r])).run Tryz.prog w = .ok () (w.setRow g #[.slice A l c, .int .i64 f, .int .i64 r]) :=
  run_store_block g 49 _ _ _ h (by kernel_rfl) rfl (by simp [Value.oneCell'])
theorem results5 {P : Program} {fn : Func} {a b p u v : Tmp} {ty : TypeId} (h : fn.results = #[.tmp a, .tmp b, .cell p ty, .tmp u, .tmp v]) (tmps : Array Value) (w : World) (g : Nat) (t : TypeId) (cs : Array Value) (fr : Nat × Nat) (d : TypeDesc)
    (hp : tmps.getD p undef = .pointer (some ⟨g, 0, none⟩)) (hg : w.heap[g]? = some (.cells cs t fr))
    (hu : P.underlying ty = some d) (hd : (match d with | .struct _ | .array _ _ => true | _ => false) = true) (hi : (P.info? ty).map (·.size) = some cs.size) :
    (results fn tmps).run P w = .ok (.tuple #[tmps.getD a undef, tmps.getD b undef, .agg cs, tmps.getD u undef, tmps.getD v undef]) w := by
  have hp' : tmps[p]?.getD undef = .pointer (some ⟨g, 0, none⟩) := by simpa using hp
  simp [results, h, hp', asAddr, run_loadVar_row w g t ty cs fr d hg hu hd hi]
theorem exec_store {P : Program} {ρ : Operand → Value} {o : Oper} {ty : TypeId} {x y : Operand} {q v : Value} {w w1 : World} (ho : o.op = .store ty x y) (hx : ρ x = q) (hy : ρ y = v) (hrun : (Instr.storeAt ty q v).run P w = .ok () w1) : (execOp ρ o).run P w = .ok .skip w1 := by
  subst hx; subst hy
  unfold execOp
  simp [ho, hrun]
/-- What 'opened' hands back: no slots, alike; or slots, and the document's. -/
inductive OpPo (w w' : World) (b : List Int) (fr n : Int) (e : Ending) : Prop where
  | no (A1 : Option Addr) (n1 c1 : Nat) (he : e = .returned (.tuple #[.pointer none, .pointer none, Rs (.slice A1 n1 c1) 0 0, .bool false, .bool true])) (hb : Below w.heap.size w w')
  | yes (s g : Nat) (F : Nat → Prop) (A : Option Addr) (XL c k : Nat) (he : e = .returned (.tuple #[.pointer (some ⟨s, 0, none⟩), .pointer (some ⟨g, 0, none⟩), Rs (.slice A XL c) (64 * fr) (64 * n), .bool true, .bool true])) (hL : Ls w w' s g F (newM b k k) fr n) (hk : k ≤ 200) (hx : XL = (bytesM (newM b k k)).length) (hc : XL ≤ c) (hr : Rd w' F A (bytesM (newM b k k)))
set_option maxHeartbeats 16000000 in
theorem opened_calls (hg : Sh.Glob w) (hC : C8 w A b) (hc : b.length ≤ c) (hbl : b.length ≤ 9000) (hs : sec ≤ 200) : Calls Tryz.prog 17 #[.slice A b.length c, .int .i64 sec, .int .i64 fr, .int .i64 n] w fun e w' => OpPo w w' b fr n e := by
  have HG := Aside0.mk hg
  have HCa := Aside0.mk (Kd.C_below hC (below_alloc (Below.refl w.heap.size w) (.cells #[.slice none 0 0, .int .i64 0, .int .i64 0] 49)))
  have HBL := Aside0.mk (below_alloc (Below.refl w.heap.size w) (.cells #[.slice none 0 0, .int .i64 0, .int .i64 0] 49))
  have HBK := Aside0.mk (heap_alloc_new w (.cells #[.slice none 0 0, .int .i64 0, .int .i64 0] 49))
  clear hC hg
  by_cases hbad : newBad b sec
  · have HBAD := Aside0.mk hbad
    clear hbad
    go_enter Tryz.func17, Tryz.ntmps17
    go_wp2_with (first | (go_at_call 10; (with_reducible refine (New_fails A c b sec (by omega) HBAD.out).mono ?_); rintro e w1 ⟨rfl, rfl⟩))
    refine bodyPost_ret (results5 rfl _ _ w.heap.size 49 _ (0, 0) _ rfl (heap_alloc_new w _) Tryz.underlying49 rfl (by kernel_rfl)) rfl ?_
    exact .no none 0 0 rfl (below_alloc (Below.refl w.heap.size w) _)
  have hk1 : 1 ≤ sec := by unfold newBad at hbad; omega
  obtain ⟨k, rfl⟩ : ∃ k : Nat, sec = (k : Int) := ⟨sec.toNat, by omega⟩
  have hk2 : k ≤ 200 := by omega
  have HBAD := Aside0.mk hbad
  have hok0 : DOk (newM b k k) := newM_ok b k (by omega)
  have HOK := Aside0.mk hok0
  have HLN := Aside0.mk (newM_len b k)
  have HXL := Aside0.mk (show (bytesM (newM b k k)).length = 64 * k by rw [newM_bytes, flat_length (newM_six b k) _ (Nat.le_refl _), newM_len]; omega)
  obtain ⟨D0, hD0⟩ : ∃ D0, newM b k k = D0 := ⟨_, rfl⟩
  have HD0 := Aside0.mk hD0
  rw [hD0] at HOK HXL HLN
  clear hbad hok0 hD0
  go_enter Tryz.func17, Tryz.ntmps17
  go_wp2_with (first
    | (go_at_call 10; (with_reducible refine (New_calls A c b k (by omega) hc HCa.out HBAD.out).mono ?_); rintro e w1 ⟨g, rfl, hd1, hb1⟩; rw [HD0.out] at hd1; have HD1 := Aside0.mk hd1; have HB1 := Aside0.mk hb1; clear hd1 hb1))
  obtain ⟨F, hF⟩ : ∃ F, F = (fun k => (w.alloc (.cells #[.slice none 0 0, .int .i64 0, .int .i64 0] 49)).heap.size ≤ k ∧ k < w1.heap.size) := ⟨_, rfl⟩
  rw [← hF] at HD1
  clear hF
  have HGA := Aside0.mk (HG.out.below HBL.out)
  have HB1w := Aside0.mk (below_trans HBL.out HB1.out)
  have HBK1 := Aside0.mk (blk_below HBK.out HB1.out)
  have HZ1 := Aside0.mk HBL.out.size
  obtain ⟨wA, hwA⟩ : ∃ wA, w.alloc (.cells #[.slice none 0 0, .int .i64 0, .int .i64 0] 49) = wA := ⟨_, rfl⟩
  rw [hwA] at HGA HB1 HD1 HBK HBL HCa HZ1
  clear hwA
  have hkr : 1 ≤ k := by omega
  by_cases hfit : rFits k fr n
  · have HRO := Aside0.mk (show ∀ W A c XL, XL = 64 * k → Calls Tryz.prog 37 #[.slice A XL c, .int .i64 fr, .int .i64 n] W fun e w' => e = .returned (.tuple #[Rs (.slice A XL c) (64 * fr) (64 * n), .int .i64 0]) ∧ Below W.heap.size W w' from fun W A c XL hXL => (rOpen_calls (w := W) (A := A) (c := c) hXL (by omega) fr n).mono fun e w' ⟨h, hb⟩ => h.elim (fun h => ⟨h.2, hb⟩) (fun h => absurd hfit h.1))
    have HLK := Aside0.mk (show LOk D0 fr n from by
      obtain ⟨f1, f2, f3⟩ := hfit
      exact ⟨HOK.out, f2, f1, by rw [HLN.out]; exact f3, by rw [HLN.out]; omega⟩)
    clear hfit
    go_wp2_with (first
      | (go_at_call 9; (with_reducible refine (lOpen HD1.out HLK.out HGA.out HB1.out).mono ?_); rintro e w2 ⟨s, rfl, hL2, hb2⟩; have HL2 := Aside0.mk hL2; have HB2 := Aside0.mk (below_trans HB1w.out hb2); have HBK2 := Aside0.mk (blk_below HBK1.out hb2); clear hL2 hb2)
      | (go_at_call 20; (with_reducible refine (fBytes HL2.out.st HOK.out).mono ?_); rintro e w3 ⟨A3, c3, rfl, hc3, hr3, hb3⟩; have HR3 := Aside0.mk hr3; have HC3 := Aside0.mk hc3; have HL3 := Aside0.mk (HL2.out.below hb3); have HB3 := Aside0.mk (below_trans HB2.out hb3); have HBK3 := Aside0.mk (blk_below HBK2.out hb3); clear hr3 hc3 hb3)
      | (go_at_call 37; (with_reducible refine (HRO.out _ _ _ _ HXL.out).mono ?_); rintro e w4 ⟨rfl, hb4⟩; have HR4 := Aside0.mk (HR3.out.below hb4); have HL4 := Aside0.mk (HL3.out.below hb4); have HB4 := Aside0.mk (below_trans HB3.out hb4); have HBK4 := Aside0.mk (blk_below HBK3.out hb4); clear hb4))
    have HXC := Aside0.mk (show (bytesM D0).length ≤ c3 ∧ (bytesM D0).length = (bytesM (newM b k k)).length by rw [HD0.out]; exact ⟨HC3.out, rfl⟩)
    obtain ⟨q, hq⟩ : ∃ q, w4.heap.size = q := ⟨_, rfl⟩
    obtain ⟨XL, hXL⟩ : ∃ XL, (bytesM D0).length = XL := ⟨_, rfl⟩
    have HA5 := Aside0.mk (heap_alloc_new w4 (.cells #[.slice A3 XL c3, .int .i64 (64 * fr), .int .i64 (64 * n)] 49))
    have HBA5 := Aside0.mk (below_alloc (Below.refl w4.heap.size w4) (.cells #[.slice A3 XL c3, .int .i64 (64 * fr), .int .i64 (64 * n)] 49))
    rw [hXL] at HXC ⊢
    rw [hq] at HA5 ⊢
    have HBD := Aside0.mk (show Below w4.heap.size w4 (w4.alloc (.cells #[.slice A3 XL c3, .int .i64 (64 * fr), .int .i64 (64 * n)] 49)).drew from below_drew HBA5.out)
    obtain ⟨w5, hw5⟩ : ∃ w5, w4.alloc (.cells #[.slice A3 XL c3, .int .i64 (64 * fr), .int .i64 (64 * n)] 49) = w5 := ⟨_, rfl⟩
    rw [hw5] at HA5 HBD ⊢
    have HRA := Aside0.mk (show w5.drew.rangeAt q 0 [.slice A3 XL c3, .int .i64 (64 * fr), .int .i64 (64 * n)] from range_of HA5.out)
    have HBK5 := Aside0.mk (blk_below HBK4.out HBD.out)
    have HST := Aside0.mk (store_ref HBK5.out A3 XL c3 (64 * fr) (64 * n))
    have HL5 := Aside0.mk (HL4.out.below HBD.out)
    have HR5 := Aside0.mk (HR4.out.below HBD.out)
    have HB5 := Aside0.mk (below_trans HB4.out HBD.out)
    clear hw5
    refine start_ (n := 14) (S := fun w' => w'.rangeAt q 0 [.slice A3 XL c3, .int .i64 (64 * fr), .int .i64 (64 * n)]) (ds := [11]) (bz 14 0) (by kernel_rfl) rfl rfl (HRA.out) (fun hHeld => ?_)
    refine pz 0 (some 53) (bz 14 1) ?_
    refine pz 1 (some 54) (bz 14 3) ?_
    refine pz 3 (some 56) (bz 14 11) ?_
    refine pz 4 (some 57) (bz 14 27) ?_
    refine pz 5 (some 58) (bz 14 59) ?_
    refine pz 6 (some 59) (bz 14 123) ?_
    refine pz 7 (some 60) (bz 14 251) ?_
    refine pz 8 (some 61) (bz 14 507) ?_
    refine pz 9 (some 8) (bz 14 1019) ?_
    refine pz 10 (some 9) (bz 14 2043) ?_
    refine take_ (i := 2) (N := some 55) (v := .agg #[.slice A3 XL c3, .int .i64 (64 * fr), .int .i64 (64 * n)]) (a' := ?_) (bz 14 2047) rfl rfl (by kernel_rfl) (fun _ _ _ h => h) (yieldsIf_load_mid (by rfl) 49 (.tmp 17) rfl q 0 (by rfl) [.slice A3 XL c3, .int .i64 (64 * fr), .int .i64 (64 * n)] _ (fun w' h => h) Tryz.underlying49 rfl (by kernel_rfl)) hHeld ?_ ?_
    rotate_left
    · simp only [Act.put, List.setIfInBounds_toArray, List.set_cons_zero, List.set_cons_succ, i64_w, i32_w]
      rfl
    refine last_ (i := 11) (N := none) (bz 14 4095) rfl rfl (by kernel_rfl) (by decide) (fun K hK => ?_)
    refine skip_ (by rfl) rfl (exec_store (ty := 49) (x := .tmp 10) (y := .tmp 55) rfl (by rfl) (by rfl) HST.out) ?_
    refine hK.out _ _ ?_
    clear hK K
    refine pz 12 (some 11) (bz 14 8191) ?_
    refine pz 13 (some 12) (bz 14 16383) ?_
    refine done_ (by kernel_rfl) ?_
    go_wp2_with (fail)
    refine bodyPost_ret (results5 rfl _ _ w.heap.size 49 _ (0, 0) _ rfl (setRow_heap _ _ _ _ _ _ HBK5.out) Tryz.underlying49 rfl (by kernel_rfl)) rfl ?_
    have hlt : w.heap.size < wA.heap.size := blk_lt HBK.out
    have hu := upd_setRow w5.drew w.heap.size #[.slice A3 XL c3, .int .i64 (64 * fr), .int .i64 (64 * n)]
    have hsz : wA.heap.size ≤ w2.heap.size := HL2.out.b.size
    have hF2 : ∀ k, F k → k < w2.heap.size := disk_hi HL2.out.S.d
    refine .yes s g F A3 XL c3 k rfl ?_ hk2 HXC.out.2 HXC.out.1 ?_
    · rw [HD0.out]
      refine ⟨LAt.lower (LAt.frame HL5.out.S hu (fun hs => ?_) (fun k hf hk => ?_)) (Nat.le_of_lt hlt), HL5.out.K, HG.out, below_setR HB5.out _⟩
      · have h1 := HL5.out.S.blk
        rw [hs, HBK5.out] at h1
        injection h1 with h1
        injection h1 with _ h1
        exact absurd h1 (by decide)
      · have h1 := HL5.out.S.d.lo k hf
        omega
    · rw [HD0.out]
      exact Rd.frame (Fr8.rd HR5.out hF2) hu (fun a ha hk => by have h1 := (HR5.out.own a ha).1; omega)
  · have HRO := Aside0.mk (show ∀ W A c XL, XL = 64 * k → Calls Tryz.prog 37 #[.slice A XL c, .int .i64 fr, .int .i64 n] W fun e w' => e = .returned (.tuple #[Rs (.slice none 0 0) 0 0, .int .i64 1]) ∧ Below W.heap.size W w' from fun W A c XL hXL => (rOpen_calls (w := W) (A := A) (c := c) hXL (by omega) fr n).mono fun e w' ⟨h, hb⟩ => h.elim (fun h => absurd h.1 hfit) (fun h => ⟨h.2, hb⟩))
    have HOP := Aside0.mk (show Calls Tryz.prog 9 #[.pointer (some ⟨g, 0, none⟩), .int .i64 fr, .int .i64 n] w1 fun e w' => e = .returned (.tuple #[.pointer none, .int .i64 1]) ∧ Below w1.heap.size w1 w' from (Open_calls HD1.out (by rw [HLN.out]; omega) fr n).mono fun e w' h => h.elim (fun h => ⟨h.2.1, h.2.2⟩) (fun h => absurd (show rFits k fr n from by
      obtain ⟨⟨f1, f2, f3⟩, _⟩ := h
      rw [HLN.out] at f3
      exact ⟨f1, f2, f3⟩) hfit))
    clear hfit
    go_wp2_with (first
      | (go_at_call 9; (with_reducible refine HOP.out.mono ?_); rintro e w2 ⟨rfl, hb2⟩; have HS2 := Aside0.mk (show St wA w2 g F D0 from ⟨DiskAt.frame HD1.out (G := fun _ => False) (Upd.of_below hb2) (fun _ _ _ h => h), below_trans HB1.out hb2⟩); have HB2 := Aside0.mk (below_trans HB1w.out hb2); have HBK2 := Aside0.mk (blk_below HBK1.out hb2); clear hb2)
      | (go_at_call 20; (with_reducible refine (fBytes HS2.out HOK.out).mono ?_); rintro e w3 ⟨A3, c3, rfl, hc3, hr3, hb3⟩; have HB3 := Aside0.mk (below_trans HB2.out hb3); have HBK3 := Aside0.mk (blk_below HBK2.out hb3); clear hr3 hc3 hb3)
      | (go_at_call 37; (with_reducible refine (HRO.out _ _ _ _ HXL.out).mono ?_); rintro e w4 ⟨rfl, hb4⟩; have HB4 := Aside0.mk (below_trans HB3.out hb4); have HBK4 := Aside0.mk (blk_below HBK3.out hb4); clear hb4))
    obtain ⟨q, hq⟩ : ∃ q, w4.heap.size = q := ⟨_, rfl⟩
    have HA5 := Aside0.mk (heap_alloc_new w4 (.cells #[.slice none 0 0, .int .i64 0, .int .i64 0] 49))
    have HBD := Aside0.mk (show Below w4.heap.size w4 (w4.alloc (.cells #[.slice none 0 0, .int .i64 0, .int .i64 0] 49)).drew from below_drew (below_alloc (Below.refl w4.heap.size w4) (.cells #[.slice none 0 0, .int .i64 0, .int .i64 0] 49)))
    rw [hq] at HA5 ⊢
    obtain ⟨w5, hw5⟩ : ∃ w5, w4.alloc (.cells #[.slice none 0 0, .int .i64 0, .int .i64 0] 49) = w5 := ⟨_, rfl⟩
    rw [hw5] at HA5 HBD ⊢
    have HRA := Aside0.mk (show w5.drew.rangeAt q 0 [.slice none 0 0, .int .i64 0, .int .i64 0] from range_of HA5.out)
    have HBK5 := Aside0.mk (blk_below HBK4.out HBD.out)
    have HST := Aside0.mk (store_ref HBK5.out none 0 0 0 0)
    have HB5 := Aside0.mk (below_trans HB4.out HBD.out)
    clear hw5
    refine start_ (n := 13) (S := fun w' => w'.rangeAt q 0 [.slice none 0 0, .int .i64 0, .int .i64 0]) (ds := [10]) (bz 13 0) (by kernel_rfl) rfl rfl (HRA.out) (fun hHeld => ?_)
    refine pz 1 (some 46) (bz 13 2) ?_
    refine pz 2 (some 47) (bz 13 6) ?_
    refine pz 3 (some 48) (bz 13 14) ?_
    refine pz 4 (some 49) (bz 13 30) ?_
    refine pz 5 (some 50) (bz 13 62) ?_
    refine pz 6 (some 51) (bz 13 126) ?_
    refine pz 7 (some 52) (bz 13 254) ?_
    refine pz 8 (some 8) (bz 13 510) ?_
    refine pz 9 (some 9) (bz 13 1022) ?_
    refine take_ (i := 0) (N := some 45) (v := .agg #[.slice none 0 0, .int .i64 0, .int .i64 0]) (a' := ?_) (bz 13 1023) rfl rfl (by kernel_rfl) (fun _ _ _ h => h) (yieldsIf_load_mid (by rfl) 49 (.tmp 17) rfl q 0 (by rfl) [.slice none 0 0, .int .i64 0, .int .i64 0] _ (fun w' h => h) Tryz.underlying49 rfl (by kernel_rfl)) hHeld ?_ ?_
    rotate_left
    · simp only [Act.put, List.setIfInBounds_toArray, List.set_cons_zero, List.set_cons_succ, i64_w, i32_w]
      rfl
    refine last_ (i := 10) (N := none) (bz 13 2047) rfl rfl (by kernel_rfl) (by decide) (fun K hK => ?_)
    refine skip_ (by rfl) rfl (exec_store (ty := 49) (x := .tmp 10) (y := .tmp 45) rfl (by rfl) (by rfl) HST.out) ?_
    refine hK.out _ _ ?_
    clear hK K
    refine pz 11 (some 11) (bz 13 4095) ?_
    refine pz 12 (some 12) (bz 13 8191) ?_
    refine done_ (by kernel_rfl) ?_
    go_wp2_with (fail)
    refine bodyPost_ret (results5 rfl _ _ w.heap.size 49 _ (0, 0) _ rfl (setRow_heap _ _ _ _ _ _ HBK5.out) Tryz.underlying49 rfl (by kernel_rfl)) rfl ?_
    exact .no none 0 0 rfl (below_setR HB5.out _)

end Go.Proofs.YtfpfnolpoklefaaGreatDoor.Lo
/- The law SlotsApart, walked. -/
namespace Go.Proofs.YtfpfnolpoklefaaGreatDoor.Lo
open Go.Proofs.YtfpfnolpoklefaaGreatDoor.Dk
open Go.RowKit Go.Proofs.YtfpfnolpoklefaaGreatDoorW.PrintWords Go.Proofs.YtfpfnolpoklefaaGreatDoorW.PrintLast Go.Proofs.YtfpfnolpoklefaaGreatDoorW.PrintMore
set_option linter.unusedVariables false
set_option linter.unusedSimpArgs false
set_option maxRecDepth 30000
variable {w w' w0 w1 w2 wr : World} {A Ab Ar Al : Option Addr} {B B' s g c cb cl len k nr cr i t : Nat} {F F' : Nat → Prop} {D D' : DM} {fr n slot z room ch pl ver exp sec : Int} {v : Value} {X b : List Int} {l : List OpM}
theorem wide_said (hC : C8 w A b) (hc : b.length ≤ c) (sec : Int) : ∃ r, (∀ W, Below w.heap.size w W → Calls Tryz.prog 15 #[.slice A b.length c, .int .i64 sec] W fun e w' => e = .returned (.bool r) ∧ Drawn0 W w') ∧ (r = false → b.length ≤ 9000 ∧ sec ≤ 200) := by
  refine ⟨if (b.length : Int) > 9000 then true else decide (sec > 200), fun W hW => P.imprimaturlaw13_wide.calls A c b sec _ W (Kd.C_below hC hW) hc (by unfold P.imprimaturlaw13_wide.f; split <;> rfl), fun h => ?_⟩
  split at h
  · cases h
  · have := of_decide_eq_false h
    omega
end Go.Proofs.YtfpfnolpoklefaaGreatDoor.Lo
/- The law SlotsApart, walked. -/
namespace Go.Proofs.YtfpfnolpoklefaaGreatDoor.Lo
open Go.Proofs.YtfpfnolpoklefaaGreatDoor.Dk
open Go.RowKit Go.Proofs.YtfpfnolpoklefaaGreatDoorW.PrintWords Go.Proofs.YtfpfnolpoklefaaGreatDoorW.PrintLast Go.Proofs.YtfpfnolpoklefaaGreatDoorW.PrintMore
set_option linter.unusedVariables false
set_option linter.unusedSimpArgs false
set_option maxRecDepth 30000
variable {w w' w0 w1 w2 wr : World} {A Ab Ar Al : Option Addr} {B B' s g c cb cl len k nr cr i t : Nat} {F F' : Nat → Prop} {D D' : DM} {fr n slot z room ch pl ver exp sec : Int} {v : Value} {X b : List Int} {l : List OpM}
theorem blk_keep {o : Obj} (h : w.heap[t]? = some o ∧ ¬ F t) (hF : ∀ k, F' k → F k ∨ w.heap.size ≤ k) (hu : Upd w w' F) : w'.heap[t]? = some o ∧ ¬ F' t := by
  have hlt := blk_lt h.1
  refine ⟨(hu.block t hlt h.2).trans h.1, fun hf => ?_⟩
  rcases hF t hf with h1 | h1
  · exact h.2 h1
  · omega
end Go.Proofs.YtfpfnolpoklefaaGreatDoor.Lo
/- The reference of slots: Get; a disk beside the reference. -/
namespace Go.Proofs.YtfpfnolpoklefaaGreatDoor.Lo
open Go.Proofs.YtfpfnolpoklefaaGreatDoor.Dk
open Go.RowKit Go.Proofs.YtfpfnolpoklefaaGreatDoorW.PrintWords Go.Proofs.YtfpfnolpoklefaaGreatDoorW.PrintLast Go.Proofs.YtfpfnolpoklefaaGreatDoorW.PrintMore
set_option linter.unusedVariables false
set_option linter.unusedSimpArgs false
set_option maxRecDepth 30000
variable {w w' w0 w1 w2 wr : World} {A Ab Ar Al : Option Addr} {B B' s g c cb cl len k nr cr i t : Nat} {F F' : Nat → Prop} {D D' : DM} {fr n slot z room ch pl ver exp sec : Int} {v : Value} {X b : List Int} {l : List OpM}
theorem wrap_id {x : Int} (h0 : 0 ≤ x) (h1 : x ≤ 1000000000) : wrap64 x = x := by unfold wrap64; omega
def rGetE (room slot z : Int) : Int := if rBad slot z room = true then 110 else if z < 0 then 1 else 0
def rGetR (X : List Int) (fr room slot z : Int) : List Int := if rGetE room slot z = 0 then piece X (fr + slot * room).toNat z.toNat else []
set_option maxHeartbeats 16000000 in
theorem rGet_calls (hX : C8 w A X) (hc : X.length ≤ c) (hf : 0 ≤ fr) (hr : 64 ≤ room) (hl : fr + 2 * room ≤ (X.length : Int)) (hXl : X.length ≤ 64000) :
    Calls Tryz.prog 22 #[Rs (.slice A X.length c) fr room, .int .i64 slot, .int .i64 z] w fun e w' => ∃ A' c', e = .returned (.tuple #[.slice A' (rGetR X fr room slot z).length c', .int .i64 (rGetE room slot z)]) ∧ C8 w' A' (rGetR X fr room slot z) ∧ Below w.heap.size w w' := by
  obtain ⟨ad, rfl, _⟩ := hX.2.2 (by omega)
  have HX := Aside0.mk hX
  have HG := Aside0.mk (heap_alloc_new w (.cells #[.slice (some ad) X.length c, .int .i64 fr, .int .i64 room] 49))
  have HBA := Aside0.mk (below_alloc (Below.refl w.heap.size w) (.cells #[.slice (some ad) X.length c, .int .i64 fr, .int .i64 room] 49))
  have HBAD := Aside0.mk (fun W => rbad_calls (w := W) (v := .slice (some ad) X.length c) (slot := slot) (z := z) (room := room) fr)
  obtain ⟨q, hq⟩ : ∃ q, rBad slot z room = q := ⟨_, rfl⟩
  rw [hq] at HBAD
  clear hX
  cases q with
  | true =>
    have HE := Aside0.mk (show rGetE room slot z = 110 by unfold rGetE; rw [if_pos hq])
    have HR := Aside0.mk (show rGetR X fr room slot z = [] by unfold rGetR; rw [HE.out, if_neg (by decide)])
    clear hq
    unfold Rs
    go_enter Tryz.func22, Tryz.ntmps22
    go_wp2_with (first | (go_at_call 38; (with_reducible refine (HBAD.out _).mono ?_); rintro e w1 ⟨rfl, hb1⟩; have HB1 := Aside0.mk (below_trans HBA.out hb1); clear hb1))
    refine bodyPost_ret (results_tmp2 rfl _ _ _) rfl ?_
    rw [HE.out, HR.out]
    exact ⟨none, 0, rfl, Kd.C_nil _ _, HB1.out⟩
  | false =>
    have hbd : 0 ≤ slot ∧ slot ≤ 1 ∧ z ≤ room := by
      unfold rBad at hq
      simp only [Bool.or_eq_false_iff, decide_eq_false_iff_not] at hq
      omega
    by_cases hz : z < 0
    · have HE := Aside0.mk (show rGetE room slot z = 1 by unfold rGetE; rw [hq, if_neg (by decide), if_pos hz])
      have HR := Aside0.mk (show rGetR X fr room slot z = [] by unfold rGetR; rw [HE.out, if_neg (by decide)])
      have qz : decide (z < 0) = true := decide_eq_true hz
      clear hq hz
      unfold Rs
      go_enter Tryz.func22, Tryz.ntmps22
      go_wp2_with (first | (go_at_call 38; (with_reducible refine (HBAD.out _).mono ?_); rintro e w1 ⟨rfl, hb1⟩; have HB1 := Aside0.mk (below_trans HBA.out hb1); clear hb1))
      refine bodyPost_ret (results_tmp2 rfl _ _ _) rfl ?_
      rw [HE.out, HR.out]
      exact ⟨none, 0, rfl, Kd.C_nil _ _, HB1.out⟩
    · have qz : decide (z < 0) = false := decide_eq_false hz
      have HE := Aside0.mk (show rGetE room slot z = 0 by unfold rGetE; rw [hq, if_neg (by decide), if_neg hz])
      obtain ⟨zn, rfl⟩ : ∃ zn : Nat, z = (zn : Int) := ⟨z.toNat, by omega⟩
      obtain ⟨sr, hsr⟩ : ∃ sr, slot * room = sr := ⟨_, rfl⟩
      have hsr2 : 0 ≤ sr ∧ sr ≤ room := by
        obtain rfl | rfl : slot = 0 ∨ slot = 1 := by omega
        · rw [Int.zero_mul] at hsr; omega
        · rw [Int.one_mul] at hsr; omega
      obtain ⟨o, ho⟩ : ∃ o : Nat, fr + sr = (o : Int) := ⟨(fr + sr).toNat, by omega⟩
      obtain ⟨e2, he2⟩ : ∃ e2 : Nat, o + zn = e2 := ⟨_, rfl⟩
      have hol : e2 ≤ X.length := by omega
      have hoc : o ≤ e2 := by omega
      have hec : e2 ≤ c := by omega
      obtain ⟨AD, hAD⟩ : ∃ AD, (if c = o then some ad else some (ad.add o)) = AD := ⟨_, rfl⟩
      have HZ := Aside0.mk (show e2 - o = zn by omega)
      have HLP := Aside0.mk (show (piece X o zn).length = zn by unfold piece; rw [List.length_take, List.length_drop]; omega)
      have HDR := Aside0.mk (show ∀ W, Below w.heap.size w W → C8 W AD (piece X o zn) from fun W hW => by
        have h := Kd.C_drop (c := c) (Kd.C_below HX.out hW) (m := o) (by omega) hc
        rw [show (Kd.int .u8).sz = 1 from rfl, Nat.mul_one] at h
        rw [show (Option.map (fun x : Addr => x.add o) (some ad)) = some (ad.add o) from rfl, hAD] at h
        exact C8.take h (m := zn) (by rw [List.length_drop]; omega))
      have HR := Aside0.mk (show rGetR X fr room slot (zn : Int) = piece X o zn by unfold rGetR; rw [HE.out, if_pos rfl, hsr, ho, Int.toNat_natCast, Int.toNat_natCast])
      have hob : (o : Int) ≤ 1000000000 := by omega
      have hsb : sr ≤ 1000000000 := by omega
      have heb : e2 ≤ 1000000000 := by omega
      have k2 : wrap64 (slot * room) = sr := by rw [hsr]; exact wrap_id hsr2.1 hsb
      have k2' : IntKind.i64.wrap (slot * room) = sr := (i64_w _).trans k2
      have k3 : wrap64 (fr + sr) = (o : Int) := by rw [ho]; exact wrap_id (Int.natCast_nonneg o) hob
      have k3' : IntKind.i64.wrap (fr + sr) = (o : Int) := (i64_w _).trans k3
      have k4 : wrap64 ((o : Int) + (zn : Int)) = (e2 : Int) := wrap_nat o zn e2 he2 heb
      have k4' : IntKind.i64.wrap ((o : Int) + (zn : Int)) = (e2 : Int) := (i64_w _).trans k4
      clear hq hz hsr ho he2
      unfold Rs
      go_enter Tryz.func22, Tryz.ntmps22
      go_wp2_with (first | (go_at_call 38; (with_reducible refine (HBAD.out _).mono ?_); rintro e w1 ⟨rfl, hb1⟩; have HB1 := Aside0.mk (below_trans HBA.out hb1); have HG1 := Aside0.mk (blk_below HG.out hb1); have hc0 := cellB HG1.out 0 _ rfl; have hc1 := cellB HG1.out 1 _ rfl; have hc2 := cellB HG1.out 2 _ rfl; clear hb1))
      refine bodyPost_ret (results_tmp2 rfl _ _ _) rfl ?_
      rw [HE.out, HR.out, HLP.out]
      exact ⟨AD, c - o, by rw [← HZ.out] <;> rfl, HDR.out _ HB1.out, HB1.out⟩
/-- A disk on which nothing is held, beside the document's bytes. -/
structure PInv (D : DM) (X : List Int) : Prop where
  calm : Dk.Calm D
  six : Six D
  held : D.held = []
  flat : flatR D D.sec.length = X
theorem PInv.bytes (h : PInv D X) : bytesM D = X := by rw [← h.flat]; exact (flat_bytes h.held _).symm
theorem PInv.length (h : PInv D X) : X.length = 64 * D.sec.length := by rw [← h.flat, flat_length h.six _ (Nat.le_refl _)]; omega
theorem pinv_new (b : List Int) (k : Nat) : PInv (newM b k k) (bytesM (newM b k k)) := ⟨newM_calm b k, newM_six b k, rfl, (newM_bytes b k).symm⟩
theorem bad_ready (hd : D.down = false) : (rBad slot z (64 * n) = true → lreadyM D n slot z = 110) ∧ (rBad slot z (64 * n) = false → lreadyM D n slot z = 0 ∧ (slot = 0 ∨ slot = 1)) := by
  unfold rBad lreadyM
  rw [hd, if_neg (by decide)]
  constructor
  · intro h
    simp only [Bool.or_eq_true, decide_eq_true_eq] at h
    rw [if_pos (by omega)]
  · intro h
    simp only [Bool.or_eq_false_iff, decide_eq_false_iff_not] at h
    exact ⟨by rw [if_neg (by omega)], by omega⟩
end Go.Proofs.YtfpfnolpoklefaaGreatDoor.Lo
/- Plain facts about slots: a Put whose power may go: each sector is old, or as put. -/
namespace Go.Proofs.YtfpfnolpoklefaaGreatDoor.Lo
open Go.Proofs.YtfpfnolpoklefaaGreatDoor.Dk
open Go.RowKit Go.Proofs.YtfpfnolpoklefaaGreatDoorW.PrintWords Go.Proofs.YtfpfnolpoklefaaGreatDoorW.PrintLast Go.Proofs.YtfpfnolpoklefaaGreatDoorW.PrintMore
set_option linter.unusedVariables false
set_option linter.unusedSimpArgs false
set_option maxRecDepth 30000
variable {D D' : DM} {fr n slot z ch pl : Int} {X b s : List Int} {qn at' kn r : Nat}
theorem goes_same (D : DM) : (goesM D).1.sec = D.sec ∧ (goesM D).1.held = D.held ∧ (goesM D).1.down = D.down := by
  unfold goesM
  split
  · exact ⟨rfl, rfl, rfl⟩
  · split <;> exact ⟨rfl, rfl, rfl⟩
/-- What was put lies so in each sector. -/
theorem puts_one (keep : Nat → Bool) (H : List (Int × List Int)) (S : List (List Int)) (j : Nat) (hH : ∀ h ∈ H, 0 ≤ h.1) : ∀ n, n ≤ H.length → (putsTo keep H S n).getD j [] = S.getD j [] ∨ ∃ h ∈ H, h.1 = (j : Int) ∧ (putsTo keep H S n).getD j [] = h.2 := by
  intro n
  induction n with
  | zero => intro _; exact .inl rfl
  | succ n ih =>
    intro hn
    have hm : H.getD n (0, []) ∈ H := by rw [List.getD_eq_getElem?_getD, List.getElem?_eq_getElem (by omega)]; exact List.getElem_mem (by omega)
    have ih := ih (by omega)
    rw [putsTo]
    cases keep n with
    | false => rw [if_neg (by decide)]; exact ih
    | true =>
      rw [if_pos rfl]
      by_cases hj : (H.getD n (0, [])).1.toNat = j
      · by_cases hs : j < (putsTo keep H S n).length
        · refine .inr ⟨_, hm, by have := hH _ hm; omega, ?_⟩
          rw [List.getD_eq_getElem?_getD, List.getElem?_set, if_pos hj, if_pos (by omega)]
          rfl
        · rw [List.getD_eq_getElem?_getD, List.getElem?_set, if_pos hj, if_neg (by omega)]
          rw [List.getD_eq_getElem?_getD, List.getElem?_eq_none (by omega)] at ih
          exact ih
      · rw [List.getD_eq_getElem?_getD, List.getElem?_set, if_neg hj, ← List.getD_eq_getElem?_getD]
        exact ih
/-- A sector of what is put. -/
theorem sec_over (hr : r < 64) (hX : 64 * kn + 64 ≤ X.length) (ho : 64 * kn + r + b.length ≤ X.length) (hs : (X.drop (64 * kn)).take 64 = s) : ((over X (64 * kn + r) b).drop (64 * kn)).take 64 = lseg s b r := by
  have hsl : s.length = 64 := by rw [← hs, List.length_take, List.length_drop]; omega
  unfold lseg
  apply List.ext_getElem?
  intro i
  rw [List.getElem?_take]
  by_cases hi : i < 64
  · have htl : (b.take (64 - r)).length = min (64 - r) b.length := List.length_take
    rw [if_pos hi, List.getElem?_drop, over_get ho, over_get (x := s) (by rw [htl]; omega), htl]
    have hsi : s[i]? = X[64 * kn + i]? := by rw [← hs, List.getElem?_take, if_pos hi, List.getElem?_drop]
    by_cases c1 : i < r
    · rw [if_pos (by omega), if_pos c1, hsi]
    · rw [if_neg (by omega), if_neg c1]
      by_cases c2 : i < r + b.length
      · rw [if_pos (by omega), if_pos (by omega), List.getElem?_take, if_pos (by omega)]
        congr 1
        omega
      · rw [if_neg (by omega), if_neg (by omega), hsi]
  · rw [if_neg hi, List.getElem?_eq_none]
    rw [over_length (by rw [List.length_take, hsl]; omega), hsl]
    omega
/-- Behind a put: all is there; or the power went, and each sector is as it was, or as put. -/
inductive TornL (D : DM) (p : DM × Int) (o : Nat) (b : List Int) : Prop where
  | whole (he : p.2 = 0) (hh : p.1.held = []) (hl : p.1.sec.length = D.sec.length) (h6 : Six p.1) (hf : flatR p.1 p.1.sec.length = over (flatR D D.sec.length) o b)
  | torn (he : p.2 = 60) (hh : p.1.held = []) (hd : p.1.down = true) (hl : p.1.sec.length = D.sec.length) (hs : ∀ j, j < D.sec.length → p.1.sec.getD j [] = D.sec.getD j [] ∨ (∃ h ∈ D.held, h.1 = (j : Int) ∧ p.1.sec.getD j [] = h.2) ∨ p.1.sec.getD j [] = ((over (flatR D D.sec.length) o b).drop (64 * j)).take 64)
theorem torn_lose (l : List Bool) {G : DM} (hd : G.down = false) (hat : ∀ h ∈ G.held, 0 ≤ h.1) : (loseM l G).held = [] ∧ (loseM l G).down = true ∧ (loseM l G).sec.length = G.sec.length ∧ ∀ j : Nat, (loseM l G).sec.getD j [] = G.sec.getD j [] ∨ ∃ h ∈ G.held, h.1 = (j : Int) ∧ (loseM l G).sec.getD j [] = h.2 := by
  unfold loseM
  rw [hd, if_neg (by decide)]
  exact ⟨rfl, rfl, putsTo_length _ _ _ _, fun j => puts_one _ _ _ j hat _ (Nat.le_refl _)⟩
theorem torn_lputF (qn : Nat) : ∀ (m : Nat) (D : DM) (at' : Nat) (b : List Int), b.length < m → D.down = false → Six D → DOk D → 64 * qn + at' + b.length ≤ 64 * D.sec.length → D.held.length + b.length ≤ 9000000 →
    TornL D (lputF m D (qn : Int) at' b) (64 * qn + at') b := by
  intro m
  induction m with
  | zero => intro D at' b hm; omega
  | succ m ih =>
    intro D at' b hm hdn h6 hok hr hh
    have hat : ∀ h ∈ D.held, 0 ≤ h.1 := fun h hh => (hok.at_ h hh).1
    obtain ⟨g1, g2, g3⟩ := goes_same D
    unfold lputF
    by_cases h0 : b.length = 0
    · rw [if_pos h0]
      have hb : b = [] := List.eq_nil_of_length_eq_zero h0
      subst hb
      unfold flushM
      rw [hdn, if_neg (by decide)]
      cases hg : (goesM D).2 with
      | true =>
        rw [if_pos rfl]
        obtain ⟨t1, t2, t3, t4⟩ := torn_lose (goesM D).1.choice (G := (goesM D).1) (by rw [g3, hdn]) (by rw [g2]; exact hat)
        rw [g1] at t3 t4
        rw [g2] at t4
        exact .torn rfl t1 t2 t3 (fun j _ => (t4 j).elim .inl (fun h => .inr (.inl h)))
      | false =>
        rw [if_neg (by decide)]
        have hl : (putsM (fun _ => true) (goesM D).1).sec.length = D.sec.length := by
          show (putsTo _ _ _ _).length = _
          rw [putsTo_length, g1]
        have hrd : ∀ k : Nat, readM (putsM (fun _ => true) (goesM D).1) (k : Int) = readM D (k : Int) := fun k => by
          unfold readM
          rw [Int.toNat_natCast]
          show (putsTo _ (goesM D).1.held (goesM D).1.sec (goesM D).1.held.length).getD k [] = _
          rw [g1, g2, puts_read D.held D.sec k hok.at_ _ (Nat.le_refl _)]
        refine .whole rfl rfl hl ⟨fun i hi => ?_, fun i hi => absurd hi (Nat.not_lt_zero _)⟩ ?_
        · rw [hl] at hi
          have h2 := hrd i
          rw [show readM (putsM (fun _ => true) (goesM D).1) (i : Int) = (putsM (fun _ => true) (goesM D).1).sec.getD i [] by unfold readM; rw [Int.toNat_natCast]; rfl] at h2
          rw [h2]
          exact six_read h6 (by omega)
        · rw [hl, over_nil]
          exact flat_congr (fun k _ => hrd k)
    · rw [if_neg h0]
      obtain ⟨kn, hkn⟩ : ∃ kn, qn + at' / 64 = kn := ⟨_, rfl⟩
      have hk : (qn : Int) + ((at' / 64 : Nat) : Int) = (kn : Int) := by omega
      rw [hk]
      have hkl : kn < D.sec.length := by omega
      obtain ⟨s, hs⟩ : ∃ s, readM D (kn : Int) = s := ⟨_, rfl⟩
      have hsl : s.length = 64 := by rw [← hs]; exact six_read h6 hkl
      have hal : atM D (kn : Int) = 0 := by
        unfold atM
        rw [hdn, if_neg (by decide), if_neg (by omega)]
      have hll := lseg_length (b := b) (o := at' % 64) hsl (by omega)
      have hf := flat_length h6 D.sec.length (Nat.le_refl _)
      have ho : 64 * kn + at' % 64 = 64 * qn + at' := by omega
      have hfin : ((over (flatR D D.sec.length) (64 * qn + at') b).drop (64 * kn)).take 64 = lseg s b (at' % 64) := by
        rw [← ho]
        exact sec_over (by omega) (by omega) (by omega) (by rw [flat_sector h6 _ hkl (Nat.le_refl _), hs])
      rw [hs, if_neg (by rw [hal]; decide)]
      have hok1 : DOk (writeM D (kn : Int) (lseg s b (at' % 64))).1 := writeM_ok hok (by omega)
      obtain ⟨G, hG⟩ : ∃ G, goesM (holdM D (kn : Int) (lseg s b (at' % 64))) = G := ⟨_, rfl⟩
      obtain ⟨e1, e2, e3⟩ := goes_same (holdM D (kn : Int) (lseg s b (at' % 64)))
      rw [hG] at e1 e2 e3
      have e1 : G.1.sec = D.sec := e1
      have e2 : G.1.held = D.held ++ [((kn : Int), lseg s b (at' % 64))] := e2
      have e3 : G.1.down = D.down := e3
      have hw : writeM D (kn : Int) (lseg s b (at' % 64)) = if G.2 = true then (loseM G.1.choice G.1, 60) else (G.1, 0) := by
        unfold writeM
        rw [if_neg (by rw [hal]; decide), if_neg (by rw [hll]; decide), hG]
      rw [hw] at hok1 ⊢
      cases hg : G.2 with
      | true =>
        rw [if_pos rfl, if_pos (show ((60 : Int) ≠ 0) by decide)]
        obtain ⟨t1, t2, t3, t4⟩ := torn_lose G.1.choice (G := G.1) (by rw [e3, hdn]) (fun h hm => by
          rw [e2] at hm
          rcases List.mem_append.1 hm with hm | hm
          · exact hat h hm
          · rw [List.mem_singleton] at hm
            rw [hm]
            exact Int.natCast_nonneg kn)
        rw [e1] at t3 t4
        rw [e2] at t4
        refine .torn rfl t1 t2 t3 (fun j hj => ?_)
        rcases t4 j with h | ⟨h, hm, hj1, hj2⟩
        · exact .inl h
        · rcases List.mem_append.1 hm with hm | hm
          · exact .inr (.inl ⟨h, hm, hj1, hj2⟩)
          · rw [List.mem_singleton] at hm
            subst hm
            obtain rfl : kn = j := by have h9 : (kn : Int) = (j : Int) := hj1; omega
            exact .inr (.inr (by rw [hfin]; exact hj2))
      | false =>
        rw [hg, if_neg (by decide)] at hok1
        rw [if_neg (show ¬ (false = true) by decide), if_neg (show ¬ ((0 : Int) ≠ 0) by decide)]
        obtain ⟨D1, hD1⟩ : ∃ D1, G.1 = D1 := ⟨_, rfl⟩
        dsimp only at hok1
        rw [hD1] at e1 e2 e3 hok1
        show TornL D (lputF m G.1 (qn : Int) (at' + lstep b at') (b.drop (lstep b at'))) _ b
        rw [hD1]
        have h61 := six_hold h6 e2 e1 hll
        obtain ⟨t1, t2⟩ := lstep_le b at'
        have ht0 : 0 < lstep b at' := by unfold lstep; omega
        have hbt : (b.take (64 - at' % 64)).length = lstep b at' := by rw [List.length_take]; rfl
        have hbt2 : b.take (64 - at' % 64) = b.take (lstep b at') := by
          unfold lstep
          by_cases c : 64 - at' % 64 ≤ b.length
          · rw [Nat.min_eq_left c]
          · rw [Nat.min_eq_right (by omega), List.take_of_length_le (by omega), List.take_length]
        have w3 : D1.sec.length = D.sec.length := by rw [e1]
        have f1 : flatR D1 D1.sec.length = over (flatR D D.sec.length) (64 * kn) (lseg s b (at' % 64)) := by
          rw [w3]
          refine flat_write h6 h61 w3 hkl (by rw [readM_hold e2 e1, if_pos rfl]) (fun j _ hj => by rw [readM_hold e2 e1, if_neg (by omega)])
        have f2 : flatR D1 D1.sec.length = over (flatR D D.sec.length) (64 * qn + at') (b.take (lstep b at')) := by
          rw [f1]
          unfold lseg
          rw [over_sector (by rw [flat_sector h6 _ hkl (Nat.le_refl _), hs]) (by omega) (by rw [hbt]; omega), hbt2, ho]
        have hbl : (b.take (lstep b at')).length = lstep b at' := by rw [List.length_take]; omega
        have f3 : over (flatR D1 D1.sec.length) (64 * qn + (at' + lstep b at')) (b.drop (lstep b at')) = over (flatR D D.sec.length) (64 * qn + at') b := by
          rw [f2, show 64 * qn + (at' + lstep b at') = 64 * qn + at' + (b.take (lstep b at')).length by omega, over_over (by rw [List.length_drop]; omega), List.take_append_drop]
        rcases ih D1 (at' + lstep b at') (b.drop (lstep b at')) (by rw [List.length_drop]; omega) (by rw [e3, hdn]) h61 hok1 (by rw [List.length_drop, w3]; omega) (by rw [List.length_drop, e2, List.length_append, List.length_singleton]; omega) with ⟨he, hh', hl', h6', hf'⟩ | ⟨he, hh', hd', hl', hs'⟩
        · exact .whole he hh' (hl'.trans w3) h6' (by rw [hf', f3])
        · refine .torn he hh' hd' (hl'.trans w3) (fun j hj => ?_)
          rcases hs' j (by rw [w3]; exact hj) with h | ⟨h, hm, hj1, hj2⟩ | h
          · exact .inl (by rw [h, e1])
          · rw [e2] at hm
            rcases List.mem_append.1 hm with hm | hm
            · exact .inr (.inl ⟨h, hm, hj1, hj2⟩)
            · rw [List.mem_singleton] at hm
              subst hm
              obtain rfl : kn = j := by have h9 : (kn : Int) = (j : Int) := hj1; omega
              exact .inr (.inr (by rw [hfin]; exact hj2))
          · rw [f3] at h
            exact .inr (.inr h)
/-- A disk that is up, on which nothing is held, beside the document's bytes. -/
structure TInv (D : DM) (X : List Int) : Prop where
  down : D.down = false
  six : Six D
  held : D.held = []
  flat : flatR D D.sec.length = X
theorem TInv.bytes (h : TInv D X) : bytesM D = X := by rw [← h.flat]; exact (flat_bytes h.held _).symm
theorem TInv.length (h : TInv D X) : X.length = 64 * D.sec.length := by rw [← h.flat, flat_length h.six _ (Nat.le_refl _)]; omega
theorem TInv.set (h : PInv D X) (a : Int) (l : List Bool) : TInv (setM D a l).1 X := by
  have e : (setM D a l).1.sec = D.sec ∧ (setM D a l).1.held = D.held ∧ (setM D a l).1.down = D.down := by
    unfold setM
    split
    · exact ⟨rfl, rfl, rfl⟩
    · split <;> exact ⟨rfl, rfl, rfl⟩
  obtain ⟨e1, e2, e3⟩ := e
  refine ⟨by rw [e3]; exact h.calm.down, ⟨fun i hi => by rw [e1] at hi ⊢; exact h.six.sec i hi, fun i hi => by rw [e2] at hi ⊢; exact h.six.held i hi⟩, by rw [e2]; exact h.held, ?_⟩
  rw [e1, ← h.flat]
  exact flat_congr (fun k _ => by unfold readM; rw [e1, e2])
theorem bytes_sector (h6 : Six D) (hh : D.held = []) {k : Nat} (hk : k < D.sec.length) : ((bytesM D).drop (64 * k)).take 64 = D.sec.getD k [] := by
  rw [show bytesM D = flatR D D.sec.length from (flat_bytes hh _).symm, flat_sector h6 _ hk (Nat.le_refl _)]
  unfold readM
  rw [hh, Int.toNat_natCast]
  rfl
/-- What a Put comes to, whose power may go. -/
inductive Crash (D : DM) (X : List Int) (p : DM × Int) (R : List Int × Int) : Prop where
  | no (hf : R.2 ≠ 0) (he : p.2 = R.2) (hd : p.1 = D) (hx : R.1 = X)
  | whole (hf : R.2 = 0) (he : p.2 = 0) (hb : bytesM p.1 = R.1)
  | torn (hf : R.2 = 0) (he : p.2 = 60) (hd : p.1.down = true) (hl : (bytesM p.1).length = X.length) (hlr : R.1.length = X.length) (hs : ∀ k : Nat, 64 * k < X.length → ((bytesM p.1).drop (64 * k)).take 64 = (X.drop (64 * k)).take 64 ∨ ((bytesM p.1).drop (64 * k)).take 64 = (R.1.drop (64 * k)).take 64)
theorem TInv.put (h : TInv D X) (hk : LOk D fr n) (hb : b.length ≤ 12000) : Crash D X (lPutM D fr n slot z ch pl b) (rPutM X (64 * fr) (64 * n) slot z ch pl b) := by
  have hh : D.held.length + b.length ≤ 9000000 := by rw [h.held]; show 0 + b.length ≤ _; omega
  obtain ⟨r1, r2⟩ := bad_ready (D := D) (n := n) (slot := slot) (z := z) h.down
  obtain ⟨q, hq⟩ : ∃ q, rBad slot z (64 * n) = q := ⟨_, rfl⟩
  cases q with
  | true =>
    have hr := r1 hq
    have e1 : lPutM D fr n slot z ch pl b = (D, 110) := by unfold lPutM; rw [hr, if_pos (by decide)]
    have e2 : rPutM X (64 * fr) (64 * n) slot z ch pl b = (X, 110) := by unfold rPutM; rw [if_pos hq]
    rw [e1, e2]
    exact .no (show (110 : Int) ≠ 0 by decide) rfl rfl rfl
  | false =>
    obtain ⟨hr, hs⟩ := r2 hq
    obtain ⟨z1, z2, z3⟩ := lready_zero hr
    by_cases h1 : countE z ch ≠ 0 ∨ pl < 0 ∨ countN z ch ≤ pl
    · have e1 : lPutM D fr n slot z ch pl b = (D, 1) := by unfold lPutM; rw [if_neg (by rw [hr]; decide), if_pos h1]
      have e2 : rPutM X (64 * fr) (64 * n) slot z ch pl b = (X, 1) := by unfold rPutM; rw [if_neg (by rw [hq]; decide), if_pos h1]
      rw [e1, e2]
      exact .no (show (1 : Int) ≠ 0 by decide) rfl rfl rfl
    · by_cases h2 : (b.length : Int) ≠ min ch (z - pl * ch)
      · have e1 : lPutM D fr n slot z ch pl b = (D, 1) := by unfold lPutM; rw [if_neg (by rw [hr]; decide), if_neg h1, if_pos h2]
        have e2 : rPutM X (64 * fr) (64 * n) slot z ch pl b = (X, 1) := by unfold rPutM; rw [if_neg (by rw [hq]; decide), if_neg h1, if_pos h2]
        rw [e1, e2]
        exact .no (show (1 : Int) ≠ 0 by decide) rfl rfl rfl
      · have e2 : rPutM X (64 * fr) (64 * n) slot z ch pl b = (over X (64 * fr + slot * (64 * n) + pl * ch).toNat b, 0) := by unfold rPutM; rw [if_neg (by rw [hq]; decide), if_neg h1, if_neg h2]
        have e1 : lPutM D fr n slot z ch pl b = lputM D (fr + slot * n) (pl * ch).toNat b := by unfold lPutM; rw [if_neg (by rw [hr]; decide), if_neg h1, if_neg h2]
        have hce : countE z ch = 0 := by
          rcases Classical.em (countE z ch = 0) with h | h
          · exact h
          · exact absurd (.inl h) h1
        obtain ⟨p1, p2⟩ := place_le (pl := pl) hce (by omega) (by omega)
        obtain ⟨c1, c2, c3, c4⟩ := count_zero hce
        have hl := hk.hl
        have hn := hk.hn
        have hf := hk.hf
        obtain ⟨qn, hq3⟩ : ∃ qn : Nat, fr + slot * n = (qn : Int) := ⟨(fr + slot * n).toNat, by rcases z2 with rfl | rfl <;> omega⟩
        obtain ⟨an, ha⟩ : ∃ an : Nat, pl * ch = (an : Int) := ⟨(pl * ch).toNat, by omega⟩
        have hqn : (qn : Int) + n ≤ (D.sec.length : Int) := by rcases z2 with rfl | rfl <;> omega
        have hbb : (b.length : Int) ≤ z - pl * ch := by omega
        have e3 : (64 * fr + slot * (64 * n) + pl * ch).toNat = 64 * qn + an := by
          rcases z2 with rfl | rfl <;> omega
        rw [e3] at e2
        rw [hq3, ha, Int.toNat_natCast] at e1
        have hXl := h.length
        have hol : (over X (64 * qn + an) b).length = X.length := over_length (by omega)
        have ht := torn_lputF qn (b.length + 1) D an b (Nat.lt_succ_self _) h.down h.six hk.d (by omega) hh
        rw [e1, e2]
        rcases ht with ⟨he, hh', hl', h6', hf'⟩ | ⟨he, hh', hd', hl', hs'⟩
        · refine .whole rfl he ?_
          show bytesM (lputF (b.length + 1) D (qn : Int) an b).1 = _
          rw [show bytesM (lputF (b.length + 1) D (qn : Int) an b).1 = flatR _ _ from (flat_bytes hh' _).symm, hf', h.flat]
        · rw [h.flat] at hs'
          have h6' : Six (lputF (b.length + 1) D (qn : Int) an b).1 := by
            refine ⟨fun i hi => ?_, fun i hi => by rw [hh'] at hi; cases hi⟩
            rw [hl'] at hi
            rcases hs' i hi with h2 | ⟨y, hy, _⟩ | h2
            · rw [h2]; exact h.six.sec i hi
            · rw [h.held] at hy; cases hy
            · rw [h2, List.length_take, List.length_drop, hol]; omega
          have hbl : (bytesM (lputF (b.length + 1) D (qn : Int) an b).1).length = X.length := by
            rw [show bytesM (lputF (b.length + 1) D (qn : Int) an b).1 = flatR _ _ from (flat_bytes hh' _).symm, flat_length h6' _ (Nat.le_refl _), hl', hXl]; omega
          refine .torn rfl he hd' hbl hol (fun k hk2 => ?_)
          have hkl : k < D.sec.length := by omega
          show ((bytesM (lputF (b.length + 1) D (qn : Int) an b).1).drop (64 * k)).take 64 = _ ∨ ((bytesM (lputF (b.length + 1) D (qn : Int) an b).1).drop (64 * k)).take 64 = _
          rw [bytes_sector h6' hh' (by rw [hl']; exact hkl)]
          rcases hs' k hkl with h2 | ⟨y, hy, _⟩ | h2
          · left
            rw [h2, ← bytes_sector h.six h.held hkl, h.bytes]
          · rw [h.held] at hy; cases hy
          · right
            exact h2
end Go.Proofs.YtfpfnolpoklefaaGreatDoor.Lo
/- The law SlotsPlays, walked. -/
namespace Go.Proofs.YtfpfnolpoklefaaGreatDoor.Lo
open Go.Proofs.YtfpfnolpoklefaaGreatDoor.Dk
open Go.RowKit Go.Proofs.YtfpfnolpoklefaaGreatDoorW.PrintWords Go.Proofs.YtfpfnolpoklefaaGreatDoorW.PrintLast Go.Proofs.YtfpfnolpoklefaaGreatDoorW.PrintMore
set_option linter.unusedVariables false
set_option linter.unusedSimpArgs false
set_option maxRecDepth 30000
variable {w w' w0 w1 w2 wr : World} {A Ab Ar Al : Option Addr} {B B' s g c cb cl k nr cr i t : Nat} {F F' : Nat → Prop} {D D' : DM} {fr n slot z room ch pl ver exp sec size : Int} {v : Value} {X b : List Int} {l : List OpM}
end Go.Proofs.YtfpfnolpoklefaaGreatDoor.Lo
/- The law SlotsCrash, walked. -/
namespace Go.Proofs.YtfpfnolpoklefaaGreatDoor.Lo
open Go.Proofs.YtfpfnolpoklefaaGreatDoor.Dk
open Go.RowKit Go.Proofs.YtfpfnolpoklefaaGreatDoorW.PrintWords Go.Proofs.YtfpfnolpoklefaaGreatDoorW.PrintLast Go.Proofs.YtfpfnolpoklefaaGreatDoorW.PrintMore
set_option linter.unusedVariables false
set_option linter.unusedSimpArgs false
set_option maxRecDepth 30000
variable {w w' w0 w1 w2 wr : World} {A Ab Ar Al A2 A5 A7 Ac AD : Option Addr} {ad : Addr} {B B' s g c c2 c5 c7 cb cc cl k nr cr i t o e : Nat} {F F' : Nat → Prop} {D D' : DM} {fr n slot z room ch pl ver exp sec size sl : Int} {v : Value} {X Y b rt xb : List Int} {chs : List Bool}
theorem same_self (hA : C8 w A X) (hB : C8 w A2 X) : Calls Tryz.prog 18 #[.slice A X.length c, .slice A2 X.length c2] w fun e w' => e = .returned (.bool true) ∧ w = w' := by
  have h := Same_calls A c X A2 c2 X hA hB
  rwa [sameM_refl] at h
theorem lBytesT (h : Ls w0 w s g F D fr n) (hp : TInv D X) : Calls Tryz.prog 20 #[.pointer (some ⟨g, 0, none⟩)] w fun e w' => ∃ A c, e = .returned (.slice A X.length c) ∧ X.length ≤ c ∧ Fr8 w w' A X ∧ Below w.heap.size w w' := by
  have h1 := fBytes h.st h.K.d
  rw [hp.bytes] at h1
  exact h1
theorem lBytesE (h : Ls w0 w s g F D fr n) (hp : bytesM D = X) : Calls Tryz.prog 20 #[.pointer (some ⟨g, 0, none⟩)] w fun e w' => ∃ A c, e = .returned (.slice A X.length c) ∧ X.length ≤ c ∧ Fr8 w w' A X ∧ Below w.heap.size w w' := by
  have h1 := fBytes h.st h.K.d
  rw [hp] at h1
  exact h1
theorem setM_len (a : Int) : (setM D a chs).1.sec.length = D.sec.length := by
  unfold setM
  split
  · rfl
  · split <;> rfl
theorem lSet (h : Ls w0 w s g F D fr n) (a : Int) (ha : a ≤ 9223372036854775807) (hC : Kd.C Kd.bool w Ac chs.length chs) : Calls Tryz.prog 23 #[.pointer (some ⟨g, 0, none⟩), .int .i64 a, .slice Ac chs.length cc] w fun e w' => e = .returned (.int .i64 (setM D a chs).2) ∧ LsPo w0 w w' s g F (setM D a chs).1 fr n :=
  (dSet h.S.d a Ac cc chs hC).mono fun e w' ⟨he, hp⟩ => ⟨he, h.dpo (h.K.dm (setM_ok h.K.d ha) (setM_len a)) hp⟩
theorem op_cells {m : Nat × Nat} {t : Nat} (h : w.heap[t]? = some (.cells #[.int .i64 sl, .int .i64 ver, .int .i64 exp, .int .i64 z, .int .i64 ch, .slice A5 rt.length c5, .int .i64 pl, .slice A7 xb.length c7] 53 m)) : w.cell? ⟨t, 0, none⟩ = some (.int .i64 sl) ∧ w.cell? ⟨t, 1, none⟩ = some (.int .i64 ver) ∧ w.cell? ⟨t, 2, none⟩ = some (.int .i64 exp) ∧ w.cell? ⟨t, 3, none⟩ = some (.int .i64 z) ∧ w.cell? ⟨t, 4, none⟩ = some (.int .i64 ch) ∧ w.cell? ⟨t, 5, none⟩ = some (.slice A5 rt.length c5) ∧ w.cell? ⟨t, 6, none⟩ = some (.int .i64 pl) ∧ w.cell? ⟨t, 7, none⟩ = some (.slice A7 xb.length c7) := ⟨cellB h 0 _ rfl, cellB h 1 _ rfl, cellB h 2 _ rfl, cellB h 3 _ rfl, cellB h 4 _ rfl, cellB h 5 _ rfl, cellB h 6 _ rfl, cellB h 7 _ rfl⟩
theorem cut_C (h : C8 w (some ad) X) (hc : X.length ≤ c) (ho : o + 64 ≤ X.length) (hA : (if c = o then some ad else some (ad.add o)) = AD) : C8 w AD ((X.drop o).take 64) := by
  have h := Kd.C_drop (c := c) h (m := o) (by omega) hc
  rw [show (Kd.int .u8).sz = 1 from rfl, Nat.mul_one] at h
  rw [show (Option.map (fun x : Addr => x.add o) (some ad)) = some (ad.add o) from rfl, hA] at h
  exact C8.take h (m := 64) (by rw [List.length_drop]; omega)
theorem cut_len (ho : o + 64 ≤ X.length) : ((X.drop o).take 64).length = 64 := by rw [List.length_take, List.length_drop]; omega
theorem among_range (k : Int) : amongM k 20 ≤ 9223372036854775807 := by have := (amongM_lt k 20 (by decide)).2; omega
set_option maxHeartbeats 32000000 in
theorem SlotsCrash_calls (hg : Sh.Glob w) (hC : C8 w A b) (hc : b.length ≤ c) (sec fr n : Int) (hc7 : xb.length ≤ c7) (hC7 : C8 w A7 xb) (hCc : Kd.C Kd.bool w Ac chs.length chs) (stroke : Int) :
    Calls Tryz.prog 6 #[.slice A b.length c, .int .i64 sec, .int .i64 fr, .int .i64 n, .agg #[.int .i64 sl, .int .i64 ver, .int .i64 exp, .int .i64 z, .int .i64 ch, .slice A5 rt.length c5, .int .i64 pl, .slice A7 xb.length c7], .int .i64 stroke, .slice Ac chs.length cc] w fun e w' => Kn w w' e := by
  have HC := Aside0.mk hC
  have HCC := Aside0.mk hc
  have HC7 := Aside0.mk hC7
  have HL7c := Aside0.mk hc7
  have HCH := Aside0.mk hCc
  have HBA := Aside0.mk (below_alloc (Below.refl w.heap.size w) (.cells #[.int .i64 sl, .int .i64 ver, .int .i64 exp, .int .i64 z, .int .i64 ch, .slice A5 rt.length c5, .int .i64 pl, .slice A7 xb.length c7] 53))
  have HBX := Aside0.mk (heap_alloc_new w (.cells #[.int .i64 sl, .int .i64 ver, .int .i64 exp, .int .i64 z, .int .i64 ch, .slice A5 rt.length c5, .int .i64 pl, .slice A7 xb.length c7] 53))
  have HGA := Aside0.mk (hg.below HBA.out)
  obtain ⟨rw_, hw1, hw2⟩ := wide_said hC hc sec
  have HW := Aside0.mk hw1
  have HBD := Aside0.mk (show ∀ m, Below (w.alloc (.cells #[.int .i64 sl, .int .i64 ver, .int .i64 exp, .int .i64 z, .int .i64 ch, .slice A5 rt.length c5, .int .i64 pl, .slice A7 xb.length c7] 53)).heap.size (w.alloc (.cells #[.int .i64 sl, .int .i64 ver, .int .i64 exp, .int .i64 z, .int .i64 ch, .slice A5 rt.length c5, .int .i64 pl, .slice A7 xb.length c7] 53)) ((w.alloc (.cells #[.int .i64 sl, .int .i64 ver, .int .i64 exp, .int .i64 z, .int .i64 ch, .slice A5 rt.length c5, .int .i64 pl, .slice A7 xb.length c7] 53)).drewN m) from fun m => pw_below_drewN (Below.refl _ _) m)
  have HGD := Aside0.mk (show ∀ m, Sh.Glob ((w.alloc (.cells #[.int .i64 sl, .int .i64 ver, .int .i64 exp, .int .i64 z, .int .i64 ch, .slice A5 rt.length c5, .int .i64 pl, .slice A7 xb.length c7] 53)).drewN m) from fun m => HGA.out.below (HBD.out m))
  have HBDw := Aside0.mk (show ∀ m, Below w.heap.size w ((w.alloc (.cells #[.int .i64 sl, .int .i64 ver, .int .i64 exp, .int .i64 z, .int .i64 ch, .slice A5 rt.length c5, .int .i64 pl, .slice A7 xb.length c7] 53)).drewN m) from fun m => below_trans HBA.out (HBD.out m))
  clear hg hC hc hc7 hC7 hCc hw1
  have HK := Aside0.mk (show ∀ m, Calls Tryz.prog 14 #[] ((w.alloc (.cells #[.int .i64 sl, .int .i64 ver, .int .i64 exp, .int .i64 z, .int .i64 ch, .slice A5 rt.length c5, .int .i64 pl, .slice A7 xb.length c7] 53)).drewN m) fun e w' => e = .returned (.bool true) ∧ Below w.heap.size w w' from fun m => (known_calls (HGD.out m)).mono fun e w' h => ⟨h.1, below_trans (HBDw.out m) h.2⟩)
  cases rw_ with
  | true =>
    clear hw2
    go_enter Tryz.func6, Tryz.ntmps6
    go_wp2_with (first
      | (go_at_call 15; (with_reducible refine (HW.out _ HBA.out).mono ?_); rintro e w1 ⟨rfl, m1, rfl⟩)
      | (go_at_call 14; (with_reducible refine (HK.out _).mono ?_); rintro e w2 ⟨rfl, hb2⟩; have HB2 := Aside0.mk hb2; clear hb2))
    go_ret
    exact ⟨rfl, HB2.out⟩
  | false =>
    obtain ⟨hb9, hs2⟩ := hw2 rfl
    clear hw2
    by_cases hx2 : 2000 < (xb.length : Int)
    · have q1 : decide (2000 < (xb.length : Int)) = true := decide_eq_true hx2
      clear hx2
      go_enter Tryz.func6, Tryz.ntmps6
      go_wp2_with (first
        | (go_at_call 15; (with_reducible refine (HW.out _ HBA.out).mono ?_); rintro e w1 ⟨rfl, m1, rfl⟩)
        | (go_at_call 14; (with_reducible refine (HK.out _).mono ?_); rintro e w2 ⟨rfl, hb2⟩; have HB2 := Aside0.mk hb2; clear hb2))
      go_ret
      exact ⟨rfl, HB2.out⟩
    have q1 : decide (2000 < (xb.length : Int)) = false := decide_eq_false hx2
    by_cases hx3 : 100 < (chs.length : Int)
    · have q2 : decide (100 < (chs.length : Int)) = true := decide_eq_true hx3
      clear hx2 hx3
      go_enter Tryz.func6, Tryz.ntmps6
      go_wp2_with (first
        | (go_at_call 15; (with_reducible refine (HW.out _ HBA.out).mono ?_); rintro e w1 ⟨rfl, m1, rfl⟩)
        | (go_at_call 14; (with_reducible refine (HK.out _).mono ?_); rintro e w2 ⟨rfl, hb2⟩; have HB2 := Aside0.mk hb2; clear hb2))
      go_ret
      exact ⟨rfl, HB2.out⟩
    have q2 : decide (100 < (chs.length : Int)) = false := decide_eq_false hx3
    have HXB := Aside0.mk (show xb.length ≤ 12000 by omega)
    have HXB2 := Aside0.mk (show xb.length ≤ 140737488351232 by omega)
    clear hx2 hx3
    go_enter Tryz.func6, Tryz.ntmps6
    go_wp2_with (first
      | (go_at_call 15; (with_reducible refine (HW.out _ HBA.out).mono ?_); rintro e w1 ⟨rfl, m1, rfl⟩))
    with_reducible refine (opened_calls (HGD.out _) (Kd.C_below HC.out (HBDw.out _)) HCC.out hb9 hs2).mono ?_
    intro e w3 hop
    rcases hop with ⟨A1, n1, c1, rfl, hb3⟩ | ⟨s, g, F, A3, XL, c3, k, rfl, hL3, hk3, hx3, hc3, hr3⟩
    · have HB4 := Aside0.mk (below_trans (below_trans (HBD.out _) hb3) (below_alloc (Below.refl w3.heap.size w3) (.cells #[.slice A1 n1 c1, .int .i64 0, .int .i64 0] 49)))
      clear hb3
      go_wp2_with (first | (go_at_call 14; (with_reducible refine (known_calls (HGA.out.below HB4.out)).mono ?_); rintro e w5 ⟨rfl, hb5⟩; have HB5 := Aside0.mk (below_trans HBA.out (below_trans HB4.out hb5)); clear hb5))
      go_ret
      exact ⟨rfl, HB5.out⟩
    · have hP := pinv_new b k
      obtain ⟨D, hD⟩ : ∃ D, newM b k k = D := ⟨_, rfl⟩
      rw [hD] at hL3 hP hx3 hr3
      obtain ⟨X, hX⟩ : ∃ X, bytesM D = X := ⟨_, rfl⟩
      rw [hX] at hP hr3 hx3
      subst hx3
      have hbw := below_trans (HBD.out _) hL3.b
      obtain ⟨wA, hwA⟩ : ∃ wA, (w.alloc (.cells #[.int .i64 sl, .int .i64 ver, .int .i64 exp, .int .i64 z, .int .i64 ch, .slice A5 rt.length c5, .int .i64 pl, .slice A7 xb.length c7] 53)) = wA := ⟨_, rfl⟩
      rw [hwA] at HBX HBA HGA hL3 hbw
      have hL3' := Ls.under (w0 := wA) hL3 hbw (by simp) HGA.out
      have HN0 := Aside0.mk (show 0 ≤ 64 * fr ∧ 64 ≤ 64 * n ∧ 64 * fr + 2 * (64 * n) ≤ (X.length : Int) ∧ X.length ≤ 64000 by
        have h1 := hL3'.K.hf
        have h2 := hL3'.K.hn
        have h3 := hL3'.K.hl
        have h4 := hL3'.K.hz
        have h5 := hP.length
        omega)
      have HF3 := Aside0.mk (disk_hi hL3'.S.d)
      have hba := below_alloc (Below.refl w3.heap.size w3) (.cells #[.slice A3 X.length c3, .int .i64 (64 * fr), .int .i64 (64 * n)] 49)
      have HL4 := Aside0.mk (hL3'.below hba)
      have HT4 := Aside0.mk (show (w3.alloc (.cells #[.slice A3 X.length c3, .int .i64 (64 * fr), .int .i64 (64 * n)] 49)).heap[w3.heap.size]? = some (.cells #[.slice A3 X.length c3, .int .i64 (64 * fr), .int .i64 (64 * n)] 49 (0, 0)) ∧ ¬ F w3.heap.size from ⟨heap_alloc_new w3 _, fun hf => Nat.lt_irrefl _ (HF3.out _ hf)⟩)
      have HR4 := Aside0.mk (Rd.below hr3 hba)
      have HXC := Aside0.mk hc3
      have HTI := Aside0.mk (TInv.set hP (amongM stroke 20) chs)
      have HAM := Aside0.mk (fun W => Among_calls (w := W) stroke 20 (by decide) (by decide))
      have HCHA := Aside0.mk (show ∀ W, Below wA.heap.size wA W → Kd.C Kd.bool W Ac chs.length chs from fun W hW => Kd.C_below HCH.out (below_trans HBA.out hW))
      clear hL3 hL3' hP hD hX hr3 hc3 hk3 hba hbw
      have hk1 : LOk (setM D (amongM stroke 20) chs).1 fr n := HL4.out.K.dm (setM_ok HL4.out.K.d (among_range stroke)) (setM_len _)
      have HSET := Aside0.mk (lSet (cc := cc) HL4.out (amongM stroke 20) (among_range stroke) (HCHA.out _ HL4.out.b))
      obtain ⟨D1, hD1⟩ : ∃ D1, (setM D (amongM stroke 20) chs).1 = D1 := ⟨_, rfl⟩
      rw [hD1] at HSET HTI hk1
      have hcr := TInv.put (slot := sl) (z := z) (ch := ch) (pl := pl) (b := xb) HTI.out hk1 HXB.out
      obtain ⟨D2, E, hDE⟩ : ∃ D2 E, lPutM D1 fr n sl z ch pl xb = (D2, E) := ⟨_, _, rfl⟩
      obtain ⟨X1, f, hXE⟩ : ∃ X1 f, rPutM X (64 * fr) (64 * n) sl z ch pl xb = (X1, f) := ⟨_, _, rfl⟩
      rw [hDE, hXE] at hcr
      have HCR := Aside0.mk hcr
      have HDE := Aside0.mk hDE
      have HXE := Aside0.mk hXE
      have HHD := Aside0.mk (show D1.held.length + xb.length ≤ 9000000 by rw [HTI.out.held]; have := HXB.out; show 0 + xb.length ≤ _; omega)
      clear hk1 hD1 hcr hDE hXE
      go_wp2_with (first
        | (go_at_call 24; (with_reducible refine (HAM.out _).mono ?_); rintro e w4 ⟨rfl, rfl⟩)
        | (go_at_call 23; (with_reducible refine HSET.out.mono ?_); rintro e w5 ⟨rfl, F5, hl5, hk5, hf5, hu5⟩; have HL5 := Aside0.mk hl5; have HR5 := Aside0.mk (Rd.keep HR4.out hk5); have HT5 := Aside0.mk (blk_keep HT4.out hf5 hu5); obtain ⟨ho0, ho1, ho2, ho3, ho4, ho5, ho6, ho7⟩ := op_cells (blk_below HBX.out hl5.b); clear hl5 hk5 hf5 hu5)
        | (go_at_call 13; (with_reducible refine (lsPut HL5.out ver exp A5 rt.length c5 HHD.out HL7c.out (fun W hW => Kd.C_below HC7.out (below_trans HBA.out (below_upd HL5.out.b hW HL5.out.S.d.lo)))).mono ?_); rintro e w7 ⟨rfl, F7, hl7, hk7, hf7, hu7⟩; rw [HDE.out] at hl7 ⊢; have HL7 := Aside0.mk hl7; have HR7 := Aside0.mk (Rd.keep HR5.out hk7); have HT7 := Aside0.mk (blk_keep HT5.out hf7 hu7); clear ho0 ho1 ho2 ho3 ho4 ho5 ho6 ho7; obtain ⟨ho0, ho1, ho2, ho3, ho4, ho5, ho6, ho7⟩ := op_cells (blk_below HBX.out hl7.b); have hk0 := cellB HT7.out.1 0 _ rfl; have hk1 := cellB HT7.out.1 1 _ rfl; have hk2 := cellB HT7.out.1 2 _ rfl; clear hl7 hk7 hf7 hu7))
      have HR7C := Aside0.mk (show C8 w7 A3 X from HR7.out.1)
      with_reducible refine (rPut_calls HR7C.out HXC.out (Kd.C_below HC7.out (below_trans HBA.out HL7.out.b)) HL7c.out HN0.out.1 HN0.out.2.1 HN0.out.2.2.1 HN0.out.2.2.2 HXB2.out).mono ?_
      rintro e w8 ⟨hb8, A8, c8, he8, hr8⟩
      rw [HXE.out] at he8 hr8
      dsimp only at he8 hr8
      subst he8
      have HB8 := Aside0.mk hb8
      have HL8 := Aside0.mk (HL7.out.below hb8)
      have HR8 := Aside0.mk (Rd.below HR7.out hb8)
      have HT8 := Aside0.mk (show w8.heap[w3.heap.size]? = some (.cells #[.slice A3 X.length c3, .int .i64 (64 * fr), .int .i64 (64 * n)] 49 (0, 0)) from blk_below HT7.out.1 hb8)
      obtain ⟨t, ht⟩ : ∃ t, w3.heap.size = t := ⟨_, rfl⟩
      rw [ht] at HT8 ⊢
      clear hb8 ht ho0 ho1 ho2 ho3 ho4 ho5 ho6 ho7 hk0 hk1 hk2
      rcases HCR.out with ⟨hf, he, hd, hx⟩ | ⟨hf, he, hb⟩ | ⟨hf, he, hd, hl, hlr, hs⟩
      · dsimp only at hf he hd hx
        have hd := hd.symm
        have hx := hx.symm
        subst he hd hx
        have q5 : (E == 0) = false := beq_eq_false_iff_ne.mpr hf
        have q6 : (E != 0) = true := bne_iff_ne.mpr hf
        have q7 : (E == E) = true := by simp
        have HLZ := Aside0.mk (HL8.out.below (below_drew (Below.refl w8.heap.size w8)))
        have HRZ := Aside0.mk (Rd.below HR8.out (below_drew (Below.refl w8.heap.size w8)))
        have HTZ := Aside0.mk (show w8.drew.heap[t]? = some (.cells #[.slice A3 _ c3, .int .i64 (64 * fr), .int .i64 (64 * n)] 49 (0, 0)) from HT8.out)
        have HS10 := Aside0.mk (cellB HTZ.out 0 _ rfl)
        have HTV := Aside0.mk HTI.out
        clear hf hr8
        go_wp2_with (fail)
        refine start_ (n := 14) (S := fun w' => w'.cell? ⟨t, 0, none⟩ = some (.slice A3 X.length c3)) (ds := [11]) (bz 14 0) (by kernel_rfl) rfl rfl (HS10.out) (fun hHeld => ?_)
        refine pz 0 (some 92) (bz 14 1) ?_
        refine pz 1 (some 93) (bz 14 3) ?_
        refine pz 2 (some 94) (bz 14 7) ?_
        refine pz 3 (some 95) (bz 14 15) ?_
        refine pz 4 (some 96) (bz 14 31) ?_
        refine pz 6 (some 98) (bz 14 95) ?_
        refine tz1 7 (some 99) (bz 14 223) hHeld ?_
        refine one_ (i := 5) (N := some 97) (bz 14 255) rfl rfl (by kernel_rfl) (by decide) (fun K hK => ?_)
        refine goes_ Tryz.func20 (by kernel_rfl) rfl #[.pointer (some ⟨g, 0, none⟩)] (by rfl) rfl rfl (by simp only [List.map_toArray, List.map_cons, List.map_nil]; rfl) ?_
        with_reducible refine (lBytesT HLZ.out HTV.out).mono ?_
        rintro e w9 ⟨A9, c9, rfl, hc9, hf9, hb9⟩
        refine ⟨_, rfl, ?_⟩
        have HL9 := Aside0.mk (HLZ.out.below hb9)
        have HT9 := Aside0.mk (blk_below HTZ.out hb9)
        have HSM := Aside0.mk (same_self hf9.C (Rd.below HRZ.out hb9).1 (c := c9) (c2 := c3))
        clear hc9 hf9 hb9
        refine hK.out _ _ ((cellB HT9.out 0 _ rfl)) (fun hHeld => ?_)
        clear hK K
        refine norm_ (a' := ?_) ?_ ?_
        rotate_left
        · show Act.put _ (some 97) _ = _
          simp only [Act.put, List.setIfInBounds_toArray, List.set_cons_zero, List.set_cons_succ, i64_w, i32_w]
          rfl
        refine one_ (i := 8) (N := some 100) (bz 14 511) rfl rfl (by kernel_rfl) (by decide) (fun K hK => ?_)
        refine goes_ Tryz.func18 (by kernel_rfl) rfl #[.slice A9 X.length c9, .slice A3 X.length c3] (by rfl) rfl rfl (by simp only [List.map_toArray, List.map_cons, List.map_nil]; rfl) ?_
        with_reducible refine (HSM.out).mono ?_
        rintro e w10 ⟨rfl, rfl⟩
        refine ⟨_, rfl, ?_⟩
        refine hK.out _ _ ((cellB HT9.out 0 _ rfl)) (fun hHeld => ?_)
        clear hK K
        refine norm_ (a' := ?_) ?_ ?_
        rotate_left
        · show Act.put _ (some 100) _ = _
          simp only [Act.put, List.setIfInBounds_toArray, List.set_cons_zero, List.set_cons_succ, i64_w, i32_w]
          rfl
        refine pz 9 (some 101) (bz 14 1023) ?_
        refine pz 10 (some 102) (bz 14 2047) ?_
        refine last_ (i := 11) (N := some 103) (bz 14 4095) rfl rfl (by kernel_rfl) (by decide) (fun K hK => ?_)
        refine goes_ Tryz.func14 (by kernel_rfl) rfl #[] (by rfl) rfl rfl (by simp only [List.map_toArray, List.map_cons, List.map_nil] <;> rfl) ?_
        with_reducible refine (known_calls HL9.out.glob).mono ?_
        rintro e w11 ⟨rfl, hb11⟩
        refine ⟨_, rfl, ?_⟩
        have HB11 := Aside0.mk (below_trans HL9.out.b hb11)
        clear hb11
        refine hK.out _ _ ?_
        clear hK K
        refine norm_ (a' := ?_) ?_ ?_
        rotate_left
        · show Act.put _ (some 103) _ = _
          simp only [Act.put, List.setIfInBounds_toArray, List.set_cons_zero, List.set_cons_succ, i64_w, i32_w]
          rfl
        refine pz 12 (some 104) (bz 14 8191) ?_
        refine pz 13 (some 14) (bz 14 16383) ?_
        refine done_ (by kernel_rfl) ?_
        go_wp2_with (fail)
        go_ret
        exact ⟨rfl, below_trans HBA.out HB11.out⟩
      · dsimp only at hf he hb
        subst hf he
        obtain ⟨_, hf8⟩ := hr8.resolve_left (fun h => h.1 rfl)
        have HF8 := Aside0.mk hf8
        have HBB := Aside0.mk hb
        clear hr8 hb hf8
        go_wp2_with (first
          | (go_at_call 20; (with_reducible refine (lBytesE HL8.out HBB.out).mono ?_); rintro e w9 ⟨A9, c9, rfl, hc9, hf9, hb9⟩; have HL9 := Aside0.mk (HL8.out.below hb9); have HSM := Aside0.mk (same_self hf9.C (Kd.C_below HF8.out.2.C hb9) (c := c9) (c2 := c8)); clear hc9 hf9 hb9)
          | (go_at_call 18; (with_reducible refine HSM.out.mono ?_); rintro e w10 ⟨rfl, rfl⟩)
          | (go_at_call 14; (with_reducible refine (known_calls HL9.out.glob).mono ?_); rintro e w11 ⟨rfl, hb11⟩; have HB11 := Aside0.mk (below_trans HL9.out.b hb11); clear hb11))
        go_ret
        exact ⟨rfl, below_trans HBA.out HB11.out⟩
      · dsimp only at hf he hd hl hlr hs
        subst hf he
        obtain ⟨_, hf8⟩ := hr8.resolve_left (fun h => h.1 rfl)
        obtain ⟨N, hN⟩ : ∃ N, bytesM D2 = N := ⟨_, rfl⟩
        rw [hN] at hl hs
        obtain ⟨L, hL⟩ : ∃ L, X.length = L := ⟨_, rfl⟩
        obtain ⟨S, hS⟩ : ∃ S, D1.sec.length = S := ⟨_, rfl⟩
        have hLS : L = 64 * S := by rw [← hL, ← hS]; exact HTI.out.length
        rw [hL] at hl hlr hs
        have hS0 : 0 < S ∧ S ≤ 1000 := by have := HN0.out; rw [hL] at this; omega
        have HBY := Aside0.mk (show Calls Tryz.prog 20 #[.pointer (some ⟨g, 0, none⟩)] w8 fun e w' => ∃ A c, e = .returned (.slice A L c) ∧ L ≤ c ∧ Fr8 w8 w' A N ∧ Below w8.heap.size w8 w' from by
          have h := lBytesE HL8.out hN
          rwa [hl] at h)
        obtain ⟨hc8, hF8⟩ := hf8
        have HL1 := Aside0.mk (show X1.length = L from hlr)
        have HLN := Aside0.mk (show N.length = L from hl)
        have HLX := Aside0.mk (show X.length = L from hL)
        have HC8' := Aside0.mk (show L ≤ c8 by rw [← hlr]; exact hc8)
        have HC3' := Aside0.mk (show L ≤ c3 by rw [← hL]; exact HXC.out)
        have HF8 := Aside0.mk hF8
        have HSS := Aside0.mk hs
        have HTL := Aside0.mk (show w8.heap[t]? = some (.cells #[.slice A3 L c3, .int .i64 (64 * fr), .int .i64 (64 * n)] 49 (0, 0)) by rw [← hL]; exact HT8.out)
        have HDN := Aside0.mk hd
        rw [hlr]
        have HLS := Aside0.mk (show L = 64 * S ∧ 0 < S ∧ S ≤ 1000 from ⟨hLS, hS0⟩)
        clear hr8 hs hd hl hlr hL hS hN hc8 hF8 hLS hS0
        go_wp2_with (first
          | (go_at_call 20; (with_reducible refine HBY.out.mono ?_); rintro e w9 ⟨A9, c9, rfl, hc9, hf9, hb9⟩; have HL9 := Aside0.mk (HL8.out.below hb9); have HC9 := Aside0.mk hf9.C; have HC99 := Aside0.mk hc9; have HB9 := Aside0.mk hb9; clear hc9 hf9 hb9)
          | (go_at_call 25; (with_reducible refine (sUp HL9.out.st).mono ?_); rintro e w10 ⟨rfl, rfl⟩; rw [HDN.out]))
        obtain ⟨a9, rfl, _⟩ := HC9.out.2.2 (by rw [HLN.out]; have := HLS.out; omega)
        have HR8C := Aside0.mk (show C8 w9 A3 X from Kd.C_below HR8.out.1 HB9.out)
        have HF8C := Aside0.mk (show C8 w9 A8 X1 from Kd.C_below HF8.out.C HB9.out)
        obtain ⟨a3, rfl, _⟩ := HR8C.out.2.2 (by rw [HLX.out]; have := HLS.out; omega)
        obtain ⟨a8, rfl, _⟩ := HF8C.out.2.2 (by rw [HL1.out]; have := HLS.out; omega)
        have HTL9 := Aside0.mk (blk_below HTL.out HB9.out)
        go_loopw [24] (fun v24 w' => ∃ k : Nat, v24 = .int .i64 k ∧ k ≤ S ∧ w9 = w') (fun v24 _ => S - (intOf v24).toNat)
        case atStart => exact ⟨0, rfl, Nat.zero_le _, rfl⟩
        case round =>
          obtain ⟨k, rfl, hk, rfl⟩ := hrel
          by_cases hlt : k < S
          · obtain ⟨hLS, hS0⟩ := HLS.out
            have hk2 : (k : Int) < 1000 := by omega
            have hoL : 64 * k + 64 ≤ L := by omega
            have hs1 := HSS.out k (by omega)
            have n1 : 64 * k + 64 ≤ c9 := Nat.le_trans hoL HC99.out
            have n2 : 64 * k + 64 ≤ c3 := Nat.le_trans hoL HC3'.out
            have n3 : 64 * k + 64 ≤ c8 := Nat.le_trans hoL HC8'.out
            have C1 := cut_C (AD := some (a9.add (64 * k))) HC9.out (by rw [HLN.out]; exact HC99.out) (by rw [HLN.out]; exact hoL) (if_neg (by omega))
            have C2 := cut_C (AD := some (a3.add (64 * k))) HR8C.out HXC.out (by rw [HLX.out]; exact hoL) (if_neg (by omega))
            have C3 := cut_C (AD := some (a8.add (64 * k))) HF8C.out (by rw [HL1.out]; exact HC8'.out) (by rw [HL1.out]; exact hoL) (if_neg (by omega))
            have l1 := cut_len (X := N) (o := 64 * k) (by rw [HLN.out]; exact hoL)
            have l2 := cut_len (X := X) (o := 64 * k) (by rw [HLX.out]; exact hoL)
            have l3 := cut_len (X := X1) (o := 64 * k) (by rw [HL1.out]; exact hoL)
            have h12 := Same_calls _ (c9 - 64 * k) _ _ (c3 - 64 * k) _ C1 C2
            have h13 := Same_calls _ (c9 - 64 * k) _ _ (c8 - 64 * k) _ C1 C3
            rw [l1, l2] at h12
            rw [l1, l3] at h13
            obtain ⟨q, hq⟩ : ∃ q, sameM ((N.drop (64 * k)).take 64) ((X.drop (64 * k)).take 64) = q := ⟨_, rfl⟩
            rw [hq] at h12
            have HQ1 := Aside0.mk h12
            have b1 : 64 * (k : Int) + 64 ≤ (c9 : Int) := by omega
            have b2 : 64 * (k : Int) + 64 ≤ (c3 : Int) := by omega
            have b3 : 64 * (k : Int) + 64 ≤ (c8 : Int) := by omega
            have b4 : 64 * (k : Int) + 64 ≤ (L : Int) := by omega
            have b5 : (L : Int) ≤ 64000 := by omega
            have qlt : decide (64 * (k : Int) < (L : Int)) = true := decide_eq_true (by omega)
            have hct := cellB HTL9.out 0 _ rfl
            have HKS := Aside0.mk (show k < S from hlt)
            clear hLS hS0 hlt hk hoL n1 n2 n3 C1 C2 C3 l1 l2 l3 h12
            cases q with
            | true =>
              clear h13 hs1 hq
              go_wp2_with (first
                | (go_at_call 18; (with_reducible refine HQ1.out.mono ?_); rintro e_ w10 ⟨rfl, rfl⟩))
              go_roundw
              case rel => exact ⟨k + 1, by go_num, by have := HKS.out; omega, (by first | trivial | rfl)⟩
              case measure => have := HKS.out; simp [intOf]; omega
            | false =>
              have hs2 : ((N.drop (64 * k)).take 64) = ((X1.drop (64 * k)).take 64) := hs1.resolve_left (fun h => by rw [h, sameM_refl] at hq; cases hq)
              rw [hs2, sameM_refl] at h13
              have HQ2 := Aside0.mk h13
              clear h13 hs1 hq hs2
              go_wp2_with (first
                | (go_at_call 18; (with_reducible refine HQ1.out.mono ?_); rintro e_ w10 ⟨rfl, rfl⟩)
                | (go_at_call 18; (with_reducible refine HQ2.out.mono ?_); rintro e_ w10 ⟨rfl, rfl⟩))
              go_roundw
              case rel => exact ⟨k + 1, by go_num, by have := HKS.out; omega, (by first | trivial | rfl)⟩
              case measure => have := HKS.out; simp [intOf]; omega
          · obtain ⟨hLS, hS0⟩ := HLS.out
            have qlt : decide (64 * (k : Int) < (L : Int)) = false := decide_eq_false (by omega)
            have hk2 : (k : Int) ≤ 1000 := by omega
            clear hLS hS0 hlt hk
            go_wp2_with (first
              | (go_at_call 14; (with_reducible refine (known_calls HL9.out.glob).mono ?_); rintro e w11 ⟨rfl, hb11⟩; have HB11 := Aside0.mk (below_trans HL9.out.b hb11); clear hb11))
            go_ret
            exact ⟨rfl, below_trans HBA.out HB11.out⟩

end Go.Proofs.YtfpfnolpoklefaaGreatDoor.Lo
/- The law SlotsCrash holds: called with any arguments that can be read, it returns true and leaves them as they were: the card, tied to the program's text. There is no further condition. -/
namespace Go.Proofs.YtfpfnolpoklefaaGreatDoor.slotsCrash
open Go.ChangeShapes Go.WideShapes Go.ChangeAt Go.RowKit
open Go.ChangeMaps (open_string shut_string)
set_option linter.unusedVariables false
theorem own : ownKnob Tryz.prog.godebug = none := by kernel_rfl
theorem laidOut : laidOutB Tryz.prog = true := by kernel_rfl
set_option maxHeartbeats 8000000 in
set_option maxRecDepth 100000 in
theorem lifted (os : Os) (started : os.Started) (H : Type) (enc : TypeId × Value → H) :
    ReturnsInHanded {} Tryz.checked os 6 .any (fun w args => (Rows.slotsCrashSpec.pre enc Tryz.prog Tryz.f6 [] false w args ∧ laidMetH Tryz.prog Sh.laidTabs w) ∧ sizedMet enc Tryz.prog Tryz.f6 (OpenSpec.ofChange Rows.slotsCrashSpec) false w args) (Rows.slotsCrashSpec.post enc Tryz.prog Tryz.f6 false true false false) := by
  refine returnsInHanded_of_change_and (C := Tryz.checked) (X := fun w _ => laidMetH Tryz.prog Sh.laidTabs w) (fun _ _ _ hh h => h.of_heap hh) own started (by kernel_rfl) Tryz.func6
    (ChangeSpec.witness_shaped (enc := enc) (C := Tryz.checked) (os := os) (X := fun w _ => laidMetH Tryz.prog Sh.laidTabs w) false (World.doorLaid Tryz.prog 400 os) #[.slice none 0 0, .int .i64 0, .int .i64 0, .int .i64 0, .agg #[.int .i64 0, .int .i64 0, .int .i64 0, .int .i64 0, .int .i64 0, .slice none 0 0, .int .i64 0, .slice none 0 0], .int .i64 0, .slice none 0 0] 8 rfl (World.shaped_of_RefB (by kernel_rfl) (by kernel_rfl)) (by kernel_rfl) (by kernel_rfl) (by kernel_rfl) (Sh.door_met os _)) ?_
  intro W base args ds gs before hval0 hW hcnd hsz0 hL _
  have hG := Sh.of_laid hL
  have hsz : (DataW.weightsEach Tryz.prog (Tryz.f6.params.toList ++ Rows.slotsCrashSpec.plain.varTypes Tryz.prog) (ds ++ gs)).all (· ≤ reachBytes) = true := hsz0
  have hval : ∀ (j : Nat) t v, Tryz.f6.params[j]? = some t → args[j]? = some v → Value.okWide Tryz.prog W .any base t v := hval0
  have hW' := hW
  obtain ⟨p, q, hA0, hV, rfl, hfz, hnd⟩ := hW
  have hA : DataW.TrodAll enc Tryz.prog W 0 (fun _ => true) true Tryz.f6.params.toList args.toList ds p := hA0
  rw [Tryz.params6] at hA hval hsz
  obtain ⟨v0, vs0, d0, ds0, p0, q0, hargs, rfl, rfl, h0, r0⟩ := trodAll_cons hA
  obtain ⟨v1, vs1, d1, ds1, p1, q1, rfl, rfl, rfl, h1, r1⟩ := trodAll_cons r0
  obtain ⟨v2, vs2, d2, ds2, p2, q2, rfl, rfl, rfl, h2, r2⟩ := trodAll_cons r1
  obtain ⟨v3, vs3, d3, ds3, p3, q3, rfl, rfl, rfl, h3, r3⟩ := trodAll_cons r2
  obtain ⟨v4, vs4, d4, ds4, p4, q4, rfl, rfl, rfl, h4, r4⟩ := trodAll_cons r3
  obtain ⟨v5, vs5, d5, ds5, p5, q5, rfl, rfl, rfl, h5, r5⟩ := trodAll_cons r4
  obtain ⟨v6, vs6, d6, ds6, p6, q6, rfl, rfl, rfl, h6, r6⟩ := trodAll_cons r5
  obtain ⟨rfl, rfl, rfl⟩ := trodAll_nil r6
  obtain rfl : args = #[v0, v1, v2, v3, v4, v5, v6] := by cases args; simp_all
  obtain ⟨rfl, rfl⟩ := trodVars_none hV
  obtain ⟨a0, len0, cap0, rfl⟩ := okWide_slice Tryz.underlying22 (hval 0 22 v0 rfl rfl)
  have k0 := h0
  have lt0 : ∀ x ∈ p0, x.block < W.heap.size := by obtain ⟨m, hm⟩ := k0; exact DataW.trod_lt m _ _ _ hm
  obtain ⟨fu0, hf0⟩ := h0
  obtain ⟨b0, c0, z0, hcs0, hl0, hC0, hb0⟩ := Dk.open_by hf0 (fun n hn => by simpa using List.all_eq_true.1 hsz _ (DataW.weights_mem_each (j := 0) (t := 22) rfl rfl n hn))
  simp [Value.cells] at hcs0
  obtain ⟨rfl, rfl, rfl⟩ := hcs0
  obtain ⟨a1, rfl, rfl, rfl, w1⟩ := open_int Tryz.underlying3 (hval 1 3 v1 rfl rfl) h1
  obtain ⟨a2, rfl, rfl, rfl, w2⟩ := open_int Tryz.underlying3 (hval 2 3 v2 rfl rfl) h2
  obtain ⟨a3, rfl, rfl, rfl, w3⟩ := open_int Tryz.underlying3 (hval 3 3 v3 rfl rfl) h3
  have k4 := h4
  have lt4 : ∀ x ∈ p4, x.block < W.heap.size := by obtain ⟨m, hm⟩ := k4; exact DataW.trod_lt m _ _ _ hm
  obtain ⟨fu4, hf4⟩ := h4
  obtain ⟨o4, hO4, hlb4⟩ := Dk.open_op hf4 (fun n hn => by simpa using List.all_eq_true.1 hsz _ (DataW.weights_mem_each (j := 4) (t := 53) rfl rfl n hn))
  obtain ⟨slot4, ⟨ver4, exp4, sz4, ck4, rt4⟩, pl4, x4⟩ := o4
  obtain ⟨ar4, cr4, ab4, cb4, hcs4, _, _, hcb4, hCb4⟩ := P.k53_open hO4
  obtain rfl := Dk.agg_of8 hcs4
  obtain ⟨a5, rfl, rfl, rfl, w5⟩ := open_int Tryz.underlying3 (hval 5 3 v5 rfl rfl) h5
  obtain ⟨a6, len6, cap6, rfl⟩ := okWide_slice Tryz.underlying59 (hval 6 59 v6 rfl rfl)
  have k6 := h6
  have lt6 : ∀ x ∈ p6, x.block < W.heap.size := by obtain ⟨m, hm⟩ := k6; exact DataW.trod_lt m _ _ _ hm
  obtain ⟨fu6, hf6⟩ := h6
  obtain ⟨b6, c6, z6, hcs6, hl6, hC6, hb6⟩ := Dk.open_ch hf6 (fun n hn => by simpa using List.all_eq_true.1 hsz _ (DataW.weights_mem_each (j := 6) (t := 59) rfl rfl n hn))
  simp [Value.cells] at hcs6
  obtain ⟨rfl, rfl, rfl⟩ := hcs6
  clear hA0 hval0 hsz0 hsz
  refine (Lo.SlotsCrash_calls hG hC0 hl0 a1 a2 a3 hcb4 hCb4 hC6 a5).mono fun e W' ⟨he, bel⟩ => ?_
  subst he
  exact ⟨_, rfl, _, _, _, [], _, [], hW', trodAll_mk1 (shut_bool Tryz.underlying4 _), (trodAll_cons_mk (Below.trod laidOut (by kernel_rfl) (of_decide_eq_true (by kernel_rfl)) k0 bel lt0) (trodAll_cons_mk (shut_int Tryz.underlying3 w1) (trodAll_cons_mk (shut_int Tryz.underlying3 w2) (trodAll_cons_mk (shut_int Tryz.underlying3 w3) (trodAll_cons_mk (Below.trod laidOut (by kernel_rfl) (of_decide_eq_true (by kernel_rfl)) k4 bel lt4) (trodAll_cons_mk (shut_int Tryz.underlying3 w5) (trodAll_cons_mk (Below.trod laidOut (by kernel_rfl) (of_decide_eq_true (by kernel_rfl)) k6 bel lt6) trodAll_mk0))))))), rfl, bel.frame _, fun h => by cases h⟩
theorem over : Rows.slotsCrashRow.holds Tryz.pinned (OpenSpec.ofChange Rows.slotsCrashSpec) :=
  OpenClaim.holds_of_wide 6 Tryz.f6 rfl rfl rfl rfl rfl rfl rfl ⟨rfl, rfl, rfl, rfl, rfl⟩ rfl rfl rfl rfl rfl (by kernel_rfl) Tryz.func6 (by kernel_rfl)
    (of_decide_eq_true (by kernel_rfl)) (by unfold Func.isWrapper; first | (rw [if_pos (by decide +kernel)]; kernel_rfl) | (rw [if_neg (by decide +kernel)]; exact ⟨rfl, rfl⟩))
    (fun os started H enc _ => lifted os started H enc)
theorem proved : Rows.SlotsCrashSaid := over
theorem card : Rows.SlotsCrashCardSaid :=
  Claim7.holds_tied_plain_at .later [] [.data, .data] true (true, "df487efc2d3613f5b734570face83baf3bd35c42f6d88ae94063d0daad1ebbc4") true
    proved (fun _ h => by cases h) (by kernel_rfl) (fun _ h => by cases h) slotsCrash_row_tie rfl ⟨rfl, rfl⟩ (by kernel_rfl) rfl
    (fun f fn hf hfn => by
      obtain rfl : f = 6 := Option.some.inj ((show Tryz.prog.funcNamed "imprimatur/imprimaturlaw13.SlotsCrash" = some 6 by kernel_rfl).symm.trans hf) |>.symm
      obtain rfl : fn = Tryz.f6 := (Option.some.inj (Tryz.func6.symm.trans hfn)).symm
      exact ⟨by kernel_rfl, fun j t ht => by
        rw [Tryz.params6] at ht
        have hm : t ∈ [22, 3, 3, 3, 53, 3, 59] := by simpa using Array.mem_of_getElem? ht
        have hall : ([22, 3, 3, 3, 53, 3, 59].all fun u => !Tryz.prog.wantsStandIn u) = true := by kernel_rfl
        exact (show Tryz.prog.wantsStandIn t = false by simpa using List.all_eq_true.1 hall t hm)⟩)
    (by kernel_rfl)
#print axioms card
end Go.Proofs.YtfpfnolpoklefaaGreatDoor.slotsCrash
namespace Go.Proofs.YtfpfnolpoklefaaGreatDoor
/-- The statement, under a short name, for the claim. -/
theorem slotsCrash_holds : Rows.SlotsCrashCardSaid := slotsCrash.card
end Go.Proofs.YtfpfnolpoklefaaGreatDoor
