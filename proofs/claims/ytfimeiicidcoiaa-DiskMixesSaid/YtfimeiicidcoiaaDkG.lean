/- Contracts of package disk: Bytes. -/
import Derived.Test.YtfimeiicidcoiaaDkF
namespace Go.Proofs.Ytfimeiicidcoiaa.Dk
open Go.RowKit Go.Proofs.YtfimeiicidcoiaaW.PrintWords Go.Proofs.YtfimeiicidcoiaaW.PrintLast Go.Proofs.YtfimeiicidcoiaaW.PrintMore
set_option linter.unusedVariables false
set_option linter.unusedSimpArgs false
variable {w : World} {B g : Nat} {F : Nat → Prop} {D : DM} {vs vh vc : Value}
/-- What Bytes tells, the first n sectors seen. -/
def bytesTo (sec : List (List Int)) : Nat → List Int
  | 0 => []
  | n + 1 => bytesTo sec n ++ sec.getD n []
def bytesM (D : DM) : List Int := bytesTo D.sec D.sec.length
theorem bytesTo_length {sec : List (List Int)} (hh : ∀ i, i < sec.length → (sec.getD i []).length = 64) : ∀ n, n ≤ sec.length → (bytesTo sec n).length = n * 64
  | 0, _ => rfl
  | n + 1, hn => by
    rw [bytesTo, List.length_append, bytesTo_length hh n (by omega), hh n (by omega)]
    omega
theorem make_empty (cap : Nat) (hc : cap ≤ 100000000000) (w : World) : (Instr.makeSlice 22 (.int .i64 0) (.int .i64 (cap : Int))).run Try.prog w = .ok (.slice (some ⟨w.heap.size, 0, none⟩) 0 cap) (w.alloc (.cells (madeCells #[.int .u8 0] cap) 5)) := by
  obtain ⟨i0, hi, hzz⟩ := Option.map_eq_some_iff.1 info5
  simp only [Prod.mk.injEq] at hzz
  obtain ⟨hz0, hz1, hz2⟩ := hzz
  have hr := run_make (P := Try.prog) w 22 5 i0 (.int .u8 0) Try.underlying22 hi hz0 .i64 .i64 0 (cap : Int) (by omega) (by omega) (by rw [hz2]; omega) (by omega)
  rw [hz1] at hr
  simpa [Value.cells] using hr
theorem R_empty (cap : Nat) (hc : cap ≤ 100000000000) (w : World) (base : Nat) (ok : Nat → Prop) (hb : base ≤ w.heap.size) (hok : ok w.heap.size) : Kd.R (Kd.int .u8) 5 (w.alloc (.cells (madeCells #[.int .u8 0] cap) 5)) base ok (.slice (some ⟨w.heap.size, 0, none⟩) 0 cap) [] := by
  refine ⟨fun k hk => ?_, [], ⟨by simp, .inr ⟨w.heap.size, cap, madeCells #[.int .u8 0] cap, rfl, hb, heap_alloc_new w _, Nat.zero_le _, by simp only [maxLen]; omega, by simp [size_madeCells, Kd.int, Kd.scalar], by simp⟩⟩, Reps.none _ _⟩
  simp [Value.ownBlock] at hk
  rw [← hk]
  exact hok
/-- A block of bytes, as what is read. -/
theorem C_block {w : World} {g : Nat} {x : List Int} {e : TypeId} {m : Nat × Nat} (h : w.heap[g]? = some (.cells (nums .u8 x).toArray e m)) (hx : x.length ≤ 1000000) : Kd.C (Kd.int .u8) w (some ⟨g, 0, none⟩) x.length x := by
  refine ⟨rfl, by omega, fun _ => ⟨_, rfl, fun j p hj => ⟨[.int .u8 p], rfl, rfl, fun i u hu => ?_⟩⟩⟩
  cases i with
  | succ i => simp at hu
  | zero =>
    simp only [List.getElem?_cons_zero, Option.some.injEq] at hu
    subst hu
    rw [add0, World.cell?, h]
    simp [nums, Kd.int, Kd.scalar, hj]
set_option maxHeartbeats 8000000 in
theorem Bytes_calls (h : DAt w B g F D vs vh vc) (hok : DOk D) :
    Calls Try.prog 14 #[.pointer (some ⟨g, 0, none⟩)] w fun e w' => ∃ v, e = .returned v ∧ Kd.R (Kd.int .u8) 5 w' w.heap.size (fun k => w.heap.size ≤ k) v (bytesM D) ∧ Below w.heap.size w w' := by
  have H := Aside0.mk h
  have HOK := Aside0.mk hok
  obtain ⟨As, cs, rfl, hsl, _⟩ := Kd.R_reads h.sec
  have h0 := h.c0
  have hn1 := hok.n1
  have hM : (Instr.makeSlice 22 (.int .i64 0) (.int .i64 ((D.sec.length : Int) * 64))).run Try.prog w = .ok (.slice (some ⟨w.heap.size, 0, none⟩) 0 (D.sec.length * 64)) (w.alloc (.cells (madeCells #[.int .u8 0] (D.sec.length * 64)) 5)) := by
    have := make_empty (D.sec.length * 64) (by omega) w
    rwa [Int.natCast_mul] at this
  have HRE := Aside0.mk (R_empty (D.sec.length * 64) (by omega) w w.heap.size (fun k => w.heap.size ≤ k) (Nat.le_refl _) (Nat.le_refl _))
  have HB0 := Aside0.mk (below_alloc (Below.refl w.heap.size w) (.cells (madeCells #[.int .u8 0] (D.sec.length * 64)) 5))
  have h01 : (w.alloc (.cells (madeCells #[.int .u8 0] (D.sec.length * 64)) 5)).cell? ⟨g, 0, none⟩ = some (.slice As D.sec.length cs) := (H.out.below HB0.out).c0
  clear h hok
  go_enter Try.func14, Try.ntmps14
  go_wp2
  go_loopw [3, 5, 20] (fun v3 v5 v20 w' => ∃ i : Nat, v20 = .int .i64 i ∧ i ≤ D.sec.length ∧ Aside0 (Kd.R (Kd.int .u8) 5 w' w.heap.size (fun k => w.heap.size ≤ k) v3 (bytesTo D.sec i)) ∧ Aside0 (Below w.heap.size w w')) (fun _ _ v20 _ => D.sec.length - (intOf v20).toNat)
  case atStart => exact ⟨0, rfl, Nat.zero_le _, HRE, HB0⟩
  case round =>
    obtain ⟨i, rfl, hi, HR, HV⟩ := hrel
    clear h0 h01 hM
    have hn1 := HOK.out.n1
    by_cases hlt : i < D.sec.length
    · have HD := Aside0.mk (H.out.below HV.out)
      obtain ⟨gs, hAs, h64, hls⟩ := sec_load HD.out.sec i hlt
      obtain ⟨s0, hs0⟩ : ∃ s0, s0 = D.sec.getD i [] := ⟨_, rfl⟩
      rw [← hs0] at hls h64
      subst hAs
      have HLS := Aside0.mk hls
      have HST := Aside0.mk (run_storeAt_new (P := Try.prog) wr 64 zs64 (nums .u8 s0).toArray (by simp only [List.size_toArray, nums_length, h64]; exact size64) (by simp [zs64_size, nums_length, h64]) (nums_one s0))
      have HW := Aside0.mk (heap_alloc_new wr (.cells (nums .u8 s0).toArray 64))
      have HC := C_block HW.out (by omega)
      rw [h64] at HC
      have HC' := Aside0.mk HC
      have HBW := Aside0.mk (below_alloc HV.out (.cells (nums .u8 s0).toArray 64))
      have HRW := Aside0.mk (Kd.R_below HR.out (below_alloc (Below.refl wr.heap.size wr) (.cells (nums .u8 s0).toArray 64)))
      have HL := Aside0.mk (bytesTo_length (sec := D.sec) (fun j hj => (sec_load HD.out.sec j hj).elim fun _ h => h.2.1) i hi)
      have HP := Aside0.mk (show bytesTo D.sec (i + 1) = bytesTo D.sec i ++ s0 by rw [bytesTo, hs0])
      have hvs := HV.out.size
      clear hls h64 hs0 HC
      go_wp2_with (first | (refine load_at (ty := 64) (.tmp 22) rfl rfl HLS.out rfl ?_) | (refine wpList_alloc rfl rfl _ rfl zs64 (run_alloc64 _) ?_) | (refine store_at (ty := 64) (.tmp 5) (.tmp 23) rfl rfl rfl HST.out rfl rfl ?_) | ((with_reducible refine gate_builtin (b := .append) (xs := #[.tmp 24, .tmp 25]) rfl ?_); at_builtin; refine Kd.R_append_rows (Kd.int .u8) (Rr := (Kd.int .u8).K wr) (w0 := w) w.heap.size rfl (.tmp 24) (.tmp 25) 22 5 (.int .u8 0) 1 rfl Try.underlying22 info5 rfl (by decide) (by omega) _ (bytesTo D.sec i) s0 (some ⟨wr.heap.size, 0, none⟩) 64 64 (fun k => w.heap.size ≤ k) (fun _ => False) rfl rfl HRW.out HC'.out (fun _ _ h => h) (fun _ h => h.elim) (fun _ h => Nat.le_trans HBW.out.size h) HBW.out HBW.out.size ?aL ?_; (case aL => rw [HL.out]; omega); intro v1 w1 hr1 hb1 hg1 _; have HR1 := Aside0.mk hr1; have HB1 := Aside0.mk hb1; clear hr1 hb1 hg1))
      go_roundw
      case rel => exact ⟨i + 1, by go_num, by omega, ⟨by rw [HP.out]; exact HR1.out⟩, HB1⟩
      case measure => simp [intOf]; omega
    · obtain rfl : i = D.sec.length := by omega
      go_wp2
      go_ret
      exact ⟨_, rfl, HR.out, HV.out⟩
end Go.Proofs.Ytfimeiicidcoiaa.Dk
