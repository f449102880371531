/- Contracts of package disk: Read. -/
import Derived.Test.YtfimeiicidcoiaaDkE
import Derived.Deep.WholeRow
namespace Go.Proofs.Ytfimeiicidcoiaa.Dk
open Go.RowKit Go.Proofs.YtfimeiicidcoiaaW.PrintWords Go.Proofs.YtfimeiicidcoiaaW.PrintLast Go.Proofs.YtfimeiicidcoiaaW.PrintMore
set_option linter.unusedVariables false
set_option linter.unusedSimpArgs false
def zs64 : Array Value := (List.replicate 64 (.int .u8 0)).toArray
def zs67 : Array Value := (.int .i64 0 :: List.replicate 64 (.int .u8 0)).toArray
theorem run_alloc64 (w : World) : (Instr.alloc 64 true (.tuple #[])).run Try.prog w = .ok (.pointer (some ⟨w.heap.size, 0, none⟩)) (w.alloc (.cells zs64 64)) := by kernel_rfl
theorem run_alloc67 (w : World) : (Instr.alloc 67 true (.tuple #[])).run Try.prog w = .ok (.pointer (some ⟨w.heap.size, 0, none⟩)) (w.alloc (.cells zs67 67)) := by kernel_rfl
theorem zs64_size : zs64.size = 64 := by simp [zs64]
theorem zs67_size : zs67.size = 65 := by simp [zs67]
attribute [irreducible] zs64 zs67
theorem nums_one (x : List Int) : ((nums .u8 x).toArray : Array Value).all (·.oneCell') = true := by
  simp [nums, List.all_eq_true]
  intro a _
  rfl
section
variable {P : Program} {ops : Array Oper} {o : Oper} {rest : List Oper} {a : Act} {w w1 : World} {Q : Exit → Act → World → Prop}
theorem wpList_alloc {e : TypeId} (hg : o.guard = none) (ho : o.op = .alloc e) (dst : Option Tmp) (hdst : o.dst = dst) (cs : Array Value) (hrun : (Instr.alloc e true (.tuple #[])).run P w = .ok (.pointer (some ⟨w.heap.size, 0, none⟩)) (w.alloc (.cells cs e)))
    (h : wpList P ops Q rest (a.put dst (.pointer (some ⟨w.heap.size, 0, none⟩))) (w.alloc (.cells cs e))) : wpList P ops Q (o :: rest) a w := by
  refine wpList_plain hg fun K hK => ?_
  have he : (execOp a.eval o).run P w = .ok (.value (.pointer (some ⟨w.heap.size, 0, none⟩))) (w.alloc (.cells cs e)) := by
    unfold execOp
    simp [ho, hrun]
  unfold Oper.wp
  rw [he, Oper.upon_value, hdst]
  exact hK _ _ h
/-- The same two, the operation seen first, the operands' values behind. -/
theorem load_at {ty : TypeId} {p v : Value} (x : Operand) (hgd : o.guard = none) (ho : o.op = .load ty x) (hrun : (Instr.loadAt ty p).run P w = .ok v w) (hx : a.eval x = p)
    (h : wpList P ops Q rest (a.put o.dst v) w) : wpList P ops Q (o :: rest) a w := wpList_load hgd ty x ho v (by rw [hx]; exact hrun) h
theorem store_at {ty : TypeId} {p v : Value} (x y : Operand) (hgd : o.guard = none) (hN : o.dst = none) (ho : o.op = .store ty x y) (hrun : (Instr.storeAt ty p v).run P w = .ok () w1) (hx : a.eval x = p) (hy : a.eval y = v)
    (h : wpList P ops Q rest a w1) : wpList P ops Q (o :: rest) a w := wpList_store hN hgd ty x y ho (by rw [hx, hy]; exact hrun) h
end
/-- A whole block is written. -/
theorem run_store_block {P : Program} {w : World} (g : Nat) (ty : TypeId) (old cells : Array Value) (e : TypeId) (hg : w.heap[g]? = some (.cells old e (0, 0))) (hi : (P.info? ty).map (·.size) = some cells.size) (ho : old.size = cells.size) (h1 : cells.all (·.oneCell') = true) :
    (Instr.storeAt ty (.pointer (some ⟨g, 0, none⟩)) (.agg cells)).run P w = .ok () (w.setRow g cells) := by
  simp only [Instr.storeAt, Instr.sureAddr, Sem.run_bind, Sem.run_pure, Result.andThen, run_storeVar_row w g e ty old cells hg hi ho h1]
theorem upd_setRow (w : World) (g : Nat) (cells : Array Value) : Upd w (w.setRow g cells) (· = g) := ⟨rfl, rfl, rfl, by simp, fun k _ hk => setRow_other w g k cells hk⟩
theorem below_setR {w W : World} (h : Below w.heap.size w W) (cs : Array Value) : Below w.heap.size w (W.setRow w.heap.size cs) := ⟨h.os, h.tape, h.output, by rw [setRow_size]; exact h.size, fun i hi => (setRow_other _ _ _ _ (Nat.ne_of_lt hi)).trans (h.block i hi)⟩
variable {w : World} {B g : Nat} {F : Nat → Prop} {D : DM} {vs vh vc : Value}
/-- A sector out of the sectors' row. -/
theorem sec_load {As : Option Addr} {cs : Nat} {L : List (List Int)} (h : Kd.R kSec 64 w B F (.slice As L.length cs) L) (i : Nat) (hi : i < L.length) : ∃ gs, As = some ⟨gs, 0, none⟩ ∧ (L.getD i []).length = 64 ∧
    (Instr.loadAt 64 (.pointer (some ⟨gs, i * 64, none⟩))).run Try.prog w = .ok (.agg (nums .u8 (L.getD i [])).toArray) w := by
  rcases R_cases h with ⟨_, hz⟩ | ⟨gs, cap, es, hgs⟩
  · rw [hz] at hi; exact absurd hi (Nat.not_lt_zero _)
  injection es with e1 e2 e3
  subst e1
  obtain ⟨ad, c, e, hsz, hK, hx⟩ := Kd.C_get (Kd.R_reads' h).2.2 [] (i : Int) (by omega) (by show (i : Int) < (L.length : Int); omega)
  injection e with e
  subst e
  rw [Int.toNat_natCast] at hK
  obtain ⟨hK, h64⟩ := hK
  refine ⟨gs, rfl, h64, run_loadAt_cells 64 Try.underlying64 rfl gs (i * 64) _ (by rw [nums_length, h64]; exact size64) (fun j u hu => ?_)⟩
  have := hx j u (by rw [hK]; exact hu)
  have e : (⟨gs, 0, none⟩ : Addr).add ((i : Int).toNat * kSec.sz + j) = ⟨gs, i * 64 + j, none⟩ := by rw [add0]; simp [kSec]
  rwa [e] at this
/-- A held write out of the row of the held ones. -/
theorem held_load {Ah : Option Addr} {ch : Nat} {L : List (Int × List Int)} (h : Kd.R kHeld 67 w B F (.slice Ah L.length ch) L) (i : Nat) (hi : i < L.length) : ∃ gh, Ah = some ⟨gh, 0, none⟩ ∧ (L.getD i (0, [])).2.length = 64 ∧
    (Instr.loadAt 67 (.pointer (some ⟨gh, i * 65, none⟩))).run Try.prog w = .ok (.agg (.int .i64 (L.getD i (0, [])).1 :: nums .u8 (L.getD i (0, [])).2).toArray) w := by
  rcases R_cases h with ⟨_, hz⟩ | ⟨gs, cap, es, hgs⟩
  · rw [hz] at hi; exact absurd hi (Nat.not_lt_zero _)
  injection es with e1 e2 e3
  subst e1
  obtain ⟨ad, c, e, hsz, hK, hx⟩ := Kd.C_get (Kd.R_reads' h).2.2 (0, []) (i : Int) (by omega) (by show (i : Int) < (L.length : Int); omega)
  injection e with e
  subst e
  rw [Int.toNat_natCast] at hK
  obtain ⟨hK, h64⟩ := hK
  refine ⟨gs, rfl, h64, run_loadAt_cells 67 Try.underlying67 rfl gs (i * 65) _ (by rw [List.length_cons, nums_length, h64]; exact size67) (fun j u hu => ?_)⟩
  have := hx j u (by rw [hK]; exact hu)
  have e : (⟨gs, 0, none⟩ : Addr).add ((i : Int).toNat * kHeld.sz + j) = ⟨gs, i * 65 + j, none⟩ := by rw [add0]; simp [kHeld]
  rwa [e] at this
/-- What a read of sector k tells, the first n held writes seen. -/
def readTo (k : Int) (held : List (Int × List Int)) (s : List Int) : Nat → List Int
  | 0 => s
  | n + 1 => if (held.getD n (0, [])).1 = k then (held.getD n (0, [])).2 else readTo k held s n
theorem readTo_length {k : Int} {held : List (Int × List Int)} {s : List Int} (hs : s.length = 64) (hh : ∀ i, i < held.length → (held.getD i (0, [])).2.length = 64) : ∀ n, n ≤ held.length → (readTo k held s n).length = 64
  | 0, _ => hs
  | n + 1, hn => by
    unfold readTo
    split
    · exact hh n (by omega)
    · exact readTo_length hs hh n (by omega)
def readM (D : DM) (k : Int) : List Int := readTo k D.held (D.sec.getD k.toNat []) D.held.length
set_option maxHeartbeats 8000000 in
theorem Read_calls (h : DAt w B g F D vs vh vc) (hok : DOk D) (k : Int) (hk : atM D k = 0) :
    Calls Try.prog 27 #[.pointer (some ⟨g, 0, none⟩), .int .i64 k] w fun e w' => e = .returned (.tuple #[.slice (some ⟨w.heap.size, 0, none⟩) 64 64, .int .i64 0]) ∧ (readM D k).length = 64 ∧ w'.heap[w.heap.size]? = some (.cells (nums .u8 (readM D k)).toArray 64 (0, 0)) ∧ Below w.heap.size w w' := by
  have H := Aside0.mk h
  have HOK := Aside0.mk hok
  have HA := Aside0.mk hk
  obtain ⟨As, cs, rfl, hsl, _⟩ := Kd.R_reads h.sec
  obtain ⟨Ah, ch, rfl, hhl, _⟩ := Kd.R_reads h.held
  have hkb : 0 ≤ k ∧ k < (D.sec.length : Int) := by
    unfold atM at hk
    split at hk
    · omega
    · split at hk
      · omega
      · omega
  obtain ⟨k0, rfl⟩ : ∃ n : Nat, k = n := ⟨k.toNat, by omega⟩
  have hk1 : k0 < D.sec.length := by omega
  obtain ⟨gs, rfl, hs64, hls⟩ := sec_load h.sec k0 hk1
  obtain ⟨s0, hs0⟩ : ∃ s0, s0 = D.sec.getD k0 [] := ⟨_, rfl⟩
  rw [← hs0] at hls hs64
  have h0 := h.c0
  have h1 := h.c1
  have HLS := Aside0.mk hls
  have HS64 := Aside0.mk hs64
  have HS0 := Aside0.mk hs0
  have HST := Aside0.mk (run_storeAt_new (P := Try.prog) w 64 zs64 (nums .u8 s0).toArray (by simp only [List.size_toArray, nums_length, hs64]; exact size64) (by simp [zs64_size, nums_length, hs64]) (nums_one s0))
  have hb1 := Below.refl w.heap.size w
  have HB1 := Aside0.mk (below_alloc (Below.refl w.heap.size w) (.cells (nums .u8 s0).toArray 64))
  have hB1 := HB1.out
  have h11 : (w.alloc (.cells (nums .u8 s0).toArray 64)).cell? ⟨g, 1, none⟩ = some (.slice Ah D.held.length ch) := (H.out.below HB1.out).c1
  clear hB1 hb1
  clear h hok hk hls hs64 hs0 hkb
  go_enter Try.func27, Try.ntmps27
  go_wp2_with (first | (go_at_call 36; refine (at_calls H.out k0).mono ?_; rintro e w' ⟨rfl, rfl⟩; rw [HA.out]) | (refine load_at (ty := 64) (.tmp 21) rfl rfl HLS.out rfl ?_) | (refine wpList_alloc rfl rfl _ rfl zs64 (run_alloc64 _) ?_) | (refine store_at (ty := 64) (.tmp 7) (.tmp 22) rfl rfl rfl HST.out rfl rfl ?_))
  go_loopw [9, 28] (fun v9 v28 w' => ∃ i : Nat, v28 = .int .i64 i ∧ i ≤ D.held.length ∧ Aside0 (w'.heap[w.heap.size]? = some (.cells (nums .u8 (readTo k0 D.held s0 i)).toArray 64 (0, 0))) ∧ Aside0 (Below w.heap.size w w')) (fun _ v28 _ => D.held.length - (intOf v28).toNat)
  case atStart => exact ⟨0, rfl, Nat.zero_le _, ⟨heap_alloc_new w _⟩, HB1⟩
  case round =>
    obtain ⟨i, rfl, hi, HG, HV⟩ := hrel
    clear h0 h1 h11
    have hn2 := HOK.out.n2
    by_cases hlt : i < D.held.length
    · have HD := Aside0.mk (H.out.below HV.out)
      obtain ⟨gh, hAh, h64, hll⟩ := held_load HD.out.held i hlt
      obtain ⟨a, b, hab⟩ : ∃ a b, D.held.getD i (0, []) = (a, b) := ⟨_, _, rfl⟩
      rw [hab] at h64 hll
      dsimp only at h64 hll
      subst hAh
      have HLL := Aside0.mk hll
      have HST2 := Aside0.mk (run_storeAt_new (P := Try.prog) wr 67 zs67 (.int .i64 a :: nums .u8 b).toArray (by simp only [List.size_toArray, List.length_cons, nums_length, h64]; exact size67) (by simp [zs67_size, nums_length, h64]) (by simp [nums, List.all_eq_true]; exact ⟨rfl, fun _ _ => rfl⟩))
      have hW := heap_alloc_new wr (.cells (.int .i64 a :: nums .u8 b).toArray 67)
      have hca : (wr.alloc (.cells (.int .i64 a :: nums .u8 b).toArray 67)).cell? ⟨wr.heap.size, 0, none⟩ = some (.int .i64 a) := by rw [cell_of_row _ _ 0 _ _ _ hW]; rfl
      have HBW := Aside0.mk (below_alloc HV.out (.cells (.int .i64 a :: nums .u8 b).toArray 67))
      have hg7 : (wr.alloc (.cells (.int .i64 a :: nums .u8 b).toArray 67)).heap[w.heap.size]? = some (.cells (nums .u8 (readTo k0 D.held s0 i)).toArray 64 (0, 0)) := ((below_alloc (Below.refl wr.heap.size wr) (.cells (.int .i64 a :: nums .u8 b).toArray 67)).block _ (blk_lt HG.out)).trans HG.out
      have HG7 := Aside0.mk hg7
      have HLB := Aside0.mk (run_loadAt_cells (P := Try.prog) (w := wr.alloc (.cells (.int .i64 a :: nums .u8 b).toArray 67)) 64 Try.underlying64 rfl wr.heap.size 1 (nums .u8 b) (by rw [nums_length, h64]; exact size64) (fun j u hu => by rw [cell_of_row _ _ (1 + j) _ _ _ hW, Nat.add_comm]; simpa using hu))
      have hlr := readTo_length (k := k0) HS64.out (fun j hj => (held_load HD.out.held j hj).elim fun _ h => h.2.1) i (Nat.le_of_lt hlt)
      have HST7 := Aside0.mk (run_store_block (P := Try.prog) w.heap.size 64 _ (nums .u8 b).toArray 64 hg7 (by simp only [List.size_toArray, nums_length, h64]; exact size64) (by simp [nums_length, h64, hlr]) (nums_one b))
      have HSR := Aside0.mk (setRow_heap _ _ _ (nums .u8 b).toArray _ _ hg7)
      have HBR := Aside0.mk (below_setR HBW.out (nums .u8 b).toArray)
      clear hll hg7 hlr h64 hW
      by_cases hak : a = (k0 : Int)
      · have HP := Aside0.mk (show readTo k0 D.held s0 (i + 1) = b by rw [readTo, hab]; exact if_pos hak)
        subst hak
        clear hab
        go_wp2_with (first | (refine load_at (ty := 67) (.tmp 30) rfl rfl HLL.out rfl ?_) | (refine load_at (ty := 64) (.tmp 36) rfl rfl HLB.out rfl ?_) | (refine wpList_alloc rfl rfl _ rfl zs67 (run_alloc67 _) ?_) | (refine store_at (ty := 67) (.tmp 9) (.tmp 31) rfl rfl rfl HST2.out rfl rfl ?_) | (refine store_at (ty := 64) (.tmp 7) (.tmp 37) rfl rfl rfl HST7.out rfl rfl ?_))
        go_roundw
        case rel => exact ⟨i + 1, by go_num, by omega, ⟨by rw [HP.out]; exact HSR.out⟩, HBR⟩
        case measure => simp [intOf]; omega
      · have HP := Aside0.mk (show readTo k0 D.held s0 (i + 1) = readTo k0 D.held s0 i by rw [readTo, hab]; exact if_neg hak)
        have tak : decide (a = (k0 : Int)) = false := decide_eq_false hak
        clear hab
        go_wp2_with (first | (refine load_at (ty := 67) (.tmp 30) rfl rfl HLL.out rfl ?_) | (refine wpList_alloc rfl rfl _ rfl zs67 (run_alloc67 _) ?_) | (refine store_at (ty := 67) (.tmp 9) (.tmp 31) rfl rfl rfl HST2.out rfl rfl ?_))
        go_roundw
        case rel => exact ⟨i + 1, by go_num, by omega, ⟨by rw [HP.out]; exact HG7.out⟩, HBW⟩
        case measure => simp [intOf]; omega
    · obtain rfl : i = D.held.length := by omega
      have HR := Aside0.mk (show readM D k0 = readTo k0 D.held s0 D.held.length by simp [readM, HS0.out])
      have hlr := readTo_length (k := k0) HS64.out (fun j hj => (held_load (H.out.below HV.out).held j hj).elim fun _ h => h.2.1) D.held.length (Nat.le_refl _)
      have HLR := Aside0.mk hlr
      clear hlr
      go_wp2
      refine bodyPost_ret (results_tmp2 rfl _ _ _) rfl ?_
      exact ⟨rfl, by rw [HR.out]; exact HLR.out, by rw [HR.out]; exact HG.out, HV.out⟩
end Go.Proofs.Ytfimeiicidcoiaa.Dk
