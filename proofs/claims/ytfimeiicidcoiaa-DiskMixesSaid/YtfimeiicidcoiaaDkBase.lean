/- What a disk of the program is in memory, and what its calls leave as it was: words for the contracts of package disk. -/
import Derived.Test.YtfimeiicidcoiaaProg
import Derived.Test.YtfimeiicidcoiaaWMore
import Derived.Test.YtfimeiicidcoiaaWSized
import Derived.Test.YtfimeiicidcoiaaWKept
import Derived.WalkSpells
import Derived.WalkLawsBesides
import Derived.Lib.Hide
import Derived.OneCell
import Derived.RegionTactic
import Derived.ChangeAlike
import Derived.Outline
import Derived.Laws.EntriesVeiled
import Derived.StillTailTactics
namespace Go.Proofs.Ytfimeiicidcoiaa.Dk
open Go.RowKit Go.Proofs.YtfimeiicidcoiaaW.PrintWords Go.Proofs.YtfimeiicidcoiaaW.PrintLast Go.Proofs.YtfimeiicidcoiaaW.PrintMore
set_option linter.unusedVariables false
set_option linter.unusedSimpArgs false

/-- All blocks but those of F are as they were. -/
structure Upd (w w' : World) (F : Nat → Prop) : Prop where
  os : w'.os = w.os
  tape : w'.tape = w.tape
  output : w'.output = w.output
  size : w.heap.size ≤ w'.heap.size
  block : ∀ k, k < w.heap.size → ¬ F k → w'.heap[k]? = w.heap[k]?
/-- F, and what was made between two worlds. -/
def Grow (F : Nat → Prop) (w w' : World) (k : Nat) : Prop := F k ∨ (w.heap.size ≤ k ∧ k < w'.heap.size)
section
variable {w w1 w2 : World} {F G : Nat → Prop}
theorem Upd.refl (w : World) (F : Nat → Prop) : Upd w w F := ⟨rfl, rfl, rfl, Nat.le_refl _, fun _ _ _ => rfl⟩
theorem Upd.mono (h : Upd w w1 F) (hs : ∀ k, F k → G k) : Upd w w1 G := ⟨h.os, h.tape, h.output, h.size, fun k hk hn => h.block k hk (fun hf => hn (hs k hf))⟩
theorem Upd.trans (h : Upd w w1 F) (k : Upd w1 w2 G) (hs : ∀ k, G k → F k ∨ w.heap.size ≤ k) : Upd w w2 F :=
  ⟨k.os.trans h.os, k.tape.trans h.tape, k.output.trans h.output, Nat.le_trans h.size k.size, fun i hi hn => (k.block i (Nat.lt_of_lt_of_le hi h.size) (fun hg => (hs i hg).elim hn (fun h3 => by omega))).trans (h.block i hi hn)⟩
theorem Upd.of_below (h : Below w.heap.size w w1) : Upd w w1 F := ⟨h.os, h.tape, h.output, h.size, fun i hi _ => h.block i hi⟩
theorem Upd.below (h : Upd w w1 F) (hF : ∀ k, F k → w.heap.size ≤ k) : Below w.heap.size w w1 := ⟨h.os, h.tape, h.output, h.size, fun i hi => h.block i hi (fun hf => by have := hF i hf; omega)⟩
theorem Upd.of_grown {row : Option Nat} (h : w.grownBy w1 row) (hr : ∀ k, row = some k → F k) : Upd w w1 F := ⟨h.os, h.tape, h.output, h.size, fun i hi hn => h.block i hi (fun he => hn (hr i he.symm))⟩
theorem Upd.drewN (h : Upd w w1 F) (m : Nat) : Upd w (w1.drewN m) F := ⟨h.os, h.tape, h.output, h.size, h.block⟩
theorem Upd.drew (h : Upd w w1 F) : Upd w w1.drew F := ⟨h.os, h.tape, h.output, h.size, h.block⟩
theorem Upd.alloc (h : Upd w w1 F) (o : Obj) : Upd w (w1.alloc o) F := h.trans (Upd.of_below (F := F) (below_alloc (Below.refl _ _) o)) (fun _ hk => .inl hk)
theorem Upd.setCell (h : Upd w w1 F) {p : Addr} (hp : F p.block ∨ w.heap.size ≤ p.block) (u : Value) : Upd w (w1.setCell p u) F :=
  h.trans (G := fun k => k = p.block) ⟨rfl, rfl, rfl, by simp [World.setCell], fun i _ hn => Below.heap_setCell w1 p u i hn⟩ (fun k hk => by rw [hk]; exact hp)
theorem Upd.kept (h : Upd w w1 F) : Kept w w1 F := ⟨h.size, h.block⟩
theorem Grow.trans {w3 : World} (h1 : w1.heap.size ≤ w2.heap.size) (h2 : w2.heap.size ≤ w3.heap.size) {k : Nat} (h : Grow (Grow F w1 w2) w2 w3 k) : Grow F w1 w3 k := by
  rcases h with (h | h) | h
  · exact .inl h
  · exact .inr ⟨h.1, by omega⟩
  · exact .inr ⟨by omega, h.2⟩
end

/-- A sector's 64 cells. -/
def kSec : Kd (List Int) where
  sz := 64
  E := []
  K := fun _ x cs => cs = nums .u8 x ∧ x.length = 64
  M := fun _ _ _ x cs => cs = nums .u8 x ∧ x.length = 64
  K_len := fun h => by rw [h.1, nums_length, h.2]
  K_one := fun h u hu => by
    rw [h.1] at hu
    simp only [nums, List.mem_map] at hu
    obtain ⟨_, _, rfl⟩ := hu
    rfl
  K_below := fun _ h => h
  K_of_M := fun h => h
  M_mono := fun _ h => h
  M_bound := fun h => h
  M_move := fun _ h => h
  M_lower := fun _ h => h
/-- A held write's 65 cells. -/
def kHeld : Kd (Int × List Int) where
  sz := 65
  E := []
  K := fun _ x cs => cs = .int .i64 x.1 :: nums .u8 x.2 ∧ x.2.length = 64
  M := fun _ _ _ x cs => cs = .int .i64 x.1 :: nums .u8 x.2 ∧ x.2.length = 64
  K_len := fun h => by rw [h.1, List.length_cons, nums_length, h.2]
  K_one := fun h u hu => by
    rw [h.1] at hu
    simp only [nums, List.mem_cons, List.mem_map] at hu
    rcases hu with rfl | ⟨_, _, rfl⟩ <;> rfl
  K_below := fun _ h => h
  K_of_M := fun h => h
  M_mono := fun _ h => h
  M_bound := fun h => h
  M_move := fun _ h => h
  M_lower := fun _ h => h

/-- A disk, as plain data. -/
structure DM where
  sec : List (List Int)
  held : List (Int × List Int)
  down : Bool
  strokes : Int
  left : Int
  set : Bool
  choice : List Bool

/-- A disk in memory: its struct in block g, its rows in blocks of F, all from B on. -/
structure DAt (w : World) (B g : Nat) (F : Nat → Prop) (D : DM) (vs vh vc : Value) : Prop where
  blk : w.heap[g]? = some (.cells #[vs, vh, .bool D.down, .int .i64 D.strokes, .int .i64 D.left, .bool D.set, vc] 60 (0, 0))
  sec : Kd.R kSec 64 w B F vs D.sec
  held : Kd.R kHeld 67 w B F vh D.held
  choice : Kd.R Kd.bool 4 w B F vc D.choice
  own : F g
  lt : ∀ k, F k → B ≤ k ∧ k < w.heap.size
def DiskAt (w : World) (B g : Nat) (F : Nat → Prop) (D : DM) : Prop := ∃ vs vh vc, DAt w B g F D vs vh vc
section
variable {w w1 : World} {B g : Nat} {F G : Nat → Prop} {D : DM} {vs vh vc : Value}
theorem DAt.cell (h : DAt w B g F D vs vh vc) (j : Nat) : w.cell? ⟨g, j, none⟩ = #[vs, vh, .bool D.down, .int .i64 D.strokes, .int .i64 D.left, .bool D.set, vc][j]? := by simp [World.cell?, h.blk]
theorem DAt.free (h : DAt w B g F D vs vh vc) (j : Nat) : w.frozen? ⟨g, j, none⟩ = false := by simp [World.frozen?, h.blk]
theorem DAt.c0 (h : DAt w B g F D vs vh vc) : w.cell? ⟨g, 0, none⟩ = some vs := h.cell 0
theorem DAt.c1 (h : DAt w B g F D vs vh vc) : w.cell? ⟨g, 1, none⟩ = some vh := h.cell 1
theorem DAt.c2 (h : DAt w B g F D vs vh vc) : w.cell? ⟨g, 2, none⟩ = some (.bool D.down) := h.cell 2
theorem DAt.c3 (h : DAt w B g F D vs vh vc) : w.cell? ⟨g, 3, none⟩ = some (.int .i64 D.strokes) := h.cell 3
theorem DAt.c4 (h : DAt w B g F D vs vh vc) : w.cell? ⟨g, 4, none⟩ = some (.int .i64 D.left) := h.cell 4
theorem DAt.c5 (h : DAt w B g F D vs vh vc) : w.cell? ⟨g, 5, none⟩ = some (.bool D.set) := h.cell 5
theorem DAt.c6 (h : DAt w B g F D vs vh vc) : w.cell? ⟨g, 6, none⟩ = some vc := h.cell 6
/-- Another object was written. -/
theorem DAt.frame (h : DAt w B g F D vs vh vc) (hu : Upd w w1 G) (hd : ∀ k, F k → ¬ G k) : DAt w1 B g F D vs vh vc where
  blk := (hu.block g (h.lt g h.own).2 (hd g h.own)).trans h.blk
  sec := Kd.R_kept h.sec hu.kept hd
  held := Kd.R_kept h.held hu.kept hd
  choice := Kd.R_kept h.choice hu.kept hd
  own := h.own
  lt := fun k hk => ⟨(h.lt k hk).1, Nat.lt_of_lt_of_le (h.lt k hk).2 hu.size⟩
theorem DAt.mono (h : DAt w B g F D vs vh vc) (hs : ∀ k, F k → G k) (hl : ∀ k, G k → B ≤ k ∧ k < w.heap.size) : DAt w B g G D vs vh vc :=
  ⟨h.blk, Kd.R_mono h.sec hs, Kd.R_mono h.held hs, Kd.R_mono h.choice hs, hs g h.own, hl⟩
theorem DAt.drewN (h : DAt w B g F D vs vh vc) (m : Nat) : DAt (w.drewN m) B g F D vs vh vc := h.frame (G := fun _ => False) (Upd.of_below (pw_below_drewN (Below.refl _ _) m)) (fun _ _ h => h)
theorem DAt.below (h : DAt w B g F D vs vh vc) (hb : Below w.heap.size w w1) : DAt w1 B g F D vs vh vc := h.frame (G := fun _ => False) (Upd.of_below hb) (fun _ _ h => h)
/-- The struct's own cells were written: three plain fields and the rows' values stay. -/
theorem ne_type {k : Nat} {cs cs' : Array Value} {e e' : TypeId} {m m' : Nat × Nat} (h : w.heap[k]? = some (.cells cs e m)) (h' : w.heap[g]? = some (.cells cs' e' m')) (hne : e ≠ e') : k ≠ g := by
  rintro rfl
  rw [h] at h'
  injection h' with h'
  injection h' with _ h' _
  exact hne h'
theorem R_setBlk {α : Type} {d : Kd α} {e : Nat} {v : Value} {xs : List α} {cs : Array Value} (h : d.R e w B F v xs) (hb : w.heap[g]? = some (.cells cs 60 (0, 0))) (ht : ∀ q, q ∈ e :: d.E → q ≠ 60) (j : Nat) (u : Value) : d.R e (w.setCell ⟨g, j, none⟩ u) B F v xs := Kd.R_set h hb ht j u
/-- A store into one of the struct's fields. -/
theorem DAt.put (h : DAt w B g F D vs vh vc) (j : Nat) (u : Value) (D' : DM) (vs' vh' vc' : Value) (hc : (#[vs, vh, .bool D.down, .int .i64 D.strokes, .int .i64 D.left, .bool D.set, vc] : Array Value).setIfInBounds j u = #[vs', vh', .bool D'.down, .int .i64 D'.strokes, .int .i64 D'.left, .bool D'.set, vc'])
    (hs : Kd.R kSec 64 w B F vs' D'.sec) (hh : Kd.R kHeld 67 w B F vh' D'.held) (hch : Kd.R Kd.bool 4 w B F vc' D'.choice) : DAt (w.setCell ⟨g, j, none⟩ u) B g F D' vs' vh' vc' where
  blk := by rw [heap_setCell_same w g j _ 60 u h.blk, hc]
  sec := R_setBlk hs h.blk (by simp [kSec]) j u
  held := R_setBlk hh h.blk (by simp [kHeld]) j u
  choice := R_setBlk hch h.blk (by simp [Kd.bool, Kd.scalar]) j u
  own := h.own
  lt := fun k hk => ⟨(h.lt k hk).1, by simpa [World.setCell] using (h.lt k hk).2⟩
theorem DAt.putHeld (h : DAt w B g F D vs vh vc) (vh' : Value) (hl : List (Int × List Int)) (hh : Kd.R kHeld 67 w B F vh' hl) : DAt (w.setCell ⟨g, 1, none⟩ vh') B g F { D with held := hl } vs vh' vc := h.put 1 vh' { D with held := hl } vs vh' vc rfl h.sec hh h.choice
theorem DAt.putDown (h : DAt w B g F D vs vh vc) (b : Bool) : DAt (w.setCell ⟨g, 2, none⟩ (.bool b)) B g F { D with down := b } vs vh vc := h.put 2 (.bool b) { D with down := b } vs vh vc rfl h.sec h.held h.choice
theorem DAt.putStrokes (h : DAt w B g F D vs vh vc) (n : Int) : DAt (w.setCell ⟨g, 3, none⟩ (.int .i64 n)) B g F { D with strokes := n } vs vh vc := h.put 3 (.int .i64 n) { D with strokes := n } vs vh vc rfl h.sec h.held h.choice
theorem DAt.putLeft (h : DAt w B g F D vs vh vc) (n : Int) : DAt (w.setCell ⟨g, 4, none⟩ (.int .i64 n)) B g F { D with left := n } vs vh vc := h.put 4 (.int .i64 n) { D with left := n } vs vh vc rfl h.sec h.held h.choice
theorem DAt.putSet (h : DAt w B g F D vs vh vc) (b : Bool) : DAt (w.setCell ⟨g, 5, none⟩ (.bool b)) B g F { D with set := b } vs vh vc := h.put 5 (.bool b) { D with set := b } vs vh vc rfl h.sec h.held h.choice
theorem DAt.putChoice (h : DAt w B g F D vs vh vc) (vc' : Value) (l : List Bool) (hc : Kd.R Kd.bool 4 w B F vc' l) : DAt (w.setCell ⟨g, 6, none⟩ vc') B g F { D with choice := l } vs vh vc' := h.put 6 vc' { D with choice := l } vs vh vc' rfl h.sec h.held hc
theorem DAt.upd (h : DAt w B g F D vs vh vc) (j : Nat) (u : Value) : Upd w (w.setCell ⟨g, j, none⟩ u) F := (Upd.refl w F).setCell (.inl h.own) u
theorem DAt.mk_put (hb : w.heap[g]? = some (.cells #[vs, vh, .bool D.down, .int .i64 D.strokes, .int .i64 D.left, .bool D.set, vc] 60 (0, 0))) (j : Nat) (u : Value) (D' : DM) (vs' vh' vc' : Value) (hc : (#[vs, vh, .bool D.down, .int .i64 D.strokes, .int .i64 D.left, .bool D.set, vc] : Array Value).setIfInBounds j u = #[vs', vh', .bool D'.down, .int .i64 D'.strokes, .int .i64 D'.left, .bool D'.set, vc'])
    (hs : Kd.R kSec 64 w B F vs' D'.sec) (hh : Kd.R kHeld 67 w B F vh' D'.held) (hch : Kd.R Kd.bool 4 w B F vc' D'.choice) (ho : F g) (hl : ∀ k, F k → B ≤ k ∧ k < w.heap.size) : DAt (w.setCell ⟨g, j, none⟩ u) B g F D' vs' vh' vc' where
  blk := by rw [heap_setCell_same w g j _ 60 u hb, hc]
  sec := R_setBlk hs hb (by simp [kSec]) j u
  held := R_setBlk hh hb (by simp [kHeld]) j u
  choice := R_setBlk hch hb (by simp [Kd.bool, Kd.scalar]) j u
  own := ho
  lt := fun k hk => ⟨(hl k hk).1, by simpa [World.setCell] using (hl k hk).2⟩
/-- Rows of another element type than one that was written. -/
theorem R_other {α β : Type} {d : Kd α} {d2 : Kd β} {e e2 : Nat} {v v2 : Value} {xs : List α} {ys : List β} (h : d.R e w B F v xs) (h2 : d2.R e2 w B F v2 ys) (hE : d.E = []) (hne : e ≠ e2) (hg : w.grownBy w1 v2.ownBlock) : d.R e w1 B F v xs := by
  refine Kd.R_mono (Kd.R_move (Kd.R_bound h) (fun k hk => ?_)) (fun k hk => hk.1)
  obtain ⟨_, _, hlt, q, hq, cells, hc⟩ := hk
  refine hg.block k hlt (fun he => ?_)
  obtain ⟨inner, ho⟩ := Kd.R_own h2
  obtain ⟨cells2, hc2⟩ := own_typed ho k he.symm
  rw [hc] at hc2
  injection hc2 with hc2
  injection hc2 with _ hc2 _
  rw [hE] at hq
  simp only [List.mem_cons, List.not_mem_nil, or_false] at hq
  exact hne (hq ▸ hc2)
theorem blk_other {β : Type} {d2 : Kd β} {e e2 : Nat} {v2 : Value} {ys : List β} {cs : Array Value} (hb : w.heap[g]? = some (.cells cs e (0, 0))) (h2 : d2.R e2 w B F v2 ys) (hne : e ≠ e2) (hg : w.grownBy w1 v2.ownBlock) : w1.heap[g]? = some (.cells cs e (0, 0)) := by
  have hlt : g < w.heap.size := blk_lt hb
  refine (hg.block g hlt (fun he => ?_)).trans hb
  obtain ⟨inner, ho⟩ := Kd.R_own h2
  obtain ⟨cells2, hc2⟩ := own_typed ho g he.symm
  rw [hb] at hc2
  injection hc2 with hc2
  injection hc2 with _ hc2 _
  exact hne hc2
theorem Upd.of_row {β : Type} {d2 : Kd β} {e2 : Nat} {v2 : Value} {ys : List β} (h2 : d2.R e2 w B F v2 ys) (hg : w.grownBy w1 v2.ownBlock) : Upd w w1 F := Upd.of_grown hg (fun k hk => h2.1 k hk)
end
/-- A whole struct or array is read: its cells, one behind the other. -/
theorem run_loadAt_cells {P : Program} {w : World} (ty : TypeId) {d : TypeDesc} (hu : P.underlying ty = some d) (hd : (match d with | .struct _ | .array _ _ => true | _ => false) = true) (g o : Nat) (c : List Value) (hi : (P.info? ty).map (·.size) = some c.length)
    (hc : ∀ j u, c[j]? = some u → w.cell? ⟨g, o + j, none⟩ = some u) : (Instr.loadAt ty (.pointer (some ⟨g, o, none⟩))).run P w = .ok (.agg c.toArray) w := by
  have hl : (loadCells ⟨g, o, none⟩ c.length).run P w = .ok c.toArray w := run_loadCells_list (P := P) w ⟨g, o, none⟩ c (fun j v hv => by
    have hadd : (⟨g, o, none⟩ : Addr).add j = ⟨g, o + j, none⟩ := by unfold Addr.add; split <;> simp_all
    rw [hadd]; exact hc j v hv)
  obtain ⟨i, hi1, hi2⟩ := Option.map_eq_some_iff.1 hi
  have ha : (isAgg ty).run P w = .ok true w := by
    unfold isAgg
    cases d <;> simp_all [run_underlying hu]
  have hs : (sizeOf ty).run P w = .ok c.length w := by simp [sizeOf, typeInfo, hi1, hi2]
  simp [Instr.loadAt, Instr.sureAddr, loadVar, ha, hs, hl]
theorem wpStill_load {P : Program} {ops : Array Oper} {w : World} {Q : Act → Prop} {a : Act} {o : Oper} {rest : List Oper} (hgd : o.guard = none) (ty : TypeId) (x : Operand) (ho : o.op = .load ty x) (v : Value) (hrun : (Instr.loadAt ty (a.eval x)).run P w = .ok v w)
    (h : wpStill P ops w Q rest (a.put o.dst v)) : wpStill P ops w Q (o :: rest) a := by
  refine wpStill_step fun K hK => ?_
  have hw : Region.wanted o (yielded ops a.tmps) = true := by simp [Region.wanted, hgd]
  rw [if_pos hw]
  have he : (execOp a.eval o).run P w = .ok (.value v) w := by
    unfold execOp
    simp [ho, hrun]
  unfold Oper.still
  rw [he, Oper.stillUpon_value]
  exact hK _ h
theorem wpList_load {P : Program} {ops : Array Oper} {w : World} {Q : Exit → Act → World → Prop} {a : Act} {o : Oper} {rest : List Oper} (hgd : o.guard = none) (ty : TypeId) (x : Operand) (ho : o.op = .load ty x) (v : Value) (hrun : (Instr.loadAt ty (a.eval x)).run P w = .ok v w)
    (h : wpList P ops Q rest (a.put o.dst v) w) : wpList P ops Q (o :: rest) a w := by
  refine wpList_plain hgd fun K hK => ?_
  have he : (execOp a.eval o).run P w = .ok (.value v) w := by
    unfold execOp
    simp [ho, hrun]
  unfold Oper.wp
  rw [he, Oper.upon_value]
  exact hK _ _ h
theorem wpList_store {P : Program} {ops : Array Oper} {w w1 : World} {Q : Exit → Act → World → Prop} {a : Act} {o : Oper} {rest : List Oper} (hN : o.dst = none) (hgd : o.guard = none) (ty : TypeId) (p x : Operand) (ho : o.op = .store ty p x) (hrun : (Instr.storeAt ty (a.eval p) (a.eval x)).run P w = .ok () w1)
    (h : wpList P ops Q rest a w1) : wpList P ops Q (o :: rest) a w := by
  refine wpList_plain hgd fun K hK => ?_
  unfold Oper.wp execOp
  simp only [ho, Sem.run_bind, Sem.run_pure, Result.andThen_ok, hrun]
  show K (a.put o.dst undef) _
  rw [hN]
  exact hK a _ h
theorem size64 : (Try.prog.info? 64).map (·.size) = some 64 := by kernel_rfl
theorem size67 : (Try.prog.info? 67).map (·.size) = some 65 := by kernel_rfl
theorem one_zero (z : Array Value) (hz : ∀ q ∈ z.toList, q.oneCell' = true) (hs : 0 < z.size) (n : Nat) : ∀ q ∈ (Builtin.zeroCells z n).toList, q.oneCell' = true := by
  intro q hq
  simp only [Builtin.zeroCells, Array.toList_map, List.mem_map] at hq
  obtain ⟨i, _, rfl⟩ := hq
  have hi : i % z.size < z.size := Nat.mod_lt _ hs
  rw [getElem!_pos z _ hi]
  exact hz _ (by simp)
/-- 'clear(v)', v a row of one's own: its cells are other ones; the row as an empty one stays. -/
theorem run_clear_row {P : Program} {α : Type} {d : Kd α} {e : Nat} {w : World} {B : Nat} {F : Nat → Prop} {A : Option Addr} {n c : Nat} {xs : List α} (t ty : TypeId) (z : Value) (ht : P.underlying t = some (.slice e)) (hz : ∀ w, (zeroValue e).run P w = .ok z w) (hzs : z.cells.size = d.sz) (hsz : 0 < d.sz) (hz1 : ∀ q ∈ z.cells.toList, q.oneCell' = true)
    (h : d.R e w B F (.slice A n c) xs) : ∃ w1, (Builtin.clear_ #[t] ty #[.slice A n c]).run P w = .ok (.tuple #[]) w1 ∧ w.grownBy w1 (Value.slice A n c).ownBlock ∧ d.R e w1 B F (.slice A 0 c) [] := by
  obtain ⟨h0, inner, ho, hr⟩ := h
  rcases ho.2 with hv | ⟨g, cap, cur, hv, hg, hh, hn, hc, hcs, htk⟩
  · obtain ⟨hv, hn0⟩ := hv
    injection hv with h1 h2 h3
    subst h1; subst h2; subst h3
    refine ⟨w, ?_, ⟨rfl, rfl, rfl, Nat.le_refl _, fun _ _ _ => rfl⟩, Kd.R_nil _ _ _ _ _⟩
    simp [Builtin.clear_, run_underlying ht]
  · injection hv with h1 h2 h3
    subst h1; subst h2; subst h3
    by_cases hz0 : xs.length = 0
    · refine ⟨w, ?_, ⟨rfl, rfl, rfl, Nat.le_refl _, fun _ _ _ => rfl⟩, fun k hk => h0 k hk, [], ⟨by simp, .inr ⟨g, c, cur, rfl, hg, hh, Nat.zero_le _, hc, hcs, by simp⟩⟩, Reps.none _ _⟩
      rw [hz0]
      simp [Builtin.clear_, run_underlying ht]
    · obtain ⟨zs, hzs'⟩ : ∃ zs, zs = (Builtin.zeroCells z.cells xs.length).toList := ⟨_, rfl⟩
      have hlen : zs.length = xs.length * d.sz := by rw [hzs', Array.length_toList, size_zeroCells, hzs]
      have h1 : ∀ q ∈ zs, q.oneCell' = true := by rw [hzs']; exact one_zero _ hz1 (by omega) _
      have hle : xs.length * d.sz ≤ c * d.sz := Nat.mul_le_mul_right _ hn
      have hst := run_storeCells_cells (P := P) g 0 zs 0 w (fun j hj => by rw [cell_of_row w g _ cur e (0, 0) hh]; simp; omega) (fun j _ => blk_frozen hh _) h1
      simp only [Nat.add_zero] at hst
      obtain ⟨cur', h3, h4, h5⟩ := setCells_row zs 0 w cur hh (by omega)
      obtain ⟨s1, s2, s3, s4⟩ := setCells_same g zs 0 w
      refine ⟨w.setCells g 0 zs, ?_, ⟨s1, s2, s3, by rw [s4]; exact Nat.le_refl _, fun k _ hk => setCells_far _ _ k (fun he => hk (by rw [he]; simp [Value.ownBlock]))⟩, fun k hk => h0 k hk, [], ⟨by simp, .inr ⟨g, c, cur', rfl, hg, h3, Nat.zero_le _, hc, by rw [h4, hcs], by simp⟩⟩, Reps.none _ _⟩
      obtain ⟨m, hm⟩ : ∃ m, xs.length = m + 1 := ⟨xs.length - 1, by omega⟩
      rw [hzs', hm] at hst ⊢
      simp [Builtin.clear_, run_underlying ht, hz, hst]
theorem zero67 (w : World) : (zeroValue 67).run Try.prog w = .ok (.agg (.int .i64 0 :: List.replicate 64 (.int .u8 0)).toArray) w := by kernel_rfl
theorem info64 : (Try.prog.info? 64).map (fun i => (i.size, i.bytes)) = some (64, 64) := by kernel_rfl
theorem info67 : (Try.prog.info? 67).map (fun i => (i.size, i.bytes)) = some (65, 72) := by kernel_rfl
end Go.Proofs.Ytfimeiicidcoiaa.Dk
