/- StoreNil: the texts DkBase DkA DkB DkC DkD DkE DkF ShA ShB Glo ShC Wk ShD DkG By. -/
import Derived.Test.YtmblnflfklmmkaaDoorProg
import Derived.Test.YtmblnflfklmmkaaDoorWMore
import Derived.Test.YtmblnflfklmmkaaDoorWSized
import Derived.Test.YtmblnflfklmmkaaDoorWKept
import Derived.WalkSpells
import Derived.WalkLawsBesides
import Derived.Lib.Hide
import Derived.OneCell
import Derived.RegionTactic
import Derived.ChangeAlike
import Derived.Outline
import Derived.Laws.EntriesVeiled
import Derived.StillTailTactics
import Derived.Great.BuildSlice
import Derived.Deep.WholeRow
import Derived.Test.YtmblnflfklmmkaaDoorRows
import Derived.ProofKit
import Derived.LaidMore
import Derived.OpenShut
import Derived.LaidHandle
import Derived.Stop.Joined
/- What a disk of the program is in memory, and what its calls leave as it was: words for the contracts of package disk. -/
namespace Go.Proofs.YtmblnflfklmmkaaDoor.Dk
open Go.RowKit Go.Proofs.YtmblnflfklmmkaaDoorW.PrintWords Go.Proofs.YtmblnflfklmmkaaDoorW.PrintLast Go.Proofs.YtmblnflfklmmkaaDoorW.PrintMore
set_option linter.unusedVariables false
set_option linter.unusedSimpArgs false
set_option maxRecDepth 30000

/-- All blocks but those of F are as they were. -/
structure Upd (w w' : World) (F : Nat → Prop) : Prop where
  os : w'.os = w.os
  tape : w'.tape = w.tape
  output : w'.output = w.output
  size : w.heap.size ≤ w'.heap.size
  block : ∀ k, k < w.heap.size → ¬ F k → w'.heap[k]? = w.heap[k]?
/-- F, and what was made between two worlds. -/
def Grow (F : Nat → Prop) (w w' : World) (k : Nat) : Prop := F k ∨ (w.heap.size ≤ k ∧ k < w'.heap.size)
section
variable {w w1 w2 : World} {F G : Nat → Prop}
theorem Upd.refl (w : World) (F : Nat → Prop) : Upd w w F := ⟨rfl, rfl, rfl, Nat.le_refl _, fun _ _ _ => rfl⟩
theorem Upd.mono (h : Upd w w1 F) (hs : ∀ k, F k → G k) : Upd w w1 G := ⟨h.os, h.tape, h.output, h.size, fun k hk hn => h.block k hk (fun hf => hn (hs k hf))⟩
theorem Upd.trans (h : Upd w w1 F) (k : Upd w1 w2 G) (hs : ∀ k, G k → F k ∨ w.heap.size ≤ k) : Upd w w2 F :=
  ⟨k.os.trans h.os, k.tape.trans h.tape, k.output.trans h.output, Nat.le_trans h.size k.size, fun i hi hn => (k.block i (Nat.lt_of_lt_of_le hi h.size) (fun hg => (hs i hg).elim hn (fun h3 => by omega))).trans (h.block i hi hn)⟩
theorem Upd.of_below (h : Below w.heap.size w w1) : Upd w w1 F := ⟨h.os, h.tape, h.output, h.size, fun i hi _ => h.block i hi⟩
theorem Upd.below (h : Upd w w1 F) (hF : ∀ k, F k → w.heap.size ≤ k) : Below w.heap.size w w1 := ⟨h.os, h.tape, h.output, h.size, fun i hi => h.block i hi (fun hf => by have := hF i hf; omega)⟩
theorem Upd.of_grown {row : Option Nat} (h : w.grownBy w1 row) (hr : ∀ k, row = some k → F k) : Upd w w1 F := ⟨h.os, h.tape, h.output, h.size, fun i hi hn => h.block i hi (fun he => hn (hr i he.symm))⟩
theorem Upd.drewN (h : Upd w w1 F) (m : Nat) : Upd w (w1.drewN m) F := ⟨h.os, h.tape, h.output, h.size, h.block⟩
theorem Upd.drew (h : Upd w w1 F) : Upd w w1.drew F := ⟨h.os, h.tape, h.output, h.size, h.block⟩
theorem Upd.alloc (h : Upd w w1 F) (o : Obj) : Upd w (w1.alloc o) F := h.trans (Upd.of_below (F := F) (below_alloc (Below.refl _ _) o)) (fun _ hk => .inl hk)
theorem Upd.setCell (h : Upd w w1 F) {p : Addr} (hp : F p.block ∨ w.heap.size ≤ p.block) (u : Value) : Upd w (w1.setCell p u) F :=
  h.trans (G := fun k => k = p.block) ⟨rfl, rfl, rfl, by simp [World.setCell], fun i _ hn => Below.heap_setCell w1 p u i hn⟩ (fun k hk => by rw [hk]; exact hp)
theorem Upd.kept (h : Upd w w1 F) : Kept w w1 F := ⟨h.size, h.block⟩
theorem Grow.trans {w3 : World} (h1 : w1.heap.size ≤ w2.heap.size) (h2 : w2.heap.size ≤ w3.heap.size) {k : Nat} (h : Grow (Grow F w1 w2) w2 w3 k) : Grow F w1 w3 k := by
  rcases h with (h | h) | h
  · exact .inl h
  · exact .inr ⟨h.1, by omega⟩
  · exact .inr ⟨by omega, h.2⟩
end

/-- A sector's 64 cells. -/
def kSec : Kd (List Int) where
  sz := 64
  E := []
  K := fun _ x cs => cs = nums .u8 x ∧ x.length = 64
  M := fun _ _ _ x cs => cs = nums .u8 x ∧ x.length = 64
  K_len := fun h => by rw [h.1, nums_length, h.2]
  K_one := fun h u hu => by
    rw [h.1] at hu
    simp only [nums, List.mem_map] at hu
    obtain ⟨_, _, rfl⟩ := hu
    rfl
  K_below := fun _ h => h
  K_of_M := fun h => h
  M_mono := fun _ h => h
  M_bound := fun h => h
  M_move := fun _ h => h
  M_lower := fun _ h => h
/-- A held write's 65 cells. -/
def kHeld : Kd (Int × List Int) where
  sz := 65
  E := []
  K := fun _ x cs => cs = .int .i64 x.1 :: nums .u8 x.2 ∧ x.2.length = 64
  M := fun _ _ _ x cs => cs = .int .i64 x.1 :: nums .u8 x.2 ∧ x.2.length = 64
  K_len := fun h => by rw [h.1, List.length_cons, nums_length, h.2]
  K_one := fun h u hu => by
    rw [h.1] at hu
    simp only [nums, List.mem_cons, List.mem_map] at hu
    rcases hu with rfl | ⟨_, _, rfl⟩ <;> rfl
  K_below := fun _ h => h
  K_of_M := fun h => h
  M_mono := fun _ h => h
  M_bound := fun h => h
  M_move := fun _ h => h
  M_lower := fun _ h => h

/-- A disk, as plain data. -/
structure DM where
  sec : List (List Int)
  held : List (Int × List Int)
  down : Bool
  strokes : Int
  left : Int
  set : Bool
  choice : List Bool

/-- A disk in memory: its struct in block g, its rows in blocks of F, all from B on. -/
structure DAt (w : World) (B g : Nat) (F : Nat → Prop) (D : DM) (vs vh vc : Value) : Prop where
  blk : w.heap[g]? = some (.cells #[vs, vh, .bool D.down, .int .i64 D.strokes, .int .i64 D.left, .bool D.set, vc] 67 (0, 0))
  sec : Kd.R kSec 68 w B F vs D.sec
  held : Kd.R kHeld 93 w B F vh D.held
  choice : Kd.R Kd.bool 4 w B F vc D.choice
  own : F g
  lt : ∀ k, F k → B ≤ k ∧ k < w.heap.size
def DiskAt (w : World) (B g : Nat) (F : Nat → Prop) (D : DM) : Prop := ∃ vs vh vc, DAt w B g F D vs vh vc
section
variable {w w1 : World} {B g : Nat} {F G : Nat → Prop} {D : DM} {vs vh vc : Value}
theorem DAt.cell (h : DAt w B g F D vs vh vc) (j : Nat) : w.cell? ⟨g, j, none⟩ = #[vs, vh, .bool D.down, .int .i64 D.strokes, .int .i64 D.left, .bool D.set, vc][j]? := by simp [World.cell?, h.blk]
theorem DAt.free (h : DAt w B g F D vs vh vc) (j : Nat) : w.frozen? ⟨g, j, none⟩ = false := by simp [World.frozen?, h.blk]
theorem DAt.c0 (h : DAt w B g F D vs vh vc) : w.cell? ⟨g, 0, none⟩ = some vs := h.cell 0
theorem DAt.c1 (h : DAt w B g F D vs vh vc) : w.cell? ⟨g, 1, none⟩ = some vh := h.cell 1
theorem DAt.c2 (h : DAt w B g F D vs vh vc) : w.cell? ⟨g, 2, none⟩ = some (.bool D.down) := h.cell 2
theorem DAt.c3 (h : DAt w B g F D vs vh vc) : w.cell? ⟨g, 3, none⟩ = some (.int .i64 D.strokes) := h.cell 3
theorem DAt.c4 (h : DAt w B g F D vs vh vc) : w.cell? ⟨g, 4, none⟩ = some (.int .i64 D.left) := h.cell 4
theorem DAt.c5 (h : DAt w B g F D vs vh vc) : w.cell? ⟨g, 5, none⟩ = some (.bool D.set) := h.cell 5
theorem DAt.c6 (h : DAt w B g F D vs vh vc) : w.cell? ⟨g, 6, none⟩ = some vc := h.cell 6
/-- Another object was written. -/
theorem DAt.frame (h : DAt w B g F D vs vh vc) (hu : Upd w w1 G) (hd : ∀ k, F k → ¬ G k) : DAt w1 B g F D vs vh vc where
  blk := (hu.block g (h.lt g h.own).2 (hd g h.own)).trans h.blk
  sec := Kd.R_kept h.sec hu.kept hd
  held := Kd.R_kept h.held hu.kept hd
  choice := Kd.R_kept h.choice hu.kept hd
  own := h.own
  lt := fun k hk => ⟨(h.lt k hk).1, Nat.lt_of_lt_of_le (h.lt k hk).2 hu.size⟩
theorem DAt.mono (h : DAt w B g F D vs vh vc) (hs : ∀ k, F k → G k) (hl : ∀ k, G k → B ≤ k ∧ k < w.heap.size) : DAt w B g G D vs vh vc :=
  ⟨h.blk, Kd.R_mono h.sec hs, Kd.R_mono h.held hs, Kd.R_mono h.choice hs, hs g h.own, hl⟩
theorem DAt.drewN (h : DAt w B g F D vs vh vc) (m : Nat) : DAt (w.drewN m) B g F D vs vh vc := h.frame (G := fun _ => False) (Upd.of_below (pw_below_drewN (Below.refl _ _) m)) (fun _ _ h => h)
theorem DAt.below (h : DAt w B g F D vs vh vc) (hb : Below w.heap.size w w1) : DAt w1 B g F D vs vh vc := h.frame (G := fun _ => False) (Upd.of_below hb) (fun _ _ h => h)
/-- The struct's own cells were written: three plain fields and the rows' values stay. -/
theorem ne_type {k : Nat} {cs cs' : Array Value} {e e' : TypeId} {m m' : Nat × Nat} (h : w.heap[k]? = some (.cells cs e m)) (h' : w.heap[g]? = some (.cells cs' e' m')) (hne : e ≠ e') : k ≠ g := by
  rintro rfl
  rw [h] at h'
  injection h' with h'
  injection h' with _ h' _
  exact hne h'
theorem R_setBlk {α : Type} {d : Kd α} {e : Nat} {v : Value} {xs : List α} {cs : Array Value} (h : d.R e w B F v xs) (hb : w.heap[g]? = some (.cells cs 67 (0, 0))) (ht : ∀ q, q ∈ e :: d.E → q ≠ 67) (j : Nat) (u : Value) : d.R e (w.setCell ⟨g, j, none⟩ u) B F v xs := Kd.R_set h hb ht j u
/-- A store into one of the struct's fields. -/
theorem DAt.put (h : DAt w B g F D vs vh vc) (j : Nat) (u : Value) (D' : DM) (vs' vh' vc' : Value) (hc : (#[vs, vh, .bool D.down, .int .i64 D.strokes, .int .i64 D.left, .bool D.set, vc] : Array Value).setIfInBounds j u = #[vs', vh', .bool D'.down, .int .i64 D'.strokes, .int .i64 D'.left, .bool D'.set, vc'])
    (hs : Kd.R kSec 68 w B F vs' D'.sec) (hh : Kd.R kHeld 93 w B F vh' D'.held) (hch : Kd.R Kd.bool 4 w B F vc' D'.choice) : DAt (w.setCell ⟨g, j, none⟩ u) B g F D' vs' vh' vc' where
  blk := by rw [heap_setCell_same w g j _ 67 u h.blk, hc]
  sec := R_setBlk hs h.blk (by simp [kSec]) j u
  held := R_setBlk hh h.blk (by simp [kHeld]) j u
  choice := R_setBlk hch h.blk (by simp [Kd.bool, Kd.scalar]) j u
  own := h.own
  lt := fun k hk => ⟨(h.lt k hk).1, by simpa [World.setCell] using (h.lt k hk).2⟩
theorem DAt.putHeld (h : DAt w B g F D vs vh vc) (vh' : Value) (hl : List (Int × List Int)) (hh : Kd.R kHeld 93 w B F vh' hl) : DAt (w.setCell ⟨g, 1, none⟩ vh') B g F { D with held := hl } vs vh' vc := h.put 1 vh' { D with held := hl } vs vh' vc rfl h.sec hh h.choice
theorem DAt.putDown (h : DAt w B g F D vs vh vc) (b : Bool) : DAt (w.setCell ⟨g, 2, none⟩ (.bool b)) B g F { D with down := b } vs vh vc := h.put 2 (.bool b) { D with down := b } vs vh vc rfl h.sec h.held h.choice
theorem DAt.putStrokes (h : DAt w B g F D vs vh vc) (n : Int) : DAt (w.setCell ⟨g, 3, none⟩ (.int .i64 n)) B g F { D with strokes := n } vs vh vc := h.put 3 (.int .i64 n) { D with strokes := n } vs vh vc rfl h.sec h.held h.choice
theorem DAt.putLeft (h : DAt w B g F D vs vh vc) (n : Int) : DAt (w.setCell ⟨g, 4, none⟩ (.int .i64 n)) B g F { D with left := n } vs vh vc := h.put 4 (.int .i64 n) { D with left := n } vs vh vc rfl h.sec h.held h.choice
theorem DAt.putSet (h : DAt w B g F D vs vh vc) (b : Bool) : DAt (w.setCell ⟨g, 5, none⟩ (.bool b)) B g F { D with set := b } vs vh vc := h.put 5 (.bool b) { D with set := b } vs vh vc rfl h.sec h.held h.choice
theorem DAt.putChoice (h : DAt w B g F D vs vh vc) (vc' : Value) (l : List Bool) (hc : Kd.R Kd.bool 4 w B F vc' l) : DAt (w.setCell ⟨g, 6, none⟩ vc') B g F { D with choice := l } vs vh vc' := h.put 6 vc' { D with choice := l } vs vh vc' rfl h.sec h.held hc
theorem DAt.upd (h : DAt w B g F D vs vh vc) (j : Nat) (u : Value) : Upd w (w.setCell ⟨g, j, none⟩ u) F := (Upd.refl w F).setCell (.inl h.own) u
theorem DAt.mk_put (hb : w.heap[g]? = some (.cells #[vs, vh, .bool D.down, .int .i64 D.strokes, .int .i64 D.left, .bool D.set, vc] 67 (0, 0))) (j : Nat) (u : Value) (D' : DM) (vs' vh' vc' : Value) (hc : (#[vs, vh, .bool D.down, .int .i64 D.strokes, .int .i64 D.left, .bool D.set, vc] : Array Value).setIfInBounds j u = #[vs', vh', .bool D'.down, .int .i64 D'.strokes, .int .i64 D'.left, .bool D'.set, vc'])
    (hs : Kd.R kSec 68 w B F vs' D'.sec) (hh : Kd.R kHeld 93 w B F vh' D'.held) (hch : Kd.R Kd.bool 4 w B F vc' D'.choice) (ho : F g) (hl : ∀ k, F k → B ≤ k ∧ k < w.heap.size) : DAt (w.setCell ⟨g, j, none⟩ u) B g F D' vs' vh' vc' where
  blk := by rw [heap_setCell_same w g j _ 67 u hb, hc]
  sec := R_setBlk hs hb (by simp [kSec]) j u
  held := R_setBlk hh hb (by simp [kHeld]) j u
  choice := R_setBlk hch hb (by simp [Kd.bool, Kd.scalar]) j u
  own := ho
  lt := fun k hk => ⟨(hl k hk).1, by simpa [World.setCell] using (hl k hk).2⟩
/-- Rows of another element type than one that was written. -/
theorem R_other {α β : Type} {d : Kd α} {d2 : Kd β} {e e2 : Nat} {v v2 : Value} {xs : List α} {ys : List β} (h : d.R e w B F v xs) (h2 : d2.R e2 w B F v2 ys) (hE : d.E = []) (hne : e ≠ e2) (hg : w.grownBy w1 v2.ownBlock) : d.R e w1 B F v xs := by
  refine Kd.R_mono (Kd.R_move (Kd.R_bound h) (fun k hk => ?_)) (fun k hk => hk.1)
  obtain ⟨_, _, hlt, q, hq, cells, hc⟩ := hk
  refine hg.block k hlt (fun he => ?_)
  obtain ⟨inner, ho⟩ := Kd.R_own h2
  obtain ⟨cells2, hc2⟩ := own_typed ho k he.symm
  rw [hc] at hc2
  injection hc2 with hc2
  injection hc2 with _ hc2 _
  rw [hE] at hq
  simp only [List.mem_cons, List.not_mem_nil, or_false] at hq
  exact hne (hq ▸ hc2)
theorem blk_other {β : Type} {d2 : Kd β} {e e2 : Nat} {v2 : Value} {ys : List β} {cs : Array Value} (hb : w.heap[g]? = some (.cells cs e (0, 0))) (h2 : d2.R e2 w B F v2 ys) (hne : e ≠ e2) (hg : w.grownBy w1 v2.ownBlock) : w1.heap[g]? = some (.cells cs e (0, 0)) := by
  have hlt : g < w.heap.size := blk_lt hb
  refine (hg.block g hlt (fun he => ?_)).trans hb
  obtain ⟨inner, ho⟩ := Kd.R_own h2
  obtain ⟨cells2, hc2⟩ := own_typed ho g he.symm
  rw [hb] at hc2
  injection hc2 with hc2
  injection hc2 with _ hc2 _
  exact hne hc2
theorem Upd.of_row {β : Type} {d2 : Kd β} {e2 : Nat} {v2 : Value} {ys : List β} (h2 : d2.R e2 w B F v2 ys) (hg : w.grownBy w1 v2.ownBlock) : Upd w w1 F := Upd.of_grown hg (fun k hk => h2.1 k hk)
end
/-- A whole struct or array is read: its cells, one behind the other. -/
theorem run_loadAt_cells {P : Program} {w : World} (ty : TypeId) {d : TypeDesc} (hu : P.underlying ty = some d) (hd : (match d with | .struct _ | .array _ _ => true | _ => false) = true) (g o : Nat) (c : List Value) (hi : (P.info? ty).map (·.size) = some c.length)
    (hc : ∀ j u, c[j]? = some u → w.cell? ⟨g, o + j, none⟩ = some u) : (Instr.loadAt ty (.pointer (some ⟨g, o, none⟩))).run P w = .ok (.agg c.toArray) w := by
  have hl : (loadCells ⟨g, o, none⟩ c.length).run P w = .ok c.toArray w := run_loadCells_list (P := P) w ⟨g, o, none⟩ c (fun j v hv => by
    have hadd : (⟨g, o, none⟩ : Addr).add j = ⟨g, o + j, none⟩ := by unfold Addr.add; split <;> simp_all
    rw [hadd]; exact hc j v hv)
  obtain ⟨i, hi1, hi2⟩ := Option.map_eq_some_iff.1 hi
  have ha : (isAgg ty).run P w = .ok true w := by
    unfold isAgg
    cases d <;> simp_all [run_underlying hu]
  have hs : (sizeOf ty).run P w = .ok c.length w := by simp [sizeOf, typeInfo, hi1, hi2]
  simp [Instr.loadAt, Instr.sureAddr, loadVar, ha, hs, hl]
theorem wpStill_load {P : Program} {ops : Array Oper} {w : World} {Q : Act → Prop} {a : Act} {o : Oper} {rest : List Oper} (hgd : o.guard = none) (ty : TypeId) (x : Operand) (ho : o.op = .load ty x) (v : Value) (hrun : (Instr.loadAt ty (a.eval x)).run P w = .ok v w)
    (h : wpStill P ops w Q rest (a.put o.dst v)) : wpStill P ops w Q (o :: rest) a := by
  refine wpStill_step fun K hK => ?_
  have hw : Region.wanted o (yielded ops a.tmps) = true := by simp [Region.wanted, hgd]
  rw [if_pos hw]
  have he : (execOp a.eval o).run P w = .ok (.value v) w := by
    unfold execOp
    simp [ho, hrun]
  unfold Oper.still
  rw [he, Oper.stillUpon_value]
  exact hK _ h
theorem wpList_load {P : Program} {ops : Array Oper} {w : World} {Q : Exit → Act → World → Prop} {a : Act} {o : Oper} {rest : List Oper} (hgd : o.guard = none) (ty : TypeId) (x : Operand) (ho : o.op = .load ty x) (v : Value) (hrun : (Instr.loadAt ty (a.eval x)).run P w = .ok v w)
    (h : wpList P ops Q rest (a.put o.dst v) w) : wpList P ops Q (o :: rest) a w := by
  refine wpList_plain hgd fun K hK => ?_
  have he : (execOp a.eval o).run P w = .ok (.value v) w := by
    unfold execOp
    simp [ho, hrun]
  unfold Oper.wp
  rw [he, Oper.upon_value]
  exact hK _ _ h
theorem wpList_store {P : Program} {ops : Array Oper} {w w1 : World} {Q : Exit → Act → World → Prop} {a : Act} {o : Oper} {rest : List Oper} (hN : o.dst = none) (hgd : o.guard = none) (ty : TypeId) (p x : Operand) (ho : o.op = .store ty p x) (hrun : (Instr.storeAt ty (a.eval p) (a.eval x)).run P w = .ok () w1)
    (h : wpList P ops Q rest a w1) : wpList P ops Q (o :: rest) a w := by
  refine wpList_plain hgd fun K hK => ?_
  unfold Oper.wp execOp
  simp only [ho, Sem.run_bind, Sem.run_pure, Result.andThen_ok, hrun]
  show K (a.put o.dst undef) _
  rw [hN]
  exact hK a _ h
theorem size64 : (Tryd.prog.info? 68).map (·.size) = some 64 := by kernel_rfl
theorem size67 : (Tryd.prog.info? 93).map (·.size) = some 65 := by kernel_rfl
theorem one_zero (z : Array Value) (hz : ∀ q ∈ z.toList, q.oneCell' = true) (hs : 0 < z.size) (n : Nat) : ∀ q ∈ (Builtin.zeroCells z n).toList, q.oneCell' = true := by
  intro q hq
  simp only [Builtin.zeroCells, Array.toList_map, List.mem_map] at hq
  obtain ⟨i, _, rfl⟩ := hq
  have hi : i % z.size < z.size := Nat.mod_lt _ hs
  rw [getElem!_pos z _ hi]
  exact hz _ (by simp)
/-- 'clear(v)', v a row of one's own: its cells are other ones; the row as an empty one stays. -/
theorem run_clear_row {P : Program} {α : Type} {d : Kd α} {e : Nat} {w : World} {B : Nat} {F : Nat → Prop} {A : Option Addr} {n c : Nat} {xs : List α} (t ty : TypeId) (z : Value) (ht : P.underlying t = some (.slice e)) (hz : ∀ w, (zeroValue e).run P w = .ok z w) (hzs : z.cells.size = d.sz) (hsz : 0 < d.sz) (hz1 : ∀ q ∈ z.cells.toList, q.oneCell' = true)
    (h : d.R e w B F (.slice A n c) xs) : ∃ w1, (Builtin.clear_ #[t] ty #[.slice A n c]).run P w = .ok (.tuple #[]) w1 ∧ w.grownBy w1 (Value.slice A n c).ownBlock ∧ d.R e w1 B F (.slice A 0 c) [] := by
  obtain ⟨h0, inner, ho, hr⟩ := h
  rcases ho.2 with hv | ⟨g, cap, cur, hv, hg, hh, hn, hc, hcs, htk⟩
  · obtain ⟨hv, hn0⟩ := hv
    injection hv with h1 h2 h3
    subst h1; subst h2; subst h3
    refine ⟨w, ?_, ⟨rfl, rfl, rfl, Nat.le_refl _, fun _ _ _ => rfl⟩, Kd.R_nil _ _ _ _ _⟩
    simp [Builtin.clear_, run_underlying ht]
  · injection hv with h1 h2 h3
    subst h1; subst h2; subst h3
    by_cases hz0 : xs.length = 0
    · refine ⟨w, ?_, ⟨rfl, rfl, rfl, Nat.le_refl _, fun _ _ _ => rfl⟩, fun k hk => h0 k hk, [], ⟨by simp, .inr ⟨g, c, cur, rfl, hg, hh, Nat.zero_le _, hc, hcs, by simp⟩⟩, Reps.none _ _⟩
      rw [hz0]
      simp [Builtin.clear_, run_underlying ht]
    · obtain ⟨zs, hzs'⟩ : ∃ zs, zs = (Builtin.zeroCells z.cells xs.length).toList := ⟨_, rfl⟩
      have hlen : zs.length = xs.length * d.sz := by rw [hzs', Array.length_toList, size_zeroCells, hzs]
      have h1 : ∀ q ∈ zs, q.oneCell' = true := by rw [hzs']; exact one_zero _ hz1 (by omega) _
      have hle : xs.length * d.sz ≤ c * d.sz := Nat.mul_le_mul_right _ hn
      have hst := run_storeCells_cells (P := P) g 0 zs 0 w (fun j hj => by rw [cell_of_row w g _ cur e (0, 0) hh]; simp; omega) (fun j _ => blk_frozen hh _) h1
      simp only [Nat.add_zero] at hst
      obtain ⟨cur', h3, h4, h5⟩ := setCells_row zs 0 w cur hh (by omega)
      obtain ⟨s1, s2, s3, s4⟩ := setCells_same g zs 0 w
      refine ⟨w.setCells g 0 zs, ?_, ⟨s1, s2, s3, by rw [s4]; exact Nat.le_refl _, fun k _ hk => setCells_far _ _ k (fun he => hk (by rw [he]; simp [Value.ownBlock]))⟩, fun k hk => h0 k hk, [], ⟨by simp, .inr ⟨g, c, cur', rfl, hg, h3, Nat.zero_le _, hc, by rw [h4, hcs], by simp⟩⟩, Reps.none _ _⟩
      obtain ⟨m, hm⟩ : ∃ m, xs.length = m + 1 := ⟨xs.length - 1, by omega⟩
      rw [hzs', hm] at hst ⊢
      simp [Builtin.clear_, run_underlying ht, hz, hst]
theorem zero67 (w : World) : (zeroValue 93).run Tryd.prog w = .ok (.agg (.int .i64 0 :: List.replicate 64 (.int .u8 0)).toArray) w := by kernel_rfl
theorem info64 : (Tryd.prog.info? 68).map (fun i => (i.size, i.bytes)) = some (64, 64) := by kernel_rfl
theorem info67 : (Tryd.prog.info? 93).map (fun i => (i.size, i.bytes)) = some (65, 72) := by kernel_rfl
end Go.Proofs.YtmblnflfklmmkaaDoor.Dk
/- Contracts of package disk's small methods: Up, Strokes, Held, Size, ready, at, Start, goes. -/
namespace Go.Proofs.YtmblnflfklmmkaaDoor.Dk
open Go.RowKit Go.Proofs.YtmblnflfklmmkaaDoorW.PrintWords Go.Proofs.YtmblnflfklmmkaaDoorW.PrintLast Go.Proofs.YtmblnflfklmmkaaDoorW.PrintMore
set_option linter.unusedVariables false
set_option linter.unusedSimpArgs false
set_option maxRecDepth 30000
variable {w : World} {B g : Nat} {F : Nat → Prop} {D : DM} {vs vh vc : Value}

theorem Up_calls (h : DAt w B g F D vs vh vc) : Calls Tryd.prog 40 #[.pointer (some ⟨g, 0, none⟩)] w fun e w' => e = .returned (.bool (!D.down)) ∧ w = w' := by
  have h2 := h.c2
  clear h
  go_enter Tryd.func40, Tryd.ntmps40
  go_wp2
  go_ret
  exact ⟨rfl, rfl⟩
theorem Size_calls (h : DAt w B g F D vs vh vc) : Calls Tryd.prog 26 #[.pointer (some ⟨g, 0, none⟩)] w fun e w' => e = .returned (.int .i64 (D.sec.length : Int)) ∧ w = w' := by
  obtain ⟨A, c, rfl, _⟩ := Kd.R_reads h.sec
  have h2 := h.c0
  clear h
  go_enter Tryd.func26, Tryd.ntmps26
  go_wp2
  go_ret
  exact ⟨rfl, rfl⟩
def readyM (D : DM) : Int := if D.down = true then 60 else 0
theorem ready_calls (h : DAt w B g F D vs vh vc) : Calls Tryd.prog 36 #[.pointer (some ⟨g, 0, none⟩)] w fun e w' => e = .returned (.int .i64 (readyM D)) ∧ w = w' := by
  have h2 := h.c2
  clear h
  cases hd : D.down with
  | true =>
    rw [hd] at h2
    have hr := Lib.hid (show readyM D = 60 by simp [readyM, hd])
    clear hd
    go_enter Tryd.func36, Tryd.ntmps36
    go_wp2
    go_ret
    exact ⟨by rw [hr.out] <;> rfl, rfl⟩
  | false =>
    rw [hd] at h2
    have hr := Lib.hid (show readyM D = 0 by simp [readyM, hd])
    clear hd
    go_enter Tryd.func36, Tryd.ntmps36
    go_wp2
    go_ret
    exact ⟨by rw [hr.out] <;> rfl, rfl⟩
def atM (D : DM) (k : Int) : Int := if D.down = true then 60 else if k < 0 ∨ (D.sec.length : Int) ≤ k then 61 else 0
theorem at_calls (h : DAt w B g F D vs vh vc) (k : Int) : Calls Tryd.prog 74 #[.pointer (some ⟨g, 0, none⟩), .int .i64 k] w fun e w' => e = .returned (.int .i64 (atM D k)) ∧ w = w' := by
  have H := Aside0.mk h
  obtain ⟨A, c, rfl, _⟩ := Kd.R_reads h.sec
  have h2 := h.c0
  clear h
  cases hd : D.down with
  | true =>
    have hr := Lib.hid (show atM D k = 60 by simp [atM, hd])
    have hq := Lib.hid (show readyM D = 60 by simp [readyM, hd])
    clear hd
    go_enter Tryd.func74, Tryd.ntmps74
    go_wp2_with (first | (go_at_call 36; refine (ready_calls H.out).mono ?_; rintro e w' ⟨rfl, rfl⟩; rw [hq.out]))
    go_ret
    exact ⟨by rw [hr.out] <;> rfl, rfl⟩
  | false =>
    have hq := Lib.hid (show readyM D = 0 by simp [readyM, hd])
    by_cases hk : k < 0
    · have hr := Lib.hid (show atM D k = 61 by simp [atM, hd, hk])
      clear hd
      go_enter Tryd.func74, Tryd.ntmps74
      go_wp2_with (first | (go_at_call 36; refine (ready_calls H.out).mono ?_; rintro e w' ⟨rfl, rfl⟩; rw [hq.out]))
      go_ret
      exact ⟨by rw [hr.out] <;> rfl, rfl⟩
    · by_cases hk2 : (D.sec.length : Int) ≤ k
      · have hr := Lib.hid (show atM D k = 61 by simp [atM, hd, hk2])
        clear hd
        go_enter Tryd.func74, Tryd.ntmps74
        go_wp2_with (first | (go_at_call 36; refine (ready_calls H.out).mono ?_; rintro e w' ⟨rfl, rfl⟩; rw [hq.out]))
        go_ret
        exact ⟨by rw [hr.out] <;> rfl, rfl⟩
      · have hr := Lib.hid (show atM D k = 0 by simp [atM, hd, hk, hk2])
        clear hd
        go_enter Tryd.func74, Tryd.ntmps74
        go_wp2_with (first | (go_at_call 36; refine (ready_calls H.out).mono ?_; rintro e w' ⟨rfl, rfl⟩; rw [hq.out]))
        go_ret
        exact ⟨by rw [hr.out] <;> rfl, rfl⟩
def startM (D : DM) : DM := { D with down := false, set := false, choice := [] }
theorem Start_calls (h : DAt w B g F D vs vh vc) : Calls Tryd.prog 23 #[.pointer (some ⟨g, 0, none⟩)] w fun e w' => e = .returned (.tuple #[]) ∧ DiskAt w' B g F (startM D) ∧ Upd w w' F := by
  have H := Aside0.mk h
  have hf := h.free
  have h2 := h.c2
  have h5 := h.c5
  have h6 := h.c6
  clear h
  go_enter Tryd.func23, Tryd.ntmps23
  go_wp2
  have H1 := H.out.putDown false
  have H2 := H1.putSet false
  have H3 := H2.putChoice (.slice none 0 0) [] (Kd.R_nil _ _ _ _ _)
  have HU := ((H.out.upd 2 (.bool false)).trans (H1.upd 5 (.bool false)) (fun _ h => .inl h)).trans (H2.upd 6 (.slice none 0 0)) (fun _ h => .inl h)
  go_end0
  exact ⟨rfl, ⟨_, _, _, H3⟩, HU⟩
def goesM (D : DM) : DM × Bool :=
  if D.set = false then ({ D with strokes := wrap64 (D.strokes + 1) }, false) else if D.left > 0 then ({ D with strokes := wrap64 (D.strokes + 1), left := D.left - 1 }, false) else ({ D with strokes := wrap64 (D.strokes + 1) }, true)
theorem goes_calls (h : DAt w B g F D vs vh vc) (hl : D.left ≤ 9223372036854775807) : Calls Tryd.prog 37 #[.pointer (some ⟨g, 0, none⟩)] w fun e w' => e = .returned (.bool (goesM D).2) ∧ DAt w' B g F (goesM D).1 vs vh vc ∧ Upd w w' F := by
  have H := Aside0.mk h
  have hf := h.free
  have h3 := h.c3
  have h4 := h.c4
  have h5 := h.c5
  have H1 := Aside0.mk (h.putStrokes (wrap64 (D.strokes + 1)))
  have HU := Aside0.mk (h.upd 3 (.int .i64 (wrap64 (D.strokes + 1))))
  clear h
  cases hs : D.set with
  | false =>
    rw [hs] at h5
    have hq := Lib.hid (show goesM D = ({ D with strokes := wrap64 (D.strokes + 1) }, false) by simp [goesM, hs])
    clear hs
    go_enter Tryd.func37, Tryd.ntmps37
    go_wp2
    go_ret
    exact ⟨by rw [hq.out] <;> rfl, by rw [hq.out]; exact H1.out, HU.out⟩
  | true =>
    rw [hs] at h5
    by_cases h0 : D.left > 0
    · have hq := Lib.hid (show goesM D = ({ D with strokes := wrap64 (D.strokes + 1), left := D.left - 1 }, false) by simp [goesM, hs, h0])
      clear hs
      have H2 := Aside0.mk (H1.out.putLeft (D.left - 1))
      have HU2 := Aside0.mk (HU.out.trans (H1.out.upd 4 (.int .i64 (D.left - 1))) (fun _ h => .inl h))
      go_enter Tryd.func37, Tryd.ntmps37
      go_wp2
      go_ret
      exact ⟨by rw [hq.out] <;> rfl, by rw [hq.out]; exact H2.out, HU2.out⟩
    · have hq := Lib.hid (show goesM D = ({ D with strokes := wrap64 (D.strokes + 1) }, true) by simp [goesM, hs, h0])
      clear hs
      go_enter Tryd.func37, Tryd.ntmps37
      go_wp2
      go_ret
      exact ⟨by rw [hq.out] <;> rfl, by rw [hq.out]; exact H1.out, HU.out⟩
end Go.Proofs.YtmblnflfklmmkaaDoor.Dk
/- Contracts of package disk: what is held is put into its sectors. -/
namespace Go.Proofs.YtmblnflfklmmkaaDoor.Dk
open Go.RowKit Go.Proofs.YtmblnflfklmmkaaDoorW.PrintWords Go.Proofs.YtmblnflfklmmkaaDoorW.PrintLast Go.Proofs.YtmblnflfklmmkaaDoorW.PrintMore
set_option linter.unusedVariables false
set_option linter.unusedSimpArgs false
set_option maxRecDepth 30000
variable {w : World} {B g : Nat} {F : Nat → Prop} {D : DM} {vs vh vc : Value}

theorem Flush1_calls (i : Int) (w : World) : Calls Tryd.prog 39 #[.int .i64 i] w fun e w' => e = .returned (.bool true) ∧ w = w' := by
  go_enter Tryd.func39, Tryd.ntmps39
  go_wp2
  go_ret
  exact ⟨rfl, rfl⟩
/-- A row of one's own: nil, or from the head of a block on. -/
theorem R_cases {α : Type} {d : Kd α} {e : Nat} {w : World} {base : Nat} {ok : Nat → Prop} {v : Value} {xs : List α} (h : d.R e w base ok v xs) : (v = .slice none 0 0 ∧ xs = []) ∨ ∃ g cap, v = .slice (some ⟨g, 0, none⟩) xs.length cap ∧ base ≤ g := by
  obtain ⟨_, inner, ho, hr⟩ := h
  rcases ho.2 with hz | ⟨g, cap, cur, hv, hg, _⟩
  · exact .inl ⟨hz.1, List.eq_nil_of_length_eq_zero hz.2⟩
  · exact .inr ⟨g, cap, hv, hg⟩
theorem add0 (g n : Nat) : (⟨g, 0, none⟩ : Addr).add n = ⟨g, n, none⟩ := by
  unfold Addr.add
  by_cases h : n = 0 <;> simp [h]
def chB (l : List Bool) (i : Nat) : Bool := l.getD i false
theorem Lose1_calls (i : Nat) (g3 : Nat) (A : Option Addr) (c : Nat) (l : List Bool) (w : World) (hi : i ≤ 1000000000) (h3 : w.cell? ⟨g3, 0, none⟩ = some (.slice A l.length c)) (hC : Kd.C Kd.bool w A l.length l) :
    Calls Tryd.prog 41 #[.int .i64 i, .pointer (some ⟨g3, 0, none⟩)] w fun e w' => e = .returned (.bool (chB l i)) ∧ w = w' := by
  by_cases hl : i < l.length
  · obtain ⟨ad, c1, rfl, hsz, hK, hx⟩ := Kd.C_get hC false (i : Int) (by omega) (by omega)
    have hcell : w.cell? (ad.add i) = some (.bool (chB l i)) := by
      have e : c1 = [.bool (l.getD i false)] := by simpa [Kd.bool, Kd.scalar] using hK
      have := hx 0 (.bool (l.getD i false)) (by rw [e]; rfl)
      simpa [Kd.bool, Kd.scalar, chB] using this
    clear hK hx hsz
    have t1 : decide ((i : Int) < (l.length : Int)) = true := decide_eq_true (by omega)
    go_enter Tryd.func41, Tryd.ntmps41
    go_wp2
    go_ret
    exact ⟨rfl, rfl⟩
  · have t1 : decide ((i : Int) < (l.length : Int)) = false := decide_eq_false (by omega)
    have hz := Lib.hid (show chB l i = false by simp [chB, List.getD_eq_getElem?_getD, List.getElem?_eq_none (Nat.le_of_not_lt hl)])
    have t2 : decide (i < l.length) = false := decide_eq_false hl
    go_enter Tryd.func41, Tryd.ntmps41
    go_wp2
    go_ret
    exact ⟨by rw [hz.out] <;> rfl, rfl⟩
/-- The sectors when the first n held writes were put where keep says so. -/
def putsTo (keep : Nat → Bool) (held : List (Int × List Int)) (sec : List (List Int)) : Nat → List (List Int)
  | 0 => sec
  | n + 1 => if keep n = true then (putsTo keep held sec n).set (held.getD n (0, [])).1.toNat (held.getD n (0, [])).2 else putsTo keep held sec n
theorem putsTo_length (keep : Nat → Bool) (held : List (Int × List Int)) (sec : List (List Int)) : ∀ n, (putsTo keep held sec n).length = sec.length
  | 0 => rfl
  | n + 1 => by
    unfold putsTo
    split
    · rw [List.length_set, putsTo_length]
    · exact putsTo_length keep held sec n
def putsM (keep : Nat → Bool) (D : DM) : DM := { D with sec := putsTo keep D.held D.sec D.held.length, held := [] }
/-- A disk's held writes lie on it, and nothing on it is too long. -/
structure DOk (D : DM) : Prop where
  at_ : ∀ h ∈ D.held, 0 ≤ h.1 ∧ h.1 < (D.sec.length : Int)
  n1 : D.sec.length ≤ 16384
  n2 : D.held.length ≤ 10000000
  n3 : D.choice.length ≤ 4096
  l1 : D.left ≤ 9223372036854775807
set_option maxHeartbeats 1000000 in
theorem puts_calls (h : DAt w B g F D vs vh vc) (hok : DOk D) (fid : Nat) (caps : Array Value) (keep : Nat → Bool) (Inv : World → Prop) (hInv : ∀ W W', Inv W → Upd W W' F → Kd.R Kd.bool 4 W' B F vc D.choice → Inv W') (hw : Inv w)
    (hcf : ∀ (i : Int) (W : World), (callFunc fid (#[Value.int .i64 i] ++ caps)).run Tryd.prog W = .ok (.enter fid (#[Value.int .i64 i] ++ caps)) W)
    (hk : ∀ (i : Nat) (W : World), Inv W → i < D.held.length → Calls Tryd.prog fid (#[Value.int .i64 i] ++ caps) W fun e W' => e = .returned (.bool (keep i)) ∧ W = W') :
    Calls Tryd.prog 38 #[.pointer (some ⟨g, 0, none⟩), .func (.func fid) #[] caps] w fun e w' => e = .returned (.tuple #[]) ∧ DiskAt w' B g F (putsM keep D) ∧ Upd w w' F := by
  have H := Aside0.mk h
  obtain ⟨As, cs, rfl, hsl, _⟩ := Kd.R_reads h.sec
  obtain ⟨Ah, ch, rfl, hhl, _⟩ := Kd.R_reads h.held
  have h1 := h.c1
  have HI := Aside0.mk hInv
  have HW := Aside0.mk hw
  have HK := Aside0.mk hk
  have HOK := Aside0.mk hok
  clear h hInv hw hk hok
  go_enter Tryd.func38, Tryd.ntmps38
  go_wp2
  go_loopw [4, 10] (fun v4 v10 w' => ∃ i : Nat, v10 = .int .i64 i ∧ i ≤ D.held.length ∧ Aside0 (DAt w' B g F { D with sec := putsTo keep D.held D.sec i } (.slice As D.sec.length cs) (.slice Ah D.held.length ch) vc) ∧ Aside0 (Upd w w' F) ∧ Aside0 (Inv w')) (fun _ v10 _ => D.held.length - (intOf v10).toNat)
  case atStart => exact ⟨0, rfl, Nat.zero_le _, H, ⟨Upd.refl _ _⟩, HW⟩
  case round =>
    obtain ⟨i, rfl, hi, HD, HU, HV⟩ := hrel
    clear h1
    have hn2 := HOK.out.n2
    by_cases hlt : i < D.held.length
    · cases hkp : keep i with
      | false =>
        have HP := Aside0.mk (show putsTo keep D.held D.sec (i + 1) = putsTo keep D.held D.sec i by simp [putsTo, hkp])
        have HKI := Aside0.mk (HK.out i wr HV.out hlt)
        clear HK
        go_wp2_with fail
        refine HKI.out.mono ?_
        rintro e w2 ⟨rfl, rfl⟩
        rw [hkp]
        go_wp2
        go_roundw
        case rel => exact ⟨i + 1, by go_num, by omega, ⟨by rw [HP.out]; exact HD.out⟩, HU, HV⟩
        case measure => simp [intOf]; omega
      | true =>
        have HP := Aside0.mk (show putsTo keep D.held D.sec (i + 1) = (putsTo keep D.held D.sec i).set (D.held.getD i (0, [])).1.toNat (D.held.getD i (0, [])).2 by simp [putsTo, hkp])
        have HKI := Aside0.mk (HK.out i wr HV.out hlt)
        obtain ⟨ha0, ha1⟩ := HOK.out.at_ (D.held.getD i (0, [])) (by rw [List.getD_eq_getElem?_getD, List.getElem?_eq_getElem hlt]; exact List.getElem_mem hlt)
        obtain ⟨a, b, hab⟩ : ∃ a b, D.held.getD i (0, []) = (a, b) := ⟨_, _, rfl⟩
        rw [hab] at HP ha0 ha1
        dsimp only at HP ha0 ha1
        rcases R_cases HD.out.held with ⟨_, hz⟩ | ⟨gh, caph, eh, hgh⟩
        · have : D.held.length = 0 := by rw [hz]; rfl
          omega
        rcases R_cases HD.out.sec with ⟨_, hz⟩ | ⟨gs, caps', es, hgs⟩
        · have : (putsTo keep D.held D.sec i).length = 0 := congrArg List.length hz
          rw [putsTo_length] at this
          omega
        injection eh with eh1 eh2 eh3
        injection es with es1 es2 es3
        subst eh1; subst es1
        clear eh2 eh3 es2 es3
        obtain ⟨ad, c1, e1, hsz1, hK1, hx1⟩ := Kd.C_get (Kd.R_reads' HD.out.held).2.2 (0, []) (i : Int) (by omega) (by show (i : Int) < (D.held.length : Int); omega)
        injection e1 with e1
        subst e1
        rw [Int.toNat_natCast, hab] at hK1
        obtain ⟨hK1, hb64⟩ := hK1
        have hca : wr.cell? ⟨gh, i * 65, none⟩ = some (.int .i64 a) := by
          have := hx1 0 (.int .i64 a) (by rw [hK1]; rfl)
          have e : (⟨gh, 0, none⟩ : Addr).add ((i : Int).toNat * kHeld.sz + 0) = ⟨gh, i * 65, none⟩ := by rw [add0]; simp [kHeld]
          rwa [e] at this
        have hlb : (Instr.loadAt 68 (.pointer (some ⟨gh, i * 65 + 1, none⟩))).run Tryd.prog wr.drew = .ok (.agg (nums .u8 b).toArray) wr.drew := by
          refine run_loadAt_cells 68 Tryd.underlying68 rfl gh (i * 65 + 1) (nums .u8 b) (by rw [nums_length, hb64]; exact size64) (fun j u hu => ?_)
          have := hx1 (j + 1) u (by rw [hK1]; simpa using hu)
          have e : (⟨gh, 0, none⟩ : Addr).add ((i : Int).toNat * kHeld.sz + (j + 1)) = ⟨gh, i * 65 + 1 + j, none⟩ := by rw [add0]; simp [kHeld]; omega
          rw [e] at this
          exact this
        have h0 := HD.out.c0
        have h1 := HD.out.c1
        have hf := HD.out.free
        have HLB := Aside0.mk hlb
        clear hlb hx1 hK1 hsz1
        go_wp2_with fail
        refine HKI.out.mono ?_
        rintro e w2 ⟨rfl, rfl⟩
        rw [hkp]
        go_wp2
        refine wp_region_still_tail 21 (by kernel_rfl) (by kernel_rfl) ?_
        simp only [List.take_succ_cons, List.take_zero, List.drop_succ_cons, List.drop_zero]
        change wpStill _ _ wr.drew _ _ _
        repeat (first | (refine wpStill_load rfl 68 (.tmp 34) rfl _ HLB.out ?_) | still_step)
        refine wpStill_nil ?_
        change wpList _ _ _ _ _ wr.drew
        obtain ⟨ad2, c2, e2, hsz2, hK2, hx2⟩ := Kd.C_get (Kd.R_reads' HD.out.sec).2.2 [] a (by omega) (by show a < ((putsTo keep D.held D.sec i).length : Int); rw [putsTo_length]; omega)
        injection e2 with e2
        subst e2
        refine Kd.R_store kSec (w0 := wr.drew) B rfl rfl 68 (.tmp 36) (.tmp 35) rfl 68 (g := gs) (n := D.sec.length) (cap := cs) (o' := a.toNat * 64) a 0 (putsTo keep D.held D.sec i) b (.agg (nums .u8 b).toArray) (nums .u8 b) c2 F (fun _ => False) rfl rfl rfl rfl (by rw [nums_length, hb64]; exact size64) (by intro q hq; simp only [nums, List.mem_map] at hq; obtain ⟨_, _, rfl⟩ := hq; rfl) HD.out.sec ha0 ha1 hsz2 ?hcc (by rw [nums_length, hb64]; decide) ?hM (fun _ h => h.elim) (Below.refl _ _) ?_
        case hcc =>
          intro j u hu
          have := hx2 j u hu
          rw [add0] at this
          exact this
        case hM => exact ⟨by rw [List.take_zero, List.nil_append, nums_length, hb64, Nat.zero_add, List.drop_of_length_le (show c2.length ≤ 64 from Nat.le_of_eq hsz2), List.append_nil], hb64⟩
        intro w5 hr5 hb5 hg5d
        have hg5 : wr.grownBy w5 (Value.slice (some ⟨gs, 0, none⟩) D.sec.length cs).ownBlock := ⟨hg5d.os, hg5d.tape, hg5d.output, hg5d.size, hg5d.block⟩
        clear hg5d
        have hD5 : DAt w5 B g F { D with sec := putsTo keep D.held D.sec (i + 1) } (.slice (some ⟨gs, 0, none⟩) D.sec.length cs) (.slice (some ⟨gh, 0, none⟩) D.held.length ch) vc := by
          rw [HP.out]
          exact ⟨blk_other HD.out.blk HD.out.sec (by decide) hg5, hr5, R_other HD.out.held HD.out.sec rfl (by decide) hg5, R_other HD.out.choice HD.out.sec rfl (by decide) hg5, HD.out.own, fun k hk => ⟨(HD.out.lt k hk).1, Nat.lt_of_lt_of_le (HD.out.lt k hk).2 hg5.size⟩⟩
        have HD5 := Aside0.mk hD5
        have HU5 := Aside0.mk (HU.out.trans (Upd.of_row (w := wr) HD.out.sec (w1 := w5) hg5) (fun _ h => .inl h))
        have HV5 := Aside0.mk (HI.out wr w5 HV.out (Upd.of_row (w := wr) HD.out.sec (w1 := w5) hg5) HD5.out.choice)
        clear hD5 hr5 hb5 hg5 hx2 hK2 hsz2
        go_wp2
        go_roundw
        case rel => exact ⟨i + 1, by go_num, by omega, HD5, HU5, HV5⟩
        case measure => simp [intOf]; omega
    · obtain rfl : i = D.held.length := by omega
      obtain ⟨w3, hclr, hg3, hr3⟩ := run_clear_row 65 0 _ Tryd.underlying65 zero67 rfl (by decide) (by decide) HD.out.held
      have h1 := HD.out.c1
      have hb3 := blk_other HD.out.blk HD.out.held (by decide) hg3
      have hs3 := R_other HD.out.sec HD.out.held rfl (by decide) hg3
      have hc3 := R_other HD.out.choice HD.out.held rfl (by decide) hg3
      have HU3 := Aside0.mk (HU.out.trans (Upd.of_row HD.out.held hg3) (fun _ h => .inl h))
      have h31 : w3.cell? ⟨g, 1, none⟩ = some (.slice Ah D.held.length ch) := by simp [World.cell?, hb3]
      have hf3 : ∀ j, w3.frozen? ⟨g, j, none⟩ = false := fun j => by simp [World.frozen?, hb3]
      have H4 := Aside0.mk (DAt.mk_put (D := { D with sec := putsTo keep D.held D.sec D.held.length }) hb3 1 (.slice Ah 0 ch) (putsM keep D) (.slice As D.sec.length cs) (.slice Ah 0 ch) vc rfl hs3 hr3 hc3 HD.out.own (fun k hk => ⟨(HD.out.lt k hk).1, Nat.lt_of_lt_of_le (HD.out.lt k hk).2 hg3.size⟩))
      clear hb3 hs3 hc3 hr3 hg3
      have HU4 := Aside0.mk (HU3.out.setCell (p := ⟨g, 1, none⟩) (.inl HD.out.own) (.slice Ah 0 ch))
      go_wp2
      go_end0
      exact ⟨rfl, ⟨_, _, _, H4.out⟩, HU4.out⟩
end Go.Proofs.YtmblnflfklmmkaaDoor.Dk
/- Contracts of package disk: Lose, Flush, Set. -/
namespace Go.Proofs.YtmblnflfklmmkaaDoor.Dk
open Go.RowKit Go.Proofs.YtmblnflfklmmkaaDoorW.PrintWords Go.Proofs.YtmblnflfklmmkaaDoorW.PrintLast Go.Proofs.YtmblnflfklmmkaaDoorW.PrintMore
set_option linter.unusedVariables false
set_option linter.unusedSimpArgs false
set_option maxRecDepth 30000
variable {w : World} {B g : Nat} {F : Nat → Prop} {D : DM} {vs vh vc : Value}

theorem C_take {α : Type} {d : Kd α} {w : World} {A : Option Addr} {n : Nat} {xs : List α} (h : d.C w A n xs) (m : Nat) : d.C w A (xs.take m).length (xs.take m) := by
  obtain ⟨h1, h2, h3⟩ := h
  refine ⟨rfl, by simp; omega, fun hp => ?_⟩
  obtain ⟨ad, ha, hc⟩ := h3 (by simp at hp; omega)
  refine ⟨ad, ha, fun j p hj => hc j p ?_⟩
  have hj' := hj
  rw [List.getElem?_take] at hj'
  split at hj'
  · exact hj'
  · cases hj'
theorem l35 {caps : Array Value} (i : Int) (W : World) : (callFunc 41 (#[Value.int .i64 i] ++ caps)).run Tryd.prog W = .ok (.enter 41 (#[Value.int .i64 i] ++ caps)) W := by
  simp [callFunc, Tryd.func41, Tryd.f41]
def loseM (l : List Bool) (D : DM) : DM := if D.down = true then D else { putsM (chB (l.take 4096)) D with down := true }
/-- What Lose's closure reads. -/
structure LoseInv (w : World) (F : Nat → Prop) (A : Option Addr) (l : List Bool) (c : Nat) (W : World) : Prop where
  upd : Upd w W F
  box : W.heap[w.heap.size]? = some (.cells #[.slice A (l.take 4096).length c] 47 (0, 0))
  ch : Kd.C Kd.bool W A (l.take 4096).length (l.take 4096)
def loseInv := LoseInv
theorem loseInv_step {A : Option Addr} {c : Nat} {l : List Bool} (h : DAt w B g F D vs vh vc) (hC : ∀ W', Upd w W' F → Kd.R Kd.bool 4 W' B F vc D.choice → Kd.C Kd.bool W' A l.length l) :
    ∀ W W', loseInv w F A l c W → Upd W W' F → Kd.R Kd.bool 4 W' B F vc D.choice → loseInv w F A l c W' := fun W W' hi hu hr => by
  have hU := hi.upd.trans hu (fun _ h => .inl h)
  exact ⟨hU, (hu.block _ (blk_lt hi.box) (fun hf => by have := (h.lt _ hf).2; omega)).trans hi.box, C_take (hC W' hU hr) 4096⟩
theorem loseInv_call {A : Option Addr} {c : Nat} {l : List Bool} {W : World} (hi : loseInv w F A l c W) (i : Nat) (hle : i ≤ 1000000000) :
    Calls Tryd.prog 41 (#[Value.int .i64 i] ++ #[.pointer (some ⟨w.heap.size, 0, none⟩)]) W fun e W' => e = .returned (.bool (chB (l.take 4096) i)) ∧ W = W' :=
  Lose1_calls i w.heap.size A c (l.take 4096) W hle (cell_of_one hi.box) hi.ch
theorem loseInv_start {A : Option Addr} {m : Nat} {l : List Bool} (h : DAt w B g F D vs vh vc) (hC : ∀ W', Upd w W' F → Kd.R Kd.bool 4 W' B F vc D.choice → Kd.C Kd.bool W' A l.length l) (n : Nat) (hn : n = (l.take 4096).length) :
    loseInv w F A l m (w.alloc (.cells #[.slice A n m] 47)) := by
  subst hn
  have hu' : Upd w (w.alloc (.cells #[.slice A (l.take 4096).length m] 47)) F := Upd.of_below (below_alloc (Below.refl _ _) _)
  exact ⟨hu', heap_alloc_new w _, C_take (hC _ hu' (h.below (below_alloc (Below.refl _ _) _)).choice) 4096⟩
set_option maxHeartbeats 1000000 in
theorem Lose_calls (h : DAt w B g F D vs vh vc) (hok : DOk D) (A : Option Addr) (c : Nat) (l : List Bool) (hc : l.length ≤ c)
    (hC : ∀ W', Upd w W' F → Kd.R Kd.bool 4 W' B F vc D.choice → Kd.C Kd.bool W' A l.length l) :
    Calls Tryd.prog 22 #[.pointer (some ⟨g, 0, none⟩), .slice A l.length c] w fun e w' => e = .returned (.tuple #[]) ∧ DiskAt w' B g F (loseM l D) ∧ Upd w w' F := by
  have H := Aside0.mk h
  have HC := Aside0.mk hC
  have HOK := Aside0.mk hok
  have HL := Aside0.mk hc
  have H1 := Aside0.mk (h.below (below_alloc (Below.refl _ _) (.cells #[.slice A l.length c] 47)))
  have HUA := Aside0.mk (Upd.of_below (F := F) (below_alloc (Below.refl w.heap.size w) (.cells #[.slice A l.length c] 47)))
  clear h hC hok hc
  cases hd : D.down with
  | true =>
    have hq := Lib.hid (show loseM l D = D by simp [loseM, hd])
    have hdn := Lib.hid hd
    clear hd
    go_enter Tryd.func22, Tryd.ntmps22
    go_wp2_with (first | (go_at_call 40; refine (Up_calls H1.out).mono ?_; rintro e w' ⟨rfl, rfl⟩; rw [hdn.out]))
    refine bodyPost_ret (results_none rfl _ _ _) rfl ?_
    exact ⟨rfl, by rw [hq.out]; exact ⟨_, _, _, H1.out⟩, HUA.out⟩
  | false =>
    have hdn := Lib.hid hd
    have hq := Lib.hid (show loseM l D = { putsM (chB (l.take 4096)) D with down := true } by simp [loseM, hd])
    clear hd
    have hlc := HL.out
    by_cases h4 : l.length ≤ 4096
    · have e4 : (l.take 4096).length = l.length := by rw [List.take_of_length_le h4]
      have I2 := Aside0.mk (loseInv_start H.out HC.out (m := c) l.length e4.symm)
      clear e4
      go_enter Tryd.func22, Tryd.ntmps22
      go_wp2_with (first | (go_at_call 40; refine (Up_calls H1.out).mono ?_; rintro e w' ⟨rfl, rfl⟩; rw [hdn.out]))
      refine (puts_calls H1.out HOK.out 41 #[.pointer (some ⟨w.heap.size, 0, none⟩)] (chB (l.take 4096)) (loseInv w F A l c) (loseInv_step H.out HC.out) ?i2 l35 ?i3).mono ?_
      case i2 => exact I2.out
      case i3 => exact fun i W hW hi => loseInv_call hW i (by have := HOK.out.n2; omega)
      rintro e w3 ⟨rfl, ⟨vs', vh', vc', H3⟩, HU3⟩
      have H3' := Aside0.mk (H3.putDown true)
      have HU3' := Aside0.mk ((HUA.out.trans HU3 (fun _ h => .inl h)).trans (H3.upd 2 (.bool true)) (fun _ h => .inl h))
      have h2 := H3.c2
      have hf := H3.free
      clear H3 HU3
      go_wp2
      go_end0
      exact ⟨rfl, by rw [hq.out]; exact ⟨_, _, _, H3'.out⟩, HU3'.out⟩
    · have e4 : (l.take 4096).length = 4096 := by simp; omega
      have hc4 : 4096 ≤ c := by omega
      have hl4 : 4096 < l.length := by omega
      have H1b := Aside0.mk (H.out.below (below_alloc (Below.refl _ _) (.cells #[.slice A 4096 c] 47)))
      have HUAb := Aside0.mk (Upd.of_below (F := F) (below_alloc (Below.refl w.heap.size w) (.cells #[.slice A 4096 c] 47)))
      have I2 := Aside0.mk (loseInv_start H.out HC.out (m := c) 4096 e4.symm)
      clear e4
      go_enter Tryd.func22, Tryd.ntmps22
      go_wp2_with (first | (go_at_call 40; refine (Up_calls H1.out).mono ?_; rintro e w' ⟨rfl, rfl⟩; rw [hdn.out]))
      refine (puts_calls H1b.out HOK.out 41 #[.pointer (some ⟨w.heap.size, 0, none⟩)] (chB (l.take 4096)) (loseInv w F A l c) (loseInv_step H.out HC.out) ?i2 l35 ?i3).mono ?_
      case i2 => exact I2.out
      case i3 => exact fun i W hW hi => loseInv_call hW i (by have := HOK.out.n2; omega)
      rintro e w3 ⟨rfl, ⟨vs', vh', vc', H3⟩, HU3⟩
      have H3' := Aside0.mk (H3.putDown true)
      have HU3' := Aside0.mk ((HUAb.out.trans HU3 (fun _ h => .inl h)).trans (H3.upd 2 (.bool true)) (fun _ h => .inl h))
      have h2 := H3.c2
      have hf := H3.free
      clear H3 HU3
      go_wp2
      go_end0
      exact ⟨rfl, by rw [hq.out]; exact ⟨_, _, _, H3'.out⟩, HU3'.out⟩
theorem putsM_ok (keep : Nat → Bool) {D : DM} (h : DOk D) : DOk (putsM keep D) :=
  ⟨fun x hx => by simp [putsM] at hx, by simp only [putsM, putsTo_length]; exact h.n1, Nat.zero_le _, h.n3, h.l1⟩
theorem loseM_ok (l : List Bool) {D : DM} (h : DOk D) : DOk (loseM l D) := by
  unfold loseM
  split
  · exact h
  · have := putsM_ok (chB (l.take 4096)) h
    exact ⟨this.at_, this.n1, this.n2, this.n3, this.l1⟩
theorem goesM_ok {D : DM} (h : DOk D) : DOk (goesM D).1 := by
  unfold goesM
  split
  · exact ⟨h.at_, h.n1, h.n2, h.n3, h.l1⟩
  · split
    · exact ⟨h.at_, h.n1, h.n2, h.n3, by have := h.l1; simp only; omega⟩
    · exact ⟨h.at_, h.n1, h.n2, h.n3, h.l1⟩
theorem startM_ok {D : DM} (h : DOk D) : DOk (startM D) := ⟨h.at_, h.n1, h.n2, by simp [startM], h.l1⟩
/-- The choice of one's own, handed over. -/
theorem own_choice {A : Option Addr} {c : Nat} (h : DAt w B g F D vs vh (.slice A D.choice.length c)) : ∀ W', Upd w W' F → Kd.R Kd.bool 4 W' B F (.slice A D.choice.length c) D.choice → Kd.C Kd.bool W' A D.choice.length D.choice := fun W' _ hr => (Kd.R_reads' hr).2.2
def flushM (D : DM) : DM × Int :=
  if D.down = true then (D, 60) else if (goesM D).2 = true then (loseM (goesM D).1.choice (goesM D).1, 60) else (putsM (fun _ => true) (goesM D).1, 0)
theorem f34 (i : Int) (W : World) : (callFunc 39 (#[Value.int .i64 i] ++ #[])).run Tryd.prog W = .ok (.enter 39 (#[Value.int .i64 i] ++ #[])) W := by
  simp [callFunc, Tryd.func39, Tryd.f39]
set_option maxHeartbeats 1000000 in
theorem Flush_calls (h : DAt w B g F D vs vh vc) (hok : DOk D) :
    Calls Tryd.prog 19 #[.pointer (some ⟨g, 0, none⟩)] w fun e w' => e = .returned (.int .i64 (flushM D).2) ∧ DiskAt w' B g F (flushM D).1 ∧ Upd w w' F := by
  have H := Aside0.mk h
  have HOK := Aside0.mk hok
  clear h hok
  cases hd : D.down with
  | true =>
    have hq := Lib.hid (show flushM D = (D, 60) by simp [flushM, hd])
    have hr := Lib.hid (show readyM D = 60 by simp [readyM, hd])
    clear hd
    go_enter Tryd.func19, Tryd.ntmps19
    go_wp2_with (first | (go_at_call 36; refine (ready_calls H.out).mono ?_; rintro e w' ⟨rfl, rfl⟩; rw [hr.out]))
    go_ret
    exact ⟨by rw [hq.out] <;> rfl, by rw [hq.out]; exact ⟨_, _, _, H.out⟩, Upd.refl _ _⟩
  | false =>
    have hr := Lib.hid (show readyM D = 0 by simp [readyM, hd])
    cases hg : (goesM D).2 with
    | true =>
      have hq := Lib.hid (show flushM D = (loseM (goesM D).1.choice (goesM D).1, 60) by simp [flushM, hd, hg])
      have hg' := Lib.hid hg
      clear hd hg
      go_enter Tryd.func19, Tryd.ntmps19
      go_wp2_with (first | (go_at_call 36; refine (ready_calls H.out).mono ?_; rintro e w' ⟨rfl, rfl⟩; rw [hr.out]) | (go_at_call 37; refine (goes_calls H.out HOK.out.l1).mono ?_; rintro e w1 ⟨rfl, h1, hu1⟩; rw [hg'.out]; obtain ⟨Ac, cc, rfl, hlc, _⟩ := Kd.R_reads h1.choice; have H1 := Aside0.mk h1; have HU1 := Aside0.mk hu1; have HLC := Aside0.mk hlc; have hc6 := h1.c6; clear h1 hu1 hlc) | (go_at_call 22; refine (Lose_calls H1.out (goesM_ok HOK.out) Ac cc _ HLC.out (own_choice H1.out)).mono ?_; rintro e w2 ⟨rfl, h2, hu2⟩; have H2 := Aside0.mk h2; have HU2 := Aside0.mk hu2; clear h2 hu2))
      go_ret
      exact ⟨by rw [hq.out] <;> rfl, by rw [hq.out]; exact H2.out, HU1.out.trans HU2.out (fun _ h => .inl h)⟩
    | false =>
      have hq := Lib.hid (show flushM D = (putsM (fun _ => true) (goesM D).1, 0) by simp [flushM, hd, hg])
      have hg' := Lib.hid hg
      clear hd hg
      go_enter Tryd.func19, Tryd.ntmps19
      go_wp2_with (first | (go_at_call 36; refine (ready_calls H.out).mono ?_; rintro e w' ⟨rfl, rfl⟩; rw [hr.out]) | (go_at_call 37; refine (goes_calls H.out HOK.out.l1).mono ?_; rintro e w1 ⟨rfl, h1, hu1⟩; rw [hg'.out]; have H1 := Aside0.mk h1; have HU1 := Aside0.mk hu1; clear h1 hu1) | (go_at_call 38; refine (puts_calls H1.out (goesM_ok HOK.out) 39 #[] (fun _ => true) (fun _ => True) (fun _ _ _ _ _ => trivial) trivial f34 (fun i W _ _ => Flush1_calls i W)).mono ?_; rintro e w2 ⟨rfl, h2, hu2⟩; have H2 := Aside0.mk h2; have HU2 := Aside0.mk hu2; clear h2 hu2))
      go_ret
      exact ⟨by rw [hq.out] <;> rfl, by rw [hq.out]; exact H2.out, HU1.out.trans HU2.out (fun _ h => .inl h)⟩
theorem flushM_ok {D : DM} (h : DOk D) : DOk (flushM D).1 := by
  unfold flushM
  split
  · exact h
  · split
    · exact loseM_ok _ (goesM_ok h)
    · exact putsM_ok _ (goesM_ok h)
end Go.Proofs.YtmblnflfklmmkaaDoor.Dk
/- Contracts of package disk: Set, Write. -/
namespace Go.Proofs.YtmblnflfklmmkaaDoor.Dk
open Go.RowKit Go.Proofs.YtmblnflfklmmkaaDoorW.PrintWords Go.Proofs.YtmblnflfklmmkaaDoorW.PrintLast Go.Proofs.YtmblnflfklmmkaaDoorW.PrintMore
set_option linter.unusedVariables false
set_option linter.unusedSimpArgs false
set_option maxRecDepth 30000
section
variable {w w1 : World} {B g : Nat} {F : Nat → Prop} {D : DM} {vs vh vc : Value}
theorem R_grow {α : Type} {d : Kd α} {e : Nat} {v : Value} {xs : List α} (h : d.R e w1 B (fun k => F k ∨ w.heap.size ≤ k) v xs) : d.R e w1 B (Grow F w w1) v xs :=
  Kd.R_mono (Kd.R_bound h) (fun k hk => hk.1.imp id (fun h => ⟨h, hk.2.2.1⟩))
theorem DAt.grow (h : DAt w1 B g F D vs vh vc) (hB : B ≤ w.heap.size) : DAt w1 B g (Grow F w w1) D vs vh vc :=
  h.mono (fun _ h => .inl h) (fun k hk => by
    rcases hk with hk | hk
    · exact h.lt k hk
    · exact ⟨by omega, hk.2⟩)
theorem DAt.regrow {w2 : World} (h : DAt w2 B g (Grow F w w1) D vs vh vc) (hs : w1.heap.size = w2.heap.size) : DAt w2 B g (Grow F w w2) D vs vh vc := by
  have e : Grow F w w1 = Grow F w w2 := by funext k; simp [Grow, hs]
  rw [← e]; exact h
theorem DAt.hB (h : DAt w B g F D vs vh vc) : B ≤ w.heap.size := by
  have := h.lt g h.own
  omega
theorem info4 : (Tryd.prog.info? 4).map (fun i => (i.zero, i.size, i.bytes)) = some (some (.bool false), 1, 1) := by kernel_rfl
theorem info5 : (Tryd.prog.info? 5).map (fun i => (i.zero, i.size, i.bytes)) = some (some (.int .u8 0), 1, 1) := by kernel_rfl
theorem info67' : (Tryd.prog.info? 93).map (fun i => (i.zero, i.size, i.bytes)) = some (some (.agg (.int .i64 0 :: List.replicate 64 (.int .u8 0)).toArray), 65, 72) := by kernel_rfl
theorem info64' : (Tryd.prog.info? 68).map (fun i => (i.zero, i.size, i.bytes)) = some (some (.agg (List.replicate 64 (.int .u8 0)).toArray), 64, 64) := by kernel_rfl
def setM (D : DM) (n : Int) (l : List Bool) : DM × Int := if n < 0 then (D, 1) else if (l.length : Int) > 4096 then (D, 2) else ({ D with set := true, left := n, choice := l }, 0)
set_option maxHeartbeats 1000000 in
theorem Set_calls (h : DAt w B g F D vs vh vc) (n : Int) (A : Option Addr) (c : Nat) (l : List Bool) (hC : Kd.C Kd.bool w A l.length l) :
    Calls Tryd.prog 20 #[.pointer (some ⟨g, 0, none⟩), .int .i64 n, .slice A l.length c] w fun e w' => e = .returned (.int .i64 (setM D n l).2) ∧ DiskAt w' B g (Grow F w w') (setM D n l).1 ∧ Upd w w' F := by
  have H := Aside0.mk h
  have HC := Aside0.mk hC
  have hB := h.hB
  clear h hC
  by_cases hn : n < 0
  · have hq := Lib.hid (show setM D n l = (D, 1) by simp [setM, hn])
    go_enter Tryd.func20, Tryd.ntmps20
    go_wp2
    go_ret
    exact ⟨by rw [hq.out] <;> rfl, by rw [hq.out]; exact ⟨_, _, _, H.out.grow hB⟩, Upd.refl _ _⟩
  · by_cases hl : (l.length : Int) > 4096
    · have hq := Lib.hid (show setM D n l = (D, 2) by simp [setM, hn, hl])
      go_enter Tryd.func20, Tryd.ntmps20
      go_wp2
      go_ret
      exact ⟨by rw [hq.out] <;> rfl, by rw [hq.out]; exact ⟨_, _, _, H.out.grow hB⟩, Upd.refl _ _⟩
    · have hq := Lib.hid (show setM D n l = ({ D with set := true, left := n, choice := l }, 0) by simp [setM, hn, hl])
      have hl2 := Lib.hid hl
      go_enter Tryd.func20, Tryd.ntmps20
      go_wp2_with (first | ((with_reducible refine gate_builtin (b := .append) (xs := #[.const (.slice none 0 0), .tmp 21]) rfl ?_); at_builtin; refine Kd.R_append_rows Kd.bool (Rr := Kd.bool.K w) (w0 := w) B rfl (.const (.slice none 0 0)) (.tmp 21) 47 4 (.bool false) 1 rfl Tryd.underlying47 info4 rfl (by decide) (by omega) (.slice none 0 0) [] l A l.length c (fun k => F k ∨ w.heap.size ≤ k) (fun _ => False) rfl rfl (Kd.R_nil _ _ _ _ _) HC.out (fun _ _ h => h) (fun _ h => h.elim) (fun _ h => .inr h) (Below.refl _ _) hB ?aL ?_; (case aL => have := hl2.out; simp; omega); intro v1 w1 hr1 hb1 hg1 _; simp only [List.nil_append] at hr1; obtain ⟨A1, c1, rfl⟩ := Kd.R_slice hr1; have H1 := Aside0.mk (H.out.below (Below.mono (B := w.heap.size) ⟨hg1.os, hg1.tape, hg1.output, hg1.size, fun k hk => hg1.block k hk (by simp [Value.ownBlock])⟩ (Nat.le_refl _))); have HU1 := Aside0.mk (Upd.of_grown (F := F) hg1 (by simp [Value.ownBlock])); have HR1 := Aside0.mk (R_grow hr1); clear hr1 hb1 hg1; have H1g := Aside0.mk (H1.out.grow hB); have hf := H1.out.free; have h4 := H1.out.c4; have h5 := H1.out.c5; have h6 := H1.out.c6))
      have H2 := H1g.out.putSet true
      have H3 := H2.putLeft n
      have H4 := H3.putChoice (.slice A1 l.length c1) l (R_setBlk (R_setBlk HR1.out H1.out.blk (by simp [Kd.bool, Kd.scalar]) 5 (.bool true)) H2.blk (by simp [Kd.bool, Kd.scalar]) 4 (.int .i64 n))
      have HU := ((HU1.out.trans (H1.out.upd 5 (.bool true)) (fun _ h => .inl h)).setCell (p := ⟨g, 4, none⟩) (.inl H.out.own) (.int .i64 n)).setCell (p := ⟨g, 6, none⟩) (.inl H.out.own) (.slice A1 l.length c1)
      go_ret
      refine ⟨by rw [hq.out] <;> rfl, ?_, HU⟩
      rw [hq.out]
      exact ⟨_, _, _, H4.regrow (by simp [World.setCell])⟩
end
end Go.Proofs.YtmblnflfklmmkaaDoor.Dk
/- Contracts of package disk: Write. -/
namespace Go.Proofs.YtmblnflfklmmkaaDoor.Dk
open Go.RowKit Go.Proofs.YtmblnflfklmmkaaDoorW.PrintWords Go.Proofs.YtmblnflfklmmkaaDoorW.PrintLast Go.Proofs.YtmblnflfklmmkaaDoorW.PrintMore
set_option linter.unusedVariables false
set_option linter.unusedSimpArgs false
set_option maxRecDepth 30000
section
variable {P : Program} {ops : Array Oper} {Q : Exit → Act → World → Prop}
theorem load_ {oi : Oper} {N : Option Tmp} {a : Act} {w : World} {v : Value} {K : Act → World → Prop} (hw : Region.wanted oi (yielded ops a.tmps) = true) (hN : oi.dst = N) (ty : TypeId) (x : Operand) (ho : oi.op = .load ty x) (hrun : (Instr.loadAt ty (a.eval x)).run P w = .ok v w)
    (h : K (a.put N v) w) : if Region.wanted oi (yielded ops a.tmps) = true then Oper.wp P oi a w K Q else K (a.put N undef) w := by
  refine value_ hw hN ?_ h
  unfold execOp
  simp [ho, hrun]
/-- A whole array is read, from wherever it lies. -/
theorem run_loadAt_at {P : Program} {w : World} (ty : TypeId) {d : TypeDesc} (hu : P.underlying ty = some d) (hd : (match d with | .struct _ | .array _ _ => true | _ => false) = true) (ad : Addr) (c : List Value) (hi : (P.info? ty).map (·.size) = some c.length)
    (hc : ∀ j u, c[j]? = some u → w.cell? (ad.add j) = some u) : (Instr.loadAt ty (.pointer (some ad))).run P w = .ok (.agg c.toArray) w := by
  have hl : (loadCells ad c.length).run P w = .ok c.toArray w := run_loadCells_list (P := P) w ad c hc
  obtain ⟨i, hi1, hi2⟩ := Option.map_eq_some_iff.1 hi
  have ha : (isAgg ty).run P w = .ok true w := by
    unfold isAgg
    cases d <;> simp_all [run_underlying hu]
  have hs : (sizeOf ty).run P w = .ok c.length w := by simp [sizeOf, typeInfo, hi1, hi2]
  simp [Instr.loadAt, Instr.sureAddr, loadVar, ha, hs, hl]
end
variable {w : World} {B g : Nat} {F : Nat → Prop} {D : DM} {vs vh vc : Value}
/-- 64 bytes somewhere, read as a whole. -/
theorem load_sector {A : Option Addr} {x : List Int} (h : Kd.C (Kd.int .u8) w A x.length x) (hx : x.length = 64) : ∃ ad, A = some ad ∧ (Instr.loadAt 68 (.pointer (some ad))).run Tryd.prog w = .ok (.agg (nums .u8 x).toArray) w := by
  obtain ⟨h1, h2, h3⟩ := h
  obtain ⟨ad, ha, hc⟩ := h3 (by omega)
  refine ⟨ad, ha, run_loadAt_at 68 Tryd.underlying68 rfl ad _ (by rw [nums_length, hx]; exact size64) (fun j u hu => ?_)⟩
  simp only [nums, List.getElem?_map, Option.map_eq_some_iff] at hu
  obtain ⟨n, hn, rfl⟩ := hu
  obtain ⟨c, hsz, hK, hx1⟩ := hc j n hn
  have := hx1 0 (.int .u8 n) (by rw [hK]; rfl)
  simpa [Kd.int, Kd.scalar] using this
theorem arr64 (a : Option Addr) (c : Nat) (w : World) : (Instr.arrayAt 68 (.slice a 64 c)).run Tryd.prog w = .ok (.pointer a) w := by
  simp [Instr.arrayAt, run_underlying Tryd.underlying68]
attribute [local simp] arr64
theorem fold_all (off : Nat) (l : List Value) (cs : Array Value) (hs : cs.size = off + l.length) :
    (l.toArray.zipIdx.foldl (fun cs (x : Value × Nat) => cs.setIfInBounds (off + x.2) x.1) cs) = (cs.toList.take off ++ l).toArray := by
  have hz : (l.toArray.zipIdx.foldl (fun cs (x : Value × Nat) => cs.setIfInBounds (off + x.2) x.1) cs) = ((l.zipIdx 0).foldl (fun cs (x : Value × Nat) => cs.setIfInBounds (off + x.2) x.1) cs) := by
    rw [← Array.foldl_toList]; simp
  rw [hz]
  obtain ⟨h1, h2⟩ := Great.foldl_set off l 0 cs
  apply Array.ext_getElem?
  intro k
  rw [h2 k]
  by_cases hk : k < off
  · rw [if_neg (by omega)]
    simp [List.getElem?_append, hk, List.getElem?_take]
    omega
  · by_cases hk2 : k < off + l.length
    · rw [if_pos ⟨by omega, by omega, by omega⟩]
      simp [List.getElem?_append]
      rw [if_neg (by omega)]
      congr 1
      omega
    · rw [if_neg (by omega)]
      simp [List.getElem?_append]
      rw [if_neg (by omega), List.getElem?_eq_none (by omega), Array.getElem?_eq_none (by omega)]
theorem built67 (parts : List (Nat × Value)) : Tryd.prog.built 93 parts = Instr.fill ((#[(0, 1), (1, 64)] : Array (Nat × Nat))[·]?) (.int .i64 0 :: List.replicate 64 (.int .u8 0)).toArray parts := by kernel_rfl
theorem build67 (k : Int) (x : List Int) (hx : x.length = 64) (w : World) : (Instr.build 93 #[(0, .int .i64 k), (1, .agg (nums .u8 x).toArray)]).run Tryd.prog w = .ok (.agg (.int .i64 k :: nums .u8 x).toArray) w := by
  refine run_build w 93 _ _ ?_
  rw [built67]
  have hl : (nums .u8 x).length = 64 := by rw [nums_length, hx]
  obtain ⟨Z, hZ, hZl⟩ : ∃ Z : List Value, Z = List.replicate 64 (.int .u8 0) ∧ Z.length = 64 := ⟨_, rfl, rfl⟩
  rw [← hZ]
  clear hZ
  obtain ⟨l, hl'⟩ : ∃ l, l = nums .u8 x := ⟨_, rfl⟩
  rw [← hl'] at hl ⊢
  clear hl'
  have hf := fold_all 1 l (.int .i64 k :: Z).toArray (by simp [hl, hZl])
  simp only [Instr.fill]
  simp [Value.cells, hl, hZl]
  simpa using hf
theorem buildSlice58 (cs : List Value) (hl : cs.length = 65) (w : World) : (Instr.buildSlice 65 1 #[(0, .agg cs.toArray)]).run Tryd.prog w = .ok (.slice (some ⟨w.heap.size, 0, none⟩) 1 1) (w.alloc (.cells cs.toArray 93)) := by
  obtain ⟨ie, hie, hz⟩ := Option.map_eq_some_iff.1 info67'
  injection hz with hz1 hz2
  injection hz2 with hz2 hz3
  refine run_buildSlice w 65 93 1 _ _ ie _ Tryd.underlying65 hie hz1 (by rw [hz2]; decide) (by rw [hz2]; decide) ?_
  rw [hz2]
  have := Great.fill_whole (s := 65) (by decide) [.agg cs.toArray] ((Array.range (1 * 65)).map (fun i => (Value.agg (.int .i64 0 :: List.replicate 64 (.int .u8 0)).toArray).cells[i % (Value.agg (.int .i64 0 :: List.replicate 64 (.int .u8 0)).toArray).cells.size]!)) (by simp [Value.cells, hl]) (by simp)
  simpa [Value.cells] using this
theorem exec_build {P : Program} {ρ : Operand → Value} {o : Oper} {t : TypeId} {parts : Array (Nat × Operand)} {args : Array (Nat × Value)} {v : Value} {w : World} (ho : o.op = .build t parts) (he : parts.map (fun x => (x.1, ρ x.2)) = args) (hrun : (Instr.build t args).run P w = .ok v w) : (execOp ρ o).run P w = .ok (.value v) w := by
  subst he
  unfold execOp
  simp [ho, hrun]
theorem exec_buildSlice {P : Program} {ρ : Operand → Value} {o : Oper} {t : TypeId} {n : Nat} {parts : Array (Nat × Operand)} {args : Array (Nat × Value)} {v : Value} {w w1 : World} (ho : o.op = .buildSlice t n parts) (he : parts.map (fun x => (x.1, ρ x.2)) = args) (hrun : (Instr.buildSlice t n args).run P w = .ok v w1) : (execOp ρ o).run P w = .ok (.value v) w1 := by
  subst he
  unfold execOp
  simp [ho, hrun]
theorem Grow.out {w1 : World} {k : Nat} (h : Grow F w w1 k) : F k ∨ w.heap.size ≤ k := h.imp id (·.1)
theorem DiskAt.grow_to {w1 w2 : World} (h : DiskAt w2 B g (Grow F w w1) D) (hB : B ≤ w.heap.size) (hs : w1.heap.size ≤ w2.heap.size) (hl : ∀ k, F k → B ≤ k ∧ k < w.heap.size) : DiskAt w2 B g (Grow F w w2) D := by
  obtain ⟨a, b, c, h⟩ := h
  refine ⟨a, b, c, h.mono (fun k hk => hk.imp id (fun hk => ⟨hk.1, by omega⟩)) (fun k hk => ?_)⟩
  rcases hk with hk | hk
  · exact h.lt k (.inl hk)
  · exact ⟨by omega, hk.2⟩
def holdM (D : DM) (k : Int) (x : List Int) : DM := { D with held := D.held ++ [(k, x)] }
def writeM (D : DM) (k : Int) (x : List Int) : DM × Int :=
  if atM D k ≠ 0 then (D, atM D k) else if x.length ≠ 64 then (D, 1) else
  if (goesM (holdM D k x)).2 = true then (loseM (goesM (holdM D k x)).1.choice (goesM (holdM D k x)).1, 60) else ((goesM (holdM D k x)).1, 0)
theorem holdM_ok {k : Int} {x : List Int} (h : DOk D) (hk : atM D k = 0) (hn : D.held.length < 10000000) : DOk (holdM D k x) := by
  refine ⟨fun y hy => ?_, h.n1, by simp [holdM]; omega, h.n3, h.l1⟩
  simp only [holdM, List.mem_append, List.mem_singleton] at hy
  rcases hy with hy | rfl
  · exact h.at_ y hy
  · unfold atM at hk
    split at hk
    · omega
    · split at hk
      · omega
      · constructor <;> simp only [holdM] <;> omega
set_option maxHeartbeats 1000000 in
theorem Write_calls (h : DAt w B g F D vs vh vc) (hok : DOk D) (hn : D.held.length < 10000000) (k : Int) (A : Option Addr) (c : Nat) (x : List Int) (hC : Kd.C (Kd.int .u8) w A x.length x) :
    Calls Tryd.prog 53 #[.pointer (some ⟨g, 0, none⟩), .int .i64 k, .slice A x.length c] w fun e w' => e = .returned (.int .i64 (writeM D k x).2) ∧ DiskAt w' B g (Grow F w w') (writeM D k x).1 ∧ Upd w w' F := by
  have H := Aside0.mk h
  have HC := Aside0.mk hC
  have HOK := Aside0.mk hok
  have HN := Aside0.mk hn
  have HB := Aside0.mk h.hB
  obtain ⟨Ah, ch, rfl, hhl, _⟩ := Kd.R_reads h.held
  have h1 := h.c1
  clear h hC hok hn hhl
  by_cases ha : atM D k = 0
  · have HA := Aside0.mk ha
    clear ha
    by_cases h64 : x.length = 64
    · obtain ⟨ad, hA, hlb⟩ := load_sector (Kd.C_below HC.out (below_drew (Below.refl _ _))) h64
      subst hA
      have HLB := Aside0.mk hlb
      have H64 := Aside0.mk h64
      clear hlb
      have HBS := Aside0.mk (show (Instr.buildSlice 65 1 #[(0, .agg (.int .i64 k :: nums .u8 x).toArray)]).run Tryd.prog w.drew = .ok (.slice (some ⟨w.heap.size, 0, none⟩) 1 1) (w.drew.alloc (.cells (.int .i64 k :: nums .u8 x).toArray 93)) from buildSlice58 (.int .i64 k :: nums .u8 x) (by rw [List.length_cons, nums_length, h64]) w.drew)
      have HRH := Aside0.mk (Kd.R_mono (Kd.R_drew H.out.held) (fun _ h => .inl h) (ok' := fun k => F k ∨ w.heap.size ≤ k))
      have H1A := Aside0.mk (H.out.below (below_alloc (below_drew (Below.refl w.heap.size w)) (.cells (.int .i64 k :: nums .u8 x).toArray 93)))
      go_enter Tryd.func53, Tryd.ntmps53
      go_wp2_with (first | (go_at_call 74; refine (at_calls H.out k).mono ?_; rintro e w' ⟨rfl, rfl⟩; rw [HA.out]))
      refine start_ (n := 15) (S := fun w' => w'.cell? ⟨g, 1, none⟩ = some (.slice Ah D.held.length ch)) (ds := [14]) #[false, false, false, false, false, false, false, false, false, false, false, false, false, false, false] (by kernel_rfl) rfl rfl (h1) (fun hHeld => ?_)
      refine pure_ (i := 0) (N := some 17) (v := ?_) (a' := ?_) #[true, false, false, false, false, false, false, false, false, false, false, false, false, false, false] rfl rfl (by kernel_rfl) (fun _ _ _ h => h) (Or.inl ⟨by rfl, ?_⟩) ?_ ?_
      rotate_left
      · intro w'
        go_simp
        with_reducible rfl
      rotate_left
      · simp only [Act.put, List.setIfInBounds_toArray, List.set_cons_zero, List.set_cons_succ, i64_w, i32_w]
        rfl
      refine pure_ (i := 1) (N := some 18) (v := ?_) (a' := ?_) #[true, true, false, false, false, false, false, false, false, false, false, false, false, false, false] rfl rfl (by kernel_rfl) (fun _ _ _ h => h) (Or.inl ⟨by rfl, ?_⟩) ?_ ?_
      rotate_left
      · intro w'
        go_simp
        with_reducible rfl
      rotate_left
      · simp only [Act.put, List.setIfInBounds_toArray, List.set_cons_zero, List.set_cons_succ, i64_w, i32_w]
        rfl
      refine pure_ (i := 2) (N := some 19) (v := ?_) (a' := ?_) #[true, true, true, false, false, false, false, false, false, false, false, false, false, false, false] rfl rfl (by kernel_rfl) (fun _ _ _ h => h) (Or.inl ⟨by rfl, ?_⟩) ?_ ?_
      rotate_left
      · intro w'
        go_simp
        with_reducible rfl
      rotate_left
      · simp only [Act.put, List.setIfInBounds_toArray, List.set_cons_zero, List.set_cons_succ, i64_w, i32_w]
        rfl
      refine pure_ (i := 3) (N := some 20) (v := ?_) (a' := ?_) #[true, true, true, true, false, false, false, false, false, false, false, false, false, false, false] rfl rfl (by kernel_rfl) (fun _ _ _ h => h) (Or.inl ⟨by rfl, ?_⟩) ?_ ?_
      rotate_left
      · intro w'
        go_simp
        with_reducible rfl
      rotate_left
      · simp only [Act.put, List.setIfInBounds_toArray, List.set_cons_zero, List.set_cons_succ, i64_w, i32_w]
        rfl
      refine pure_ (i := 5) (N := some 22) (v := ?_) (a' := ?_) #[true, true, true, true, false, true, false, false, false, false, false, false, false, false, false] rfl rfl (by kernel_rfl) (fun _ _ _ h => h) (Or.inl ⟨by rfl, ?_⟩) ?_ ?_
      rotate_left
      · intro w'
        go_simp
        with_reducible rfl
      rotate_left
      · simp only [Act.put, List.setIfInBounds_toArray, List.set_cons_zero, List.set_cons_succ, i64_w, i32_w]
        rfl
      refine pure_ (i := 6) (N := some 23) (v := ?_) (a' := ?_) #[true, true, true, true, false, true, true, false, false, false, false, false, false, false, false] rfl rfl (by kernel_rfl) (fun _ _ _ h => h) (Or.inl ⟨by rfl, ?_⟩) ?_ ?_
      rotate_left
      · intro w'
        go_simp
        with_reducible rfl
      rotate_left
      · simp only [Act.put, List.setIfInBounds_toArray, List.set_cons_zero, List.set_cons_succ, i64_w, i32_w]
        rfl
      refine pure_ (i := 7) (N := some 24) (v := ?_) (a' := ?_) #[true, true, true, true, false, true, true, true, false, false, false, false, false, false, false] rfl rfl (by kernel_rfl) (fun _ _ _ h => h) (Or.inl ⟨by rfl, ?_⟩) ?_ ?_
      rotate_left
      · intro w'
        go_simp
        with_reducible rfl
      rotate_left
      · simp only [Act.put, List.setIfInBounds_toArray, List.set_cons_zero, List.set_cons_succ, i64_w, i32_w]
        rfl
      refine take_ (i := 4) (N := some 21) (v := ?_) (a' := ?_) #[true, true, true, true, true, true, true, true, false, false, false, false, false, false, false] rfl rfl (by kernel_rfl) (fun _ _ _ h => h) (Or.inl ⟨by rfl, ?_⟩) hHeld ?_ ?_
      rotate_left
      · intro w' s0
        go_simp
        with_reducible rfl
      rotate_left
      · simp only [Act.put, List.setIfInBounds_toArray, List.set_cons_zero, List.set_cons_succ, i64_w, i32_w]
        rfl
      refine one_ (i := 8) (N := some 25) #[true, true, true, true, true, true, true, true, true, false, false, false, false, false, false] rfl rfl (by kernel_rfl) (by decide) (fun K hK => ?_)
      refine load_ (by rfl) rfl 68 (.tmp 24) rfl HLB.out ?_
      refine hK.out _ _ (h1) (fun hHeld => ?_)
      clear hK K
      refine norm_ (a' := ?_) ?_ ?_
      rotate_left
      · show Act.put _ (some 25) _ = _
        simp only [Act.put, List.setIfInBounds_toArray, List.set_cons_zero, List.set_cons_succ, i64_w, i32_w]
        rfl
      refine pure_ (i := 9) (N := some 26) (v := .agg (.int .i64 k :: nums .u8 x).toArray) (a' := ?_) #[true, true, true, true, true, true, true, true, true, true, false, false, false, false, false] rfl rfl (by kernel_rfl) (fun _ _ _ h => h) (Or.inl ⟨by rfl, ?_⟩) ?_ ?_
      · intro w'
        exact exec_build (args := #[(0, .int .i64 k), (1, .agg (nums .u8 x).toArray)]) rfl (by kernel_rfl) (build67 k x H64.out w')
      rotate_left
      · simp only [Act.put, List.setIfInBounds_toArray, List.set_cons_zero, List.set_cons_succ, i64_w, i32_w]
        rfl
      refine one_ (i := 10) (N := some 27) #[true, true, true, true, true, true, true, true, true, true, true, false, false, false, false] rfl rfl (by kernel_rfl) (by decide) (fun K hK => ?_)
      refine value_ (w1 := w.drew.alloc (.cells (.int .i64 k :: nums .u8 x).toArray 93)) (v := .slice (some ⟨w.heap.size, 0, none⟩) 1 1) (by rfl) rfl ?hbs ?_
      case hbs =>
        refine exec_buildSlice (t := 65) (n := 1) (parts := #[(0, .tmp 26)]) (args := #[(0, .agg (.int .i64 k :: nums .u8 x).toArray)]) ?ho ?he ?hr
        case ho => rfl
        case he => kernel_rfl
        case hr => exact HBS.out
      refine hK.out _ _ ((H1A.out.c1)) (fun hHeld => ?_)
      clear hK K
      refine norm_ (a' := ?_) ?_ ?_
      rotate_left
      · show Act.put _ (some 27) _ = _
        simp only [Act.put, List.setIfInBounds_toArray, List.set_cons_zero, List.set_cons_succ, i64_w, i32_w]
        rfl
      refine one_ (i := 11) (N := some 28) #[true, true, true, true, true, true, true, true, true, true, true, true, false, false, false] rfl rfl (by kernel_rfl) (by decide) (fun K hK => ?_)
      refine Kd.R_append_step kHeld (w0 := w) (W := w.drew) B (by rfl) (.tmp 21) (.tmp 27) 65 93 (.agg (.int .i64 0 :: List.replicate 64 (.int .u8 0)).toArray) 72 rfl Tryd.underlying65 info67' rfl (by decide) (by decide) (.slice Ah D.held.length ch) D.held (k, x) (.int .i64 k :: nums .u8 x) (fun k => F k ∨ w.heap.size ≤ k) (fun _ => False) rfl rfl ⟨rfl, H64.out⟩ (fun _ h => h.elim) (fun _ h => .inr h) HRH.out (below_drew (Below.mono (Below.refl _ _) HB.out)) HB.out (by have := HN.out; omega) ?_
      intro v1 w1 hr1 hb1 hg1d _
      have hg1 : w.grownBy w1 (Value.slice Ah D.held.length ch).ownBlock := ⟨hg1d.os, hg1d.tape, hg1d.output, hg1d.size, hg1d.block⟩
      obtain ⟨A1, c1, rfl⟩ := Kd.R_slice hr1
      have HR1 := Aside0.mk (R_grow hr1)
      have HG1 := Aside0.mk hg1
      have hb1k := blk_other H.out.blk H.out.held (by decide) hg1
      have h1b : w1.cell? ⟨g, 1, none⟩ = some (.slice Ah D.held.length ch) := by simp [World.cell?, hb1k]
      have hf1 : ∀ j, w1.frozen? ⟨g, j, none⟩ = false := fun j => by simp [World.frozen?, hb1k]
      have HBK := Aside0.mk hb1k
      clear hr1 hb1 hg1d hg1 hb1k
      refine hK.out _ _ ((h1b)) (fun hHeld => ?_)
      clear hK K
      refine norm_ (a' := ?_) ?_ ?_
      rotate_left
      · show Act.put _ (some 28) _ = _
        simp only [Act.put, List.setIfInBounds_toArray, List.set_cons_zero, List.set_cons_succ, i64_w, i32_w]
        rfl
      refine pure_ (i := 12) (N := some 29) (v := ?_) (a' := ?_) #[true, true, true, true, true, true, true, true, true, true, true, true, true, false, false] rfl rfl (by kernel_rfl) (fun _ _ _ h => h) (Or.inl ⟨by rfl, ?_⟩) ?_ ?_
      rotate_left
      · intro w'
        go_simp
        with_reducible rfl
      rotate_left
      · simp only [Act.put, List.setIfInBounds_toArray, List.set_cons_zero, List.set_cons_succ, i64_w, i32_w]
        rfl
      refine pure_ (i := 13) (N := some 30) (v := ?_) (a' := ?_) #[true, true, true, true, true, true, true, true, true, true, true, true, true, true, false] rfl rfl (by kernel_rfl) (fun _ _ _ h => h) (Or.inl ⟨by rfl, ?_⟩) ?_ ?_
      rotate_left
      · intro w'
        go_simp
        with_reducible rfl
      rotate_left
      · simp only [Act.put, List.setIfInBounds_toArray, List.set_cons_zero, List.set_cons_succ, i64_w, i32_w]
        rfl
      refine last_ (i := 14) (N := none) #[true, true, true, true, true, true, true, true, true, true, true, true, true, true, true] rfl rfl (by kernel_rfl) (by decide) (fun K hK => ?_)
      refine skip_ (w1 := ?_) (by rfl) rfl ?_ ?_
      rotate_left
      · go_simp
        rfl
      refine hK.out _ _ ?_
      clear hK K
      refine done_ (by kernel_rfl) ?_

      have H2 := Aside0.mk (DAt.mk_put (F := Grow F w w1) (D := D) HBK.out 1 (.slice A1 (D.held ++ [(k, x)]).length c1) (holdM D k x) vs (.slice A1 (D.held ++ [(k, x)]).length c1) vc rfl (Kd.R_mono (R_other H.out.sec H.out.held rfl (by decide) HG1.out) (fun _ h => .inl h)) HR1.out (Kd.R_mono (R_other H.out.choice H.out.held rfl (by decide) HG1.out) (fun _ h => .inl h)) (.inl H.out.own) (fun k hk => by
        rcases hk with hk | hk
        · exact ⟨(H.out.lt k hk).1, Nat.lt_of_lt_of_le (H.out.lt k hk).2 HG1.out.size⟩
        · exact ⟨by have := HB.out; omega, hk.2⟩))
      have HU2 := Aside0.mk ((Upd.of_row H.out.held HG1.out).setCell (p := ⟨g, 1, none⟩) (.inl H.out.own) (.slice A1 (D.held ++ [(k, x)]).length c1))
      rw [show (D.held ++ [(k, x)]).length = D.held.length + 1 by simp] at H2 HU2
      have HOK2 := Aside0.mk (holdM_ok (x := x) HOK.out HA.out HN.out)
      clear hf1 h1b HBK HR1
      cases hg : (goesM (holdM D k x)).2 with
      | true =>
        have hq := Lib.hid (show writeM D k x = (loseM (goesM (holdM D k x)).1.choice (goesM (holdM D k x)).1, 60) by simp [writeM, HA.out, H64.out, hg])
        have hg' := Lib.hid hg
        clear hg
        go_wp2_with (first | (go_at_call 37; refine (goes_calls H2.out HOK2.out.l1).mono ?_; rintro e w3 ⟨rfl, h3, hu3⟩; rw [hg'.out]; obtain ⟨Ac, cc, rfl, hlc, _⟩ := Kd.R_reads h3.choice; have H3 := Aside0.mk h3; have HU3 := Aside0.mk hu3; have HLC := Aside0.mk hlc; have hc6 := h3.c6; clear h3 hu3 hlc) | (go_at_call 22; refine (Lose_calls H3.out (goesM_ok HOK2.out) Ac cc _ HLC.out (own_choice H3.out)).mono ?_; rintro e w4 ⟨rfl, h4, hu4⟩; have H4 := Aside0.mk h4; have HU4 := Aside0.mk hu4; clear h4 hu4))
        go_ret
        refine ⟨by rw [hq.out] <;> rfl, ?_, (HU2.out.trans HU3.out (fun _ => Grow.out)).trans HU4.out (fun _ => Grow.out)⟩
        rw [hq.out]
        exact H4.out.grow_to HB.out (Nat.le_trans (Nat.le_of_eq (by simp [World.setCell])) (Nat.le_trans HU3.out.size HU4.out.size)) H.out.lt
      | false =>
        have hq := Lib.hid (show writeM D k x = ((goesM (holdM D k x)).1, 0) by simp [writeM, HA.out, H64.out, hg])
        have hg' := Lib.hid hg
        clear hg
        go_wp2_with (first | (go_at_call 37; refine (goes_calls H2.out HOK2.out.l1).mono ?_; rintro e w3 ⟨rfl, h3, hu3⟩; rw [hg'.out]; have H3 := Aside0.mk h3; have HU3 := Aside0.mk hu3; clear h3 hu3))
        go_ret
        refine ⟨by rw [hq.out] <;> rfl, ?_, HU2.out.trans HU3.out (fun _ => Grow.out)⟩
        rw [hq.out]
        exact DiskAt.grow_to ⟨_, _, _, H3.out⟩ HB.out (Nat.le_trans (Nat.le_of_eq (by simp [World.setCell])) HU3.out.size) H.out.lt
    · have hq := Lib.hid (show writeM D k x = (D, 1) by simp [writeM, HA.out, h64])
      have t64 : decide ((x.length : Int) = 64) = false := by simp; omega
      go_enter Tryd.func53, Tryd.ntmps53
      go_wp2_with (first | (go_at_call 74; refine (at_calls H.out k).mono ?_; rintro e w' ⟨rfl, rfl⟩; rw [HA.out]))
      go_ret
      exact ⟨by rw [hq.out] <;> rfl, by rw [hq.out]; exact ⟨_, _, _, H.out.grow HB.out⟩, Upd.refl _ _⟩
  · have hq := Lib.hid (show writeM D k x = (D, atM D k) by simp [writeM, ha])
    obtain ⟨q, hq0⟩ : ∃ q, atM D k = q := ⟨_, rfl⟩
    have HA := Lib.hid hq0
    rw [hq0] at ha
    clear hq0
    go_enter Tryd.func53, Tryd.ntmps53
    go_wp2_with (first | (go_at_call 74; refine (at_calls H.out k).mono ?_; rintro e w' ⟨rfl, rfl⟩; rw [HA.out]))
    go_ret
    exact ⟨by rw [hq.out, HA.out] <;> rfl, by rw [hq.out]; exact ⟨_, _, _, H.out.grow HB.out⟩, Upd.refl _ _⟩
theorem writeM_ok {k : Int} {x : List Int} (h : DOk D) (hn : D.held.length < 10000000) : DOk (writeM D k x).1 := by
  unfold writeM
  split
  · exact h
  · rename_i ha
    split
    · exact h
    · have := goesM_ok (holdM_ok (x := x) h (by simpa using ha) hn)
      split
      · exact loseM_ok _ this
      · exact this
end Go.Proofs.YtmblnflfklmmkaaDoor.Dk
/- Contracts of package disk: Read. -/
namespace Go.Proofs.YtmblnflfklmmkaaDoor.Dk
open Go.RowKit Go.Proofs.YtmblnflfklmmkaaDoorW.PrintWords Go.Proofs.YtmblnflfklmmkaaDoorW.PrintLast Go.Proofs.YtmblnflfklmmkaaDoorW.PrintMore
set_option linter.unusedVariables false
set_option linter.unusedSimpArgs false
set_option maxRecDepth 30000
def zs64 : Array Value := (List.replicate 64 (.int .u8 0)).toArray
def zs67 : Array Value := (.int .i64 0 :: List.replicate 64 (.int .u8 0)).toArray
theorem run_alloc64 (w : World) : (Instr.alloc 68 true (.tuple #[])).run Tryd.prog w = .ok (.pointer (some ⟨w.heap.size, 0, none⟩)) (w.alloc (.cells zs64 68)) := by kernel_rfl
theorem run_alloc67 (w : World) : (Instr.alloc 93 true (.tuple #[])).run Tryd.prog w = .ok (.pointer (some ⟨w.heap.size, 0, none⟩)) (w.alloc (.cells zs67 93)) := by kernel_rfl
theorem zs64_size : zs64.size = 64 := by simp [zs64]
theorem zs67_size : zs67.size = 65 := by simp [zs67]
attribute [irreducible] zs64 zs67
theorem nums_one (x : List Int) : ((nums .u8 x).toArray : Array Value).all (·.oneCell') = true := by
  simp [nums, List.all_eq_true]
  intro a _
  rfl
section
variable {P : Program} {ops : Array Oper} {o : Oper} {rest : List Oper} {a : Act} {w w1 : World} {Q : Exit → Act → World → Prop}
theorem wpList_alloc {e : TypeId} (hg : o.guard = none) (ho : o.op = .alloc e) (dst : Option Tmp) (hdst : o.dst = dst) (cs : Array Value) (hrun : (Instr.alloc e true (.tuple #[])).run P w = .ok (.pointer (some ⟨w.heap.size, 0, none⟩)) (w.alloc (.cells cs e)))
    (h : wpList P ops Q rest (a.put dst (.pointer (some ⟨w.heap.size, 0, none⟩))) (w.alloc (.cells cs e))) : wpList P ops Q (o :: rest) a w := by
  refine wpList_plain hg fun K hK => ?_
  have he : (execOp a.eval o).run P w = .ok (.value (.pointer (some ⟨w.heap.size, 0, none⟩))) (w.alloc (.cells cs e)) := by
    unfold execOp
    simp [ho, hrun]
  unfold Oper.wp
  rw [he, Oper.upon_value, hdst]
  exact hK _ _ h
/-- The same two, the operation seen first, the operands' values behind. -/
theorem load_at {ty : TypeId} {p v : Value} (x : Operand) (hgd : o.guard = none) (ho : o.op = .load ty x) (hrun : (Instr.loadAt ty p).run P w = .ok v w) (hx : a.eval x = p)
    (h : wpList P ops Q rest (a.put o.dst v) w) : wpList P ops Q (o :: rest) a w := wpList_load hgd ty x ho v (by rw [hx]; exact hrun) h
theorem store_at {ty : TypeId} {p v : Value} (x y : Operand) (hgd : o.guard = none) (hN : o.dst = none) (ho : o.op = .store ty x y) (hrun : (Instr.storeAt ty p v).run P w = .ok () w1) (hx : a.eval x = p) (hy : a.eval y = v)
    (h : wpList P ops Q rest a w1) : wpList P ops Q (o :: rest) a w := wpList_store hN hgd ty x y ho (by rw [hx, hy]; exact hrun) h
end
/-- A whole block is written. -/
theorem run_store_block {P : Program} {w : World} (g : Nat) (ty : TypeId) (old cells : Array Value) (e : TypeId) (hg : w.heap[g]? = some (.cells old e (0, 0))) (hi : (P.info? ty).map (·.size) = some cells.size) (ho : old.size = cells.size) (h1 : cells.all (·.oneCell') = true) :
    (Instr.storeAt ty (.pointer (some ⟨g, 0, none⟩)) (.agg cells)).run P w = .ok () (w.setRow g cells) := by
  simp only [Instr.storeAt, Instr.sureAddr, Sem.run_bind, Sem.run_pure, Result.andThen, run_storeVar_row w g e ty old cells hg hi ho h1]
theorem upd_setRow (w : World) (g : Nat) (cells : Array Value) : Upd w (w.setRow g cells) (· = g) := ⟨rfl, rfl, rfl, by simp, fun k _ hk => setRow_other w g k cells hk⟩
theorem below_setR {w W : World} (h : Below w.heap.size w W) (cs : Array Value) : Below w.heap.size w (W.setRow w.heap.size cs) := ⟨h.os, h.tape, h.output, by rw [setRow_size]; exact h.size, fun i hi => (setRow_other _ _ _ _ (Nat.ne_of_lt hi)).trans (h.block i hi)⟩
variable {w : World} {B g : Nat} {F : Nat → Prop} {D : DM} {vs vh vc : Value}
/-- A sector out of the sectors' row. -/
theorem sec_load {As : Option Addr} {cs : Nat} {L : List (List Int)} (h : Kd.R kSec 68 w B F (.slice As L.length cs) L) (i : Nat) (hi : i < L.length) : ∃ gs, As = some ⟨gs, 0, none⟩ ∧ (L.getD i []).length = 64 ∧
    (Instr.loadAt 68 (.pointer (some ⟨gs, i * 64, none⟩))).run Tryd.prog w = .ok (.agg (nums .u8 (L.getD i [])).toArray) w := by
  rcases R_cases h with ⟨_, hz⟩ | ⟨gs, cap, es, hgs⟩
  · rw [hz] at hi; exact absurd hi (Nat.not_lt_zero _)
  injection es with e1 e2 e3
  subst e1
  obtain ⟨ad, c, e, hsz, hK, hx⟩ := Kd.C_get (Kd.R_reads' h).2.2 [] (i : Int) (by omega) (by show (i : Int) < (L.length : Int); omega)
  injection e with e
  subst e
  rw [Int.toNat_natCast] at hK
  obtain ⟨hK, h64⟩ := hK
  refine ⟨gs, rfl, h64, run_loadAt_cells 68 Tryd.underlying68 rfl gs (i * 64) _ (by rw [nums_length, h64]; exact size64) (fun j u hu => ?_)⟩
  have := hx j u (by rw [hK]; exact hu)
  have e : (⟨gs, 0, none⟩ : Addr).add ((i : Int).toNat * kSec.sz + j) = ⟨gs, i * 64 + j, none⟩ := by rw [add0]; simp [kSec]
  rwa [e] at this
/-- A held write out of the row of the held ones. -/
theorem held_load {Ah : Option Addr} {ch : Nat} {L : List (Int × List Int)} (h : Kd.R kHeld 93 w B F (.slice Ah L.length ch) L) (i : Nat) (hi : i < L.length) : ∃ gh, Ah = some ⟨gh, 0, none⟩ ∧ (L.getD i (0, [])).2.length = 64 ∧
    (Instr.loadAt 93 (.pointer (some ⟨gh, i * 65, none⟩))).run Tryd.prog w = .ok (.agg (.int .i64 (L.getD i (0, [])).1 :: nums .u8 (L.getD i (0, [])).2).toArray) w := by
  rcases R_cases h with ⟨_, hz⟩ | ⟨gs, cap, es, hgs⟩
  · rw [hz] at hi; exact absurd hi (Nat.not_lt_zero _)
  injection es with e1 e2 e3
  subst e1
  obtain ⟨ad, c, e, hsz, hK, hx⟩ := Kd.C_get (Kd.R_reads' h).2.2 (0, []) (i : Int) (by omega) (by show (i : Int) < (L.length : Int); omega)
  injection e with e
  subst e
  rw [Int.toNat_natCast] at hK
  obtain ⟨hK, h64⟩ := hK
  refine ⟨gs, rfl, h64, run_loadAt_cells 93 Tryd.underlying93 rfl gs (i * 65) _ (by rw [List.length_cons, nums_length, h64]; exact size67) (fun j u hu => ?_)⟩
  have := hx j u (by rw [hK]; exact hu)
  have e : (⟨gs, 0, none⟩ : Addr).add ((i : Int).toNat * kHeld.sz + j) = ⟨gs, i * 65 + j, none⟩ := by rw [add0]; simp [kHeld]
  rwa [e] at this
/-- What a read of sector k tells, the first n held writes seen. -/
def readTo (k : Int) (held : List (Int × List Int)) (s : List Int) : Nat → List Int
  | 0 => s
  | n + 1 => if (held.getD n (0, [])).1 = k then (held.getD n (0, [])).2 else readTo k held s n
theorem readTo_length {k : Int} {held : List (Int × List Int)} {s : List Int} (hs : s.length = 64) (hh : ∀ i, i < held.length → (held.getD i (0, [])).2.length = 64) : ∀ n, n ≤ held.length → (readTo k held s n).length = 64
  | 0, _ => hs
  | n + 1, hn => by
    unfold readTo
    split
    · exact hh n (by omega)
    · exact readTo_length hs hh n (by omega)
def readM (D : DM) (k : Int) : List Int := readTo k D.held (D.sec.getD k.toNat []) D.held.length
set_option maxHeartbeats 8000000 in
theorem Read_calls (h : DAt w B g F D vs vh vc) (hok : DOk D) (k : Int) (hk : atM D k = 0) :
    Calls Tryd.prog 56 #[.pointer (some ⟨g, 0, none⟩), .int .i64 k] w fun e w' => e = .returned (.tuple #[.slice (some ⟨w.heap.size, 0, none⟩) 64 64, .int .i64 0]) ∧ (readM D k).length = 64 ∧ w'.heap[w.heap.size]? = some (.cells (nums .u8 (readM D k)).toArray 68 (0, 0)) ∧ Below w.heap.size w w' := by
  have H := Aside0.mk h
  have HOK := Aside0.mk hok
  have HA := Aside0.mk hk
  obtain ⟨As, cs, rfl, hsl, _⟩ := Kd.R_reads h.sec
  obtain ⟨Ah, ch, rfl, hhl, _⟩ := Kd.R_reads h.held
  have hkb : 0 ≤ k ∧ k < (D.sec.length : Int) := by
    unfold atM at hk
    split at hk
    · omega
    · split at hk
      · omega
      · omega
  obtain ⟨k0, rfl⟩ : ∃ n : Nat, k = n := ⟨k.toNat, by omega⟩
  have hk1 : k0 < D.sec.length := by omega
  obtain ⟨gs, rfl, hs64, hls⟩ := sec_load h.sec k0 hk1
  obtain ⟨s0, hs0⟩ : ∃ s0, s0 = D.sec.getD k0 [] := ⟨_, rfl⟩
  rw [← hs0] at hls hs64
  have h0 := h.c0
  have h1 := h.c1
  have HLS := Aside0.mk hls
  have HS64 := Aside0.mk hs64
  have HS0 := Aside0.mk hs0
  have HST := Aside0.mk (run_storeAt_new (P := Tryd.prog) w 68 zs64 (nums .u8 s0).toArray (by simp only [List.size_toArray, nums_length, hs64]; exact size64) (by simp [zs64_size, nums_length, hs64]) (nums_one s0))
  have hb1 := Below.refl w.heap.size w
  have HB1 := Aside0.mk (below_alloc (Below.refl w.heap.size w) (.cells (nums .u8 s0).toArray 68))
  have hB1 := HB1.out
  have h11 : (w.alloc (.cells (nums .u8 s0).toArray 68)).cell? ⟨g, 1, none⟩ = some (.slice Ah D.held.length ch) := (H.out.below HB1.out).c1
  clear hB1 hb1
  clear h hok hk hls hs64 hs0 hkb
  go_enter Tryd.func56, Tryd.ntmps56
  go_wp2_with (first | (go_at_call 74; refine (at_calls H.out k0).mono ?_; rintro e w' ⟨rfl, rfl⟩; rw [HA.out]) | (refine load_at (ty := 68) (.tmp 21) rfl rfl HLS.out rfl ?_) | (refine wpList_alloc rfl rfl _ rfl zs64 (run_alloc64 _) ?_) | (refine store_at (ty := 68) (.tmp 7) (.tmp 22) rfl rfl rfl HST.out rfl rfl ?_))
  go_loopw [9, 28] (fun v9 v28 w' => ∃ i : Nat, v28 = .int .i64 i ∧ i ≤ D.held.length ∧ Aside0 (w'.heap[w.heap.size]? = some (.cells (nums .u8 (readTo k0 D.held s0 i)).toArray 68 (0, 0))) ∧ Aside0 (Below w.heap.size w w')) (fun _ v28 _ => D.held.length - (intOf v28).toNat)
  case atStart => exact ⟨0, rfl, Nat.zero_le _, ⟨heap_alloc_new w _⟩, HB1⟩
  case round =>
    obtain ⟨i, rfl, hi, HG, HV⟩ := hrel
    clear h0 h1 h11
    have hn2 := HOK.out.n2
    by_cases hlt : i < D.held.length
    · have HD := Aside0.mk (H.out.below HV.out)
      obtain ⟨gh, hAh, h64, hll⟩ := held_load HD.out.held i hlt
      obtain ⟨a, b, hab⟩ : ∃ a b, D.held.getD i (0, []) = (a, b) := ⟨_, _, rfl⟩
      rw [hab] at h64 hll
      dsimp only at h64 hll
      subst hAh
      have HLL := Aside0.mk hll
      have HST2 := Aside0.mk (run_storeAt_new (P := Tryd.prog) wr 93 zs67 (.int .i64 a :: nums .u8 b).toArray (by simp only [List.size_toArray, List.length_cons, nums_length, h64]; exact size67) (by simp [zs67_size, nums_length, h64]) (by simp [nums, List.all_eq_true]; exact ⟨rfl, fun _ _ => rfl⟩))
      have hW := heap_alloc_new wr (.cells (.int .i64 a :: nums .u8 b).toArray 93)
      have hca : (wr.alloc (.cells (.int .i64 a :: nums .u8 b).toArray 93)).cell? ⟨wr.heap.size, 0, none⟩ = some (.int .i64 a) := by rw [cell_of_row _ _ 0 _ _ _ hW]; rfl
      have HBW := Aside0.mk (below_alloc HV.out (.cells (.int .i64 a :: nums .u8 b).toArray 93))
      have hg7 : (wr.alloc (.cells (.int .i64 a :: nums .u8 b).toArray 93)).heap[w.heap.size]? = some (.cells (nums .u8 (readTo k0 D.held s0 i)).toArray 68 (0, 0)) := ((below_alloc (Below.refl wr.heap.size wr) (.cells (.int .i64 a :: nums .u8 b).toArray 93)).block _ (blk_lt HG.out)).trans HG.out
      have HG7 := Aside0.mk hg7
      have HLB := Aside0.mk (run_loadAt_cells (P := Tryd.prog) (w := wr.alloc (.cells (.int .i64 a :: nums .u8 b).toArray 93)) 68 Tryd.underlying68 rfl wr.heap.size 1 (nums .u8 b) (by rw [nums_length, h64]; exact size64) (fun j u hu => by rw [cell_of_row _ _ (1 + j) _ _ _ hW, Nat.add_comm]; simpa using hu))
      have hlr := readTo_length (k := k0) HS64.out (fun j hj => (held_load HD.out.held j hj).elim fun _ h => h.2.1) i (Nat.le_of_lt hlt)
      have HST7 := Aside0.mk (run_store_block (P := Tryd.prog) w.heap.size 68 _ (nums .u8 b).toArray 68 hg7 (by simp only [List.size_toArray, nums_length, h64]; exact size64) (by simp [nums_length, h64, hlr]) (nums_one b))
      have HSR := Aside0.mk (setRow_heap _ _ _ (nums .u8 b).toArray _ _ hg7)
      have HBR := Aside0.mk (below_setR HBW.out (nums .u8 b).toArray)
      clear hll hg7 hlr h64 hW
      by_cases hak : a = (k0 : Int)
      · have HP := Aside0.mk (show readTo k0 D.held s0 (i + 1) = b by rw [readTo, hab]; exact if_pos hak)
        subst hak
        clear hab
        go_wp2_with (first | (refine load_at (ty := 93) (.tmp 30) rfl rfl HLL.out rfl ?_) | (refine load_at (ty := 68) (.tmp 36) rfl rfl HLB.out rfl ?_) | (refine wpList_alloc rfl rfl _ rfl zs67 (run_alloc67 _) ?_) | (refine store_at (ty := 93) (.tmp 9) (.tmp 31) rfl rfl rfl HST2.out rfl rfl ?_) | (refine store_at (ty := 68) (.tmp 7) (.tmp 37) rfl rfl rfl HST7.out rfl rfl ?_))
        go_roundw
        case rel => exact ⟨i + 1, by go_num, by omega, ⟨by rw [HP.out]; exact HSR.out⟩, HBR⟩
        case measure => simp [intOf]; omega
      · have HP := Aside0.mk (show readTo k0 D.held s0 (i + 1) = readTo k0 D.held s0 i by rw [readTo, hab]; exact if_neg hak)
        have tak : decide (a = (k0 : Int)) = false := decide_eq_false hak
        clear hab
        go_wp2_with (first | (refine load_at (ty := 93) (.tmp 30) rfl rfl HLL.out rfl ?_) | (refine wpList_alloc rfl rfl _ rfl zs67 (run_alloc67 _) ?_) | (refine store_at (ty := 93) (.tmp 9) (.tmp 31) rfl rfl rfl HST2.out rfl rfl ?_))
        go_roundw
        case rel => exact ⟨i + 1, by go_num, by omega, ⟨by rw [HP.out]; exact HG7.out⟩, HBW⟩
        case measure => simp [intOf]; omega
    · obtain rfl : i = D.held.length := by omega
      have HR := Aside0.mk (show readM D k0 = readTo k0 D.held s0 D.held.length by simp [readM, HS0.out])
      have hlr := readTo_length (k := k0) HS64.out (fun j hj => (held_load (H.out.below HV.out).held j hj).elim fun _ h => h.2.1) D.held.length (Nat.le_refl _)
      have HLR := Aside0.mk hlr
      clear hlr
      go_wp2
      refine bodyPost_ret (results_tmp2 rfl _ _ _) rfl ?_
      exact ⟨rfl, by rw [HR.out]; exact HLR.out, by rw [HR.out]; exact HG.out, HV.out⟩
end Go.Proofs.YtmblnflfklmmkaaDoor.Dk
/- Contracts of package sha2: narrow, wide, of, block, turn, small, big. -/
namespace Go.Proofs.YtmblnflfklmmkaaDoor.Sh
open Go.Proofs.YtmblnflfklmmkaaDoor.Dk
open Go.RowKit Go.Proofs.YtmblnflfklmmkaaDoorW.PrintWords Go.Proofs.YtmblnflfklmmkaaDoorW.PrintLast Go.Proofs.YtmblnflfklmmkaaDoorW.PrintMore
set_option linter.unusedVariables false
set_option linter.unusedSimpArgs false
set_option maxRecDepth 30000
/-- The shapes' cells. -/
def narrowA : Array Value := #[.int .i64 4, .int .i64 32, .int .i64 64, .int .i64 7, .int .i64 18, .int .i64 3, .int .i64 17, .int .i64 19, .int .i64 10, .int .i64 2, .int .i64 13, .int .i64 22, .int .i64 6, .int .i64 11, .int .i64 25]
def narrowV : Value := .agg narrowA
def wideA : Array Value := #[.int .i64 8, .int .i64 64, .int .i64 80, .int .i64 1, .int .i64 8, .int .i64 7, .int .i64 19, .int .i64 61, .int .i64 6, .int .i64 28, .int .i64 34, .int .i64 39, .int .i64 14, .int .i64 18, .int .i64 41]
def wideV : Value := .agg wideA
theorem narrowA_one : narrowA.all (·.oneCell') = true := by kernel_rfl
theorem info120 : (Tryd.prog.info? 120).map (·.size) = some narrowA.size := by kernel_rfl
def zeros15 : Array Value := (List.replicate 15 (.int .i64 0)).toArray
theorem run_alloc120 (w : World) : (Instr.alloc 120 true (.tuple #[])).run Tryd.prog w = .ok (.pointer (some ⟨w.heap.size, 0, none⟩)) (w.alloc (.cells zeros15 120)) := by kernel_rfl
theorem narrow_calls (w : World) : Calls Tryd.prog 88 #[] w fun e w' => e = .returned narrowV ∧ Below w.heap.size w w' := by
  have hb := Below.refl w.heap.size w
  go_enter Tryd.func88, Tryd.ntmps88
  go_wp2
  refine bodyPost_ret (results_cell_row rfl _ _ _ _ _ _ _ rfl (heap_alloc_new _ _) Tryd.underlying120 rfl (by kernel_rfl)) rfl ?_
  exact ⟨rfl, below_alloc hb _⟩
theorem wide_calls (w : World) : Calls Tryd.prog 89 #[] w fun e w' => e = .returned wideV ∧ Below w.heap.size w w' := by
  have hb := Below.refl w.heap.size w
  go_enter Tryd.func89, Tryd.ntmps89
  go_wp2
  refine bodyPost_ret (results_cell_row rfl _ _ _ _ _ _ _ rfl (heap_alloc_new _ _) Tryd.underlying120 rfl (by kernel_rfl)) rfl ?_
  exact ⟨rfl, below_alloc hb _⟩
theorem block_calls (w : World) : Calls Tryd.prog 92 #[narrowV] w fun e w' => e = .returned (.int .i64 64) ∧ Below w.heap.size w w' := by
  have hb := Below.refl w.heap.size w
  unfold narrowV narrowA
  go_enter Tryd.func92, Tryd.ntmps92
  go_wp2
  go_ret
  exact ⟨rfl, below_alloc hb _⟩
theorem zeros15_size : zeros15.size = 15 := by simp [zeros15]
attribute [irreducible] zeros15
theorem of_calls (w : World) : Calls Tryd.prog 77 #[.int .i64 256] w fun e w' => e = .returned (.tuple #[narrowV, .bool true]) ∧ Below w.heap.size w w' := by
  have hb := Below.refl w.heap.size w
  go_enter Tryd.func77, Tryd.ntmps77
  go_wp2_with (first | (refine wpList_alloc rfl rfl _ rfl zeros15 (run_alloc120 _) ?_) | (go_at_call 88; (with_reducible refine (narrow_calls _).mono ?_); rintro e w1 ⟨rfl, hb1⟩; have HK := Aside0.mk ((hb1.block w.heap.size (blk_lt (heap_alloc_new w (.cells zeros15 120)))).trans (heap_alloc_new w (.cells zeros15 120))); have HB1 := Aside0.mk (Below.trans (below_alloc hb (.cells zeros15 120)) (hb1.mono (Nat.le_of_lt (blk_lt (heap_alloc_new w (.cells zeros15 120)))))); unfold narrowV; clear hb1; have HST := Aside0.mk (run_store_block (P := Tryd.prog) w.heap.size 120 zeros15 narrowA 120 HK.out info120 (by simp [zeros15_size, narrowA]) narrowA_one)) | (refine store_at (ty := 120) (.tmp 2) (.tmp 7) rfl rfl rfl HST.out rfl rfl ?_))
  refine bodyPost_ret (results_ct rfl _ _ _ _ _ _ _ rfl (setRow_heap _ _ _ narrowA _ _ HK.out) Tryd.underlying120 rfl (by kernel_rfl)) rfl ?_
  exact ⟨rfl, below_setR HB1.out _⟩
def turnM (x b : Int) : Int := Go.bits .or .u32 (shr .u32 x b) (shl .u32 x (32 - b))
set_option maxHeartbeats 8000000 in
theorem turn_calls (x b : Int) (h0 : 0 ≤ b) (h1 : b ≤ 32) (w : World) : Calls Tryd.prog 104 #[.int .u32 x, .int .i64 b, .int .i64 32] w fun e w' => e = .returned (.int .u32 (turnM x b)) ∧ Drawn0 w w' := by
  have hw : wrap64 (32 - b) = 32 - b := by unfold wrap64; omega
  obtain ⟨c, hc⟩ : ∃ c, c = 32 - b := ⟨_, rfl⟩
  have hc0 : 0 ≤ c := by omega
  have hc1 : c ≤ 32 := by omega
  obtain ⟨j1, hj1⟩ : ∃ j, shr .u32 x b = j := ⟨_, rfl⟩
  obtain ⟨j2, hj2⟩ : ∃ j, shl .u32 x c = j := ⟨_, rfl⟩
  have HT := Lib.hid (show turnM x b = Go.bits .or .u32 j1 j2 by rw [turnM, ← hj1, ← hj2, hc])
  have h1z : (x / 2 ^ min b.toNat 32) = j1 := hj1
  have h1y : (x / 2 ^ b.toNat) = j1 := shr_small hj1 h1
  have h2z : (IntKind.u32.wrap (x * 2 ^ min c.toNat 32)) = j2 := hj2
  have h2y : (IntKind.u32.wrap (x * 2 ^ c.toNat)) = j2 := shl_small hj2 hc1
  have hw2 : (IntKind.i64.wrap (32 - b)) = c := (i64_w _).trans (hw.trans hc.symm)
  have hw3 : wrap64 (32 - b) = c := hw.trans hc.symm
  clear hj1 hj2 hc hw
  go_enter Tryd.func104, Tryd.ntmps104
  go_wp2
  repeat (go_quiet (fail); try go_wp2)
  go_ret
  exact ⟨by rw [HT.out] <;> rfl, by repeat (first | exact Drawn0.refl _ | apply Drawn0.step)⟩

theorem cellB3 {w : World} {b t : Nat} {cs : Array Value} {m : Nat × Nat} (h : w.heap[b]? = some (.cells cs t m)) (j : Nat) (v : Value) (hj : cs[j]? = some v) : w.cell? ⟨b, j, none⟩ = some v := by simp [World.cell?, h, hj]
def bigM (x b0 b1 b2 : Int) : Int := Go.bits .xor .u32 (Go.bits .xor .u32 (turnM x b0) (turnM x b1)) (turnM x b2)
def smallM (x b0 b1 b2 : Int) : Int := Go.bits .xor .u32 (Go.bits .xor .u32 (turnM x b0) (turnM x b1)) (shr .u32 x b2)
set_option maxHeartbeats 8000000 in
theorem big_calls (x b0 b1 b2 : Int) (h0a : 0 ≤ b0) (h0b : b0 ≤ 32) (h1a : 0 ≤ b1) (h1b : b1 ≤ 32) (h2a : 0 ≤ b2) (h2b : b2 ≤ 32) (w : World) : Calls Tryd.prog 100 #[.int .u32 x, .agg #[.int .i64 b0, .int .i64 b1, .int .i64 b2], .int .i64 32] w fun e w' => e = .returned (.int .u32 (bigM x b0 b1 b2)) ∧ Below w.heap.size w w' := by
  have HK := Aside0.mk (show (w.alloc (.cells #[.int .i64 b0, .int .i64 b1, .int .i64 b2] 118)).drew.heap[w.heap.size]? = some (.cells #[.int .i64 b0, .int .i64 b1, .int .i64 b2] 118 (0, 0)) from heap_alloc_new w _)
  have HB := Aside0.mk (show Below w.heap.size w (w.alloc (.cells #[.int .i64 b0, .int .i64 b1, .int .i64 b2] 118)).drew from below_drew (below_alloc (Below.refl w.heap.size w) _))
  go_enter Tryd.func100, Tryd.ntmps100
  go_wp2
  refine start_ (n := 18) (S := fun w' => w'.cell? ⟨w.heap.size, 0, none⟩ = some (.int .i64 b0) ∧ w'.cell? ⟨w.heap.size, 1, none⟩ = some (.int .i64 b1) ∧ w'.cell? ⟨w.heap.size, 2, none⟩ = some (.int .i64 b2)) (ds := []) #[false, false, false, false, false, false, false, false, false, false, false, false, false, false, false, false, false, false] (by kernel_rfl) rfl rfl ⟨(cellB3 HK.out 0 _ rfl), (cellB3 HK.out 1 _ rfl), (cellB3 HK.out 2 _ rfl)⟩ (fun hHeld => ?_)
  refine pure_ (i := 0) (N := some 7) (v := ?_) (a' := ?_) #[true, false, false, false, false, false, false, false, false, false, false, false, false, false, false, false, false, false] rfl rfl (by kernel_rfl) (fun _ _ _ h => h) (Or.inl ⟨by rfl, ?_⟩) ?_ ?_
  rotate_left
  · intro w'
    go_simp
    with_reducible rfl
  rotate_left
  · simp only [Act.put, List.setIfInBounds_toArray, List.set_cons_zero, List.set_cons_succ, i64_w, i32_w]
    rfl
  refine pure_ (i := 1) (N := some 8) (v := ?_) (a' := ?_) #[true, true, false, false, false, false, false, false, false, false, false, false, false, false, false, false, false, false] rfl rfl (by kernel_rfl) (fun _ _ _ h => h) (Or.inl ⟨by rfl, ?_⟩) ?_ ?_
  rotate_left
  · intro w'
    go_simp
    with_reducible rfl
  rotate_left
  · simp only [Act.put, List.setIfInBounds_toArray, List.set_cons_zero, List.set_cons_succ, i64_w, i32_w]
    rfl
  refine pure_ (i := 3) (N := some 10) (v := ?_) (a' := ?_) #[true, true, false, true, false, false, false, false, false, false, false, false, false, false, false, false, false, false] rfl rfl (by kernel_rfl) (fun _ _ _ h => h) (Or.inl ⟨by rfl, ?_⟩) ?_ ?_
  rotate_left
  · intro w'
    go_simp
    with_reducible rfl
  rotate_left
  · simp only [Act.put, List.setIfInBounds_toArray, List.set_cons_zero, List.set_cons_succ, i64_w, i32_w]
    rfl
  refine pure_ (i := 5) (N := some 12) (v := ?_) (a' := ?_) #[true, true, false, true, false, true, false, false, false, false, false, false, false, false, false, false, false, false] rfl rfl (by kernel_rfl) (fun _ _ _ h => h) (Or.inl ⟨by rfl, ?_⟩) ?_ ?_
  rotate_left
  · intro w'
    go_simp
    with_reducible rfl
  rotate_left
  · simp only [Act.put, List.setIfInBounds_toArray, List.set_cons_zero, List.set_cons_succ, i64_w, i32_w]
    rfl
  refine pure_ (i := 6) (N := some 13) (v := ?_) (a' := ?_) #[true, true, false, true, false, true, true, false, false, false, false, false, false, false, false, false, false, false] rfl rfl (by kernel_rfl) (fun _ _ _ h => h) (Or.inl ⟨by rfl, ?_⟩) ?_ ?_
  rotate_left
  · intro w'
    go_simp
    with_reducible rfl
  rotate_left
  · simp only [Act.put, List.setIfInBounds_toArray, List.set_cons_zero, List.set_cons_succ, i64_w, i32_w]
    rfl
  refine pure_ (i := 8) (N := some 15) (v := ?_) (a' := ?_) #[true, true, false, true, false, true, true, false, true, false, false, false, false, false, false, false, false, false] rfl rfl (by kernel_rfl) (fun _ _ _ h => h) (Or.inl ⟨by rfl, ?_⟩) ?_ ?_
  rotate_left
  · intro w'
    go_simp
    with_reducible rfl
  rotate_left
  · simp only [Act.put, List.setIfInBounds_toArray, List.set_cons_zero, List.set_cons_succ, i64_w, i32_w]
    rfl
  refine pure_ (i := 11) (N := some 18) (v := ?_) (a' := ?_) #[true, true, false, true, false, true, true, false, true, false, false, true, false, false, false, false, false, false] rfl rfl (by kernel_rfl) (fun _ _ _ h => h) (Or.inl ⟨by rfl, ?_⟩) ?_ ?_
  rotate_left
  · intro w'
    go_simp
    with_reducible rfl
  rotate_left
  · simp only [Act.put, List.setIfInBounds_toArray, List.set_cons_zero, List.set_cons_succ, i64_w, i32_w]
    rfl
  refine pure_ (i := 12) (N := some 19) (v := ?_) (a' := ?_) #[true, true, false, true, false, true, true, false, true, false, false, true, true, false, false, false, false, false] rfl rfl (by kernel_rfl) (fun _ _ _ h => h) (Or.inl ⟨by rfl, ?_⟩) ?_ ?_
  rotate_left
  · intro w'
    go_simp
    with_reducible rfl
  rotate_left
  · simp only [Act.put, List.setIfInBounds_toArray, List.set_cons_zero, List.set_cons_succ, i64_w, i32_w]
    rfl
  refine pure_ (i := 14) (N := some 21) (v := ?_) (a' := ?_) #[true, true, false, true, false, true, true, false, true, false, false, true, true, false, true, false, false, false] rfl rfl (by kernel_rfl) (fun _ _ _ h => h) (Or.inl ⟨by rfl, ?_⟩) ?_ ?_
  rotate_left
  · intro w'
    go_simp
    with_reducible rfl
  rotate_left
  · simp only [Act.put, List.setIfInBounds_toArray, List.set_cons_zero, List.set_cons_succ, i64_w, i32_w]
    rfl
  refine take_ (i := 2) (N := some 9) (v := ?_) (a' := ?_) #[true, true, true, true, false, true, true, false, true, false, false, true, true, false, true, false, false, false] rfl rfl (by kernel_rfl) (fun _ _ _ h => h) (Or.inl ⟨by rfl, ?_⟩) hHeld ?_ ?_
  rotate_left
  · rintro w' ⟨s0, s1, s2⟩
    go_simp
    with_reducible rfl
  rotate_left
  · simp only [Act.put, List.setIfInBounds_toArray, List.set_cons_zero, List.set_cons_succ, i64_w, i32_w]
    rfl
  refine take_ (i := 7) (N := some 14) (v := ?_) (a' := ?_) #[true, true, true, true, false, true, true, true, true, false, false, true, true, false, true, false, false, false] rfl rfl (by kernel_rfl) (fun _ _ _ h => h) (Or.inl ⟨by rfl, ?_⟩) hHeld ?_ ?_
  rotate_left
  · rintro w' ⟨s0, s1, s2⟩
    go_simp
    with_reducible rfl
  rotate_left
  · simp only [Act.put, List.setIfInBounds_toArray, List.set_cons_zero, List.set_cons_succ, i64_w, i32_w]
    rfl
  refine take_ (i := 13) (N := some 20) (v := ?_) (a' := ?_) #[true, true, true, true, false, true, true, true, true, false, false, true, true, true, true, false, false, false] rfl rfl (by kernel_rfl) (fun _ _ _ h => h) (Or.inl ⟨by rfl, ?_⟩) hHeld ?_ ?_
  rotate_left
  · rintro w' ⟨s0, s1, s2⟩
    go_simp
    with_reducible rfl
  rotate_left
  · simp only [Act.put, List.setIfInBounds_toArray, List.set_cons_zero, List.set_cons_succ, i64_w, i32_w]
    rfl
  refine one_ (i := 4) (N := some 11) #[true, true, true, true, true, true, true, true, true, false, false, true, true, true, true, false, false, false] rfl rfl (by kernel_rfl) (by decide) (fun K hK => ?_)
  refine goes_ Tryd.func104 (by kernel_rfl) rfl #[.int .u32 x, .int .i64 b0, .int .i64 32] (by rfl) rfl rfl (by simp only [List.map_toArray, List.map_cons, List.map_nil]; rfl) ?_
  with_reducible refine (turn_calls x b0 h0a h0b _).mono ?_
  rintro e w1 ⟨rfl, hd⟩
  refine ⟨_, rfl, ?_⟩
  have HK1 := Aside0.mk ((hd.below.block w.heap.size (blk_lt HK.out)).trans HK.out)
  have HB1 := Aside0.mk (Below.trans HB.out (hd.below.mono HB.out.size))
  clear hd
  refine hK.out _ _ ⟨(cellB3 HK1.out 0 _ rfl), (cellB3 HK1.out 1 _ rfl), (cellB3 HK1.out 2 _ rfl)⟩ (fun hHeld => ?_)
  clear hK K
  refine norm_ (a' := ?_) ?_ ?_
  rotate_left
  · show Act.put _ (some 11) _ = _
    simp only [Act.put, List.setIfInBounds_toArray, List.set_cons_zero, List.set_cons_succ, i64_w, i32_w]
    rfl
  refine one_ (i := 9) (N := some 16) #[true, true, true, true, true, true, true, true, true, true, false, true, true, true, true, false, false, false] rfl rfl (by kernel_rfl) (by decide) (fun K hK => ?_)
  refine goes_ Tryd.func104 (by kernel_rfl) rfl #[.int .u32 x, .int .i64 b1, .int .i64 32] (by rfl) rfl rfl (by simp only [List.map_toArray, List.map_cons, List.map_nil]; rfl) ?_
  with_reducible refine (turn_calls x b1 h1a h1b _).mono ?_
  rintro e w2 ⟨rfl, hd⟩
  refine ⟨_, rfl, ?_⟩
  have HK2 := Aside0.mk ((hd.below.block w.heap.size (blk_lt HK1.out)).trans HK1.out)
  have HB2 := Aside0.mk (Below.trans HB1.out (hd.below.mono HB1.out.size))
  clear hd
  refine hK.out _ _ ⟨(cellB3 HK2.out 0 _ rfl), (cellB3 HK2.out 1 _ rfl), (cellB3 HK2.out 2 _ rfl)⟩ (fun hHeld => ?_)
  clear hK K
  refine norm_ (a' := ?_) ?_ ?_
  rotate_left
  · show Act.put _ (some 16) _ = _
    simp only [Act.put, List.setIfInBounds_toArray, List.set_cons_zero, List.set_cons_succ, i64_w, i32_w]
    rfl
  refine pure_ (i := 10) (N := some 17) (v := ?_) (a' := ?_) #[true, true, true, true, true, true, true, true, true, true, true, true, true, true, true, false, false, false] rfl rfl (by kernel_rfl) (fun _ _ _ h => h) (Or.inl ⟨by rfl, ?_⟩) ?_ ?_
  rotate_left
  · intro w'
    go_simp
    with_reducible rfl
  rotate_left
  · simp only [Act.put, List.setIfInBounds_toArray, List.set_cons_zero, List.set_cons_succ, i64_w, i32_w]
    rfl
  refine one_ (i := 15) (N := some 22) #[true, true, true, true, true, true, true, true, true, true, true, true, true, true, true, true, false, false] rfl rfl (by kernel_rfl) (by decide) (fun K hK => ?_)
  refine goes_ Tryd.func104 (by kernel_rfl) rfl #[.int .u32 x, .int .i64 b2, .int .i64 32] (by rfl) rfl rfl (by simp only [List.map_toArray, List.map_cons, List.map_nil]; rfl) ?_
  with_reducible refine (turn_calls x b2 h2a h2b _).mono ?_
  rintro e w3 ⟨rfl, hd⟩
  refine ⟨_, rfl, ?_⟩
  have HK3 := Aside0.mk ((hd.below.block w.heap.size (blk_lt HK2.out)).trans HK2.out)
  have HB3 := Aside0.mk (Below.trans HB2.out (hd.below.mono HB2.out.size))
  clear hd
  refine hK.out _ _ ⟨(cellB3 HK3.out 0 _ rfl), (cellB3 HK3.out 1 _ rfl), (cellB3 HK3.out 2 _ rfl)⟩ (fun hHeld => ?_)
  clear hK K
  refine norm_ (a' := ?_) ?_ ?_
  rotate_left
  · show Act.put _ (some 22) _ = _
    simp only [Act.put, List.setIfInBounds_toArray, List.set_cons_zero, List.set_cons_succ, i64_w, i32_w]
    rfl
  refine pure_ (i := 16) (N := some 23) (v := ?_) (a' := ?_) #[true, true, true, true, true, true, true, true, true, true, true, true, true, true, true, true, true, false] rfl rfl (by kernel_rfl) (fun _ _ _ h => h) (Or.inl ⟨by rfl, ?_⟩) ?_ ?_
  rotate_left
  · intro w'
    go_simp
    with_reducible rfl
  rotate_left
  · simp only [Act.put, List.setIfInBounds_toArray, List.set_cons_zero, List.set_cons_succ, i64_w, i32_w]
    rfl
  refine pure_ (i := 17) (N := some 6) (v := ?_) (a' := ?_) #[true, true, true, true, true, true, true, true, true, true, true, true, true, true, true, true, true, true] rfl rfl (by kernel_rfl) (fun _ _ _ h => h) (Or.inl ⟨by rfl, ?_⟩) ?_ ?_
  rotate_left
  · intro w'
    go_simp
    with_reducible rfl
  rotate_left
  · simp only [Act.put, List.setIfInBounds_toArray, List.set_cons_zero, List.set_cons_succ, i64_w, i32_w]
    rfl
  refine done_ (by kernel_rfl) ?_
  clear hHeld
  go_wp2
  go_ret
  exact ⟨by first | rfl | (unfold bigM; rw [HJ.out] <;> rfl), HB3.out⟩
set_option maxHeartbeats 8000000 in
theorem small_calls (x b0 b1 b2 : Int) (h0a : 0 ≤ b0) (h0b : b0 ≤ 32) (h1a : 0 ≤ b1) (h1b : b1 ≤ 32) (h2a : 0 ≤ b2) (h2b : b2 ≤ 32) (w : World) : Calls Tryd.prog 103 #[.int .u32 x, .agg #[.int .i64 b0, .int .i64 b1, .int .i64 b2], .int .i64 32] w fun e w' => e = .returned (.int .u32 (smallM x b0 b1 b2)) ∧ Below w.heap.size w w' := by
  have HK := Aside0.mk (show (w.alloc (.cells #[.int .i64 b0, .int .i64 b1, .int .i64 b2] 118)).drew.heap[w.heap.size]? = some (.cells #[.int .i64 b0, .int .i64 b1, .int .i64 b2] 118 (0, 0)) from heap_alloc_new w _)
  have HB := Aside0.mk (show Below w.heap.size w (w.alloc (.cells #[.int .i64 b0, .int .i64 b1, .int .i64 b2] 118)).drew from below_drew (below_alloc (Below.refl w.heap.size w) _))
  obtain ⟨j3, hj3⟩ : ∃ j, shr .u32 x b2 = j := ⟨_, rfl⟩
  have h3z : (x / 2 ^ min b2.toNat 32) = j3 := hj3
  have h3y : (x / 2 ^ b2.toNat) = j3 := shr_small hj3 h2b
  have HJ := Lib.hid hj3
  clear hj3
  go_enter Tryd.func103, Tryd.ntmps103
  go_wp2
  refine start_ (n := 17) (S := fun w' => w'.cell? ⟨w.heap.size, 0, none⟩ = some (.int .i64 b0) ∧ w'.cell? ⟨w.heap.size, 1, none⟩ = some (.int .i64 b1) ∧ w'.cell? ⟨w.heap.size, 2, none⟩ = some (.int .i64 b2)) (ds := []) #[false, false, false, false, false, false, false, false, false, false, false, false, false, false, false, false, false] (by kernel_rfl) rfl rfl ⟨(cellB3 HK.out 0 _ rfl), (cellB3 HK.out 1 _ rfl), (cellB3 HK.out 2 _ rfl)⟩ (fun hHeld => ?_)
  refine pure_ (i := 0) (N := some 7) (v := ?_) (a' := ?_) #[true, false, false, false, false, false, false, false, false, false, false, false, false, false, false, false, false] rfl rfl (by kernel_rfl) (fun _ _ _ h => h) (Or.inl ⟨by rfl, ?_⟩) ?_ ?_
  rotate_left
  · intro w'
    go_simp
    with_reducible rfl
  rotate_left
  · simp only [Act.put, List.setIfInBounds_toArray, List.set_cons_zero, List.set_cons_succ, i64_w, i32_w]
    rfl
  refine pure_ (i := 1) (N := some 8) (v := ?_) (a' := ?_) #[true, true, false, false, false, false, false, false, false, false, false, false, false, false, false, false, false] rfl rfl (by kernel_rfl) (fun _ _ _ h => h) (Or.inl ⟨by rfl, ?_⟩) ?_ ?_
  rotate_left
  · intro w'
    go_simp
    with_reducible rfl
  rotate_left
  · simp only [Act.put, List.setIfInBounds_toArray, List.set_cons_zero, List.set_cons_succ, i64_w, i32_w]
    rfl
  refine pure_ (i := 3) (N := some 10) (v := ?_) (a' := ?_) #[true, true, false, true, false, false, false, false, false, false, false, false, false, false, false, false, false] rfl rfl (by kernel_rfl) (fun _ _ _ h => h) (Or.inl ⟨by rfl, ?_⟩) ?_ ?_
  rotate_left
  · intro w'
    go_simp
    with_reducible rfl
  rotate_left
  · simp only [Act.put, List.setIfInBounds_toArray, List.set_cons_zero, List.set_cons_succ, i64_w, i32_w]
    rfl
  refine pure_ (i := 5) (N := some 12) (v := ?_) (a' := ?_) #[true, true, false, true, false, true, false, false, false, false, false, false, false, false, false, false, false] rfl rfl (by kernel_rfl) (fun _ _ _ h => h) (Or.inl ⟨by rfl, ?_⟩) ?_ ?_
  rotate_left
  · intro w'
    go_simp
    with_reducible rfl
  rotate_left
  · simp only [Act.put, List.setIfInBounds_toArray, List.set_cons_zero, List.set_cons_succ, i64_w, i32_w]
    rfl
  refine pure_ (i := 6) (N := some 13) (v := ?_) (a' := ?_) #[true, true, false, true, false, true, true, false, false, false, false, false, false, false, false, false, false] rfl rfl (by kernel_rfl) (fun _ _ _ h => h) (Or.inl ⟨by rfl, ?_⟩) ?_ ?_
  rotate_left
  · intro w'
    go_simp
    with_reducible rfl
  rotate_left
  · simp only [Act.put, List.setIfInBounds_toArray, List.set_cons_zero, List.set_cons_succ, i64_w, i32_w]
    rfl
  refine pure_ (i := 8) (N := some 15) (v := ?_) (a' := ?_) #[true, true, false, true, false, true, true, false, true, false, false, false, false, false, false, false, false] rfl rfl (by kernel_rfl) (fun _ _ _ h => h) (Or.inl ⟨by rfl, ?_⟩) ?_ ?_
  rotate_left
  · intro w'
    go_simp
    with_reducible rfl
  rotate_left
  · simp only [Act.put, List.setIfInBounds_toArray, List.set_cons_zero, List.set_cons_succ, i64_w, i32_w]
    rfl
  refine pure_ (i := 11) (N := some 18) (v := ?_) (a' := ?_) #[true, true, false, true, false, true, true, false, true, false, false, true, false, false, false, false, false] rfl rfl (by kernel_rfl) (fun _ _ _ h => h) (Or.inl ⟨by rfl, ?_⟩) ?_ ?_
  rotate_left
  · intro w'
    go_simp
    with_reducible rfl
  rotate_left
  · simp only [Act.put, List.setIfInBounds_toArray, List.set_cons_zero, List.set_cons_succ, i64_w, i32_w]
    rfl
  refine pure_ (i := 12) (N := some 19) (v := ?_) (a' := ?_) #[true, true, false, true, false, true, true, false, true, false, false, true, true, false, false, false, false] rfl rfl (by kernel_rfl) (fun _ _ _ h => h) (Or.inl ⟨by rfl, ?_⟩) ?_ ?_
  rotate_left
  · intro w'
    go_simp
    with_reducible rfl
  rotate_left
  · simp only [Act.put, List.setIfInBounds_toArray, List.set_cons_zero, List.set_cons_succ, i64_w, i32_w]
    rfl
  refine take_ (i := 2) (N := some 9) (v := ?_) (a' := ?_) #[true, true, true, true, false, true, true, false, true, false, false, true, true, false, false, false, false] rfl rfl (by kernel_rfl) (fun _ _ _ h => h) (Or.inl ⟨by rfl, ?_⟩) hHeld ?_ ?_
  rotate_left
  · rintro w' ⟨s0, s1, s2⟩
    go_simp
    with_reducible rfl
  rotate_left
  · simp only [Act.put, List.setIfInBounds_toArray, List.set_cons_zero, List.set_cons_succ, i64_w, i32_w]
    rfl
  refine take_ (i := 7) (N := some 14) (v := ?_) (a' := ?_) #[true, true, true, true, false, true, true, true, true, false, false, true, true, false, false, false, false] rfl rfl (by kernel_rfl) (fun _ _ _ h => h) (Or.inl ⟨by rfl, ?_⟩) hHeld ?_ ?_
  rotate_left
  · rintro w' ⟨s0, s1, s2⟩
    go_simp
    with_reducible rfl
  rotate_left
  · simp only [Act.put, List.setIfInBounds_toArray, List.set_cons_zero, List.set_cons_succ, i64_w, i32_w]
    rfl
  refine take_ (i := 13) (N := some 20) (v := ?_) (a' := ?_) #[true, true, true, true, false, true, true, true, true, false, false, true, true, true, false, false, false] rfl rfl (by kernel_rfl) (fun _ _ _ h => h) (Or.inl ⟨by rfl, ?_⟩) hHeld ?_ ?_
  rotate_left
  · rintro w' ⟨s0, s1, s2⟩
    go_simp
    with_reducible rfl
  rotate_left
  · simp only [Act.put, List.setIfInBounds_toArray, List.set_cons_zero, List.set_cons_succ, i64_w, i32_w]
    rfl
  refine pure_ (i := 14) (N := some 21) (v := ?_) (a' := ?_) #[true, true, true, true, false, true, true, true, true, false, false, true, true, true, true, false, false] rfl rfl (by kernel_rfl) (fun _ _ _ h => h) (Or.inl ⟨by rfl, ?_⟩) ?_ ?_
  rotate_left
  · intro w'
    go_simp
    with_reducible rfl
  rotate_left
  · simp only [Act.put, List.setIfInBounds_toArray, List.set_cons_zero, List.set_cons_succ, i64_w, i32_w]
    rfl
  refine one_ (i := 4) (N := some 11) #[true, true, true, true, true, true, true, true, true, false, false, true, true, true, true, false, false] rfl rfl (by kernel_rfl) (by decide) (fun K hK => ?_)
  refine goes_ Tryd.func104 (by kernel_rfl) rfl #[.int .u32 x, .int .i64 b0, .int .i64 32] (by rfl) rfl rfl (by simp only [List.map_toArray, List.map_cons, List.map_nil]; rfl) ?_
  with_reducible refine (turn_calls x b0 h0a h0b _).mono ?_
  rintro e w1 ⟨rfl, hd⟩
  refine ⟨_, rfl, ?_⟩
  have HK1 := Aside0.mk ((hd.below.block w.heap.size (blk_lt HK.out)).trans HK.out)
  have HB1 := Aside0.mk (Below.trans HB.out (hd.below.mono HB.out.size))
  clear hd
  refine hK.out _ _ ⟨(cellB3 HK1.out 0 _ rfl), (cellB3 HK1.out 1 _ rfl), (cellB3 HK1.out 2 _ rfl)⟩ (fun hHeld => ?_)
  clear hK K
  refine norm_ (a' := ?_) ?_ ?_
  rotate_left
  · show Act.put _ (some 11) _ = _
    simp only [Act.put, List.setIfInBounds_toArray, List.set_cons_zero, List.set_cons_succ, i64_w, i32_w]
    rfl
  refine one_ (i := 9) (N := some 16) #[true, true, true, true, true, true, true, true, true, true, false, true, true, true, true, false, false] rfl rfl (by kernel_rfl) (by decide) (fun K hK => ?_)
  refine goes_ Tryd.func104 (by kernel_rfl) rfl #[.int .u32 x, .int .i64 b1, .int .i64 32] (by rfl) rfl rfl (by simp only [List.map_toArray, List.map_cons, List.map_nil]; rfl) ?_
  with_reducible refine (turn_calls x b1 h1a h1b _).mono ?_
  rintro e w2 ⟨rfl, hd⟩
  refine ⟨_, rfl, ?_⟩
  have HK2 := Aside0.mk ((hd.below.block w.heap.size (blk_lt HK1.out)).trans HK1.out)
  have HB2 := Aside0.mk (Below.trans HB1.out (hd.below.mono HB1.out.size))
  clear hd
  refine hK.out _ _ ⟨(cellB3 HK2.out 0 _ rfl), (cellB3 HK2.out 1 _ rfl), (cellB3 HK2.out 2 _ rfl)⟩ (fun hHeld => ?_)
  clear hK K
  refine norm_ (a' := ?_) ?_ ?_
  rotate_left
  · show Act.put _ (some 16) _ = _
    simp only [Act.put, List.setIfInBounds_toArray, List.set_cons_zero, List.set_cons_succ, i64_w, i32_w]
    rfl
  refine pure_ (i := 10) (N := some 17) (v := ?_) (a' := ?_) #[true, true, true, true, true, true, true, true, true, true, true, true, true, true, true, false, false] rfl rfl (by kernel_rfl) (fun _ _ _ h => h) (Or.inl ⟨by rfl, ?_⟩) ?_ ?_
  rotate_left
  · intro w'
    go_simp
    with_reducible rfl
  rotate_left
  · simp only [Act.put, List.setIfInBounds_toArray, List.set_cons_zero, List.set_cons_succ, i64_w, i32_w]
    rfl
  refine pure_ (i := 15) (N := some 22) (v := ?_) (a' := ?_) #[true, true, true, true, true, true, true, true, true, true, true, true, true, true, true, true, false] rfl rfl (by kernel_rfl) (fun _ _ _ h => h) (Or.inl ⟨by rfl, ?_⟩) ?_ ?_
  rotate_left
  · intro w'
    go_simp
    with_reducible rfl
  rotate_left
  · simp only [Act.put, List.setIfInBounds_toArray, List.set_cons_zero, List.set_cons_succ, i64_w, i32_w]
    rfl
  refine pure_ (i := 16) (N := some 6) (v := ?_) (a' := ?_) #[true, true, true, true, true, true, true, true, true, true, true, true, true, true, true, true, true] rfl rfl (by kernel_rfl) (fun _ _ _ h => h) (Or.inl ⟨by rfl, ?_⟩) ?_ ?_
  rotate_left
  · intro w'
    go_simp
    with_reducible rfl
  rotate_left
  · simp only [Act.put, List.setIfInBounds_toArray, List.set_cons_zero, List.set_cons_succ, i64_w, i32_w]
    rfl
  refine done_ (by kernel_rfl) ?_
  clear hHeld
  go_wp2
  go_ret
  exact ⟨by first | rfl | (unfold smallM; rw [HJ.out] <;> rfl), HB2.out⟩
end Go.Proofs.YtmblnflfklmmkaaDoor.Sh
/- Contracts of package sha2: the tables, begin. -/
namespace Go.Proofs.YtmblnflfklmmkaaDoor.Sh
open Go.Proofs.YtmblnflfklmmkaaDoor.Dk
open Go.RowKit Go.Proofs.YtmblnflfklmmkaaDoorW.PrintWords Go.Proofs.YtmblnflfklmmkaaDoorW.PrintLast Go.Proofs.YtmblnflfklmmkaaDoorW.PrintMore
set_option linter.unusedVariables false
set_option linter.unusedSimpArgs false
set_option maxRecDepth 30000
def startsL : List Int := [7640891576956012808, 13503953896175478587, 4354685564936845355, 11912009170470909681, 5840696475078001361, 11170449401992604703, 2270897969802886507, 6620516959819538809]
def constsL : List Int := [4794697086780616226, 8158064640168781261, 13096744586834688815, 16840607885511220156, 4131703408338449720, 6480981068601479193, 10538285296894168987, 12329834152419229976, 15566598209576043074, 1334009975649890238, 2608012711638119052, 6128411473006802146, 8268148722764581231, 9286055187155687089, 11230858885718282805, 13951009754708518548, 16472876342353939154, 17275323862435702243, 1135362057144423861, 2597628984639134821, 3308224258029322869, 5365058923640841347, 6679025012923562964, 8573033837759648693, 10970295158949994411, 12119686244451234320, 12683024718118986047, 13788192230050041572, 14330467153632333762, 15395433587784984357, 489312712824947311, 1452737877330783856, 2861767655752347644, 3322285676063803686, 5560940570517711597, 5996557281743188959, 7280758554555802590, 8532644243296465576, 9350256976987008742, 10552545826968843579, 11727347734174303076, 12113106623233404929, 14000437183269869457, 14369950271660146224, 15101387698204529176, 15463397548674623760, 17586052441742319658, 1182934255886127544, 1847814050463011016, 2177327727835720531, 2830643537854262169, 3796741975233480872, 4115178125766777443, 5681478168544905931, 6601373596472566643, 7507060721942968483, 8399075790359081724, 8693463985226723168, 9568029438360202098, 10144078919501101548, 10430055236837252648, 11840083180663258601, 13761210420658862357, 14299343276471374635, 14566680578165727644, 15097957966210449927, 16922976911328602910, 17689382322260857208, 500013540394364858, 748580250866718886, 1242879168328830382, 1977374033974150939, 2944078676154940804, 3659926193048069267, 4368137639120453308, 4836135668995329356, 5532061633213252278, 6448918945643986474, 6902733635092675308, 7801388544844847127]
/-- The two tables, as the program's text lays them. -/
structure Glob (w : World) : Prop where
  s : ∀ i, i < 8 → w.cell? ⟨0, i, none⟩ = some (.int .u64 (startsL.getD i 0))
  c : ∀ i, i < 80 → w.cell? ⟨1, i, none⟩ = some (.int .u64 (constsL.getD i 0))
  lt : 0 < w.heap.size ∧ 1 < w.heap.size
variable {w w1 w2 wr : World}
theorem cell_block {w w1 : World} {k : Nat} (h : w1.heap[k]? = w.heap[k]?) (j : Nat) : w1.cell? ⟨k, j, none⟩ = w.cell? ⟨k, j, none⟩ := by simp [World.cell?, h]
theorem Glob.upd {F : Nat → Prop} (h : Glob w) (hu : Upd w w1 F) (h0 : ¬ F 0) (h1 : ¬ F 1) : Glob w1 where
  s := fun i hi => (cell_block (hu.block 0 (by have := h.lt; omega) h0) i).trans (h.s i hi)
  c := fun i hi => (cell_block (hu.block 1 (by have := h.lt; omega) h1) i).trans (h.c i hi)
  lt := ⟨Nat.lt_of_lt_of_le h.lt.1 hu.size, Nat.lt_of_lt_of_le h.lt.2 hu.size⟩
theorem Glob.below (h : Glob w) (hb : Below w.heap.size w w1) : Glob w1 := h.upd (F := fun _ => False) (Upd.of_below hb) id id
theorem Glob.from {B : Nat} (h : Glob w) (hB : 0 < B ∧ 1 < B) (hb : Below B w w1) : Glob w1 where
  s := fun i hi => (cell_block (hb.block 0 (by omega)) i).trans (h.s i hi)
  c := fun i hi => (cell_block (hb.block 1 (by omega)) i).trans (h.c i hi)
  lt := ⟨Nat.lt_of_lt_of_le h.lt.1 hb.size, Nat.lt_of_lt_of_le h.lt.2 hb.size⟩
theorem put_cell {g t : Nat} {cs : Array Value} (hb : w.heap[g]? = some (.cells cs t (0, 0))) (i : Nat) (u : Value) : (w.setCell ⟨g, i, none⟩ u).heap[g]? = some (.cells (cs.setIfInBounds i u) t (0, 0)) := by rw [heap_setCell_same w g i _ t u hb]
theorem put_other {g k : Nat} {o : Obj} (i : Nat) (u : Value) (hk : k ≠ g) (hb : w.heap[k]? = some o) : (w.setCell ⟨g, i, none⟩ u).heap[k]? = some o := (Below.heap_setCell w ⟨g, i, none⟩ u k hk).trans hb
theorem nums_set (k : IntKind) (xs : List Int) (i : Nat) (v : Int) : (nums k xs).toArray.setIfInBounds i (.int k v) = (nums k (xs.set i v)).toArray := by simp [nums, List.map_set]
theorem nums_getD {k : IntKind} {xs : List Int} {i : Nat} (h : i < xs.length) : (nums k xs).toArray[i]? = some (.int k (xs.getD i 0)) := by simp [nums, h]
theorem cell_nums {g t : Nat} {k : IntKind} {xs : List Int} (hb : w.heap[g]? = some (.cells (nums k xs).toArray t (0, 0))) {i : Nat} (h : i < xs.length) : w.cell? ⟨g, i, none⟩ = some (.int k (xs.getD i 0)) := by rw [cell_of_row w g i _ _ _ hb, nums_getD h]
theorem free_row {g t : Nat} {cs : Array Value} (hb : w.heap[g]? = some (.cells cs t (0, 0))) (i : Nat) : w.frozen? ⟨g, i, none⟩ = false := by simp [World.frozen?, hb]
def z8 (k : IntKind) : Array Value := (nums k (List.replicate 8 0)).toArray
theorem run_alloc124 (w : World) : (Instr.alloc 124 true (.tuple #[])).run Tryd.prog w = .ok (.pointer (some ⟨w.heap.size, 0, none⟩)) (w.alloc (.cells (z8 .u32) 124)) := by kernel_rfl
theorem run_alloc125 (w : World) : (Instr.alloc 125 true (.tuple #[])).run Tryd.prog w = .ok (.pointer (some ⟨w.heap.size, 0, none⟩)) (w.alloc (.cells (z8 .u64) 125)) := by kernel_rfl
theorem info124 (x : List Int) (h : x.length = 8) : (Tryd.prog.info? 124).map (·.size) = some (nums .u32 x).toArray.size := by rw [List.size_toArray, nums_length, h]; kernel_rfl
theorem info125 (x : List Int) (h : x.length = 8) : (Tryd.prog.info? 125).map (·.size) = some (nums .u64 x).toArray.size := by rw [List.size_toArray, nums_length, h]; kernel_rfl
def begR (f : Nat → Int) : Nat → List Int
  | 0 => List.replicate 8 0
  | i + 1 => (begR f i).set i (f i)
theorem begR_length (f : Nat → Int) : ∀ i, (begR f i).length = 8
  | 0 => rfl
  | i + 1 => by rw [begR, List.length_set]; exact begR_length f i
def beg32 (i : Nat) : Int := startsL.getD i 0 / 4294967296 % 4294967296
def beg64 (i : Nat) : Int := startsL.getD i 0
def begin32L : List Int := begR beg32 8
def begin64L : List Int := begR beg64 8
attribute [irreducible] beg32 beg64

theorem nth3_2 (w : World) (a b c : Obj) : (((w.alloc a).alloc b).alloc c).heap[w.heap.size + 1 + 1]? = some c := by
  have h := heap_alloc_new ((w.alloc a).alloc b) c
  have e : ((w.alloc a).alloc b).heap.size = w.heap.size + 1 + 1 := by simp [World.size_alloc]
  rwa [e] at h
theorem nth2_1 (w : World) (a b : Obj) : ((w.alloc a).alloc b).heap[w.heap.size + 1]? = some b := by
  have h := heap_alloc_new (w.alloc a) b
  have e : (w.alloc a).heap.size = w.heap.size + 1 := by simp [World.size_alloc]
  rwa [e] at h
theorem nth3_1 (w : World) (a b c : Obj) : (((w.alloc a).alloc b).alloc c).heap[w.heap.size + 1]? = some b := blk_below (nth2_1 w a b) (below_alloc (Below.refl _ _) c)
theorem nth3_0 (w : World) (a b c : Obj) : (((w.alloc a).alloc b).alloc c).heap[w.heap.size]? = some a := blk_below (blk_below (heap_alloc_new w a) (below_alloc (Below.refl _ _) b)) (below_alloc (Below.refl _ _) c)
theorem below3 (w : World) (a b c : Obj) : Below w.heap.size w (((w.alloc a).alloc b).alloc c) := below_alloc (below_alloc (below_alloc (Below.refl w.heap.size w) a) b) c
theorem below_row {B : Nat} (h : Below B w w1) {g : Nat} (hg : B ≤ g) (cs : Array Value) : Below B w (w1.setRow g cs) := ⟨h.os, h.tape, h.output, by rw [setRow_size]; exact h.size, fun i hi => (setRow_other _ _ _ _ (by omega)).trans (h.block i hi)⟩
theorem below_put {B : Nat} (h : Below B w w1) {g : Nat} (hg : B ≤ g) (j : Nat) (u : Value) : Below B w (w1.setCell ⟨g, j, none⟩ u) := ⟨h.os, h.tape, h.output, by simpa [World.setCell] using h.size, fun i hi => (Below.heap_setCell w1 ⟨g, j, none⟩ u i (by show i ≠ g; omega)).trans (h.block i hi)⟩

set_option maxHeartbeats 8000000 in
theorem begin64_calls (hg : Glob w) : Calls Tryd.prog 91 #[.agg wideA] w fun e w' => e = .returned (.agg (nums .u64 begin64L).toArray) ∧ Below w.heap.size w w' := by
  have HG := Aside0.mk hg
  have HB0 := Aside0.mk (below3 w (.cells wideA 120) (.cells (z8 .u64) 125) (.cells (z8 .u64) 125))
  have HK0 := Aside0.mk (nth3_0 w (.cells wideA 120) (.cells (z8 .u64) 125) (.cells (z8 .u64) 125))
  have HK1 := Aside0.mk (nth3_1 w (.cells wideA 120) (.cells (z8 .u64) 125) (.cells (z8 .u64) 125))
  have HK2 := Aside0.mk (nth3_2 w (.cells wideA 120) (.cells (z8 .u64) 125) (.cells (z8 .u64) 125))
  clear hg
  go_enter Tryd.func91, Tryd.ntmps91
  go_wp2_with (first | (refine wpList_alloc rfl rfl _ rfl (z8 .u64) (run_alloc125 _) ?_))
  go_loopw [4, 5] (fun v4 v5 w' => ∃ i : Nat, v5 = .int .i64 i ∧ i ≤ 8 ∧ Aside0 (w'.heap[w.heap.size]? = some (.cells wideA 120 (0, 0))) ∧ Aside0 (w'.heap[w.heap.size + 1]? = some (.cells (z8 .u64) 125 (0, 0))) ∧ Aside0 (w'.heap[w.heap.size + 1 + 1]? = some (.cells (nums .u64 (begR beg64 i)).toArray 125 (0, 0))) ∧ Aside0 (Below w.heap.size w w')) (fun v4 v5 _ => 8 - (intOf v5).toNat)
  case atStart => exact ⟨0, rfl, Nat.zero_le _, HK0, HK1, HK2, HB0⟩
  case round =>
    clear HK0 HK1 HK2 HB0
    obtain ⟨i, rfl, hi, HK0, HK1, HK2, HB0⟩ := hrel
    by_cases hlt : i < 8
    · obtain ⟨s, hs⟩ : ∃ s, startsL.getD i 0 = s := ⟨_, rfl⟩
      have HS := Aside0.mk (show wr.drew.cell? ⟨0, i, none⟩ = some (.int .u64 s) from by rw [← hs]; exact (HG.out.below HB0.out).s i hlt)
      have HF := Aside0.mk (show wr.drew.cell? ⟨w.heap.size, 1, none⟩ = some (.int .i64 64) from cellB3 HK0.out 1 _ rfl)
      have HN := Aside0.mk (show beg64 i = s by rw [← hs]; unfold beg64; rfl)
      have HC := Aside0.mk (show (wr.drew.setCell ⟨w.heap.size + 1 + 1, i, none⟩ (.int .u64 (s))).heap[w.heap.size + 1 + 1]? = some (.cells (nums .u64 (begR beg64 (i + 1))).toArray 125 (0, 0)) from by have h := put_cell (w := wr.drew) HK2.out i (.int .u64 (s)); rw [nums_set] at h; rw [begR, HN.out]; exact h)
      have hc : wr.drew.cell? ⟨w.heap.size + 1 + 1, i, none⟩ = some (.int .u64 ((begR beg64 i).getD i 0)) := cell_nums (w := wr.drew) HK2.out (by rw [begR_length]; exact hlt)
      have hf := free_row (w := wr.drew) HK2.out i
      have HC0 := Aside0.mk (put_other (w := wr.drew) (g := w.heap.size + 1 + 1) i (.int .u64 (s)) (by omega) HK0.out)
      have HC1 := Aside0.mk (put_other (w := wr.drew) (g := w.heap.size + 1 + 1) i (.int .u64 (s)) (by omega) HK1.out)
      have HCB := Aside0.mk (below_put (below_drew HB0.out) (g := w.heap.size + 1 + 1) (by omega) i (.int .u64 (s)))
      clear hs
      have hw32 : wrap64 32 = 32 := by simp [wrap64]
      have hw0 : wrap64 0 = 0 := by simp [wrap64]
      go_wp2
      refine start_ (n := 10) (S := fun w' => w'.cell? ⟨0, i, none⟩ = some (.int .u64 s) ∧ w'.cell? ⟨w.heap.size, 1, none⟩ = some (.int .i64 64)) (ds := [9]) #[false, false, false, false, false, false, false, false, false, false] (by kernel_rfl) rfl rfl ⟨HS.out, HF.out⟩ (fun hHeld => ?_)
      refine pure_ (i := 0) (N := some 8) (v := ?_) (a' := ?_) #[true, false, false, false, false, false, false, false, false, false] rfl rfl (by kernel_rfl) (fun _ _ _ h => h) (Or.inl ⟨by rfl, ?_⟩) ?_ ?_
      rotate_left
      · intro w'
        go_simp
        with_reducible rfl
      rotate_left
      · simp only [Act.put, List.setIfInBounds_toArray, List.set_cons_zero, List.set_cons_succ, i64_w, i32_w]
        rfl
      refine pure_ (i := 1) (N := some 9) (v := ?_) (a' := ?_) #[true, true, false, false, false, false, false, false, false, false] rfl rfl (by kernel_rfl) (fun _ _ _ h => h) (Or.inl ⟨by rfl, ?_⟩) ?_ ?_
      rotate_left
      · intro w'
        go_simp
        with_reducible rfl
      rotate_left
      · simp only [Act.put, List.setIfInBounds_toArray, List.set_cons_zero, List.set_cons_succ, i64_w, i32_w]
        rfl
      refine pure_ (i := 2) (N := some 10) (v := ?_) (a' := ?_) #[true, true, true, false, false, false, false, false, false, false] rfl rfl (by kernel_rfl) (fun _ _ _ h => h) (Or.inl ⟨by rfl, ?_⟩) ?_ ?_
      rotate_left
      · intro w'
        go_simp
        with_reducible rfl
      rotate_left
      · simp only [Act.put, List.setIfInBounds_toArray, List.set_cons_zero, List.set_cons_succ, i64_w, i32_w]
        rfl
      refine pure_ (i := 4) (N := some 12) (v := ?_) (a' := ?_) #[true, true, true, false, true, false, false, false, false, false] rfl rfl (by kernel_rfl) (fun _ _ _ h => h) (Or.inl ⟨by rfl, ?_⟩) ?_ ?_
      rotate_left
      · intro w'
        go_simp
        with_reducible rfl
      rotate_left
      · simp only [Act.put, List.setIfInBounds_toArray, List.set_cons_zero, List.set_cons_succ, i64_w, i32_w]
        rfl
      refine take_ (i := 3) (N := some 11) (v := ?_) (a' := ?_) #[true, true, true, true, true, false, false, false, false, false] rfl rfl (by kernel_rfl) (fun _ _ _ h => h) (Or.inl ⟨by rfl, ?_⟩) hHeld ?_ ?_
      rotate_left
      · rintro w' ⟨s0, s1⟩
        go_simp
        with_reducible rfl
      rotate_left
      · simp only [Act.put, List.setIfInBounds_toArray, List.set_cons_zero, List.set_cons_succ, i64_w, i32_w]
        rfl
      refine take_ (i := 5) (N := some 13) (v := ?_) (a' := ?_) #[true, true, true, true, true, true, false, false, false, false] rfl rfl (by kernel_rfl) (fun _ _ _ h => h) (Or.inl ⟨by rfl, ?_⟩) hHeld ?_ ?_
      rotate_left
      · rintro w' ⟨s0, s1⟩
        go_simp
        with_reducible rfl
      rotate_left
      · simp only [Act.put, List.setIfInBounds_toArray, List.set_cons_zero, List.set_cons_succ, i64_w, i32_w]
        rfl
      refine pure_ (i := 6) (N := some 14) (v := ?_) (a' := ?_) #[true, true, true, true, true, true, true, false, false, false] rfl rfl (by kernel_rfl) (fun _ _ _ h => h) (Or.inl ⟨by rfl, ?_⟩) ?_ ?_
      rotate_left
      · intro w'
        go_simp
        with_reducible rfl
      rotate_left
      · simp only [Act.put, List.setIfInBounds_toArray, List.set_cons_zero, List.set_cons_succ, i64_w, i32_w]
        rfl
      refine pure_ (i := 7) (N := some 15) (v := ?_) (a' := ?_) #[true, true, true, true, true, true, true, true, false, false] rfl rfl (by kernel_rfl) (fun _ _ _ h => h) (Or.inl ⟨by rfl, ?_⟩) ?_ ?_
      rotate_left
      · intro w'
        go_simp
        with_reducible rfl
      rotate_left
      · simp only [Act.put, List.setIfInBounds_toArray, List.set_cons_zero, List.set_cons_succ, i64_w, i32_w]
        rfl
      refine pure_ (i := 8) (N := some 16) (v := ?_) (a' := ?_) #[true, true, true, true, true, true, true, true, true, false] rfl rfl (by kernel_rfl) (fun _ _ _ h => h) (Or.inl ⟨by rfl, ?_⟩) ?_ ?_
      rotate_left
      · intro w'
        go_simp
        with_reducible rfl
      rotate_left
      · simp only [Act.put, List.setIfInBounds_toArray, List.set_cons_zero, List.set_cons_succ, i64_w, i32_w]
        rfl
      refine last_ (i := 9) (N := none) #[true, true, true, true, true, true, true, true, true, true] rfl rfl (by kernel_rfl) (by decide) (fun K hK => ?_)
      refine skip_ (w1 := ?_) (by rfl) rfl ?_ ?_
      rotate_left
      · go_simp
        rfl
      refine hK.out _ _ ?_
      clear hK K
      refine done_ (by kernel_rfl) ?_
      clear hHeld
      go_wp2
      go_roundw
      case rel => exact ⟨i + 1, by go_num, by omega, HC0, HC1, HC, HCB⟩
      case measure => simp [intOf]; omega
    · obtain rfl : i = 8 := by omega
      have HL := Aside0.mk (run_loadAt_cells (P := Tryd.prog) (w := wr) 125 Tryd.underlying125 rfl (w.heap.size + 1 + 1) 0 (nums .u64 (begR beg64 8)) (by rw [nums_length, begR_length]; kernel_rfl) (fun j u hu => by rw [Nat.zero_add, cell_of_row _ _ j _ _ _ HK2.out]; simpa using hu))
      have HST := Aside0.mk (run_store_block (P := Tryd.prog) (w.heap.size + 1) 125 (z8 .u64) (nums .u64 (begR beg64 8)).toArray 125 HK1.out (info125 _ (begR_length _ _)) (by simp [z8, nums_length, begR_length]) (by simp [nums, List.all_eq_true]; intros; rfl))
      go_wp2_with (first | (refine load_at (ty := 125) (.tmp 3) rfl rfl HL.out rfl ?_) | (refine store_at (ty := 125) (.tmp 2) (.tmp 18) rfl rfl rfl HST.out rfl rfl ?_))
      refine bodyPost_ret (results_cell_row rfl _ _ _ _ (nums .u64 (begR beg64 8)).toArray _ _ rfl (setRow_heap _ _ _ _ _ _ HK1.out) Tryd.underlying125 rfl (info125 _ (begR_length _ _))) rfl ?_
      exact ⟨rfl, below_row HB0.out (by omega) _⟩

set_option maxHeartbeats 8000000 in
theorem begin32_calls (hg : Glob w) : Calls Tryd.prog 90 #[.agg narrowA] w fun e w' => e = .returned (.agg (nums .u32 begin32L).toArray) ∧ Below w.heap.size w w' := by
  have HG := Aside0.mk hg
  have HB0 := Aside0.mk (below3 w (.cells narrowA 120) (.cells (z8 .u32) 124) (.cells (z8 .u32) 124))
  have HK0 := Aside0.mk (nth3_0 w (.cells narrowA 120) (.cells (z8 .u32) 124) (.cells (z8 .u32) 124))
  have HK1 := Aside0.mk (nth3_1 w (.cells narrowA 120) (.cells (z8 .u32) 124) (.cells (z8 .u32) 124))
  have HK2 := Aside0.mk (nth3_2 w (.cells narrowA 120) (.cells (z8 .u32) 124) (.cells (z8 .u32) 124))
  clear hg
  go_enter Tryd.func90, Tryd.ntmps90
  go_wp2_with (first | (refine wpList_alloc rfl rfl _ rfl (z8 .u32) (run_alloc124 _) ?_))
  go_loopw [4, 5] (fun v4 v5 w' => ∃ i : Nat, v5 = .int .i64 i ∧ i ≤ 8 ∧ Aside0 (w'.heap[w.heap.size]? = some (.cells narrowA 120 (0, 0))) ∧ Aside0 (w'.heap[w.heap.size + 1]? = some (.cells (z8 .u32) 124 (0, 0))) ∧ Aside0 (w'.heap[w.heap.size + 1 + 1]? = some (.cells (nums .u32 (begR beg32 i)).toArray 124 (0, 0))) ∧ Aside0 (Below w.heap.size w w')) (fun v4 v5 _ => 8 - (intOf v5).toNat)
  case atStart => exact ⟨0, rfl, Nat.zero_le _, HK0, HK1, HK2, HB0⟩
  case round =>
    clear HK0 HK1 HK2 HB0
    obtain ⟨i, rfl, hi, HK0, HK1, HK2, HB0⟩ := hrel
    by_cases hlt : i < 8
    · obtain ⟨s, hs⟩ : ∃ s, startsL.getD i 0 = s := ⟨_, rfl⟩
      have HS := Aside0.mk (show wr.drew.cell? ⟨0, i, none⟩ = some (.int .u64 s) from by rw [← hs]; exact (HG.out.below HB0.out).s i hlt)
      have HF := Aside0.mk (show wr.drew.cell? ⟨w.heap.size, 1, none⟩ = some (.int .i64 32) from cellB3 HK0.out 1 _ rfl)
      have HN := Aside0.mk (show beg32 i = s / 4294967296 % 4294967296 by rw [← hs]; unfold beg32; rfl)
      have HC := Aside0.mk (show (wr.drew.setCell ⟨w.heap.size + 1 + 1, i, none⟩ (.int .u32 (s / 4294967296 % 4294967296))).heap[w.heap.size + 1 + 1]? = some (.cells (nums .u32 (begR beg32 (i + 1))).toArray 124 (0, 0)) from by have h := put_cell (w := wr.drew) HK2.out i (.int .u32 (s / 4294967296 % 4294967296)); rw [nums_set] at h; rw [begR, HN.out]; exact h)
      have hc : wr.drew.cell? ⟨w.heap.size + 1 + 1, i, none⟩ = some (.int .u32 ((begR beg32 i).getD i 0)) := cell_nums (w := wr.drew) HK2.out (by rw [begR_length]; exact hlt)
      have hf := free_row (w := wr.drew) HK2.out i
      have HC0 := Aside0.mk (put_other (w := wr.drew) (g := w.heap.size + 1 + 1) i (.int .u32 (s / 4294967296 % 4294967296)) (by omega) HK0.out)
      have HC1 := Aside0.mk (put_other (w := wr.drew) (g := w.heap.size + 1 + 1) i (.int .u32 (s / 4294967296 % 4294967296)) (by omega) HK1.out)
      have HCB := Aside0.mk (below_put (below_drew HB0.out) (g := w.heap.size + 1 + 1) (by omega) i (.int .u32 (s / 4294967296 % 4294967296)))
      clear hs
      have hw32 : wrap64 32 = 32 := by simp [wrap64]
      have hw0 : wrap64 0 = 0 := by simp [wrap64]
      go_wp2
      refine start_ (n := 11) (S := fun w' => w'.cell? ⟨0, i, none⟩ = some (.int .u64 s) ∧ w'.cell? ⟨w.heap.size, 1, none⟩ = some (.int .i64 32)) (ds := [10]) #[false, false, false, false, false, false, false, false, false, false, false] (by kernel_rfl) rfl rfl ⟨HS.out, HF.out⟩ (fun hHeld => ?_)
      refine pure_ (i := 0) (N := some 8) (v := ?_) (a' := ?_) #[true, false, false, false, false, false, false, false, false, false, false] rfl rfl (by kernel_rfl) (fun _ _ _ h => h) (Or.inl ⟨by rfl, ?_⟩) ?_ ?_
      rotate_left
      · intro w'
        go_simp
        with_reducible rfl
      rotate_left
      · simp only [Act.put, List.setIfInBounds_toArray, List.set_cons_zero, List.set_cons_succ, i64_w, i32_w]
        rfl
      refine pure_ (i := 1) (N := some 9) (v := ?_) (a' := ?_) #[true, true, false, false, false, false, false, false, false, false, false] rfl rfl (by kernel_rfl) (fun _ _ _ h => h) (Or.inl ⟨by rfl, ?_⟩) ?_ ?_
      rotate_left
      · intro w'
        go_simp
        with_reducible rfl
      rotate_left
      · simp only [Act.put, List.setIfInBounds_toArray, List.set_cons_zero, List.set_cons_succ, i64_w, i32_w]
        rfl
      refine pure_ (i := 2) (N := some 10) (v := ?_) (a' := ?_) #[true, true, true, false, false, false, false, false, false, false, false] rfl rfl (by kernel_rfl) (fun _ _ _ h => h) (Or.inl ⟨by rfl, ?_⟩) ?_ ?_
      rotate_left
      · intro w'
        go_simp
        with_reducible rfl
      rotate_left
      · simp only [Act.put, List.setIfInBounds_toArray, List.set_cons_zero, List.set_cons_succ, i64_w, i32_w]
        rfl
      refine pure_ (i := 4) (N := some 12) (v := ?_) (a' := ?_) #[true, true, true, false, true, false, false, false, false, false, false] rfl rfl (by kernel_rfl) (fun _ _ _ h => h) (Or.inl ⟨by rfl, ?_⟩) ?_ ?_
      rotate_left
      · intro w'
        go_simp
        with_reducible rfl
      rotate_left
      · simp only [Act.put, List.setIfInBounds_toArray, List.set_cons_zero, List.set_cons_succ, i64_w, i32_w]
        rfl
      refine take_ (i := 3) (N := some 11) (v := ?_) (a' := ?_) #[true, true, true, true, true, false, false, false, false, false, false] rfl rfl (by kernel_rfl) (fun _ _ _ h => h) (Or.inl ⟨by rfl, ?_⟩) hHeld ?_ ?_
      rotate_left
      · rintro w' ⟨s0, s1⟩
        go_simp
        with_reducible rfl
      rotate_left
      · simp only [Act.put, List.setIfInBounds_toArray, List.set_cons_zero, List.set_cons_succ, i64_w, i32_w]
        rfl
      refine take_ (i := 5) (N := some 13) (v := ?_) (a' := ?_) #[true, true, true, true, true, true, false, false, false, false, false] rfl rfl (by kernel_rfl) (fun _ _ _ h => h) (Or.inl ⟨by rfl, ?_⟩) hHeld ?_ ?_
      rotate_left
      · rintro w' ⟨s0, s1⟩
        go_simp
        with_reducible rfl
      rotate_left
      · simp only [Act.put, List.setIfInBounds_toArray, List.set_cons_zero, List.set_cons_succ, i64_w, i32_w]
        rfl
      refine pure_ (i := 6) (N := some 14) (v := ?_) (a' := ?_) #[true, true, true, true, true, true, true, false, false, false, false] rfl rfl (by kernel_rfl) (fun _ _ _ h => h) (Or.inl ⟨by rfl, ?_⟩) ?_ ?_
      rotate_left
      · intro w'
        go_simp
        with_reducible rfl
      rotate_left
      · simp only [Act.put, List.setIfInBounds_toArray, List.set_cons_zero, List.set_cons_succ, i64_w, i32_w]
        rfl
      refine pure_ (i := 7) (N := some 15) (v := ?_) (a' := ?_) #[true, true, true, true, true, true, true, true, false, false, false] rfl rfl (by kernel_rfl) (fun _ _ _ h => h) (Or.inl ⟨by rfl, ?_⟩) ?_ ?_
      rotate_left
      · intro w'
        go_simp
        with_reducible rfl
      rotate_left
      · simp only [Act.put, List.setIfInBounds_toArray, List.set_cons_zero, List.set_cons_succ, i64_w, i32_w]
        rfl
      refine pure_ (i := 8) (N := some 16) (v := ?_) (a' := ?_) #[true, true, true, true, true, true, true, true, true, false, false] rfl rfl (by kernel_rfl) (fun _ _ _ h => h) (Or.inl ⟨by rfl, ?_⟩) ?_ ?_
      rotate_left
      · intro w'
        go_simp
        with_reducible rfl
      rotate_left
      · simp only [Act.put, List.setIfInBounds_toArray, List.set_cons_zero, List.set_cons_succ, i64_w, i32_w]
        rfl
      refine pure_ (i := 9) (N := some 17) (v := ?_) (a' := ?_) #[true, true, true, true, true, true, true, true, true, true, false] rfl rfl (by kernel_rfl) (fun _ _ _ h => h) (Or.inl ⟨by rfl, ?_⟩) ?_ ?_
      rotate_left
      · intro w'
        go_simp
        with_reducible rfl
      rotate_left
      · simp only [Act.put, List.setIfInBounds_toArray, List.set_cons_zero, List.set_cons_succ, i64_w, i32_w]
        rfl
      refine last_ (i := 10) (N := none) #[true, true, true, true, true, true, true, true, true, true, true] rfl rfl (by kernel_rfl) (by decide) (fun K hK => ?_)
      refine skip_ (w1 := ?_) (by rfl) rfl ?_ ?_
      rotate_left
      · go_simp
        rfl
      refine hK.out _ _ ?_
      clear hK K
      refine done_ (by kernel_rfl) ?_
      clear hHeld
      go_wp2
      go_roundw
      case rel => exact ⟨i + 1, by go_num, by omega, HC0, HC1, HC, HCB⟩
      case measure => simp [intOf]; omega
    · obtain rfl : i = 8 := by omega
      have HL := Aside0.mk (run_loadAt_cells (P := Tryd.prog) (w := wr) 124 Tryd.underlying124 rfl (w.heap.size + 1 + 1) 0 (nums .u32 (begR beg32 8)) (by rw [nums_length, begR_length]; kernel_rfl) (fun j u hu => by rw [Nat.zero_add, cell_of_row _ _ j _ _ _ HK2.out]; simpa using hu))
      have HST := Aside0.mk (run_store_block (P := Tryd.prog) (w.heap.size + 1) 124 (z8 .u32) (nums .u32 (begR beg32 8)).toArray 124 HK1.out (info124 _ (begR_length _ _)) (by simp [z8, nums_length, begR_length]) (by simp [nums, List.all_eq_true]; intros; rfl))
      go_wp2_with (first | (refine load_at (ty := 124) (.tmp 3) rfl rfl HL.out rfl ?_) | (refine store_at (ty := 124) (.tmp 2) (.tmp 19) rfl rfl rfl HST.out rfl rfl ?_))
      refine bodyPost_ret (results_cell_row rfl _ _ _ _ (nums .u32 (begR beg32 8)).toArray _ _ rfl (setRow_heap _ _ _ _ _ _ HK1.out) Tryd.underlying124 rfl (info124 _ (begR_length _ _))) rfl ?_
      exact ⟨rfl, below_row HB0.out (by omega) _⟩

end Go.Proofs.YtmblnflfklmmkaaDoor.Sh
/- The laid tables, out of a row's own condition. -/
namespace Go.Proofs.YtmblnflfklmmkaaDoor.Sh
open Go.ChangeShapes Go.WideShapes Go.ChangeAt Go.RowKit
set_option linter.unusedVariables false
set_option maxRecDepth 100000
abbrev laidTabs : List (String × DataW Unit) := [("imprimatur/sha2.constants", Rows.laid_imprimatur_sha2_constants), ("imprimatur/sha2.starts", Rows.laid_imprimatur_sha2_starts)]
theorem door_met (os : Os) (args : Array Value) : laidMetH Tryd.prog laidTabs ((World.doorLaid Tryd.prog 400 os).forCall (fun _ _ => 0) ⟨#[], args, []⟩).memory :=
  laidMetH_of_parts3 (fuel := 8) (laidMet_of_run' 8 (by kernel_rfl) (by kernel_rfl)) (by kernel_rfl) (by kernel_rfl)
theorem gC : Tryd.prog.globalNamed "imprimatur/sha2.constants" = some 1 := by kernel_rfl
theorem gS : Tryd.prog.globalNamed "imprimatur/sha2.starts" = some 0 := by kernel_rfl
theorem tC : (Tryd.prog.globals[1]?).map (·.type) = some 144 := by kernel_rfl
theorem tS : (Tryd.prog.globals[0]?).map (·.type) = some 125 := by kernel_rfl
theorem c64 : Tryd.prog.cellsOf 27 = 1 := by kernel_rfl
theorem table {H : Type} {enc : TypeId × Value → H} {W : World} {base : Nat} {sp : Nat → Bool} {held : Bool} {t m : Nat} {cs : List Value} {L : List Int} {q : List MemPlace} (ht : Tryd.prog.underlying t = some (.array L.length 27)) (hd : DataW.trod enc Tryd.prog W base sp held m t cs = some (.agg (L.map fun k => .lit (.int .u64 k)), q)) : ∀ i, i < L.length → cs[i]? = some (.int .u64 (L.getD i 0)) := by
  obtain ⟨xs, m1, rfl, hx1, hlen, hn, hel⟩ := DataW.trod_array ht hd
  intro i hi
  have h0 := hel i hi
  rw [c64, Nat.mul_one] at h0
  simp only [Prod.mk.injEq, DataW.agg.injEq] at hx1
  have hg : (xs.map (·.1))[i]? = some (.lit (.int .u64 (L.getD i 0))) := by
    rw [← hx1.1, List.getElem?_map, List.getElem?_eq_getElem hi, List.getD_eq_getElem?_getD, List.getElem?_eq_getElem hi]
    rfl
  rw [List.getElem?_map, List.getElem?_eq_getElem (by omega)] at hg
  rw [List.getElem?_eq_getElem (by omega)] at h0
  obtain ⟨k, e1, e2, _⟩ := DataW.trod_int Tryd.underlying27 h0
  rw [e2] at hg
  simp at hg
  rw [hg] at e1
  have := congrArg (fun l : List Value => l[0]?) e1
  simpa [List.getElem?_take, List.getElem?_drop] using this
theorem of_laid {W : World} (h : laidMetH Tryd.prog laidTabs W) : Glob W := by
  rw [MakeChecks.laidMetH_plain _ _ _ (by kernel_rfl)] at h
  obtain ⟨ps, ⟨g0, t0, cs0, f0, p0, q0, hg0, ht0, hv0, hd0, ⟨g1, t1, cs1, f1, p1, q1, hg1, ht1, hv1, hd1, _, _⟩, _⟩, _, _⟩ := h
  obtain rfl := Option.some.inj (gC.symm.trans hg0)
  obtain rfl := Option.some.inj (gS.symm.trans hg1)
  obtain rfl := Option.some.inj (tC.symm.trans ht0)
  obtain rfl := Option.some.inj (tS.symm.trans ht1)
  have h1 := table (L := constsL) Tryd.underlying144 hd0
  have h2 := table (L := startsL) Tryd.underlying125 hd1
  have k1 : ∀ i, i < 80 → W.cell? ⟨1, i, none⟩ = some (.int .u64 (constsL.getD i 0)) := fun i hi => by
    rw [World.var?_cell hg0 hv0 i, ← Array.getElem?_toList]
    exact h1 i hi
  have k2 : ∀ i, i < 8 → W.cell? ⟨0, i, none⟩ = some (.int .u64 (startsL.getD i 0)) := fun i hi => by
    rw [World.var?_cell hg1 hv1 i, ← Array.getElem?_toList]
    exact h2 i hi
  refine ⟨k2, k1, ?_, ?_⟩
  · have := k2 0 (by decide)
    unfold World.cell? at this
    by_cases hl : 0 < W.heap.size
    · exact hl
    · rw [Array.getElem?_eq_none (show W.heap.size ≤ 0 by omega)] at this; cases this
  · have := k1 0 (by decide)
    unfold World.cell? at this
    by_cases hl : 1 < W.heap.size
    · exact hl
    · rw [Array.getElem?_eq_none (show W.heap.size ≤ 1 by omega)] at this; cases this
end Go.Proofs.YtmblnflfklmmkaaDoor.Sh
/- Contracts of package sha2: words. -/
namespace Go.Proofs.YtmblnflfklmmkaaDoor.Sh
open Go.Proofs.YtmblnflfklmmkaaDoor.Dk
open Go.RowKit Go.Proofs.YtmblnflfklmmkaaDoorW.PrintWords Go.Proofs.YtmblnflfklmmkaaDoorW.PrintLast Go.Proofs.YtmblnflfklmmkaaDoorW.PrintMore
set_option linter.unusedVariables false
set_option linter.unusedSimpArgs false
set_option maxRecDepth 30000
variable {w w1 w2 wr : World}
def z80 : Array Value := (nums .u32 (List.replicate 80 0)).toArray
theorem run_alloc141 (w : World) : (Instr.alloc 141 true (.tuple #[])).run Tryd.prog w = .ok (.pointer (some ⟨w.heap.size, 0, none⟩)) (w.alloc (.cells z80 141)) := by kernel_rfl
theorem info141 (x : List Int) (h : x.length = 80) : (Tryd.prog.info? 141).map (·.size) = some (nums .u32 x).toArray.size := by rw [List.size_toArray, nums_length, h]; kernel_rfl
/-- Bytes in memory. -/
def Bys (w : World) (g o : Nat) (b : List Int) : Prop := ∀ j, j < b.length → w.cell? ⟨g, o + j, none⟩ = some (.int .u8 (b.getD j 0))
theorem Bys.below {g o : Nat} {b : List Int} (h : Bys w g o b) (hg : g < w.heap.size) (hb : Below w.heap.size w w1) : Bys w1 g o b := fun j hj => (cell_block (hb.block g hg) (o + j)).trans (h j hj)
/-- One byte goes into a word. -/
def in1 (x c : Int) : Int := Go.bits .or .u32 (x * 256 % 4294967296) (c % 4294967296)
def inR (b : List Int) (t : Nat) (xs : List Int) : Nat → List Int
  | 0 => xs
  | j + 1 => (inR b t xs j).set t (in1 ((inR b t xs j).getD t 0) (b.getD (t * 4 + j) 0))
def wordsA (b : List Int) : Nat → List Int
  | 0 => List.replicate 80 0
  | t + 1 => inR b t (wordsA b t) 4
theorem inR_length (b : List Int) (t : Nat) (xs : List Int) : ∀ j, (inR b t xs j).length = xs.length
  | 0 => rfl
  | j + 1 => by rw [inR, List.length_set]; exact inR_length b t xs j
theorem wordsA_length (b : List Int) : ∀ t, (wordsA b t).length = 80
  | 0 => by simp [wordsA]
  | t + 1 => by rw [wordsA, inR_length]; exact wordsA_length b t
def mixW (x16 x15 x7 x2 : Int) : Int := IntKind.u32.wrap (IntKind.u32.wrap (IntKind.u32.wrap (x16 + smallM x15 7 18 3) + x7) + smallM x2 17 19 10)
def wordsB (b : List Int) : Nat → List Int
  | 0 => wordsA b 16
  | k + 1 => (wordsB b k).set (k + 16) (mixW ((wordsB b k).getD k 0) ((wordsB b k).getD (k + 1) 0) ((wordsB b k).getD (k + 9) 0) ((wordsB b k).getD (k + 14) 0))
theorem wordsB_length (b : List Int) : ∀ k, (wordsB b k).length = 80
  | 0 => wordsA_length b 16
  | k + 1 => by rw [wordsB, List.length_set]; exact wordsB_length b k
def wordsM (b : List Int) : List Int := wordsB b 48
theorem wordsM_length (b : List Int) : (wordsM b).length = 80 := wordsB_length b 48
def In3 (w w' : World) (xs : List Int) : Prop := w'.heap[w.heap.size]? = some (.cells narrowA 120 (0, 0)) ∧ w'.heap[w.heap.size + 1]? = some (.cells z80 141 (0, 0)) ∧ w'.heap[w.heap.size + 1 + 1]? = some (.cells (nums .u32 xs).toArray 141 (0, 0)) ∧ Below w.heap.size w w'
theorem In3.drew {xs : List Int} (h : In3 w w1 xs) : In3 w w1.drew xs := ⟨h.1, h.2.1, h.2.2.1, below_drew h.2.2.2⟩
theorem In3.set {xs : List Int} (h : In3 w w1 xs) (i : Nat) (v : Int) : In3 w (w1.setCell ⟨w.heap.size + 1 + 1, i, none⟩ (.int .u32 v)) (xs.set i v) := by
  refine ⟨put_other i _ (by omega) h.1, put_other i _ (by omega) h.2.1, ?_, below_put h.2.2.2 (by omega) i _⟩
  have h3 := put_cell h.2.2.1 i (.int .u32 v)
  rw [nums_set] at h3
  exact h3
theorem In3.below {xs : List Int} (h : In3 w w1 xs) (hb : Below w1.heap.size w1 w2) : In3 w w2 xs := ⟨blk_below h.1 hb, blk_below h.2.1 hb, blk_below h.2.2.1 hb, h.2.2.2.trans (hb.mono h.2.2.2.size)⟩
theorem In3.cell {xs : List Int} (h : In3 w w1 xs) {i : Nat} (hi : i < xs.length) : w1.cell? ⟨w.heap.size + 1 + 1, i, none⟩ = some (.int .u32 (xs.getD i 0)) := cell_nums h.2.2.1 hi
theorem In3.free {xs : List Int} (h : In3 w w1 xs) (i : Nat) : w1.frozen? ⟨w.heap.size + 1 + 1, i, none⟩ = false := free_row h.2.2.1 i
theorem In3.shape {xs : List Int} (h : In3 w w1 xs) (j : Nat) (v : Value) (hj : narrowA[j]? = some v) : w1.cell? ⟨w.heap.size, j, none⟩ = some v := cellB3 h.1 j v hj
set_option maxHeartbeats 8000000 in
theorem words_calls (g o c : Nat) (b : List Int) (h64 : b.length = 64) (hc : 64 ≤ c) (hC : Bys w g o b) (hgl : g < w.heap.size) : Calls Tryd.prog 99 #[.agg narrowA, .slice (some ⟨g, o, none⟩) 64 c] w fun e w' => e = .returned (.agg (nums .u32 (wordsM b)).toArray) ∧ Below w.heap.size w w' := by
  have HC := Aside0.mk hC
  have H64 := Aside0.mk h64
  have HGL := Aside0.mk hgl
  have HI := Aside0.mk (show In3 w (((w.alloc (.cells narrowA 120)).alloc (.cells z80 141)).alloc (.cells z80 141)) (wordsA b 0) from ⟨nth3_0 w _ _ _, nth3_1 w _ _ _, nth3_2 w _ _ _, below3 w _ _ _⟩)
  clear hC h64 hgl
  go_enter Tryd.func99, Tryd.ntmps99
  go_wp2_with (first | (refine wpList_alloc rfl rfl _ rfl z80 (run_alloc141 _) ?_))
  go_loopw [6, 8, 10] (fun v6 v8 v10 w' => ∃ t : Nat, v10 = .int .i64 t ∧ t ≤ 16 ∧ Aside0 (In3 w w' (wordsA b t))) (fun v6 v8 v10 _ => 16 - (intOf v10).toNat)
  case atStart => exact ⟨0, rfl, Nat.zero_le _, HI⟩
  case round =>
    clear HI
    obtain ⟨t, rfl, ht, HI⟩ := hrel
    by_cases hlt : t < 16
    · have hs0 := HI.out.shape 0 (.int .i64 4) rfl
      obtain ⟨wA, hwA⟩ : ∃ wA, wA = wr := ⟨_, rfl⟩
      subst hwA
      go_wp2
      clear hs0
      go_loopw [8, 25] (fun v8 v25 w' => ∃ j : Nat, v25 = .int .i64 j ∧ j ≤ 4 ∧ Aside0 (In3 w w' (inR b t (wordsA b t) j))) (fun v8 v25 _ => 4 - (intOf v25).toNat)
      case atStart => exact ⟨0, rfl, Nat.zero_le _, HI⟩
      case round =>
        clear HI
        obtain ⟨j, rfl, hj, HI⟩ := hrel
        by_cases hl4 : j < 4
        · obtain ⟨x, hx⟩ : ∃ x, (inR b t (wordsA b t) j).getD t 0 = x := ⟨_, rfl⟩
          obtain ⟨y, hy⟩ : ∃ y, b.getD (t * 4 + j) 0 = y := ⟨_, rfl⟩
          have hb0 : wr.cell? ⟨g, o + t * 4 + j, none⟩ = some (.int .u8 y) := by
            rw [← hy, Nat.add_assoc]
            exact (HC.out.below HGL.out HI.out.2.2.2) (t * 4 + j) (by have := H64.out; omega)
          have hc0 : wr.cell? ⟨w.heap.size + 1 + 1, t, none⟩ = some (.int .u32 x) := by
            rw [← hx]
            exact HI.out.cell (by rw [inR_length, wordsA_length]; omega)
          have hf0 := HI.out.free t
          have HN := Aside0.mk (show inR b t (wordsA b t) (j + 1) = (inR b t (wordsA b t) j).set t (in1 x y) by rw [inR, hx, hy])
          clear hx hy
          go_wp2
          go_roundw
          case rel => exact ⟨j + 1, by go_num, by omega, ⟨by rw [HN.out]; exact HI.out.set t _⟩⟩
          case measure => simp [intOf]; omega
        · have hj4 : (decide (j < (t + 1) * 4 - t * 4)) = false := by simp; omega
          obtain rfl : j = 4 := by omega
          go_wp2
          go_roundw
          case rel => exact ⟨t + 1, by go_num, by omega, HI⟩
          case measure => simp [intOf]; omega
    · obtain rfl : t = 16 := by omega
      go_wp2
      go_loopw [9] (fun v9 w' => ∃ k : Nat, v9 = .int .i64 (k + 16 : Nat) ∧ k ≤ 48 ∧ Aside0 (In3 w w' (wordsB b k))) (fun v9 _ => 64 - (intOf v9).toNat)
      case atStart => exact ⟨0, rfl, Nat.zero_le _, HI⟩
      case round =>
        clear HI
        obtain ⟨k, rfl, hk, HI⟩ := hrel
        obtain ⟨t, htk⟩ : ∃ t : Nat, t = k + 16 := ⟨_, rfl⟩
        by_cases hlt2 : k < 48
        · have hs2 := HI.out.shape 2 (.int .i64 64) rfl
          rw [← htk]
          have ht64 : t < 64 := by omega
          have HKT := Aside0.mk htk
          have hlk : k < 48 := hlt2
          obtain ⟨x0, hx0⟩ : ∃ x, (wordsB b k).getD k 0 = x := ⟨_, rfl⟩
          obtain ⟨x1, hx1⟩ : ∃ x, (wordsB b k).getD (k + 1) 0 = x := ⟨_, rfl⟩
          obtain ⟨x7, hx7⟩ : ∃ x, (wordsB b k).getD (k + 9) 0 = x := ⟨_, rfl⟩
          obtain ⟨x2, hx2⟩ : ∃ x, (wordsB b k).getD (k + 14) 0 = x := ⟨_, rfl⟩
          have HN := Aside0.mk (show wordsB b (k + 1) = (wordsB b k).set t (mixW x0 x1 x7 x2) by rw [wordsB, hx0, hx1, hx7, hx2, htk])
          have hl : (wordsB b k).length = 80 := wordsB_length b k
          obtain ⟨a1, ha1⟩ : ∃ a, a = k + 1 := ⟨_, rfl⟩
          obtain ⟨a7, ha7⟩ : ∃ a, a = k + 9 := ⟨_, rfl⟩
          obtain ⟨a2, ha2⟩ : ∃ a, a = k + 14 := ⟨_, rfl⟩
          have e0 : wrap64 ((t : Int) - 16) = k := by unfold wrap64; omega
          have e1 : wrap64 ((t : Int) - 15) = a1 := by unfold wrap64; omega
          have e7 : wrap64 ((t : Int) - 7) = a7 := by unfold wrap64; omega
          have e2 : wrap64 ((t : Int) - 2) = a2 := by unfold wrap64; omega
          have HD := Aside0.mk HI.out.drew
          have S0 := fun {W : World} (h : In3 w W (wordsB b k)) => (hx0 ▸ h.cell (i := k) (by omega) : W.cell? ⟨w.heap.size + 1 + 1, k, none⟩ = some (.int .u32 x0))
          have S1 := fun {W : World} (h : In3 w W (wordsB b k)) => (hx1 ▸ ha1 ▸ h.cell (i := k + 1) (by omega) : W.cell? ⟨w.heap.size + 1 + 1, a1, none⟩ = some (.int .u32 x1))
          have S7 := fun {W : World} (h : In3 w W (wordsB b k)) => (hx7 ▸ ha7 ▸ h.cell (i := k + 9) (by omega) : W.cell? ⟨w.heap.size + 1 + 1, a7, none⟩ = some (.int .u32 x7))
          have S2 := fun {W : World} (h : In3 w W (wordsB b k)) => (hx2 ▸ ha2 ▸ h.cell (i := k + 14) (by omega) : W.cell? ⟨w.heap.size + 1 + 1, a2, none⟩ = some (.int .u32 x2))
          have bt : ((t : Int) < 80) = True := eq_true (by omega)
          have b1 : ((a1 : Int) < 80) = True := eq_true (by omega)
          have b7 : ((a7 : Int) < 80) = True := eq_true (by omega)
          have b2 : ((a2 : Int) < 80) = True := eq_true (by omega)
          have b0 : ((k : Int) < 80) = True := eq_true (by omega)
          clear hx0 hx1 hx7 hx2 ha1 ha7 ha2 htk hl
          go_wp2
          refine start_ (n := 32) (S := fun w' => w'.cell? ⟨w.heap.size + 1 + 1, k, none⟩ = some (.int .u32 x0) ∧ w'.cell? ⟨w.heap.size + 1 + 1, a1, none⟩ = some (.int .u32 x1) ∧ w'.cell? ⟨w.heap.size + 1 + 1, a7, none⟩ = some (.int .u32 x7) ∧ w'.cell? ⟨w.heap.size + 1 + 1, a2, none⟩ = some (.int .u32 x2) ∧ w'.cell? ⟨w.heap.size, 1, none⟩ = some (.int .i64 32) ∧ w'.cell? ⟨w.heap.size, 3, none⟩ = some (.int .i64 7) ∧ w'.cell? ⟨w.heap.size, 4, none⟩ = some (.int .i64 18) ∧ w'.cell? ⟨w.heap.size, 5, none⟩ = some (.int .i64 3) ∧ w'.cell? ⟨w.heap.size, 6, none⟩ = some (.int .i64 17) ∧ w'.cell? ⟨w.heap.size, 7, none⟩ = some (.int .i64 19) ∧ w'.cell? ⟨w.heap.size, 8, none⟩ = some (.int .i64 10)) (ds := [31]) #[false, false, false, false, false, false, false, false, false, false, false, false, false, false, false, false, false, false, false, false, false, false, false, false, false, false, false, false, false, false, false, false] (by kernel_rfl) rfl rfl ⟨(S0 HD.out), (S1 HD.out), (S7 HD.out), (S2 HD.out), (HD.out.shape 1 _ rfl), (HD.out.shape 3 _ rfl), (HD.out.shape 4 _ rfl), (HD.out.shape 5 _ rfl), (HD.out.shape 6 _ rfl), (HD.out.shape 7 _ rfl), (HD.out.shape 8 _ rfl)⟩ (fun hHeld => ?_)
          refine pure_ (i := 0) (N := some 46) (v := ?_) (a' := ?_) #[true, false, false, false, false, false, false, false, false, false, false, false, false, false, false, false, false, false, false, false, false, false, false, false, false, false, false, false, false, false, false, false] rfl rfl (by kernel_rfl) (fun _ _ _ h => h) (Or.inl ⟨by rfl, ?_⟩) ?_ ?_
          rotate_left
          · intro w'
            go_simp
            with_reducible rfl
          rotate_left
          · simp only [Act.put, List.setIfInBounds_toArray, List.set_cons_zero, List.set_cons_succ, i64_w, i32_w]
            rfl
          refine pure_ (i := 1) (N := some 47) (v := ?_) (a' := ?_) #[true, true, false, false, false, false, false, false, false, false, false, false, false, false, false, false, false, false, false, false, false, false, false, false, false, false, false, false, false, false, false, false] rfl rfl (by kernel_rfl) (fun _ _ _ h => h) (Or.inl ⟨by rfl, ?_⟩) ?_ ?_
          rotate_left
          · intro w'
            go_simp
            with_reducible rfl
          rotate_left
          · simp only [Act.put, List.setIfInBounds_toArray, List.set_cons_zero, List.set_cons_succ, i64_w, i32_w]
            rfl
          refine pure_ (i := 2) (N := some 48) (v := ?_) (a' := ?_) #[true, true, true, false, false, false, false, false, false, false, false, false, false, false, false, false, false, false, false, false, false, false, false, false, false, false, false, false, false, false, false, false] rfl rfl (by kernel_rfl) (fun _ _ _ h => h) (Or.inl ⟨by rfl, ?_⟩) ?_ ?_
          rotate_left
          · intro w'
            go_simp
            with_reducible rfl
          rotate_left
          · simp only [Act.put, List.setIfInBounds_toArray, List.set_cons_zero, List.set_cons_succ, i64_w, i32_w]
            rfl
          refine pure_ (i := 3) (N := some 49) (v := ?_) (a' := ?_) #[true, true, true, true, false, false, false, false, false, false, false, false, false, false, false, false, false, false, false, false, false, false, false, false, false, false, false, false, false, false, false, false] rfl rfl (by kernel_rfl) (fun _ _ _ h => h) (Or.inl ⟨by rfl, ?_⟩) ?_ ?_
          rotate_left
          · intro w'
            go_simp
            with_reducible rfl
          rotate_left
          · simp only [Act.put, List.setIfInBounds_toArray, List.set_cons_zero, List.set_cons_succ, i64_w, i32_w]
            rfl
          refine pure_ (i := 5) (N := some 51) (v := ?_) (a' := ?_) #[true, true, true, true, false, true, false, false, false, false, false, false, false, false, false, false, false, false, false, false, false, false, false, false, false, false, false, false, false, false, false, false] rfl rfl (by kernel_rfl) (fun _ _ _ h => h) (Or.inl ⟨by rfl, ?_⟩) ?_ ?_
          rotate_left
          · intro w'
            go_simp
            with_reducible rfl
          rotate_left
          · simp only [Act.put, List.setIfInBounds_toArray, List.set_cons_zero, List.set_cons_succ, i64_w, i32_w]
            rfl
          refine pure_ (i := 6) (N := some 52) (v := ?_) (a' := ?_) #[true, true, true, true, false, true, true, false, false, false, false, false, false, false, false, false, false, false, false, false, false, false, false, false, false, false, false, false, false, false, false, false] rfl rfl (by kernel_rfl) (fun _ _ _ h => h) (Or.inl ⟨by rfl, ?_⟩) ?_ ?_
          rotate_left
          · intro w'
            go_simp
            with_reducible rfl
          rotate_left
          · simp only [Act.put, List.setIfInBounds_toArray, List.set_cons_zero, List.set_cons_succ, i64_w, i32_w]
            rfl
          refine pure_ (i := 7) (N := some 53) (v := ?_) (a' := ?_) #[true, true, true, true, false, true, true, true, false, false, false, false, false, false, false, false, false, false, false, false, false, false, false, false, false, false, false, false, false, false, false, false] rfl rfl (by kernel_rfl) (fun _ _ _ h => h) (Or.inl ⟨by rfl, ?_⟩) ?_ ?_
          rotate_left
          · intro w'
            go_simp
            with_reducible rfl
          rotate_left
          · simp only [Act.put, List.setIfInBounds_toArray, List.set_cons_zero, List.set_cons_succ, i64_w, i32_w]
            rfl
          refine pure_ (i := 9) (N := some 55) (v := ?_) (a' := ?_) #[true, true, true, true, false, true, true, true, false, true, false, false, false, false, false, false, false, false, false, false, false, false, false, false, false, false, false, false, false, false, false, false] rfl rfl (by kernel_rfl) (fun _ _ _ h => h) (Or.inl ⟨by rfl, ?_⟩) ?_ ?_
          rotate_left
          · intro w'
            go_simp
            with_reducible rfl
          rotate_left
          · simp only [Act.put, List.setIfInBounds_toArray, List.set_cons_zero, List.set_cons_succ, i64_w, i32_w]
            rfl
          refine pure_ (i := 11) (N := some 57) (v := ?_) (a' := ?_) #[true, true, true, true, false, true, true, true, false, true, false, true, false, false, false, false, false, false, false, false, false, false, false, false, false, false, false, false, false, false, false, false] rfl rfl (by kernel_rfl) (fun _ _ _ h => h) (Or.inl ⟨by rfl, ?_⟩) ?_ ?_
          rotate_left
          · intro w'
            go_simp
            with_reducible rfl
          rotate_left
          · simp only [Act.put, List.setIfInBounds_toArray, List.set_cons_zero, List.set_cons_succ, i64_w, i32_w]
            rfl
          refine pure_ (i := 15) (N := some 61) (v := ?_) (a' := ?_) #[true, true, true, true, false, true, true, true, false, true, false, true, false, false, false, true, false, false, false, false, false, false, false, false, false, false, false, false, false, false, false, false] rfl rfl (by kernel_rfl) (fun _ _ _ h => h) (Or.inl ⟨by rfl, ?_⟩) ?_ ?_
          rotate_left
          · intro w'
            go_simp
            with_reducible rfl
          rotate_left
          · simp only [Act.put, List.setIfInBounds_toArray, List.set_cons_zero, List.set_cons_succ, i64_w, i32_w]
            rfl
          refine pure_ (i := 16) (N := some 62) (v := ?_) (a' := ?_) #[true, true, true, true, false, true, true, true, false, true, false, true, false, false, false, true, true, false, false, false, false, false, false, false, false, false, false, false, false, false, false, false] rfl rfl (by kernel_rfl) (fun _ _ _ h => h) (Or.inl ⟨by rfl, ?_⟩) ?_ ?_
          rotate_left
          · intro w'
            go_simp
            with_reducible rfl
          rotate_left
          · simp only [Act.put, List.setIfInBounds_toArray, List.set_cons_zero, List.set_cons_succ, i64_w, i32_w]
            rfl
          refine pure_ (i := 17) (N := some 63) (v := ?_) (a' := ?_) #[true, true, true, true, false, true, true, true, false, true, false, true, false, false, false, true, true, true, false, false, false, false, false, false, false, false, false, false, false, false, false, false] rfl rfl (by kernel_rfl) (fun _ _ _ h => h) (Or.inl ⟨by rfl, ?_⟩) ?_ ?_
          rotate_left
          · intro w'
            go_simp
            with_reducible rfl
          rotate_left
          · simp only [Act.put, List.setIfInBounds_toArray, List.set_cons_zero, List.set_cons_succ, i64_w, i32_w]
            rfl
          refine pure_ (i := 20) (N := some 66) (v := ?_) (a' := ?_) #[true, true, true, true, false, true, true, true, false, true, false, true, false, false, false, true, true, true, false, false, true, false, false, false, false, false, false, false, false, false, false, false] rfl rfl (by kernel_rfl) (fun _ _ _ h => h) (Or.inl ⟨by rfl, ?_⟩) ?_ ?_
          rotate_left
          · intro w'
            go_simp
            with_reducible rfl
          rotate_left
          · simp only [Act.put, List.setIfInBounds_toArray, List.set_cons_zero, List.set_cons_succ, i64_w, i32_w]
            rfl
          refine pure_ (i := 21) (N := some 67) (v := ?_) (a' := ?_) #[true, true, true, true, false, true, true, true, false, true, false, true, false, false, false, true, true, true, false, false, true, true, false, false, false, false, false, false, false, false, false, false] rfl rfl (by kernel_rfl) (fun _ _ _ h => h) (Or.inl ⟨by rfl, ?_⟩) ?_ ?_
          rotate_left
          · intro w'
            go_simp
            with_reducible rfl
          rotate_left
          · simp only [Act.put, List.setIfInBounds_toArray, List.set_cons_zero, List.set_cons_succ, i64_w, i32_w]
            rfl
          refine pure_ (i := 22) (N := some 68) (v := ?_) (a' := ?_) #[true, true, true, true, false, true, true, true, false, true, false, true, false, false, false, true, true, true, false, false, true, true, true, false, false, false, false, false, false, false, false, false] rfl rfl (by kernel_rfl) (fun _ _ _ h => h) (Or.inl ⟨by rfl, ?_⟩) ?_ ?_
          rotate_left
          · intro w'
            go_simp
            with_reducible rfl
          rotate_left
          · simp only [Act.put, List.setIfInBounds_toArray, List.set_cons_zero, List.set_cons_succ, i64_w, i32_w]
            rfl
          refine pure_ (i := 24) (N := some 70) (v := ?_) (a' := ?_) #[true, true, true, true, false, true, true, true, false, true, false, true, false, false, false, true, true, true, false, false, true, true, true, false, true, false, false, false, false, false, false, false] rfl rfl (by kernel_rfl) (fun _ _ _ h => h) (Or.inl ⟨by rfl, ?_⟩) ?_ ?_
          rotate_left
          · intro w'
            go_simp
            with_reducible rfl
          rotate_left
          · simp only [Act.put, List.setIfInBounds_toArray, List.set_cons_zero, List.set_cons_succ, i64_w, i32_w]
            rfl
          refine pure_ (i := 26) (N := some 72) (v := ?_) (a' := ?_) #[true, true, true, true, false, true, true, true, false, true, false, true, false, false, false, true, true, true, false, false, true, true, true, false, true, false, true, false, false, false, false, false] rfl rfl (by kernel_rfl) (fun _ _ _ h => h) (Or.inl ⟨by rfl, ?_⟩) ?_ ?_
          rotate_left
          · intro w'
            go_simp
            with_reducible rfl
          rotate_left
          · simp only [Act.put, List.setIfInBounds_toArray, List.set_cons_zero, List.set_cons_succ, i64_w, i32_w]
            rfl
          refine take_ (i := 4) (N := some 50) (v := ?_) (a' := ?_) #[true, true, true, true, true, true, true, true, false, true, false, true, false, false, false, true, true, true, false, false, true, true, true, false, true, false, true, false, false, false, false, false] rfl rfl (by kernel_rfl) (fun _ _ _ h => h) (Or.inl ⟨by rfl, ?_⟩) hHeld ?_ ?_
          rotate_left
          · rintro w' ⟨s0, s1, s2, s3, s4, s5, s6, s7, s8, s9, s10⟩
            go_simp
            with_reducible rfl
          rotate_left
          · simp only [Act.put, List.setIfInBounds_toArray, List.set_cons_zero, List.set_cons_succ, i64_w, i32_w]
            rfl
          refine take_ (i := 8) (N := some 54) (v := ?_) (a' := ?_) #[true, true, true, true, true, true, true, true, true, true, false, true, false, false, false, true, true, true, false, false, true, true, true, false, true, false, true, false, false, false, false, false] rfl rfl (by kernel_rfl) (fun _ _ _ h => h) (Or.inl ⟨by rfl, ?_⟩) hHeld ?_ ?_
          rotate_left
          · rintro w' ⟨s0, s1, s2, s3, s4, s5, s6, s7, s8, s9, s10⟩
            go_simp
            with_reducible rfl
          rotate_left
          · simp only [Act.put, List.setIfInBounds_toArray, List.set_cons_zero, List.set_cons_succ, i64_w, i32_w]
            rfl
          refine take_ (i := 10) (N := some 56) (v := ?_) (a' := ?_) #[true, true, true, true, true, true, true, true, true, true, true, true, false, false, false, true, true, true, false, false, true, true, true, false, true, false, true, false, false, false, false, false] rfl rfl (by kernel_rfl) (fun _ _ _ h => h) (Or.inl ⟨by rfl, ?_⟩) hHeld ?_ ?_
          rotate_left
          · rintro w' ⟨s0, s1, s2, s3, s4, s5, s6, s7, s8, s9, s10⟩
            go_simp
            with_reducible rfl
          rotate_left
          · simp only [Act.put, List.setIfInBounds_toArray, List.set_cons_zero, List.set_cons_succ, i64_w, i32_w]
            rfl
          refine take_ (i := 12) (N := some 58) (v := ?_) (a' := ?_) #[true, true, true, true, true, true, true, true, true, true, true, true, true, false, false, true, true, true, false, false, true, true, true, false, true, false, true, false, false, false, false, false] rfl rfl (by kernel_rfl) (fun _ _ _ h => h) (Or.inl ⟨by rfl, ?_⟩) hHeld ?_ ?_
          rotate_left
          · rintro w' ⟨s0, s1, s2, s3, s4, s5, s6, s7, s8, s9, s10⟩
            go_simp
            with_reducible rfl
          rotate_left
          · simp only [Act.put, List.setIfInBounds_toArray, List.set_cons_zero, List.set_cons_succ, i64_w, i32_w]
            rfl
          refine take_ (i := 18) (N := some 64) (v := ?_) (a' := ?_) #[true, true, true, true, true, true, true, true, true, true, true, true, true, false, false, true, true, true, true, false, true, true, true, false, true, false, true, false, false, false, false, false] rfl rfl (by kernel_rfl) (fun _ _ _ h => h) (Or.inl ⟨by rfl, ?_⟩) hHeld ?_ ?_
          rotate_left
          · rintro w' ⟨s0, s1, s2, s3, s4, s5, s6, s7, s8, s9, s10⟩
            go_simp
            with_reducible rfl
          rotate_left
          · simp only [Act.put, List.setIfInBounds_toArray, List.set_cons_zero, List.set_cons_succ, i64_w, i32_w]
            rfl
          refine take_ (i := 23) (N := some 69) (v := ?_) (a' := ?_) #[true, true, true, true, true, true, true, true, true, true, true, true, true, false, false, true, true, true, true, false, true, true, true, true, true, false, true, false, false, false, false, false] rfl rfl (by kernel_rfl) (fun _ _ _ h => h) (Or.inl ⟨by rfl, ?_⟩) hHeld ?_ ?_
          rotate_left
          · rintro w' ⟨s0, s1, s2, s3, s4, s5, s6, s7, s8, s9, s10⟩
            go_simp
            with_reducible rfl
          rotate_left
          · simp only [Act.put, List.setIfInBounds_toArray, List.set_cons_zero, List.set_cons_succ, i64_w, i32_w]
            rfl
          refine take_ (i := 25) (N := some 71) (v := ?_) (a' := ?_) #[true, true, true, true, true, true, true, true, true, true, true, true, true, false, false, true, true, true, true, false, true, true, true, true, true, true, true, false, false, false, false, false] rfl rfl (by kernel_rfl) (fun _ _ _ h => h) (Or.inl ⟨by rfl, ?_⟩) hHeld ?_ ?_
          rotate_left
          · rintro w' ⟨s0, s1, s2, s3, s4, s5, s6, s7, s8, s9, s10⟩
            go_simp
            with_reducible rfl
          rotate_left
          · simp only [Act.put, List.setIfInBounds_toArray, List.set_cons_zero, List.set_cons_succ, i64_w, i32_w]
            rfl
          refine take_ (i := 27) (N := some 73) (v := ?_) (a' := ?_) #[true, true, true, true, true, true, true, true, true, true, true, true, true, false, false, true, true, true, true, false, true, true, true, true, true, true, true, true, false, false, false, false] rfl rfl (by kernel_rfl) (fun _ _ _ h => h) (Or.inl ⟨by rfl, ?_⟩) hHeld ?_ ?_
          rotate_left
          · rintro w' ⟨s0, s1, s2, s3, s4, s5, s6, s7, s8, s9, s10⟩
            go_simp
            with_reducible rfl
          rotate_left
          · simp only [Act.put, List.setIfInBounds_toArray, List.set_cons_zero, List.set_cons_succ, i64_w, i32_w]
            rfl
          refine one_ (i := 13) (N := some 59) #[true, true, true, true, true, true, true, true, true, true, true, true, true, true, false, true, true, true, true, false, true, true, true, true, true, true, true, true, false, false, false, false] rfl rfl (by kernel_rfl) (by decide) (fun K hK => ?_)
          refine goes_ Tryd.func103 (by kernel_rfl) rfl #[.int .u32 x1, .agg #[.int .i64 7, .int .i64 18, .int .i64 3], .int .i64 32] (by rfl) rfl rfl (by simp only [List.map_toArray, List.map_cons, List.map_nil]; rfl) ?_
          with_reducible refine (small_calls x1 7 18 3 (by decide) (by decide) (by decide) (by decide) (by decide) (by decide) _).mono ?_
          rintro e w2 ⟨rfl, hd⟩
          refine ⟨_, rfl, ?_⟩
          have HI2 := Aside0.mk (HD.out.below hd)
          clear hd
          refine hK.out _ _ ⟨(S0 HI2.out), (S1 HI2.out), (S7 HI2.out), (S2 HI2.out), (HI2.out.shape 1 _ rfl), (HI2.out.shape 3 _ rfl), (HI2.out.shape 4 _ rfl), (HI2.out.shape 5 _ rfl), (HI2.out.shape 6 _ rfl), (HI2.out.shape 7 _ rfl), (HI2.out.shape 8 _ rfl)⟩ (fun hHeld => ?_)
          clear hK K
          refine norm_ (a' := ?_) ?_ ?_
          rotate_left
          · show Act.put _ (some 59) _ = _
            simp only [Act.put, List.setIfInBounds_toArray, List.set_cons_zero, List.set_cons_succ, i64_w, i32_w]
            rfl
          refine pure_ (i := 14) (N := some 60) (v := ?_) (a' := ?_) #[true, true, true, true, true, true, true, true, true, true, true, true, true, true, true, true, true, true, true, false, true, true, true, true, true, true, true, true, false, false, false, false] rfl rfl (by kernel_rfl) (fun _ _ _ h => h) (Or.inl ⟨by rfl, ?_⟩) ?_ ?_
          rotate_left
          · intro w'
            go_simp
            with_reducible rfl
          rotate_left
          · simp only [Act.put, List.setIfInBounds_toArray, List.set_cons_zero, List.set_cons_succ, i64_w, i32_w]
            rfl
          refine pure_ (i := 19) (N := some 65) (v := ?_) (a' := ?_) #[true, true, true, true, true, true, true, true, true, true, true, true, true, true, true, true, true, true, true, true, true, true, true, true, true, true, true, true, false, false, false, false] rfl rfl (by kernel_rfl) (fun _ _ _ h => h) (Or.inl ⟨by rfl, ?_⟩) ?_ ?_
          rotate_left
          · intro w'
            go_simp
            with_reducible rfl
          rotate_left
          · simp only [Act.put, List.setIfInBounds_toArray, List.set_cons_zero, List.set_cons_succ, i64_w, i32_w]
            rfl
          refine one_ (i := 28) (N := some 74) #[true, true, true, true, true, true, true, true, true, true, true, true, true, true, true, true, true, true, true, true, true, true, true, true, true, true, true, true, true, false, false, false] rfl rfl (by kernel_rfl) (by decide) (fun K hK => ?_)
          refine goes_ Tryd.func103 (by kernel_rfl) rfl #[.int .u32 x2, .agg #[.int .i64 17, .int .i64 19, .int .i64 10], .int .i64 32] (by rfl) rfl rfl (by simp only [List.map_toArray, List.map_cons, List.map_nil]; rfl) ?_
          with_reducible refine (small_calls x2 17 19 10 (by decide) (by decide) (by decide) (by decide) (by decide) (by decide) _).mono ?_
          rintro e w3 ⟨rfl, hd⟩
          refine ⟨_, rfl, ?_⟩
          have HI3 := Aside0.mk (HI2.out.below hd)
          have hf3 := HI3.out.free t
          have hc3 := HI3.out.cell (i := t) (by rw [wordsB_length]; omega)
          clear hd
          refine hK.out _ _ ⟨(S0 HI3.out), (S1 HI3.out), (S7 HI3.out), (S2 HI3.out), (HI3.out.shape 1 _ rfl), (HI3.out.shape 3 _ rfl), (HI3.out.shape 4 _ rfl), (HI3.out.shape 5 _ rfl), (HI3.out.shape 6 _ rfl), (HI3.out.shape 7 _ rfl), (HI3.out.shape 8 _ rfl)⟩ (fun hHeld => ?_)
          clear hK K
          refine norm_ (a' := ?_) ?_ ?_
          rotate_left
          · show Act.put _ (some 74) _ = _
            simp only [Act.put, List.setIfInBounds_toArray, List.set_cons_zero, List.set_cons_succ, i64_w, i32_w]
            rfl
          refine pure_ (i := 29) (N := some 75) (v := ?_) (a' := ?_) #[true, true, true, true, true, true, true, true, true, true, true, true, true, true, true, true, true, true, true, true, true, true, true, true, true, true, true, true, true, true, false, false] rfl rfl (by kernel_rfl) (fun _ _ _ h => h) (Or.inl ⟨by rfl, ?_⟩) ?_ ?_
          rotate_left
          · intro w'
            go_simp
            with_reducible rfl
          rotate_left
          · simp only [Act.put, List.setIfInBounds_toArray, List.set_cons_zero, List.set_cons_succ, i64_w, i32_w]
            rfl
          refine pure_ (i := 30) (N := some 76) (v := ?_) (a' := ?_) #[true, true, true, true, true, true, true, true, true, true, true, true, true, true, true, true, true, true, true, true, true, true, true, true, true, true, true, true, true, true, true, false] rfl rfl (by kernel_rfl) (fun _ _ _ h => h) (Or.inl ⟨by rfl, ?_⟩) ?_ ?_
          rotate_left
          · intro w'
            go_simp
            with_reducible rfl
          rotate_left
          · simp only [Act.put, List.setIfInBounds_toArray, List.set_cons_zero, List.set_cons_succ, i64_w, i32_w]
            rfl
          refine last_ (i := 31) (N := none) #[true, true, true, true, true, true, true, true, true, true, true, true, true, true, true, true, true, true, true, true, true, true, true, true, true, true, true, true, true, true, true, true] rfl rfl (by kernel_rfl) (by decide) (fun K hK => ?_)
          refine skip_ (w1 := ?_) (by rfl) rfl ?_ ?_
          rotate_left
          · go_simp
            rfl
          refine hK.out _ _ ?_
          clear hK K
          refine done_ (by kernel_rfl) ?_
          clear hHeld
          go_wp2
          go_roundw
          case rel => exact ⟨k + 1, by have := HKT.out; subst this; go_num, by omega, ⟨by rw [HN.out]; exact HI3.out.set t _⟩⟩
          case measure => simp [intOf]; omega
        · obtain rfl : k = 48 := by omega
          have hs2 := HI.out.shape 2 (.int .i64 64) rfl
          have HL := Aside0.mk (run_loadAt_cells (P := Tryd.prog) (w := wr) 141 Tryd.underlying141 rfl (w.heap.size + 1 + 1) 0 (nums .u32 (wordsB b 48)) (by rw [nums_length, wordsB_length]; kernel_rfl) (fun j u hu => by rw [Nat.zero_add, cell_of_row _ _ j _ _ _ HI.out.2.2.1]; simpa using hu))
          have HST := Aside0.mk (run_store_block (P := Tryd.prog) (w.heap.size + 1) 141 z80 (nums .u32 (wordsB b 48)).toArray 141 HI.out.2.1 (info141 _ (wordsB_length _ _)) (by simp [z80, nums_length, wordsB_length]) (by simp [nums, List.all_eq_true]; intros; rfl))
          clear htk
          go_wp2_with (first | (refine load_at (ty := 141) (.tmp 5) rfl rfl HL.out rfl ?_) | (refine store_at (ty := 141) (.tmp 4) (.tmp 77) rfl rfl rfl HST.out rfl rfl ?_))
          refine bodyPost_ret (results_cell_row rfl _ _ _ _ (nums .u32 (wordsB b 48)).toArray _ _ rfl (setRow_heap _ _ _ _ _ _ HI.out.2.1) Tryd.underlying141 rfl (info141 _ (wordsB_length _ _))) rfl ?_
          exact ⟨rfl, below_row HI.out.2.2.2 (by omega) _⟩

end Go.Proofs.YtmblnflfklmmkaaDoor.Sh
/- Steps of a walk by hand: each is tried under reducible transparency alone, so that it fails at once where it does not fit. -/
namespace Go.Proofs.YtmblnflfklmmkaaDoor.Dk
open Go.RowKit Go.Proofs.YtmblnflfklmmkaaDoorW.PrintWords Go.Proofs.YtmblnflfklmmkaaDoorW.PrintLast Go.Proofs.YtmblnflfklmmkaaDoorW.PrintMore
set_option linter.unusedVariables false
section
variable {P : Program} {ops : Array Oper} {o : Oper} {rest : List Oper} {a : Act} {w w1 : World} {Q : Exit → Act → World → Prop}
theorem alloc_at {e : TypeId} {cs : Array Value} (hg : o.guard = none) (ho : o.op = .alloc e) (hrun : (Instr.alloc e true (.tuple #[])).run P w = .ok (.pointer (some ⟨w.heap.size, 0, none⟩)) (w.alloc (.cells cs e)))
    (h : wpList P ops Q rest (a.put o.dst (.pointer (some ⟨w.heap.size, 0, none⟩))) (w.alloc (.cells cs e))) : wpList P ops Q (o :: rest) a w := wpList_alloc hg ho _ rfl cs hrun h
theorem build_at {t : TypeId} {parts : Array (Nat × Operand)} {args : Array (Nat × Value)} {v : Value} (hg : o.guard = none) (ho : o.op = .build t parts) (hrun : ∀ w, (Instr.build t args).run P w = .ok v w) (he : parts.map (fun x => (x.1, a.eval x.2)) = args)
    (h : wpList P ops Q rest (a.put o.dst v) w) : wpList P ops Q (o :: rest) a w := by
  refine wpList_plain hg fun K hK => ?_
  have he : (execOp a.eval o).run P w = .ok (.value v) w := by
    subst he
    unfold execOp
    simp [ho, hrun]
  unfold Oper.wp
  rw [he, Oper.upon_value]
  exact hK _ _ h
theorem copy_at {s x : Operand} {t t' : TypeId} {vs vx v : Value} (hg : o.guard = none) (ho : o.op = .call { callee := .builtin .copy, args := #[s, x], argTypes := #[t, t'] }) (hr : ∀ ty, (Builtin.copy_ #[t, t'] ty #[vs, vx]).run P w = .ok v w1) (hs : a.eval s = vs) (hx : a.eval x = vx)
    (h : wpList P ops Q rest (a.put o.dst v) w1) : wpList P ops Q (o :: rest) a w := by
  refine wpList_plain hg fun K hK => ?_
  unfold Oper.wp execOp
  simp only [ho, resolve, invoke, builtin, Sem.run_bind, Sem.run_pure, Result.andThen_ok, List.map_toArray, List.map_cons, List.map_nil, hs, hx, hr]
  exact hK _ _ h
theorem make_at {t : TypeId} {x y : Operand} {n c v : Value} (hg : o.guard = none) (ho : o.op = .makeSlice t x y) (hrun : (Instr.makeSlice t n c).run P w = .ok v w1) (hx : a.eval x = n) (hy : a.eval y = c)
    (h : wpList P ops Q rest (a.put o.dst v) w1) : wpList P ops Q (o :: rest) a w := by
  refine wpList_plain hg fun K hK => ?_
  have he : (execOp a.eval o).run P w = .ok (.value v) w1 := by
    subst hx
    subst hy
    unfold execOp
    simp [ho, hrun]
  unfold Oper.wp
  rw [he, Oper.upon_value]
  exact hK _ _ h
theorem index_at {t : TypeId} {x y : Operand} {p n v : Value} (hg : o.guard = none) (ho : o.op = .index t x y) (hrun : (Instr.index t p n).run P w = .ok v w) (hx : a.eval x = p) (hy : a.eval y = n)
    (h : wpList P ops Q rest (a.put o.dst v) w) : wpList P ops Q (o :: rest) a w := by
  refine wpList_plain hg fun K hK => ?_
  have he : (execOp a.eval o).run P w = .ok (.value v) w := by
    subst hx
    subst hy
    unfold execOp
    simp [ho, hrun]
  unfold Oper.wp
  rw [he, Oper.upon_value]
  exact hK _ _ h
end
theorem exec_make {P : Program} {ρ : Operand → Value} {o : Oper} {t : TypeId} {x y : Operand} {n c v : Value} {w w1 : World} (ho : o.op = .makeSlice t x y) (hx : ρ x = n) (hy : ρ y = c) (hrun : (Instr.makeSlice t n c).run P w = .ok v w1) : (execOp ρ o).run P w = .ok (.value v) w1 := by
  subst hx; subst hy
  unfold execOp
  simp [ho, hrun]
/-- An element of an array by value. -/
theorem run_index_row {P : Program} (w : World) (t e : TypeId) (k : IntKind) (n : Nat) (cs : Array Value) (i : Nat) (v : Value) (h : P.underlying t = some (.array n e)) (he : P.underlying e = some (.int k)) (hi : i < n) (hc : cs[i]? = some v) (hs : (P.info? e).map (·.size) = some 1) : (Instr.index t (.agg cs) (.int .i64 i)).run P w = .ok v w := by
  have hn : (0 ≤ (i : Int) ∧ (i : Int) < (n : Int)) := by omega
  obtain ⟨ie, hie, hs1⟩ := Option.map_eq_some_iff.1 hs
  have ha : (isAgg e).run P w = .ok false w := by
    unfold isAgg
    simp [run_underlying he]
  have hz : (sizeOf e).run P w = .ok 1 w := by simp [sizeOf, typeInfo, hie, hs1]
  simp [Instr.index, run_underlying h, asIntOf, hn, go_sem, ha, hz, hc, hi]
end Go.Proofs.YtmblnflfklmmkaaDoor.Dk
/- Contracts of package sha2: mix. -/
namespace Go.Proofs.YtmblnflfklmmkaaDoor.Sh
open Go.Proofs.YtmblnflfklmmkaaDoor.Dk
open Go.RowKit Go.Proofs.YtmblnflfklmmkaaDoorW.PrintWords Go.Proofs.YtmblnflfklmmkaaDoorW.PrintLast Go.Proofs.YtmblnflfklmmkaaDoorW.PrintMore
set_option linter.unusedVariables false
set_option linter.unusedSimpArgs false
set_option maxRecDepth 30000
variable {w w1 w2 wr : World}
structure Mx (w w' : World) (b : Nat) (hs ws vs : List Int) : Prop where
  bs : w'.heap[w.heap.size]? = some (.cells narrowA 120 (0, 0))
  bh : w'.heap[w.heap.size + 1]? = some (.cells (nums .u32 hs).toArray 124 (0, 0))
  br : w'.heap[w.heap.size + 1 + 1]? = some (.cells (z8 .u32) 124 (0, 0))
  bw : w'.heap[b]? = some (.cells (nums .u32 ws).toArray 141 (0, 0))
  bv : w'.heap[b + 1]? = some (.cells (nums .u32 vs).toArray 124 (0, 0))
  lt : w.heap.size + 1 + 1 < b
  bb : Below w.heap.size w w'
variable {b : Nat} {hs ws vs : List Int}
theorem Mx.drew (h : Mx w w1 b hs ws vs) : Mx w w1.drew b hs ws vs := ⟨h.bs, h.bh, h.br, h.bw, h.bv, h.lt, below_drew h.bb⟩
theorem Mx.below (h : Mx w w1 b hs ws vs) (hb : Below w1.heap.size w1 w2) : Mx w w2 b hs ws vs := ⟨blk_below h.bs hb, blk_below h.bh hb, blk_below h.br hb, blk_below h.bw hb, blk_below h.bv hb, h.lt, h.bb.trans (hb.mono h.bb.size)⟩
theorem Mx.cv (h : Mx w w1 b hs ws vs) {i : Nat} (hi : i < vs.length) : w1.cell? ⟨b + 1, i, none⟩ = some (.int .u32 (vs.getD i 0)) := cell_nums h.bv hi
theorem Mx.cw (h : Mx w w1 b hs ws vs) {i : Nat} (hi : i < ws.length) : w1.cell? ⟨b, i, none⟩ = some (.int .u32 (ws.getD i 0)) := cell_nums h.bw hi
theorem Mx.ch (h : Mx w w1 b hs ws vs) {i : Nat} (hi : i < hs.length) : w1.cell? ⟨w.heap.size + 1, i, none⟩ = some (.int .u32 (hs.getD i 0)) := cell_nums h.bh hi
theorem Mx.shape (h : Mx w w1 b hs ws vs) (j : Nat) (v : Value) (hj : narrowA[j]? = some v) : w1.cell? ⟨w.heap.size, j, none⟩ = some v := cellB3 h.bs j v hj
theorem Mx.setV (h : Mx w w1 b hs ws vs) (us : List Int) : Mx w (w1.setRow (b + 1) (nums .u32 us).toArray) b hs ws us := by
  have hl := h.lt
  have hn := blk_lt h.bv
  have o : ∀ k {o : Obj}, k ≠ b + 1 → w1.heap[k]? = some o → (w1.setRow (b + 1) (nums .u32 us).toArray).heap[k]? = some o := fun k o hk hh => (setRow_other _ _ _ _ hk).trans hh
  exact ⟨o _ (by omega) h.bs, o _ (by omega) h.bh, o _ (by omega) h.br, o _ (by omega) h.bw, setRow_heap _ _ _ _ _ _ h.bv, h.lt, below_row h.bb (by omega) _⟩
theorem Mx.setH (h : Mx w w1 b hs ws vs) (i : Nat) (u : Int) : Mx w (w1.setCell ⟨w.heap.size + 1, i, none⟩ (.int .u32 u)) b (hs.set i u) ws vs := by
  have hl := h.lt
  refine ⟨put_other i _ (by omega) h.bs, ?_, put_other i _ (by omega) h.br, put_other i _ (by omega) h.bw, put_other i _ (by omega) h.bv, h.lt, below_put h.bb (by omega) i _⟩
  have h3 := put_cell h.bh i (.int .u32 u)
  rw [nums_set] at h3
  exact h3
def rX (v7 e v5 v6 k x : Int) : Int := IntKind.u32.wrap (IntKind.u32.wrap (IntKind.u32.wrap (IntKind.u32.wrap (v7 + bigM e 6 11 25) + Go.bits .xor .u32 (Go.bits .and .u32 e v5) (Go.bits .and .u32 (Go.bits .xor .u32 4294967295 e) v6)) + k) + x)
def rY (a v1 v2 : Int) : Int := IntKind.u32.wrap (bigM a 2 13 22 + Go.bits .xor .u32 (Go.bits .xor .u32 (Go.bits .and .u32 a v1) (Go.bits .and .u32 a v2)) (Go.bits .and .u32 v1 v2))
def roundM (v : List Int) (k x : Int) : List Int :=
  [(rX (v.getD 7 0) (v.getD 4 0) (v.getD 5 0) (v.getD 6 0) k x + rY (v.getD 0 0) (v.getD 1 0) (v.getD 2 0)) % 4294967296, v.getD 0 0, v.getD 1 0, v.getD 2 0, (v.getD 3 0 + rX (v.getD 7 0) (v.getD 4 0) (v.getD 5 0) (v.getD 6 0) k x) % 4294967296, v.getD 4 0, v.getD 5 0, v.getD 6 0]
def kM (t : Nat) : Int := IntKind.u32.wrap (constsL.getD t 0 / 4294967296)
def roundsM (h ws : List Int) : Nat → List Int
  | 0 => h
  | t + 1 => roundM (roundsM h ws t) (kM t) (ws.getD t 0)
theorem roundsM_length {h ws : List Int} (hh : h.length = 8) : ∀ t, (roundsM h ws t).length = 8
  | 0 => hh
  | t + 1 => rfl
theorem mx_start {wa w1 : World} (h0 : wa.heap[w.heap.size]? = some (.cells narrowA 120 (0, 0))) (h1 : wa.heap[w.heap.size + 1]? = some (.cells (nums .u32 hs).toArray 124 (0, 0))) (h2 : wa.heap[w.heap.size + 1 + 1]? = some (.cells (z8 .u32) 124 (0, 0))) (hb : Below w.heap.size w wa) (hl : w.heap.size + 1 + 1 < wa.heap.size) (hb1 : Below wa.heap.size wa w1) :
    Mx w ((w1.alloc (.cells (nums .u32 ws).toArray 141)).alloc (.cells (nums .u32 hs).toArray 124)) w1.heap.size hs ws (roundsM hs ws 0) := by
  have b2 : Below w1.heap.size w1 ((w1.alloc (.cells (nums .u32 ws).toArray 141)).alloc (.cells (nums .u32 hs).toArray 124)) := below_alloc (below_alloc (Below.refl _ _) _) _
  have b3 := hb1.trans (b2.mono hb1.size)
  exact ⟨blk_below h0 b3, blk_below h1 b3, blk_below h2 b3, blk_below (heap_alloc_new w1 _) (below_alloc (Below.refl _ _) _), nth2_1 w1 _ _, Nat.lt_of_lt_of_le hl hb1.size, hb.trans (b3.mono hb.size)⟩
theorem u32_one (x : List Int) : ((nums .u32 x).toArray : Array Value).all (·.oneCell') = true := by
  simp [nums, List.all_eq_true]
  intro a _
  rfl
def addR (h v : List Int) : Nat → List Int
  | 0 => h
  | i + 1 => (addR h v i).set i (IntKind.u32.wrap ((addR h v i).getD i 0 + v.getD i 0))
theorem addR_length (h v : List Int) : ∀ i, (addR h v i).length = h.length
  | 0 => rfl
  | i + 1 => by rw [addR, List.length_set]; exact addR_length h v i
def mixM (h b : List Int) : List Int := addR h (roundsM h (wordsM b) 64) 8
theorem mixM_length {h b : List Int} (hh : h.length = 8) : (mixM h b).length = 8 := by rw [mixM, addR_length, hh]
attribute [local irreducible] bigM
attribute [irreducible] kM

set_option maxHeartbeats 16000000 in
theorem mix_calls (hg : Glob w) (g o c : Nat) (x hv : List Int) (h64 : x.length = 64) (h8 : hv.length = 8) (hc : 64 ≤ c) (hC : Bys w g o x) (hgl : g < w.heap.size) : Calls Tryd.prog 93 #[.agg narrowA, .agg (nums .u32 hv).toArray, .slice (some ⟨g, o, none⟩) 64 c] w fun e w' => e = .returned (.agg (nums .u32 (mixM hv x)).toArray) ∧ Below w.heap.size w w' := by
  have HG := Aside0.mk hg
  have H8 := Aside0.mk h8
  obtain ⟨wa, hwa⟩ : ∃ wa, wa = ((w.alloc (.cells narrowA 120)).alloc (.cells (nums .u32 hv).toArray 124)).alloc (.cells (z8 .u32) 124) := ⟨_, rfl⟩
  have HA0 := Aside0.mk (show wa.heap[w.heap.size]? = some (.cells narrowA 120 (0, 0)) from hwa ▸ nth3_0 w _ _ _)
  have HA1 := Aside0.mk (show wa.heap[w.heap.size + 1]? = some (.cells (nums .u32 hv).toArray 124 (0, 0)) from hwa ▸ nth3_1 w _ _ _)
  have HA2 := Aside0.mk (show wa.heap[w.heap.size + 1 + 1]? = some (.cells (z8 .u32) 124 (0, 0)) from hwa ▸ nth3_2 w _ _ _)
  have HAB := Aside0.mk (show Below w.heap.size w wa from hwa ▸ below3 w _ _ _)
  have HAS := Aside0.mk (show w.heap.size + 1 + 1 < wa.heap.size from blk_lt HA2.out)
  have HLA := Aside0.mk (show (Instr.loadAt 120 (.pointer (some ⟨w.heap.size, 0, none⟩))).run Tryd.prog wa = .ok (.agg narrowA) wa from run_loadAt_cells (P := Tryd.prog) (w := wa) 120 Tryd.underlying120 rfl w.heap.size 0 narrowA.toList info120 (fun j u hu => by rw [Nat.zero_add, cell_of_row _ _ j _ _ _ HA0.out]; simpa using hu))
  have HWC := Aside0.mk (words_calls (w := wa) g o c x h64 hc (hC.below hgl HAB.out) (Nat.lt_of_lt_of_le hgl HAB.out.size))
  have hl80 := wordsM_length x
  have HL80 := Aside0.mk hl80
  obtain ⟨ws, hws⟩ : ∃ ws, wordsM x = ws := ⟨_, rfl⟩
  have HWS := Lib.hid hws
  rw [hws] at HWC hl80 HL80
  have HS7 := Aside0.mk (fun w1 : World => run_storeAt_new (P := Tryd.prog) w1 141 z80 (nums .u32 ws).toArray (info141 _ hl80) (by simp [z80, nums_length, hl80]) (by simp [nums, List.all_eq_true]; intros; rfl))
  have HS8 := Aside0.mk (fun w1 : World => run_storeAt_new (P := Tryd.prog) w1 124 (z8 .u32) (nums .u32 hv).toArray (info124 _ h8) (by simp [z8, nums_length, h8]) (by simp [nums, List.all_eq_true]; intros; rfl))
  have HL8 := Aside0.mk (fun (w1 : World) (h : w1.heap[w.heap.size + 1]? = some (.cells (nums .u32 hv).toArray 124 (0, 0))) => run_loadAt_cells (P := Tryd.prog) (w := w1) 124 Tryd.underlying124 rfl (w.heap.size + 1) 0 (nums .u32 hv) (by rw [nums_length, h8]; kernel_rfl) (fun j u hu => by rw [Nat.zero_add, cell_of_row _ _ j _ _ _ h]; simpa using hu))
  subst hwa
  clear hg h8 h64 hc hC hgl hws hl80
  go_enter Tryd.func93, Tryd.ntmps93
  go_wp2_with (first | ((with_reducible refine alloc_at (e := 124) ?_ ?_ (run_alloc124 _) ?_); exact rfl; exact rfl) | ((with_reducible refine alloc_at (e := 141) ?_ ?_ (run_alloc141 _) ?_); exact rfl; exact rfl) | ((with_reducible refine load_at (ty := 120) (.tmp 3) ?_ ?_ HLA.out ?_ ?_); exact rfl; exact rfl; exact rfl) | (go_at_call 99; (with_reducible refine HWC.out.mono ?_); rintro e w1 ⟨rfl, hb1⟩; have HL8 := Aside0.mk (HL8.out (w1.alloc (.cells (nums .u32 ws).toArray 141)) (blk_below (blk_below HA1.out hb1) (below_alloc (Below.refl _ _) _))); have HM := Aside0.mk (mx_start (ws := ws) HA0.out HA1.out HA2.out HAB.out HAS.out hb1); clear hb1) | ((with_reducible refine store_at (ty := 141) (.tmp 7) (.tmp 17) ?_ ?_ ?_ (HS7.out _) ?_ ?_ ?_); exact rfl; exact rfl; exact rfl; exact rfl; exact rfl) | ((with_reducible refine load_at (ty := 124) (.tmp 4) ?_ ?_ HL8.out ?_ ?_); exact rfl; exact rfl; exact rfl) | ((with_reducible refine store_at (ty := 124) (.tmp 8) (.tmp 18) ?_ ?_ ?_ (HS8.out _) ?_ ?_ ?_); exact rfl; exact rfl; exact rfl; exact rfl; exact rfl; generalize ((w1.alloc (.cells (nums .u32 ws).toArray 141)).alloc (.cells (nums .u32 hv).toArray 124)) = wS at HM ⊢; have hs2 := HM.out.shape 2 (.int .i64 64) rfl))
  clear HA0 HA1 HA2 HAB HAS HWC HLA HL8 HS7 HS8 hs2
  obtain ⟨b, hb⟩ : ∃ b, b = w1.heap.size := ⟨_, rfl⟩
  rw [← hb] at HM ⊢
  clear hb
  go_loopw [9, 10, 11, 12, 13, 21] (fun v9 v10 v11 v12 v13 v21 w' => ∃ t : Nat, v21 = .int .i64 t ∧ t ≤ 64 ∧ Aside0 (Mx w w' b hv ws (roundsM hv ws t))) (fun v9 v10 v11 v12 v13 v21 _ => 64 - (intOf v21).toNat)
  case atStart => exact ⟨0, rfl, Nat.zero_le _, HM⟩
  case round =>
    clear HM
    obtain ⟨t, rfl, ht, HM⟩ := hrel
    by_cases hlt : t < 64
    · have hq : decide ((t : Int) < 64) = true := decide_eq_true (by omega)
      have HD6 := Aside0.mk HM.out.drew
      obtain ⟨vs, hvs⟩ : ∃ vs, roundsM hv ws t = vs := ⟨_, rfl⟩
      have HVL := Aside0.mk (show vs.length = 8 from hvs ▸ roundsM_length H8.out t)
      have HVS := Lib.hid hvs
      rw [hvs] at HM HD6
      obtain ⟨x, hx⟩ : ∃ x, ws.getD t 0 = x := ⟨_, rfl⟩
      obtain ⟨c, hc⟩ : ∃ c, constsL.getD t 0 = c := ⟨_, rfl⟩
      obtain ⟨v0, hv0⟩ : ∃ v, vs.getD 0 0 = v := ⟨_, rfl⟩
      obtain ⟨v1, hv1⟩ : ∃ v, vs.getD 1 0 = v := ⟨_, rfl⟩
      obtain ⟨v2, hv2⟩ : ∃ v, vs.getD 2 0 = v := ⟨_, rfl⟩
      obtain ⟨v3, hv3⟩ : ∃ v, vs.getD 3 0 = v := ⟨_, rfl⟩
      obtain ⟨v4, hv4⟩ : ∃ v, vs.getD 4 0 = v := ⟨_, rfl⟩
      obtain ⟨v5, hv5⟩ : ∃ v, vs.getD 5 0 = v := ⟨_, rfl⟩
      obtain ⟨v6, hv6⟩ : ∃ v, vs.getD 6 0 = v := ⟨_, rfl⟩
      obtain ⟨v7, hv7⟩ : ∃ v, vs.getD 7 0 = v := ⟨_, rfl⟩
      have HN := Aside0.mk (show roundsM hv ws (t + 1) = [(rX v7 v4 v5 v6 (IntKind.u32.wrap (c / 4294967296)) x + rY v0 v1 v2) % 4294967296, v0, v1, v2, (v3 + rX v7 v4 v5 v6 (IntKind.u32.wrap (c / 4294967296)) x) % 4294967296, v4, v5, v6] from by rw [roundsM, hvs, hx, kM, hc, roundM, hv0, hv1, hv2, hv3, hv4, hv5, hv6, hv7])
      have S0 := Aside0.mk (fun (W : World) (h : Mx w W b hv ws vs) => (hv0 ▸ h.cv (i := 0) (by rw [HVL.out]; decide) : W.cell? ⟨b + 1, 0, none⟩ = some (.int .u32 v0)))
      have S1 := Aside0.mk (fun (W : World) (h : Mx w W b hv ws vs) => (hv1 ▸ h.cv (i := 1) (by rw [HVL.out]; decide) : W.cell? ⟨b + 1, 1, none⟩ = some (.int .u32 v1)))
      have S2 := Aside0.mk (fun (W : World) (h : Mx w W b hv ws vs) => (hv2 ▸ h.cv (i := 2) (by rw [HVL.out]; decide) : W.cell? ⟨b + 1, 2, none⟩ = some (.int .u32 v2)))
      have S3 := Aside0.mk (fun (W : World) (h : Mx w W b hv ws vs) => (hv3 ▸ h.cv (i := 3) (by rw [HVL.out]; decide) : W.cell? ⟨b + 1, 3, none⟩ = some (.int .u32 v3)))
      have S4 := Aside0.mk (fun (W : World) (h : Mx w W b hv ws vs) => (hv4 ▸ h.cv (i := 4) (by rw [HVL.out]; decide) : W.cell? ⟨b + 1, 4, none⟩ = some (.int .u32 v4)))
      have S5 := Aside0.mk (fun (W : World) (h : Mx w W b hv ws vs) => (hv5 ▸ h.cv (i := 5) (by rw [HVL.out]; decide) : W.cell? ⟨b + 1, 5, none⟩ = some (.int .u32 v5)))
      have S6 := Aside0.mk (fun (W : World) (h : Mx w W b hv ws vs) => (hv6 ▸ h.cv (i := 6) (by rw [HVL.out]; decide) : W.cell? ⟨b + 1, 6, none⟩ = some (.int .u32 v6)))
      have S7 := Aside0.mk (fun (W : World) (h : Mx w W b hv ws vs) => (hv7 ▸ h.cv (i := 7) (by rw [HVL.out]; decide) : W.cell? ⟨b + 1, 7, none⟩ = some (.int .u32 v7)))
      have SW := Aside0.mk (fun (W : World) (h : Mx w W b hv ws vs) => (hx ▸ h.cw (i := t) (by rw [HL80.out]; omega) : W.cell? ⟨b, t, none⟩ = some (.int .u32 x)))
      have SC := Aside0.mk (fun (W : World) (h : Mx w W b hv ws vs) => (hc ▸ (HG.out.below h.bb).c t (by omega) : W.cell? ⟨1, t, none⟩ = some (.int .u64 c)))
      clear hvs hx hc hv0 hv1 hv2 hv3 hv4 hv5 hv6 hv7
      repeat (first | go_step | go_guarded | go_upon)
      refine start_ (n := 6) (S := fun w' => w'.cell? ⟨b + 1, 0, none⟩ = some (.int .u32 v0) ∧ w'.cell? ⟨b + 1, 4, none⟩ = some (.int .u32 v4)) (ds := []) #[false, false, false, false, false, false] (by kernel_rfl) rfl rfl ⟨(S0.out _ HD6.out), (S4.out _ HD6.out)⟩ (fun hHeld => ?_)
      refine pure_ (i := 0) (N := some 24) (v := ?_) (a' := ?_) #[true, false, false, false, false, false] rfl rfl (by kernel_rfl) (fun _ _ _ h => h) (Or.inl ⟨by rfl, ?_⟩) ?_ ?_
      rotate_left
      · intro w'
        go_simp
        with_reducible rfl
      rotate_left
      · simp only [Act.put, List.setIfInBounds_toArray, List.set_cons_zero, List.set_cons_succ, i64_w, i32_w]
        rfl
      refine pure_ (i := 2) (N := some 26) (v := ?_) (a' := ?_) #[true, false, true, false, false, false] rfl rfl (by kernel_rfl) (fun _ _ _ h => h) (Or.inl ⟨by rfl, ?_⟩) ?_ ?_
      rotate_left
      · intro w'
        go_simp
        with_reducible rfl
      rotate_left
      · simp only [Act.put, List.setIfInBounds_toArray, List.set_cons_zero, List.set_cons_succ, i64_w, i32_w]
        rfl
      refine take_ (i := 1) (N := some 25) (v := ?_) (a' := ?_) #[true, true, true, false, false, false] rfl rfl (by kernel_rfl) (fun _ _ _ h => h) (Or.inl ⟨by rfl, ?_⟩) hHeld ?_ ?_
      rotate_left
      · rintro w' ⟨s0, s1⟩
        go_simp
        with_reducible rfl
      rotate_left
      · simp only [Act.put, List.setIfInBounds_toArray, List.set_cons_zero, List.set_cons_succ, i64_w, i32_w]
        rfl
      refine pure_ (i := 4) (N := some 10) (v := ?_) (a' := ?_) #[true, true, true, false, true, false] rfl rfl (by kernel_rfl) (fun _ _ _ h => h) (Or.inl ⟨by rfl, ?_⟩) ?_ ?_
      rotate_left
      · intro w'
        go_simp
        with_reducible rfl
      rotate_left
      · simp only [Act.put, List.setIfInBounds_toArray, List.set_cons_zero, List.set_cons_succ, i64_w, i32_w]
        rfl
      refine take_ (i := 3) (N := some 27) (v := ?_) (a' := ?_) #[true, true, true, true, true, false] rfl rfl (by kernel_rfl) (fun _ _ _ h => h) (Or.inl ⟨by rfl, ?_⟩) hHeld ?_ ?_
      rotate_left
      · rintro w' ⟨s0, s1⟩
        go_simp
        with_reducible rfl
      rotate_left
      · simp only [Act.put, List.setIfInBounds_toArray, List.set_cons_zero, List.set_cons_succ, i64_w, i32_w]
        rfl
      refine pure_ (i := 5) (N := some 11) (v := ?_) (a' := ?_) #[true, true, true, true, true, true] rfl rfl (by kernel_rfl) (fun _ _ _ h => h) (Or.inl ⟨by rfl, ?_⟩) ?_ ?_
      rotate_left
      · intro w'
        go_simp
        with_reducible rfl
      rotate_left
      · simp only [Act.put, List.setIfInBounds_toArray, List.set_cons_zero, List.set_cons_succ, i64_w, i32_w]
        rfl
      refine done_ (by kernel_rfl) ?_
      clear hHeld
      have HD7 := Aside0.mk HD6.out.drew
      have bt : ((t : Int) < 80) = True := eq_true (by omega)
      have hw32 : wrap64 32 = 32 := by simp [wrap64]
      repeat (first | go_step | go_guarded | go_upon)
      refine start_ (n := 34) (S := fun w' => w'.cell? ⟨b + 1, 5, none⟩ = some (.int .u32 v5) ∧ w'.cell? ⟨b + 1, 6, none⟩ = some (.int .u32 v6) ∧ w'.cell? ⟨b + 1, 7, none⟩ = some (.int .u32 v7) ∧ w'.cell? ⟨b, t, none⟩ = some (.int .u32 x) ∧ w'.cell? ⟨1, t, none⟩ = some (.int .u64 c) ∧ w'.cell? ⟨w.heap.size, 1, none⟩ = some (.int .i64 32) ∧ w'.cell? ⟨w.heap.size, 12, none⟩ = some (.int .i64 6) ∧ w'.cell? ⟨w.heap.size, 13, none⟩ = some (.int .i64 11) ∧ w'.cell? ⟨w.heap.size, 14, none⟩ = some (.int .i64 25)) (ds := []) #[false, false, false, false, false, false, false, false, false, false, false, false, false, false, false, false, false, false, false, false, false, false, false, false, false, false, false, false, false, false, false, false, false, false] (by kernel_rfl) rfl rfl ⟨(S5.out _ HD7.out), (S6.out _ HD7.out), (S7.out _ HD7.out), (SW.out _ HD7.out), (SC.out _ HD7.out), (HD7.out.shape 1 _ rfl), (HD7.out.shape 12 _ rfl), (HD7.out.shape 13 _ rfl), (HD7.out.shape 14 _ rfl)⟩ (fun hHeld => ?_)
      refine pure_ (i := 0) (N := some 28) (v := ?_) (a' := ?_) #[true, false, false, false, false, false, false, false, false, false, false, false, false, false, false, false, false, false, false, false, false, false, false, false, false, false, false, false, false, false, false, false, false, false] rfl rfl (by kernel_rfl) (fun _ _ _ h => h) (Or.inl ⟨by rfl, ?_⟩) ?_ ?_
      rotate_left
      · intro w'
        go_simp
        with_reducible rfl
      rotate_left
      · simp only [Act.put, List.setIfInBounds_toArray, List.set_cons_zero, List.set_cons_succ, i64_w, i32_w]
        rfl
      refine pure_ (i := 2) (N := some 30) (v := ?_) (a' := ?_) #[true, false, true, false, false, false, false, false, false, false, false, false, false, false, false, false, false, false, false, false, false, false, false, false, false, false, false, false, false, false, false, false, false, false] rfl rfl (by kernel_rfl) (fun _ _ _ h => h) (Or.inl ⟨by rfl, ?_⟩) ?_ ?_
      rotate_left
      · intro w'
        go_simp
        with_reducible rfl
      rotate_left
      · simp only [Act.put, List.setIfInBounds_toArray, List.set_cons_zero, List.set_cons_succ, i64_w, i32_w]
        rfl
      refine pure_ (i := 3) (N := some 31) (v := ?_) (a' := ?_) #[true, false, true, true, false, false, false, false, false, false, false, false, false, false, false, false, false, false, false, false, false, false, false, false, false, false, false, false, false, false, false, false, false, false] rfl rfl (by kernel_rfl) (fun _ _ _ h => h) (Or.inl ⟨by rfl, ?_⟩) ?_ ?_
      rotate_left
      · intro w'
        go_simp
        with_reducible rfl
      rotate_left
      · simp only [Act.put, List.setIfInBounds_toArray, List.set_cons_zero, List.set_cons_succ, i64_w, i32_w]
        rfl
      refine pure_ (i := 5) (N := some 33) (v := ?_) (a' := ?_) #[true, false, true, true, false, true, false, false, false, false, false, false, false, false, false, false, false, false, false, false, false, false, false, false, false, false, false, false, false, false, false, false, false, false] rfl rfl (by kernel_rfl) (fun _ _ _ h => h) (Or.inl ⟨by rfl, ?_⟩) ?_ ?_
      rotate_left
      · intro w'
        go_simp
        with_reducible rfl
      rotate_left
      · simp only [Act.put, List.setIfInBounds_toArray, List.set_cons_zero, List.set_cons_succ, i64_w, i32_w]
        rfl
      refine pure_ (i := 9) (N := some 37) (v := ?_) (a' := ?_) #[true, false, true, true, false, true, false, false, false, true, false, false, false, false, false, false, false, false, false, false, false, false, false, false, false, false, false, false, false, false, false, false, false, false] rfl rfl (by kernel_rfl) (fun _ _ _ h => h) (Or.inl ⟨by rfl, ?_⟩) ?_ ?_
      rotate_left
      · intro w'
        go_simp
        with_reducible rfl
      rotate_left
      · simp only [Act.put, List.setIfInBounds_toArray, List.set_cons_zero, List.set_cons_succ, i64_w, i32_w]
        rfl
      refine pure_ (i := 10) (N := some 38) (v := ?_) (a' := ?_) #[true, false, true, true, false, true, false, false, false, true, true, false, false, false, false, false, false, false, false, false, false, false, false, false, false, false, false, false, false, false, false, false, false, false] rfl rfl (by kernel_rfl) (fun _ _ _ h => h) (Or.inl ⟨by rfl, ?_⟩) ?_ ?_
      rotate_left
      · intro w'
        go_simp
        with_reducible rfl
      rotate_left
      · simp only [Act.put, List.setIfInBounds_toArray, List.set_cons_zero, List.set_cons_succ, i64_w, i32_w]
        rfl
      refine pure_ (i := 13) (N := some 41) (v := ?_) (a' := ?_) #[true, false, true, true, false, true, false, false, false, true, true, false, false, true, false, false, false, false, false, false, false, false, false, false, false, false, false, false, false, false, false, false, false, false] rfl rfl (by kernel_rfl) (fun _ _ _ h => h) (Or.inl ⟨by rfl, ?_⟩) ?_ ?_
      rotate_left
      · intro w'
        go_simp
        with_reducible rfl
      rotate_left
      · simp only [Act.put, List.setIfInBounds_toArray, List.set_cons_zero, List.set_cons_succ, i64_w, i32_w]
        rfl
      refine pure_ (i := 14) (N := some 42) (v := ?_) (a' := ?_) #[true, false, true, true, false, true, false, false, false, true, true, false, false, true, true, false, false, false, false, false, false, false, false, false, false, false, false, false, false, false, false, false, false, false] rfl rfl (by kernel_rfl) (fun _ _ _ h => h) (Or.inl ⟨by rfl, ?_⟩) ?_ ?_
      rotate_left
      · intro w'
        go_simp
        with_reducible rfl
      rotate_left
      · simp only [Act.put, List.setIfInBounds_toArray, List.set_cons_zero, List.set_cons_succ, i64_w, i32_w]
        rfl
      refine pure_ (i := 15) (N := some 43) (v := ?_) (a' := ?_) #[true, false, true, true, false, true, false, false, false, true, true, false, false, true, true, true, false, false, false, false, false, false, false, false, false, false, false, false, false, false, false, false, false, false] rfl rfl (by kernel_rfl) (fun _ _ _ h => h) (Or.inl ⟨by rfl, ?_⟩) ?_ ?_
      rotate_left
      · intro w'
        go_simp
        with_reducible rfl
      rotate_left
      · simp only [Act.put, List.setIfInBounds_toArray, List.set_cons_zero, List.set_cons_succ, i64_w, i32_w]
        rfl
      refine pure_ (i := 20) (N := some 48) (v := ?_) (a' := ?_) #[true, false, true, true, false, true, false, false, false, true, true, false, false, true, true, true, false, false, false, false, true, false, false, false, false, false, false, false, false, false, false, false, false, false] rfl rfl (by kernel_rfl) (fun _ _ _ h => h) (Or.inl ⟨by rfl, ?_⟩) ?_ ?_
      rotate_left
      · intro w'
        go_simp
        with_reducible rfl
      rotate_left
      · simp only [Act.put, List.setIfInBounds_toArray, List.set_cons_zero, List.set_cons_succ, i64_w, i32_w]
        rfl
      refine pure_ (i := 21) (N := some 49) (v := ?_) (a' := ?_) #[true, false, true, true, false, true, false, false, false, true, true, false, false, true, true, true, false, false, false, false, true, true, false, false, false, false, false, false, false, false, false, false, false, false] rfl rfl (by kernel_rfl) (fun _ _ _ h => h) (Or.inl ⟨by rfl, ?_⟩) ?_ ?_
      rotate_left
      · intro w'
        go_simp
        with_reducible rfl
      rotate_left
      · simp only [Act.put, List.setIfInBounds_toArray, List.set_cons_zero, List.set_cons_succ, i64_w, i32_w]
        rfl
      refine pure_ (i := 23) (N := some 51) (v := ?_) (a' := ?_) #[true, false, true, true, false, true, false, false, false, true, true, false, false, true, true, true, false, false, false, false, true, true, false, true, false, false, false, false, false, false, false, false, false, false] rfl rfl (by kernel_rfl) (fun _ _ _ h => h) (Or.inl ⟨by rfl, ?_⟩) ?_ ?_
      rotate_left
      · intro w'
        go_simp
        with_reducible rfl
      rotate_left
      · simp only [Act.put, List.setIfInBounds_toArray, List.set_cons_zero, List.set_cons_succ, i64_w, i32_w]
        rfl
      refine pure_ (i := 29) (N := some 57) (v := ?_) (a' := ?_) #[true, false, true, true, false, true, false, false, false, true, true, false, false, true, true, true, false, false, false, false, true, true, false, true, false, false, false, false, false, true, false, false, false, false] rfl rfl (by kernel_rfl) (fun _ _ _ h => h) (Or.inl ⟨by rfl, ?_⟩) ?_ ?_
      rotate_left
      · intro w'
        go_simp
        with_reducible rfl
      rotate_left
      · simp only [Act.put, List.setIfInBounds_toArray, List.set_cons_zero, List.set_cons_succ, i64_w, i32_w]
        rfl
      refine pure_ (i := 30) (N := some 58) (v := ?_) (a' := ?_) #[true, false, true, true, false, true, false, false, false, true, true, false, false, true, true, true, false, false, false, false, true, true, false, true, false, false, false, false, false, true, true, false, false, false] rfl rfl (by kernel_rfl) (fun _ _ _ h => h) (Or.inl ⟨by rfl, ?_⟩) ?_ ?_
      rotate_left
      · intro w'
        go_simp
        with_reducible rfl
      rotate_left
      · simp only [Act.put, List.setIfInBounds_toArray, List.set_cons_zero, List.set_cons_succ, i64_w, i32_w]
        rfl
      refine take_ (i := 1) (N := some 29) (v := ?_) (a' := ?_) #[true, true, true, true, false, true, false, false, false, true, true, false, false, true, true, true, false, false, false, false, true, true, false, true, false, false, false, false, false, true, true, false, false, false] rfl rfl (by kernel_rfl) (fun _ _ _ h => h) (Or.inl ⟨by rfl, ?_⟩) hHeld ?_ ?_
      rotate_left
      · rintro w' ⟨s0, s1, s2, s3, s4, s5, s6, s7, s8⟩
        go_simp
        with_reducible rfl
      rotate_left
      · simp only [Act.put, List.setIfInBounds_toArray, List.set_cons_zero, List.set_cons_succ, i64_w, i32_w]
        rfl
      refine take_ (i := 4) (N := some 32) (v := ?_) (a' := ?_) #[true, true, true, true, true, true, false, false, false, true, true, false, false, true, true, true, false, false, false, false, true, true, false, true, false, false, false, false, false, true, true, false, false, false] rfl rfl (by kernel_rfl) (fun _ _ _ h => h) (Or.inl ⟨by rfl, ?_⟩) hHeld ?_ ?_
      rotate_left
      · rintro w' ⟨s0, s1, s2, s3, s4, s5, s6, s7, s8⟩
        go_simp
        with_reducible rfl
      rotate_left
      · simp only [Act.put, List.setIfInBounds_toArray, List.set_cons_zero, List.set_cons_succ, i64_w, i32_w]
        rfl
      refine take_ (i := 6) (N := some 34) (v := ?_) (a' := ?_) #[true, true, true, true, true, true, true, false, false, true, true, false, false, true, true, true, false, false, false, false, true, true, false, true, false, false, false, false, false, true, true, false, false, false] rfl rfl (by kernel_rfl) (fun _ _ _ h => h) (Or.inl ⟨by rfl, ?_⟩) hHeld ?_ ?_
      rotate_left
      · rintro w' ⟨s0, s1, s2, s3, s4, s5, s6, s7, s8⟩
        go_simp
        with_reducible rfl
      rotate_left
      · simp only [Act.put, List.setIfInBounds_toArray, List.set_cons_zero, List.set_cons_succ, i64_w, i32_w]
        rfl
      refine take_ (i := 11) (N := some 39) (v := ?_) (a' := ?_) #[true, true, true, true, true, true, true, false, false, true, true, true, false, true, true, true, false, false, false, false, true, true, false, true, false, false, false, false, false, true, true, false, false, false] rfl rfl (by kernel_rfl) (fun _ _ _ h => h) (Or.inl ⟨by rfl, ?_⟩) hHeld ?_ ?_
      rotate_left
      · rintro w' ⟨s0, s1, s2, s3, s4, s5, s6, s7, s8⟩
        go_simp
        with_reducible rfl
      rotate_left
      · simp only [Act.put, List.setIfInBounds_toArray, List.set_cons_zero, List.set_cons_succ, i64_w, i32_w]
        rfl
      refine pure_ (i := 12) (N := some 40) (v := ?_) (a' := ?_) #[true, true, true, true, true, true, true, false, false, true, true, true, true, true, true, true, false, false, false, false, true, true, false, true, false, false, false, false, false, true, true, false, false, false] rfl rfl (by kernel_rfl) (fun _ _ _ h => h) (Or.inl ⟨by rfl, ?_⟩) ?_ ?_
      rotate_left
      · intro w'
        go_simp
        with_reducible rfl
      rotate_left
      · simp only [Act.put, List.setIfInBounds_toArray, List.set_cons_zero, List.set_cons_succ, i64_w, i32_w]
        rfl
      refine take_ (i := 16) (N := some 44) (v := ?_) (a' := ?_) #[true, true, true, true, true, true, true, false, false, true, true, true, true, true, true, true, true, false, false, false, true, true, false, true, false, false, false, false, false, true, true, false, false, false] rfl rfl (by kernel_rfl) (fun _ _ _ h => h) (Or.inl ⟨by rfl, ?_⟩) hHeld ?_ ?_
      rotate_left
      · rintro w' ⟨s0, s1, s2, s3, s4, s5, s6, s7, s8⟩
        go_simp
        with_reducible rfl
      rotate_left
      · simp only [Act.put, List.setIfInBounds_toArray, List.set_cons_zero, List.set_cons_succ, i64_w, i32_w]
        rfl
      refine pure_ (i := 17) (N := some 45) (v := ?_) (a' := ?_) #[true, true, true, true, true, true, true, false, false, true, true, true, true, true, true, true, true, true, false, false, true, true, false, true, false, false, false, false, false, true, true, false, false, false] rfl rfl (by kernel_rfl) (fun _ _ _ h => h) (Or.inl ⟨by rfl, ?_⟩) ?_ ?_
      rotate_left
      · intro w'
        go_simp
        with_reducible rfl
      rotate_left
      · simp only [Act.put, List.setIfInBounds_toArray, List.set_cons_zero, List.set_cons_succ, i64_w, i32_w]
        rfl
      refine pure_ (i := 18) (N := some 46) (v := ?_) (a' := ?_) #[true, true, true, true, true, true, true, false, false, true, true, true, true, true, true, true, true, true, true, false, true, true, false, true, false, false, false, false, false, true, true, false, false, false] rfl rfl (by kernel_rfl) (fun _ _ _ h => h) (Or.inl ⟨by rfl, ?_⟩) ?_ ?_
      rotate_left
      · intro w'
        go_simp
        with_reducible rfl
      rotate_left
      · simp only [Act.put, List.setIfInBounds_toArray, List.set_cons_zero, List.set_cons_succ, i64_w, i32_w]
        rfl
      refine take_ (i := 22) (N := some 50) (v := ?_) (a' := ?_) #[true, true, true, true, true, true, true, false, false, true, true, true, true, true, true, true, true, true, true, false, true, true, true, true, false, false, false, false, false, true, true, false, false, false] rfl rfl (by kernel_rfl) (fun _ _ _ h => h) (Or.inl ⟨by rfl, ?_⟩) hHeld ?_ ?_
      rotate_left
      · rintro w' ⟨s0, s1, s2, s3, s4, s5, s6, s7, s8⟩
        go_simp
        with_reducible rfl
      rotate_left
      · simp only [Act.put, List.setIfInBounds_toArray, List.set_cons_zero, List.set_cons_succ, i64_w, i32_w]
        rfl
      refine take_ (i := 24) (N := some 52) (v := ?_) (a' := ?_) #[true, true, true, true, true, true, true, false, false, true, true, true, true, true, true, true, true, true, true, false, true, true, true, true, true, false, false, false, false, true, true, false, false, false] rfl rfl (by kernel_rfl) (fun _ _ _ h => h) (Or.inl ⟨by rfl, ?_⟩) hHeld ?_ ?_
      rotate_left
      · rintro w' ⟨s0, s1, s2, s3, s4, s5, s6, s7, s8⟩
        go_simp
        with_reducible rfl
      rotate_left
      · simp only [Act.put, List.setIfInBounds_toArray, List.set_cons_zero, List.set_cons_succ, i64_w, i32_w]
        rfl
      refine pure_ (i := 25) (N := some 53) (v := ?_) (a' := ?_) #[true, true, true, true, true, true, true, false, false, true, true, true, true, true, true, true, true, true, true, false, true, true, true, true, true, true, false, false, false, true, true, false, false, false] rfl rfl (by kernel_rfl) (fun _ _ _ h => h) (Or.inl ⟨by rfl, ?_⟩) ?_ ?_
      rotate_left
      · intro w'
        go_simp
        with_reducible rfl
      rotate_left
      · simp only [Act.put, List.setIfInBounds_toArray, List.set_cons_zero, List.set_cons_succ, i64_w, i32_w]
        rfl
      refine pure_ (i := 26) (N := some 54) (v := ?_) (a' := ?_) #[true, true, true, true, true, true, true, false, false, true, true, true, true, true, true, true, true, true, true, false, true, true, true, true, true, true, true, false, false, true, true, false, false, false] rfl rfl (by kernel_rfl) (fun _ _ _ h => h) (Or.inl ⟨by rfl, ?_⟩) ?_ ?_
      rotate_left
      · intro w'
        go_simp
        with_reducible rfl
      rotate_left
      · simp only [Act.put, List.setIfInBounds_toArray, List.set_cons_zero, List.set_cons_succ, i64_w, i32_w]
        rfl
      refine pure_ (i := 27) (N := some 55) (v := ?_) (a' := ?_) #[true, true, true, true, true, true, true, false, false, true, true, true, true, true, true, true, true, true, true, false, true, true, true, true, true, true, true, true, false, true, true, false, false, false] rfl rfl (by kernel_rfl) (fun _ _ _ h => h) (Or.inl ⟨by rfl, ?_⟩) ?_ ?_
      rotate_left
      · intro w'
        go_simp
        with_reducible rfl
      rotate_left
      · simp only [Act.put, List.setIfInBounds_toArray, List.set_cons_zero, List.set_cons_succ, i64_w, i32_w]
        rfl
      refine take_ (i := 31) (N := some 59) (v := ?_) (a' := ?_) #[true, true, true, true, true, true, true, false, false, true, true, true, true, true, true, true, true, true, true, false, true, true, true, true, true, true, true, true, false, true, true, true, false, false] rfl rfl (by kernel_rfl) (fun _ _ _ h => h) (Or.inl ⟨by rfl, ?_⟩) hHeld ?_ ?_
      rotate_left
      · rintro w' ⟨s0, s1, s2, s3, s4, s5, s6, s7, s8⟩
        go_simp
        with_reducible rfl
      rotate_left
      · simp only [Act.put, List.setIfInBounds_toArray, List.set_cons_zero, List.set_cons_succ, i64_w, i32_w]
        rfl
      refine one_ (i := 7) (N := some 35) #[true, true, true, true, true, true, true, true, false, true, true, true, true, true, true, true, true, true, true, false, true, true, true, true, true, true, true, true, false, true, true, true, false, false] rfl rfl (by kernel_rfl) (by decide) (fun K hK => ?_)
      refine goes_ Tryd.func100 (by kernel_rfl) rfl #[.int .u32 v4, .agg #[.int .i64 6, .int .i64 11, .int .i64 25], .int .i64 32] (by rfl) rfl rfl (by simp only [List.map_toArray, List.map_cons, List.map_nil]; rfl) ?_
      with_reducible refine (big_calls v4 6 11 25 (by decide) (by decide) (by decide) (by decide) (by decide) (by decide) _).mono ?_
      rintro e w7 ⟨rfl, hd⟩
      refine ⟨_, rfl, ?_⟩
      have HI7 := Aside0.mk (HD7.out.below hd)
      clear hd
      refine hK.out _ _ ⟨(S5.out _ HI7.out), (S6.out _ HI7.out), (S7.out _ HI7.out), (SW.out _ HI7.out), (SC.out _ HI7.out), (HI7.out.shape 1 _ rfl), (HI7.out.shape 12 _ rfl), (HI7.out.shape 13 _ rfl), (HI7.out.shape 14 _ rfl)⟩ (fun hHeld => ?_)
      clear hK K
      refine norm_ (a' := ?_) ?_ ?_
      rotate_left
      · show Act.put _ (some 35) _ = _
        simp only [Act.put, List.setIfInBounds_toArray, List.set_cons_zero, List.set_cons_succ, i64_w, i32_w]
        rfl
      refine pure_ (i := 8) (N := some 36) (v := ?_) (a' := ?_) #[true, true, true, true, true, true, true, true, true, true, true, true, true, true, true, true, true, true, true, false, true, true, true, true, true, true, true, true, false, true, true, true, false, false] rfl rfl (by kernel_rfl) (fun _ _ _ h => h) (Or.inl ⟨by rfl, ?_⟩) ?_ ?_
      rotate_left
      · intro w'
        go_simp
        with_reducible rfl
      rotate_left
      · simp only [Act.put, List.setIfInBounds_toArray, List.set_cons_zero, List.set_cons_succ, i64_w, i32_w]
        rfl
      refine pure_ (i := 19) (N := some 47) (v := ?_) (a' := ?_) #[true, true, true, true, true, true, true, true, true, true, true, true, true, true, true, true, true, true, true, true, true, true, true, true, true, true, true, true, false, true, true, true, false, false] rfl rfl (by kernel_rfl) (fun _ _ _ h => h) (Or.inl ⟨by rfl, ?_⟩) ?_ ?_
      rotate_left
      · intro w'
        go_simp
        with_reducible rfl
      rotate_left
      · simp only [Act.put, List.setIfInBounds_toArray, List.set_cons_zero, List.set_cons_succ, i64_w, i32_w]
        rfl
      refine pure_ (i := 28) (N := some 56) (v := ?_) (a' := ?_) #[true, true, true, true, true, true, true, true, true, true, true, true, true, true, true, true, true, true, true, true, true, true, true, true, true, true, true, true, true, true, true, true, false, false] rfl rfl (by kernel_rfl) (fun _ _ _ h => h) (Or.inl ⟨by rfl, ?_⟩) ?_ ?_
      rotate_left
      · intro w'
        go_simp
        with_reducible rfl
      rotate_left
      · simp only [Act.put, List.setIfInBounds_toArray, List.set_cons_zero, List.set_cons_succ, i64_w, i32_w]
        rfl
      refine pure_ (i := 32) (N := some 60) (v := ?_) (a' := ?_) #[true, true, true, true, true, true, true, true, true, true, true, true, true, true, true, true, true, true, true, true, true, true, true, true, true, true, true, true, true, true, true, true, true, false] rfl rfl (by kernel_rfl) (fun _ _ _ h => h) (Or.inl ⟨by rfl, ?_⟩) ?_ ?_
      rotate_left
      · intro w'
        go_simp
        with_reducible rfl
      rotate_left
      · simp only [Act.put, List.setIfInBounds_toArray, List.set_cons_zero, List.set_cons_succ, i64_w, i32_w]
        rfl
      refine pure_ (i := 33) (N := some 12) (v := ?_) (a' := ?_) #[true, true, true, true, true, true, true, true, true, true, true, true, true, true, true, true, true, true, true, true, true, true, true, true, true, true, true, true, true, true, true, true, true, true] rfl rfl (by kernel_rfl) (fun _ _ _ h => h) (Or.inl ⟨by rfl, ?_⟩) ?_ ?_
      rotate_left
      · intro w'
        go_simp
        with_reducible rfl
      rotate_left
      · simp only [Act.put, List.setIfInBounds_toArray, List.set_cons_zero, List.set_cons_succ, i64_w, i32_w]
        rfl
      refine done_ (by kernel_rfl) ?_
      clear hHeld
      generalize hX : IntKind.u32.wrap (IntKind.u32.wrap (IntKind.u32.wrap (IntKind.u32.wrap (v7 + bigM v4 6 11 25) + Go.bits .xor .u32 (Go.bits .and .u32 v4 v5) (Go.bits .and .u32 (Go.bits .xor .u32 (if IntKind.u32.signed = true then -1 else IntKind.u32.max) v4) v6)) + IntKind.u32.wrap (c / 4294967296)) + x) = X
      generalize (if IntKind.u32.signed = true then (-1 : Int) else IntKind.u32.max) = M
      have HX := Lib.hid hX
      clear hX
      have HD8 := Aside0.mk HI7.out.drew
      repeat (first | go_step | go_guarded | go_upon)
      refine start_ (n := 23) (S := fun w' => w'.cell? ⟨b + 1, 1, none⟩ = some (.int .u32 v1) ∧ w'.cell? ⟨b + 1, 2, none⟩ = some (.int .u32 v2) ∧ w'.cell? ⟨w.heap.size, 1, none⟩ = some (.int .i64 32) ∧ w'.cell? ⟨w.heap.size, 9, none⟩ = some (.int .i64 2) ∧ w'.cell? ⟨w.heap.size, 10, none⟩ = some (.int .i64 13) ∧ w'.cell? ⟨w.heap.size, 11, none⟩ = some (.int .i64 22)) (ds := []) #[false, false, false, false, false, false, false, false, false, false, false, false, false, false, false, false, false, false, false, false, false, false, false] (by kernel_rfl) rfl rfl ⟨(S1.out _ HD8.out), (S2.out _ HD8.out), (HD8.out.shape 1 _ rfl), (HD8.out.shape 9 _ rfl), (HD8.out.shape 10 _ rfl), (HD8.out.shape 11 _ rfl)⟩ (fun hHeld => ?_)
      refine pure_ (i := 0) (N := some 61) (v := ?_) (a' := ?_) #[true, false, false, false, false, false, false, false, false, false, false, false, false, false, false, false, false, false, false, false, false, false, false] rfl rfl (by kernel_rfl) (fun _ _ _ h => h) (Or.inl ⟨by rfl, ?_⟩) ?_ ?_
      rotate_left
      · intro w'
        go_simp
        with_reducible rfl
      rotate_left
      · simp only [Act.put, List.setIfInBounds_toArray, List.set_cons_zero, List.set_cons_succ, i64_w, i32_w]
        rfl
      refine pure_ (i := 1) (N := some 62) (v := ?_) (a' := ?_) #[true, true, false, false, false, false, false, false, false, false, false, false, false, false, false, false, false, false, false, false, false, false, false] rfl rfl (by kernel_rfl) (fun _ _ _ h => h) (Or.inl ⟨by rfl, ?_⟩) ?_ ?_
      rotate_left
      · intro w'
        go_simp
        with_reducible rfl
      rotate_left
      · simp only [Act.put, List.setIfInBounds_toArray, List.set_cons_zero, List.set_cons_succ, i64_w, i32_w]
        rfl
      refine pure_ (i := 3) (N := some 64) (v := ?_) (a' := ?_) #[true, true, false, true, false, false, false, false, false, false, false, false, false, false, false, false, false, false, false, false, false, false, false] rfl rfl (by kernel_rfl) (fun _ _ _ h => h) (Or.inl ⟨by rfl, ?_⟩) ?_ ?_
      rotate_left
      · intro w'
        go_simp
        with_reducible rfl
      rotate_left
      · simp only [Act.put, List.setIfInBounds_toArray, List.set_cons_zero, List.set_cons_succ, i64_w, i32_w]
        rfl
      refine pure_ (i := 6) (N := some 67) (v := ?_) (a' := ?_) #[true, true, false, true, false, false, true, false, false, false, false, false, false, false, false, false, false, false, false, false, false, false, false] rfl rfl (by kernel_rfl) (fun _ _ _ h => h) (Or.inl ⟨by rfl, ?_⟩) ?_ ?_
      rotate_left
      · intro w'
        go_simp
        with_reducible rfl
      rotate_left
      · simp only [Act.put, List.setIfInBounds_toArray, List.set_cons_zero, List.set_cons_succ, i64_w, i32_w]
        rfl
      refine pure_ (i := 7) (N := some 68) (v := ?_) (a' := ?_) #[true, true, false, true, false, false, true, true, false, false, false, false, false, false, false, false, false, false, false, false, false, false, false] rfl rfl (by kernel_rfl) (fun _ _ _ h => h) (Or.inl ⟨by rfl, ?_⟩) ?_ ?_
      rotate_left
      · intro w'
        go_simp
        with_reducible rfl
      rotate_left
      · simp only [Act.put, List.setIfInBounds_toArray, List.set_cons_zero, List.set_cons_succ, i64_w, i32_w]
        rfl
      refine pure_ (i := 10) (N := some 71) (v := ?_) (a' := ?_) #[true, true, false, true, false, false, true, true, false, false, true, false, false, false, false, false, false, false, false, false, false, false, false] rfl rfl (by kernel_rfl) (fun _ _ _ h => h) (Or.inl ⟨by rfl, ?_⟩) ?_ ?_
      rotate_left
      · intro w'
        go_simp
        with_reducible rfl
      rotate_left
      · simp only [Act.put, List.setIfInBounds_toArray, List.set_cons_zero, List.set_cons_succ, i64_w, i32_w]
        rfl
      refine pure_ (i := 11) (N := some 72) (v := ?_) (a' := ?_) #[true, true, false, true, false, false, true, true, false, false, true, true, false, false, false, false, false, false, false, false, false, false, false] rfl rfl (by kernel_rfl) (fun _ _ _ h => h) (Or.inl ⟨by rfl, ?_⟩) ?_ ?_
      rotate_left
      · intro w'
        go_simp
        with_reducible rfl
      rotate_left
      · simp only [Act.put, List.setIfInBounds_toArray, List.set_cons_zero, List.set_cons_succ, i64_w, i32_w]
        rfl
      refine pure_ (i := 15) (N := some 76) (v := ?_) (a' := ?_) #[true, true, false, true, false, false, true, true, false, false, true, true, false, false, false, true, false, false, false, false, false, false, false] rfl rfl (by kernel_rfl) (fun _ _ _ h => h) (Or.inl ⟨by rfl, ?_⟩) ?_ ?_
      rotate_left
      · intro w'
        go_simp
        with_reducible rfl
      rotate_left
      · simp only [Act.put, List.setIfInBounds_toArray, List.set_cons_zero, List.set_cons_succ, i64_w, i32_w]
        rfl
      refine pure_ (i := 17) (N := some 78) (v := ?_) (a' := ?_) #[true, true, false, true, false, false, true, true, false, false, true, true, false, false, false, true, false, true, false, false, false, false, false] rfl rfl (by kernel_rfl) (fun _ _ _ h => h) (Or.inl ⟨by rfl, ?_⟩) ?_ ?_
      rotate_left
      · intro w'
        go_simp
        with_reducible rfl
      rotate_left
      · simp only [Act.put, List.setIfInBounds_toArray, List.set_cons_zero, List.set_cons_succ, i64_w, i32_w]
        rfl
      refine take_ (i := 2) (N := some 63) (v := ?_) (a' := ?_) #[true, true, true, true, false, false, true, true, false, false, true, true, false, false, false, true, false, true, false, false, false, false, false] rfl rfl (by kernel_rfl) (fun _ _ _ h => h) (Or.inl ⟨by rfl, ?_⟩) hHeld ?_ ?_
      rotate_left
      · rintro w' ⟨s0, s1, s2, s3, s4, s5⟩
        go_simp
        with_reducible rfl
      rotate_left
      · simp only [Act.put, List.setIfInBounds_toArray, List.set_cons_zero, List.set_cons_succ, i64_w, i32_w]
        rfl
      refine take_ (i := 4) (N := some 65) (v := ?_) (a' := ?_) #[true, true, true, true, true, false, true, true, false, false, true, true, false, false, false, true, false, true, false, false, false, false, false] rfl rfl (by kernel_rfl) (fun _ _ _ h => h) (Or.inl ⟨by rfl, ?_⟩) hHeld ?_ ?_
      rotate_left
      · rintro w' ⟨s0, s1, s2, s3, s4, s5⟩
        go_simp
        with_reducible rfl
      rotate_left
      · simp only [Act.put, List.setIfInBounds_toArray, List.set_cons_zero, List.set_cons_succ, i64_w, i32_w]
        rfl
      refine take_ (i := 8) (N := some 69) (v := ?_) (a' := ?_) #[true, true, true, true, true, false, true, true, true, false, true, true, false, false, false, true, false, true, false, false, false, false, false] rfl rfl (by kernel_rfl) (fun _ _ _ h => h) (Or.inl ⟨by rfl, ?_⟩) hHeld ?_ ?_
      rotate_left
      · rintro w' ⟨s0, s1, s2, s3, s4, s5⟩
        go_simp
        with_reducible rfl
      rotate_left
      · simp only [Act.put, List.setIfInBounds_toArray, List.set_cons_zero, List.set_cons_succ, i64_w, i32_w]
        rfl
      refine pure_ (i := 9) (N := some 70) (v := ?_) (a' := ?_) #[true, true, true, true, true, false, true, true, true, true, true, true, false, false, false, true, false, true, false, false, false, false, false] rfl rfl (by kernel_rfl) (fun _ _ _ h => h) (Or.inl ⟨by rfl, ?_⟩) ?_ ?_
      rotate_left
      · intro w'
        go_simp
        with_reducible rfl
      rotate_left
      · simp only [Act.put, List.setIfInBounds_toArray, List.set_cons_zero, List.set_cons_succ, i64_w, i32_w]
        rfl
      refine take_ (i := 12) (N := some 73) (v := ?_) (a' := ?_) #[true, true, true, true, true, false, true, true, true, true, true, true, true, false, false, true, false, true, false, false, false, false, false] rfl rfl (by kernel_rfl) (fun _ _ _ h => h) (Or.inl ⟨by rfl, ?_⟩) hHeld ?_ ?_
      rotate_left
      · rintro w' ⟨s0, s1, s2, s3, s4, s5⟩
        go_simp
        with_reducible rfl
      rotate_left
      · simp only [Act.put, List.setIfInBounds_toArray, List.set_cons_zero, List.set_cons_succ, i64_w, i32_w]
        rfl
      refine pure_ (i := 13) (N := some 74) (v := ?_) (a' := ?_) #[true, true, true, true, true, false, true, true, true, true, true, true, true, true, false, true, false, true, false, false, false, false, false] rfl rfl (by kernel_rfl) (fun _ _ _ h => h) (Or.inl ⟨by rfl, ?_⟩) ?_ ?_
      rotate_left
      · intro w'
        go_simp
        with_reducible rfl
      rotate_left
      · simp only [Act.put, List.setIfInBounds_toArray, List.set_cons_zero, List.set_cons_succ, i64_w, i32_w]
        rfl
      refine pure_ (i := 14) (N := some 75) (v := ?_) (a' := ?_) #[true, true, true, true, true, false, true, true, true, true, true, true, true, true, true, true, false, true, false, false, false, false, false] rfl rfl (by kernel_rfl) (fun _ _ _ h => h) (Or.inl ⟨by rfl, ?_⟩) ?_ ?_
      rotate_left
      · intro w'
        go_simp
        with_reducible rfl
      rotate_left
      · simp only [Act.put, List.setIfInBounds_toArray, List.set_cons_zero, List.set_cons_succ, i64_w, i32_w]
        rfl
      refine take_ (i := 16) (N := some 77) (v := ?_) (a' := ?_) #[true, true, true, true, true, false, true, true, true, true, true, true, true, true, true, true, true, true, false, false, false, false, false] rfl rfl (by kernel_rfl) (fun _ _ _ h => h) (Or.inl ⟨by rfl, ?_⟩) hHeld ?_ ?_
      rotate_left
      · rintro w' ⟨s0, s1, s2, s3, s4, s5⟩
        go_simp
        with_reducible rfl
      rotate_left
      · simp only [Act.put, List.setIfInBounds_toArray, List.set_cons_zero, List.set_cons_succ, i64_w, i32_w]
        rfl
      refine take_ (i := 18) (N := some 79) (v := ?_) (a' := ?_) #[true, true, true, true, true, false, true, true, true, true, true, true, true, true, true, true, true, true, true, false, false, false, false] rfl rfl (by kernel_rfl) (fun _ _ _ h => h) (Or.inl ⟨by rfl, ?_⟩) hHeld ?_ ?_
      rotate_left
      · rintro w' ⟨s0, s1, s2, s3, s4, s5⟩
        go_simp
        with_reducible rfl
      rotate_left
      · simp only [Act.put, List.setIfInBounds_toArray, List.set_cons_zero, List.set_cons_succ, i64_w, i32_w]
        rfl
      refine pure_ (i := 19) (N := some 80) (v := ?_) (a' := ?_) #[true, true, true, true, true, false, true, true, true, true, true, true, true, true, true, true, true, true, true, true, false, false, false] rfl rfl (by kernel_rfl) (fun _ _ _ h => h) (Or.inl ⟨by rfl, ?_⟩) ?_ ?_
      rotate_left
      · intro w'
        go_simp
        with_reducible rfl
      rotate_left
      · simp only [Act.put, List.setIfInBounds_toArray, List.set_cons_zero, List.set_cons_succ, i64_w, i32_w]
        rfl
      refine pure_ (i := 20) (N := some 81) (v := ?_) (a' := ?_) #[true, true, true, true, true, false, true, true, true, true, true, true, true, true, true, true, true, true, true, true, true, false, false] rfl rfl (by kernel_rfl) (fun _ _ _ h => h) (Or.inl ⟨by rfl, ?_⟩) ?_ ?_
      rotate_left
      · intro w'
        go_simp
        with_reducible rfl
      rotate_left
      · simp only [Act.put, List.setIfInBounds_toArray, List.set_cons_zero, List.set_cons_succ, i64_w, i32_w]
        rfl
      refine one_ (i := 5) (N := some 66) #[true, true, true, true, true, true, true, true, true, true, true, true, true, true, true, true, true, true, true, true, true, false, false] rfl rfl (by kernel_rfl) (by decide) (fun K hK => ?_)
      refine goes_ Tryd.func100 (by kernel_rfl) rfl #[.int .u32 v0, .agg #[.int .i64 2, .int .i64 13, .int .i64 22], .int .i64 32] (by rfl) rfl rfl (by simp only [List.map_toArray, List.map_cons, List.map_nil]; rfl) ?_
      with_reducible refine (big_calls v0 2 13 22 (by decide) (by decide) (by decide) (by decide) (by decide) (by decide) _).mono ?_
      rintro e w8 ⟨rfl, hd⟩
      refine ⟨_, rfl, ?_⟩
      have HI8 := Aside0.mk (HD8.out.below hd)
      clear hd
      refine hK.out _ _ ⟨(S1.out _ HI8.out), (S2.out _ HI8.out), (HI8.out.shape 1 _ rfl), (HI8.out.shape 9 _ rfl), (HI8.out.shape 10 _ rfl), (HI8.out.shape 11 _ rfl)⟩ (fun hHeld => ?_)
      clear hK K
      refine norm_ (a' := ?_) ?_ ?_
      rotate_left
      · show Act.put _ (some 66) _ = _
        simp only [Act.put, List.setIfInBounds_toArray, List.set_cons_zero, List.set_cons_succ, i64_w, i32_w]
        rfl
      refine pure_ (i := 21) (N := some 82) (v := ?_) (a' := ?_) #[true, true, true, true, true, true, true, true, true, true, true, true, true, true, true, true, true, true, true, true, true, true, false] rfl rfl (by kernel_rfl) (fun _ _ _ h => h) (Or.inl ⟨by rfl, ?_⟩) ?_ ?_
      rotate_left
      · intro w'
        go_simp
        with_reducible rfl
      rotate_left
      · simp only [Act.put, List.setIfInBounds_toArray, List.set_cons_zero, List.set_cons_succ, i64_w, i32_w]
        rfl
      refine pure_ (i := 22) (N := some 13) (v := ?_) (a' := ?_) #[true, true, true, true, true, true, true, true, true, true, true, true, true, true, true, true, true, true, true, true, true, true, true] rfl rfl (by kernel_rfl) (fun _ _ _ h => h) (Or.inl ⟨by rfl, ?_⟩) ?_ ?_
      rotate_left
      · intro w'
        go_simp
        with_reducible rfl
      rotate_left
      · simp only [Act.put, List.setIfInBounds_toArray, List.set_cons_zero, List.set_cons_succ, i64_w, i32_w]
        rfl
      refine done_ (by kernel_rfl) ?_
      clear hHeld
      generalize hY : IntKind.u32.wrap (bigM v0 2 13 22 + Go.bits .xor .u32 (Go.bits .xor .u32 (Go.bits .and .u32 v0 v1) (Go.bits .and .u32 v0 v2)) (Go.bits .and .u32 v1 v2)) = Y
      have HY := Lib.hid hY
      clear hY
      have h1 := S1.out _ HI8.out
      have h2 := S2.out _ HI8.out
      have h3 := S3.out _ HI8.out
      have h5 := S5.out _ HI8.out
      have h6 := S6.out _ HI8.out
      have HNX := Aside0.mk (show roundsM hv ws (t + 1) = [(X + Y) % 4294967296, v0, v1, v2, (v3 + X) % 4294967296, v4, v5, v6] from by rw [HN.out, ← HX.out, ← HY.out] <;> rfl)
      have HST := Aside0.mk (run_store_block (P := Tryd.prog) (w := w8) (b + 1) 124 (nums .u32 vs).toArray (nums .u32 [(X + Y) % 4294967296, v0, v1, v2, (v3 + X) % 4294967296, v4, v5, v6]).toArray 124 HI8.out.bv (info124 _ rfl) (by simp [nums_length, HVL.out]) (u32_one _))
      have HV := Aside0.mk (HI8.out.setV [(X + Y) % 4294967296, v0, v1, v2, (v3 + X) % 4294967296, v4, v5, v6])
      go_wp2_with (first | ((with_reducible refine store_at (ty := 124) (.tmp 8) (.tmp 100) ?_ ?_ ?_ HST.out ?_ ?_ ?_); exact rfl; exact rfl; exact rfl; exact rfl; exact rfl))
      go_roundw
      case rel => exact ⟨t + 1, by go_num, by omega, ⟨by rw [HNX.out]; exact HV.out⟩⟩
      case measure => simp [intOf]; omega
    · obtain rfl : t = 64 := by omega
      obtain ⟨vs, hvs⟩ : ∃ vs, roundsM hv ws 64 = vs := ⟨_, rfl⟩
      have HVL := Aside0.mk (show vs.length = 8 from hvs ▸ roundsM_length H8.out 64)
      have HVS := Lib.hid hvs
      rw [hvs] at HM
      have hq : decide ((64 : Int) < 64) = false := rfl
      clear hvs
      repeat (first | go_step | go_guarded | go_upon)
      go_loopw [14, 102] (fun v14 v102 w' => ∃ i : Nat, v102 = .int .i64 i ∧ i ≤ 8 ∧ Aside0 (Mx w w' b (addR hv vs i) ws vs)) (fun v14 v102 _ => 8 - (intOf v102).toNat)
      case atStart => exact ⟨0, rfl, Nat.zero_le _, HM⟩
      case round =>
        clear HM
        obtain ⟨i, rfl, hi, HM⟩ := hrel
        have HHL := Aside0.mk (show (addR hv vs i).length = 8 from (addR_length hv vs i).trans H8.out)
        by_cases hlt : i < 8
        · have hq : decide ((i : Int) < 8) = true := decide_eq_true (by omega)
          obtain ⟨x, hx⟩ : ∃ x, (addR hv vs i).getD i 0 = x := ⟨_, rfl⟩
          obtain ⟨y, hy⟩ : ∃ y, vs.getD i 0 = y := ⟨_, rfl⟩
          have HN := Aside0.mk (show addR hv vs (i + 1) = (addR hv vs i).set i (IntKind.u32.wrap (x + y)) by rw [addR, hx, hy])
          have HD := Aside0.mk HM.out.drew
          have S0 := Aside0.mk (fun (W : World) (h : Mx w W b (addR hv vs i) ws vs) => (hx ▸ h.ch (i := i) (by rw [HHL.out]; exact hlt) : W.cell? ⟨w.heap.size + 1, i, none⟩ = some (.int .u32 x)))
          have S1 := Aside0.mk (fun (W : World) (h : Mx w W b (addR hv vs i) ws vs) => (hy ▸ h.cv (i := i) (by rw [HVL.out]; exact hlt) : W.cell? ⟨b + 1, i, none⟩ = some (.int .u32 y)))
          have hc := HD.out.ch (i := i) (by rw [HHL.out]; exact hlt)
          have hf := free_row HD.out.bh i
          have bt : ((i : Int) < 8) = True := eq_true (by omega)
          have HST := Aside0.mk (HD.out.setH i (IntKind.u32.wrap (x + y)))
          clear hx hy
          repeat (first | go_step | go_guarded | go_upon)
          refine start_ (n := 9) (S := fun w' => w'.cell? ⟨w.heap.size + 1, i, none⟩ = some (.int .u32 x) ∧ w'.cell? ⟨b + 1, i, none⟩ = some (.int .u32 y)) (ds := [8]) #[false, false, false, false, false, false, false, false, false] (by kernel_rfl) rfl rfl ⟨(S0.out _ HD.out), (S1.out _ HD.out)⟩ (fun hHeld => ?_)
          refine pure_ (i := 0) (N := some 105) (v := ?_) (a' := ?_) #[true, false, false, false, false, false, false, false, false] rfl rfl (by kernel_rfl) (fun _ _ _ h => h) (Or.inl ⟨by rfl, ?_⟩) ?_ ?_
          rotate_left
          · intro w'
            go_simp
            with_reducible rfl
          rotate_left
          · simp only [Act.put, List.setIfInBounds_toArray, List.set_cons_zero, List.set_cons_succ, i64_w, i32_w]
            rfl
          refine pure_ (i := 1) (N := some 106) (v := ?_) (a' := ?_) #[true, true, false, false, false, false, false, false, false] rfl rfl (by kernel_rfl) (fun _ _ _ h => h) (Or.inl ⟨by rfl, ?_⟩) ?_ ?_
          rotate_left
          · intro w'
            go_simp
            with_reducible rfl
          rotate_left
          · simp only [Act.put, List.setIfInBounds_toArray, List.set_cons_zero, List.set_cons_succ, i64_w, i32_w]
            rfl
          refine pure_ (i := 3) (N := some 108) (v := ?_) (a' := ?_) #[true, true, false, true, false, false, false, false, false] rfl rfl (by kernel_rfl) (fun _ _ _ h => h) (Or.inl ⟨by rfl, ?_⟩) ?_ ?_
          rotate_left
          · intro w'
            go_simp
            with_reducible rfl
          rotate_left
          · simp only [Act.put, List.setIfInBounds_toArray, List.set_cons_zero, List.set_cons_succ, i64_w, i32_w]
            rfl
          refine pure_ (i := 4) (N := some 109) (v := ?_) (a' := ?_) #[true, true, false, true, true, false, false, false, false] rfl rfl (by kernel_rfl) (fun _ _ _ h => h) (Or.inl ⟨by rfl, ?_⟩) ?_ ?_
          rotate_left
          · intro w'
            go_simp
            with_reducible rfl
          rotate_left
          · simp only [Act.put, List.setIfInBounds_toArray, List.set_cons_zero, List.set_cons_succ, i64_w, i32_w]
            rfl
          refine take_ (i := 2) (N := some 107) (v := ?_) (a' := ?_) #[true, true, true, true, true, false, false, false, false] rfl rfl (by kernel_rfl) (fun _ _ _ h => h) (Or.inl ⟨by rfl, ?_⟩) hHeld ?_ ?_
          rotate_left
          · rintro w' ⟨s0, s1⟩
            go_simp
            with_reducible rfl
          rotate_left
          · simp only [Act.put, List.setIfInBounds_toArray, List.set_cons_zero, List.set_cons_succ, i64_w, i32_w]
            rfl
          refine take_ (i := 5) (N := some 110) (v := ?_) (a' := ?_) #[true, true, true, true, true, true, false, false, false] rfl rfl (by kernel_rfl) (fun _ _ _ h => h) (Or.inl ⟨by rfl, ?_⟩) hHeld ?_ ?_
          rotate_left
          · rintro w' ⟨s0, s1⟩
            go_simp
            with_reducible rfl
          rotate_left
          · simp only [Act.put, List.setIfInBounds_toArray, List.set_cons_zero, List.set_cons_succ, i64_w, i32_w]
            rfl
          refine pure_ (i := 6) (N := some 111) (v := ?_) (a' := ?_) #[true, true, true, true, true, true, true, false, false] rfl rfl (by kernel_rfl) (fun _ _ _ h => h) (Or.inl ⟨by rfl, ?_⟩) ?_ ?_
          rotate_left
          · intro w'
            go_simp
            with_reducible rfl
          rotate_left
          · simp only [Act.put, List.setIfInBounds_toArray, List.set_cons_zero, List.set_cons_succ, i64_w, i32_w]
            rfl
          refine pure_ (i := 7) (N := some 112) (v := ?_) (a' := ?_) #[true, true, true, true, true, true, true, true, false] rfl rfl (by kernel_rfl) (fun _ _ _ h => h) (Or.inl ⟨by rfl, ?_⟩) ?_ ?_
          rotate_left
          · intro w'
            go_simp
            with_reducible rfl
          rotate_left
          · simp only [Act.put, List.setIfInBounds_toArray, List.set_cons_zero, List.set_cons_succ, i64_w, i32_w]
            rfl
          refine last_ (i := 8) (N := none) #[true, true, true, true, true, true, true, true, true] rfl rfl (by kernel_rfl) (by decide) (fun K hK => ?_)
          refine skip_ (w1 := ?_) (by rfl) rfl ?_ ?_
          rotate_left
          · go_simp
            rfl
          refine hK.out _ _ ?_
          clear hK K
          refine done_ (by kernel_rfl) ?_
          clear hHeld hc hf
          go_wp2_with (fail)
          go_roundw
          case rel => exact ⟨i + 1, by go_num, by omega, ⟨by rw [HN.out]; exact HST.out⟩⟩
          case measure => simp [intOf]; omega
        · obtain rfl : i = 8 := by omega
          have hq : decide ((8 : Int) < 8) = false := rfl
          have HL := Aside0.mk (run_loadAt_cells (P := Tryd.prog) (w := wr) 124 Tryd.underlying124 rfl (w.heap.size + 1) 0 (nums .u32 (addR hv vs 8)) (by rw [nums_length, HHL.out]; kernel_rfl) (fun j u hu => by rw [Nat.zero_add, cell_of_row _ _ j _ _ _ HM.out.bh]; simpa using hu))
          have HST := Aside0.mk (run_store_block (P := Tryd.prog) (w := wr) (w.heap.size + 1 + 1) 124 (z8 .u32) (nums .u32 (addR hv vs 8)).toArray 124 HM.out.br (info124 _ HHL.out) (by simp [z8, nums_length, HHL.out]) (u32_one _))
          go_wp2_with (first | ((with_reducible refine load_at (ty := 124) (.tmp 4) ?_ ?_ HL.out ?_ ?_); exact rfl; exact rfl; exact rfl) | ((with_reducible refine store_at (ty := 124) (.tmp 6) (.tmp 114) ?_ ?_ ?_ HST.out ?_ ?_ ?_); exact rfl; exact rfl; exact rfl; exact rfl; exact rfl))
          refine bodyPost_ret (results_cell_row rfl _ _ _ _ (nums .u32 (addR hv vs 8)).toArray _ _ rfl (setRow_heap _ _ _ _ _ _ HM.out.br) Tryd.underlying124 rfl (info124 _ HHL.out)) rfl ?_
          exact ⟨by rw [mixM, HWS.out, HVS.out], below_row HM.out.bb (by omega) _⟩

end Go.Proofs.YtmblnflfklmmkaaDoor.Sh
/- Contracts of package disk: Bytes. -/
namespace Go.Proofs.YtmblnflfklmmkaaDoor.Dk
open Go.RowKit Go.Proofs.YtmblnflfklmmkaaDoorW.PrintWords Go.Proofs.YtmblnflfklmmkaaDoorW.PrintLast Go.Proofs.YtmblnflfklmmkaaDoorW.PrintMore
set_option linter.unusedVariables false
set_option linter.unusedSimpArgs false
set_option maxRecDepth 30000
variable {w : World} {B g : Nat} {F : Nat → Prop} {D : DM} {vs vh vc : Value}
/-- What Bytes tells, the first n sectors seen. -/
def bytesTo (sec : List (List Int)) : Nat → List Int
  | 0 => []
  | n + 1 => bytesTo sec n ++ sec.getD n []
def bytesM (D : DM) : List Int := bytesTo D.sec D.sec.length
theorem bytesTo_length {sec : List (List Int)} (hh : ∀ i, i < sec.length → (sec.getD i []).length = 64) : ∀ n, n ≤ sec.length → (bytesTo sec n).length = n * 64
  | 0, _ => rfl
  | n + 1, hn => by
    rw [bytesTo, List.length_append, bytesTo_length hh n (by omega), hh n (by omega)]
    omega
theorem make_empty (cap : Nat) (hc : cap ≤ 100000000000) (w : World) : (Instr.makeSlice 22 (.int .i64 0) (.int .i64 (cap : Int))).run Tryd.prog w = .ok (.slice (some ⟨w.heap.size, 0, none⟩) 0 cap) (w.alloc (.cells (madeCells #[.int .u8 0] cap) 5)) := by
  obtain ⟨i0, hi, hzz⟩ := Option.map_eq_some_iff.1 info5
  simp only [Prod.mk.injEq] at hzz
  obtain ⟨hz0, hz1, hz2⟩ := hzz
  have hr := run_make (P := Tryd.prog) w 22 5 i0 (.int .u8 0) Tryd.underlying22 hi hz0 .i64 .i64 0 (cap : Int) (by omega) (by omega) (by rw [hz2]; omega) (by omega)
  rw [hz1] at hr
  simpa [Value.cells] using hr
theorem R_empty (cap : Nat) (hc : cap ≤ 100000000000) (w : World) (base : Nat) (ok : Nat → Prop) (hb : base ≤ w.heap.size) (hok : ok w.heap.size) : Kd.R (Kd.int .u8) 5 (w.alloc (.cells (madeCells #[.int .u8 0] cap) 5)) base ok (.slice (some ⟨w.heap.size, 0, none⟩) 0 cap) [] := by
  refine ⟨fun k hk => ?_, [], ⟨by simp, .inr ⟨w.heap.size, cap, madeCells #[.int .u8 0] cap, rfl, hb, heap_alloc_new w _, Nat.zero_le _, by simp only [maxLen]; omega, by simp [size_madeCells, Kd.int, Kd.scalar], by simp⟩⟩, Reps.none _ _⟩
  simp [Value.ownBlock] at hk
  rw [← hk]
  exact hok
/-- A block of bytes, as what is read. -/
theorem C_block {w : World} {g : Nat} {x : List Int} {e : TypeId} {m : Nat × Nat} (h : w.heap[g]? = some (.cells (nums .u8 x).toArray e m)) (hx : x.length ≤ 1000000) : Kd.C (Kd.int .u8) w (some ⟨g, 0, none⟩) x.length x := by
  refine ⟨rfl, by omega, fun _ => ⟨_, rfl, fun j p hj => ⟨[.int .u8 p], rfl, rfl, fun i u hu => ?_⟩⟩⟩
  cases i with
  | succ i => simp at hu
  | zero =>
    simp only [List.getElem?_cons_zero, Option.some.injEq] at hu
    subst hu
    rw [add0, World.cell?, h]
    simp [nums, Kd.int, Kd.scalar, hj]
set_option maxHeartbeats 8000000 in
theorem Bytes_calls (h : DAt w B g F D vs vh vc) (hok : DOk D) :
    Calls Tryd.prog 17 #[.pointer (some ⟨g, 0, none⟩)] w fun e w' => ∃ v, e = .returned v ∧ Kd.R (Kd.int .u8) 5 w' w.heap.size (fun k => w.heap.size ≤ k) v (bytesM D) ∧ Below w.heap.size w w' := by
  have H := Aside0.mk h
  have HOK := Aside0.mk hok
  obtain ⟨As, cs, rfl, hsl, _⟩ := Kd.R_reads h.sec
  have h0 := h.c0
  have hn1 := hok.n1
  have hM : (Instr.makeSlice 22 (.int .i64 0) (.int .i64 ((D.sec.length : Int) * 64))).run Tryd.prog w = .ok (.slice (some ⟨w.heap.size, 0, none⟩) 0 (D.sec.length * 64)) (w.alloc (.cells (madeCells #[.int .u8 0] (D.sec.length * 64)) 5)) := by
    have := make_empty (D.sec.length * 64) (by omega) w
    rwa [Int.natCast_mul] at this
  have HRE := Aside0.mk (R_empty (D.sec.length * 64) (by omega) w w.heap.size (fun k => w.heap.size ≤ k) (Nat.le_refl _) (Nat.le_refl _))
  have HB0 := Aside0.mk (below_alloc (Below.refl w.heap.size w) (.cells (madeCells #[.int .u8 0] (D.sec.length * 64)) 5))
  have h01 : (w.alloc (.cells (madeCells #[.int .u8 0] (D.sec.length * 64)) 5)).cell? ⟨g, 0, none⟩ = some (.slice As D.sec.length cs) := (H.out.below HB0.out).c0
  clear h hok
  go_enter Tryd.func17, Tryd.ntmps17
  go_wp2
  go_loopw [3, 5, 20] (fun v3 v5 v20 w' => ∃ i : Nat, v20 = .int .i64 i ∧ i ≤ D.sec.length ∧ Aside0 (Kd.R (Kd.int .u8) 5 w' w.heap.size (fun k => w.heap.size ≤ k) v3 (bytesTo D.sec i)) ∧ Aside0 (Below w.heap.size w w')) (fun _ _ v20 _ => D.sec.length - (intOf v20).toNat)
  case atStart => exact ⟨0, rfl, Nat.zero_le _, HRE, HB0⟩
  case round =>
    obtain ⟨i, rfl, hi, HR, HV⟩ := hrel
    clear h0 h01 hM
    have hn1 := HOK.out.n1
    by_cases hlt : i < D.sec.length
    · have HD := Aside0.mk (H.out.below HV.out)
      obtain ⟨gs, hAs, h64, hls⟩ := sec_load HD.out.sec i hlt
      obtain ⟨s0, hs0⟩ : ∃ s0, s0 = D.sec.getD i [] := ⟨_, rfl⟩
      rw [← hs0] at hls h64
      subst hAs
      have HLS := Aside0.mk hls
      have HST := Aside0.mk (run_storeAt_new (P := Tryd.prog) wr 68 zs64 (nums .u8 s0).toArray (by simp only [List.size_toArray, nums_length, h64]; exact size64) (by simp [zs64_size, nums_length, h64]) (nums_one s0))
      have HW := Aside0.mk (heap_alloc_new wr (.cells (nums .u8 s0).toArray 68))
      have HC := C_block HW.out (by omega)
      rw [h64] at HC
      have HC' := Aside0.mk HC
      have HBW := Aside0.mk (below_alloc HV.out (.cells (nums .u8 s0).toArray 68))
      have HRW := Aside0.mk (Kd.R_below HR.out (below_alloc (Below.refl wr.heap.size wr) (.cells (nums .u8 s0).toArray 68)))
      have HL := Aside0.mk (bytesTo_length (sec := D.sec) (fun j hj => (sec_load HD.out.sec j hj).elim fun _ h => h.2.1) i hi)
      have HP := Aside0.mk (show bytesTo D.sec (i + 1) = bytesTo D.sec i ++ s0 by rw [bytesTo, hs0])
      have hvs := HV.out.size
      clear hls h64 hs0 HC
      go_wp2_with (first | (refine load_at (ty := 68) (.tmp 22) rfl rfl HLS.out rfl ?_) | (refine wpList_alloc rfl rfl _ rfl zs64 (run_alloc64 _) ?_) | (refine store_at (ty := 68) (.tmp 5) (.tmp 23) rfl rfl rfl HST.out rfl rfl ?_) | ((with_reducible refine gate_builtin (b := .append) (xs := #[.tmp 24, .tmp 25]) rfl ?_); at_builtin; refine Kd.R_append_rows (Kd.int .u8) (Rr := (Kd.int .u8).K wr) (w0 := w) w.heap.size rfl (.tmp 24) (.tmp 25) 22 5 (.int .u8 0) 1 rfl Tryd.underlying22 info5 rfl (by decide) (by omega) _ (bytesTo D.sec i) s0 (some ⟨wr.heap.size, 0, none⟩) 64 64 (fun k => w.heap.size ≤ k) (fun _ => False) rfl rfl HRW.out HC'.out (fun _ _ h => h) (fun _ h => h.elim) (fun _ h => Nat.le_trans HBW.out.size h) HBW.out HBW.out.size ?aL ?_; (case aL => rw [HL.out]; omega); intro v1 w1 hr1 hb1 hg1 _; have HR1 := Aside0.mk hr1; have HB1 := Aside0.mk hb1; clear hr1 hb1 hg1))
      go_roundw
      case rel => exact ⟨i + 1, by go_num, by omega, ⟨by rw [HP.out]; exact HR1.out⟩, HB1⟩
      case measure => simp [intOf]; omega
    · obtain rfl : i = D.sec.length := by omega
      go_wp2
      go_ret
      exact ⟨_, rfl, HR.out, HV.out⟩
end Go.Proofs.YtmblnflfklmmkaaDoor.Dk
/- Rows of bytes of one's own: what append, make, copy and a store leave. -/
namespace Go.Proofs.YtmblnflfklmmkaaDoor.Dk
open Go.RowKit Go.Proofs.YtmblnflfklmmkaaDoorW.PrintWords Go.Proofs.YtmblnflfklmmkaaDoorW.PrintLast Go.Proofs.YtmblnflfklmmkaaDoorW.PrintMore
set_option linter.unusedVariables false
/-- A row of bytes in a block from q on (or none). -/
def Row8 (w : World) (q : Nat) (v : Value) (xs : List Int) : Prop := Kd.R (Kd.int .u8) 5 w q (fun k => q ≤ k) v xs
abbrev C8 (w : World) (A : Option Addr) (xs : List Int) : Prop := Kd.C (Kd.int .u8) w A xs.length xs
section
variable {w w1 : World} {q g : Nat} {v : Value} {xs ys : List Int} {A : Option Addr} {n c : Nat}
theorem Row8.nil (w : World) (q : Nat) : Row8 w q (.slice none 0 0) [] := Kd.R_nil _ _ _ _ _
theorem Row8.below (h : Row8 w q v xs) (hb : Below w.heap.size w w1) : Row8 w1 q v xs := Kd.R_below h hb
theorem Row8.lower {p : Nat} (h : Row8 w q v xs) (hq : p ≤ q) : Row8 w p v xs := Kd.R_mono (Kd.R_lower h hq) (fun _ h => Nat.le_trans hq h)
theorem Row8.frame {G : Nat → Prop} (h : Row8 w q v xs) (hu : Upd w w1 G) (hd : ∀ k, q ≤ k → ¬ G k) : Row8 w1 q v xs := Kd.R_kept h hu.kept hd
theorem Row8.type {cs : Array Value} {t : Nat} (h : Row8 w q v xs) (hb : w.heap[g]? = some (.cells cs t (0, 0))) (ht : 5 ≠ t) (hu : Upd w w1 (· = g)) : Row8 w1 q v xs :=
  Kd.R_mono (Kd.R_kept (Kd.R_types h hb (by simpa [Kd.int, Kd.scalar] using ht)) hu.kept (fun k hk => hk.2)) (fun k hk => hk.1)
theorem Row8.reads (h : Row8 w q v xs) : ∃ A c, v = .slice A xs.length c ∧ xs.length ≤ c ∧ C8 w A xs := Kd.R_reads h
theorem Row8.slice (h : Row8 w q v xs) : ∃ A c, v = .slice A xs.length c := Kd.R_slice h
theorem Row8.C (h : Row8 w q (.slice A n c) xs) : n = xs.length ∧ n ≤ c ∧ C8 w A xs := Kd.R_reads' h
theorem Row8.take {m : Nat} (h : Row8 w q (.slice A n c) xs) (hm : m ≤ xs.length) : Row8 w q (.slice A m c) (xs.take m) := Kd.R_take h hm
theorem Row8.own (h : Row8 w q v xs) : ∀ k, v.ownBlock = some k → q ≤ k ∧ k < w.heap.size := fun k hk => ⟨h.1 k hk, Kd.R_lt h k hk⟩
theorem Row8.form (h : Row8 w q v xs) (hp : 0 < xs.length) : ∃ g c, v = .slice (some ⟨g, 0, none⟩) xs.length c ∧ q ≤ g ∧ g < w.heap.size ∧ xs.length ≤ c ∧ (∃ cells, w.heap[g]? = some (.cells cells 5 (0, 0))) ∧ ∀ j, j < xs.length → w.cell? ⟨g, j, none⟩ = some (.int .u8 (xs.getD j 0)) := by
  obtain ⟨g, c, rfl, h1, h2, h3⟩ := Kd.R_form h hp
  refine ⟨g, c, rfl, h1, h2, (Kd.R_reads' h).2.1, h3, fun j hj => ?_⟩
  obtain ⟨ad, c', e, hsz, hK, hx⟩ := Kd.C_get (Kd.R_reads' h).2.2 0 (j : Int) (by omega) (by show (j : Int) < (xs.length : Int); omega)
  injection e with e
  subst e
  have := hx 0 (.int .u8 (xs.getD j 0)) (by rw [hK, Int.toNat_natCast]; rfl)
  rw [add0] at this
  simpa [Kd.int, Kd.scalar] using this
theorem Row8.celln (h : Row8 w q (.slice (some ⟨g, 0, none⟩) n c) xs) {i : Nat} (hi : i < xs.length) : w.cell? ⟨g, i, none⟩ = some (.int .u8 (xs.getD i 0)) ∧ w.frozen? ⟨g, i, none⟩ = false := by
  obtain ⟨rfl, _⟩ := Kd.R_reads' h
  obtain ⟨g', c', e, _, _, _, ⟨cells, hb⟩, h1⟩ := Row8.form h (by omega)
  injection e with e
  injection e with e
  injection e with e
  subst e
  exact ⟨h1 i hi, blk_frozen hb i⟩
theorem Row8.put (h : Row8 w q (.slice (some ⟨g, 0, none⟩) n c) xs) (i : Nat) (x : Int) : Row8 (w.setCell ⟨g, i, none⟩ (.int .u8 x)) q (.slice (some ⟨g, 0, none⟩) n c) (xs.set i x) := by
  have := Kd.R_putn (enc := fun x : Int => Value.int .u8 x) (h1 := fun _ => rfl) h (i : Int) x
  simp only [Int.toNat_natCast] at this
  exact this
/-- A row of bytes whose block is younger than w0. -/
structure Fr8 (w0 w : World) (A : Option Addr) (xs : List Int) : Prop where
  C : C8 w A xs
  own : ∀ a, A = some a → w0.heap.size ≤ a.block ∧ a.block < w.heap.size
theorem Fr8.nil (w0 w : World) : Fr8 w0 w none [] := ⟨Kd.C_nil _ _, fun _ h => by cases h⟩
theorem Fr8.below {w0 : World} (h : Fr8 w0 w A xs) (hb : Below w.heap.size w w1) : Fr8 w0 w1 A xs := ⟨Kd.C_below h.C hb, fun a ha => ⟨(h.own a ha).1, Nat.lt_of_lt_of_le (h.own a ha).2 hb.size⟩⟩
theorem Fr8.elder {w0 w00 : World} (h : Fr8 w0 w A xs) (hb : w00.heap.size ≤ w0.heap.size) : Fr8 w00 w A xs := ⟨h.C, fun a ha => ⟨Nat.le_trans hb (h.own a ha).1, (h.own a ha).2⟩⟩
theorem C8.upd {G : Nat → Prop} (h : C8 w A xs) (hu : Upd w w1 G) (hd : ∀ a, A = some a → a.block < w.heap.size ∧ ¬ G a.block) : C8 w1 A xs := by
  obtain ⟨h1, h2, h3⟩ := h
  refine ⟨h1, h2, fun hp => ?_⟩
  obtain ⟨ad, hA, hc⟩ := h3 hp
  refine ⟨ad, hA, fun j p hj => ?_⟩
  obtain ⟨c, e1, e2, e3⟩ := hc j p hj
  refine ⟨c, e1, e2, fun i u hi => ?_⟩
  have := hu.block ad.block (hd ad hA).1 (hd ad hA).2
  rw [← e3 i u hi]
  unfold World.cell?
  rw [show (ad.add (j * (Kd.int .u8).sz + i)).block = ad.block by unfold Addr.add; split <;> rfl, this]
theorem C8.take (h : C8 w A xs) {m : Nat} (hm : m ≤ xs.length) : C8 w A (xs.take m) := Kd.C_take h hm
end
section
variable {P : Program} {ops : Array Oper} {o : Oper} {rest : List Oper} {a : Act} {W : World} {Q : Exit → Act → World → Prop} {q : Nat}
theorem app8 (hi5 : (P.info? 5).map (fun i => (i.zero, i.size, i.bytes)) = some (some (.int .u8 0), 1, 1)) (h22 : P.underlying 22 = some (.slice 5)) (hgd : o.guard = none) (s x : Operand) (ho : o.op = .call { callee := .builtin .append, args := #[s, x], argTypes := #[22, 22] }) (v : Value) (xs ys : List Int) (A : Option Addr) (m c : Nat)
    (hs : a.eval s = v) (hx : a.eval x = .slice A m c) (HO : Row8 W q v xs) (HC : Kd.C (Kd.int .u8) W A m ys) (hq : q ≤ W.heap.size) (hl : xs.length + m ≤ 1000000000)
    (h : ∀ A1 c1 w1, Row8 w1 q (.slice A1 (xs ++ ys).length c1) (xs ++ ys) → Below q W w1 → W.grownBy w1 v.ownBlock → wpList P ops Q rest (a.put o.dst (.slice A1 (xs ++ ys).length c1)) w1) : wpList P ops Q (o :: rest) a W := by
  refine Kd.R_append_rows (Kd.int .u8) (Rr := (Kd.int .u8).K W) (w0 := W) q hgd s x 22 5 (.int .u8 0) 1 ho h22 hi5 rfl (by decide) (by omega) v xs ys A m c (fun k => q ≤ k) (fun _ => False) hs hx HO HC (fun _ _ h => h) (fun _ h => h.elim) (fun _ h => Nat.le_trans hq h) (Below.refl _ _) hq (by omega) ?_
  intro v1 w1 hr hb hg _
  obtain ⟨A1, c1, rfl⟩ := Kd.R_slice hr
  exact h A1 c1 w1 hr hb hg
theorem app8_step {Kc : Act → World → Prop} (hi5 : (P.info? 5).map (fun i => (i.zero, i.size, i.bytes)) = some (some (.int .u8 0), 1, 1)) (h22 : P.underlying 22 = some (.slice 5)) (hw : Region.wanted o (yielded ops a.tmps) = true) {N : Option Tmp} (hN : o.dst = N) (s x : Operand) (ho : o.op = .call { callee := .builtin .append, args := #[s, x], argTypes := #[22, 22] }) (v : Value) (xs ys : List Int) (A : Option Addr) (m c : Nat)
    (hs : a.eval s = v) (hx : a.eval x = .slice A m c) (HO : Row8 W q v xs) (HC : Kd.C (Kd.int .u8) W A m ys) (hq : q ≤ W.heap.size) (hl : xs.length + m ≤ 1000000000)
    (h : ∀ A1 c1 w1, Row8 w1 q (.slice A1 (xs ++ ys).length c1) (xs ++ ys) → Below q W w1 → W.grownBy w1 v.ownBlock → Kc (a.put N (.slice A1 (xs ++ ys).length c1)) w1) : if Region.wanted o (yielded ops a.tmps) = true then Oper.wp P o a W Kc Q else Kc (a.put N undef) W := by
  subst hN
  refine Kd.R_append_rows_step (Kd.int .u8) (Rr := (Kd.int .u8).K W) (w0 := W) q hw s x 22 5 (.int .u8 0) 1 ho h22 hi5 rfl (by decide) (by omega) v xs ys A m c (fun k => q ≤ k) (fun _ => False) hs hx HO HC (fun _ _ h => h) (fun _ h => h.elim) (fun _ h => Nat.le_trans hq h) (Below.refl _ _) hq (by omega) ?_
  intro v1 w1 hr hb hg _
  obtain ⟨A1, c1, rfl⟩ := Kd.R_slice hr
  exact h A1 c1 w1 hr hb hg
theorem run_make8 (hi5 : (P.info? 5).map (fun i => (i.zero, i.size, i.bytes)) = some (some (.int .u8 0), 1, 1)) (h22 : P.underlying 22 = some (.slice 5)) (W : World) (n c : Nat) (hnc : n ≤ c) (hc : c ≤ 1000000000) :
    ∃ A w1, (Instr.makeSlice 22 (.int .i64 n) (.int .i64 c)).run P W = .ok (.slice A n c) w1 ∧ Row8 w1 W.heap.size (.slice A n c) (List.replicate n 0) ∧ Below W.heap.size W w1 := by
  obtain ⟨i0, hi, hzz⟩ := Option.map_eq_some_iff.1 hi5
  simp only [Prod.mk.injEq] at hzz
  obtain ⟨hz0, hz1, hz2⟩ := hzz
  have hr := run_make (P := P) (w := W) 22 5 i0 _ h22 hi hz0 .i64 .i64 (n : Int) (c : Int) (by omega) (by omega) (by rw [hz2]; omega) (by omega)
  simp only [Int.toNat_natCast, hz1, Nat.mul_one] at hr
  refine ⟨_, _, hr, ?_, below_alloc (Below.refl _ _) _⟩
  have hm : madeCells (Value.int .u8 0).cells c = (nums .u8 (List.replicate c 0)).toArray := by
    apply Array.ext_getElem?
    intro k
    simp only [madeCells, nums, Value.cells]
    by_cases hk : k < c
    · simp [hk, Nat.mod_one]
    · simp [hk]
  rw [hm]
  have h0 : Row8 (W.alloc (.cells (nums .u8 (List.replicate c 0)).toArray 5)) W.heap.size (.slice (some ⟨W.heap.size, 0, none⟩) c c) (List.replicate c 0) := by
    have ho : (W.alloc (.cells (nums .u8 (List.replicate c 0)).toArray 5)).ownsRow W.heap.size 5 1 (.slice (some ⟨W.heap.size, 0, none⟩) c c) c (nums .u8 (List.replicate c 0)) := by
      refine ⟨by simp [nums_length], .inr ⟨W.heap.size, c, (nums .u8 (List.replicate c 0)).toArray, rfl, Nat.le_refl _, heap_alloc_new _ _, Nat.le_refl _, by unfold maxLen; omega, by simp [nums_length], by simp [nums]⟩⟩
    have hl : (List.replicate c (0 : Int)).length = c := by simp
    rw [← hl] at ho
    have := Kd.R_of_own (enc := fun x : Int => Value.int .u8 x) (h1 := fun _ => rfl) (ok := fun k => W.heap.size ≤ k) (xs := List.replicate c (0 : Int)) (v := .slice (some ⟨W.heap.size, 0, none⟩) c c) (by rw [hl] at ho ⊢; exact ho) (fun k hk => by simp only [Value.ownBlock, Option.some.injEq] at hk; omega)
    exact this
  have := h0.take (m := n) (by simpa using hnc)
  rwa [List.take_replicate, Nat.min_eq_left hnc] at this
end
end Go.Proofs.YtmblnflfklmmkaaDoor.Dk
