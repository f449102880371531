/- The reference's Counts: what it tells. -/
import Derived.Test.YtmmpppahagknpaaWcA
import Derived.Test.YtmmpppahagknpaaPx8
import Derived.Test.YtmmpppahagknpaaWMore
import Derived.Laws.StructEq
import Derived.Lib.Hide
namespace Go.Proofs.Ytmmpppahagknpaa.Wc
open Go.RowKit Go.Proofs.Ytmmpppahagknpaa.P Go.Proofs.Ytmmpppahagknpaa.Pure Go.Proofs.YtmmpppahagknpaaW.PrintWords Go.Proofs.YtmmpppahagknpaaW.PrintLast Go.Proofs.YtmmpppahagknpaaW.PrintMore
set_option linter.unusedVariables false
set_option linter.unusedSimpArgs false
set_option maxRecDepth 30000
/-- An element: a word's slice, its bytes, its number. -/
structure CE where
  A : Option Addr
  c : Nat
  b : List Int
  n : Int
def CE.enc (x : CE) : List Value := [.slice x.A x.b.length x.c, .int .i64 x.n]
def CE.pr (x : CE) : Cn := (x.b, x.n)
def kE : Kd CE where
  sz := 2
  E := []
  K := fun _ x cs => cs = x.enc
  M := fun _ _ _ x cs => cs = x.enc
  K_len := fun h => by subst h; rfl
  K_one := fun h => by
    subst h
    intro u hu
    simp only [CE.enc, List.mem_cons, List.not_mem_nil, or_false] at hu
    rcases hu with rfl | rfl <;> rfl
  K_below := fun _ h => h
  K_of_M := fun h => h
  M_mono := fun _ h => h
  M_bound := fun h => h
  M_move := fun _ h => h
  M_lower := fun _ h => h
def CE.Ok (w : World) (Z : Nat → Prop) (x : CE) : Prop := Kd.V (Kd.int .u8) 5 w 0 Z (.slice x.A x.b.length x.c) x.b
section
variable {w w1 w2 w' : World} {e : TypeId} {Z Z' : Nat → Prop} {v v1 : Value} {cs : List CE} {l : List Cn} {x : CE} {A : Option Addr} {n c g : Nat} {xs ys : List Int}
/-- A row of counts of the call's own, younger than w; Z: the blocks that are not written any more. -/
structure Ct (w w' : World) (e : TypeId) (Z : Nat → Prop) (v : Value) (cs : List CE) (l : List Cn) : Prop where
  pr : cs.map CE.pr = l
  row : Kd.R kE e w' w.heap.size (fun k => w.heap.size ≤ k ∧ ¬ Z k) v cs
  el : ∀ x ∈ cs, x.Ok w' Z
  zl : ∀ k, Z k → k < w'.heap.size
  zb : ∀ k, k < w.heap.size → Z k
  b : Below w.heap.size w w'
theorem Ct.below (h : Ct w w1 e Z v cs l) (hb : Below w1.heap.size w1 w2) : Ct w w2 e Z v cs l :=
  ⟨h.pr, Kd.R_below h.row hb, fun x hx => Kd.V_below (h.el x hx) hb, fun k hk => Nat.lt_of_lt_of_le (h.zl k hk) hb.size, h.zb, h.b.trans (hb.mono h.b.size)⟩
/-- What a cut has laid is written no more. -/
theorem Ct.cut (h : Ct w w1 e Z v cs l) (hb : Below w1.heap.size w1 w2) : Ct w w2 e (fun k => Z k ∨ (w1.heap.size ≤ k ∧ k < w2.heap.size)) v cs l := by
  have h2 := h.below hb
  have hR : Kd.R kE e w1 w.heap.size (fun k => (w.heap.size ≤ k ∧ ¬ Z k) ∧ k < w1.heap.size) v cs := Kd.R_mono (Kd.R_bound h.row) (fun k hk => ⟨hk.1, hk.2.2.1⟩)
  refine ⟨h2.pr, Kd.R_mono (Kd.R_below hR hb) (fun k hk => ⟨hk.1.1, fun hz => ?_⟩), fun x hx => Kd.V_mono (h2.el x hx) (fun k hk => .inl hk), fun k hk => ?_, fun k hk => .inl (h.zb k hk), h2.b⟩
  · rcases hz with hz | hz
    · exact hk.1.2 hz
    · have := hk.2; omega
  · rcases hk with hk | hk
    · exact h2.zl k hk
    · exact hk.2
theorem Ct.form (h : Ct w w1 e Z v cs l) (hp : 0 < cs.length) : ∃ g c, v = .slice (some ⟨g, 0, none⟩) cs.length c ∧ w.heap.size ≤ g ∧ g < w1.heap.size ∧ ¬ Z g ∧ cs.length ≤ c ∧ ∃ cells, w1.heap[g]? = some (.cells cells e (0, 0)) := by
  obtain ⟨g, c, rfl, h1, h2, h3⟩ := Kd.R_form h.row hp
  exact ⟨g, c, rfl, h1, h2, (h.row.1 g rfl).2, (Kd.R_reads' h.row).2.1, h3⟩
theorem Ct.len (h : Ct w w1 e Z v cs l) : cs.length = l.length := by rw [← h.pr, List.length_map]
theorem Ct.key (h : Ct w w1 e Z v cs l) {j : Nat} (hj : j < cs.length) : (l.getD j ([], 0)) = (cs[j].b, cs[j].n) := by
  rw [← h.pr, List.getD_eq_getElem?_getD, List.getElem?_map, List.getElem?_eq_getElem hj]
  rfl
theorem Ct.cells {n c : Nat} (h : Ct w w1 e Z (.slice (some ⟨g, 0, none⟩) n c) cs l) {j : Nat} (hj : j < cs.length) : w1.cell? ⟨g, j * 2, none⟩ = some (.slice cs[j].A cs[j].b.length cs[j].c) ∧ w1.cell? ⟨g, j * 2 + 1, none⟩ = some (.int .i64 cs[j].n) := by
  have hn : n = cs.length := (Kd.R_reads' h.row).1
  obtain ⟨ct, hl, hM, hx, _⟩ := Kd.R_elem h.row cs[j] (j : Int) (by omega) (by omega)
  rw [Int.toNat_natCast] at hM hx
  have e1 : cs.getD j cs[j] = cs[j] := by rw [List.getD_eq_getElem?_getD, List.getElem?_eq_getElem hj]; rfl
  rw [e1] at hM
  have hM' : ct = cs[j].enc := hM
  subst hM'
  exact ⟨hx 0 _ rfl, hx 1 _ rfl⟩
theorem Ct.C (h : Ct w w1 e Z v cs l) : ∃ A c, v = .slice A cs.length c ∧ cs.length ≤ c ∧ kE.C w1 A cs.length cs := Kd.R_reads h.row
/-- A number is written. -/
theorem Ct.set {n c : Nat} (h : Ct w w1 e Z (.slice (some ⟨g, 0, none⟩) n c) cs l) {j : Nat} (hj : j < cs.length) (m : Int) : Ct w (w1.setCell ⟨g, j * 2 + 1, none⟩ (.int .i64 m)) e Z (.slice (some ⟨g, 0, none⟩) n c) (cs.set j ⟨cs[j].A, cs[j].c, cs[j].b, m⟩) (l.set j (cs[j].b, m)) := by
  have hn : n = cs.length := (Kd.R_reads' h.row).1
  obtain ⟨h0, inner, ho, hr⟩ := h.row
  have hgz := (h0 g rfl).2
  have hgw := (h0 g rfl).1
  refine ⟨by rw [← h.pr, List.map_set]; rfl, ?_, fun x hx => ?_, fun k hk => by simpa [World.setCell] using h.zl k hk, h.zb, h.b.setCell (p := ⟨g, j * 2 + 1, none⟩) hgw _⟩
  · have hp := Kd.R_seg (okp := fun _ => False) (x' := ⟨cs[j].A, cs[j].c, cs[j].b, m⟩) (seg := [.int .i64 m]) (j := 1) h.row (j : Int) (by omega) (by omega) (c := cs[j].enc) rfl (fun i u hi => by
      have hc := h.cells hj
      rw [Int.toNat_natCast]
      match i, hi with
      | 0, hi => simp only [CE.enc, List.getElem?_cons_zero, Option.some.injEq] at hi; subst hi; exact hc.1
      | 1, hi => simp only [CE.enc, List.getElem?_cons_succ, List.getElem?_cons_zero, Option.some.injEq] at hi; subst hi; exact hc.2) (by simp [kE]) rfl (fun _ h => h.elim)
    rw [Int.toNat_natCast] at hp
    exact hp.1
  · rcases List.mem_or_eq_of_mem_set hx with hx | rfl
    · exact Kd.V_far (h.el x hx) (fun k hk e => hgz (by rw [← show k = g from e]; exact hk)) _
    · exact Kd.V_far (h.el cs[j] (List.getElem_mem hj)) (fun k hk e => hgz (by rw [← show k = g from e]; exact hk)) _
end

/-! ### Strings of bytes -/
theorem u8_lt {a b : Int} (ha : Byt a) (hb : Byt b) : (UInt8.ofNat a.toNat < UInt8.ofNat b.toNat) ↔ a < b := by
  obtain ⟨h1, h2⟩ := ha
  obtain ⟨h3, h4⟩ := hb
  rw [UInt8.lt_iff_toNat_lt, UInt8.toNat_ofNat', UInt8.toNat_ofNat']
  omega
theorem less_map : ∀ {x y : List Int}, Byts x → Byts y → Op.bytesLess (x.map fun n => UInt8.ofNat n.toNat) (y.map fun n => UInt8.ofNat n.toNat) = ltB x y
  | [], [], _, _ => rfl
  | [], _ :: _, _, _ => rfl
  | _ :: _, [], _, _ => rfl
  | a :: x, b :: y, hx, hy => by
    have h1 := u8_lt (hx a (List.mem_cons_self ..)) (hy b (List.mem_cons_self ..))
    have h2 := u8_lt (hy b (List.mem_cons_self ..)) (hx a (List.mem_cons_self ..))
    have ih := less_map (x := x) (y := y) (fun z hz => hx z (List.mem_cons_of_mem _ hz)) (fun z hz => hy z (List.mem_cons_of_mem _ hz))
    simp only [List.map_cons, Op.bytesLess, ltB]
    simp only [h1, ih]
    by_cases c1 : a < b
    · simp [c1]
    · by_cases c2 : b < a
      · have hne : (UInt8.ofNat a.toNat == UInt8.ofNat b.toNat) = false := by
          rw [beq_eq_false_iff_ne]
          intro e
          have h3 := h2.2 c2
          rw [e] at h3
          exact absurd h3 (by rw [UInt8.lt_iff_toNat_lt]; omega)
        rw [if_neg c1, if_pos c2, hne, decide_eq_false c1]
        rfl
      · obtain rfl : a = b := by omega
        simp
theorem less_eq {x y : List Int} (hx : Byts x) (hy : Byts y) : Op.bytesLess (strOfNums x).toList (strOfNums y).toList = ltB x y := by
  rw [ByteArray.toList_eq, ByteArray.toList_eq]
  exact less_map hx hy
theorem str_inj : ∀ {x y : List Int}, Byts x → Byts y → (x.map fun n => UInt8.ofNat n.toNat) = (y.map fun n => UInt8.ofNat n.toNat) → x = y
  | [], [], _, _, _ => rfl
  | [], _ :: _, _, _, h => by cases h
  | _ :: _, [], _, _, h => by cases h
  | a :: x, b :: y, hx, hy, h => by
    simp only [List.map_cons, List.cons.injEq] at h
    have h1 := u8_lt (hx a (List.mem_cons_self ..)) (hy b (List.mem_cons_self ..))
    have h2 := u8_lt (hy b (List.mem_cons_self ..)) (hx a (List.mem_cons_self ..))
    rw [h.1] at h1 h2
    have e : a = b := by
      have n1 : ¬ a < b := fun q => absurd (h1.2 q) (by rw [UInt8.lt_iff_toNat_lt]; omega)
      have n2 : ¬ b < a := fun q => absurd (h2.2 q) (by rw [UInt8.lt_iff_toNat_lt]; omega)
      omega
    rw [e, str_inj (fun z hz => hx z (List.mem_cons_of_mem _ hz)) (fun z hz => hy z (List.mem_cons_of_mem _ hz)) h.2]
theorem same_eq {x y : List Int} (hx : Byts x) (hy : Byts y) : ((strOfNums x).toList == (strOfNums y).toList) = decide (x = y) := by
  rw [ByteArray.toList_eq, ByteArray.toList_eq]
  by_cases h : x = y
  · subst h; simp
  · rw [decide_eq_false h, beq_eq_false_iff_ne]
    exact fun e => h (str_inj hx hy e)
def wordsOf (T : List (List Int)) : List (List Int) := T.flatMap cutM
theorem wordsOf_snoc {T : List (List Int)} {i : Nat} (h : i < T.length) : wordsOf (T.take (i + 1)) = wordsOf (T.take i) ++ cutM T[i] := by
  unfold wordsOf
  rw [List.take_succ_eq_append_getElem h, List.flatMap_append]
  simp
theorem wordsOf_take (T : List (List Int)) (i : Nat) : (wordsOf (T.take i)).length ≤ (wordsOf T).length := by
  conv => rhs; rw [← List.take_append_drop i T]
  unfold wordsOf
  rw [List.flatMap_append, List.length_append]
  omega
theorem cut_byts {t : List Int} (ht : Byts t) (hl : t.length ≤ 100000) : ∀ x ∈ cutM t, Byts x := fun x hx z hz => ht z (by
  rw [← (cutM_whole t ht hl).1]
  exact List.mem_flatten.2 ⟨x, hx, hz⟩)
theorem words_byts {T : List (List Int)} (hB : ∀ t ∈ T, Byts t) (hl : ∀ t ∈ T, t.length ≤ 16384) : ∀ x ∈ wordsOf T, Byts x := fun x hx => by
  obtain ⟨t, ht, hx⟩ := List.mem_flatMap.1 hx
  exact cut_byts (hB t ht) (by have := hl t ht; omega) x hx
theorem keys_R (ws : List (List Int)) : ∀ p ∈ countsR ws, p.1 ∈ ws := by
  have hi : ∀ (x : List Int) (l : List Cn), ∀ p ∈ insR x l, p.1 = x ∨ p.1 ∈ l.map (·.1) := by
    intro x l
    induction l with
    | nil => intro p hp; simp [insR] at hp; exact .inl (by rw [hp])
    | cons q l ih =>
      intro p hp
      unfold insR at hp
      rw [List.map_cons]
      split at hp
      · rcases List.mem_cons.1 hp with rfl | h
        · exact .inr (List.mem_cons_self ..)
        · exact (ih p h).imp id (fun h => List.mem_cons_of_mem _ h)
      · split at hp
        · rcases List.mem_cons.1 hp with rfl | h
          · exact .inr (List.mem_cons_self ..)
          · exact .inr (List.mem_cons_of_mem _ (List.mem_map.2 ⟨p, h, rfl⟩))
        · rcases List.mem_cons.1 hp with rfl | h
          · exact .inl rfl
          · rcases List.mem_cons.1 h with rfl | h
            · exact .inr (List.mem_cons_self ..)
            · exact .inr (List.mem_cons_of_mem _ (List.mem_map.2 ⟨p, h, rfl⟩))
  have : ∀ (ws : List (List Int)) (a : List Cn) (V : List (List Int)), (∀ p ∈ a, p.1 ∈ V) → ∀ p ∈ ws.foldl (fun a x => insR x a) a, p.1 ∈ V ++ ws := by
    intro ws
    induction ws with
    | nil => intro a V h p hp; simpa using h p hp
    | cons x ws ih =>
      intro a V h p hp
      have := ih (insR x a) (V ++ [x]) (fun q hq => by
        rcases hi x a q hq with e | e
        · rw [e]; simp
        · obtain ⟨q', hq', e⟩ := List.mem_map.1 e
          rw [← e]
          exact List.mem_append_left _ (h q' hq')) p hp
      simpa using this
  intro p hp
  simpa using this ws [] [] (fun p hp => by cases hp) p hp
/-- What came in is read so from whatever world. -/
theorem C_came {α : Type} {d : Kd α} {w : World} {A : Option Addr} {n : Nat} {xs : List α} (hd : Kd.Heap d) (h : d.C w A n xs) : Kd.F d w (fun k => k < w.heap.size) A n xs := fun W' hW => hd.C (fun k hk => hW k hk hk) h
theorem Ct.nil (w : World) (e : TypeId) : Ct w w e (fun k => k < w.heap.size) (.slice none 0 0) [] [] := ⟨rfl, Kd.R_nil _ _ _ _ _, fun _ h => (by cases h), fun _ h => h, fun _ h => h, Below.refl _ _⟩

theorem exec_buildSlice {P : Program} {ρ : Operand → Value} {o : Oper} {t : TypeId} {n : Nat} {parts : Array (Nat × Operand)} {args : Array (Nat × Value)} {v : Value} {w w1 : World} (ho : o.op = .buildSlice t n parts) (he : parts.map (fun x => (x.1, ρ x.2)) = args) (hrun : (Instr.buildSlice t n args).run P w = .ok v w1) : (execOp ρ o).run P w = .ok (.value v) w1 := by
  subst he
  unfold execOp
  simp [ho, hrun]
theorem buildC (A : Option Addr) (n c : Nat) (w : World) : (Instr.buildSlice 40 1 #[(0, .agg #[.slice A n c, .int .i64 1])]).run Try.prog w = .ok (.slice (some ⟨w.heap.size, 0, none⟩) 1 1) (w.alloc (.cells #[.slice A n c, .int .i64 1] 61)) := by kernel_rfl
theorem C_one {w : World} {g : Nat} {x : CE} {t : TypeId} {m : Nat × Nat} (h : w.heap[g]? = some (.cells #[.slice x.A x.b.length x.c, .int .i64 x.n] t m)) : kE.C w (some ⟨g, 0, none⟩) 1 [x] := by
  refine ⟨rfl, by decide, fun _ => ⟨_, rfl, fun j p hj => ?_⟩⟩
  cases j with
  | succ j => simp at hj
  | zero =>
    simp only [List.getElem?_cons_zero, Option.some.injEq] at hj
    subst hj
    refine ⟨x.enc, rfl, rfl, fun i u hu => ?_⟩
    have e : (⟨g, 0, none⟩ : Addr).add (0 * kE.sz + i) = ⟨g, i, none⟩ := by unfold Addr.add; split <;> simp_all
    rw [e, World.cell?, h]
    match i, hu with
    | 0, hu => simpa [CE.enc] using hu
    | 1, hu => simpa [CE.enc] using hu
theorem Ct.set' {w w1 : World} {e : TypeId} {Z : Nat → Prop} {cs : List CE} {l : List Cn} {g n c : Nat} (h : Ct w w1 e Z (.slice (some ⟨g, 0, none⟩) n c) cs l) {j : Nat} (hj : j < cs.length) {y : CE} (hy : cs[j] = y) (m : Int) : ∃ cs', cs'.length = cs.length ∧ Ct w (w1.setCell ⟨g, j * 2 + 1, none⟩ (.int .i64 m)) e Z (.slice (some ⟨g, 0, none⟩) n c) cs' (l.set j (y.b, m)) := by
  subst hy
  exact ⟨_, by rw [List.length_set], h.set hj m⟩
theorem C_none (w : World) (A : Option Addr) : kE.C w A 0 [] := ⟨rfl, by decide, fun h => absurd h (by decide)⟩
/-- The row written anew. -/
theorem Ct.anew {w w1 w2 : World} {e : TypeId} {Z : Nat → Prop} {v v2 : Value} {cs cs2 : List CE} {l l2 : List Cn} (h : Ct w w1 e Z v cs l) (hr : Kd.R kE e w2 w1.heap.size (fun k => w1.heap.size ≤ k) v2 cs2) (hb : Below w1.heap.size w1 w2) (he : ∀ x ∈ cs2, x ∈ cs ∨ x.Ok w1 Z) (hp : cs2.map CE.pr = l2) : Ct w w2 e Z v2 cs2 l2 := by
  have h2 := h.below hb
  refine ⟨hp, Kd.R_mono (Kd.R_lower hr h.b.size) (fun k hk => ⟨Nat.le_trans h.b.size hk, fun hz => by have := h.zl k hz; omega⟩), fun x hx => ?_, h2.zl, h2.zb, h2.b⟩
  rcases he x hx with h' | h'
  · exact h2.el x h'
  · exact Kd.V_below h' hb

theorem gen_world {P : Program} {c : Code} {Q : Exit → Act → World → Prop} {a : Act} (w0 : World) {w : World} (hb : Below w0.heap.size w0 w) (h : ∀ wz, Below w0.heap.size w0 wz → Code.wp P c Q a wz) : Code.wp P c Q a w := h w hb

set_option maxHeartbeats 16000000 in
theorem rCounts_calls {w : World} (A : Option Addr) (c : Nat) (T : List (List Int)) (hT : Kd.C (Kd.slice 5 (Kd.int .u8)) w A T.length T) (hc : T.length ≤ c) (hB : ∀ t ∈ T, Byts t) (hl : ∀ t ∈ T, t.length ≤ 16384) (hN : (wordsOf T).length ≤ 1000000) (hTl : T.length ≤ 1000000) :
    Calls Try.prog 25 #[.slice A T.length c] w fun e w' => ∃ v cs Z, e = .returned v ∧ Ct w w' 61 Z v cs (countsR (wordsOf T)) := by
  have HT := Aside0.mk hT
  have HB := Aside0.mk hB
  have HL := Aside0.mk hl
  have HN := Aside0.mk hN
  have HWB := Aside0.mk (words_byts hB hl)
  clear hT hB hl hN
  obtain ⟨K, hK⟩ : ∃ K, K = 20000 := ⟨_, rfl⟩
  go_enter Try.func25, Try.ntmps25
  go_wp2_with (fail)
  go_loopw [3, 4] (fun v3 v4 w' => ∃ (i : Nat) (cs : List CE) (Z : Nat → Prop), v4 = .int .i64 i ∧ i ≤ T.length ∧ Aside0 (Ct w w' 61 Z v3 cs (countsR (wordsOf (T.take i))))) (fun _ v4 _ => T.length - (intOf v4).toNat)
  case atStart => exact ⟨0, [], _, rfl, Nat.zero_le _, ⟨Ct.nil w 61⟩⟩
  case round =>
    obtain ⟨i, cs, Z, rfl, hi, HR⟩ := hrel
    by_cases hlt : i < T.length
    · obtain ⟨adT, A0, c0, rfl, hcw, hl0, hC0⟩ := at_L1 HT.out (i : Int) (by omega) (by omega)
      rw [Int.toNat_natCast] at hcw
      obtain ⟨t, ht⟩ : ∃ t, rd_L1 T (i : Int) = t := ⟨_, rfl⟩
      have hti : T[i] = t := by rw [← ht]; unfold rd_L1; rw [Int.toNat_natCast, List.getD_eq_getElem?_getD, List.getElem?_eq_getElem hlt]; rfl
      rw [ht] at hcw hl0 hC0
      have htb : Byts t := by rw [← hti]; exact HB.out _ (List.getElem_mem hlt)
      have htl : t.length ≤ 16384 := by rw [← hti]; exact HL.out _ (List.getElem_mem hlt)
      have hcell := Kd.cell_heap (fun k hk => HR.out.b.block k hk) hcw
      have HV0 := Aside0.mk (Kd.V_below (Kd.V_mk (e := 5) (base := 0) hl0 (C_came (Kd.heap_int .u8) hC0)) HR.out.b)
      obtain ⟨L, hL⟩ : ∃ L, cutM t = L := ⟨_, rfl⟩
      have HCT := Aside0.mk (imprimaturref18_Cut.calls K (fun k => k < w.heap.size) A0 c0 t L wr HV0.out (by rw [← hL]; exact RCut_eq t htb htl K (by omega)))
      have HSN := Aside0.mk (show wordsOf (T.take (i + 1)) = wordsOf (T.take i) ++ L by rw [wordsOf_snoc hlt, hti, hL])
      have HLN := Aside0.mk (show (wordsOf (T.take i) ++ L).length ≤ 1000000 by rw [← HSN.out]; exact Nat.le_trans (wordsOf_take T (i + 1)) HN.out)
      have HLB := Aside0.mk (show ∀ x ∈ wordsOf (T.take i) ++ L, Byts x by rw [← HSN.out]; exact words_byts (fun t ht => HB.out t (List.mem_of_mem_take ht)) (fun t ht => HL.out t (List.mem_of_mem_take ht)))
      obtain ⟨W0, hW0⟩ : ∃ W0, wordsOf (T.take i) = W0 := ⟨_, rfl⟩
      rw [hW0] at HR HSN HLN HLB
      clear hcw hC0 hl0 ht hti htb htl hL hW0
      go_wp2_with (first | (go_at_call 15; (with_reducible refine HCT.out.mono ?_); rintro e w1 ⟨v5, rfl, hn5, hb5⟩; obtain ⟨A5, c5, rfl⟩ := Kd.N_slice hn5; have HR5 := Aside0.mk (HR.out.cut hb5); have HV5 := Aside0.mk (show Kd.V (Kd.slice 5 (Kd.int .u8)) 22 w1 0 (fun k => Z k ∨ (wr.heap.size ≤ k ∧ k < w1.heap.size)) (.slice A5 L.length c5) L from Kd.V_mk (Kd.N_reads' hn5).2.1 (Kd.F_mono (Kd.F_bound (Kd.N_F hn5)) (fun k hk => hk.1.elim (fun h => .inl (HR.out.zb k h)) (fun h => .inr ⟨h, hk.2⟩)))); clear hn5 hb5))
      obtain ⟨Z5, hZ5⟩ : ∃ Z5, (fun k => Z k ∨ (wr.heap.size ≤ k ∧ k < w1.heap.size)) = Z5 := ⟨_, rfl⟩
      rw [hZ5] at HR5 HV5
      clear hZ5
      go_loopw [3, 6] (fun v3 v6 w' => ∃ (k : Nat) (cs : List CE), v6 = .int .i64 k ∧ k ≤ L.length ∧ Aside0 (Ct w w' 61 Z5 v3 cs (countsR (W0 ++ L.take k))) ∧ Aside0 (Kd.V (Kd.slice 5 (Kd.int .u8)) 22 w' 0 Z5 (.slice A5 L.length c5) L)) (fun _ v6 _ => L.length - (intOf v6).toNat)
      case atStart => exact ⟨0, cs, rfl, Nat.zero_le _, by rw [List.take_zero, List.append_nil]; exact HR5, HV5⟩
      case round =>
        clear HR5 HV5 HR HV0 HCT hcell
        obtain ⟨k, cs, rfl, hk, HR, HV⟩ := hrel
        have hLL : L.length ≤ 1000000 := by have := HLN.out; rw [List.length_append] at this; omega
        by_cases hkl : k < L.length
        · obtain ⟨adL, A6, c6, rfl, hcl, hl6, hC6⟩ := at_L1 (Kd.V_reads' HV.out).2.2 (k : Int) (by omega) (by omega)
          obtain ⟨ce, _, hMe, hcc⟩ := Kd.V_get HV.out ([] : List Int) (k : Int) (by omega) (by omega)
          obtain ⟨A6', c6', rfl, hl6', hF6⟩ := Kd.FK_slice_open hMe
          have hcc0 := hcc 0 _ rfl
          rw [Int.toNat_natCast] at hcl hcc0 hF6 hl6'
          obtain ⟨x, hx⟩ : ∃ x, rd_L1 L (k : Int) = x := ⟨_, rfl⟩
          have hxg : L.getD k [] = x := by rw [← hx]; unfold rd_L1; rw [Int.toNat_natCast]
          have hxk : L[k] = x := by rw [← hx]; unfold rd_L1; rw [Int.toNat_natCast, List.getD_eq_getElem?_getD, List.getElem?_eq_getElem hkl]; rfl
          rw [hx] at hcl hl6 hC6
          rw [hxg] at hF6 hl6' hcc0
          have hcc1 : wr.cell? (adL.add k) = some (.slice A6' x.length c6') := by rw [show k * (Kd.slice 5 (Kd.int .u8)).sz + 0 = k from by show k * 1 + 0 = k; omega] at hcc0; exact hcc0
          rw [hcc1] at hcl
          injection hcl with hcl
          injection hcl with hcA _ hcC
          subst hcA
          subst hcC
          have HX := Aside0.mk (show CE.Ok wr Z5 ⟨A6', c6', x, 1⟩ from Kd.V_mk hl6' hF6)
          have HXB := Aside0.mk (show Byts x from HLB.out x (List.mem_append_right _ (by rw [← hxk]; exact List.getElem_mem hkl)))
          have HTK := Aside0.mk (show countsR (W0 ++ L.take (k + 1)) = insR x (countsR (W0 ++ L.take k)) by rw [List.take_succ_eq_append_getElem hkl, ← List.append_assoc, countsR_snoc, hxk])
          obtain ⟨l, hl⟩ : ∃ l, countsR (W0 ++ L.take k) = l := ⟨_, rfl⟩
          have HLE := Aside0.mk (show l.length ≤ 1000000 ∧ (∀ p ∈ l, 1 ≤ p.2 ∧ p.2 ≤ 1000000) ∧ (∀ p ∈ l, Byts p.1) by
            have h1 := countsR_length (W0 ++ L.take k)
            have h2 : (W0 ++ L.take k).length ≤ 1000000 := by have := HLN.out; simp only [List.length_append, List.length_take] at this ⊢; omega
            rw [hl] at h1
            refine ⟨by omega, fun p hp => ?_, fun p hp => ?_⟩
            · have := countsR_bound (W0 ++ L.take k) p (by rw [hl]; exact hp); omega
            · have := keys_R (W0 ++ L.take k) p (by rw [hl]; exact hp)
              refine HLB.out _ ?_
              rcases List.mem_append.1 this with h | h
              · exact List.mem_append_left _ h
              · exact List.mem_append_right _ (List.mem_of_mem_take h))
          rw [hl] at HR HTK
          clear hcc hMe hC6 hl6 hl6' hF6 hcc0 hx hxg hxk hl
          have HCL := Aside0.mk hcc1
          clear hcc1
          have hcsl : cs.length ≤ 1000000 := by rw [HR.out.len]; exact HLE.out.1
          obtain ⟨wq, hwq⟩ : ∃ wq, wq = wr := ⟨_, rfl⟩
          subst hwq
          go_wp2_with (fail)
          go_loopw [7] (fun v7 w' => ∃ (a m : Nat), v7 = .int .i64 a ∧ a ≤ cs.length ∧ Aside0 (∀ j, j < a → ltB (l.getD j ([], 0)).1 x = true) ∧ w' = wq.drewN m) (fun v7 _ => cs.length - (intOf v7).toNat)
          case atStart => exact ⟨0, 0, rfl, Nat.zero_le _, ⟨fun j hj => absurd hj (Nat.not_lt_zero _)⟩, rfl⟩
          case round =>
            obtain ⟨a, m, rfl, ha, HJ, rfl⟩ := hrel
            have HRm := Aside0.mk (HR.out.below (pw_below_drewN (Below.refl _ _) m))
            have hcll := HCL.out
            by_cases hal : a < cs.length
            · obtain ⟨g, cg, rfl, hg1, hg2, hg3, hg4, hg5⟩ := HR.out.form (by omega)
              obtain ⟨hca, hcb⟩ := HR.out.cells hal
              have hkey := HR.out.key hal
              have HY := Aside0.mk (Kd.V_reads' (HR.out.el cs[a] (List.getElem_mem hal))).2.2
              have HX2 := Aside0.mk (Kd.V_reads' HX.out).2.2
              obtain ⟨y, hy⟩ : ∃ y, cs[a] = y := ⟨_, rfl⟩
              rw [hy] at hca hcb hkey HY
              have hyb : Byts y.b := HLE.out.2.2 (y.b, y.n) (by rw [← hkey, List.getD_eq_getElem?_getD, List.getElem?_eq_getElem (by rw [← HR.out.len]; exact hal)]; exact List.getElem_mem _)
              have hcv1 := Kd.C_string (P := Try.prog) (A := y.A) (c := y.c) Try.underlying22 Try.underlying5 Try.underlying9 HY.out
              have hcv1d := fun m_ => Kd.C_string (P := Try.prog) (A := y.A) (c := y.c) Try.underlying22 Try.underlying5 Try.underlying9 (Kd.C_drewN HY.out m_)
              have hcv1e := fun m_ n_ => Kd.C_string (P := Try.prog) (A := y.A) (c := y.c) Try.underlying22 Try.underlying5 Try.underlying9 (Kd.C_drewN (Kd.C_drewN HY.out m_) n_)
              have hcv2 := Kd.C_string (P := Try.prog) (A := A6') (c := c6') Try.underlying22 Try.underlying5 Try.underlying9 HX2.out
              have hcv2d := fun m_ => Kd.C_string (P := Try.prog) (A := A6') (c := c6') Try.underlying22 Try.underlying5 Try.underlying9 (Kd.C_drewN HX2.out m_)
              have hcv2e := fun m_ n_ => Kd.C_string (P := Try.prog) (A := A6') (c := c6') Try.underlying22 Try.underlying5 Try.underlying9 (Kd.C_drewN (Kd.C_drewN HX2.out m_) n_)
              have hls := less_eq hyb HXB.out
              have HYB := Aside0.mk hyb
              have HKY := Lib.hid hkey
              have HYY := Lib.hid hy
              clear hkey hyb hy
              cases hlx : ltB y.b x with
              | true =>
                rw [hlx] at hls
                have HJ2 := Aside0.mk (show ∀ j, j < a + 1 → ltB (l.getD j ([], 0)).1 x = true from fun j hj => by
                  rcases Nat.lt_or_ge j a with h | h
                  · exact HJ.out j h
                  · obtain rfl : j = a := by omega
                    rw [HKY.out]; exact hlx)
                clear hlx
                go_wp2
                repeat (go_quiet (fail); try go_wp2)
                go_roundw
                case rel => exact ⟨a + 1, _, by go_num, by omega, HJ2, rfl⟩
                case measure => simp [intOf]; omega
              | false =>
                rw [hlx] at hls
                have HIA := Aside0.mk (insR_at x l a (by rw [← HR.out.len]; omega) HJ.out (fun _ => by rw [HKY.out]; exact hlx))
                rw [HKY.out] at HIA
                have HYN := Aside0.mk (HLE.out.2.1 (y.b, y.n) (by rw [← HKY.out, List.getD_eq_getElem?_getD, List.getElem?_eq_getElem (by rw [← HR.out.len]; exact hal)]; exact List.getElem_mem _))
                have hsm := same_eq HYB.out HXB.out
                clear hlx
                by_cases heq : y.b = x
                · rw [decide_eq_true heq] at hsm
                  have HI2 := Aside0.mk (show insR x l = l.set a (y.b, y.n + 1) by rw [HIA.out, if_pos ⟨by rw [← HR.out.len]; exact hal, heq⟩])
                  have hfz : wq.frozen? ⟨g, a * 2 + 1, none⟩ = false := by obtain ⟨cells, hb⟩ := hg5; exact blk_frozen hb _
                  clear heq hg5
                  go_wp2
                  repeat (go_quiet (fail); try go_wp2)
                  have hwr : wrap64 (y.n + 1) = y.n + 1 := by have := HYN.out; simp only [wrap64]; omega
                  rw [hwr]
                  have HS := Aside0.mk (show ∀ M, Ct w ((wq.drewN M).setCell ⟨g, a * 2 + 1, none⟩ (.int .i64 (y.n + 1))) 61 Z5 (.slice (some ⟨g, 0, none⟩) cs.length cg) (cs.set a ⟨y.A, y.c, y.b, y.n + 1⟩) (l.set a (y.b, y.n + 1)) from fun M => by
                    have h := (HR.out.below (pw_below_drewN (Below.refl _ _) M)).set hal (y.n + 1)
                    rw [HYY.out] at h
                    exact h)
                  go_roundw
                  case rel => exact ⟨k + 1, _, by go_num, by omega, ⟨by rw [HTK.out, HI2.out]; exact HS.out _⟩, ⟨Kd.V_far (Kd.V_below HV.out (pw_below_drewN (Below.refl _ _) _)) (fun j hj e => hg3 (by rw [← show j = g from e]; exact hj)) _⟩⟩
                  case measure => simp [intOf]; omega
                · rw [decide_eq_false heq] at hsm
                  have HI2 := Aside0.mk (show insR x l = l.take a ++ [(x, 1)] ++ l.drop a by rw [HIA.out, if_neg (fun h => heq h.2)])
                  clear heq hg5
                  go_wp2
                  repeat (go_quiet (fail); try go_wp2)
                  refine gen_world wq (by repeat (first | exact Below.refl _ _ | apply pw_below_drewN)) (fun wz hwz => ?_)
                  have HRz := Aside0.mk (show Ct w wz 61 Z5 (.slice (some ⟨g, 0, none⟩) cs.length cg) cs l from HR.out.below hwz)
                  have HVz := Aside0.mk (show Kd.V (Kd.slice 5 (Kd.int .u8)) 22 wz 0 Z5 (.slice (some adL) L.length c5) L from Kd.V_below HV.out hwz)
                  have HXz := Aside0.mk (show CE.Ok wz Z5 ⟨A6', c6', x, 1⟩ from Kd.V_below HX.out hwz)
                  have HCZ := Aside0.mk (show wz.cell? (adL.add k) = some (.slice A6' x.length c6') from Kd.cell_heap (fun j hj => hwz.block j hj) HCL.out)
                  have hc3 := (Kd.R_reads' HRz.out.row).2.1
                  have HCT := Aside0.mk (show kE.C wz (some ⟨g, 0, none⟩) a (cs.take a) by
                    have h := Kd.C_take (Kd.R_reads' HRz.out.row).2.2 ha
                    rw [show (cs.take a).length = a by rw [List.length_take]; omega] at h
                    exact h)
                  have HCD := Aside0.mk (Kd.C_drop (Kd.R_reads' HRz.out.row).2.2 ha hc3)
                  have HLE5 := Aside0.mk (show (cs.take a ++ [(⟨A6', c6', x, 1⟩ : CE)]).length = a + 1 by rw [List.length_append, List.length_take]; simp only [List.length_cons, List.length_nil]; omega)
                  have HCD := Aside0.mk (show kE.C wz (some ⟨g, a * 2, none⟩) (cs.length - a) (cs.drop a) by
                    have h := HCD.out
                    rw [List.length_drop, if_neg (by omega)] at h
                    have e : (⟨g, 0, none⟩ : Addr).add (a * kE.sz) = ⟨g, a * 2, none⟩ := by show (⟨g, 0, none⟩ : Addr).add (a * 2) = _; unfold Addr.add; split <;> simp_all
                    rw [Option.map_some, e] at h
                    exact h)
                  have p1 := eq_true (show (0 : Int) ≤ (a : Int) by omega)
                  have p2 := eq_true (show (a : Int) ≤ (cs.length : Int) by omega)
                  have p3 := eq_true (show (a : Int) ≤ (cg : Int) by omega)
                  clear hwz
                  refine start_ (n := 13) (S := fun w' => w'.cell? (adL.add k) = some (.slice A6' x.length c6')) (ds := []) #[false, false, false, false, false, false, false, false, false, false, false, false, false] (by kernel_rfl) rfl rfl (HCZ.out) (fun hHeld => ?_)
                  refine pure_ (i := 0) (N := some 72) (v := ?_) (a' := ?_) #[true, false, false, false, false, false, false, false, false, false, false, false, false] rfl rfl (by kernel_rfl) (fun _ _ _ h => h) (Or.inl ⟨by rfl, ?_⟩) ?_ ?_
                  rotate_left
                  · intro w'
                    go_simp
                    with_reducible rfl
                  rotate_left
                  · simp only [Act.put, List.setIfInBounds_toArray, List.set_cons_zero, List.set_cons_succ, i64_w, i32_w]
                    rfl
                  refine pure_ (i := 1) (N := some 73) (v := ?_) (a' := ?_) #[true, true, false, false, false, false, false, false, false, false, false, false, false] rfl rfl (by kernel_rfl) (fun _ _ _ h => h) (Or.inl ⟨by rfl, ?_⟩) ?_ ?_
                  rotate_left
                  · intro w'
                    go_simp
                    with_reducible rfl
                  rotate_left
                  · simp only [Act.put, List.setIfInBounds_toArray, List.set_cons_zero, List.set_cons_succ, i64_w, i32_w]
                    rfl
                  refine pure_ (i := 2) (N := some 74) (v := ?_) (a' := ?_) #[true, true, true, false, false, false, false, false, false, false, false, false, false] rfl rfl (by kernel_rfl) (fun _ _ _ h => h) (Or.inl ⟨by rfl, ?_⟩) ?_ ?_
                  rotate_left
                  · intro w'
                    go_simp
                    with_reducible rfl
                  rotate_left
                  · simp only [Act.put, List.setIfInBounds_toArray, List.set_cons_zero, List.set_cons_succ, i64_w, i32_w]
                    rfl
                  refine pure_ (i := 3) (N := some 75) (v := ?_) (a' := ?_) #[true, true, true, true, false, false, false, false, false, false, false, false, false] rfl rfl (by kernel_rfl) (fun _ _ _ h => h) (Or.inl ⟨by rfl, ?_⟩) ?_ ?_
                  rotate_left
                  · intro w'
                    go_simp
                    with_reducible rfl
                  rotate_left
                  · simp only [Act.put, List.setIfInBounds_toArray, List.set_cons_zero, List.set_cons_succ, i64_w, i32_w]
                    rfl
                  refine pure_ (i := 5) (N := some 77) (v := ?_) (a' := ?_) #[true, true, true, true, false, true, false, false, false, false, false, false, false] rfl rfl (by kernel_rfl) (fun _ _ _ h => h) (Or.inl ⟨by rfl, ?_⟩) ?_ ?_
                  rotate_left
                  · intro w'
                    go_simp
                    with_reducible rfl
                  rotate_left
                  · simp only [Act.put, List.setIfInBounds_toArray, List.set_cons_zero, List.set_cons_succ, i64_w, i32_w]
                    rfl
                  refine pure_ (i := 6) (N := some 78) (v := ?_) (a' := ?_) #[true, true, true, true, false, true, true, false, false, false, false, false, false] rfl rfl (by kernel_rfl) (fun _ _ _ h => h) (Or.inl ⟨by rfl, ?_⟩) ?_ ?_
                  rotate_left
                  · intro w'
                    go_simp
                    with_reducible rfl
                  rotate_left
                  · simp only [Act.put, List.setIfInBounds_toArray, List.set_cons_zero, List.set_cons_succ, i64_w, i32_w]
                    rfl
                  refine pure_ (i := 7) (N := some 79) (v := ?_) (a' := ?_) #[true, true, true, true, false, true, true, true, false, false, false, false, false] rfl rfl (by kernel_rfl) (fun _ _ _ h => h) (Or.inl ⟨by rfl, ?_⟩) ?_ ?_
                  rotate_left
                  · intro w'
                    go_simp
                    with_reducible rfl
                  rotate_left
                  · simp only [Act.put, List.setIfInBounds_toArray, List.set_cons_zero, List.set_cons_succ, i64_w, i32_w]
                    rfl
                  refine take_ (i := 8) (N := some 80) (v := ?_) (a' := ?_) #[true, true, true, true, false, true, true, true, true, false, false, false, false] rfl rfl (by kernel_rfl) (fun _ _ _ h => h) (Or.inl ⟨by rfl, ?_⟩) hHeld ?_ ?_
                  rotate_left
                  · intro w' s0
                    go_simp
                    with_reducible rfl
                  rotate_left
                  · simp only [Act.put, List.setIfInBounds_toArray, List.set_cons_zero, List.set_cons_succ, i64_w, i32_w]
                    rfl
                  refine pure_ (i := 9) (N := some 81) (v := ?_) (a' := ?_) #[true, true, true, true, false, true, true, true, true, true, false, false, false] rfl rfl (by kernel_rfl) (fun _ _ _ h => h) (Or.inl ⟨by rfl, ?_⟩) ?_ ?_
                  rotate_left
                  · intro w'
                    go_simp
                    with_reducible rfl
                  rotate_left
                  · simp only [Act.put, List.setIfInBounds_toArray, List.set_cons_zero, List.set_cons_succ, i64_w, i32_w]
                    rfl
                  refine join_ (σ := Value × Nat) 2 #[true, true, true, true, true, true, true, true, true, true, true, false, false] (fun s => [(76, s.1), (82, .slice (some ⟨s.2, 0, none⟩) 1 1)]) (fun s w' => Kd.R kE 61 w' wz.heap.size (fun k => wz.heap.size ≤ k) s.1 (cs.take a) ∧ w'.heap[s.2]? = some (.cells #[.slice A6' x.length c6', .int .i64 1] 61 (0, 0)) ∧ wz.heap.size ≤ s.2 ∧ some s.2 ≠ s.1.ownBlock ∧ Below wz.heap.size wz w' ∧ w'.cell? (adL.add k) = some (.slice A6' x.length c6')) ?_ ?_
                  rotate_left
                  · intro hCont
                    refine two_ (i := 4) (j := 10) (Ni := some 76) (Nj := some 82) #[true, true, true, true, true, true, true, true, true, true, false, false, false] #[true, true, true, true, false, true, true, true, true, true, true, false, false] rfl rfl rfl rfl (by kernel_rfl) (by decide) (by decide) (fun K hK => ?_) (fun K hK => ?_)
                    · skip
                      refine Kd.R_append_rows_step kE (Rr := fun x cs => cs = CE.enc x) (w0 := wz) wz.heap.size (by rfl) (.tmp 72) (.tmp 75) 40 61 (.agg #[.slice none 0 0, .int .i64 0]) 32 rfl Try.underlying40 info61 rfl (by decide) (by decide) (.slice none 0 0) [] (cs.take a) (some ⟨g, 0, none⟩) a cg (fun k => wz.heap.size ≤ k) (fun _ => False) rfl rfl (Kd.R_nil _ _ _ _ _) (Kd.C_below HCT.out (below_drew (Below.refl wz.heap.size wz))) (fun _ _ h => h) (fun _ h => h.elim) (fun _ h => Nat.le_trans (Nat.le_refl _) h) ((below_drew (Below.refl wz.heap.size wz))) (Nat.le_refl _) (by simp only [List.length_nil]; omega) ?_
                      intro v1 w1 hr1 hb1 hg1 hat1
                      rw [List.nil_append] at hr1
                      refine hK.out _ _ (Kd.cell_heap (fun j hj => hb1.block j hj) HCZ.out) (fun hHeld => ?_)
                      clear hK K
                      refine norm_ (a' := ?_) ?_ ?_
                      rotate_left
                      · show Act.put _ (some 76) _ = _
                        simp only [Act.put, List.setIfInBounds_toArray, List.set_cons_zero, List.set_cons_succ, i64_w, i32_w]
                        rfl
                      refine one_ (i := 10) (N := some 82) #[true, true, true, true, true, true, true, true, true, true, true, false, false] rfl rfl (by kernel_rfl) (by decide) (fun K hK => ?_)
                      refine value_ (w1 := (w1).alloc (.cells #[.slice A6' x.length c6', .int .i64 1] 61)) (v := .slice (some ⟨(w1).heap.size, 0, none⟩) 1 1) (by rfl) rfl ?hbs ?_
                      case hbs =>
                        refine exec_buildSlice (t := 40) (n := 1) (parts := #[(0, .tmp 81)]) (args := #[(0, .agg #[.slice A6' x.length c6', .int .i64 1])]) ?ho ?he ?hr
                        case ho => rfl
                        case he => kernel_rfl
                        case hr => exact buildC A6' x.length c6' (w1)
                      refine hK.out _ _ (Kd.cell_heap (fun j hj => (below_alloc hb1 _).block j hj) HCZ.out) (fun hHeld => ?_)
                      clear hK K
                      refine norm_ (a' := ?_) ?_ ?_
                      rotate_left
                      · show Act.put _ (some 82) _ = _
                        simp only [Act.put, List.setIfInBounds_toArray, List.set_cons_zero, List.set_cons_succ, i64_w, i32_w]
                        rfl
                      exact norm_ (by simp only [putAll, Act.put, List.setIfInBounds_toArray, List.set_cons_zero, List.set_cons_succ]) (hCont (v1, w1.heap.size) _ ⟨Kd.R_alloc hr1 _, heap_alloc_new w1 _, hb1.size, fun he => Nat.lt_irrefl _ (Kd.R_lt hr1 _ he.symm), below_alloc hb1 _, Kd.cell_heap (fun j hj => (below_alloc hb1 _).block j hj) HCZ.out⟩)
                    · skip
                      refine value_ (w1 := (wz.drew).alloc (.cells #[.slice A6' x.length c6', .int .i64 1] 61)) (v := .slice (some ⟨(wz.drew).heap.size, 0, none⟩) 1 1) (by rfl) rfl ?hbs ?_
                      case hbs =>
                        refine exec_buildSlice (t := 40) (n := 1) (parts := #[(0, .tmp 81)]) (args := #[(0, .agg #[.slice A6' x.length c6', .int .i64 1])]) ?ho ?he ?hr
                        case ho => rfl
                        case he => kernel_rfl
                        case hr => exact buildC A6' x.length c6' (wz.drew)
                      refine hK.out _ _ (Kd.cell_heap (fun j hj => (below_alloc (below_drew (Below.refl wz.heap.size wz)) _).block j hj) HCZ.out) (fun hHeld => ?_)
                      clear hK K
                      refine norm_ (a' := ?_) ?_ ?_
                      rotate_left
                      · show Act.put _ (some 82) _ = _
                        simp only [Act.put, List.setIfInBounds_toArray, List.set_cons_zero, List.set_cons_succ, i64_w, i32_w]
                        rfl
                      refine one_ (i := 4) (N := some 76) #[true, true, true, true, true, true, true, true, true, true, true, false, false] rfl rfl (by kernel_rfl) (by decide) (fun K hK => ?_)
                      refine Kd.R_append_rows_step kE (Rr := fun x cs => cs = CE.enc x) (w0 := wz) wz.heap.size (by rfl) (.tmp 72) (.tmp 75) 40 61 (.agg #[.slice none 0 0, .int .i64 0]) 32 rfl Try.underlying40 info61 rfl (by decide) (by decide) (.slice none 0 0) [] (cs.take a) (some ⟨g, 0, none⟩) a cg (fun k => wz.heap.size ≤ k) (fun _ => False) rfl rfl (Kd.R_nil _ _ _ _ _) (Kd.C_below HCT.out (below_alloc (below_drew (Below.refl wz.heap.size wz)) (.cells #[.slice A6' x.length c6', .int .i64 1] 61))) (fun _ _ h => h) (fun _ h => h.elim) (fun _ h => Nat.le_trans (below_alloc (below_drew (Below.refl wz.heap.size wz)) (.cells #[.slice A6' x.length c6', .int .i64 1] 61)).size h) ((below_alloc (below_drew (Below.refl wz.heap.size wz)) (.cells #[.slice A6' x.length c6', .int .i64 1] 61))) (below_alloc (below_drew (Below.refl wz.heap.size wz)) (.cells #[.slice A6' x.length c6', .int .i64 1] 61)).size (by simp only [List.length_nil]; omega) ?_
                      intro v1 w1 hr1 hb1 hg1 hat1
                      rw [List.nil_append] at hr1
                      refine hK.out _ _ (Kd.cell_heap (fun j hj => hb1.block j hj) HCZ.out) (fun hHeld => ?_)
                      clear hK K
                      refine norm_ (a' := ?_) ?_ ?_
                      rotate_left
                      · show Act.put _ (some 76) _ = _
                        simp only [Act.put, List.setIfInBounds_toArray, List.set_cons_zero, List.set_cons_succ, i64_w, i32_w]
                        rfl
                      exact norm_ (by simp only [putAll, Act.put, List.setIfInBounds_toArray, List.set_cons_zero, List.set_cons_succ]) (hCont (v1, wz.drew.heap.size) _ ⟨hr1, (hg1.block wz.drew.heap.size (show wz.drew.heap.size < (wz.drew.alloc (.cells #[.slice A6' x.length c6', .int .i64 1] 61)).heap.size by rw [World.size_alloc]; exact Nat.lt_succ_self _) (fun h => by cases h)).trans (heap_alloc_new wz.drew _), Nat.le_refl _, fun he => (hat1.elim (fun h => by rw [h] at he; cases he) (fun ⟨b, h1, h2⟩ => by rw [h1] at he; injection he with he; rw [← he] at h2; exact absurd (show wz.drew.heap.size < (wz.drew.alloc (.cells #[.slice A6' x.length c6', .int .i64 1] 61)).heap.size by rw [World.size_alloc]; exact Nat.lt_succ_self _) (Nat.not_lt.2 h2))), hb1, Kd.cell_heap (fun j hj => hb1.block j hj) HCZ.out⟩)
                  rintro ⟨v76, gb⟩ w4 ⟨hr4, hb4, hgb4, hne4, hbl4, hHeld⟩
                  simp only at hr4 hb4 hgb4 hne4
                  obtain ⟨A76, c76, rfl⟩ := Kd.R_slice hr4
                  have HR4 := Aside0.mk hr4
                  have HB4 := Aside0.mk hbl4
                  have HK4 := Aside0.mk (C_one (x := ⟨A6', c6', x, 1⟩) hb4)
                  clear hr4 hb4 hgb4 hne4 hbl4
                  refine norm_ (a' := ?_) ?_ ?_
                  rotate_left
                  · simp only [putAll, Act.put, List.setIfInBounds_toArray, List.set_cons_zero, List.set_cons_succ]
                    rfl
                  refine one_ (i := 11) (N := some 83) #[true, true, true, true, true, true, true, true, true, true, true, true, false] rfl rfl (by kernel_rfl) (by decide) (fun K hK => ?_)
                  refine Kd.R_append_rows_step kE (Rr := fun x cs => cs = CE.enc x) (w0 := wz) wz.heap.size (by rfl) (.tmp 76) (.tmp 82) 40 61 (.agg #[.slice none 0 0, .int .i64 0]) 32 rfl Try.underlying40 info61 rfl (by decide) (by decide) (.slice A76 (cs.take a).length c76) (cs.take a) [⟨A6', c6', x, 1⟩] (some ⟨gb, 0, none⟩) 1 1 (fun k => wz.heap.size ≤ k) (fun _ => False) rfl rfl HR4.out HK4.out (fun _ _ h => h) (fun _ h => h.elim) (fun _ h => Nat.le_trans HB4.out.size h) HB4.out HB4.out.size (by simp only [List.length_take]; omega) ?_
                  intro v5 w5 hr5 hb5 hg5 _
                  obtain ⟨A77, c77, rfl⟩ := Kd.R_slice hr5
                  rw [HLE5.out] at hr5
                  have HR5 := Aside0.mk hr5
                  have HB5 := Aside0.mk hb5
                  clear hr5 hb5 hg5
                  refine hK.out _ _ (Kd.cell_heap (fun j hj => HB5.out.block j hj) HCZ.out) (fun hHeld => ?_)
                  clear hK K
                  refine norm_ (a' := ?_) ?_ ?_
                  rotate_left
                  · show Act.put _ (some 83) _ = _
                    simp only [Act.put, List.setIfInBounds_toArray, List.set_cons_zero, List.set_cons_succ, i64_w, i32_w]
                    rfl
                  refine pure_ (i := 12) (N := some 8) (v := ?_) (a' := ?_) #[true, true, true, true, true, true, true, true, true, true, true, true, true] rfl rfl (by kernel_rfl) (fun _ _ _ h => h) (Or.inl ⟨by rfl, ?_⟩) ?_ ?_
                  rotate_left
                  · intro w'
                    go_simp
                    with_reducible rfl
                  rotate_left
                  · simp only [Act.put, List.setIfInBounds_toArray, List.set_cons_zero, List.set_cons_succ, i64_w, i32_w]
                    rfl
                  refine done_ (by kernel_rfl) ?_
                  go_wp2_with (first | ((with_reducible refine gate_builtin (b := .append) (xs := #[.tmp 84, .tmp 87]) rfl ?_); at_builtin; refine Kd.R_append_rows kE (Rr := fun x cs => cs = CE.enc x) (w0 := wz) wz.heap.size rfl (.tmp 84) (.tmp 87) 40 61 (.agg #[.slice none 0 0, .int .i64 0]) 32 rfl Try.underlying40 info61 rfl (by decide) (by decide) (.slice A77 (a + 1) c77) (cs.take a ++ [(⟨A6', c6', x, 1⟩ : CE)]) (cs.drop a) _ (cs.length - a) _ (fun k => wz.heap.size ≤ k) (fun _ => False) rfl rfl HR5.out (Kd.C_below HCD.out HB5.out) (fun _ _ h => h) (fun _ h => h.elim) (fun _ h => Nat.le_trans HB5.out.size h) HB5.out HB5.out.size (by rw [HLE5.out]; omega) ?_; intro v6 w6 hr6 hb6 hg6 _; have HR6 := Aside0.mk hr6; have HB6 := Aside0.mk hb6; clear hr6 hb6 hg6))
                  have HNW := Aside0.mk (HRz.out.anew (l2 := insR x l) HR6.out HB6.out (fun z hz => by
                    rcases List.mem_append.1 hz with hz | hz
                    · rcases List.mem_append.1 hz with hz | hz
                      · exact .inl (List.mem_of_mem_take hz)
                      · rw [List.mem_singleton.1 hz]; exact .inr HXz.out
                    · exact .inl (List.mem_of_mem_drop hz)) (by rw [HI2.out, ← HRz.out.pr]; simp [CE.pr, List.map_take, List.map_drop]))
                  go_roundw
                  case rel => exact ⟨k + 1, _, by go_num, by omega, ⟨by rw [HTK.out]; exact HNW.out⟩, ⟨Kd.V_below HVz.out HB6.out⟩⟩
                  case measure => simp [intOf]; omega
            · obtain rfl : a = cs.length := by omega
              have HI2 := Aside0.mk (show insR x l = l.take cs.length ++ [(x, 1)] ++ l.drop cs.length by
                have := insR_at x l cs.length (by rw [HR.out.len]; omega) HJ.out (fun h => by rw [HR.out.len] at h; omega)
                rw [this, if_neg (fun h => by rw [HR.out.len] at h; omega)])
              obtain ⟨A3, c3, rfl⟩ := Kd.R_slice HR.out.row
              go_wp2
              repeat (go_quiet (fail); try go_wp2)
              refine gen_world wq (by repeat (first | exact Below.refl _ _ | apply pw_below_drewN)) (fun wz hwz => ?_)
              have HRz := Aside0.mk (show Ct w wz 61 Z5 (.slice A3 cs.length c3) cs l from HR.out.below hwz)
              have HVz := Aside0.mk (show Kd.V (Kd.slice 5 (Kd.int .u8)) 22 wz 0 Z5 (.slice (some adL) L.length c5) L from Kd.V_below HV.out hwz)
              have HXz := Aside0.mk (show CE.Ok wz Z5 ⟨A6', c6', x, 1⟩ from Kd.V_below HX.out hwz)
              have HCZ := Aside0.mk (show wz.cell? (adL.add k) = some (.slice A6' x.length c6') from Kd.cell_heap (fun j hj => hwz.block j hj) HCL.out)
              have hc3 := (Kd.R_reads' HRz.out.row).2.1
              have HCT := Aside0.mk (show kE.C wz A3 cs.length (cs.take cs.length) by
                have h := Kd.C_take (Kd.R_reads' HRz.out.row).2.2 (Nat.le_refl _)
                rw [show (cs.take cs.length).length = cs.length by rw [List.length_take]; omega] at h
                exact h)
              have HCD := Aside0.mk (Kd.C_drop (Kd.R_reads' HRz.out.row).2.2 (Nat.le_refl _) hc3)
              have HLE5 := Aside0.mk (show (cs.take cs.length ++ [(⟨A6', c6', x, 1⟩ : CE)]).length = cs.length + 1 by rw [List.length_append, List.length_take]; simp only [List.length_cons, List.length_nil]; omega)
              have HCD := Aside0.mk (show kE.C wz (if c3 = cs.length then (A3 : Option Addr) else (A3 : Option Addr).map (fun z => z.add (cs.length * 2))) (cs.length - cs.length) (cs.drop cs.length) by
                have h := HCD.out
                rw [List.length_drop] at h
                exact h)
              have p1 := eq_true (show (0 : Int) ≤ (cs.length : Int) by omega)
              have p2 := eq_true (show (cs.length : Int) ≤ (cs.length : Int) by omega)
              have p3 := eq_true (show (cs.length : Int) ≤ (c3 : Int) by omega)
              clear hwz
              refine start_ (n := 13) (S := fun w' => w'.cell? (adL.add k) = some (.slice A6' x.length c6')) (ds := []) #[false, false, false, false, false, false, false, false, false, false, false, false, false] (by kernel_rfl) rfl rfl (HCZ.out) (fun hHeld => ?_)
              refine pure_ (i := 0) (N := some 72) (v := ?_) (a' := ?_) #[true, false, false, false, false, false, false, false, false, false, false, false, false] rfl rfl (by kernel_rfl) (fun _ _ _ h => h) (Or.inl ⟨by rfl, ?_⟩) ?_ ?_
              rotate_left
              · intro w'
                go_simp
                with_reducible rfl
              rotate_left
              · simp only [Act.put, List.setIfInBounds_toArray, List.set_cons_zero, List.set_cons_succ, i64_w, i32_w]
                rfl
              refine pure_ (i := 1) (N := some 73) (v := ?_) (a' := ?_) #[true, true, false, false, false, false, false, false, false, false, false, false, false] rfl rfl (by kernel_rfl) (fun _ _ _ h => h) (Or.inl ⟨by rfl, ?_⟩) ?_ ?_
              rotate_left
              · intro w'
                go_simp
                with_reducible rfl
              rotate_left
              · simp only [Act.put, List.setIfInBounds_toArray, List.set_cons_zero, List.set_cons_succ, i64_w, i32_w]
                rfl
              refine pure_ (i := 2) (N := some 74) (v := ?_) (a' := ?_) #[true, true, true, false, false, false, false, false, false, false, false, false, false] rfl rfl (by kernel_rfl) (fun _ _ _ h => h) (Or.inl ⟨by rfl, ?_⟩) ?_ ?_
              rotate_left
              · intro w'
                go_simp
                with_reducible rfl
              rotate_left
              · simp only [Act.put, List.setIfInBounds_toArray, List.set_cons_zero, List.set_cons_succ, i64_w, i32_w]
                rfl
              refine pure_ (i := 3) (N := some 75) (v := ?_) (a' := ?_) #[true, true, true, true, false, false, false, false, false, false, false, false, false] rfl rfl (by kernel_rfl) (fun _ _ _ h => h) (Or.inl ⟨by rfl, ?_⟩) ?_ ?_
              rotate_left
              · intro w'
                go_simp
                with_reducible rfl
              rotate_left
              · simp only [Act.put, List.setIfInBounds_toArray, List.set_cons_zero, List.set_cons_succ, i64_w, i32_w]
                rfl
              refine pure_ (i := 5) (N := some 77) (v := ?_) (a' := ?_) #[true, true, true, true, false, true, false, false, false, false, false, false, false] rfl rfl (by kernel_rfl) (fun _ _ _ h => h) (Or.inl ⟨by rfl, ?_⟩) ?_ ?_
              rotate_left
              · intro w'
                go_simp
                with_reducible rfl
              rotate_left
              · simp only [Act.put, List.setIfInBounds_toArray, List.set_cons_zero, List.set_cons_succ, i64_w, i32_w]
                rfl
              refine pure_ (i := 6) (N := some 78) (v := ?_) (a' := ?_) #[true, true, true, true, false, true, true, false, false, false, false, false, false] rfl rfl (by kernel_rfl) (fun _ _ _ h => h) (Or.inl ⟨by rfl, ?_⟩) ?_ ?_
              rotate_left
              · intro w'
                go_simp
                with_reducible rfl
              rotate_left
              · simp only [Act.put, List.setIfInBounds_toArray, List.set_cons_zero, List.set_cons_succ, i64_w, i32_w]
                rfl
              refine pure_ (i := 7) (N := some 79) (v := ?_) (a' := ?_) #[true, true, true, true, false, true, true, true, false, false, false, false, false] rfl rfl (by kernel_rfl) (fun _ _ _ h => h) (Or.inl ⟨by rfl, ?_⟩) ?_ ?_
              rotate_left
              · intro w'
                go_simp
                with_reducible rfl
              rotate_left
              · simp only [Act.put, List.setIfInBounds_toArray, List.set_cons_zero, List.set_cons_succ, i64_w, i32_w]
                rfl
              refine take_ (i := 8) (N := some 80) (v := ?_) (a' := ?_) #[true, true, true, true, false, true, true, true, true, false, false, false, false] rfl rfl (by kernel_rfl) (fun _ _ _ h => h) (Or.inl ⟨by rfl, ?_⟩) hHeld ?_ ?_
              rotate_left
              · intro w' s0
                go_simp
                with_reducible rfl
              rotate_left
              · simp only [Act.put, List.setIfInBounds_toArray, List.set_cons_zero, List.set_cons_succ, i64_w, i32_w]
                rfl
              refine pure_ (i := 9) (N := some 81) (v := ?_) (a' := ?_) #[true, true, true, true, false, true, true, true, true, true, false, false, false] rfl rfl (by kernel_rfl) (fun _ _ _ h => h) (Or.inl ⟨by rfl, ?_⟩) ?_ ?_
              rotate_left
              · intro w'
                go_simp
                with_reducible rfl
              rotate_left
              · simp only [Act.put, List.setIfInBounds_toArray, List.set_cons_zero, List.set_cons_succ, i64_w, i32_w]
                rfl
              refine join_ (σ := Value × Nat) 2 #[true, true, true, true, true, true, true, true, true, true, true, false, false] (fun s => [(76, s.1), (82, .slice (some ⟨s.2, 0, none⟩) 1 1)]) (fun s w' => Kd.R kE 61 w' wz.heap.size (fun k => wz.heap.size ≤ k) s.1 (cs.take cs.length) ∧ w'.heap[s.2]? = some (.cells #[.slice A6' x.length c6', .int .i64 1] 61 (0, 0)) ∧ wz.heap.size ≤ s.2 ∧ some s.2 ≠ s.1.ownBlock ∧ Below wz.heap.size wz w' ∧ w'.cell? (adL.add k) = some (.slice A6' x.length c6')) ?_ ?_
              rotate_left
              · intro hCont
                refine two_ (i := 4) (j := 10) (Ni := some 76) (Nj := some 82) #[true, true, true, true, true, true, true, true, true, true, false, false, false] #[true, true, true, true, false, true, true, true, true, true, true, false, false] rfl rfl rfl rfl (by kernel_rfl) (by decide) (by decide) (fun K hK => ?_) (fun K hK => ?_)
                · skip
                  refine Kd.R_append_rows_step kE (Rr := fun x cs => cs = CE.enc x) (w0 := wz) wz.heap.size (by rfl) (.tmp 72) (.tmp 75) 40 61 (.agg #[.slice none 0 0, .int .i64 0]) 32 rfl Try.underlying40 info61 rfl (by decide) (by decide) (.slice none 0 0) [] (cs.take cs.length) A3 cs.length c3 (fun k => wz.heap.size ≤ k) (fun _ => False) rfl rfl (Kd.R_nil _ _ _ _ _) (Kd.C_below HCT.out (below_drew (Below.refl wz.heap.size wz))) (fun _ _ h => h) (fun _ h => h.elim) (fun _ h => Nat.le_trans (Nat.le_refl _) h) ((below_drew (Below.refl wz.heap.size wz))) (Nat.le_refl _) (by simp only [List.length_nil]; omega) ?_
                  intro v1 w1 hr1 hb1 hg1 hat1
                  rw [List.nil_append] at hr1
                  refine hK.out _ _ (Kd.cell_heap (fun j hj => hb1.block j hj) HCZ.out) (fun hHeld => ?_)
                  clear hK K
                  refine norm_ (a' := ?_) ?_ ?_
                  rotate_left
                  · show Act.put _ (some 76) _ = _
                    simp only [Act.put, List.setIfInBounds_toArray, List.set_cons_zero, List.set_cons_succ, i64_w, i32_w]
                    rfl
                  refine one_ (i := 10) (N := some 82) #[true, true, true, true, true, true, true, true, true, true, true, false, false] rfl rfl (by kernel_rfl) (by decide) (fun K hK => ?_)
                  refine value_ (w1 := (w1).alloc (.cells #[.slice A6' x.length c6', .int .i64 1] 61)) (v := .slice (some ⟨(w1).heap.size, 0, none⟩) 1 1) (by rfl) rfl ?hbs ?_
                  case hbs =>
                    refine exec_buildSlice (t := 40) (n := 1) (parts := #[(0, .tmp 81)]) (args := #[(0, .agg #[.slice A6' x.length c6', .int .i64 1])]) ?ho ?he ?hr
                    case ho => rfl
                    case he => kernel_rfl
                    case hr => exact buildC A6' x.length c6' (w1)
                  refine hK.out _ _ (Kd.cell_heap (fun j hj => (below_alloc hb1 _).block j hj) HCZ.out) (fun hHeld => ?_)
                  clear hK K
                  refine norm_ (a' := ?_) ?_ ?_
                  rotate_left
                  · show Act.put _ (some 82) _ = _
                    simp only [Act.put, List.setIfInBounds_toArray, List.set_cons_zero, List.set_cons_succ, i64_w, i32_w]
                    rfl
                  exact norm_ (by simp only [putAll, Act.put, List.setIfInBounds_toArray, List.set_cons_zero, List.set_cons_succ]) (hCont (v1, w1.heap.size) _ ⟨Kd.R_alloc hr1 _, heap_alloc_new w1 _, hb1.size, fun he => Nat.lt_irrefl _ (Kd.R_lt hr1 _ he.symm), below_alloc hb1 _, Kd.cell_heap (fun j hj => (below_alloc hb1 _).block j hj) HCZ.out⟩)
                · skip
                  refine value_ (w1 := (wz.drew).alloc (.cells #[.slice A6' x.length c6', .int .i64 1] 61)) (v := .slice (some ⟨(wz.drew).heap.size, 0, none⟩) 1 1) (by rfl) rfl ?hbs ?_
                  case hbs =>
                    refine exec_buildSlice (t := 40) (n := 1) (parts := #[(0, .tmp 81)]) (args := #[(0, .agg #[.slice A6' x.length c6', .int .i64 1])]) ?ho ?he ?hr
                    case ho => rfl
                    case he => kernel_rfl
                    case hr => exact buildC A6' x.length c6' (wz.drew)
                  refine hK.out _ _ (Kd.cell_heap (fun j hj => (below_alloc (below_drew (Below.refl wz.heap.size wz)) _).block j hj) HCZ.out) (fun hHeld => ?_)
                  clear hK K
                  refine norm_ (a' := ?_) ?_ ?_
                  rotate_left
                  · show Act.put _ (some 82) _ = _
                    simp only [Act.put, List.setIfInBounds_toArray, List.set_cons_zero, List.set_cons_succ, i64_w, i32_w]
                    rfl
                  refine one_ (i := 4) (N := some 76) #[true, true, true, true, true, true, true, true, true, true, true, false, false] rfl rfl (by kernel_rfl) (by decide) (fun K hK => ?_)
                  refine Kd.R_append_rows_step kE (Rr := fun x cs => cs = CE.enc x) (w0 := wz) wz.heap.size (by rfl) (.tmp 72) (.tmp 75) 40 61 (.agg #[.slice none 0 0, .int .i64 0]) 32 rfl Try.underlying40 info61 rfl (by decide) (by decide) (.slice none 0 0) [] (cs.take cs.length) A3 cs.length c3 (fun k => wz.heap.size ≤ k) (fun _ => False) rfl rfl (Kd.R_nil _ _ _ _ _) (Kd.C_below HCT.out (below_alloc (below_drew (Below.refl wz.heap.size wz)) (.cells #[.slice A6' x.length c6', .int .i64 1] 61))) (fun _ _ h => h) (fun _ h => h.elim) (fun _ h => Nat.le_trans (below_alloc (below_drew (Below.refl wz.heap.size wz)) (.cells #[.slice A6' x.length c6', .int .i64 1] 61)).size h) ((below_alloc (below_drew (Below.refl wz.heap.size wz)) (.cells #[.slice A6' x.length c6', .int .i64 1] 61))) (below_alloc (below_drew (Below.refl wz.heap.size wz)) (.cells #[.slice A6' x.length c6', .int .i64 1] 61)).size (by simp only [List.length_nil]; omega) ?_
                  intro v1 w1 hr1 hb1 hg1 hat1
                  rw [List.nil_append] at hr1
                  refine hK.out _ _ (Kd.cell_heap (fun j hj => hb1.block j hj) HCZ.out) (fun hHeld => ?_)
                  clear hK K
                  refine norm_ (a' := ?_) ?_ ?_
                  rotate_left
                  · show Act.put _ (some 76) _ = _
                    simp only [Act.put, List.setIfInBounds_toArray, List.set_cons_zero, List.set_cons_succ, i64_w, i32_w]
                    rfl
                  exact norm_ (by simp only [putAll, Act.put, List.setIfInBounds_toArray, List.set_cons_zero, List.set_cons_succ]) (hCont (v1, wz.drew.heap.size) _ ⟨hr1, (hg1.block wz.drew.heap.size (show wz.drew.heap.size < (wz.drew.alloc (.cells #[.slice A6' x.length c6', .int .i64 1] 61)).heap.size by rw [World.size_alloc]; exact Nat.lt_succ_self _) (fun h => by cases h)).trans (heap_alloc_new wz.drew _), Nat.le_refl _, fun he => (hat1.elim (fun h => by rw [h] at he; cases he) (fun ⟨b, h1, h2⟩ => by rw [h1] at he; injection he with he; rw [← he] at h2; exact absurd (show wz.drew.heap.size < (wz.drew.alloc (.cells #[.slice A6' x.length c6', .int .i64 1] 61)).heap.size by rw [World.size_alloc]; exact Nat.lt_succ_self _) (Nat.not_lt.2 h2))), hb1, Kd.cell_heap (fun j hj => hb1.block j hj) HCZ.out⟩)
              rintro ⟨v76, gb⟩ w4 ⟨hr4, hb4, hgb4, hne4, hbl4, hHeld⟩
              simp only at hr4 hb4 hgb4 hne4
              obtain ⟨A76, c76, rfl⟩ := Kd.R_slice hr4
              have HR4 := Aside0.mk hr4
              have HB4 := Aside0.mk hbl4
              have HK4 := Aside0.mk (C_one (x := ⟨A6', c6', x, 1⟩) hb4)
              clear hr4 hb4 hgb4 hne4 hbl4
              refine norm_ (a' := ?_) ?_ ?_
              rotate_left
              · simp only [putAll, Act.put, List.setIfInBounds_toArray, List.set_cons_zero, List.set_cons_succ]
                rfl
              refine one_ (i := 11) (N := some 83) #[true, true, true, true, true, true, true, true, true, true, true, true, false] rfl rfl (by kernel_rfl) (by decide) (fun K hK => ?_)
              refine Kd.R_append_rows_step kE (Rr := fun x cs => cs = CE.enc x) (w0 := wz) wz.heap.size (by rfl) (.tmp 76) (.tmp 82) 40 61 (.agg #[.slice none 0 0, .int .i64 0]) 32 rfl Try.underlying40 info61 rfl (by decide) (by decide) (.slice A76 (cs.take cs.length).length c76) (cs.take cs.length) [⟨A6', c6', x, 1⟩] (some ⟨gb, 0, none⟩) 1 1 (fun k => wz.heap.size ≤ k) (fun _ => False) rfl rfl HR4.out HK4.out (fun _ _ h => h) (fun _ h => h.elim) (fun _ h => Nat.le_trans HB4.out.size h) HB4.out HB4.out.size (by simp only [List.length_take]; omega) ?_
              intro v5 w5 hr5 hb5 hg5 _
              obtain ⟨A77, c77, rfl⟩ := Kd.R_slice hr5
              rw [HLE5.out] at hr5
              have HR5 := Aside0.mk hr5
              have HB5 := Aside0.mk hb5
              clear hr5 hb5 hg5
              refine hK.out _ _ (Kd.cell_heap (fun j hj => HB5.out.block j hj) HCZ.out) (fun hHeld => ?_)
              clear hK K
              refine norm_ (a' := ?_) ?_ ?_
              rotate_left
              · show Act.put _ (some 83) _ = _
                simp only [Act.put, List.setIfInBounds_toArray, List.set_cons_zero, List.set_cons_succ, i64_w, i32_w]
                rfl
              refine pure_ (i := 12) (N := some 8) (v := ?_) (a' := ?_) #[true, true, true, true, true, true, true, true, true, true, true, true, true] rfl rfl (by kernel_rfl) (fun _ _ _ h => h) (Or.inl ⟨by rfl, ?_⟩) ?_ ?_
              rotate_left
              · intro w'
                go_simp
                with_reducible rfl
              rotate_left
              · simp only [Act.put, List.setIfInBounds_toArray, List.set_cons_zero, List.set_cons_succ, i64_w, i32_w]
                rfl
              refine done_ (by kernel_rfl) ?_
              go_wp2_with (first | ((with_reducible refine gate_builtin (b := .append) (xs := #[.tmp 84, .tmp 87]) rfl ?_); at_builtin; refine Kd.R_append_rows kE (Rr := fun x cs => cs = CE.enc x) (w0 := wz) wz.heap.size rfl (.tmp 84) (.tmp 87) 40 61 (.agg #[.slice none 0 0, .int .i64 0]) 32 rfl Try.underlying40 info61 rfl (by decide) (by decide) (.slice A77 (cs.length + 1) c77) (cs.take cs.length ++ [(⟨A6', c6', x, 1⟩ : CE)]) [] _ 0 _ (fun k => wz.heap.size ≤ k) (fun _ => False) rfl rfl HR5.out (C_none _ _) (fun _ _ h => h) (fun _ h => h.elim) (fun _ h => Nat.le_trans HB5.out.size h) HB5.out HB5.out.size (by rw [HLE5.out]; omega) ?_; intro v6 w6 hr6 hb6 hg6 _; have HR6 := Aside0.mk hr6; have HB6 := Aside0.mk hb6; clear hr6 hb6 hg6))
              have HNW := Aside0.mk (HRz.out.anew (l2 := insR x l) HR6.out HB6.out (fun z hz => by
                rcases List.mem_append.1 hz with hz | hz
                · rcases List.mem_append.1 hz with hz | hz
                  · exact .inl (List.mem_of_mem_take hz)
                  · rw [List.mem_singleton.1 hz]; exact .inr HXz.out
                · cases hz) (by rw [HI2.out, ← HRz.out.pr]; simp [CE.pr, List.take_of_length_le, List.drop_of_length_le]))
              go_roundw
              case rel => exact ⟨k + 1, _, by go_num, by omega, ⟨by rw [HTK.out]; exact HNW.out⟩, ⟨Kd.V_below HVz.out HB6.out⟩⟩
              case measure => simp [intOf]; omega
        · obtain rfl : k = L.length := by omega
          have HR7 := Aside0.mk (show Ct w wr 61 Z5 _ cs (countsR (wordsOf (T.take (i + 1)))) by rw [HSN.out]; have h := HR.out; rw [List.take_length] at h; exact h)
          go_wp2_with (fail)
          go_roundw
          case rel => exact ⟨i + 1, cs, Z5, by go_num, by omega, HR7⟩
          case measure => simp [intOf]; omega
    · obtain rfl : i = T.length := by omega
      go_wp2_with (fail)
      go_ret
      exact ⟨_, cs, Z, rfl, by have h := HR.out; rw [List.take_length] at h; exact h⟩

end Go.Proofs.Ytmmpppahagknpaa.Wc
