/- The sort of a row of counts. -/
import Derived.Test.YtmmpppahagknpaaWcB
import Derived.Test.YtmmpppahagknpaaSrt
import Derived.Lib.BytesEntry
import Derived.Laws.Externs
import Derived.Shelf.SlSortCmp.NoneTotal
namespace Go.Proofs.Ytmmpppahagknpaa.Wc
open Go.RowKit Go.Proofs.Ytmmpppahagknpaa.P Go.Proofs.Ytmmpppahagknpaa.Pure Go.Proofs.YtmmpppahagknpaaW.PrintWords Go.Proofs.YtmmpppahagknpaaW.PrintLast Go.Proofs.YtmmpppahagknpaaW.PrintMore
open Go.Sort (SWO PermIn SortedIn ahead grow alloc_eq_grow grow_grow HoldsK putRowK putRow mapBlock flatK size_flatK get_flatK holdsK_grow holdsK_putRowK holdsK_ahead)
set_option linter.unusedVariables false
set_option linter.unusedSimpArgs false
set_option maxRecDepth 30000
variable {W w w1 w' : World} {Z : Nat → Prop}
theorem cmp_map : ∀ {x y : List Int}, Byts x → Byts y → Lib.compareBytes (Lib.bytesOf x) (Lib.bytesOf y) = cmpB x y
  | [], [], _, _ => rfl
  | [], _ :: _, _, _ => rfl
  | _ :: _, [], _, _ => rfl
  | a :: x, b :: y, hx, hy => by
    have h1 := u8_lt (hx a (List.mem_cons_self ..)) (hy b (List.mem_cons_self ..))
    have h2 := u8_lt (hy b (List.mem_cons_self ..)) (hx a (List.mem_cons_self ..))
    have ih := cmp_map (x := x) (y := y) (fun z hz => hx z (List.mem_cons_of_mem _ hz)) (fun z hz => hy z (List.mem_cons_of_mem _ hz))
    unfold Lib.bytesOf at ih ⊢
    simp only [List.map_cons, Lib.compareBytes, h1, h2, ih]
    unfold cmpB
    simp only [ltB, List.cons.injEq]
    by_cases c1 : a < b
    · simp [c1]
    · by_cases c2 : b < a
      · have : ¬ a = b := by omega
        simp [c1, c2, this]
      · obtain rfl : a = b := by omega
        simp
theorem bytesOf_run {A : Option Addr} {c : Nat} {x : List Int} (h : Kd.C (Kd.int .u8) W A x.length x) : (Extern.Bytes.bytesOf (.slice A x.length c)).run Try.prog W = .ok ⟨(Lib.bytesOf x).toArray⟩ W := by
  cases A with
  | none =>
    have h0 : x.length = 0 := by
      rcases Nat.eq_zero_or_pos x.length with h0 | h0
      · exact h0
      · obtain ⟨ad, h1, _⟩ := h.2.2 h0
        cases h1
    obtain rfl := List.eq_nil_of_length_eq_zero h0
    rfl
  | some a =>
    have hl := Lib.run_loadBytesX (P := Try.prog) W x a .empty (fun j y hj => by
      have hj' := (List.getElem?_eq_some_iff.1 hj).1
      obtain ⟨ad, e, hc⟩ := h.2.2 (by omega)
      injection e with e
      subst e
      obtain ⟨cs, _, hK, hcell⟩ := hc j y hj
      have hK' : cs = [.int .u8 y] := hK
      subst hK'
      have := hcell 0 _ rfl
      simpa [Kd.int, Kd.scalar] using this)
    show (Extern.Bytes.loadBytes a x.length .empty).run Try.prog W = _
    rw [hl]
    congr 1
    apply ByteArray.ext
    simp
theorem cmp_calls {A A2 : Option Addr} {c c2 : Nat} {x y : List Int} (hx : Kd.C (Kd.int .u8) W A x.length x) (hy : Kd.C (Kd.int .u8) W A2 y.length y) (bx : Byts x) (by' : Byts y) :
    Calls Try.prog 36 #[.slice A x.length c, .slice A2 y.length c2] W fun e w' => e = .returned (.int .i64 (cmpB x y)) ∧ w' = W := by
  have hr : (Extern.BytealgCompare.compare #[.slice A x.length c, .slice A2 y.length c2]).run Try.prog W = .ok (.int .i64 (cmpB x y)) W := by
    change Sem.run Try.prog (do pure (goInt (Extern.BytealgCompare.cmp (← Extern.Bytes.bytesOf (.slice A x.length c)) (← Extern.Bytes.bytesOf (.slice A2 y.length c2))))) W = _
    simp only [Sem.run_bind, bytesOf_run hx, bytesOf_run hy, Result.andThen, Sem.run_pure]
    rw [Lib.cmp_eq, cmp_map bx by']
    rfl
  clear hx hy
  go_enter Try.func36, Try.ntmps36
  go_wp2
  rw [run_callFunc_extern Try.func42 (by kernel_rfl) (by kernel_rfl) (by kernel_rfl) (e := Extern.BytealgCompare.compare) (by kernel_rfl), hr]
  simp only [Result.andThen]
  rw [Oper.upon_value]
  go_wp2
  go_ret
  exact ⟨rfl, rfl⟩
/-- The closure. -/
theorem cmp35 (x y : CE) (hx : Kd.C (Kd.int .u8) W x.A x.b.length x.b) (hy : Kd.C (Kd.int .u8) W y.A y.b.length y.b) (bx : Byts x.b) (by' : Byts y.b) :
    Calls Try.prog 35 #[.agg x.enc.toArray, .agg y.enc.toArray] W fun e w' => e = .returned (.int .i64 (cmpB x.b y.b)) ∧ ∃ q os', w' = grow (W.drewN q) os' := by
  obtain ⟨xA, xc, xb, xn⟩ := x
  obtain ⟨yA, yc, yb, yn⟩ := y
  have HC := Aside0.mk (show ∀ W1, Below W.heap.size W W1 → Calls Try.prog 36 #[.slice xA xb.length xc, .slice yA yb.length yc] W1 fun e w' => e = .returned (.int .i64 (cmpB xb yb)) ∧ w' = W1 from fun W1 hb => cmp_calls (Kd.C_below hx hb) (Kd.C_below hy hb) bx by')
  clear hx hy bx by'
  obtain ⟨r, hr⟩ : ∃ r, cmpB xb yb = r := ⟨_, rfl⟩
  show Calls Try.prog 35 #[.agg #[.slice xA xb.length xc, .int .i64 xn], .agg #[.slice yA yb.length yc, .int .i64 yn]] W fun e w' => e = .returned (.int .i64 (cmpB xb yb)) ∧ ∃ q os', w' = grow (W.drewN q) os'
  rw [hr] at HC ⊢
  clear hr
  go_enter Try.func35, Try.ntmps35
  go_wp2_with (first | (go_at_call 36; (with_reducible refine (HC.out _ (below_alloc (below_alloc (Below.refl _ _) _) _)).mono ?_); rintro e w1 ⟨rfl, rfl⟩))
  go_ret
  exact ⟨rfl, 0, _, by rw [alloc_eq_grow, alloc_eq_grow, grow_grow]; rfl⟩
/-- A row whose cells have been written anew, no other block. -/
theorem Ct.sorted {w w1 w2 : World} {e : TypeId} {Z : Nat → Prop} {cs cs' : List CE} {l : List Cn} {g n c : Nat} {cells0 cells : Array Value} (h : Ct w w1 e Z (.slice (some ⟨g, 0, none⟩) n c) cs l) (hs : w1.heap.size ≤ w2.heap.size) (hos : w2.os = w1.os ∧ w2.tape = w1.tape ∧ w2.output = w1.output) (hother : ∀ k, k < w1.heap.size → k ≠ g → w2.heap[k]? = w1.heap[k]?)
    (h0 : w1.heap[g]? = some (.cells cells0 e (0, 0))) (hb : w2.heap[g]? = some (.cells cells e (0, 0))) (hcs : cells.size = cells0.size) (hlen : cs'.length = cs.length) (hcell : ∀ j x, cs'[j]? = some x → w2.cell? ⟨g, j * 2, none⟩ = some (.slice x.A x.b.length x.c) ∧ w2.cell? ⟨g, j * 2 + 1, none⟩ = some (.int .i64 x.n)) (hmem : ∀ x ∈ cs', x ∈ cs) :
    Ct w w2 e Z (.slice (some ⟨g, 0, none⟩) n c) cs' (cs'.map CE.pr) := by
  obtain ⟨hr0, inner, ⟨ho1, ho2⟩, hr⟩ := h.row
  rcases ho2 with ⟨hv, _⟩ | ⟨g', cap, cur, hv, hg, hh, hn, hc, hcz, htk⟩
  · cases hv
  injection hv with ha hn' hc'
  injection ha with ha
  injection ha with ha
  subst ha; subst hn'; subst hc'
  rw [h0] at hh
  injection hh with hh
  injection hh with hh _ _
  subst hh
  have hgz := (hr0 g rfl).2
  have hle : cs'.length * 2 ≤ cells.size := by rw [hcs, hcz, hlen]; exact Nat.mul_le_mul_right _ hn
  refine ⟨rfl, ⟨hr0, cells.toList.take (cs'.length * 2), ⟨?_, .inr ⟨g, c, cells, by rw [hlen], hg, hb, by rw [hlen]; exact hn, hc, by rw [hcs, hcz], rfl⟩⟩, ?_, fun j x hj => ?_⟩, fun x hx => Kd.V_step (h.el x (hmem x hx)) (fun k hk hlt => hother k hlt (fun e => hgz (e ▸ hk))), fun k hk => Nat.lt_of_lt_of_le (h.zl k hk) hs, h.zb, ⟨hos.1.trans h.b.os, hos.2.1.trans h.b.tape, hos.2.2.trans h.b.output, Nat.le_trans h.b.size hs, fun k hk => (hother k (Nat.lt_of_lt_of_le hk h.b.size) (fun e => hgz (h.zb g (e ▸ hk)))).trans (h.b.block k hk)⟩⟩
  · rw [List.length_take, Array.length_toList]; exact Nat.min_eq_left hle
  · rw [List.length_take, Array.length_toList]; exact Nat.min_eq_left hle
  · have hjl := (List.getElem?_eq_some_iff.1 hj).1
    obtain ⟨h1, h2⟩ := hcell j x hj
    rw [World.cell?, hb] at h1 h2
    have h1' : cells[j * 2]? = some (.slice x.A x.b.length x.c) := by simpa using h1
    have h2' : cells[j * 2 + 1]? = some (.int .i64 x.n) := by simpa using h2
    show ((cells.toList.take (cs'.length * 2)).drop (j * 2)).take 2 = x.enc
    have e1 : (cells.toList.take (cs'.length * 2))[j * 2]? = some (.slice x.A x.b.length x.c) := by rw [List.getElem?_take, if_pos (by omega), Array.getElem?_toList]; exact h1'
    have e2 : (cells.toList.take (cs'.length * 2))[j * 2 + 1]? = some (.int .i64 x.n) := by rw [List.getElem?_take, if_pos (by omega), Array.getElem?_toList]; exact h2'
    obtain ⟨q1, q2⟩ := List.getElem?_eq_some_iff.1 e1
    obtain ⟨q3, q4⟩ := List.getElem?_eq_some_iff.1 e2
    rw [List.drop_eq_getElem_cons q1, List.drop_eq_getElem_cons q3, q2, q4]
    rfl
theorem cmpB_lt (x y : List Int) : decide (cmpB x y < 0) = ltB x y := by
  unfold cmpB
  cases h : ltB x y with
  | true => rfl
  | false =>
    rw [if_neg (by decide)]
    split <;> rfl
theorem swo_ltB {α : Type} (f : α → List Int) : SWO (fun x y => ltB (f x) (f y)) where
  irrefl x := ltB_irrefl _
  trans x y z := ltB_trans _ _ _
  ntrans x y z h1 h2 := by
    cases h3 : ltB (f x) (f z) with
    | false => rfl
    | true =>
      cases h4 : ltB (f y) (f x) with
      | true => exact absurd (ltB_trans _ _ _ h4 h3) (by rw [h2]; decide)
      | false =>
        have e := ltB_tri _ _ h1 h4
        rw [e, h2] at h3
        cases h3
theorem ex_attach {P : CE → Prop} (cs : List CE) (h : ∀ x ∈ cs, P x) : ∃ d : Array { x : CE // P x }, d.toList.map (·.1) = cs := ⟨(cs.attachWith P h).toArray, by simp⟩
theorem att_size {P : CE → Prop} {cs : List CE} {d : Array { x : CE // P x }} (hd : d.toList.map (·.1) = cs) : d.size = cs.length := by rw [← hd, List.length_map, Array.length_toList]
section
variable {P : CE → Prop} [Inhabited { x : CE // P x }] {cs : List CE} {d : Array { x : CE // P x }} {w w1 : World} {e : TypeId} {Z : Nat → Prop} {l : List Cn} {g n c : Nat}
theorem att_get (hd : d.toList.map (·.1) = cs) {j : Nat} {x : CE} (hj : cs[j]? = some x) : j < d.size ∧ (d[j]!).1 = x := by
  have hjl := (List.getElem?_eq_some_iff.1 hj).1
  have hs := att_size hd
  rw [← hd, List.getElem?_map, Array.getElem?_toList, Array.getElem?_eq_getElem (by omega)] at hj
  injection hj with hj
  exact ⟨by omega, by rw [getElem!_pos d j (by omega)]; exact hj⟩
theorem flat0 (enc : { x : CE // P x } → List Value) {j : Nat} (hj : j < d.size) : (flatK enc 2 d)[j * 2]! = (enc d[j]!)[0]! := by
  rw [get_flatK _ _ _ _ (by omega), Nat.mul_div_cancel _ (by decide : 0 < 2), Nat.mul_mod_left]
theorem flat1 (enc : { x : CE // P x } → List Value) {j : Nat} (hj : j < d.size) : (flatK enc 2 d)[j * 2 + 1]! = (enc d[j]!)[1]! := by
  rw [get_flatK _ _ _ _ (by omega), show (j * 2 + 1) / 2 = j by omega, show (j * 2 + 1) % 2 = 1 by omega]
theorem holds_of (hd : d.toList.map (·.1) = cs) (hcell : ∀ j x, cs[j]? = some x → w1.cell? ⟨g, j * 2, none⟩ = some (.slice x.A x.b.length x.c) ∧ w1.cell? ⟨g, j * 2 + 1, none⟩ = some (.int .i64 x.n)) (hf : ∀ i, w1.frozen? ⟨g, i, none⟩ = false) : HoldsK (fun x : { x : CE // P x } => x.1.enc) 2 w1 g 0 d := fun j hj => by
  rw [size_flatK] at hj
  rw [Nat.zero_add]
  refine ⟨?_, hf _⟩
  have hj2 : j / 2 < cs.length := by rw [← att_size hd]; omega
  obtain ⟨x, hx⟩ : ∃ x, cs[j / 2]? = some x := ⟨_, List.getElem?_eq_getElem hj2⟩
  obtain ⟨k1, k2⟩ := hcell _ _ hx
  obtain ⟨k3, k4⟩ := att_get hd hx
  rcases Nat.mod_two_eq_zero_or_one j with hm | hm
  · obtain ⟨i, rfl⟩ : ∃ i, j = i * 2 := ⟨j / 2, by omega⟩
    rw [Nat.mul_div_cancel _ (by decide : 0 < 2)] at k1 k3 k4
    rw [k1, flat0 _ k3, k4]
    rfl
  · obtain ⟨i, rfl⟩ : ∃ i, j = i * 2 + 1 := ⟨j / 2, by omega⟩
    rw [show (i * 2 + 1) / 2 = i by omega] at k2 k3 k4
    rw [k2, flat1 _ k3, k4]
    rfl
theorem holds_to (hd : d.toList.map (·.1) = cs) (h : HoldsK (fun x : { x : CE // P x } => x.1.enc) 2 w1 g 0 d) : ∀ j x, cs[j]? = some x → w1.cell? ⟨g, j * 2, none⟩ = some (.slice x.A x.b.length x.c) ∧ w1.cell? ⟨g, j * 2 + 1, none⟩ = some (.int .i64 x.n) := fun j x hj => by
  obtain ⟨k3, k4⟩ := att_get hd hj
  have h0 := (h (j * 2) (by rw [size_flatK]; omega)).1
  have h1 := (h (j * 2 + 1) (by rw [size_flatK]; omega)).1
  rw [Nat.zero_add, flat0 _ k3, k4] at h0
  rw [Nat.zero_add, flat1 _ k3, k4] at h1
  exact ⟨h0, h1⟩
end
theorem Ct.cells' {w w1 : World} {e : TypeId} {Z : Nat → Prop} {cs : List CE} {l : List Cn} {g n c : Nat} (h : Ct w w1 e Z (.slice (some ⟨g, 0, none⟩) n c) cs l) : ∀ j x, cs[j]? = some x → w1.cell? ⟨g, j * 2, none⟩ = some (.slice x.A x.b.length x.c) ∧ w1.cell? ⟨g, j * 2 + 1, none⟩ = some (.int .i64 x.n) := fun j x hj => by
  obtain ⟨hjl, rfl⟩ := List.getElem?_eq_some_iff.1 hj
  exact h.cells hjl
theorem sort_other {α : Type} [Inhabited α] (enc : α → List Value) (w1 : World) (g m : Nat) (dk : Array α) (os : Array Obj) : ∀ k, k < w1.heap.size → k ≠ g → (sortWorldK enc 2 w1 g 0 m dk os).heap[k]? = w1.heap[k]? := fun k hlt hk => by
  show ((w1.heap.modify g (Go.Sort.onCells (Go.Sort.putCells id 0 (flatK enc 2 dk)))) ++ os)[k]? = _
  rw [Array.getElem?_append_left (by simpa using hlt), Array.getElem?_modify, if_neg (fun e => hk e.symm)]
theorem sort_own {α : Type} [Inhabited α] (enc : α → List Value) (w1 : World) (g m : Nat) (dk : Array α) (os : Array Obj) {cells : Array Value} {e : TypeId} (hb : w1.heap[g]? = some (.cells cells e (0, 0))) : ∃ cells', (sortWorldK enc 2 w1 g 0 m dk os).heap[g]? = some (.cells cells' e (0, 0)) ∧ cells'.size = cells.size := by
  have hlt := blk_lt hb
  show ∃ cells', ((w1.heap.modify g (Go.Sort.onCells (Go.Sort.putCells id 0 (flatK enc 2 dk)))) ++ os)[g]? = some (.cells cells' e (0, 0)) ∧ cells'.size = cells.size
  rw [Array.getElem?_append_left (by simpa using hlt), Array.getElem?_modify, if_pos rfl, hb]
  exact ⟨_, rfl, by simp [Go.Sort.putCells]⟩
theorem sort_size {α : Type} [Inhabited α] (enc : α → List Value) (w1 : World) (g m : Nat) (dk : Array α) (os : Array Obj) : w1.heap.size ≤ (sortWorldK enc 2 w1 g 0 m dk os).heap.size := by
  show w1.heap.size ≤ ((w1.heap.modify g (Go.Sort.onCells (Go.Sort.putCells id 0 (flatK enc 2 dk)))) ++ os).size
  simp
theorem sort_row {α : Type} [Inhabited α] (enc : α → List Value) (hk : ∀ x, (enc x).length = 2) (h1 : ∀ x, ∀ v ∈ enc x, v.oneCell' = true) (cf : α → α → Int) (hO : SWO (ltOf cf)) (g cap : Nat) (d : Array α) (w : World) (hcmp : CmpLays Try.prog 35 #[] enc 2 cf g 0 d.size w) (hH : HoldsK enc 2 w g 0 d) (hblk : g < w.heap.size) (hsz : d.size < 4611686018427387904) :
    Calls Try.prog 34 #[.slice (some ⟨g, 0, none⟩) d.size cap, .func (.func 35) #[] #[]] w fun e w' => e = .returned (.tuple #[]) ∧ ∃ d' n os, PermIn 0 d.size d d' ∧ SortedIn (ltOf cf) 0 d.size d' ∧ w' = sortWorldK enc 2 w g 0 n d' os :=
  AnyQ.slices_SortFunc srtLay 2 (fun w => Try.isAgg45 w) (fun w => Try.sizeOf45 w) enc hk h1 cf hO 35 #[] g 0 cap d w (enters_of Try.func35 (by kernel_rfl) rfl) hcmp hH hblk hsz
theorem sort_none (A : Option Addr) (c : Nat) (w : World) : Calls Try.prog 34 #[.slice A 0 c, .func (.func 35) #[] #[]] w fun e w' => e = .returned (.tuple #[]) ∧ w' = w := AnyF.slices_SortFunc_none srtLay A c (.func (.func 35) #[] #[]) w
theorem sort_calls {w w1 : World} {Z : Nat → Prop} {cs : List CE} {l : List Cn} {v : Value} (h : Ct w w1 45 Z v cs l) (hb : ∀ x ∈ cs, Byts x.b) (hl : cs.length ≤ 1000000) :
    Calls Try.prog 34 #[v, .func (.func 35) #[] #[]] w1 fun e w' => e = .returned (.tuple #[]) ∧ ∃ cs', cs'.Perm cs ∧ cs'.Pairwise (fun p q => ltB q.b p.b = false) ∧ Ct w w' 45 Z v cs' (cs'.map CE.pr) := by
  obtain ⟨A, c, rfl⟩ := Kd.R_slice h.row
  rcases Nat.eq_zero_or_pos cs.length with h0 | hp
  · obtain rfl := List.eq_nil_of_length_eq_zero h0
    refine (sort_none A c w1).mono ?_
    rintro e w' ⟨rfl, rfl⟩
    have := h.pr
    exact ⟨rfl, [], List.Perm.refl _, List.Pairwise.nil, by rw [this]; exact h⟩
  obtain ⟨g, c', hv, hg1, hg2, hg3, hg4, cells0, hg5⟩ := h.form hp
  injection hv with hA _ hc'
  subst hA; subst hc'
  have hall : ∀ x ∈ cs, x.Ok w1 Z ∧ Byts x.b := fun x hx => ⟨h.el x hx, hb x hx⟩
  haveI : Inhabited { x : CE // x.Ok w1 Z ∧ Byts x.b } := ⟨⟨⟨none, 0, [], 0⟩, Kd.V_nil _ _ _ _ _, fun z hz => by cases hz⟩⟩
  obtain ⟨d, hd⟩ := ex_attach cs hall
  have hds := att_size hd
  have hH := holds_of hd h.cells' (fun i => blk_frozen hg5 i)
  have hcmp : CmpLays Try.prog 35 #[] (fun x : { x : CE // x.Ok w1 Z ∧ Byts x.b } => x.1.enc) 2 (fun x y => cmpB x.1.b y.1.b) g 0 d.size w1 := fun m os dk hs x y => by
    have hV : ∀ z : { x : CE // x.Ok w1 Z ∧ Byts x.b }, Kd.C (Kd.int .u8) (sortWorldK (fun x : { x : CE // x.Ok w1 Z ∧ Byts x.b } => x.1.enc) 2 w1 g 0 m dk os) z.1.A z.1.b.length z.1.b := fun z => (Kd.V_reads' (Kd.V_step z.2.1 (fun k hk hlt => sort_other _ w1 g m dk os k hlt (fun e => hg3 (e ▸ hk))))).2.2
    exact cmp35 x.1 y.1 (hV x) (hV y) x.2.2 y.2.2
  have hcon := sort_row _ (fun x => rfl) (fun x u hu => kE.K_one (w := w1) (x := x.1) rfl u hu) (fun x y => cmpB x.1.b y.1.b) (by
    have : ltOf (fun x y : { x : CE // x.Ok w1 Z ∧ Byts x.b } => cmpB x.1.b y.1.b) = fun x y => ltB x.1.b y.1.b := by funext x y; exact cmpB_lt _ _
    rw [this]; exact swo_ltB _) g c d w1 hcmp hH hg2 (by omega)
  rw [hds] at hcon
  refine hcon.mono ?_
  rintro e w' ⟨rfl, d', n, os, ⟨hp1, _, hp2⟩, hsrt, rfl⟩
  have hd's : d'.size = cs.length := by rw [hp1, hds]
  obtain ⟨cs', hcs'⟩ : ∃ cs', d'.toList.map (·.1) = cs' := ⟨_, rfl⟩
  have hperm : cs'.Perm cs := by
    rw [Array.extract_eq_self_of_le (by omega), Array.extract_eq_self_of_le (by omega)] at hp2
    rw [← hd, ← hcs']
    exact hp2.map _
  have hH' : HoldsK (fun x : { x : CE // x.Ok w1 Z ∧ Byts x.b } => x.1.enc) 2 (sortWorldK (fun x : { x : CE // x.Ok w1 Z ∧ Byts x.b } => x.1.enc) 2 w1 g 0 n d' os) g 0 d' :=
    holdsK_grow _ _ _ _ _ _ _ (by unfold putRowK; rw [Go.Sort.size_putRow]; exact hg2) (holdsK_putRowK _ _ _ _ _ d d' (holdsK_ahead _ _ _ _ _ _ _ hH) (by omega))
  obtain ⟨cells', hc1, hc2⟩ := sort_own (fun x : { x : CE // x.Ok w1 Z ∧ Byts x.b } => x.1.enc) w1 g n d' os hg5
  refine ⟨rfl, cs', hperm, ?_, h.sorted (sort_size _ _ _ _ _ _) ⟨rfl, rfl, rfl⟩ (sort_other _ _ _ _ _ _) hg5 hc1 hc2 (by rw [← hcs', List.length_map, Array.length_toList, hd's]) (holds_to hcs' hH') (fun x hx => hperm.subset hx)⟩
  rw [List.pairwise_iff_getElem]
  intro i j hi hj hij
  have ei := att_get hcs' (List.getElem?_eq_getElem hi)
  have ej := att_get hcs' (List.getElem?_eq_getElem hj)
  have := hsrt i j (Nat.zero_le _) hij (by omega)
  unfold ltOf at this
  rw [cmpB_lt, ei.2, ej.2] at this
  exact this
end Go.Proofs.Ytmmpppahagknpaa.Wc
