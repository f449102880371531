/- The laws' small functions: SameBytes, Among, long. Operations in memory. -/
import Derived.Test.YtfimeiicidcoiaaReK
namespace Go.Proofs.Ytfimeiicidcoiaa.Dk
open Go.RowKit Go.Proofs.YtfimeiicidcoiaaW.PrintWords Go.Proofs.YtfimeiicidcoiaaW.PrintLast Go.Proofs.YtfimeiicidcoiaaW.PrintMore
set_option linter.unusedVariables false
set_option linter.unusedSimpArgs false
variable {w W W' : World}
def sameM (x y : List Int) : Bool := (strOfNums x).toList == (strOfNums y).toList
theorem sameM_refl (x : List Int) : sameM x x = true := by simp [sameM]
theorem Same_calls (A : Option Addr) (c : Nat) (x : List Int) (A2 : Option Addr) (c2 : Nat) (y : List Int) (hx : Kd.C (Kd.int .u8) w A x.length x) (hy : Kd.C (Kd.int .u8) w A2 y.length y) :
    Calls Try.prog 16 #[.slice A x.length c, .slice A2 y.length c2] w fun e w' => e = .returned (.bool (sameM x y)) ∧ w = w' := by
  have h1 := Kd.C_string (P := Try.prog) (A := A) (c := c) Try.underlying22 Try.underlying5 Try.underlying9 hx
  have h2 := Kd.C_string (P := Try.prog) (A := A2) (c := c2) Try.underlying22 Try.underlying5 Try.underlying9 hy
  clear hx hy
  go_enter Try.func16, Try.ntmps16
  go_wp2
  go_ret
  exact ⟨by first | rfl | simp [sameM], rfl⟩
theorem tmod_lt (k n : Int) (hn : 0 < n) : -n < k.tmod n ∧ k.tmod n < n := by
  constructor
  · have := Int.lt_tmod_of_pos k hn
    omega
  · exact Int.tmod_lt_of_pos k hn
def amongM (k n : Int) : Int := if k.tmod n < 0 then k.tmod n + n else k.tmod n
theorem amongM_lt (k n : Int) (hn : 0 < n) : 0 ≤ amongM k n ∧ amongM k n < n := by
  obtain ⟨h1, h2⟩ := tmod_lt k n hn
  unfold amongM
  split <;> omega
theorem Among_calls (k n : Int) (h1 : 1 ≤ n) (h2 : n ≤ 1000000) : Calls Try.prog 20 #[.int .i64 k, .int .i64 n] w fun e w' => e = .returned (.int .i64 (amongM k n)) ∧ w = w' := by
  obtain ⟨t1, t2⟩ := tmod_lt k n (by omega)
  by_cases ht : k.tmod n < 0
  · have hq := Lib.hid (show amongM k n = k.tmod n + n by simp [amongM, ht])
    go_enter Try.func20, Try.ntmps20
    go_wp2
    go_ret
    exact ⟨by rw [hq.out] <;> rfl, rfl⟩
  · have hq := Lib.hid (show amongM k n = k.tmod n by simp [amongM, ht])
    go_enter Try.func20, Try.ntmps20
    go_wp2
    go_ret
    exact ⟨by rw [hq.out] <;> rfl, rfl⟩
/-- An operation. -/
structure OpM where
  kind : Int
  at_ : Int
  n : Int
  b : List Int
  ch : List Bool
/-- An operation's five cells; its bytes and its choice can be read. -/
def OpIs (w : World) (o : OpM) (cs : List Value) : Prop :=
  ∃ ab cb ac cc, cs = [.int .i64 o.kind, .int .i64 o.at_, .int .i64 o.n, .slice ab o.b.length cb, .slice ac o.ch.length cc] ∧ o.b.length ≤ cb ∧ o.ch.length ≤ cc ∧ Kd.C (Kd.int .u8) w ab o.b.length o.b ∧ Kd.C Kd.bool w ac o.ch.length o.ch ∧ o.b.length ≤ 140737488351232 ∧ o.ch.length ≤ 140737488351232 ∧ -9223372036854775808 ≤ o.at_ ∧ o.at_ ≤ 9223372036854775807 ∧ -9223372036854775808 ≤ o.n ∧ o.n ≤ 9223372036854775807
theorem OpIs.below {o : OpM} {cs : List Value} (h : OpIs w o cs) (hb : Below w.heap.size w W) : OpIs W o cs := by
  obtain ⟨ab, cb, ac, cc, h1, h2, h3, h4, h5, h6⟩ := h
  exact ⟨ab, cb, ac, cc, h1, h2, h3, Kd.C_below h4 hb, Kd.C_below h5 hb, h6⟩
/-- A row of operations. -/
def Ops (w : World) (A : Option Addr) (l : List OpM) : Prop := ReadsRow (OpIs w) 5 w A l.length l
theorem Ops.below {A : Option Addr} {l : List OpM} (h : Ops w A l) (hb : Below w.heap.size w W) : Ops W A l := ReadsRow.imp_ h hb (fun _ _ hp => OpIs.below hp hb)
theorem add5 (ad : Addr) (i j : Nat) (hj : 0 < j) : ad.add (i * 5 + j) = ⟨(ad.add (i * 5)).block, (ad.add (i * 5)).off + j, none⟩ := by
  rw [← Addr.add_add]
  unfold Addr.add
  rw [if_neg (by omega)]
theorem Ops.get {A : Option Addr} {l : List OpM} (h : Ops w A l) (i : Nat) (hi : i < l.length) : ∃ ad ab cb ac cc o, A = some ad ∧ l[i]? = some o ∧
    w.cell? (ad.add (i * 5)) = some (.int .i64 o.kind) ∧ w.cell? ⟨(ad.add (i * 5)).block, (ad.add (i * 5)).off + 1, none⟩ = some (.int .i64 o.at_) ∧ w.cell? ⟨(ad.add (i * 5)).block, (ad.add (i * 5)).off + 2, none⟩ = some (.int .i64 o.n) ∧
    w.cell? ⟨(ad.add (i * 5)).block, (ad.add (i * 5)).off + 3, none⟩ = some (.slice ab o.b.length cb) ∧ w.cell? ⟨(ad.add (i * 5)).block, (ad.add (i * 5)).off + 4, none⟩ = some (.slice ac o.ch.length cc) ∧ OpIs w o [.int .i64 o.kind, .int .i64 o.at_, .int .i64 o.n, .slice ab o.b.length cb, .slice ac o.ch.length cc] := by
  obtain ⟨ad, rfl, hc⟩ := h.2.2 (by omega)
  obtain ⟨cs, hl, hR, hx⟩ := hc i _ (List.getElem?_eq_getElem hi)
  have hR' := hR
  obtain ⟨ab, cb, ac, cc, rfl, h1⟩ := hR
  refine ⟨ad, ab, cb, ac, cc, l[i], rfl, List.getElem?_eq_getElem hi, hx 0 _ rfl, ?_, ?_, ?_, ?_, hR'⟩
  · rw [← add5 ad i 1 (by decide)]; exact hx 1 _ rfl
  · rw [← add5 ad i 2 (by decide)]; exact hx 2 _ rfl
  · rw [← add5 ad i 3 (by decide)]; exact hx 3 _ rfl
  · rw [← add5 ad i 4 (by decide)]; exact hx 4 _ rfl
end Go.Proofs.Ytfimeiicidcoiaa.Dk
