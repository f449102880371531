/- Words for the laws about disks: what a call leaves beside it. -/
import Derived.Test.YtfimeiicidcoiaaLwF
namespace Go.Proofs.Ytfimeiicidcoiaa.Dk
open Go.RowKit Go.Proofs.YtfimeiicidcoiaaW.PrintWords Go.Proofs.YtfimeiicidcoiaaW.PrintLast Go.Proofs.YtfimeiicidcoiaaW.PrintMore
set_option linter.unusedVariables false
set_option linter.unusedSimpArgs false
variable {w0 w w' W W' w1 w2 : World} {B g g2 : Nat} {F F' F2 : Nat → Prop} {D D' : DM} {v : Value} {xs : List Int}
theorem below_trans (h : Below w0.heap.size w0 w1) (h2 : Below w1.heap.size w1 w2) : Below w0.heap.size w0 w2 := Upd.below (F := fun _ => False) ((Upd.of_below (F := fun _ => False) h).trans (Upd.of_below (F := fun _ => False) h2) (fun _ h => h.elim)) (fun _ h => h.elim)
theorem below_upd (h : Below w0.heap.size w0 w1) (h2 : Upd w1 w2 F) (hlo : ∀ k, F k → w0.heap.size ≤ k) : Below w0.heap.size w0 w2 := Upd.below (F := fun k => w0.heap.size ≤ k) ((Upd.of_below (F := fun k => w0.heap.size ≤ k) h).trans h2 (fun k hk => .inl (hlo k hk))) (fun k hk => hk)
theorem Row.post (h : Row w F v xs) (hF : ∀ k, F' k → F k ∨ w.heap.size ≤ k) (hu : Upd w w' F) : Row w' F' v xs := by
  obtain ⟨G, h1, h2⟩ := h.row
  exact ⟨G, Kd.R_kept h1 hu.kept (fun k hk => (h2 k hk).2), fun k hk => ⟨Nat.lt_of_lt_of_le (h2 k hk).1 hu.size, fun hf => by
    rcases hF k hf with hf | hf
    · exact (h2 k hk).2 hf
    · have := (h2 k hk).1
      omega⟩⟩
/-- A disk of the law's own (its blocks are younger than w0), and that all older blocks are as they were. -/
structure St (w0 w : World) (g : Nat) (F : Nat → Prop) (D : DM) : Prop where
  d : DiskAt w w0.heap.size g F D
  b : Below w0.heap.size w0 w
theorem St.call (h : St w0 w g F D) (hp : DPost w w' w0.heap.size g F D') : ∃ F', St w0 w' g F' D' ∧ ∀ v xs, Row w F v xs → Row w' F' v xs := by
  obtain ⟨F', hF, hd, hu⟩ := hp
  exact ⟨F', ⟨hd, below_upd h.b hu h.d.lo⟩, fun v xs hr => hr.post hF hu⟩
theorem St.below (h : St w0 w g F D) (hb : Below w.heap.size w w') : St w0 w' g F D := ⟨h.d.frame (Upd.of_below (F := fun _ => False) hb) (fun _ _ _ h => h), below_trans h.b hb⟩
theorem Row.below (h : Row w F v xs) (hb : Below w.heap.size w w') : Row w' F v xs := h.same (Upd.of_below hb)
/-- The calls, on such a disk. -/
theorem sUp (h : St w0 w g F D) : Calls Try.prog 10 #[.pointer (some ⟨g, 0, none⟩)] w fun e w' => e = .returned (.bool (!D.down)) ∧ w = w' := UpD h.d
theorem sStrokes (h : St w0 w g F D) : Calls Try.prog 26 #[.pointer (some ⟨g, 0, none⟩)] w fun e w' => e = .returned (.int .i64 D.strokes) ∧ w = w' := StrokesD h.d
theorem sHeld (h : St w0 w g F D) : Calls Try.prog 17 #[.pointer (some ⟨g, 0, none⟩)] w fun e w' => e = .returned (.int .i64 (D.held.length : Int)) ∧ w = w' := by
  obtain ⟨⟨_, _, _, h⟩, _⟩ := h
  exact Held_calls h
theorem sSize (h : St w0 w g F D) : Calls Try.prog 21 #[.pointer (some ⟨g, 0, none⟩)] w fun e w' => e = .returned (.int .i64 (D.sec.length : Int)) ∧ w = w' := by
  obtain ⟨⟨_, _, _, h⟩, _⟩ := h
  exact Size_calls h
def SPost (w0 w w' : World) (g : Nat) (F : Nat → Prop) (D' : DM) : Prop := ∃ F', St w0 w' g F' D' ∧ ∀ v xs, Row w F v xs → Row w' F' v xs
theorem sStart (h : St w0 w g F D) : Calls Try.prog 12 #[.pointer (some ⟨g, 0, none⟩)] w fun e w' => e = .returned (.tuple #[]) ∧ SPost w0 w w' g F (startM D) := (dStart h.d).mono fun e w' ⟨he, hp⟩ => ⟨he, h.call hp⟩
theorem sFlush (h : St w0 w g F D) (hok : DOk D) : Calls Try.prog 13 #[.pointer (some ⟨g, 0, none⟩)] w fun e w' => e = .returned (.int .i64 (flushM D).2) ∧ SPost w0 w w' g F (flushM D).1 := (dFlush h.d hok).mono fun e w' ⟨he, hp⟩ => ⟨he, h.call hp⟩
theorem sLose (h : St w0 w g F D) (hok : DOk D) (A : Option Addr) (c : Nat) (l : List Bool) (hc : l.length ≤ c) (hC : ∀ W, Below w0.heap.size w0 W → Kd.C Kd.bool W A l.length l) :
    Calls Try.prog 15 #[.pointer (some ⟨g, 0, none⟩), .slice A l.length c] w fun e w' => e = .returned (.tuple #[]) ∧ SPost w0 w w' g F (loseM l D) :=
  (dLose h.d hok A c l hc (fun W hW => hC W (below_upd h.b hW h.d.lo))).mono fun e w' ⟨he, hp⟩ => ⟨he, h.call hp⟩
theorem sBytes (h : St w0 w g F D) (hok : DOk D) : Calls Try.prog 14 #[.pointer (some ⟨g, 0, none⟩)] w fun e w' => ∃ A c, e = .returned (.slice A (bytesM D).length c) ∧ Row w' F (.slice A (bytesM D).length c) (bytesM D) ∧ Below w.heap.size w w' := by
  have hl := h.d.lt
  obtain ⟨⟨_, _, _, h⟩, _⟩ := h
  refine (Bytes_calls h hok).mono ?_
  rintro e w' ⟨v, rfl, hr, hb⟩
  obtain ⟨A, c, rfl⟩ := Kd.R_slice hr
  exact ⟨A, c, rfl, Row.new hr hl, hb⟩
theorem Row.C {A : Option Addr} {c : Nat} (h : Row w F (.slice A xs.length c) xs) : Kd.C (Kd.int .u8) w A xs.length xs := by
  obtain ⟨G, h1, _⟩ := h.row
  exact (Kd.R_reads' h1).2.2
theorem sMade (A : Option Addr) (c : Nat) (x : List Int) (n : Int) (A2 : Option Addr) (c2 : Nat) (l : List OpM) (hxc : x.length ≤ c) (hC : Kd.C (Kd.int .u8) w A x.length x) (hO : Ops w A2 l) (hl : l.length ≤ 140737488351232) :
    Calls Try.prog 9 #[.slice A x.length c, .int .i64 n, .slice A2 l.length c2] w fun e w' => (e = .returned (.pointer none) ∧ Below w.heap.size w w') ∨ ∃ g F D, e = .returned (.pointer (some ⟨g, 0, none⟩)) ∧ St w w' g F D ∧ DOk D ∧ D.held.length ≤ 3000 ∧ 1 ≤ D.sec.length ∧ D.sec.length ≤ 100 :=
  (made_calls A c x n A2 c2 l hxc hC hO hl).mono fun e w' ⟨hb, h⟩ => h.imp (fun h => ⟨h, hb⟩) (fun ⟨g, F, D, he, hd, h⟩ => ⟨g, F, D, he, ⟨hd, hb⟩, h⟩)
/-- What the law is called with. -/
structure Args (w : World) (A : Option Addr) (c : Nat) (x : List Int) (A2 : Option Addr) (l : List OpM) : Prop where
  xc : x.length ≤ c
  C : Kd.C (Kd.int .u8) w A x.length x
  O : Ops w A2 l
  l : l.length ≤ 140737488351232
def Tru (w w' : World) (e : Ending) : Prop := e = .returned (.bool true) ∧ Below w.heap.size w w'
theorem sKnown (h : Below w0.heap.size w0 w) : Calls Try.prog 11 #[] w fun e w' => e = .returned (.bool true) ∧ Below w0.heap.size w0 w' := known_calls.mono fun e w' ⟨he, hb⟩ => ⟨he, below_trans h hb⟩
end Go.Proofs.Ytfimeiicidcoiaa.Dk
