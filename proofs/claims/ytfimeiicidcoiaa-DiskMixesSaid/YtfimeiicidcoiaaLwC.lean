/- The law's plays: an operation on both disks. -/
import Derived.Test.YtfimeiicidcoiaaLwB
namespace Go.Proofs.Ytfimeiicidcoiaa.Dk
open Go.RowKit Go.Proofs.YtfimeiicidcoiaaW.PrintWords Go.Proofs.YtfimeiicidcoiaaW.PrintLast Go.Proofs.YtfimeiicidcoiaaW.PrintMore
set_option linter.unusedVariables false
set_option linter.unusedSimpArgs false
variable {w W W' : World} {B g g2 : Nat} {F F2 : Nat → Prop} {D : DM} {R : RM}
def playM (D : DM) (o : OpM) : DM :=
  if o.kind = 1 then (writeM D o.at_ o.b).1 else if o.kind = 2 then (flushM D).1 else if o.kind = 3 then (setM D o.n o.ch).1 else if o.kind = 4 then loseM o.ch D else if o.kind = 5 then startM D else if o.kind = 8 then (saveM D o.at_ o.b).1 else D
/-- Two disks beside each other. -/
structure Two (w : World) (B g : Nat) (F : Nat → Prop) (D : DM) (g2 : Nat) (F2 : Nat → Prop) (R : RM) : Prop where
  d : DiskAt w B g F D
  r : RefAt w B g2 F2 R
  ap : ∀ k, F k → ¬ F2 k
def PlayPost (w w' : World) (B g : Nat) (F : Nat → Prop) (D' : DM) (g2 : Nat) (F2 : Nat → Prop) (R : RM) (n : Nat) : Prop :=
  ∃ F' F2' R', (∀ k, F' k → F k ∨ w.heap.size ≤ k) ∧ (∀ k, F2' k → F2 k ∨ w.heap.size ≤ k) ∧ Two w' B g F' D' g2 F2' R' ∧ ROk R' ∧ R'.wait.length ≤ R.wait.length + n ∧ Upd w w' (fun k => F k ∨ F2 k)
def Bl (e : Ending) : Prop := ∃ b, e = .returned (.bool b)
def opV (o : OpM) (ab : Option Addr) (cb : Nat) (ac : Option Addr) (cc : Nat) : Array Value := #[.int .i64 o.kind, .int .i64 o.at_, .int .i64 o.n, .slice ab o.b.length cb, .slice ac o.ch.length cc]
theorem RefAt.lo (h : RefAt w B g F R) : ∀ k, F k → B ≤ k ∧ k < w.heap.size := by
  obtain ⟨_, _, _, h⟩ := h
  exact h.lt
theorem RefAt.frame {G : Nat → Prop} (h : RefAt w B g F R) (hu : Upd w W G) (hd : ∀ k, F k → ¬ G k) (hG : ∀ k, G k → B ≤ k) : RefAt W B g F R := by
  obtain ⟨_, _, _, h⟩ := h
  exact ⟨_, _, _, h.frame hu hd hG⟩
/-- The disk was worked on. -/
theorem Two.onD {F' : Nat → Prop} {D' : DM} (h : Two w B g F D g2 F2 R) (hd : DiskAt W B g F' D') (hF : ∀ k, F' k → F k ∨ w.heap.size ≤ k) (hu : Upd w W F) : Two W B g F' D' g2 F2 R := by
  refine ⟨hd, h.r.frame hu (fun k h2 h1 => h.ap k h1 h2) h.d.lo, fun k h1 h2 => ?_⟩
  rcases hF k h1 with h1 | h1
  · exact h.ap k h1 h2
  · have := (h.r.lo k h2).2
    omega
/-- The reference was worked on. -/
theorem Two.onR {F' : Nat → Prop} {R' : RM} (h : Two w B g F D g2 F2 R) (hr : RefAt W B g2 F' R') (hF : ∀ k, F' k → F2 k ∨ w.heap.size ≤ k) (hu : Upd w W F2) : Two W B g F D g2 F' R' := by
  refine ⟨h.d.frame hu (fun k _ h1 h2 => h.ap k h1 h2), hr, fun k h1 h2 => ?_⟩
  rcases hF k h2 with h2 | h2
  · exact h.ap k h1 h2
  · have := h.d.lt k h1
    omega
theorem Two.below (h : Two w B g F D g2 F2 R) (hb : Below w.heap.size w W) : Two W B g F D g2 F2 R :=
  ⟨h.d.frame (Upd.of_below (F := fun _ => False) hb) (fun _ _ _ h => h), h.r.frame (Upd.of_below (F := fun _ => False) hb) (fun _ _ h => h) (fun _ h => h.elim), h.ap⟩
end Go.Proofs.Ytfimeiicidcoiaa.Dk
