/- StorePlays: the texts L8B L8C PlU ShS PlV PlW RsE L8E L8D SyA LwR LwZ LwQ LawStorePlays. -/
import Derived.Test.YtmblnflfklmmkaaGreatDoorPStorePlays2
import Derived.Test.YtmblnflfklmmkaaGreatDoorPStorePlays5
import Derived.Test.YtmblnflfklmmkaaGreatDoorPStorePlays4
import Derived.Deep.Slices
import Derived.Deep.Grids
import Derived.Test.YtmblnflfklmmkaaGreatDoorRows
import Derived.Test.YtmblnflfklmmkaaGreatDoorCards
import Derived.Test.YtmblnflfklmmkaaGreatDoorTie
import Derived.Test.YtmblnflfklmmkaaGreatDoorPStorePlays1
import Derived.WalkKit
import Derived.ProofKit
import Derived.OpenShut
import Derived.ShutString
import Derived.ChangeOld
import Derived.Below
import Derived.SizedLaws
import Derived.SevenTiedAt
import Derived.LaidMore
import Derived.Stop.Joined
/- The law's plays. -/
namespace Go.Proofs.YtmblnflfklmmkaaGreatDoor.Sh
open Go.Proofs.YtmblnflfklmmkaaGreatDoor.Dk
open Go.RowKit Go.Proofs.YtmblnflfklmmkaaGreatDoorW.PrintWords Go.Proofs.YtmblnflfklmmkaaGreatDoorW.PrintLast Go.Proofs.YtmblnflfklmmkaaGreatDoorW.PrintMore
set_option linter.unusedVariables false
set_option linter.unusedSimpArgs false
set_option maxRecDepth 30000
variable {w0 w w' W w1 w2 w3 : World} {s g t g2 : Nat} {F F2 : Nat → Prop} {D D' : DM} {R R' : RM} {fr n : Int}
/-- A store on a disk, and the document's store on the document's, beside each other; all is younger than w0. -/
structure Tri (w0 w : World) (s g : Nat) (F : Nat → Prop) (D : DM) (fr n : Int) (t g2 : Nat) (F2 : Nat → Prop) (R : RM) : Prop where
  S : SAt w w0.heap.size s g F D fr n
  T : TAt w w0.heap.size t g2 F2 R fr n
  ap : ∀ k, F k → ¬ F2 k
  sF : ¬ F2 s
  tF : ¬ F t
  G : Glob w0
  b : Below w0.heap.size w0 w
theorem Tri.glob (h : Tri w0 w s g F D fr n t g2 F2 R) : Glob w := h.G.below h.b
theorem Tri.notF (h : Tri w0 w s g F D fr n t g2 F2 R) : ¬ F 0 ∧ ¬ F 1 :=
  ⟨fun hf => by have := h.S.d.lo _ hf; have := h.G.lt; omega, fun hf => by have := h.S.d.lo _ hf; have := h.G.lt; omega⟩
theorem Tri.below (h : Tri w0 w s g F D fr n t g2 F2 R) (hb : Below w.heap.size w w1) : Tri w0 w1 s g F D fr n t g2 F2 R := ⟨h.S.below hb, h.T.below hb, h.ap, h.sF, h.tF, h.G, below_trans h.b hb⟩
theorem Tri.hi (h : Tri w0 w s g F D fr n t g2 F2 R) : (∀ k, F k → k < w.heap.size) ∧ (∀ k, F2 k → k < w.heap.size) := ⟨fun k hk => h.S.d.lt k hk, fun k hk => (h.T.r.lo k hk).2⟩
theorem TAt.upd {G : Nat → Prop} (h : TAt w w0.heap.size t g2 F2 R fr n) (hu : Upd w w1 G) (hd : ∀ k, F2 k → ¬ G k) (hG : ∀ k, G k → w0.heap.size ≤ k) (ht : ¬ G t) : TAt w1 w0.heap.size t g2 F2 R fr n := ⟨(hu.block t (blk_lt h.blk) ht).trans h.blk, h.r.frame hu hd hG, h.nF⟩
theorem SAt.upd {G : Nat → Prop} (h : SAt w w0.heap.size s g F D fr n) (hu : Upd w w1 G) (hd : ∀ k, F k → ¬ G k) (hs : ¬ G s) : SAt w1 w0.heap.size s g F D fr n := ⟨(hu.block s (blk_lt h.blk) hs).trans h.blk, h.d.frame hu (fun k _ => hd k), h.nF⟩
theorem Tri.onS (h : Tri w0 w s g F D fr n t g2 F2 R) (hp : SPo w w1 w0.heap.size s g F D' fr n) : ∃ F', (∀ k, F' k → F k ∨ w.heap.size ≤ k) ∧ Tri w0 w1 s g F' D' fr n t g2 F2 R ∧ Upd w w1 F := by
  obtain ⟨F', hF, hs, hu⟩ := hp
  refine ⟨F', hF, ⟨hs, h.T.upd hu (fun k h2 h1 => h.ap k h1 h2) (fun k hk => h.S.d.lo k hk) h.tF, fun k h1 h2 => ?_, h.sF, fun h1 => ?_, h.G, below_upd h.b hu (fun k hk => h.S.d.lo k hk)⟩, hu⟩
  · rcases hF k h1 with h1 | h1
    · exact h.ap k h1 h2
    · have := h.hi.2 k h2
      omega
  · rcases hF t h1 with h1 | h1
    · exact h.tF h1
    · have := blk_lt h.T.blk
      omega
theorem Tri.onT {m : Nat} (h : Tri w0 w s g F D fr n t g2 F2 R) (hp : TPo w w1 w0.heap.size t g2 F2 R R' fr n m) : ∃ F', (∀ k, F' k → F2 k ∨ w.heap.size ≤ k) ∧ Tri w0 w1 s g F D fr n t g2 F' R' ∧ TOk R' fr n ∧ R'.wait.length ≤ R.wait.length + m ∧ Upd w w1 F2 := by
  obtain ⟨F', hF, ht, hk, hw, hu⟩ := hp
  refine ⟨F', hF, ⟨h.S.upd hu (fun k h1 h2 => h.ap k h1 h2) h.sF, ht, fun k h1 h2 => ?_, fun h1 => ?_, h.tF, h.G, below_upd h.b hu (fun k hk => (h.T.r.lo k hk).1)⟩, hk, hw, hu⟩
  · rcases hF k h2 with h2 | h2
    · exact h.ap k h1 h2
    · have := h.hi.1 k h1
      omega
  · rcases hF s h1 with h1 | h1
    · exact h.sF h1
    · have := blk_lt h.S.blk
      omega
theorem TAt.po {m : Nat} (h : TAt w w0.heap.size t g2 F2 R fr n) (hk : TOk R fr n) (hp : RefTo w w1 w0.heap.size g2 F2 R m R') : TPo w w1 w0.heap.size t g2 F2 R R' fr n m := by
  obtain ⟨F', hF, hr, ho, hw, hl, hu⟩ := hp
  refine ⟨F', hF, ⟨(hu.block t (blk_lt h.blk) h.nF).trans h.blk, hr, fun hs => ?_⟩, hk.dm ho hl, hw, hu⟩
  rcases hF t hs with h1 | h1
  · exact h.nF h1
  · have := blk_lt h.blk
    omega
/-- An operation on both: the disks behind it, and what is told. -/
def play8 (fr n : Int) (D : DM) (R : RM) (o : OpM) : DM × RM × Bool :=
  if o.kind = 1 then ((putM D fr n o.b).1, (rputM R fr n o.b).1, (putM D fr n o.b).2 == (rputM R fr n o.b).2)
  else if o.kind = 2 then ((setM D o.n o.ch).1, rsetM R o.n o.ch, (setM D o.n o.ch).2 == rsetE o.n o.ch)
  else if o.kind = 3 then (loseM o.ch D, rloseM o.ch R, true)
  else if o.kind = 4 then (startM D, rstartM R, true)
  else if o.kind = 5 then (if (writeM D o.at_ o.b).2 = (rwriteM R o.at_ o.b).2 then ((flushM (writeM D o.at_ o.b).1).1, (rflushM (rwriteM R o.at_ o.b).1).1, (flushM (writeM D o.at_ o.b).1).2 == (rflushM (rwriteM R o.at_ o.b).1).2) else ((writeM D o.at_ o.b).1, (rwriteM R o.at_ o.b).1, false))
  else (D, R, true)
/-- What plays leaves. -/
def P8Po (w0 w w' : World) (s g : Nat) (F : Nat → Prop) (fr n : Int) (t g2 : Nat) (F2 : Nat → Prop) (R : RM) (p : DM × RM × Bool) (m : Nat) (e : Ending) : Prop :=
  e = .returned (.bool p.2.2) ∧ ∃ F' F2', (∀ k, F' k → F k ∨ w.heap.size ≤ k) ∧ (∀ k, F2' k → F2 k ∨ w.heap.size ≤ k) ∧ Tri w0 w' s g F' p.1 fr n t g2 F2' p.2.1 ∧ TOk p.2.1 fr n ∧ p.2.1.wait.length ≤ R.wait.length + m ∧ Upd w w' (fun k => F k ∨ F2 k)
theorem P8Po.of {wa : World} {m : Nat} {p : DM × RM × Bool} {F' F2' : Nat → Prop} (hb : Below w.heap.size w wa) (h1 : ∀ k, F' k → F k ∨ wa.heap.size ≤ k) (h2 : ∀ k, F2' k → F2 k ∨ wa.heap.size ≤ k) (h3 : Tri w0 w' s g F' p.1 fr n t g2 F2' p.2.1) (h4 : TOk p.2.1 fr n) (h5 : p.2.1.wait.length ≤ R.wait.length + m) (hu : Upd wa w' (fun k => F k ∨ F2 k)) : P8Po w0 w w' s g F fr n t g2 F2 R p m (.returned (.bool p.2.2)) :=
  ⟨rfl, F', F2', fun k hk => (h1 k hk).imp id (fun h => Nat.le_trans hb.size h), fun k hk => (h2 k hk).imp id (fun h => Nat.le_trans hb.size h), h3, h4, h5, (Upd.of_below hb).trans hu (fun _ h => .inl h)⟩
theorem upd_or (h1 : Upd w w1 F) (h2 : Upd w1 w2 F2) : Upd w w2 (fun k => F k ∨ F2 k) := (h1.mono (fun _ h => .inl h)).trans (h2.mono (fun _ h => .inr h)) (fun _ h => .inl h)
theorem upd_four {F' F2' : Nat → Prop} {w4 : World} (h1 : Upd w w1 F) (h2 : Upd w1 w2 F2) (h3 : Upd w2 w3 F') (h4 : Upd w3 w4 F2') (hF : ∀ k, F' k → F k ∨ w.heap.size ≤ k) (hF2 : ∀ k, F2' k → F2 k ∨ w1.heap.size ≤ k) : Upd w w4 (fun k => F k ∨ F2 k) := by
  have a := upd_or h1 h2
  have b : Upd w w3 (fun k => F k ∨ F2 k) := a.trans h3 (fun k hk => (hF k hk).imp .inl id)
  exact b.trans h4 (fun k hk => (hF2 k hk).imp .inr (fun h => Nat.le_trans h1.size h))

set_option maxHeartbeats 16000000 in
theorem plays8_calls (hT : Tri w0 w s g F D fr n t g2 F2 R) (hK : SOk D fr n) (hKR : TOk R fr n) (hDn : D.held.length ≤ 3000000) (hRn : R.wait.length ≤ 3000000) (kd at_ nn : Int) (x : List Int) (ch : List Bool) (ab ac : Option Addr) (cb cc : Nat) (hx : x.length ≤ 3000)
    (hO : ∀ W, Upd w W (fun k => w0.heap.size ≤ k) → OpIs W ⟨kd, at_, nn, x, ch⟩ [.int .i64 kd, .int .i64 at_, .int .i64 nn, .slice ab x.length cb, .slice ac ch.length cc]) :
    Calls Tryz.prog 12 #[.pointer (some ⟨s, 0, none⟩), .pointer (some ⟨g, 0, none⟩), .pointer (some ⟨t, 0, none⟩), .agg #[.int .i64 kd, .int .i64 at_, .int .i64 nn, .slice ab x.length cb, .slice ac ch.length cc]] w fun e w' => P8Po w0 w w' s g F fr n t g2 F2 R (play8 fr n D R ⟨kd, at_, nn, x, ch⟩) (3 * (x.length + 64)) e := by
  have HT := Aside0.mk hT
  have HK := Aside0.mk hK
  have HKR := Aside0.mk hKR
  have HO := Aside0.mk hO
  have HDn := Aside0.mk hDn
  have HRn := Aside0.mk (show R.wait.length ≤ 5000000 by omega)
  have HX := Aside0.mk hx
  have HC := Aside0.mk (OpIs.C (o := ⟨kd, at_, nn, x, ch⟩) (hO w (Upd.refl _ _)))
  clear hT hK hKR hO hDn hRn hx
  by_cases h1 : kd = 1
  · subst h1
    have hbk := heap_alloc_new w (.cells #[.int .i64 1, .int .i64 at_, .int .i64 nn, .slice ab x.length cb, .slice ac ch.length cc] 37)
    have hba := below_alloc (Below.refl w.heap.size w) (.cells #[.int .i64 1, .int .i64 at_, .int .i64 nn, .slice ab x.length cb, .slice ac ch.length cc] 37)
    have HTa := Aside0.mk (HT.out.below hba)
    have HBA := Aside0.mk hba
    have HBK := Aside0.mk hbk
    have HOA := Aside0.mk (fun W (hW : Upd (w.alloc (.cells #[.int .i64 1, .int .i64 at_, .int .i64 nn, .slice ab x.length cb, .slice ac ch.length cc] 37)) W (fun k => w0.heap.size ≤ k)) => OpIs.C (o := ⟨1, at_, nn, x, ch⟩) (HO.out W ((Upd.of_below (F := fun k => w0.heap.size ≤ k) hba).trans hW (fun _ h => .inl h))))
    clear hba hbk
    have hbd := below_drew HBA.out
    have HTD := Aside0.mk (HTa.out.below (below_drew (Below.refl _ _)))
    have HBKD := Aside0.mk (show (w.alloc (.cells #[.int .i64 1, .int .i64 at_, .int .i64 nn, .slice ab x.length cb, .slice ac ch.length cc] 37)).drew.heap[w.heap.size]? = some (.cells #[.int .i64 1, .int .i64 at_, .int .i64 nn, .slice ab x.length cb, .slice ac ch.length cc] 37 (0, 0)) from HBK.out)
    have HBAD := Aside0.mk hbd
    have HNS := Aside0.mk (show ¬ F w.heap.size from fun hk => by have := HT.out.hi.1 _ hk; omega)
    have HNT := Aside0.mk (show ¬ F2 w.heap.size from fun hk => by have := HT.out.hi.2 _ hk; omega)
    have HPS := Aside0.mk (Put_calls HTD.out.glob HTD.out.notF HTD.out.S HK.out (by have := HDn.out; omega) ab cb x (by have := HX.out; omega) HC.out.1 (fun W hW => (HOA.out W ((Upd.of_below (F := fun k => w0.heap.size ≤ k) (below_drew (Below.refl _ _))).trans hW (fun k hk => .inl (HTD.out.S.d.lo k hk)))).2.2.1))
    have HPR := Aside0.mk (show ∀ w2, Upd (w.alloc (.cells #[.int .i64 1, .int .i64 at_, .int .i64 nn, .slice ab x.length cb, .slice ac ch.length cc] 37)).drew w2 F → TAt w2 w0.heap.size t g2 F2 R fr n → Calls Tryz.prog 28 #[.pointer (some ⟨t, 0, none⟩), .slice ab x.length cb] w2 fun e w' => e = .returned (.int .i64 (rputM R fr n x).2) ∧ TPo w2 w' w0.heap.size t g2 F2 R (rputM R fr n x).1 fr n (3 * (x.length + 64)) from fun w2 hu2 hT => rPut_calls hT HKR.out (Nat.le_trans HTD.out.b.size hu2.size) HRn.out ab cb x (by have := HX.out; omega) HC.out.1 (fun W hW => (HOA.out W (((Upd.of_below (F := fun k => w0.heap.size ≤ k) (below_drew (Below.refl _ _))).trans hu2 (fun k hk => .inl (HTD.out.S.d.lo k hk))).trans hW (fun k hk => .inl (hT.r.lo k hk).1))).2.2.1))
    clear hbd
    have hq := Lib.hid (show play8 fr n D R ⟨1, at_, nn, x, ch⟩ = ((putM D fr n x).1, (rputM R fr n x).1, (putM D fr n x).2 == (rputM R fr n x).2) from if_pos rfl)
    rw [hq.out]
    go_enter Tryz.func12, Tryz.ntmps12
    go_wp2_with (fail)
    refine start_ (n := 10) (S := fun w' => w'.cell? ⟨w.heap.size, 3, none⟩ = some (.slice ab x.length cb)) (ds := []) (bz 10 0) (by kernel_rfl) rfl rfl (cellB HBKD.out 3 _ rfl) (fun hHeld => ?_)
    refine pz 0 (some 13) (bz 10 1) ?_
    refine pz 1 (some 14) (bz 10 3) ?_
    refine pz 4 (some 17) (bz 10 19) ?_
    refine pz 5 (some 18) (bz 10 51) ?_
    refine tz1 2 (some 15) (bz 10 55) hHeld ?_
    refine tz1 6 (some 19) (bz 10 119) hHeld ?_
    refine one_ (i := 3) (N := some 16) (bz 10 127) rfl rfl (by kernel_rfl) (by decide) (fun K hK => ?_)
    refine goes_ Tryz.func22 (by kernel_rfl) rfl #[.pointer (some ⟨s, 0, none⟩), .slice ab x.length cb] (by rfl) rfl rfl (by simp only [List.map_toArray, List.map_cons, List.map_nil]; rfl) ?_
    with_reducible refine (HPS.out).mono ?_
    rintro e w2 ⟨rfl, hp⟩
    refine ⟨_, rfl, ?_⟩
    obtain ⟨F2a, hF2a, hT2, hu2⟩ := HTD.out.onS hp
    have HT2 := Aside0.mk hT2
    have HFa := Aside0.mk hF2a
    have HU2 := Aside0.mk hu2
    have HBK2 := Aside0.mk ((hu2.block _ (blk_lt HBKD.out) (fun hk => HNS.out hk)).trans HBKD.out)
    have HPT := Aside0.mk (HPR.out w2 hu2 hT2.T)
    clear hp hF2a hT2 hu2
    refine hK.out _ _ (cellB HBK2.out 3 _ rfl) (fun hHeld => ?_)
    clear hK K
    refine norm_ (a' := ?_) ?_ ?_
    rotate_left
    · show Act.put _ (some 16) _ = _
      simp only [Act.put, List.setIfInBounds_toArray, List.set_cons_zero, List.set_cons_succ, i64_w, i32_w]
      rfl
    refine one_ (i := 7) (N := some 20) (bz 10 255) rfl rfl (by kernel_rfl) (by decide) (fun K hK => ?_)
    refine goes_ Tryz.func28 (by kernel_rfl) rfl #[.pointer (some ⟨t, 0, none⟩), .slice ab x.length cb] (by rfl) rfl rfl (by simp only [List.map_toArray, List.map_cons, List.map_nil]; rfl) ?_
    with_reducible refine (HPT.out).mono ?_
    rintro e w3 ⟨rfl, hp3⟩
    refine ⟨_, rfl, ?_⟩
    obtain ⟨F3, hF3, hT3, hk3, hw3, hu3⟩ := HT2.out.onT hp3
    have HT3 := Aside0.mk hT3
    have HF3 := Aside0.mk hF3
    have HK3 := Aside0.mk hk3
    have HW3 := Aside0.mk hw3
    have HU3 := Aside0.mk hu3
    have HBK3 := Aside0.mk ((hu3.block _ (blk_lt HBK2.out) (fun hk => HNT.out hk)).trans HBK2.out)
    clear hp3 hF3 hT3 hk3 hw3 hu3
    refine hK.out _ _ (cellB HBK3.out 3 _ rfl) (fun hHeld => ?_)
    clear hK K
    refine norm_ (a' := ?_) ?_ ?_
    rotate_left
    · show Act.put _ (some 20) _ = _
      simp only [Act.put, List.setIfInBounds_toArray, List.set_cons_zero, List.set_cons_succ, i64_w, i32_w]
      rfl
    refine pz 8 (some 21) (bz 10 511) ?_
    refine pz 9 (some 8) (bz 10 1023) ?_
    refine done_ (by kernel_rfl) ?_
    clear hHeld
    go_wp2_with (fail)
    go_ret
    exact P8Po.of HBAD.out HFa.out (fun k hk => (HF3.out k hk).imp id (fun h => Nat.le_trans HU2.out.size h)) HT3.out HK3.out (Nat.le_trans HW3.out (by omega)) (upd_or HU2.out HU3.out)
  by_cases h2 : kd = 2
  · subst h2
    have hbk := heap_alloc_new w (.cells #[.int .i64 2, .int .i64 at_, .int .i64 nn, .slice ab x.length cb, .slice ac ch.length cc] 37)
    have hba := below_alloc (Below.refl w.heap.size w) (.cells #[.int .i64 2, .int .i64 at_, .int .i64 nn, .slice ab x.length cb, .slice ac ch.length cc] 37)
    have HTa := Aside0.mk (HT.out.below hba)
    have HBA := Aside0.mk hba
    have HBK := Aside0.mk hbk
    have HOA := Aside0.mk (fun W (hW : Upd (w.alloc (.cells #[.int .i64 2, .int .i64 at_, .int .i64 nn, .slice ab x.length cb, .slice ac ch.length cc] 37)) W (fun k => w0.heap.size ≤ k)) => OpIs.C (o := ⟨2, at_, nn, x, ch⟩) (HO.out W ((Upd.of_below (F := fun k => w0.heap.size ≤ k) hba).trans hW (fun _ h => .inl h))))
    clear hba hbk h1
    have hbd := below_drew HBA.out
    have HTD := Aside0.mk (HTa.out.below (below_drew (Below.refl _ _)))
    have HBKD := Aside0.mk (show (w.alloc (.cells #[.int .i64 2, .int .i64 at_, .int .i64 nn, .slice ab x.length cb, .slice ac ch.length cc] 37)).drew.heap[w.heap.size]? = some (.cells #[.int .i64 2, .int .i64 at_, .int .i64 nn, .slice ab x.length cb, .slice ac ch.length cc] 37 (0, 0)) from HBK.out)
    have HBAD := Aside0.mk hbd
    have HNS := Aside0.mk (show ¬ F w.heap.size from fun hk => by have := HT.out.hi.1 _ hk; omega)
    have HNT := Aside0.mk (show ¬ F2 w.heap.size from fun hk => by have := HT.out.hi.2 _ hk; omega)
    have HUD := Aside0.mk (show Upd (w.alloc (.cells #[.int .i64 2, .int .i64 at_, .int .i64 nn, .slice ab x.length cb, .slice ac ch.length cc] 37)) (w.alloc (.cells #[.int .i64 2, .int .i64 at_, .int .i64 nn, .slice ab x.length cb, .slice ac ch.length cc] 37)).drew (fun k => w0.heap.size ≤ k) from Upd.of_below (below_drew (Below.refl _ _)))
    have HFS := Aside0.mk (show ∀ k, F k → w0.heap.size ≤ k from fun k hk => HT.out.S.d.lo k hk)
    have HFT := Aside0.mk (show ∀ k, F2 k → w0.heap.size ≤ k from fun k hk => (HT.out.T.r.lo k hk).1)
    clear hbd
    have hq := Lib.hid (show play8 fr n D R ⟨2, at_, nn, x, ch⟩ = ((setM D nn ch).1, rsetM R nn ch, (setM D nn ch).2 == rsetE nn ch) from by simp [play8])
    rw [hq.out]
    go_enter Tryz.func12, Tryz.ntmps12
    go_wp2_with (fail)
    refine start_ (n := 17) (S := fun w' => w'.cell? ⟨w.heap.size, 2, none⟩ = some (.int .i64 nn) ∧ w'.cell? ⟨w.heap.size, 4, none⟩ = some (.slice ac ch.length cc) ∧ w'.cell? ⟨t, 0, none⟩ = some (.pointer (some ⟨g2, 0, none⟩))) (ds := []) (bz 17 0) (by kernel_rfl) rfl rfl ⟨cellB HBKD.out 2 _ rfl, cellB HBKD.out 4 _ rfl, HTD.out.T.c0⟩ (fun hHeld => ?_)
    refine pz 0 (some 24) (bz 17 1) ?_
    refine pz 1 (some 25) (bz 17 3) ?_
    refine pz 3 (some 27) (bz 17 11) ?_
    refine pz 6 (some 30) (bz 17 75) ?_
    refine pz 7 (some 31) (bz 17 203) ?_
    refine pz 8 (some 32) (bz 17 459) ?_
    refine pz 10 (some 34) (bz 17 1483) ?_
    refine pz 12 (some 36) (bz 17 5579) ?_
    refine tz3 2 (some 26) (bz 17 5583) hHeld ?_
    refine tz3 4 (some 28) (bz 17 5599) hHeld ?_
    refine tz3 9 (some 33) (bz 17 6111) hHeld ?_
    refine tz3 11 (some 35) (bz 17 8159) hHeld ?_
    refine tz3 13 (some 37) (bz 17 16351) hHeld ?_
    refine one_ (i := 5) (N := some 29) (bz 17 16383) rfl rfl (by kernel_rfl) (by decide) (fun K hK => ?_)
    refine goes_ Tryz.func29 (by kernel_rfl) rfl #[.pointer (some ⟨g, 0, none⟩), .int .i64 nn, .slice ac ch.length cc] (by rfl) rfl rfl (by simp only [List.map_toArray, List.map_cons, List.map_nil]; rfl) ?_
    with_reducible refine (dSet HTD.out.S.d nn ac cc ch (HOA.out _ HUD.out).2.2.2.1).mono ?_
    rintro e w2 ⟨rfl, hp⟩
    refine ⟨_, rfl, ?_⟩
    obtain ⟨F2a, hF2a, hT2, hu2⟩ := HTD.out.onS (HTD.out.S.po hp)
    have HT2 := Aside0.mk hT2
    have HFa := Aside0.mk hF2a
    have HU2 := Aside0.mk hu2
    have HBK2 := Aside0.mk ((hu2.block _ (blk_lt HBKD.out) (fun hk => HNS.out hk)).trans HBKD.out)
    clear hp hF2a hT2 hu2
    refine hK.out _ _ ⟨cellB HBK2.out 2 _ rfl, cellB HBK2.out 4 _ rfl, HT2.out.T.c0⟩ (fun hHeld => ?_)
    clear hK K
    refine norm_ (a' := ?_) ?_ ?_
    rotate_left
    · show Act.put _ (some 29) _ = _
      simp only [Act.put, List.setIfInBounds_toArray, List.set_cons_zero, List.set_cons_succ, i64_w, i32_w]
      rfl
    refine one_ (i := 14) (N := some 38) (bz 17 32767) rfl rfl (by kernel_rfl) (by decide) (fun K hK => ?_)
    refine goes_ Tryz.func30 (by kernel_rfl) rfl #[.pointer (some ⟨g2, 0, none⟩), .int .i64 nn, .slice ac ch.length cc] (by rfl) rfl rfl (by simp only [List.map_toArray, List.map_cons, List.map_nil]; rfl) ?_
    with_reducible refine (rTo_set HT2.out.T.r HKR.out.d nn HC.out.2.2.2.2.2 ac cc ch HC.out.2.1 (fun W hW => (HOA.out W ((HUD.out.trans HU2.out (fun k hk => .inl (HFS.out k hk))).trans hW (fun k hk => .inl hk))).2.2.2.1)).mono ?_
    rintro e w3 ⟨rfl, hp3⟩
    refine ⟨_, rfl, ?_⟩
    obtain ⟨F3, hF3, hT3, hk3, hw3, hu3⟩ := HT2.out.onT (HT2.out.T.po HKR.out hp3)
    have HT3 := Aside0.mk hT3
    have HF3 := Aside0.mk hF3
    have HK3 := Aside0.mk hk3
    have HW3 := Aside0.mk hw3
    have HU3 := Aside0.mk hu3
    have HBK3 := Aside0.mk ((hu3.block _ (blk_lt HBK2.out) (fun hk => HNT.out hk)).trans HBK2.out)
    clear hp3 hF3 hT3 hk3 hw3 hu3
    refine hK.out _ _ ⟨cellB HBK3.out 2 _ rfl, cellB HBK3.out 4 _ rfl, HT3.out.T.c0⟩ (fun hHeld => ?_)
    clear hK K
    refine norm_ (a' := ?_) ?_ ?_
    rotate_left
    · show Act.put _ (some 38) _ = _
      simp only [Act.put, List.setIfInBounds_toArray, List.set_cons_zero, List.set_cons_succ, i64_w, i32_w]
      rfl
    refine pz 15 (some 39) (bz 17 65535) ?_
    refine pz 16 (some 8) (bz 17 131071) ?_
    refine done_ (by kernel_rfl) ?_
    clear hHeld
    go_wp2_with (fail)
    go_ret
    exact P8Po.of HBAD.out HFa.out (fun k hk => (HF3.out k hk).imp id (fun h => Nat.le_trans HU2.out.size h)) HT3.out HK3.out (Nat.le_trans HW3.out (by omega)) (upd_or HU2.out HU3.out)
  by_cases h3 : kd = 3
  · subst h3
    have hbk := heap_alloc_new w (.cells #[.int .i64 3, .int .i64 at_, .int .i64 nn, .slice ab x.length cb, .slice ac ch.length cc] 37)
    have hba := below_alloc (Below.refl w.heap.size w) (.cells #[.int .i64 3, .int .i64 at_, .int .i64 nn, .slice ab x.length cb, .slice ac ch.length cc] 37)
    have HTa := Aside0.mk (HT.out.below hba)
    have HBA := Aside0.mk hba
    have HBK := Aside0.mk hbk
    have HOA := Aside0.mk (fun W (hW : Upd (w.alloc (.cells #[.int .i64 3, .int .i64 at_, .int .i64 nn, .slice ab x.length cb, .slice ac ch.length cc] 37)) W (fun k => w0.heap.size ≤ k)) => OpIs.C (o := ⟨3, at_, nn, x, ch⟩) (HO.out W ((Upd.of_below (F := fun k => w0.heap.size ≤ k) hba).trans hW (fun _ h => .inl h))))
    clear hba hbk h1 h2
    have hbd := below_drew HBA.out
    have HTD := Aside0.mk (HTa.out.below (below_drew (Below.refl _ _)))
    have HBKD := Aside0.mk (show (w.alloc (.cells #[.int .i64 3, .int .i64 at_, .int .i64 nn, .slice ab x.length cb, .slice ac ch.length cc] 37)).drew.heap[w.heap.size]? = some (.cells #[.int .i64 3, .int .i64 at_, .int .i64 nn, .slice ab x.length cb, .slice ac ch.length cc] 37 (0, 0)) from HBK.out)
    have HBAD := Aside0.mk hbd
    have HNS := Aside0.mk (show ¬ F w.heap.size from fun hk => by have := HT.out.hi.1 _ hk; omega)
    have HNT := Aside0.mk (show ¬ F2 w.heap.size from fun hk => by have := HT.out.hi.2 _ hk; omega)
    have HUD := Aside0.mk (show Upd (w.alloc (.cells #[.int .i64 3, .int .i64 at_, .int .i64 nn, .slice ab x.length cb, .slice ac ch.length cc] 37)) (w.alloc (.cells #[.int .i64 3, .int .i64 at_, .int .i64 nn, .slice ab x.length cb, .slice ac ch.length cc] 37)).drew (fun k => w0.heap.size ≤ k) from Upd.of_below (below_drew (Below.refl _ _)))
    have HFS := Aside0.mk (show ∀ k, F k → w0.heap.size ≤ k from fun k hk => HT.out.S.d.lo k hk)
    have HFT := Aside0.mk (show ∀ k, F2 k → w0.heap.size ≤ k from fun k hk => (HT.out.T.r.lo k hk).1)
    clear hbd
    have hq := Lib.hid (show play8 fr n D R ⟨3, at_, nn, x, ch⟩ = (loseM ch D, rloseM ch R, true) from by simp [play8])
    rw [hq.out]
    go_enter Tryz.func12, Tryz.ntmps12
    go_wp2_with (first | (go_at_call 31; (with_reducible refine (dLose HTa.out.S.d HK.out.d ac cc ch HC.out.2.1 (fun W hW => (HOA.out W (hW.mono (fun k hk => HFS.out k hk))).2.2.2.1)).mono ?_); rintro e w2 ⟨rfl, hp⟩; obtain ⟨F2a, hF2a, hT2, hu2⟩ := HTa.out.onS (HTa.out.S.po hp); have HT2 := Aside0.mk hT2; have HFa := Aside0.mk hF2a; have HU2 := Aside0.mk hu2; have HBK2 := Aside0.mk ((hu2.block _ (blk_lt HBK.out) (fun hk => HNS.out hk)).trans HBK.out); clear hp hF2a hT2 hu2))
    have HT2D := Aside0.mk (HT2.out.below (below_drew (Below.refl _ _)))
    have HBK2D := Aside0.mk (show w2.drew.heap[w.heap.size]? = some (.cells #[.int .i64 3, .int .i64 at_, .int .i64 nn, .slice ab x.length cb, .slice ac ch.length cc] 37 (0, 0)) from HBK2.out)
    have HU2D := Aside0.mk HU2.out.drew
    refine start_ (n := 7) (S := fun w' => w'.cell? ⟨w.heap.size, 4, none⟩ = some (.slice ac ch.length cc) ∧ w'.cell? ⟨t, 0, none⟩ = some (.pointer (some ⟨g2, 0, none⟩))) (ds := []) (bz 7 0) (by kernel_rfl) rfl rfl ⟨cellB HBK2D.out 4 _ rfl, HT2D.out.T.c0⟩ (fun hHeld => ?_)
    refine pz 0 (some 46) (bz 7 1) ?_
    refine pz 1 (some 47) (bz 7 3) ?_
    refine pz 2 (some 48) (bz 7 7) ?_
    refine pz 4 (some 50) (bz 7 23) ?_
    refine tz2 3 (some 49) (bz 7 31) hHeld ?_
    refine tz2 5 (some 51) (bz 7 63) hHeld ?_
    refine one_ (i := 6) (N := some 52) (bz 7 127) rfl rfl (by kernel_rfl) (by decide) (fun K hK => ?_)
    refine goes_ Tryz.func32 (by kernel_rfl) rfl #[.pointer (some ⟨g2, 0, none⟩), .slice ac ch.length cc] (by rfl) rfl rfl (by simp only [List.map_toArray, List.map_cons, List.map_nil]; rfl) ?_
    with_reducible refine (rTo_lose HT2D.out.T.r HKR.out.d ac cc ch (fun W hW => (HOA.out W ((HU2D.out.mono (fun k hk => HFS.out k hk)).trans hW (fun k hk => .inl (HFT.out k hk)))).2.2.2.1)).mono ?_
    rintro e w3 ⟨rfl, hp3⟩
    refine ⟨_, rfl, ?_⟩
    obtain ⟨F3, hF3, hT3, hk3, hw3, hu3⟩ := HT2D.out.onT (HT2D.out.T.po HKR.out hp3)
    have HT3 := Aside0.mk hT3
    have HF3 := Aside0.mk hF3
    have HK3 := Aside0.mk hk3
    have HW3 := Aside0.mk hw3
    have HU3 := Aside0.mk hu3
    have HBK3 := Aside0.mk ((hu3.block _ (blk_lt HBK2D.out) (fun hk => HNT.out hk)).trans HBK2D.out)
    clear hp3 hF3 hT3 hk3 hw3 hu3
    refine hK.out _ _ ⟨cellB HBK3.out 4 _ rfl, HT3.out.T.c0⟩ (fun hHeld => ?_)
    clear hK K
    refine norm_ (a' := ?_) ?_ ?_
    rotate_left
    · show Act.put _ (some 52) _ = _
      simp only [Act.put, List.setIfInBounds_toArray, List.set_cons_zero, List.set_cons_succ, i64_w, i32_w]
      rfl
    refine done_ (by kernel_rfl) ?_
    clear hHeld
    go_wp2_with (fail)
    go_ret
    exact P8Po.of HBA.out HFa.out (fun k hk => (HF3.out k hk).imp id (fun h => Nat.le_trans HU2D.out.size h)) HT3.out HK3.out (Nat.le_trans HW3.out (by omega)) (upd_or HU2D.out HU3.out)
  by_cases h4 : kd = 4
  · subst h4
    have hbk := heap_alloc_new w (.cells #[.int .i64 4, .int .i64 at_, .int .i64 nn, .slice ab x.length cb, .slice ac ch.length cc] 37)
    have hba := below_alloc (Below.refl w.heap.size w) (.cells #[.int .i64 4, .int .i64 at_, .int .i64 nn, .slice ab x.length cb, .slice ac ch.length cc] 37)
    have HTa := Aside0.mk (HT.out.below hba)
    have HBA := Aside0.mk hba
    have HBK := Aside0.mk hbk
    have HOA := Aside0.mk (fun W (hW : Upd (w.alloc (.cells #[.int .i64 4, .int .i64 at_, .int .i64 nn, .slice ab x.length cb, .slice ac ch.length cc] 37)) W (fun k => w0.heap.size ≤ k)) => OpIs.C (o := ⟨4, at_, nn, x, ch⟩) (HO.out W ((Upd.of_below (F := fun k => w0.heap.size ≤ k) hba).trans hW (fun _ h => .inl h))))
    clear hba hbk h1 h2 h3
    have hbd := below_drew HBA.out
    have HTD := Aside0.mk (HTa.out.below (below_drew (Below.refl _ _)))
    have HBKD := Aside0.mk (show (w.alloc (.cells #[.int .i64 4, .int .i64 at_, .int .i64 nn, .slice ab x.length cb, .slice ac ch.length cc] 37)).drew.heap[w.heap.size]? = some (.cells #[.int .i64 4, .int .i64 at_, .int .i64 nn, .slice ab x.length cb, .slice ac ch.length cc] 37 (0, 0)) from HBK.out)
    have HBAD := Aside0.mk hbd
    have HNS := Aside0.mk (show ¬ F w.heap.size from fun hk => by have := HT.out.hi.1 _ hk; omega)
    have HNT := Aside0.mk (show ¬ F2 w.heap.size from fun hk => by have := HT.out.hi.2 _ hk; omega)
    have HUD := Aside0.mk (show Upd (w.alloc (.cells #[.int .i64 4, .int .i64 at_, .int .i64 nn, .slice ab x.length cb, .slice ac ch.length cc] 37)) (w.alloc (.cells #[.int .i64 4, .int .i64 at_, .int .i64 nn, .slice ab x.length cb, .slice ac ch.length cc] 37)).drew (fun k => w0.heap.size ≤ k) from Upd.of_below (below_drew (Below.refl _ _)))
    have HFS := Aside0.mk (show ∀ k, F k → w0.heap.size ≤ k from fun k hk => HT.out.S.d.lo k hk)
    have HFT := Aside0.mk (show ∀ k, F2 k → w0.heap.size ≤ k from fun k hk => (HT.out.T.r.lo k hk).1)
    clear hbd
    have hq := Lib.hid (show play8 fr n D R ⟨4, at_, nn, x, ch⟩ = (startM D, rstartM R, true) from by simp [play8])
    rw [hq.out]
    go_enter Tryz.func12, Tryz.ntmps12
    go_wp2_with (first | (go_at_call 33; (with_reducible refine (dStart HTa.out.S.d).mono ?_); rintro e w2 ⟨rfl, hp⟩; obtain ⟨F2a, hF2a, hT2, hu2⟩ := HTa.out.onS (HTa.out.S.po hp); have HT2 := Aside0.mk hT2; have HFa := Aside0.mk hF2a; have HU2 := Aside0.mk hu2; have h20 := hT2.T.c0; clear hp hF2a hT2 hu2) | (go_at_call 34; (with_reducible refine (rTo_start HT2.out.T.r HKR.out.d).mono ?_); rintro e w3 ⟨rfl, hp3⟩; obtain ⟨F3, hF3, hT3, hk3, hw3, hu3⟩ := HT2.out.onT (HT2.out.T.po HKR.out hp3); have HT3 := Aside0.mk hT3; have HF3 := Aside0.mk hF3; have HK3 := Aside0.mk hk3; have HW3 := Aside0.mk hw3; have HU3 := Aside0.mk hu3; clear hp3 hF3 hT3 hk3 hw3 hu3))
    go_ret
    exact P8Po.of HBA.out HFa.out (fun k hk => (HF3.out k hk).imp id (fun h => Nat.le_trans HU2.out.size h)) HT3.out HK3.out (Nat.le_trans HW3.out (by omega)) (upd_or HU2.out HU3.out)
  by_cases h5 : kd = 5
  · subst h5
    have hbk := heap_alloc_new w (.cells #[.int .i64 5, .int .i64 at_, .int .i64 nn, .slice ab x.length cb, .slice ac ch.length cc] 37)
    have hba := below_alloc (Below.refl w.heap.size w) (.cells #[.int .i64 5, .int .i64 at_, .int .i64 nn, .slice ab x.length cb, .slice ac ch.length cc] 37)
    have HTa := Aside0.mk (HT.out.below hba)
    have HBA := Aside0.mk hba
    have HBK := Aside0.mk hbk
    have HOA := Aside0.mk (fun W (hW : Upd (w.alloc (.cells #[.int .i64 5, .int .i64 at_, .int .i64 nn, .slice ab x.length cb, .slice ac ch.length cc] 37)) W (fun k => w0.heap.size ≤ k)) => OpIs.C (o := ⟨5, at_, nn, x, ch⟩) (HO.out W ((Upd.of_below (F := fun k => w0.heap.size ≤ k) hba).trans hW (fun _ h => .inl h))))
    clear hba hbk h1 h2 h3 h4
    have hbd := below_drew HBA.out
    have HTD := Aside0.mk (HTa.out.below (below_drew (Below.refl _ _)))
    have HBKD := Aside0.mk (show (w.alloc (.cells #[.int .i64 5, .int .i64 at_, .int .i64 nn, .slice ab x.length cb, .slice ac ch.length cc] 37)).drew.heap[w.heap.size]? = some (.cells #[.int .i64 5, .int .i64 at_, .int .i64 nn, .slice ab x.length cb, .slice ac ch.length cc] 37 (0, 0)) from HBK.out)
    have HBAD := Aside0.mk hbd
    have HNS := Aside0.mk (show ¬ F w.heap.size from fun hk => by have := HT.out.hi.1 _ hk; omega)
    have HNT := Aside0.mk (show ¬ F2 w.heap.size from fun hk => by have := HT.out.hi.2 _ hk; omega)
    have HUD := Aside0.mk (show Upd (w.alloc (.cells #[.int .i64 5, .int .i64 at_, .int .i64 nn, .slice ab x.length cb, .slice ac ch.length cc] 37)) (w.alloc (.cells #[.int .i64 5, .int .i64 at_, .int .i64 nn, .slice ab x.length cb, .slice ac ch.length cc] 37)).drew (fun k => w0.heap.size ≤ k) from Upd.of_below (below_drew (Below.refl _ _)))
    have HFS := Aside0.mk (show ∀ k, F k → w0.heap.size ≤ k from fun k hk => HT.out.S.d.lo k hk)
    have HFT := Aside0.mk (show ∀ k, F2 k → w0.heap.size ≤ k from fun k hk => (HT.out.T.r.lo k hk).1)
    clear hbd
    have HWK := Aside0.mk (show DOk (writeM D at_ x).1 from writeM_ok HK.out.d (by have := HDn.out; omega))
    obtain ⟨dv, hdv⟩ : ∃ dv, (writeM D at_ x).2 = dv := ⟨_, rfl⟩
    obtain ⟨rv, hrv⟩ : ∃ rv, (rwriteM R at_ x).2 = rv := ⟨_, rfl⟩
    have HDV := Lib.hid hdv
    have HRV := Lib.hid hrv
    by_cases he : dv = rv
    · have hq := Lib.hid (show play8 fr n D R ⟨5, at_, nn, x, ch⟩ = ((flushM (writeM D at_ x).1).1, (rflushM (rwriteM R at_ x).1).1, (flushM (writeM D at_ x).1).2 == (rflushM (rwriteM R at_ x).1).2) from by
        have e : (writeM D at_ x).2 = (rwriteM R at_ x).2 := by rw [hdv, hrv, he]
        simp [play8, e])
      rw [hq.out]
      subst he
      clear hdv hrv
      have hee : (dv == dv) = true := by simp
      go_enter Tryz.func12, Tryz.ntmps12
      go_wp2_with (fail)
      refine start_ (n := 27) (S := fun w' => w'.cell? ⟨w.heap.size, 1, none⟩ = some (.int .i64 at_) ∧ w'.cell? ⟨w.heap.size, 3, none⟩ = some (.slice ab x.length cb) ∧ w'.cell? ⟨t, 0, none⟩ = some (.pointer (some ⟨g2, 0, none⟩))) (ds := []) (bz 27 0) (by kernel_rfl) rfl rfl ⟨cellB HBKD.out 1 _ rfl, cellB HBKD.out 3 _ rfl, HTD.out.T.c0⟩ (fun hHeld => ?_)
      refine pz 0 (some 64) (bz 27 1) ?_
      refine pz 1 (some 65) (bz 27 3) ?_
      refine pz 3 (some 67) (bz 27 11) ?_
      refine pz 6 (some 70) (bz 27 75) ?_
      refine pz 7 (some 71) (bz 27 203) ?_
      refine pz 8 (some 72) (bz 27 459) ?_
      refine pz 10 (some 74) (bz 27 1483) ?_
      refine pz 12 (some 76) (bz 27 5579) ?_
      refine tz3 2 (some 66) (bz 27 5583) hHeld ?_
      refine tz3 4 (some 68) (bz 27 5599) hHeld ?_
      refine tz3 9 (some 73) (bz 27 6111) hHeld ?_
      refine tz3 11 (some 75) (bz 27 8159) hHeld ?_
      refine tz3 13 (some 77) (bz 27 16351) hHeld ?_
      refine one_ (i := 5) (N := some 69) (bz 27 16383) rfl rfl (by kernel_rfl) (by decide) (fun K hK => ?_)
      refine goes_ Tryz.func35 (by kernel_rfl) rfl #[.pointer (some ⟨g, 0, none⟩), .int .i64 at_, .slice ab x.length cb] (by rfl) rfl rfl (by simp only [List.map_toArray, List.map_cons, List.map_nil]; rfl) ?_
      with_reducible refine (dWrite HTD.out.S.d HK.out.d (by have := HDn.out; omega) at_ ab cb x (HOA.out _ HUD.out).2.2.1).mono ?_
      rintro e w2 ⟨rfl, hp⟩
      refine ⟨_, rfl, ?_⟩
      rw [HDV.out]
      obtain ⟨F2a, hF2a, hT2, hu2⟩ := HTD.out.onS (HTD.out.S.po hp)
      have HT2 := Aside0.mk hT2
      have HFa := Aside0.mk hF2a
      have HU2 := Aside0.mk hu2
      have HBK2 := Aside0.mk ((hu2.block _ (blk_lt HBKD.out) (fun hk => HNS.out hk)).trans HBKD.out)
      clear hp hF2a hT2 hu2
      refine hK.out _ _ ⟨cellB HBK2.out 1 _ rfl, cellB HBK2.out 3 _ rfl, HT2.out.T.c0⟩ (fun hHeld => ?_)
      clear hK K
      refine norm_ (a' := ?_) ?_ ?_
      rotate_left
      · show Act.put _ (some 69) _ = _
        simp only [Act.put, List.setIfInBounds_toArray, List.set_cons_zero, List.set_cons_succ, i64_w, i32_w]
        rfl
      refine one_ (i := 14) (N := some 78) (bz 27 32767) rfl rfl (by kernel_rfl) (by decide) (fun K hK => ?_)
      refine goes_ Tryz.func36 (by kernel_rfl) rfl #[.pointer (some ⟨g2, 0, none⟩), .int .i64 at_, .slice ab x.length cb] (by rfl) rfl rfl (by simp only [List.map_toArray, List.map_cons, List.map_nil]; rfl) ?_
      with_reducible refine (rTo_write HT2.out.T.r HKR.out.d (Nat.le_trans HTD.out.b.size HU2.out.size) (by have := HRn.out; omega) at_ ab cb x (HOA.out _ (HUD.out.trans HU2.out (fun k hk => .inl (HFS.out k hk)))).2.2.1).mono ?_
      rintro e w3 ⟨rfl, hp3⟩
      refine ⟨_, rfl, ?_⟩
      rw [HRV.out]
      obtain ⟨F3, hF3, hT3, hk3, hw3, hu3⟩ := HT2.out.onT (HT2.out.T.po HKR.out hp3)
      have HT3 := Aside0.mk hT3
      have HF3 := Aside0.mk hF3
      have HK3 := Aside0.mk hk3
      have HW3 := Aside0.mk hw3
      have HU3 := Aside0.mk hu3
      have HBK3 := Aside0.mk ((hu3.block _ (blk_lt HBK2.out) (fun hk => HNT.out hk)).trans HBK2.out)
      clear hp3 hF3 hT3 hk3 hw3 hu3
      refine hK.out _ _ ⟨cellB HBK3.out 1 _ rfl, cellB HBK3.out 3 _ rfl, HT3.out.T.c0⟩ (fun hHeld => ?_)
      clear hK K
      refine norm_ (a' := ?_) ?_ ?_
      rotate_left
      · show Act.put _ (some 78) _ = _
        simp only [Act.put, List.setIfInBounds_toArray, List.set_cons_zero, List.set_cons_succ, i64_w, i32_w]
        rfl
      refine pz 15 (some 79) (bz 27 65535) ?_
      refine pz 16 (some 80) (bz 27 131071) ?_
      refine pz 17 (some 81) (bz 27 262143) ?_
      refine pz 19 (some 83) (bz 27 786431) ?_
      refine pz 20 (some 84) (bz 27 1835007) ?_
      refine pz 21 (some 85) (bz 27 3932159) ?_
      refine tz3 22 (some 86) (bz 27 8126463) hHeld ?_
      refine one_ (i := 18) (N := some 82) (bz 27 8388607) rfl rfl (by kernel_rfl) (by decide) (fun K hK => ?_)
      refine goes_ Tryz.func37 (by kernel_rfl) rfl #[.pointer (some ⟨g, 0, none⟩)] (by rfl) rfl rfl (by simp only [List.map_toArray, List.map_cons, List.map_nil]; rfl) ?_
      with_reducible refine (dFlush HT3.out.S.d HWK.out).mono ?_
      rintro e w4 ⟨rfl, hp4⟩
      refine ⟨_, rfl, ?_⟩
      obtain ⟨F4, hF4, hT4, hu4⟩ := HT3.out.onS (HT3.out.S.po hp4)
      have HT4 := Aside0.mk hT4
      have HF4 := Aside0.mk hF4
      have HU4 := Aside0.mk hu4
      have HBK4 := Aside0.mk ((hu4.block _ (blk_lt HBK3.out) (fun hk => (HFa.out _ hk).elim HNS.out (fun h => by have := blk_lt HBKD.out; omega))).trans HBK3.out)
      clear hp4 hF4 hT4 hu4
      refine hK.out _ _ ⟨cellB HBK4.out 1 _ rfl, cellB HBK4.out 3 _ rfl, HT4.out.T.c0⟩ (fun hHeld => ?_)
      clear hK K
      refine norm_ (a' := ?_) ?_ ?_
      rotate_left
      · show Act.put _ (some 82) _ = _
        simp only [Act.put, List.setIfInBounds_toArray, List.set_cons_zero, List.set_cons_succ, i64_w, i32_w]
        rfl
      refine one_ (i := 23) (N := some 87) (bz 27 16777215) rfl rfl (by kernel_rfl) (by decide) (fun K hK => ?_)
      refine goes_ Tryz.func38 (by kernel_rfl) rfl #[.pointer (some ⟨g2, 0, none⟩)] (by rfl) rfl rfl (by simp only [List.map_toArray, List.map_cons, List.map_nil]; rfl) ?_
      with_reducible refine (rTo_flush HT4.out.T.r HK3.out.d).mono ?_
      rintro e w5 ⟨rfl, hp5⟩
      refine ⟨_, rfl, ?_⟩
      obtain ⟨F5, hF5, hT5, hk5, hw5, hu5⟩ := HT4.out.onT (HT4.out.T.po HK3.out hp5)
      have HT5 := Aside0.mk hT5
      have HF5 := Aside0.mk hF5
      have HK5 := Aside0.mk hk5
      have HW5 := Aside0.mk hw5
      have HU5 := Aside0.mk hu5
      have HBK5 := Aside0.mk ((hu5.block _ (blk_lt HBK4.out) (fun hk => (HF3.out _ hk).elim HNT.out (fun h => by have := blk_lt HBKD.out; have := HU2.out.size; omega))).trans HBK4.out)
      clear hp5 hF5 hT5 hk5 hw5 hu5
      refine hK.out _ _ ⟨cellB HBK5.out 1 _ rfl, cellB HBK5.out 3 _ rfl, HT5.out.T.c0⟩ (fun hHeld => ?_)
      clear hK K
      refine norm_ (a' := ?_) ?_ ?_
      rotate_left
      · show Act.put _ (some 87) _ = _
        simp only [Act.put, List.setIfInBounds_toArray, List.set_cons_zero, List.set_cons_succ, i64_w, i32_w]
        rfl
      refine pz 24 (some 88) (bz 27 33554431) ?_
      refine pz 25 (some 89) (bz 27 67108863) ?_
      refine pz 26 (some 8) (bz 27 134217727) ?_
      refine done_ (by kernel_rfl) ?_
      clear hHeld
      go_wp2_with (fail)
      go_ret
      exact P8Po.of HBAD.out (fun k hk => (HF4.out k hk).elim (fun h => HFa.out k h) (fun h => .inr (Nat.le_trans HU2.out.size (Nat.le_trans HU3.out.size h)))) (fun k hk => (HF5.out k hk).elim (fun h => (HF3.out k h).imp id (fun h => Nat.le_trans HU2.out.size h)) (fun h => .inr (Nat.le_trans HU2.out.size (Nat.le_trans HU3.out.size (Nat.le_trans HU4.out.size h))))) HT5.out HK5.out (by have h1 := HW5.out; have h2 := HW3.out; show (rflushM (rwriteM R at_ x).1).1.wait.length ≤ _; omega) (upd_four HU2.out HU3.out HU4.out HU5.out HFa.out HF3.out)
    · have hq := Lib.hid (show play8 fr n D R ⟨5, at_, nn, x, ch⟩ = ((writeM D at_ x).1, (rwriteM R at_ x).1, false) from by
        have e : ¬ (writeM D at_ x).2 = (rwriteM R at_ x).2 := by rw [hdv, hrv]; exact he
        simp [play8, e])
      rw [hq.out]
      have hee : (dv == rv) = false := by simpa using he
      clear hdv hrv he
      go_enter Tryz.func12, Tryz.ntmps12
      go_wp2_with (fail)
      refine start_ (n := 27) (S := fun w' => w'.cell? ⟨w.heap.size, 1, none⟩ = some (.int .i64 at_) ∧ w'.cell? ⟨w.heap.size, 3, none⟩ = some (.slice ab x.length cb) ∧ w'.cell? ⟨t, 0, none⟩ = some (.pointer (some ⟨g2, 0, none⟩))) (ds := []) (bz 27 0) (by kernel_rfl) rfl rfl ⟨cellB HBKD.out 1 _ rfl, cellB HBKD.out 3 _ rfl, HTD.out.T.c0⟩ (fun hHeld => ?_)
      refine pz 0 (some 64) (bz 27 1) ?_
      refine pz 1 (some 65) (bz 27 3) ?_
      refine pz 3 (some 67) (bz 27 11) ?_
      refine pz 6 (some 70) (bz 27 75) ?_
      refine pz 7 (some 71) (bz 27 203) ?_
      refine pz 8 (some 72) (bz 27 459) ?_
      refine pz 10 (some 74) (bz 27 1483) ?_
      refine pz 12 (some 76) (bz 27 5579) ?_
      refine tz3 2 (some 66) (bz 27 5583) hHeld ?_
      refine tz3 4 (some 68) (bz 27 5599) hHeld ?_
      refine tz3 9 (some 73) (bz 27 6111) hHeld ?_
      refine tz3 11 (some 75) (bz 27 8159) hHeld ?_
      refine tz3 13 (some 77) (bz 27 16351) hHeld ?_
      refine one_ (i := 5) (N := some 69) (bz 27 16383) rfl rfl (by kernel_rfl) (by decide) (fun K hK => ?_)
      refine goes_ Tryz.func35 (by kernel_rfl) rfl #[.pointer (some ⟨g, 0, none⟩), .int .i64 at_, .slice ab x.length cb] (by rfl) rfl rfl (by simp only [List.map_toArray, List.map_cons, List.map_nil]; rfl) ?_
      with_reducible refine (dWrite HTD.out.S.d HK.out.d (by have := HDn.out; omega) at_ ab cb x (HOA.out _ HUD.out).2.2.1).mono ?_
      rintro e w2 ⟨rfl, hp⟩
      refine ⟨_, rfl, ?_⟩
      rw [HDV.out]
      obtain ⟨F2a, hF2a, hT2, hu2⟩ := HTD.out.onS (HTD.out.S.po hp)
      have HT2 := Aside0.mk hT2
      have HFa := Aside0.mk hF2a
      have HU2 := Aside0.mk hu2
      have HBK2 := Aside0.mk ((hu2.block _ (blk_lt HBKD.out) (fun hk => HNS.out hk)).trans HBKD.out)
      clear hp hF2a hT2 hu2
      refine hK.out _ _ ⟨cellB HBK2.out 1 _ rfl, cellB HBK2.out 3 _ rfl, HT2.out.T.c0⟩ (fun hHeld => ?_)
      clear hK K
      refine norm_ (a' := ?_) ?_ ?_
      rotate_left
      · show Act.put _ (some 69) _ = _
        simp only [Act.put, List.setIfInBounds_toArray, List.set_cons_zero, List.set_cons_succ, i64_w, i32_w]
        rfl
      refine one_ (i := 14) (N := some 78) (bz 27 32767) rfl rfl (by kernel_rfl) (by decide) (fun K hK => ?_)
      refine goes_ Tryz.func36 (by kernel_rfl) rfl #[.pointer (some ⟨g2, 0, none⟩), .int .i64 at_, .slice ab x.length cb] (by rfl) rfl rfl (by simp only [List.map_toArray, List.map_cons, List.map_nil]; rfl) ?_
      with_reducible refine (rTo_write HT2.out.T.r HKR.out.d (Nat.le_trans HTD.out.b.size HU2.out.size) (by have := HRn.out; omega) at_ ab cb x (HOA.out _ (HUD.out.trans HU2.out (fun k hk => .inl (HFS.out k hk)))).2.2.1).mono ?_
      rintro e w3 ⟨rfl, hp3⟩
      refine ⟨_, rfl, ?_⟩
      rw [HRV.out]
      obtain ⟨F3, hF3, hT3, hk3, hw3, hu3⟩ := HT2.out.onT (HT2.out.T.po HKR.out hp3)
      have HT3 := Aside0.mk hT3
      have HF3 := Aside0.mk hF3
      have HK3 := Aside0.mk hk3
      have HW3 := Aside0.mk hw3
      have HU3 := Aside0.mk hu3
      have HBK3 := Aside0.mk ((hu3.block _ (blk_lt HBK2.out) (fun hk => HNT.out hk)).trans HBK2.out)
      clear hp3 hF3 hT3 hk3 hw3 hu3
      refine hK.out _ _ ⟨cellB HBK3.out 1 _ rfl, cellB HBK3.out 3 _ rfl, HT3.out.T.c0⟩ (fun hHeld => ?_)
      clear hK K
      refine norm_ (a' := ?_) ?_ ?_
      rotate_left
      · show Act.put _ (some 78) _ = _
        simp only [Act.put, List.setIfInBounds_toArray, List.set_cons_zero, List.set_cons_succ, i64_w, i32_w]
        rfl
      refine pz 15 (some 79) (bz 27 65535) ?_
      refine pz 16 (some 80) (bz 27 131071) ?_
      refine pu 17 (some 81) (bz 27 262143) ?_
      refine pu 18 (some 82) (bz 27 524287) ?_
      refine pu 19 (some 83) (bz 27 1048575) ?_
      refine pu 20 (some 84) (bz 27 2097151) ?_
      refine pu 21 (some 85) (bz 27 4194303) ?_
      refine pu 22 (some 86) (bz 27 8388607) ?_
      refine pu 23 (some 87) (bz 27 16777215) ?_
      refine pu 24 (some 88) (bz 27 33554431) ?_
      refine pz 25 (some 89) (bz 27 67108863) ?_
      refine pz 26 (some 8) (bz 27 134217727) ?_
      refine done_ (by kernel_rfl) ?_
      clear hHeld
      go_wp2_with (fail)
      go_ret
      exact P8Po.of HBAD.out HFa.out (fun k hk => (HF3.out k hk).imp id (fun h => Nat.le_trans HU2.out.size h)) HT3.out HK3.out (Nat.le_trans HW3.out (by omega)) (upd_or HU2.out HU3.out)
  have hq := Lib.hid (show play8 fr n D R ⟨kd, at_, nn, x, ch⟩ = (D, R, true) from by simp [play8, h1, h2, h3, h4, h5])
  rw [hq.out]
  have t1 : (kd == 1) = false := by simpa using h1
  have t2 : (kd == 2) = false := by simpa using h2
  have t3 : (kd == 3) = false := by simpa using h3
  have t4 : (kd == 4) = false := by simpa using h4
  have t5 : (kd == 5) = false := by simpa using h5
  have hba := below_alloc (Below.refl w.heap.size w) (.cells #[.int .i64 kd, .int .i64 at_, .int .i64 nn, .slice ab x.length cb, .slice ac ch.length cc] 37)
  have HBA := Aside0.mk hba
  have HTa := Aside0.mk (HT.out.below hba)
  clear h1 h2 h3 h4 h5 hba
  go_enter Tryz.func12, Tryz.ntmps12
  go_wp2_with (fail)
  go_ret
  exact P8Po.of (p := (D, R, true)) HBA.out (fun _ h => .inl h) (fun _ h => .inl h) HTa.out HKR.out (Nat.le_add_right _ _) (Upd.refl _ _)

end Go.Proofs.YtmblnflfklmmkaaGreatDoor.Sh
/- The law's both and made. -/
namespace Go.Proofs.YtmblnflfklmmkaaGreatDoor.Sh
open Go.Proofs.YtmblnflfklmmkaaGreatDoor.Dk
open Go.RowKit Go.Proofs.YtmblnflfklmmkaaGreatDoorW.PrintWords Go.Proofs.YtmblnflfklmmkaaGreatDoorW.PrintLast Go.Proofs.YtmblnflfklmmkaaGreatDoorW.PrintMore
set_option linter.unusedVariables false
set_option linter.unusedSimpArgs false
set_option maxRecDepth 30000
variable {w0 w w' W w1 w2 w3 : World} {s g t g2 : Nat} {F F2 : Nat → Prop} {D D' : DM} {R R' : RM} {fr n : Int}
theorem results_tmp5 {fn : Func} {a b c d e : Tmp} (h : fn.results = #[.tmp a, .tmp b, .tmp c, .tmp d, .tmp e]) (tmps : Array Value) (P : Program) (w : World) : (results fn tmps).run P w = .ok (.tuple #[tmps.getD a undef, tmps.getD b undef, tmps.getD c undef, tmps.getD d undef, tmps.getD e undef]) w := by
  simp [results, h]
/-- What an operation leaves of the program's disk. -/
theorem play8_hs (o : OpM) : (play8 fr n D R o).1.held.length ≤ D.held.length + o.b.length + 128 ∧ (play8 fr n D R o).1.sec.length = D.sec.length := by
  unfold play8
  split
  · have := putM_hs (D := D) (fr := fr) (n := n) (x := o.b); exact ⟨by dsimp only; omega, this.2⟩
  · split
    · unfold setM
      split
      · exact ⟨by simp only; omega, rfl⟩
      · split <;> exact ⟨by simp only; omega, rfl⟩
    · split
      · have := loseM_hs (D := D) o.ch; exact ⟨by dsimp only; omega, this.2⟩
      · split
        · exact ⟨by simp only [startM]; omega, rfl⟩
        · split
          · have hw := writeM_hs (D := D) o.at_ o.b
            have hf := flushM_hs (D := (writeM D o.at_ o.b).1)
            split
            · exact ⟨by dsimp only; omega, hf.2.trans hw.2⟩
            · exact ⟨by dsimp only; omega, hw.2⟩
          · exact ⟨by dsimp only; omega, rfl⟩
theorem play8_ok (o : OpM) (h : DOk D) (hn : D.held.length + o.b.length + 128 ≤ 10000000) (hn2 : o.n ≤ 9223372036854775807) : DOk (play8 fr n D R o).1 := by
  unfold play8
  split
  · exact putM_ok h hn
  · split
    · exact setM_ok h hn2
    · split
      · exact loseM_ok _ h
      · split
        · exact startM_ok h
        · split
          · have hw := writeM_ok (k := o.at_) (x := o.b) h (by omega)
            split
            · exact flushM_ok hw
            · exact hw
          · exact h
theorem ref_lower {g2 : Nat} (h : RefAt w1 w.heap.size g2 F2 R) (hb : w0.heap.size ≤ w.heap.size) (hc : R.choice = []) : RefAt w1 w0.heap.size g2 F2 R := by
  obtain ⟨_, _, _, h⟩ := h
  exact ⟨_, _, _, h.lower hb hc⟩
theorem tri_new {w4 : World} (hg : Glob w) (hb : Below w.heap.size w w4) (hs : SAt w4 w.heap.size s g (fun k => w.heap.size ≤ k ∧ k < w1.heap.size) D fr n) (ht : TAt w4 w.heap.size t g2 (fun k => w1.heap.size ≤ k ∧ k < w2.heap.size) R fr n) (h1 : w.heap.size ≤ w1.heap.size) (h2 : w.heap.size ≤ w2.heap.size) (hls : w2.heap.size ≤ s) (h13 : w1.heap.size ≤ w3.heap.size) (h23 : w2.heap.size ≤ w3.heap.size) (hlt : w3.heap.size ≤ t) : Tri w w4 s g (fun k => w.heap.size ≤ k ∧ k < w1.heap.size) D fr n t g2 (fun k => w1.heap.size ≤ k ∧ k < w2.heap.size) R :=
  ⟨hs, ht, fun k h1 h2 => by omega, fun h => by omega, fun h => by omega, hg, hb⟩
/-- What both answers. -/
def BothPo (w w' : World) (x : List Int) (sz : Int) (fr n : Int) (e : Ending) : Prop :=
  (e = .returned (.tuple #[.pointer none, .pointer none, .pointer none, .bool false, .bool true]) ∧ Below w.heap.size w w') ∨
  ∃ s g t g2 F F2 k, sz = ((k : Nat) : Int) ∧ ¬ newBad x k ∧ e = .returned (.tuple #[.pointer (some ⟨s, 0, none⟩), .pointer (some ⟨g, 0, none⟩), .pointer (some ⟨t, 0, none⟩), .bool true, .bool true]) ∧ Tri w w' s g F (newM x k k) fr n t g2 F2 (rnewM ((List.range k).map (secAt x))) ∧ SOk (newM x k k) fr n ∧ TOk (rnewM ((List.range k).map (secAt x))) fr n
set_option maxHeartbeats 16000000 in
theorem both_calls (hg : Glob w) (A : Option Addr) (c : Nat) (x : List Int) (sz fr n : Int) (hx : x.length ≤ 2000) (hxc : x.length ≤ c) (hC : C8 w A x) (hsz : sz ≤ 60) :
    Calls Tryz.prog 8 #[.slice A x.length c, .int .i64 sz, .int .i64 fr, .int .i64 n] w fun e w' => BothPo w w' x sz fr n e := by
  have HG := Aside0.mk hg
  have HC := Aside0.mk hC
  have HXC := Aside0.mk hxc
  clear hg hC hxc
  by_cases hbad : newBad x sz
  · have HBAD := Aside0.mk hbad
    clear hbad
    go_enter Tryz.func8, Tryz.ntmps8
    go_wp2_with (first | (go_at_call 20; (with_reducible refine (New_fails A c x sz (by omega) HBAD.out).mono ?_); rintro e w1 ⟨rfl, rfl⟩) | (go_at_call 23; (with_reducible refine (rNew_fails A c x sz (by omega) HBAD.out).mono ?_); rintro e w1 ⟨rfl, rfl⟩))
    refine bodyPost_ret (results_tmp5 rfl _ _ _) rfl ?_
    exact .inl ⟨rfl, Below.refl _ _⟩
  obtain ⟨k, rfl⟩ : ∃ k : Nat, sz = k := ⟨sz.toNat, by unfold newBad at hbad; omega⟩
  have hk0 : 1 ≤ k ∧ k ≤ 60 := by unfold newBad at hbad; omega
  have HBAD := Aside0.mk hbad
  have HK0 := Aside0.mk hk0
  have HKD := Aside0.mk (newM_ok x k (by omega))
  have HSL := Aside0.mk (show (newM x k k).sec.length = k from secTo_length x k k (Nat.le_refl _))
  have HRL := Aside0.mk (show (rnewM ((List.range k).map (secAt x))).sec.length = k from by simp [rnewM])
  obtain ⟨D0, hD0⟩ : ∃ D0, newM x k k = D0 := ⟨_, rfl⟩
  obtain ⟨R0, hR0⟩ : ∃ R0, rnewM ((List.range k).map (secAt x)) = R0 := ⟨_, rfl⟩
  have HR0 := Aside0.mk hR0
  have HD0 := Aside0.mk hD0
  have HRC := Aside0.mk (show R0.choice = [] from by rw [← hR0]; rfl)
  rw [hD0] at HKD HSL
  rw [hR0] at HRL
  clear hbad hk0 hD0 hR0
  by_cases hin : 2 ≤ n ∧ 0 ≤ fr ∧ fr + 2 * n ≤ (k : Int)
  · have HIN := Aside0.mk hin
    clear hin
    go_enter Tryz.func8, Tryz.ntmps8
    go_wp2_with (first | (go_at_call 20; (with_reducible refine (New_calls A c x k (by omega) HXC.out HC.out HBAD.out).mono ?_); rintro e w1 ⟨g1, rfl, hd1, hb1⟩; rw [HD0.out] at hd1; have HD1 := Aside0.mk hd1; have HB1 := Aside0.mk hb1; have HC1 := Aside0.mk (Kd.C_below HC.out hb1); clear hd1 hb1) | (go_at_call 23; (with_reducible refine (rNew_calls A c x k (by omega) HXC.out HC1.out HBAD.out).mono ?_); rintro e w2 ⟨g2, R2, rfl, hr2, hok2, hw2, hc2, hs2, hb2, he2⟩; obtain rfl := (he2.out.trans HR0.out).symm; have HR2 := Aside0.mk (ref_lower hr2 HB1.out.size hc2); have HOK2 := Aside0.mk hok2; have HB2 := Aside0.mk hb2; have HBW2 := Aside0.mk (below_trans HB1.out hb2); have HD2 := Aside0.mk (HD1.out.frame (G := fun _ => False) (Upd.of_below hb2) (fun _ _ _ h => h)); clear hr2 hok2 hw2 hc2 hs2 hb2 he2) | (go_at_call 21; (with_reducible refine (Open_calls HD2.out (by rw [HSL.out]; have := HK0.out; omega) fr n).mono ?_); rintro e w3 h3; rcases h3 with ⟨hn3, _⟩ | ⟨_, s, rfl, hs3, hlo3, hb3⟩; (exact absurd (by rw [HSL.out]; exact HIN.out) hn3); have HS3 := Aside0.mk hs3; have HLO3 := Aside0.mk hlo3; have HB3 := Aside0.mk hb3; have HR3 := Aside0.mk (HR2.out.frame (G := fun _ => False) (Upd.of_below hb3) (fun _ _ h => h) (fun _ h => h.elim)); clear hs3 hlo3 hb3) | (go_at_call 24; (with_reducible refine (rOpen_calls HR3.out (by rw [HRL.out]; have := HK0.out; omega) fr n).mono ?_); rintro e w4 h4; rcases h4 with ⟨hn4, _⟩ | ⟨_, t, rfl, ht4, hlo4, hb4⟩; (exact absurd (by rw [HRL.out]; exact HIN.out) hn4); have HTRI := Aside0.mk (tri_new HG.out (below_trans (below_trans HBW2.out HB3.out) hb4) (HS3.out.below hb4) ht4 HB1.out.size HBW2.out.size HLO3.out (Nat.le_trans HB2.out.size HB3.out.size) HB3.out.size hlo4); clear ht4 hlo4 hb4))
    refine bodyPost_ret (results_tmp5 rfl _ _ _) rfl ?_
    refine .inr ⟨s, g1, t, g2, fun k => w.heap.size ≤ k ∧ k < w1.heap.size, fun k => w1.heap.size ≤ k ∧ k < w2.heap.size, k, rfl, HBAD.out, rfl, ?_, ?_, ?_⟩
    · rw [HD0.out, HR0.out]; exact HTRI.out
    · rw [HD0.out]; exact ⟨HKD.out, HIN.out.2.1, HIN.out.1, by rw [HSL.out]; exact HIN.out.2.2, by rw [HSL.out]; have := HK0.out; omega⟩
    · rw [HR0.out]; exact ⟨HOK2.out, HIN.out.2.1, HIN.out.1, by rw [HRL.out]; exact HIN.out.2.2, by rw [HRL.out]; have := HK0.out; omega⟩
  · have HIN := Aside0.mk hin
    clear hin
    go_enter Tryz.func8, Tryz.ntmps8
    go_wp2_with (first | (go_at_call 20; (with_reducible refine (New_calls A c x k (by omega) HXC.out HC.out HBAD.out).mono ?_); rintro e w1 ⟨g1, rfl, hd1, hb1⟩; rw [HD0.out] at hd1; have HD1 := Aside0.mk hd1; have HB1 := Aside0.mk hb1; have HC1 := Aside0.mk (Kd.C_below HC.out hb1); clear hd1 hb1) | (go_at_call 23; (with_reducible refine (rNew_calls A c x k (by omega) HXC.out HC1.out HBAD.out).mono ?_); rintro e w2 ⟨g2, R2, rfl, hr2, hok2, hw2, hc2, hs2, hb2, he2⟩; obtain rfl := (he2.out.trans HR0.out).symm; have HR2 := Aside0.mk (ref_lower hr2 HB1.out.size hc2); have HOK2 := Aside0.mk hok2; have HB2 := Aside0.mk hb2; have HBW2 := Aside0.mk (below_trans HB1.out hb2); have HD2 := Aside0.mk (HD1.out.frame (G := fun _ => False) (Upd.of_below hb2) (fun _ _ _ h => h)); clear hr2 hok2 hw2 hc2 hs2 hb2 he2) | (go_at_call 21; (with_reducible refine (Open_calls HD2.out (by rw [HSL.out]; have := HK0.out; omega) fr n).mono ?_); rintro e w3 h3; rcases h3 with ⟨_, rfl, hb3⟩ | ⟨hn3, _⟩; rotate_left; (exact absurd (by rw [HSL.out] at hn3; exact hn3) HIN.out); have HB3 := Aside0.mk (below_trans HBW2.out hb3); have HR3 := Aside0.mk (HR2.out.frame (G := fun _ => False) (Upd.of_below hb3) (fun _ _ h => h) (fun _ h => h.elim)); clear hb3) | (go_at_call 24; (with_reducible refine (rOpen_calls HR3.out (by rw [HRL.out]; have := HK0.out; omega) fr n).mono ?_); rintro e w4 h4; rcases h4 with ⟨_, rfl, hb4⟩ | ⟨hn4, _⟩; rotate_left; (exact absurd (by rw [HRL.out] at hn4; exact hn4) HIN.out); have HBE := Aside0.mk (below_trans HB3.out hb4); clear hb4))
    refine bodyPost_ret (results_tmp5 rfl _ _ _) rfl ?_
    exact .inl ⟨rfl, HBE.out⟩

end Go.Proofs.YtmblnflfklmmkaaGreatDoor.Sh
/- Plain facts about stores: a Put whose power may go, and what no Put touches. -/
namespace Go.Proofs.YtmblnflfklmmkaaGreatDoor.Sh
open Go.Proofs.YtmblnflfklmmkaaGreatDoor.Dk
open Go.RowKit Go.Proofs.YtmblnflfklmmkaaGreatDoorW.PrintWords Go.Proofs.YtmblnflfklmmkaaGreatDoorW.PrintLast Go.Proofs.YtmblnflfklmmkaaGreatDoorW.PrintMore
set_option linter.unusedVariables false
set_option linter.unusedSimpArgs false
set_option maxRecDepth 30000
variable {D D0 D1 D' : DM} {fr n q k g lo hi : Int} {x y b h : List Int}
theorem goes_same (D : DM) : (goesM D).1.sec = D.sec ∧ (goesM D).1.held = D.held ∧ (goesM D).1.down = D.down := by
  unfold goesM
  split
  · exact ⟨rfl, rfl, rfl⟩
  · split <;> exact ⟨rfl, rfl, rfl⟩
theorem lose_same (l : List Bool) (hd : D.down = false) : (loseM l D).down = true ∧ (loseM l D).held = [] ∧ ∃ keep, (loseM l D).sec = putsTo keep D.held D.sec D.held.length := by
  unfold loseM
  rw [hd, if_neg (by decide)]
  exact ⟨rfl, rfl, _, rfl⟩
theorem puts_each (keep : Nat → Bool) (H : List (Int × List Int)) (S : List (List Int)) (j : Nat) (hH : ∀ h ∈ H, 0 ≤ h.1) : ∀ n, n ≤ H.length → (putsTo keep H S n).getD j [] = S.getD j [] ∨ ∃ h ∈ H, h.1 = (j : Int) ∧ (putsTo keep H S n).getD j [] = h.2
  | 0, _ => .inl rfl
  | n + 1, hn => by
    have hm : H.getD n (0, []) ∈ H := by rw [List.getD_eq_getElem?_getD, List.getElem?_eq_getElem (by omega)]; exact List.getElem_mem (by omega)
    have ih := puts_each keep H S j hH n (by omega)
    rw [putsTo]
    cases keep n with
    | false => rw [if_neg (by decide)]; exact ih
    | true =>
      rw [if_pos rfl]
      by_cases hj : (H.getD n (0, [])).1.toNat = j
      · by_cases hs : j < (putsTo keep H S n).length
        · refine .inr ⟨_, hm, by have := hH _ hm; omega, ?_⟩
          rw [List.getD_eq_getElem?_getD, List.getElem?_set, if_pos hj, if_pos (by omega)]
          rfl
        · rw [List.getD_eq_getElem?_getD, List.getElem?_set, if_pos hj, if_neg (by omega)]
          refine .inl ?_
          rw [putsTo_length] at hs
          rw [List.getD_eq_getElem?_getD, List.getElem?_eq_none (by omega)]
      · rw [List.getD_eq_getElem?_getD, List.getElem?_set, if_neg hj, ← List.getD_eq_getElem?_getD]
        exact ih
/-! ### What no Put touches -/
structure Apt (D D' : DM) (lo hi : Int) : Prop where
  low : 0 ≤ lo
  len : D'.sec.length = D.sec.length
  out : ∀ j : Nat, ((j : Int) < lo ∨ hi ≤ (j : Int)) → D'.sec.getD j [] = D.sec.getD j []
  held : ∀ h ∈ D'.held, lo ≤ h.1 ∧ h.1 < hi
theorem Apt.puts (h : Apt D0 D lo hi) (keep : Nat → Bool) {D' : DM} (hs : D'.sec = putsTo keep D.held D.sec D.held.length) (hh : D'.held = []) : Apt D0 D' lo hi := by
  refine ⟨h.low, by rw [hs, putsTo_length, h.len], fun j hj => ?_, by rw [hh]; intro h hh; cases hh⟩
  rw [hs]
  rcases puts_each keep D.held D.sec j (fun y hy => by have := h.held y hy; have := h.low; omega) _ (Nat.le_refl _) with e | ⟨y, hy, h1, _⟩
  · rw [e]; exact h.out j hj
  · have := h.held y hy
    omega
theorem Apt.same (h : Apt D0 D lo hi) (hs : D'.sec = D.sec) (hh : D'.held = D.held) : Apt D0 D' lo hi := ⟨h.low, by rw [hs, h.len], by rw [hs]; exact h.out, by rw [hh]; exact h.held⟩
theorem Apt.goes (h : Apt D0 D lo hi) : Apt D0 (goesM D).1 lo hi := h.same (goes_same D).1 (goes_same D).2.1
theorem Apt.lose (h : Apt D0 D lo hi) (l : List Bool) : Apt D0 (loseM l D) lo hi := by
  cases hd : D.down with
  | true => unfold loseM; rw [if_pos hd]; exact h
  | false => obtain ⟨_, h2, keep, h3⟩ := lose_same l hd; exact h.puts keep h3 h2
theorem Apt.write (h : Apt D0 D lo hi) (h0 : lo ≤ k) (h1 : k < hi) : Apt D0 (writeM D k x).1 lo hi := by
  unfold writeM
  split
  · exact h
  split
  · exact h
  have hq : Apt D0 (holdM D k x) lo hi := ⟨h.low, h.len, h.out, fun y hy => by
    simp only [holdM, List.mem_append, List.mem_singleton] at hy
    rcases hy with hy | rfl
    · exact h.held y hy
    · exact ⟨h0, h1⟩⟩
  split
  · exact hq.goes.lose _
  · exact hq.goes
theorem Apt.flush (h : Apt D0 D lo hi) : Apt D0 (flushM D).1 lo hi := by
  unfold flushM
  split
  · exact h
  split
  · exact h.goes.lose _
  · exact h.goes.puts _ rfl rfl
theorem Apt.saveFrom (x : List Int) (q : Int) : ∀ (m i : Nat) (D : DM), Apt D0 D lo hi → lo ≤ q → q + i + m ≤ hi → Apt D0 (saveFrom x q m i D).1 lo hi
  | 0, _, _, h, _, _ => h
  | m + 1, i, D, h, h0, h1 => by
    rw [Dk.saveFrom]
    split
    · exact h.write (by omega) (by omega)
    · exact Apt.saveFrom x q m (i + 1) _ (h.write (by omega) (by omega)) h0 (by omega)
theorem Apt.step (h : Apt D0 D lo hi) (h0 : lo ≤ q) (h1 : q + (secN x : Nat) ≤ hi) : Apt D0 (stepM D q x).1 lo hi := by
  have hs : Apt D0 (saveM D q x).1 lo hi := by
    unfold saveM
    split
    · exact h
    · exact Apt.saveFrom x q _ 0 D h h0 (by unfold secN at h1; omega)
  unfold stepM
  split
  · exact hs
  · exact hs.flush
theorem Apt.put (hk : SOk D fr n) (h : Apt D0 D fr (fr + 2 * n)) : Apt D0 (putM D fr n x).1 fr (fr + 2 * n) := by
  have hn := hk.hn
  unfold putM
  split
  · exact h
  split
  · exact h
  split
  · exact h
  have hat := newest_at (D := D) (fr := fr) (n := n)
  have hom : otherM (newestM D fr n).1 = 0 ∨ otherM (newestM D fr n).1 = 1 := by unfold otherM; split <;> simp
  have hon : 0 ≤ otherM (newestM D fr n).1 * n ∧ otherM (newestM D fr n).1 * n ≤ n := by rcases hom with h | h <;> rw [h] <;> omega
  have hsx : (secN x : Int) ≤ n - 1 := by unfold secN; omega
  rw [toM_eq]
  have z1 : secN zer64 = 1 := secN_64 zer64_len
  have a := h.step (q := fr + otherM (newestM D fr n).1 * n) (x := zer64) (by omega) (by rw [z1]; omega)
  unfold put3
  split
  · exact a
  have b := a.step (q := fr + otherM (newestM D fr n).1 * n + 1) (x := x) (by omega) (by omega)
  split
  · exact b
  · exact b.step (by omega) (by rw [secN_64 (headM_length _ _)]; omega)
theorem Apt.refl (D : DM) (h0 : 0 ≤ lo) (hh : D.held = []) : Apt D D lo hi := ⟨h0, rfl, fun _ _ => rfl, by rw [hh]; intro h hh; cases hh⟩
/-! ### A Put whose power may go -/
end Go.Proofs.YtmblnflfklmmkaaGreatDoor.Sh
/- Plain facts: the program's digest of bytes is the reference's. -/
namespace Go.Proofs.YtmblnflfklmmkaaGreatDoor.Sh
open Go.Proofs.YtmblnflfklmmkaaGreatDoor.Dk Go.Proofs.YtmblnflfklmmkaaGreatDoor.P
open Go.RowKit Go.Proofs.YtmblnflfklmmkaaGreatDoorW.PrintWords Go.Proofs.YtmblnflfklmmkaaGreatDoorW.PrintLast Go.Proofs.YtmblnflfklmmkaaGreatDoorW.PrintMore
set_option linter.unusedVariables false
set_option linter.unusedSimpArgs false
set_option maxRecDepth 30000
def AllB (l : List Int) : Prop := ∀ x ∈ l, 0 ≤ x ∧ x ≤ 255
theorem AllB.get {l : List Int} (h : AllB l) (i : Nat) : 0 ≤ l.getD i 0 ∧ l.getD i 0 ≤ 255 := by
  rw [List.getD_eq_getElem?_getD]
  cases hx : l[i]? with
  | none => exact ⟨by decide, by decide⟩
  | some x => exact h x (List.mem_of_getElem? hx)
theorem AllB.take {l : List Int} (h : AllB l) (n : Nat) : AllB (l.take n) := fun x hx => h x (List.mem_of_mem_take hx)
theorem AllB.drop {l : List Int} (h : AllB l) (n : Nat) : AllB (l.drop n) := fun x hx => h x (List.mem_of_mem_drop hx)
theorem AllB.app {l m : List Int} (h : AllB l) (h2 : AllB m) : AllB (l ++ m) := fun x hx => (List.mem_append.1 hx).elim (h x) (h2 x)
theorem beM_B : ∀ (m : Nat) (n : Int), AllB (beM m n)
  | 0, n => by rw [beM]; intro x hx; cases hx
  | m + 1, n => by
    rw [beM]
    refine (beM_B m _).app (fun x hx => ?_)
    rw [List.mem_singleton] at hx
    omega
theorem zeros_B (n : Nat) : AllB (List.replicate n 0) := fun x hx => by
  rw [(List.mem_replicate.1 hx).2]
  exact ⟨by decide, by decide⟩
theorem padM_B (n : Nat) : AllB (padM n) := by
  rw [padM_eq]
  refine (AllB.app ?_ (zeros_B _)).app (beM_B _ _)
  intro x hx
  rw [List.mem_singleton] at hx
  omega
/-! ### Words of a block -/
theorem in1_eq {x c : Int} (h0 : 0 ≤ x) (h1 : x < 16777216) (c0 : 0 ≤ c) (c1 : c ≤ 255) : in1 x c = x * 256 + c := by
  obtain ⟨a, rfl⟩ := Int.eq_ofNat_of_zero_le h0
  obtain ⟨c, rfl⟩ := Int.eq_ofNat_of_zero_le c0
  have e1 : (a : Int) * 256 % 4294967296 = ((a * 256 : Nat) : Int) := by omega
  have e2 : (c : Int) % 4294967296 = (c : Int) := by omega
  have hor : (a * 256) ||| c = a * 256 + c := by
    have := Nat.shiftLeft_add_eq_or_of_lt (b := c) (i := 8) (by omega) a
    rw [Nat.shiftLeft_eq] at this
    exact this.symm
  unfold in1
  rw [e1, e2, u32_or_nat _ _ (by omega) (by omega), hor]
  omega
theorem inU_eq {x c : Int} (h0 : 0 ≤ x) (h1 : x < 16777216) (c0 : 0 ≤ c) (c1 : c ≤ 255) : inU x c = x * 256 + c := by
  unfold inU
  rw [wrap64u, wrap64u, wrap64u]
  omega
def inV (b : List Int) (t : Nat) (x : Int) : Nat → Int
  | 0 => x
  | j + 1 => in1 (inV b t x j) (b.getD (t * 4 + j) 0)
theorem inR_eq (b : List Int) (t : Nat) (xs : List Int) (ht : t < xs.length) : ∀ j, inR b t xs j = xs.set t (inV b t (xs.getD t 0) j)
  | 0 => by
    rw [inR, inV, List.getD_eq_getElem?_getD, List.getElem?_eq_getElem ht, Option.getD_some, List.set_getElem_self]
  | j + 1 => by
    have e : (xs.set t (inV b t (xs.getD t 0) j)).getD t 0 = inV b t (xs.getD t 0) j := by
      rw [List.getD_eq_getElem?_getD, List.getElem?_set, if_pos rfl, if_pos ht]
      rfl
    rw [inR, inR_eq b t xs ht j, e, List.set_set, inV]
theorem inV_w4 {b : List Int} (hb : AllB b) (t : Nat) : inV b t 0 4 = w4R b t ∧ W32 (w4R b t) := by
  have b0 := hb.get (t * 4)
  have b1 := hb.get (t * 4 + 1)
  have b2 := hb.get (t * 4 + 2)
  have b3 := hb.get (t * 4 + 3)
  have e1 : inV b t 0 4 = in1 (in1 (in1 (in1 0 (b.getD (t * 4) 0)) (b.getD (t * 4 + 1) 0)) (b.getD (t * 4 + 2) 0)) (b.getD (t * 4 + 3) 0) := rfl
  unfold w4R
  rw [e1]
  generalize b.getD (t * 4) 0 = y0 at b0 ⊢
  generalize b.getD (t * 4 + 1) 0 = y1 at b1 ⊢
  generalize b.getD (t * 4 + 2) 0 = y2 at b2 ⊢
  generalize b.getD (t * 4 + 3) 0 = y3 at b3 ⊢
  rw [in1_eq (by decide) (by decide) b0.1 b0.2, in1_eq (by omega) (by omega) b1.1 b1.2, in1_eq (by omega) (by omega) b2.1 b2.2, in1_eq (by omega) (by omega) b3.1 b3.2]
  rw [inU_eq (by decide) (by decide) b0.1 b0.2, inU_eq (by omega) (by omega) b1.1 b1.2, inU_eq (by omega) (by omega) b2.1 b2.2, inU_eq (by omega) (by omega) b3.1 b3.2]
  exact ⟨rfl, by constructor <;> omega⟩
theorem set_next (l : List Int) (n : Nat) (t : Nat) (hl : l.length = t) (x : Int) : (l ++ List.replicate (n + 1) 0).set t x = (l ++ [x]) ++ List.replicate n 0 := by
  rw [List.set_append_right _ _ (by omega), hl, Nat.sub_self, List.replicate_succ, List.set_cons_zero, List.append_assoc]
  rfl
theorem wordsA_eq {b : List Int} (hb : AllB b) : ∀ t, t ≤ 16 → wordsA b t = expR b t ++ List.replicate (80 - t) 0
  | 0, _ => rfl
  | t + 1, ht => by
    have hl := expR_length b t
    have e0 : (expR b t ++ List.replicate (80 - t) (0 : Int)).getD t 0 = 0 := by
      rw [List.getD_eq_getElem?_getD, List.getElem?_append_right (by omega), List.getElem?_replicate]
      split <;> rfl
    rw [wordsA, wordsA_eq hb t (by omega), inR_eq _ _ _ (by rw [List.length_append, hl, List.length_replicate]; omega), e0, (inV_w4 hb t).1, show 80 - t = (80 - (t + 1)) + 1 by omega, set_next _ _ _ hl, expR, if_pos (by omega)]
theorem small_same {x a b c : Int} (hx : W32 x) (a0 : 0 ≤ a) (a1 : a ≤ 32) (b0 : 0 ≤ b) (b1 : b ≤ 32) (c0 : 0 ≤ c) (c1 : c ≤ 32) : smallR x a b c = smallM x a b c :=
  Option.some.inj ((small_some x a0 a1 b0 b1 c0).symm.trans (ref_small hx a0 a1 b0 b1 c0 c1))
theorem AllW.snoc {l : List Int} {x : Int} (h : ∀ y ∈ l, W32 y) (hx : W32 x) : ∀ y ∈ l ++ [x], W32 y := fun y hy => by
  rcases List.mem_append.1 hy with h' | h'
  · exact h y h'
  · rw [List.mem_singleton] at h'
    rw [h']
    exact hx
theorem nxt_same {l : List Int} (hl : AllW l) (t : Nat) : nxtR l t = mixW (l.getD (t - 16) 0) (l.getD (t - 15) 0) (l.getD (t - 7) 0) (l.getD (t - 2) 0) ∧ W32 (nxtR l t) := by
  unfold nxtR mixW
  rw [small_same (hl _) (by decide) (by decide) (by decide) (by decide) (by decide) (by decide), small_same (hl _) (by decide) (by decide) (by decide) (by decide) (by decide) (by decide)]
  have s15 := smallM_W (l.getD (t - 15) 0) 7 18 3
  have s2 := smallM_W (l.getD (t - 2) 0) 17 19 10
  have x16 := hl (t - 16)
  have x7 := hl (t - 7)
  generalize smallM (l.getD (t - 15) 0) 7 18 3 = a at s15 ⊢
  generalize smallM (l.getD (t - 2) 0) 17 19 10 = b at s2 ⊢
  generalize l.getD (t - 16) 0 = c at x16 ⊢
  generalize l.getD (t - 7) 0 = d at x7 ⊢
  obtain ⟨a0, a1⟩ := s15
  obtain ⟨b0, b1⟩ := s2
  obtain ⟨c0, c1⟩ := x16
  obtain ⟨d0, d1⟩ := x7
  rw [wrap64u, wrap64u, wrap64u, wrap32, wrap32, wrap32, Int.tmod_eq_emod_of_nonneg (by omega)]
  exact ⟨by omega, by constructor <;> omega⟩
theorem exp_W {b : List Int} (hb : AllB b) : ∀ t, ∀ y ∈ expR b t, W32 y
  | 0 => fun y hy => by cases hy
  | t + 1 => by
    have ih := exp_W hb t
    rw [expR]
    refine AllW.snoc ih ?_
    split
    · exact (inV_w4 hb t).2
    · exact (nxt_same (AllW.of ih) t).2
theorem getD_left {l m : List Int} {i : Nat} (h : i < l.length) : (l ++ m).getD i 0 = l.getD i 0 := by
  rw [List.getD_eq_getElem?_getD, List.getElem?_append_left h, ← List.getD_eq_getElem?_getD]
theorem wordsB_eq {b : List Int} (hb : AllB b) : ∀ k, k ≤ 48 → wordsB b k = expR b (16 + k) ++ List.replicate (64 - k) 0
  | 0, _ => wordsA_eq hb 16 (by decide)
  | k + 1, hk => by
    have hl := expR_length b (16 + k)
    have hw := nxt_same (AllW.of (exp_W hb (16 + k))) (16 + k)
    rw [wordsB, wordsB_eq hb k (by omega), getD_left (by omega), getD_left (by omega), getD_left (by omega), getD_left (by omega)]
    rw [show 16 + k - 16 = k by omega, show 16 + k - 15 = k + 1 by omega, show 16 + k - 7 = k + 9 by omega, show 16 + k - 2 = k + 14 by omega] at hw
    rw [← hw.1, show k + 16 = 16 + k by omega, show 64 - k = (64 - (k + 1)) + 1 by omega, set_next _ _ _ hl, show 16 + (k + 1) = (16 + k) + 1 by omega, expR, if_neg (by omega)]
theorem words_same {b : List Int} (hb : AllB b) (i : Nat) (hi : i < 64) : (wordsM b).getD i 0 = (expR b 64).getD i 0 := by
  unfold wordsM
  rw [wordsB_eq hb 48 (by decide)]
  exact getD_left (by rw [expR_length]; omega)
/-! ### Rounds and blocks -/
theorem roundM_W {v : List Int} (hv : AllW v) (k x : Int) : AllW (roundM v k x) := AllW.of fun y hy => by
  unfold roundM at hy
  simp only [List.mem_cons, List.not_mem_nil, or_false] at hy
  rcases hy with rfl | rfl | rfl | rfl | rfl | rfl | rfl | rfl
  · exact .mod _
  · exact hv 0
  · exact hv 1
  · exact hv 2
  · exact .mod _
  · exact hv 4
  · exact hv 5
  · exact hv 6
theorem rounds_same {h ws ws' : List Int} (hh : AllW h) (hl : h.length = 8) (hw : AllW ws') (he : ∀ i, i < 64 → ws.getD i 0 = ws'.getD i 0) : ∀ t, t ≤ 64 → roundsM h ws t = roundsR h ws' t ∧ AllW (roundsR h ws' t)
  | 0, _ => ⟨rfl, hh⟩
  | t + 1, ht => by
    obtain ⟨i1, i2⟩ := rounds_same hh hl hw he t (by omega)
    have e : roundR (roundsR h ws' t) (constsL.getD t 0) (ws'.getD t 0) = roundM (roundsR h ws' t) (kM t) (ws'.getD t 0) := by
      unfold roundR
      rw [ref_round i2 (roundsR_length hl t) (hw t)]
      rfl
    rw [roundsM, roundsR, i1, e, he t (by omega)]
    exact ⟨rfl, roundM_W i2 _ _⟩
theorem list8 {l : List Int} (h : l.length = 8) : ∃ a b c d e f g i, l = [a, b, c, d, e, f, g, i] := by
  match l, h with
  | [a, b, c, d, e, f, g, i], _ => exact ⟨a, b, c, d, e, f, g, i, rfl⟩
theorem add_same {a b : Int} (ha : W32 a) (hb : W32 b) : Int.tmod (IntKind.u64.wrap (a + b)) 4294967296 = IntKind.u32.wrap (a + b) := by
  obtain ⟨a0, a1⟩ := ha
  obtain ⟨b0, b1⟩ := hb
  rw [wrap64u, wrap32, Int.tmod_eq_emod_of_nonneg (by omega)]
  omega
theorem next_same {h v : List Int} (hl : h.length = 8) (hh : AllW h) (hv : AllW v) : nextR h v 8 = addR h v 8 ∧ AllW (nextR h v 8) := by
  have e0 := add_same (hh 0) (hv 0)
  have e1 := add_same (hh 1) (hv 1)
  have e2 := add_same (hh 2) (hv 2)
  have e3 := add_same (hh 3) (hv 3)
  have e4 := add_same (hh 4) (hv 4)
  have e5 := add_same (hh 5) (hv 5)
  have e6 := add_same (hh 6) (hv 6)
  have e7 := add_same (hh 7) (hv 7)
  have en : nextR h v 8 = [IntKind.u32.wrap (h.getD 0 0 + v.getD 0 0), IntKind.u32.wrap (h.getD 1 0 + v.getD 1 0), IntKind.u32.wrap (h.getD 2 0 + v.getD 2 0), IntKind.u32.wrap (h.getD 3 0 + v.getD 3 0), IntKind.u32.wrap (h.getD 4 0 + v.getD 4 0), IntKind.u32.wrap (h.getD 5 0 + v.getD 5 0), IntKind.u32.wrap (h.getD 6 0 + v.getD 6 0), IntKind.u32.wrap (h.getD 7 0 + v.getD 7 0)] := by
    rw [← e0, ← e1, ← e2, ← e3, ← e4, ← e5, ← e6, ← e7]
    rfl
  refine ⟨?_, ?_⟩
  · rw [en]
    obtain ⟨a, b, c, d, e, f, g, i, rfl⟩ := list8 hl
    rfl
  · rw [en]
    refine AllW.of fun y hy => ?_
    simp only [List.mem_cons, List.not_mem_nil, or_false] at hy
    rcases hy with rfl | rfl | rfl | rfl | rfl | rfl | rfl | rfl <;> (rw [wrap32]; exact .mod _)
theorem block_same {h b : List Int} (hl : h.length = 8) (hh : AllW h) (hb : AllB b) : blockR h b = mixM h b ∧ AllW (blockR h b) := by
  obtain ⟨r1, r2⟩ := rounds_same (ws := wordsM b) hh hl (AllW.of (exp_W hb 64)) (fun i hi => words_same hb i hi) 64 (by decide)
  unfold blockR mixM
  rw [r1]
  exact next_same hl hh r2
/-! ### Whole texts -/
theorem foldR_front (xs hv : List Int) : ∀ n, foldR xs hv (n + 1) = foldR (xs.drop 64) (blockR hv (xs.take 64)) n
  | 0 => by
    rw [foldR, foldR, foldR, Nat.zero_mul, List.drop_zero]
  | n + 1 => by
    rw [foldR, foldR_front xs hv n, foldR, List.drop_drop]
    rw [show 64 + n * 64 = (n + 1) * 64 by omega]
theorem takeF_fold : ∀ (n : Nat) (hv xs : List Int), xs.length / 64 = n → hv.length = 8 → AllW hv → AllB xs → (takeF hv xs).1 = foldR xs hv n
  | 0, hv, xs, hn, _, _, _ => by rw [takeF_lt (by omega)]; rfl
  | n + 1, hv, xs, hn, hl, hw, hb => by
    obtain ⟨b1, b2⟩ := block_same (b := xs.take 64) hl hw (hb.take 64)
    rw [takeF_ge (by omega), foldR_front, ← b1]
    exact takeF_fold n _ _ (by rw [List.length_drop]; omega) (blockR_length _ _) b2 (hb.drop 64)
theorem takeF_app : ∀ (n : Nat) (hv x y : List Int), x.length / 64 = n → takeF (takeF hv x).1 ((takeF hv x).2 ++ y) = takeF hv (x ++ y)
  | 0, hv, x, y, hn => by rw [takeF_lt (xs := x) (by omega)]
  | n + 1, hv, x, y, hn => by
    rw [takeF_ge (xs := x) (by omega), takeF_app n _ _ y (by rw [List.length_drop]; omega), takeF_ge (xs := x ++ y) (by rw [List.length_append]; omega)]
    rw [List.take_append_of_le_length (by omega), List.drop_append_of_le_length (by omega)]
theorem start_same : startR startsL 8 = begin32L := by kernel_rfl
theorem begin_W : AllW begin32L := AllW.of (by
  have : ∀ x ∈ startR startsL 8, 0 ≤ x ∧ x < 4294967296 := by
    rw [start_same]
    have e : begin32L = [1779033703, 3144134277, 1013904242, 2773480762, 1359893119, 2600822924, 528734635, 1541459225] := by kernel_rfl
    rw [e]
    decide
  rw [start_same] at this
  exact this)
theorem tell_same {h : List Int} (hl : h.length = 8) : tellM h = tellR h 8 := by
  obtain ⟨a, b, c, d, e, f, g, i, rfl⟩ := list8 hl
  rfl
/-- The program's digest of two texts is the reference's of both together. -/
theorem digest_same {x y : List Int} (hx : AllB x) (hy : AllB y) : digestM x y = hashR (x ++ y) := by
  unfold digestM sumM
  rw [takeF_app _ begin32L x y rfl, takeF_app _ begin32L (x ++ y) _ rfl]
  have hb : AllB ((x ++ y) ++ padM (x.length + y.length)) := (hx.app hy).app (padM_B _)
  have hl8 : begin32L.length = 8 := by rw [← start_same, startR_length]; rfl
  rw [takeF_fold _ begin32L _ rfl hl8 begin_W hb, tell_same (foldR_length hl8 _)]
  unfold hashR
  rw [start_same, List.length_append, List.length_append, padM_length]
end Go.Proofs.YtmblnflfklmmkaaGreatDoor.Sh
/- Plain facts: a disk's bytes are bytes, whatever is played upon it. -/
namespace Go.Proofs.YtmblnflfklmmkaaGreatDoor.Sh
open Go.Proofs.YtmblnflfklmmkaaGreatDoor.Dk
open Go.RowKit Go.Proofs.YtmblnflfklmmkaaGreatDoorW.PrintWords Go.Proofs.YtmblnflfklmmkaaGreatDoorW.PrintLast Go.Proofs.YtmblnflfklmmkaaGreatDoorW.PrintMore
set_option linter.unusedVariables false
set_option linter.unusedSimpArgs false
set_option maxRecDepth 30000
variable {D D' : DM} {fr n q k g : Int} {x y b h : List Int}
structure DB (D : DM) : Prop where
  sec : ∀ s ∈ D.sec, AllB s
  held : ∀ h ∈ D.held, AllB h.2
theorem puts_B (keep : Nat → Bool) (H : List (Int × List Int)) (S : List (List Int)) (hS : ∀ s ∈ S, AllB s) (hH : ∀ h ∈ H, AllB h.2) : ∀ n, ∀ s ∈ putsTo keep H S n, AllB s
  | 0 => hS
  | n + 1 => by
    have ih := puts_B keep H S hS hH n
    rw [putsTo]
    split
    · intro s hs
      rcases List.mem_or_eq_of_mem_set hs with h | h
      · exact ih s h
      · rw [h, List.getD_eq_getElem?_getD]
        cases hx : H[n]? with
        | none => intro z hz; cases hz
        | some p => exact hH p (List.mem_of_getElem? hx)
    · exact ih
theorem DB.same (h : DB D) (hs : D'.sec = D.sec) (hh : D'.held = D.held) : DB D' := ⟨by rw [hs]; exact h.sec, by rw [hh]; exact h.held⟩
theorem DB.puts (h : DB D) (keep : Nat → Bool) (hs : D'.sec = putsTo keep D.held D.sec D.held.length) (hh : D'.held = []) : DB D' := ⟨by rw [hs]; exact puts_B keep _ _ h.sec h.held _, by rw [hh]; intro h hh; cases hh⟩
theorem DB.goes (h : DB D) : DB (goesM D).1 := h.same (goes_same D).1 (goes_same D).2.1
theorem DB.lose (h : DB D) (l : List Bool) : DB (loseM l D) := by
  cases hd : D.down with
  | true => unfold loseM; rw [if_pos hd]; exact h
  | false => obtain ⟨_, h2, keep, h3⟩ := lose_same l hd; exact h.puts keep h3 h2
theorem DB.start (h : DB D) : DB (startM D) := h.same rfl rfl
theorem DB.set (h : DB D) (m : Int) (l : List Bool) : DB (setM D m l).1 := by
  unfold setM
  split
  · exact h
  · split
    · exact h
    · exact h.same rfl rfl
theorem DB.write (h : DB D) (hx : AllB x) : DB (writeM D k x).1 := by
  unfold writeM
  split
  · exact h
  split
  · exact h
  have hq : DB (holdM D k x) := ⟨h.sec, fun y hy => by
    simp only [holdM, List.mem_append, List.mem_singleton] at hy
    rcases hy with hy | rfl
    · exact h.held y hy
    · exact hx⟩
  split
  · exact hq.goes.lose _
  · exact hq.goes
theorem DB.flush (h : DB D) : DB (flushM D).1 := by
  unfold flushM
  split
  · exact h
  split
  · exact h.goes.lose _
  · exact h.goes.puts _ rfl rfl
theorem secAt_B (hx : AllB x) (i : Nat) : AllB (secAt x i) := ((hx.drop _).take _).app (zeros_B _)
theorem DB.saveFrom (hx : AllB x) (q : Int) : ∀ (m i : Nat) (D : DM), DB D → DB (saveFrom x q m i D).1
  | 0, _, _, h => h
  | m + 1, i, D, h => by
    rw [Dk.saveFrom]
    split
    · exact h.write (secAt_B hx i)
    · exact DB.saveFrom hx q m (i + 1) _ (h.write (secAt_B hx i))
theorem DB.save (h : DB D) (hx : AllB x) : DB (saveM D q x).1 := by
  unfold saveM
  split
  · exact h
  · exact DB.saveFrom hx q _ 0 D h
theorem DB.step (h : DB D) (hx : AllB x) : DB (stepM D q x).1 := by
  unfold stepM
  split
  · exact h.save hx
  · exact (h.save hx).flush
theorem tellM_B (hv : List Int) : AllB (tellM hv) := fun z hz => by
  unfold tellM at hz
  obtain ⟨a, _, ha⟩ := List.mem_flatMap.1 hz
  simp only [tell1, List.mem_cons, List.not_mem_nil, or_false] at ha
  rcases ha with rfl | rfl | rfl | rfl <;> omega
theorem headM_B (g : Int) (x : List Int) : AllB (headM g x) := by
  rw [headM_eq]
  refine ((AllB.app (AllB.app (AllB.app ?_ (beM_B _ _)) (beM_B _ _)) ?_).app (zeros_B _))
  · intro z hz
    simp only [List.mem_cons, List.not_mem_nil, or_false] at hz
    rcases hz with rfl | rfl | rfl | rfl <;> decide
  · unfold digestM sumM
    exact tellM_B _
theorem DB.put (h : DB D) (hx : AllB x) : DB (putM D fr n x).1 := by
  unfold putM
  split
  · exact h
  split
  · exact h
  split
  · exact h
  have a := h.step (q := toM fr n (newestM D fr n).1) (x := zer64) (zeros_B 64)
  unfold put3
  split
  · exact a
  have b := a.step (q := toM fr n (newestM D fr n).1 + 1) hx
  split
  · exact b
  · exact b.step (headM_B _ _)
theorem DB.new (hx : AllB x) (m i : Nat) : DB (newM x m i) := ⟨fun s hs => by
    have hs' : s ∈ secTo x m i := hs
    unfold secTo at hs'
    rcases List.mem_append.1 hs' with h | h
    · obtain ⟨j, _, rfl⟩ := List.mem_map.1 h
      exact secAt_B hx j
    · rw [(List.mem_replicate.1 h).2]
      exact zeros_B 64, fun h hh => by cases hh⟩
/-- What is read of such a disk. -/
theorem DB.read (h : DB D) (k : Int) : AllB (readM D k) := by
  unfold readM
  have : ∀ i, AllB (readTo k D.held (D.sec.getD k.toNat []) i) := by
    intro i
    induction i with
    | zero =>
      rw [readTo, List.getD_eq_getElem?_getD]
      cases hx : D.sec[k.toNat]? with
      | none => intro z hz; cases hz
      | some s => exact h.sec s (List.mem_of_getElem? hx)
    | succ i ih =>
      rw [readTo]
      split
      · rw [List.getD_eq_getElem?_getD]
        cases hx : D.held[i]? with
        | none => intro z hz; cases hz
        | some p => exact h.held p (List.mem_of_getElem? hx)
      · exact ih
  exact this _
theorem DB.reads (h : DB D) (k : Int) : ∀ m, AllB (readsTo D k m)
  | 0 => fun z hz => by cases hz
  | m + 1 => by rw [readsTo]; exact (DB.reads h k m).app (h.read _)
end Go.Proofs.YtmblnflfklmmkaaGreatDoor.Sh
/- Plain facts: the program's disk and store beside the reference's. -/
namespace Go.Proofs.YtmblnflfklmmkaaGreatDoor.Sh
open Go.Proofs.YtmblnflfklmmkaaGreatDoor.Dk
open Go.RowKit Go.Proofs.YtmblnflfklmmkaaGreatDoorW.PrintWords Go.Proofs.YtmblnflfklmmkaaGreatDoorW.PrintLast Go.Proofs.YtmblnflfklmmkaaGreatDoorW.PrintMore
set_option linter.unusedVariables false
set_option linter.unusedSimpArgs false
set_option maxRecDepth 30000
variable {D D' : DM} {R R' : RM} {fr n q k g : Int} {x y b h : List Int}
/-- The disks beside each other. -/
structure Sim (D : DM) (R : RM) : Prop where
  sec : R.sec = D.sec
  wait : R.wait = D.held
  down : R.down = D.down
  str : R.strokes = D.strokes
  pw : D.down = false → (D.set = false ∧ R.left = -1) ∨ (D.set = true ∧ 0 ≤ D.left ∧ R.left = D.left ∧ R.choice = D.choice)
theorem Sim.new (x : List Int) (m : Nat) : Sim (newM x m m) (rnewM ((List.range m).map (secAt x))) :=
  ⟨by simp [rnewM, newM, secTo], rfl, rfl, rfl, fun _ => .inl ⟨rfl, rfl⟩⟩
theorem Sim.start (h : Sim D R) : Sim (startM D) (rstartM R) := ⟨h.sec, h.wait, rfl, h.str, fun _ => .inl ⟨rfl, rfl⟩⟩
theorem Sim.set (h : Sim D R) (m : Int) (l : List Bool) : Sim (setM D m l).1 (rsetM R m l) ∧ (setM D m l).2 = rsetE m l := by
  unfold setM rsetM rsetE
  split
  · exact ⟨h, rfl⟩
  rename_i hm
  split
  · exact ⟨h, rfl⟩
  · exact ⟨⟨h.sec, h.wait, h.down, h.str, fun _ => .inr ⟨rfl, by show 0 ≤ m; omega, rfl, rfl⟩⟩, rfl⟩
theorem putsTo_keep {f f' : Nat → Bool} (hf : ∀ i, f i = f' i) (K : List (Int × List Int)) (L : List (List Int)) : ∀ n, putsTo f K L n = putsTo f' K L n
  | 0 => rfl
  | n + 1 => by rw [putsTo, putsTo, hf n, putsTo_keep hf K L n]
theorem keep_same (l : List Bool) (i : Nat) : chB (l.take 4096) i = rkeep l i := by
  unfold chB rkeep chB
  rw [List.getD_eq_getElem?_getD, List.getD_eq_getElem?_getD, List.getElem?_take]
  split
  · rename_i hi
    rw [decide_eq_true hi, Bool.true_and]
  · rename_i hi
    rw [decide_eq_false hi]
    rfl
/-- Beside each other but for the power. -/
structure Sim0 (D : DM) (R : RM) : Prop where
  sec : R.sec = D.sec
  wait : R.wait = D.held
  down : R.down = D.down
  str : R.strokes = D.strokes
theorem Sim.sim0 (h : Sim D R) : Sim0 D R := ⟨h.sec, h.wait, h.down, h.str⟩
theorem Sim0.lose (h : Sim0 D R) (hd : D.down = false) (l : List Bool) : Sim (loseM l D) (rloseM l R) := by
  unfold loseM rloseM
  rw [if_neg (by rw [hd]; decide), if_neg (by rw [h.down, hd]; decide)]
  refine ⟨?_, rfl, rfl, h.str, fun h => by cases h⟩
  show putsTo (rkeep l) R.wait R.sec R.wait.length = putsTo (chB (l.take 4096)) D.held D.sec D.held.length
  rw [h.wait, h.sec]
  exact (putsTo_keep (keep_same l) _ _ _).symm
theorem Sim.lose (h : Sim D R) (l : List Bool) : Sim (loseM l D) (rloseM l R) := by
  cases hd : D.down with
  | false => exact h.sim0.lose hd l
  | true =>
    unfold loseM rloseM
    rw [if_pos hd, if_pos (h.down.trans hd)]
    exact h
theorem Sim.stroke (h : Sim D R) (hd : D.down = false) : ((goesM D).2 = false ∧ (strokeM R).2 = false ∧ Sim (goesM D).1 (strokeM R).1) ∨ ((goesM D).2 = true ∧ (strokeM R).2 = true ∧ Sim0 (goesM D).1 (strokeM R).1 ∧ (goesM D).1.down = false ∧ (strokeM R).1.choice = (goesM D).1.choice) := by
  have hs := h.str
  rcases h.pw hd with ⟨h1, h2⟩ | ⟨h1, h2, h3, h4⟩
  · have e1 : goesM D = ({ D with strokes := wrap64 (D.strokes + 1) }, false) := by unfold goesM; rw [if_pos h1]
    have e2 : strokeM R = ({ R with strokes := wrap64 (R.strokes + 1), left := -1 }, false) := by unfold strokeM; rw [h2, if_neg (by decide), if_pos (by decide)]
    rw [e1, e2]
    exact .inl ⟨rfl, rfl, h.sec, h.wait, h.down, congrArg (fun z => wrap64 (z + 1)) hs, fun _ => .inl ⟨h1, rfl⟩⟩
  · by_cases h0 : D.left > 0
    · have e1 : goesM D = ({ D with strokes := wrap64 (D.strokes + 1), left := D.left - 1 }, false) := by unfold goesM; rw [if_neg (by rw [h1]; decide), if_pos h0]
      have e2 : strokeM R = ({ R with strokes := wrap64 (R.strokes + 1), left := R.left - 1 }, false) := by unfold strokeM; rw [if_neg (by omega), if_neg (by omega)]
      rw [e1, e2]
      exact .inl ⟨rfl, rfl, h.sec, h.wait, h.down, congrArg (fun z => wrap64 (z + 1)) hs, fun _ => .inr ⟨h1, by show 0 ≤ D.left - 1; omega, by show R.left - 1 = D.left - 1; rw [h3], h4⟩⟩
    · have e1 : goesM D = ({ D with strokes := wrap64 (D.strokes + 1) }, true) := by unfold goesM; rw [if_neg (by rw [h1]; decide), if_neg h0]
      have e2 : strokeM R = ({ R with strokes := wrap64 (R.strokes + 1), left := R.left - 1 }, true) := by unfold strokeM; rw [if_pos (by omega)]
      rw [e1, e2]
      exact .inr ⟨rfl, rfl, ⟨h.sec, h.wait, h.down, congrArg (fun z => wrap64 (z + 1)) hs⟩, hd, h4⟩
theorem at_same (h : Sim D R) (q : Int) : thereM R q = atM D q := by
  unfold thereM atM
  rw [h.down, h.sec]
theorem Sim.hold (h : Sim D R) (q : Int) (x : List Int) : Sim (holdM D q x) (rholdM R q x) := ⟨h.sec, by show R.wait ++ _ = D.held ++ _; rw [h.wait], h.down, h.str, h.pw⟩
theorem atM_up (h : atM D q = 0) : D.down = false := by
  cases hd : D.down with
  | false => rfl
  | true => unfold atM at h; rw [if_pos hd] at h; exact absurd h (by decide)
theorem Sim.write (h : Sim D R) (q : Int) (x : List Int) : Sim (writeM D q x).1 (rwriteM R q x).1 ∧ (writeM D q x).2 = (rwriteM R q x).2 := by
  unfold writeM rwriteM
  rw [at_same h]
  split
  · exact ⟨h, rfl⟩
  rename_i ha
  split
  · exact ⟨h, rfl⟩
  have hd : D.down = false := atM_up (q := q) (by simpa using ha)
  rcases (h.hold q x).stroke hd with ⟨h1, h2, h3⟩ | ⟨h1, h2, h3, h4, h5⟩
  · rw [h1, h2, if_neg (by decide), if_neg (by decide)]
    exact ⟨h3, rfl⟩
  · rw [h1, h2, if_pos rfl, if_pos rfl, h5]
    exact ⟨h3.lose h4 _, rfl⟩
theorem Sim.flush (h : Sim D R) : Sim (flushM D).1 (rflushM R).1 ∧ (flushM D).2 = (rflushM R).2 := by
  unfold flushM rflushM
  rw [h.down]
  split
  · exact ⟨h, rfl⟩
  rename_i hd
  have hd : D.down = false := by simpa using hd
  rcases h.stroke hd with ⟨h1, h2, h3⟩ | ⟨h1, h2, h3, h4, h5⟩
  · rw [h1, h2, if_neg (by decide), if_neg (by decide)]
    refine ⟨⟨?_, rfl, h3.down, h3.str, h3.pw⟩, rfl⟩
    show putsTo allT (strokeM R).1.wait (strokeM R).1.sec (strokeM R).1.wait.length = putsTo (fun _ => true) (goesM D).1.held (goesM D).1.sec (goesM D).1.held.length
    rw [h3.wait, h3.sec]
    rfl
  · rw [h1, h2, if_pos rfl, if_pos rfl, h5]
    exact ⟨h3.lose h4 _, rfl⟩
theorem span_same (h : Sim D R) (q : Int) (m : Nat) : rspanM R q m = spanM D q m := by
  unfold rspanM spanM
  rw [h.down, h.sec, need_nat]
  have : (q < 0 ∨ (D.sec.length : Int) < q ∨ 64 * ((D.sec.length : Int) - q) < (m : Int)) ↔ (q < 0 ∨ (D.sec.length : Int) < q ∨ (D.sec.length : Int) - q < (((m + 63) / 64 : Nat) : Int)) := by omega
  simp only [this]
theorem Sim.saveFrom (x : List Int) (q : Int) : ∀ (m i : Nat) (D : DM) (R : RM), Sim D R → Sim (saveFrom x q m i D).1 (rsaveFrom x q m i R).1 ∧ (Dk.saveFrom x q m i D).2 = (rsaveFrom x q m i R).2
  | 0, _, _, _, h => ⟨h, rfl⟩
  | m + 1, i, D, R, h => by
    have hw := h.write (q + i) (secAt x i)
    rw [Dk.saveFrom, rsaveFrom, ← hw.2]
    split
    · exact hw
    · exact Sim.saveFrom x q m (i + 1) _ _ hw.1
theorem Sim.save (h : Sim D R) (q : Int) (x : List Int) : Sim (saveM D q x).1 (rsaveM R q x).1 ∧ (saveM D q x).2 = (rsaveM R q x).2 := by
  unfold saveM rsaveM
  rw [span_same h]
  split
  · exact ⟨h, rfl⟩
  · exact Sim.saveFrom x q _ 0 D R h
theorem Sim.step (h : Sim D R) (q : Int) (x : List Int) : Sim (stepM D q x).1 (rstepM R q x).1 ∧ (stepM D q x).2 = (rstepM R q x).2 := by
  have hs := h.save q x
  unfold stepM rstepM
  rw [← hs.2]
  split
  · exact hs
  · exact hs.1.flush
/-! ### What is read -/
theorem read_same (h : Sim D R) (hk : atM D q = 0) : rreadM R q = readM D q := by
  unfold rreadM readM
  rw [at_same h, if_pos hk, h.wait, h.sec]
theorem reads_same (h : Sim D R) (hd : D.down = false) (q : Int) : ∀ m : Nat, 0 ≤ q → q + (m : Int) ≤ (D.sec.length : Int) → rreadsTo R q m = readsTo D q m
  | 0, _, _ => rfl
  | m + 1, h0, h1 => by
    rw [rreadsTo, readsTo, reads_same h hd q m h0 (by omega), read_same h (by unfold atM; rw [if_neg (by rw [hd]; decide), if_neg (by omega)])]
theorem load_same (h : Sim D R) (q : Int) (m : Nat) (he : loadE D q m = 0) : rloadM R q m = (readsTo D q ((m + 63) / 64)).take m := by
  have hd : D.down = false := by
    cases hd : D.down with
    | false => rfl
    | true => unfold loadE at he; rw [if_pos hd] at he; exact absurd he (by decide)
  have hs : spanM D q m = 0 := by
    unfold loadE at he
    rw [if_neg (by rw [hd]; decide), if_neg (by omega)] at he
    exact he
  obtain ⟨_, h0, h1, h2⟩ := spanM_zero hs
  rw [need_nat] at h2
  have e : rloadE R q m = 0 := by
    unfold rloadE
    rw [if_neg (by rw [h.down, hd]; decide), if_neg (by omega), span_same h, hs]
  rw [rloadM, if_pos e, Int.toNat_natCast, reads_same h hd q _ h0 (by omega)]
/-! ### Numbers and heads -/
theorem inU_big {a c : Int} (h0 : 0 ≤ a) (h1 : a ≤ 72057594037927935) (c0 : 0 ≤ c) (c1 : c ≤ 255) : inU a c = a * 256 + c := by
  unfold inU
  rw [wrap64u, wrap64u, wrap64u]
  omega
theorem num_fold : ∀ (l : List Int) (a : Int) (j : Nat), AllB l → 0 ≤ a → a < 2 ^ (8 * j) → l.length + j ≤ 8 → l.foldl num1 a = l.foldl inU a
  | [], _, _, _, _, _, _ => rfl
  | c :: l, a, j, hb, h0, h1, hj => by
    have hc := hb c (List.mem_cons_self ..)
    simp only [List.length_cons] at hj
    have hp : (2 : Int) ^ (8 * j) ≤ 2 ^ 56 := by
      have : (2 : Nat) ^ (8 * j) ≤ 2 ^ 56 := Nat.pow_le_pow_right (by decide) (by omega)
      exact_mod_cast this
    have h56 : (2 : Int) ^ 56 = 72057594037927936 := by decide
    have hlt := Int.lt_of_lt_of_le h1 hp
    rw [h56] at hlt
    have ha : a ≤ 72057594037927935 := by omega
    rw [List.foldl_cons, List.foldl_cons, or_add a c h0 ha hc.1 hc.2, inU_big h0 ha hc.1 hc.2]
    refine num_fold l _ (j + 1) (fun z hz => hb z (List.mem_cons_of_mem _ hz)) (by omega) ?_ (by omega)
    have e : (2 : Int) ^ (8 * (j + 1)) = 2 ^ (8 * j) * 256 := by rw [show 8 * (j + 1) = 8 * j + 8 by omega, Int.pow_add]; rfl
    rw [e]
    omega
theorem num_same {l : List Int} (hb : AllB l) (hl : l.length ≤ 8) : rnumM l = numM l := (num_fold l 0 0 hb (by decide) (by decide) (by omega)).symm
theorem rhead_eq (g : Int) (hx : AllB x) : rheadM g x = headM g x := by
  rw [headM_eq, rheadM, digest_same (beM_B 8 g) hx]
theorem u8_inj {a b : Int} (ha : 0 ≤ a ∧ a ≤ 255) (hb : 0 ≤ b ∧ b ≤ 255) (h : UInt8.ofNat a.toNat = UInt8.ofNat b.toNat) : a = b := by
  have := congrArg UInt8.toNat h
  simp only [UInt8.toNat_ofNat'] at this
  omega
theorem map_inj : ∀ {l m : List Int}, AllB l → AllB m → l.map (fun n => UInt8.ofNat n.toNat) = m.map (fun n => UInt8.ofNat n.toNat) → l = m
  | [], [], _, _, _ => rfl
  | [], _ :: _, _, _, h => by cases h
  | _ :: _, [], _, _, h => by cases h
  | a :: l, b :: m, ha, hb, h => by
    simp only [List.map_cons, List.cons.injEq] at h
    rw [u8_inj (ha a (List.mem_cons_self ..)) (hb b (List.mem_cons_self ..)) h.1, map_inj (fun z hz => ha z (List.mem_cons_of_mem _ hz)) (fun z hz => hb z (List.mem_cons_of_mem _ hz)) h.2]
theorem sameM_iff (hx : AllB x) (hy : AllB y) : sameM x y = true ↔ x = y := by
  unfold sameM
  rw [beq_iff_eq, ByteArray.toList_eq, ByteArray.toList_eq]
  exact ⟨fun h => map_inj hx hy h, fun h => by rw [h]⟩
/-- An area, looked at by both. -/
theorem area_same (h : Sim D R) (hk : SOk D fr n) (hb : DB D) (hd : D.down = false) (hk01 : k = 0 ∨ k = 1) (h64 : ∀ q, atM D q = 0 → (readM D q).length = 64) :
    (areaM D fr n k = none ∧ (rareaM R fr n k).1 = 0) ∨ ∃ g r, areaM D fr n k = some (g, r) ∧ rareaM R fr n k = (g, r) ∧ 0 < g := by
  have hkn : 0 ≤ k * n ∧ k * n ≤ n := by
    have := hk.hn
    rcases hk01 with rfl | rfl <;> omega
  have hkl := hk.hl
  have hkf := hk.hf
  have hkk := hk.hn
  have ha : atM D (fr + k * n) = 0 := by
    unfold atM
    rw [if_neg (by rw [hd]; decide), if_neg (by omega)]
  have hr := read_same h ha
  have hl := h64 _ ha
  have hB := hb.read (fr + k * n)
  obtain ⟨z, hz⟩ : ∃ z, readM D (fr + k * n) = z := ⟨_, rfl⟩
  rw [hz] at hl hB hr
  have hG : rnumM ((z.drop 4).take 8) = hdG z := num_same ((hB.drop 4).take 8) (by rw [List.length_take]; omega)
  have hN : rnumM ((z.drop 12).take 4) = hdN z := num_same ((hB.drop 12).take 4) (by rw [List.length_take]; omega)
  have hg0 : 0 ≤ hdG z := by rw [← hG]; exact (rnumM_range _).1
  have hn0 : 0 ≤ hdN z := by rw [← hN]; exact (rnumM_range _).1
  have eA : areaM D fr n k = if hdG z = 0 then none else if 64 * (n - 1) < hdN z then none else if z = headM (hdG z) (recM D (fr + k * n) z) then some (hdG z, recM D (fr + k * n) z) else none := by
    unfold areaM
    rw [hz]
  have eR : rareaM R fr n k = if 64 * n - 64 < hdN z then (0, []) else if sameM (rheadM (hdG z) (rloadM R (fr + k * n + 1) (hdN z))) z = true then (hdG z, rloadM R (fr + k * n + 1) (hdN z)) else (0, []) := by
    unfold rareaM
    rw [hr, hG, hN, if_neg (show ¬ z.length ≠ 64 by omega)]
  by_cases hlen : 64 * (n - 1) < hdN z
  · refine .inl ⟨?_, by rw [eR, if_pos (show 64 * n - 64 < hdN z by omega)]⟩
    rw [eA, if_pos hlen]
    split <;> rfl
  have hload : loadE D (fr + k * n + 1) ((hdN z).toNat : Int) = 0 := by
    unfold loadE spanM
    rw [if_neg (by rw [hd]; decide), if_neg (by omega), if_neg (by rw [hd]; decide), need_nat, if_neg (by omega)]
  have hrec : rloadM R (fr + k * n + 1) (hdN z) = recM D (fr + k * n) z := by
    have := load_same h (fr + k * n + 1) (hdN z).toNat hload
    rw [Int.toNat_of_nonneg hn0] at this
    rw [this]
    rfl
  have hrB : AllB (recM D (fr + k * n) z) := (hb.reads _ _).take _
  rw [if_neg (show ¬ 64 * n - 64 < hdN z by omega), hrec, rhead_eq _ hrB] at eR
  rw [if_neg hlen] at eA
  have hs := sameM_iff (headM_B (hdG z) (recM D (fr + k * n) z)) hB
  by_cases hg : hdG z = 0
  · refine .inl ⟨by rw [eA, if_pos hg], ?_⟩
    rw [eR]
    split
    · exact hg
    · rfl
  · rw [if_neg hg] at eA
    by_cases he : z = headM (hdG z) (recM D (fr + k * n) z)
    · rw [if_pos he] at eA
      rw [if_pos (hs.2 he.symm)] at eR
      exact .inr ⟨_, _, eA, eR, by omega⟩
    · rw [if_neg he] at eA
      rw [if_neg (fun h => he (hs.1 h).symm)] at eR
      exact .inl ⟨eA, by rw [eR]⟩
theorem newest_both (h : Sim D R) (hk : SOk D fr n) (hb : DB D) (hd : D.down = false) (h64 : ∀ q, atM D q = 0 → (readM D q).length = 64) : rnewestM R fr n = newestM D fr n := by
  unfold rnewestM newestM pickM nextM
  rcases area_same (k := 0) h hk hb hd (.inl rfl) h64 with ⟨e0, z0⟩ | ⟨g, r, e0, z0, p0⟩ <;> rcases area_same (k := 1) h hk hb hd (.inr rfl) h64 with ⟨e1, z1⟩ | ⟨g', r', e1, z1, p1⟩
  · rw [e0, e1, if_pos ⟨z0, z1⟩]
  · rw [e0, e1, z1, if_neg (by simp only; omega), z0, if_neg (by simp only; omega)]
    simp only
    rw [if_pos p1]
  · rw [e0, e1, z0, if_neg (by simp only; omega), z1]
    simp only
    rw [if_pos (by omega), if_pos p0]
  · rw [e0, e1, z0, z1, if_neg (by simp only; omega)]
    simp only
    rw [if_pos p0]
    by_cases hlt : g < g'
    · rw [if_neg (by omega), if_pos hlt]
    · rw [if_pos (by omega), if_neg hlt]
theorem newest_down (hd : R.down = true) : rnewestM R fr n = (-1, 0, []) := by
  have ha : ∀ k, rareaM R fr n k = (0, []) := fun k => by
    unfold rareaM
    rw [if_pos]
    unfold rreadM thereM
    rw [if_pos hd, if_neg (by decide)]
    decide
  unfold rnewestM
  rw [ha, ha]
  rfl
theorem read64 (hs : ∀ s ∈ D.sec, s.length = 64) (hh : ∀ y ∈ D.held, y.2.length = 64) : ∀ q, atM D q = 0 → (readM D q).length = 64 := fun q ha => by
  have hd := atM_up ha
  unfold atM at ha
  rw [if_neg (by rw [hd]; decide)] at ha
  split at ha
  · exact absurd ha (by decide)
  rename_i hq
  refine readTo_length ?_ (fun i hi => ?_) _ (Nat.le_refl _)
  · rw [List.getD_eq_getElem?_getD, List.getElem?_eq_getElem (by omega)]
    exact hs _ (List.getElem_mem _)
  · rw [List.getD_eq_getElem?_getD, List.getElem?_eq_getElem hi]
    exact hh _ (List.getElem_mem _)
theorem Sim.r64 (h : Sim D R) (ho : ROk R) : ∀ q, atM D q = 0 → (readM D q).length = 64 := read64 (by rw [← h.sec]; exact ho.s64) (by rw [← h.wait]; exact ho.w64)
theorem Sim.put (h : Sim D R) (hk : SOk D fr n) (ho : ROk R) (hb : DB D) (hx : AllB x) : Sim (putM D fr n x).1 (rputM R fr n x).1 ∧ (putM D fr n x).2 = (rputM R fr n x).2 := by
  cases hd : D.down with
  | true =>
    unfold putM rputM
    rw [if_pos hd, if_pos (h.down.trans hd)]
    exact ⟨h, rfl⟩
  | false =>
    have hn := newest_both h hk hb hd (h.r64 ho)
    unfold putM rputM
    rw [if_neg (show ¬ D.down = true by rw [hd]; decide), if_neg (show ¬ R.down = true by rw [h.down, hd]; decide), hn]
    by_cases h1 : 64 * (n - 1) < (x.length : Int)
    · rw [if_pos h1, if_pos (.inl (by omega))]
      exact ⟨h, rfl⟩
    · rw [if_neg h1]
      by_cases h2 : (newestM D fr n).2.1 = 18446744073709551615
      · rw [if_pos h2, if_pos (.inr h2)]
        exact ⟨h, rfl⟩
      · rw [if_neg h2, if_neg (by omega), rhead_eq _ hx]
        have ht : rto (newestM D fr n).1 fr n = toM fr n (newestM D fr n).1 := by unfold rto toM; split <;> first | rfl | (rename_i h; rw [h]; omega) | omega
        rw [ht]
        unfold put3
        have s1 := h.step (toM fr n (newestM D fr n).1) zer64
        rw [rputT, ← s1.2]
        split
        · exact s1
        have s2 := s1.1.step (toM fr n (newestM D fr n).1 + 1) x
        rw [rputT, ← s2.2]
        split
        · exact s2
        have s3 := s2.1.step (toM fr n (newestM D fr n).1) (headM ((newestM D fr n).2.1 + 1) x)
        rw [rputT, ← s3.2]
        split
        · exact s3
        · rename_i hz
          rw [rputT]
          exact ⟨s3.1, by simpa using hz⟩
theorem Sim.play (h : Sim D R) (hk : SOk D fr n) (ho : ROk R) (hb : DB D) (o : OpM) (hx : AllB o.b) : Sim (play8 fr n D R o).1 (play8 fr n D R o).2.1 ∧ (play8 fr n D R o).2.2 = true := by
  unfold play8
  split
  · have := h.put (x := o.b) hk ho hb hx
    exact ⟨this.1, by simpa using this.2⟩
  split
  · have := h.set o.n o.ch
    exact ⟨this.1, by simpa using this.2⟩
  split
  · exact ⟨h.lose _, rfl⟩
  split
  · exact ⟨h.start, rfl⟩
  split
  · have hw := h.write o.at_ o.b
    have hf := hw.1.flush
    rw [if_pos hw.2]
    exact ⟨hf.1, by simpa using hf.2⟩
  · exact ⟨h, rfl⟩
end Go.Proofs.YtmblnflfklmmkaaGreatDoor.Sh
/- Contracts of the reference: a disk's bytes; a store's Get. -/
namespace Go.Proofs.YtmblnflfklmmkaaGreatDoor.Sh
open Go.Proofs.YtmblnflfklmmkaaGreatDoor.Dk
open Go.RowKit Go.Proofs.YtmblnflfklmmkaaGreatDoorW.PrintWords Go.Proofs.YtmblnflfklmmkaaGreatDoorW.PrintLast Go.Proofs.YtmblnflfklmmkaaGreatDoorW.PrintMore
set_option linter.unusedVariables false
set_option linter.unusedSimpArgs false
set_option maxRecDepth 30000
variable {w w0 w1 w2 w' wr : World} {B t g g2 : Nat} {F F2 : Nat → Prop} {R R' : RM} {fr n q k : Int} {v vs vh vc : Value} {xs ys b : List Int}
set_option maxHeartbeats 8000000 in
theorem rBytes_calls (h : RAt w B g F R vs vh vc) (hok : ROk R) : Calls Tryz.prog 27 #[.pointer (some ⟨g, 0, none⟩)] w fun e w' => RowPo w w' (bytesTo R.sec R.sec.length) e := by
  have H := Aside0.mk h
  have HOK := Aside0.mk hok
  obtain ⟨As, cs, rfl, _, _⟩ := Kd.R_reads h.sec
  have hn1 := hok.n1
  clear h hok
  go_enter Tryz.func27, Tryz.ntmps27
  go_wp2_with (fail)
  go_loopw [3, 4] (fun v3 v4 w' => ∃ i : Nat, v4 = .int .i64 i ∧ i ≤ R.sec.length ∧ Aside0 (Row8 w' w.heap.size v3 (bytesTo R.sec i)) ∧ Aside0 (Below w.heap.size w w')) (fun _ v4 _ => R.sec.length - (intOf v4).toNat)
  case atStart => exact ⟨0, rfl, Nat.zero_le _, ⟨Row8.nil _ _⟩, ⟨Below.refl _ _⟩⟩
  case round =>
    obtain ⟨i, rfl, hi, HR, HB⟩ := hrel
    have HD := Aside0.mk (H.out.below HB.out)
    have h0 := HD.out.c0
    by_cases hlt : i < R.sec.length
    · rcases R_cases HD.out.sec with ⟨_, hz⟩ | ⟨gs, caps', es, hgs⟩
      · have : R.sec.length = 0 := congrArg List.length hz
        omega
      injection es with es1 es2 es3
      subst es1
      clear es2 es3
      obtain ⟨us, hus, hRu⟩ := sec_elem HD.out.sec (i : Int) (by omega) (by omega)
      rw [Int.toNat_natCast] at hus hRu
      have HLB := Aside0.mk (show (R.sec.getD i []).length = 64 by
        rw [List.getD_eq_getElem?_getD, List.getElem?_eq_getElem hlt]
        exact HOK.out.s64 _ (List.getElem_mem hlt))
      have HL := Aside0.mk (bytesTo_length (sec := R.sec) (fun j hj => by
        rw [List.getD_eq_getElem?_getD, List.getElem?_eq_getElem hj]
        exact HOK.out.s64 _ (List.getElem_mem hj)) i hi)
      have HP := Aside0.mk (show bytesTo R.sec (i + 1) = bytesTo R.sec i ++ R.sec.getD i [] from rfl)
      obtain ⟨x, hx⟩ : ∃ x, R.sec.getD i [] = x := ⟨_, rfl⟩
      rw [hx] at HLB HP hRu
      obtain ⟨Au, cu, rfl, _, hCu⟩ := Kd.R_reads hRu
      have HCU := Aside0.mk hCu
      clear hx hRu hCu
      go_wp2_with (first | ((with_reducible refine gate_builtin (b := .append) (xs := #[.tmp 14, .tmp 21]) rfl ?_); at_builtin; refine app8 (q := w.heap.size) Dk.info5 Tryz.underlying22 rfl (.tmp 14) (.tmp 21) rfl _ _ _ _ _ _ rfl rfl HR.out HCU.out ?aQ ?aL ?_; (case aQ => exact HB.out.size); (case aL => rw [HL.out, HLB.out]; omega); intro A1 c1 w1 hr1 hb1 _; have HR1 := Aside0.mk hr1; have HB1 := Aside0.mk (HB.out.trans hb1); clear hr1 hb1))
      go_roundw
      case rel => exact ⟨i + 1, by go_num, by omega, ⟨by rw [HP.out, ← List.length_append]; exact HR1.out⟩, HB1⟩
      case measure => simp [intOf]; omega
    · obtain rfl : i = R.sec.length := by omega
      go_wp2_with (fail)
      go_ret
      exact ⟨_, rfl, HR.out, HB.out⟩
/-- What the reference's Get tells. -/
def rgetE (R : RM) (fr n : Int) : Int := if R.down = true then 60 else if (rnewestM R fr n).1 < 0 then 70 else 0
def rgetR (R : RM) (fr n : Int) : List Int := if rgetE R fr n = 0 then (rnewestM R fr n).2.2 else []
set_option maxHeartbeats 8000000 in
theorem rGet_calls (h : TAt w B t g2 F2 R fr n) (hk : TOk R fr n) : Calls Tryz.prog 25 #[.pointer (some ⟨t, 0, none⟩)] w fun e w' => RdPo w w' (rgetR R fr n) (rgetE R fr n) e := by
  have HN := Aside0.mk (rNewest_calls h hk)
  have h0 := h.c0
  have h2 : w.cell? ⟨g2, 2, none⟩ = some (.bool R.down) := by
    obtain ⟨_, _, _, hr⟩ := h.r
    exact hr.c2
  clear h hk
  cases hd : R.down with
  | true =>
    have HE := Lib.hid (show rgetE R fr n = 60 by simp [rgetE, hd])
    have HR := Lib.hid (show rgetR R fr n = [] by simp [rgetR, HE.out])
    rw [hd] at h2
    clear hd
    go_enter Tryz.func25, Tryz.ntmps25
    go_wp2_with (fail)
    refine bodyPost_ret (results_tmp2 rfl _ _ _) rfl ?_
    exact ⟨.slice none 0 0, by rw [HE.out] <;> rfl, by rw [HR.out]; exact Reads.nil _, Below.refl _ _⟩
  | false =>
    obtain ⟨k, g', r, hst⟩ : ∃ k g' r, rnewestM R fr n = (k, g', r) := ⟨_, _, _, rfl⟩
    rw [hst] at HN
    rw [hd] at h2
    by_cases h0' : k < 0
    · have hq : decide (k < 0) = true := decide_eq_true h0'
      have HE := Lib.hid (show rgetE R fr n = 70 by simp [rgetE, hd, hst, h0'])
      have HR := Lib.hid (show rgetR R fr n = [] by simp [rgetR, HE.out])
      clear hst hd h0'
      go_enter Tryz.func25, Tryz.ntmps25
      go_wp2_with (first | (go_at_call 26; (with_reducible refine HN.out.mono ?_); rintro e w1 ⟨v1, rfl, _, hb1⟩; have HB1 := Aside0.mk hb1; clear hb1))
      refine bodyPost_ret (results_tmp2 rfl _ _ _) rfl ?_
      exact ⟨.slice none 0 0, by rw [HE.out] <;> rfl, by rw [HR.out]; exact Reads.nil _, HB1.out⟩
    · have hq : decide (k < 0) = false := decide_eq_false h0'
      have HE := Lib.hid (show rgetE R fr n = 0 by simp [rgetE, hd, hst, h0'])
      have HR := Lib.hid (show rgetR R fr n = r by simp [rgetR, HE.out, hst])
      clear hst hd h0'
      go_enter Tryz.func25, Tryz.ntmps25
      go_wp2_with (first | (go_at_call 26; (with_reducible refine HN.out.mono ?_); rintro e w1 ⟨v1, rfl, hr1, hb1⟩; have HB1 := Aside0.mk hb1; have HR1 := Aside0.mk hr1; clear hb1 hr1))
      refine bodyPost_ret (results_tmp2 rfl _ _ _) rfl ?_
      exact ⟨v1, by rw [HE.out] <;> rfl, by rw [HR.out]; exact HR1.out, HB1.out⟩
end Go.Proofs.YtmblnflfklmmkaaGreatDoor.Sh
/- The law's same. -/
namespace Go.Proofs.YtmblnflfklmmkaaGreatDoor.Sh
open Go.Proofs.YtmblnflfklmmkaaGreatDoor.Dk
open Go.RowKit Go.Proofs.YtmblnflfklmmkaaGreatDoorW.PrintWords Go.Proofs.YtmblnflfklmmkaaGreatDoorW.PrintLast Go.Proofs.YtmblnflfklmmkaaGreatDoorW.PrintMore
set_option linter.unusedVariables false
set_option linter.unusedSimpArgs false
set_option maxRecDepth 30000
variable {w0 w w' W w1 w2 w3 : World} {s g t g2 : Nat} {F F2 : Nat → Prop} {D D' : DM} {R R' : RM} {fr n : Int} {bb x : List Int} {E k h gg : Int}
theorem t_bytes (hT : Tri w0 w s g F D fr n t g2 F2 R) (hK : SOk D fr n) (hb : bytesM D = bb) : Calls Tryz.prog 14 #[.pointer (some ⟨g, 0, none⟩)] w fun e w' => ∃ A c, e = .returned (.slice A bb.length c) ∧ C8 w' A bb ∧ Below w.heap.size w w' := by
  obtain ⟨_, _, _, hd⟩ := hT.S.d
  refine (Bytes_calls hd hK.d).mono ?_
  rintro e w' ⟨v, rfl, hr, hb'⟩
  rw [hb] at hr
  obtain ⟨A, c, rfl, _, hC⟩ := Kd.R_reads hr
  exact ⟨A, c, rfl, hC, hb'⟩
theorem t_rbytes (hT : Tri w0 w s g F D fr n t g2 F2 R) (hK : TOk R fr n) (hb : bytesTo R.sec R.sec.length = bb) : Calls Tryz.prog 27 #[.pointer (some ⟨g2, 0, none⟩)] w fun e w' => ∃ A c, e = .returned (.slice A bb.length c) ∧ C8 w' A bb ∧ Below w.heap.size w w' := by
  obtain ⟨_, _, _, hd⟩ := hT.T.r
  refine (rBytes_calls hd hK.d).mono ?_
  rintro e w' ⟨v, rfl, hr, hb'⟩
  rw [hb] at hr
  obtain ⟨A, c, rfl, _, hC⟩ := Kd.R_reads hr
  exact ⟨A, c, rfl, hC, hb'⟩
theorem t_same {A A2 : Option Addr} {c c2 : Nat} (h1 : C8 w A bb) (h2 : C8 w A2 bb) : Calls Tryz.prog 19 #[.slice A bb.length c, .slice A2 bb.length c2] w fun e w' => e = .returned (.bool true) ∧ w = w' := by
  have := Same_calls A c bb A2 c2 bb h1 h2
  rwa [sameM_refl] at this
theorem t_get (hT : Tri w0 w s g F D fr n t g2 F2 R) (hK : SOk D fr n) (hE : getE D fr n = E) (hR : getR D fr n = x) : Calls Tryz.prog 17 #[.pointer (some ⟨s, 0, none⟩)] w fun e w' => ∃ A c, e = .returned (.tuple #[.slice A x.length c, .int .i64 E]) ∧ C8 w' A x ∧ Below w.heap.size w w' := by
  refine (Get_calls hT.glob hT.S hK).mono ?_
  rintro e w' ⟨A, c, rfl, hf, hb⟩
  rw [hE, hR]
  rw [hR] at hf
  exact ⟨A, c, rfl, hf.C, hb⟩
theorem t_rget (hT : Tri w0 w s g F D fr n t g2 F2 R) (hK : TOk R fr n) (hE : rgetE R fr n = E) (hR : rgetR R fr n = x) : Calls Tryz.prog 25 #[.pointer (some ⟨t, 0, none⟩)] w fun e w' => ∃ A c, e = .returned (.tuple #[.slice A x.length c, .int .i64 E]) ∧ C8 w' A x ∧ Below w.heap.size w w' := by
  refine (rGet_calls hT.T hK).mono ?_
  rintro e w' ⟨v, rfl, ⟨A, c, rfl, _, hC⟩, hb⟩
  rw [hE, hR]
  rw [hR] at hC
  exact ⟨A, c, rfl, hC, hb⟩
def nwT (D : DM) (fr n : Int) : Array Value := if D.down = true then #[.int .i64 0, .int .u64 0, .int .i64 60] else if (newestM D fr n).1 < 0 then #[.int .i64 0, .int .u64 0, .int .i64 70] else #[.int .i64 (newestM D fr n).1, .int .u64 (newestM D fr n).2.1, .int .i64 0]
theorem t_new {a b c : Value} (hT : Tri w0 w s g F D fr n t g2 F2 R) (hK : SOk D fr n) (h : nwT D fr n = #[a, b, c]) : Calls Tryz.prog 18 #[.pointer (some ⟨s, 0, none⟩)] w fun e w' => e = .returned (.tuple #[a, b, c]) ∧ Below w.heap.size w w' := by
  refine (Newest_calls hT.glob hT.S hK).mono ?_
  rintro e w' ⟨hb, rfl⟩
  exact ⟨by rw [← h]; rfl, hb⟩
theorem t_rnew (hT : Tri w0 w s g F D fr n t g2 F2 R) (hK : TOk R fr n) (h : rnewestM R fr n = (k, gg, x)) : Calls Tryz.prog 26 #[.pointer (some ⟨t, 0, none⟩)] w fun e w' => ∃ v, e = .returned (.tuple #[.int .i64 k, .int .u64 gg, v]) ∧ Below w.heap.size w w' := by
  refine (rNewest_calls hT.T hK).mono ?_
  rintro e w' ⟨v, rfl, _, hb⟩
  rw [h]
  exact ⟨v, rfl, hb⟩
theorem Tri.d2 {b : Bool} (hT : Tri w0 w s g F D fr n t g2 F2 R) (h : R.down = b) : w.cell? ⟨g2, 2, none⟩ = some (.bool b) := by
  obtain ⟨_, _, _, hr⟩ := hT.T.r
  rw [← h]
  exact hr.c2
theorem Tri.d3 {ss : Int} (hT : Tri w0 w s g F D fr n t g2 F2 R) (h : R.strokes = ss) : w.cell? ⟨g2, 3, none⟩ = some (.int .i64 ss) := by
  obtain ⟨_, _, _, hr⟩ := hT.T.r
  rw [← h]
  exact hr.c3
theorem t_str {ss : Int} (hT : Tri w0 w s g F D fr n t g2 F2 R) (h : D.strokes = ss) : Calls Tryz.prog 15 #[.pointer (some ⟨g, 0, none⟩)] w fun e w' => e = .returned (.int .i64 ss) ∧ w = w' := by
  obtain ⟨_, _, _, hd⟩ := hT.S.d
  rw [← h]
  exact Strokes_calls hd

set_option maxHeartbeats 16000000 in
theorem same8_calls (hT : Tri w0 w s g F D fr n t g2 F2 R) (hK : SOk D fr n) (hKR : TOk R fr n) (hS : Sim D R) (hB : DB D) :
    Calls Tryz.prog 11 #[.pointer (some ⟨s, 0, none⟩), .pointer (some ⟨g, 0, none⟩), .pointer (some ⟨t, 0, none⟩)] w fun e w' => e = .returned (.bool true) ∧ Below w.heap.size w w' := by
  have HT := Aside0.mk hT
  have HK := Aside0.mk hK
  have HKR := Aside0.mk hKR
  obtain ⟨bb, hbb⟩ : ∃ bb, bytesM D = bb := ⟨_, rfl⟩
  have HBB := Lib.hid hbb
  have HRB := Lib.hid (show bytesTo R.sec R.sec.length = bb by rw [hS.sec, ← hbb]; rfl)
  clear hbb
  have hdn := hS.down
  have hst := hS.str
  cases hd : D.down with
  | true =>
    rw [hd] at hdn
    have HDN := Lib.hid hdn
    obtain ⟨x, hx⟩ : ∃ x : List Int, x = [] := ⟨_, rfl⟩
    have HGE := Lib.hid (show getE D fr n = 60 by simp [getE, hd])
    have HGR := Lib.hid (show getR D fr n = x by rw [hx]; simp [getR, HGE.out])
    have HRE := Lib.hid (show rgetE R fr n = 60 by simp [rgetE, hdn])
    have HRR := Lib.hid (show rgetR R fr n = x by rw [hx]; simp [rgetR, HRE.out])
    have HNT := Lib.hid (show nwT D fr n = #[.int .i64 0, .int .u64 0, .int .i64 60] by unfold nwT; rw [if_pos hd])
    have HRN := Lib.hid (newest_down (fr := fr) (n := n) hdn)
    clear hT hK hKR hS hB hdn hst hd hx
    go_enter Tryz.func11, Tryz.ntmps11
    go_wp2_with (first | (go_at_call 17; (with_reducible refine (t_get HT.out HK.out HGE.out HGR.out).mono ?_); rintro e w1 ⟨A1, c1, rfl, hc1, hb1⟩; have HC1 := Aside0.mk hc1; have HB1 := Aside0.mk hb1; have HT1 := Aside0.mk (HT.out.below hb1); clear hc1 hb1) | (go_at_call 25; (with_reducible refine (t_rget HT1.out HKR.out HRE.out HRR.out).mono ?_); rintro e w2 ⟨A2, c2, rfl, hc2, hb2⟩; have HC2 := Aside0.mk hc2; have HCA := Aside0.mk (Kd.C_below HC1.out hb2); have HB2 := Aside0.mk (below_trans HB1.out hb2); have HT2 := Aside0.mk (HT1.out.below hb2); clear hc2 hb2) | (go_at_call 18; (with_reducible refine (t_new HT2.out HK.out HNT.out).mono ?_); rintro e w3 ⟨rfl, hb3⟩; have HB3 := Aside0.mk (below_trans HB2.out hb3); have HCA3 := Aside0.mk (Kd.C_below HCA.out hb3); have HC3 := Aside0.mk (Kd.C_below HC2.out hb3); have HT3 := Aside0.mk (HT2.out.below hb3); clear hb3) | (go_at_call 26; (with_reducible refine (t_rnew HT3.out HKR.out HRN.out).mono ?_); rintro e w4 ⟨v4, rfl, hb4⟩; have HB4 := Aside0.mk (below_trans HB3.out hb4); have HCA4 := Aside0.mk (Kd.C_below HCA3.out hb4); have HC4 := Aside0.mk (Kd.C_below HC3.out hb4); have HT4 := Aside0.mk (HT3.out.below hb4); have h0 := HT4.out.T.c0; have h2 := HT4.out.d2 HDN.out; clear hb4))
    have HT4D := Aside0.mk (HT4.out.below (below_drew (Below.refl _ _)))
    have HB4D := Aside0.mk (below_drew HB4.out)
    repeat (first | go_step | go_guarded | go_upon)
    refine start_ (n := 17) (S := fun w' => w'.cell? ⟨t, 0, none⟩ = some (.pointer (some ⟨g2, 0, none⟩))) (ds := []) (bz 17 0) (by kernel_rfl) rfl rfl (HT4D.out.T.c0) (fun hHeld => ?_)
    refine pz 0 (some 46) (bz 17 1) ?_
    refine pz 1 (some 47) (bz 17 3) ?_
    refine pz 2 (some 48) (bz 17 7) ?_
    refine pz 3 (some 49) (bz 17 15) ?_
    refine pz 4 (some 50) (bz 17 31) ?_
    refine pz 5 (some 51) (bz 17 63) ?_
    refine pz 6 (some 52) (bz 17 127) ?_
    refine pz 7 (some 53) (bz 17 255) ?_
    refine pz 9 (some 55) (bz 17 767) ?_
    refine pz 10 (some 56) (bz 17 1791) ?_
    refine pz 11 (some 57) (bz 17 3839) ?_
    refine tz1 12 (some 58) (bz 17 7935) hHeld ?_
    refine one_ (i := 8) (N := some 54) (bz 17 8191) rfl rfl (by kernel_rfl) (by decide) (fun K hK => ?_)
    refine goes_ Tryz.func14 (by kernel_rfl) rfl #[.pointer (some ⟨g, 0, none⟩)] (by rfl) rfl rfl (by simp only [List.map_toArray, List.map_cons, List.map_nil]; rfl) ?_
    with_reducible refine (t_bytes HT4D.out HK.out HBB.out).mono ?_
    rintro e w5 ⟨A5, c5, rfl, hc5, hb5⟩
    refine ⟨_, rfl, ?_⟩
    have HT5 := Aside0.mk (HT4D.out.below hb5)
    have HC5 := Aside0.mk hc5
    have HB5 := Aside0.mk (below_trans HB4D.out hb5)
    clear hc5 hb5
    refine hK.out _ _ (HT5.out.T.c0) (fun hHeld => ?_)
    clear hK K
    refine norm_ (a' := ?_) ?_ ?_
    rotate_left
    · show Act.put _ (some 54) _ = _
      simp only [Act.put, List.setIfInBounds_toArray, List.set_cons_zero, List.set_cons_succ, i64_w, i32_w]
      rfl
    refine one_ (i := 13) (N := some 59) (bz 17 16383) rfl rfl (by kernel_rfl) (by decide) (fun K hK => ?_)
    refine goes_ Tryz.func27 (by kernel_rfl) rfl #[.pointer (some ⟨g2, 0, none⟩)] (by rfl) rfl rfl (by simp only [List.map_toArray, List.map_cons, List.map_nil]; rfl) ?_
    with_reducible refine (t_rbytes HT5.out HKR.out HRB.out).mono ?_
    rintro e w6 ⟨A6, c6, rfl, hc6, hb6⟩
    refine ⟨_, rfl, ?_⟩
    have HT6 := Aside0.mk (HT5.out.below hb6)
    have HC6 := Aside0.mk hc6
    have HCB6 := Aside0.mk (Kd.C_below HC5.out hb6)
    have HB6 := Aside0.mk (below_trans HB5.out hb6)
    clear hc6 hb6
    refine hK.out _ _ (HT6.out.T.c0) (fun hHeld => ?_)
    clear hK K
    refine norm_ (a' := ?_) ?_ ?_
    rotate_left
    · show Act.put _ (some 59) _ = _
      simp only [Act.put, List.setIfInBounds_toArray, List.set_cons_zero, List.set_cons_succ, i64_w, i32_w]
      rfl
    refine one_ (i := 14) (N := some 60) (bz 17 32767) rfl rfl (by kernel_rfl) (by decide) (fun K hK => ?_)
    refine goes_ Tryz.func19 (by kernel_rfl) rfl #[.slice A5 bb.length c5, .slice A6 bb.length c6] (by rfl) rfl rfl (by simp only [List.map_toArray, List.map_cons, List.map_nil]; rfl) ?_
    with_reducible refine (t_same HCB6.out HC6.out).mono ?_
    rintro e w7 ⟨rfl, rfl⟩
    refine ⟨_, rfl, ?_⟩
    refine hK.out _ _ (HT6.out.T.c0) (fun hHeld => ?_)
    clear hK K
    refine norm_ (a' := ?_) ?_ ?_
    rotate_left
    · show Act.put _ (some 60) _ = _
      simp only [Act.put, List.setIfInBounds_toArray, List.set_cons_zero, List.set_cons_succ, i64_w, i32_w]
      rfl
    refine pz 15 (some 61) (bz 17 65535) ?_
    refine pz 16 (some 6) (bz 17 131071) ?_
    refine done_ (by kernel_rfl) ?_
    clear hHeld
    go_wp2_with (fail)
    go_ret
    exact ⟨rfl, HB6.out⟩
  | false =>
    rw [hd] at hdn
    have HDN := Lib.hid hdn
    have hn := newest_both hS hK hB hd (hS.r64 hKR.d)
    obtain ⟨k, gg, x, hst3⟩ : ∃ k gg x, newestM D fr n = (k, gg, x) := ⟨_, _, _, rfl⟩
    rw [hst3] at hn
    have HRN := Lib.hid hn
    by_cases h0 : k < 0
    · have hq : decide (k < 0) = true := decide_eq_true h0
      obtain ⟨y, hy⟩ : ∃ y : List Int, y = [] := ⟨_, rfl⟩
      have HGE := Lib.hid (show getE D fr n = 70 by simp [getE, hd, hst3, h0])
      have HGR := Lib.hid (show getR D fr n = y by rw [hy]; simp [getR, HGE.out])
      have HRE := Lib.hid (show rgetE R fr n = 70 by simp [rgetE, hdn, hn, h0])
      have HRR := Lib.hid (show rgetR R fr n = y by rw [hy]; simp [rgetR, HRE.out])
      have HNT := Lib.hid (show nwT D fr n = #[.int .i64 0, .int .u64 0, .int .i64 70] by unfold nwT; rw [if_neg (by rw [hd]; decide), hst3, if_pos h0])
      clear hT hK hKR hS hB hdn hst hd hy hst3 hn h0
      go_enter Tryz.func11, Tryz.ntmps11
      go_wp2_with (first | (go_at_call 17; (with_reducible refine (t_get HT.out HK.out HGE.out HGR.out).mono ?_); rintro e w1 ⟨A1, c1, rfl, hc1, hb1⟩; have HC1 := Aside0.mk hc1; have HB1 := Aside0.mk hb1; have HT1 := Aside0.mk (HT.out.below hb1); clear hc1 hb1) | (go_at_call 25; (with_reducible refine (t_rget HT1.out HKR.out HRE.out HRR.out).mono ?_); rintro e w2 ⟨A2, c2, rfl, hc2, hb2⟩; have HC2 := Aside0.mk hc2; have HCA := Aside0.mk (Kd.C_below HC1.out hb2); have HB2 := Aside0.mk (below_trans HB1.out hb2); have HT2 := Aside0.mk (HT1.out.below hb2); clear hc2 hb2) | (go_at_call 18; (with_reducible refine (t_new HT2.out HK.out HNT.out).mono ?_); rintro e w3 ⟨rfl, hb3⟩; have HB3 := Aside0.mk (below_trans HB2.out hb3); have HCA3 := Aside0.mk (Kd.C_below HCA.out hb3); have HC3 := Aside0.mk (Kd.C_below HC2.out hb3); have HT3 := Aside0.mk (HT2.out.below hb3); clear hb3) | (go_at_call 26; (with_reducible refine (t_rnew HT3.out HKR.out HRN.out).mono ?_); rintro e w4 ⟨v4, rfl, hb4⟩; have HB4 := Aside0.mk (below_trans HB3.out hb4); have HCA4 := Aside0.mk (Kd.C_below HCA3.out hb4); have HC4 := Aside0.mk (Kd.C_below HC3.out hb4); have HT4 := Aside0.mk (HT3.out.below hb4); have h0 := HT4.out.T.c0; have h2 := HT4.out.d2 HDN.out; clear hb4))
      have HT4D := Aside0.mk (HT4.out.below (below_drew (Below.refl _ _)))
      have HB4D := Aside0.mk (below_drew HB4.out)
      repeat (first | go_step | go_guarded | go_upon)
      refine start_ (n := 17) (S := fun w' => w'.cell? ⟨t, 0, none⟩ = some (.pointer (some ⟨g2, 0, none⟩))) (ds := []) (bz 17 0) (by kernel_rfl) rfl rfl (HT4D.out.T.c0) (fun hHeld => ?_)
      refine pz 0 (some 64) (bz 17 1) ?_
      refine pz 1 (some 65) (bz 17 3) ?_
      refine pz 2 (some 66) (bz 17 7) ?_
      refine pz 3 (some 67) (bz 17 15) ?_
      refine pz 4 (some 68) (bz 17 31) ?_
      refine pz 5 (some 69) (bz 17 63) ?_
      refine pz 6 (some 70) (bz 17 127) ?_
      refine pz 7 (some 71) (bz 17 255) ?_
      refine pz 9 (some 73) (bz 17 767) ?_
      refine pz 10 (some 74) (bz 17 1791) ?_
      refine pz 11 (some 75) (bz 17 3839) ?_
      refine tz1 12 (some 76) (bz 17 7935) hHeld ?_
      refine one_ (i := 8) (N := some 72) (bz 17 8191) rfl rfl (by kernel_rfl) (by decide) (fun K hK => ?_)
      refine goes_ Tryz.func14 (by kernel_rfl) rfl #[.pointer (some ⟨g, 0, none⟩)] (by rfl) rfl rfl (by simp only [List.map_toArray, List.map_cons, List.map_nil]; rfl) ?_
      with_reducible refine (t_bytes HT4D.out HK.out HBB.out).mono ?_
      rintro e w5 ⟨A5, c5, rfl, hc5, hb5⟩
      refine ⟨_, rfl, ?_⟩
      have HT5 := Aside0.mk (HT4D.out.below hb5)
      have HC5 := Aside0.mk hc5
      have HB5 := Aside0.mk (below_trans HB4D.out hb5)
      clear hc5 hb5
      refine hK.out _ _ (HT5.out.T.c0) (fun hHeld => ?_)
      clear hK K
      refine norm_ (a' := ?_) ?_ ?_
      rotate_left
      · show Act.put _ (some 72) _ = _
        simp only [Act.put, List.setIfInBounds_toArray, List.set_cons_zero, List.set_cons_succ, i64_w, i32_w]
        rfl
      refine one_ (i := 13) (N := some 77) (bz 17 16383) rfl rfl (by kernel_rfl) (by decide) (fun K hK => ?_)
      refine goes_ Tryz.func27 (by kernel_rfl) rfl #[.pointer (some ⟨g2, 0, none⟩)] (by rfl) rfl rfl (by simp only [List.map_toArray, List.map_cons, List.map_nil]; rfl) ?_
      with_reducible refine (t_rbytes HT5.out HKR.out HRB.out).mono ?_
      rintro e w6 ⟨A6, c6, rfl, hc6, hb6⟩
      refine ⟨_, rfl, ?_⟩
      have HT6 := Aside0.mk (HT5.out.below hb6)
      have HC6 := Aside0.mk hc6
      have HCB6 := Aside0.mk (Kd.C_below HC5.out hb6)
      have HB6 := Aside0.mk (below_trans HB5.out hb6)
      clear hc6 hb6
      refine hK.out _ _ (HT6.out.T.c0) (fun hHeld => ?_)
      clear hK K
      refine norm_ (a' := ?_) ?_ ?_
      rotate_left
      · show Act.put _ (some 77) _ = _
        simp only [Act.put, List.setIfInBounds_toArray, List.set_cons_zero, List.set_cons_succ, i64_w, i32_w]
        rfl
      refine one_ (i := 14) (N := some 78) (bz 17 32767) rfl rfl (by kernel_rfl) (by decide) (fun K hK => ?_)
      refine goes_ Tryz.func19 (by kernel_rfl) rfl #[.slice A5 bb.length c5, .slice A6 bb.length c6] (by rfl) rfl rfl (by simp only [List.map_toArray, List.map_cons, List.map_nil]; rfl) ?_
      with_reducible refine (t_same HCB6.out HC6.out).mono ?_
      rintro e w7 ⟨rfl, rfl⟩
      refine ⟨_, rfl, ?_⟩
      refine hK.out _ _ (HT6.out.T.c0) (fun hHeld => ?_)
      clear hK K
      refine norm_ (a' := ?_) ?_ ?_
      rotate_left
      · show Act.put _ (some 78) _ = _
        simp only [Act.put, List.setIfInBounds_toArray, List.set_cons_zero, List.set_cons_succ, i64_w, i32_w]
        rfl
      refine pz 15 (some 79) (bz 17 65535) ?_
      refine pz 16 (some 6) (bz 17 131071) ?_
      refine done_ (by kernel_rfl) ?_
      clear hHeld
      go_wp2_with (fail)
      go_ret
      exact ⟨rfl, HB6.out⟩
    · have hq : decide (k < 0) = false := decide_eq_false h0
      have HGE := Lib.hid (show getE D fr n = 0 by simp [getE, hd, hst3, h0])
      have HGR := Lib.hid (show getR D fr n = x by simp [getR, HGE.out, hst3])
      have HRE := Lib.hid (show rgetE R fr n = 0 by simp [rgetE, hdn, hn, h0])
      have HRR := Lib.hid (show rgetR R fr n = x by simp [rgetR, HRE.out, hn])
      have HNT := Lib.hid (show nwT D fr n = #[.int .i64 k, .int .u64 gg, .int .i64 0] by unfold nwT; rw [if_neg (by rw [hd]; decide), hst3, if_neg h0])
      have hk : (k == k) = true := by simp
      have hgg : (gg == gg) = true := by simp
      obtain ⟨ss, hss⟩ : ∃ ss, D.strokes = ss := ⟨_, rfl⟩
      have HSD := Lib.hid hss
      have HSR := Lib.hid (hst.trans hss)
      have hse : (ss == ss) = true := by simp
      clear hT hK hKR hS hB hdn hst hd hst3 hn h0 hss
      go_enter Tryz.func11, Tryz.ntmps11
      go_wp2_with (first | (go_at_call 17; (with_reducible refine (t_get HT.out HK.out HGE.out HGR.out).mono ?_); rintro e w1 ⟨A1, c1, rfl, hc1, hb1⟩; have HC1 := Aside0.mk hc1; have HB1 := Aside0.mk hb1; have HT1 := Aside0.mk (HT.out.below hb1); clear hc1 hb1) | (go_at_call 25; (with_reducible refine (t_rget HT1.out HKR.out HRE.out HRR.out).mono ?_); rintro e w2 ⟨A2, c2, rfl, hc2, hb2⟩; have HC2 := Aside0.mk hc2; have HCA := Aside0.mk (Kd.C_below HC1.out hb2); have HB2 := Aside0.mk (below_trans HB1.out hb2); have HT2 := Aside0.mk (HT1.out.below hb2); clear hc2 hb2) | (go_at_call 18; (with_reducible refine (t_new HT2.out HK.out HNT.out).mono ?_); rintro e w3 ⟨rfl, hb3⟩; have HB3 := Aside0.mk (below_trans HB2.out hb3); have HCA3 := Aside0.mk (Kd.C_below HCA.out hb3); have HC3 := Aside0.mk (Kd.C_below HC2.out hb3); have HT3 := Aside0.mk (HT2.out.below hb3); clear hb3) | (go_at_call 26; (with_reducible refine (t_rnew HT3.out HKR.out HRN.out).mono ?_); rintro e w4 ⟨v4, rfl, hb4⟩; have HB4 := Aside0.mk (below_trans HB3.out hb4); have HCA4 := Aside0.mk (Kd.C_below HCA3.out hb4); have HC4 := Aside0.mk (Kd.C_below HC3.out hb4); have HT4 := Aside0.mk (HT3.out.below hb4); have h0 := HT4.out.T.c0; have h2 := HT4.out.d2 HDN.out; clear hb4))
      have HT4D := Aside0.mk (HT4.out.below (below_drew (Below.refl _ _)))
      have HB4D := Aside0.mk (below_drew HB4.out)
      have HCA4D := Aside0.mk (Kd.C_below HCA4.out (below_drew (Below.refl _ _)))
      have HC4D := Aside0.mk (Kd.C_below HC4.out (below_drew (Below.refl _ _)))
      repeat (first | go_step | go_guarded | go_upon)
      refine start_ (n := 45) (S := fun w' => w'.cell? ⟨t, 0, none⟩ = some (.pointer (some ⟨g2, 0, none⟩)) ∧ w'.cell? ⟨g2, 3, none⟩ = some (.int .i64 ss)) (ds := []) (bz 45 0) (by kernel_rfl) rfl rfl ⟨HT4D.out.T.c0, HT4D.out.d3 HSR.out⟩ (fun hHeld => ?_)
      refine pz 0 (some 80) (bz 45 1) ?_
      refine pz 1 (some 81) (bz 45 3) ?_
      refine one_ (i := 2) (N := some 82) (bz 45 7) rfl rfl (by kernel_rfl) (by decide) (fun K hK => ?_)
      refine goes_ Tryz.func19 (by kernel_rfl) rfl #[.slice A1 x.length c1, .slice A2 x.length c2] (by rfl) rfl rfl (by simp only [List.map_toArray, List.map_cons, List.map_nil]; rfl) ?_
      with_reducible refine (t_same HCA4D.out HC4D.out).mono ?_
      rintro e w9 ⟨rfl, rfl⟩
      refine ⟨_, rfl, ?_⟩
      refine hK.out _ _ ⟨HT4D.out.T.c0, HT4D.out.d3 HSR.out⟩ (fun hHeld => ?_)
      clear hK K
      refine norm_ (a' := ?_) ?_ ?_
      rotate_left
      · show Act.put _ (some 82) _ = _
        simp only [Act.put, List.setIfInBounds_toArray, List.set_cons_zero, List.set_cons_succ, i64_w, i32_w]
        rfl
      refine pz 3 (some 83) (bz 45 15) ?_
      refine pz 4 (some 84) (bz 45 31) ?_
      refine pz 5 (some 85) (bz 45 63) ?_
      refine pz 6 (some 86) (bz 45 127) ?_
      refine pz 7 (some 87) (bz 45 255) ?_
      refine pz 8 (some 88) (bz 45 511) ?_
      refine pz 9 (some 89) (bz 45 1023) ?_
      refine pz 10 (some 90) (bz 45 2047) ?_
      refine pz 11 (some 91) (bz 45 4095) ?_
      refine pz 12 (some 92) (bz 45 8191) ?_
      refine pz 13 (some 93) (bz 45 16383) ?_
      refine pz 14 (some 94) (bz 45 32767) ?_
      refine pz 15 (some 95) (bz 45 65535) ?_
      refine pz 16 (some 96) (bz 45 131071) ?_
      refine pz 17 (some 97) (bz 45 262143) ?_
      refine pz 18 (some 98) (bz 45 524287) ?_
      refine pz 19 (some 99) (bz 45 1048575) ?_
      refine pz 20 (some 100) (bz 45 2097151) ?_
      refine pz 21 (some 101) (bz 45 4194303) ?_
      refine pz 22 (some 102) (bz 45 8388607) ?_
      refine pz 23 (some 103) (bz 45 16777215) ?_
      refine pz 25 (some 105) (bz 45 50331647) ?_
      refine pz 26 (some 106) (bz 45 117440511) ?_
      refine pz 27 (some 107) (bz 45 251658239) ?_
      refine tz2 28 (some 108) (bz 45 520093695) hHeld ?_
      refine one_ (i := 24) (N := some 104) (bz 45 536870911) rfl rfl (by kernel_rfl) (by decide) (fun K hK => ?_)
      refine goes_ Tryz.func14 (by kernel_rfl) rfl #[.pointer (some ⟨g, 0, none⟩)] (by rfl) rfl rfl (by simp only [List.map_toArray, List.map_cons, List.map_nil]; rfl) ?_
      with_reducible refine (t_bytes HT4D.out HK.out HBB.out).mono ?_
      rintro e w5 ⟨A5, c5, rfl, hc5, hb5⟩
      refine ⟨_, rfl, ?_⟩
      have HT5 := Aside0.mk (HT4D.out.below hb5)
      have HC5 := Aside0.mk hc5
      have HB5 := Aside0.mk (below_trans HB4D.out hb5)
      clear hc5 hb5
      refine hK.out _ _ ⟨HT5.out.T.c0, HT5.out.d3 HSR.out⟩ (fun hHeld => ?_)
      clear hK K
      refine norm_ (a' := ?_) ?_ ?_
      rotate_left
      · show Act.put _ (some 104) _ = _
        simp only [Act.put, List.setIfInBounds_toArray, List.set_cons_zero, List.set_cons_succ, i64_w, i32_w]
        rfl
      refine one_ (i := 29) (N := some 109) (bz 45 1073741823) rfl rfl (by kernel_rfl) (by decide) (fun K hK => ?_)
      refine goes_ Tryz.func27 (by kernel_rfl) rfl #[.pointer (some ⟨g2, 0, none⟩)] (by rfl) rfl rfl (by simp only [List.map_toArray, List.map_cons, List.map_nil]; rfl) ?_
      with_reducible refine (t_rbytes HT5.out HKR.out HRB.out).mono ?_
      rintro e w6 ⟨A6, c6, rfl, hc6, hb6⟩
      refine ⟨_, rfl, ?_⟩
      have HT6 := Aside0.mk (HT5.out.below hb6)
      have HC6 := Aside0.mk hc6
      have HCB6 := Aside0.mk (Kd.C_below HC5.out hb6)
      have HB6 := Aside0.mk (below_trans HB5.out hb6)
      clear hc6 hb6
      refine hK.out _ _ ⟨HT6.out.T.c0, HT6.out.d3 HSR.out⟩ (fun hHeld => ?_)
      clear hK K
      refine norm_ (a' := ?_) ?_ ?_
      rotate_left
      · show Act.put _ (some 109) _ = _
        simp only [Act.put, List.setIfInBounds_toArray, List.set_cons_zero, List.set_cons_succ, i64_w, i32_w]
        rfl
      refine one_ (i := 30) (N := some 110) (bz 45 2147483647) rfl rfl (by kernel_rfl) (by decide) (fun K hK => ?_)
      refine goes_ Tryz.func19 (by kernel_rfl) rfl #[.slice A5 bb.length c5, .slice A6 bb.length c6] (by rfl) rfl rfl (by simp only [List.map_toArray, List.map_cons, List.map_nil]; rfl) ?_
      with_reducible refine (t_same HCB6.out HC6.out).mono ?_
      rintro e w7 ⟨rfl, rfl⟩
      refine ⟨_, rfl, ?_⟩
      refine hK.out _ _ ⟨HT6.out.T.c0, HT6.out.d3 HSR.out⟩ (fun hHeld => ?_)
      clear hK K
      refine norm_ (a' := ?_) ?_ ?_
      rotate_left
      · show Act.put _ (some 110) _ = _
        simp only [Act.put, List.setIfInBounds_toArray, List.set_cons_zero, List.set_cons_succ, i64_w, i32_w]
        rfl
      refine pz 31 (some 111) (bz 45 4294967295) ?_
      refine pz 32 (some 112) (bz 45 8589934591) ?_
      refine pz 33 (some 113) (bz 45 17179869183) ?_
      refine pz 35 (some 115) (bz 45 51539607551) ?_
      refine pz 36 (some 116) (bz 45 120259084287) ?_
      refine pz 37 (some 117) (bz 45 257698037759) ?_
      refine tz2 38 (some 118) (bz 45 532575944703) hHeld ?_
      refine pz 39 (some 119) (bz 45 1082331758591) ?_
      refine pz 40 (some 120) (bz 45 2181843386367) ?_
      refine tz2 41 (some 121) (bz 45 4380866641919) hHeld ?_
      refine one_ (i := 34) (N := some 114) (bz 45 4398046511103) rfl rfl (by kernel_rfl) (by decide) (fun K hK => ?_)
      refine goes_ Tryz.func15 (by kernel_rfl) rfl #[.pointer (some ⟨g, 0, none⟩)] (by rfl) rfl rfl (by simp only [List.map_toArray, List.map_cons, List.map_nil]; rfl) ?_
      with_reducible refine (t_str HT6.out HSD.out).mono ?_
      rintro e w10 ⟨rfl, rfl⟩
      refine ⟨_, rfl, ?_⟩
      refine hK.out _ _ ⟨HT6.out.T.c0, HT6.out.d3 HSR.out⟩ (fun hHeld => ?_)
      clear hK K
      refine norm_ (a' := ?_) ?_ ?_
      rotate_left
      · show Act.put _ (some 114) _ = _
        simp only [Act.put, List.setIfInBounds_toArray, List.set_cons_zero, List.set_cons_succ, i64_w, i32_w]
        rfl
      refine pz 42 (some 122) (bz 45 8796093022207) ?_
      refine pz 43 (some 123) (bz 45 17592186044415) ?_
      refine pz 44 (some 6) (bz 45 35184372088831) ?_
      refine done_ (by kernel_rfl) ?_
      clear hHeld
      go_wp2_with (fail)
      go_ret
      exact ⟨rfl, HB6.out⟩

end Go.Proofs.YtmblnflfklmmkaaGreatDoor.Sh
/- The law's made. -/
namespace Go.Proofs.YtmblnflfklmmkaaGreatDoor.Sh
open Go.Proofs.YtmblnflfklmmkaaGreatDoor.Dk
open Go.RowKit Go.Proofs.YtmblnflfklmmkaaGreatDoorW.PrintWords Go.Proofs.YtmblnflfklmmkaaGreatDoorW.PrintLast Go.Proofs.YtmblnflfklmmkaaGreatDoorW.PrintMore
set_option linter.unusedVariables false
set_option linter.unusedSimpArgs false
set_option maxRecDepth 30000
variable {w0 w w' W w1 w2 w3 : World} {s g t g2 : Nat} {F F2 : Nat → Prop} {D D' : DM} {R R' : RM} {fr n : Int}
theorem tri_base {m : Nat} (h : Tri (w.drewN m) w1 s g F D fr n t g2 F2 R) : Tri w w1 s g F D fr n t g2 F2 R := ⟨h.S, h.T, h.ap, h.sF, h.tF, ⟨h.G.s, h.G.c, h.G.lt⟩, (pw_below_drewN (Below.refl _ _) m).trans h.b⟩
theorem play8_B (o : OpM) (h : DB D) (hy : AllB o.b) : DB (play8 fr n D R o).1 := by
  unfold play8
  split
  · exact h.put hy
  split
  · exact h.set _ _
  split
  · exact h.lose _
  split
  · exact h.start
  split
  · split
    · exact (h.write hy).flush
    · exact h.write hy
  · exact h
end Go.Proofs.YtmblnflfklmmkaaGreatDoor.Sh
/- The law StorePlays. -/
namespace Go.Proofs.YtmblnflfklmmkaaGreatDoor.Sh
open Go.Proofs.YtmblnflfklmmkaaGreatDoor.Dk
open Go.RowKit Go.Proofs.YtmblnflfklmmkaaGreatDoorW.PrintWords Go.Proofs.YtmblnflfklmmkaaGreatDoorW.PrintLast Go.Proofs.YtmblnflfklmmkaaGreatDoorW.PrintMore
set_option linter.unusedVariables false
set_option linter.unusedSimpArgs false
set_option maxRecDepth 30000
variable {w0 w w' W w1 w2 w3 : World} {s g t g2 : Nat} {F F2 : Nat → Prop} {D D' : DM} {R R' : RM} {fr n : Int}
theorem t_room {rm : Int} (hT : Tri w0 w s g F D fr n t g2 F2 R) (hK : SOk D fr n) (h : 64 * (n - 1) = rm) : Calls Tryz.prog 9 #[.pointer (some ⟨s, 0, none⟩)] w fun e w' => e = .returned (.int .i64 rm) ∧ w = w' := by
  rw [← h]
  exact room_calls hT.S hK
theorem t_rroom {rm : Int} (hT : Tri w0 w s g F D fr n t g2 F2 R) (hK : TOk R fr n) (h : 64 * (n - 1) = rm) : Calls Tryz.prog 10 #[.pointer (some ⟨t, 0, none⟩)] w fun e w' => e = .returned (.int .i64 rm) ∧ w = w' := by
  rw [← h, show 64 * (n - 1) = 64 * n - 64 by omega]
  exact rRoom_calls hT.T hK
set_option maxHeartbeats 16000000 in
theorem StorePlays_calls (hg : Glob w) (A : Option Addr) (c : Nat) (x : List Int) (sz fr n : Int) (A2 : Option Addr) (c2 : Nat) (l : List OpM) (hx0 : x.length ≤ 140737488351232) (hxc : x.length ≤ c) (hC : C8 w A x) (hO : Ops w A2 l) (hl : l.length ≤ 140737488351232) (hB : AllB x) (hBO : ∀ o ∈ l, AllB o.b) :
    Calls Tryz.prog 3 #[.slice A x.length c, .int .i64 sz, .int .i64 fr, .int .i64 n, .slice A2 l.length c2] w fun e w' => Kn w w' e := by
  have HG := Aside0.mk hg
  have HC := Aside0.mk hC
  have HO := Aside0.mk hO
  have HXC := Aside0.mk hxc
  have HB := Aside0.mk hB
  have HBO := Aside0.mk hBO
  have HW8 := Aside0.mk (wide8_calls (w := w) A c x sz hx0)
  have HL8 := Aside0.mk (long8_calls (w := w) A2 c2 l hO hl)
  clear hg hC hO hxc hB hBO
  by_cases hw : 2000 < x.length ∨ 60 < sz
  · have hwb := Lib.hid (decide_eq_true hw)
    rw [hwb.out] at HW8
    clear hw hwb
    go_enter Tryz.func3, Tryz.ntmps3
    go_wp2_with (first | (go_at_call 5; (with_reducible refine (HW8.out).mono ?_); rintro e w1 ⟨rfl, rfl⟩) | (go_at_call 7; (with_reducible refine (known_calls HG.out).mono ?_); rintro e w99 ⟨rfl, hb99⟩; have HB99 := Aside0.mk hb99; clear hb99))
    go_ret
    exact ⟨rfl, HB99.out⟩
  have hwb := Lib.hid (decide_eq_false hw)
  rw [hwb.out] at HW8
  have HXS := Aside0.mk (show x.length ≤ 2000 ∧ sz ≤ 60 by omega)
  clear hw hwb
  by_cases hlg : 2500 < wsum8 l
  · have HLG := Lib.hid (decide_eq_true hlg)
    clear hlg
    go_enter Tryz.func3, Tryz.ntmps3
    go_wp2_with (first | (go_at_call 5; (with_reducible refine (HW8.out).mono ?_); rintro e w1 ⟨rfl, rfl⟩) | (go_at_call 6; (with_reducible refine (HL8.out).mono ?_); rintro e w2 ⟨rfl, m, rfl⟩; rw [HLG.out]; have HGD := Aside0.mk (HG.out.below (pw_below_drewN (Below.refl _ _) m)); have HBD := Aside0.mk (pw_below_drewN (Below.refl w.heap.size w) m)) | (go_at_call 7; (with_reducible refine (known_calls HGD.out).mono ?_); rintro e w99 ⟨rfl, hb99⟩; have HB99 := Aside0.mk (below_trans HBD.out hb99); clear hb99))
    go_ret
    exact ⟨rfl, HB99.out⟩
  have HLG := Lib.hid (decide_eq_false hlg)
  have HLN := Aside0.mk (show wsum8 l ≤ 2500 by omega)
  clear hlg
  have HBT := Aside0.mk (show ∀ m, Calls Tryz.prog 8 #[.slice A x.length c, .int .i64 sz, .int .i64 fr, .int .i64 n] (w.drewN m) fun e w' => BothPo (w.drewN m) w' x sz fr n e from fun m => both_calls (HG.out.below (pw_below_drewN (Below.refl _ _) m)) A c x sz fr n HXS.out.1 HXC.out (Kd.C_drewN HC.out m) HXS.out.2)
  obtain ⟨rm, hrm⟩ : ∃ rm, 64 * (n - 1) = rm := ⟨_, rfl⟩
  have HRM := Lib.hid hrm
  have hr1 : (rm == rm) = true := by simp
  have hr2 : (rm != rm) = false := by simp
  clear hrm
  go_enter Tryz.func3, Tryz.ntmps3
  go_wp2_with (first | (go_at_call 5; (with_reducible refine (HW8.out).mono ?_); rintro e w1 ⟨rfl, rfl⟩) | (go_at_call 6; (with_reducible refine (HL8.out).mono ?_); rintro e w2 ⟨rfl, m, rfl⟩; rw [HLG.out]) | (go_at_call 8; (with_reducible refine (HBT.out m).mono ?_); rintro e w3 h3; rcases h3 with ⟨rfl, hb3⟩ | ⟨s, g, t, g2, F, F2, k, hk, hbd, rfl, htr, hsk, htk⟩; (have HB1 := Aside0.mk (show Below w.heap.size w w3 from (pw_below_drewN (Below.refl _ _) m).trans hb3); clear hb3); rotate_left; (obtain ⟨D0, hD0⟩ : ∃ D0, newM x k k = D0 := ⟨_, rfl⟩); (obtain ⟨R0, hR0⟩ : ∃ R0, rnewM ((List.range k).map (secAt x)) = R0 := ⟨_, rfl⟩); have HV0 := Aside0.mk (show DB D0 by rw [← hD0]; exact DB.new HB.out k k); have HM0 := Aside0.mk (show Sim D0 R0 by rw [← hD0, ← hR0]; exact Sim.new x k); have HH0 := Aside0.mk (show D0.held.length ≤ 40 * wsum8 (l.take 0) by rw [← hD0]; exact Nat.zero_le _); have HR0 := Aside0.mk (show R0.wait.length ≤ 40 * wsum8 (l.take 0) by rw [← hR0]; exact Nat.zero_le _); rw [hD0, hR0] at htr; rw [hD0] at hsk; rw [hR0] at htk; have HTR := Aside0.mk (tri_base htr); have HSK := Aside0.mk hsk; have HTK := Aside0.mk htk; clear hk hbd htr hsk htk hD0 hR0; rotate_left) | (go_at_call 9; (with_reducible refine (t_room HTR.out HSK.out HRM.out).mono ?_); rintro e w5 ⟨rfl, rfl⟩) | (go_at_call 10; (with_reducible refine (t_rroom HTR.out HTK.out HRM.out).mono ?_); rintro e w5 ⟨rfl, rfl⟩) | (go_at_call 11; (with_reducible refine (same8_calls HTR.out HSK.out HTK.out HM0.out HV0.out).mono ?_); rintro e w6 ⟨rfl, hb6⟩; have HT6 := Aside0.mk (HTR.out.below hb6); clear hb6) | (go_at_call 7; (with_reducible refine (known_calls (HG.out.below HB1.out)).mono ?_); rintro e w99 ⟨rfl, hb99⟩; have HB99 := Aside0.mk (below_trans HB1.out hb99); clear hb99))
  · go_ret
    exact ⟨rfl, HB99.out⟩
  go_loopw [16] (fun v16 w' => ∃ (i : Nat) (F F2 : Nat → Prop) (D : DM) (R : RM), v16 = .int .i64 i ∧ i ≤ l.length ∧ Aside0 (Tri w w' s g F D fr n t g2 F2 R) ∧ Aside0 (SOk D fr n) ∧ Aside0 (TOk R fr n) ∧ Aside0 (D.held.length ≤ 40 * wsum8 (l.take i)) ∧ Aside0 (R.wait.length ≤ 40 * wsum8 (l.take i)) ∧ Aside0 (Sim D R) ∧ Aside0 (DB D)) (fun v16 _ => l.length - (intOf v16).toNat)
  case atStart => exact ⟨0, F, F2, D0, R0, rfl, Nat.zero_le _, HT6, HSK, HTK, HH0, HR0, HM0, HV0⟩
  case round =>
    clear HTR HSK HTK HH0 HR0 HM0 HV0 HT6
    obtain ⟨i, F, F2, D, R, rfl, hi, HT, HK, HKR, HH, HRW, HM, HV⟩ := hrel
    by_cases hlt : i < l.length
    · obtain ⟨ad, ab, cb, ac, cc, o, rfl, ho, h0, h1, h2, h3, h4, hOp⟩ := HO.out.get i hlt
      obtain ⟨kd, at_, nn, y, ch⟩ := o
      have HW := Aside0.mk (wsum8_take ho)
      have HL := Aside0.mk (wsum8_le l (i + 1))
      have hb := HT.out.b
      have HLO := Aside0.mk (load_op (cell_kept h0 hb) (cell_kept h1 hb) (cell_kept h2 hb) (cell_kept h3 hb) (cell_kept h4 hb))
      have HOP := Aside0.mk (show ∀ W, Upd wr W (fun k => w.heap.size ≤ k) → OpIs W ⟨kd, at_, nn, y, ch⟩ [.int .i64 kd, .int .i64 at_, .int .i64 nn, .slice ab y.length cb, .slice ac ch.length cc] from fun W hW => OpIs.below hOp (Upd.below (F := fun k => w.heap.size ≤ k) ((Upd.of_below (F := fun k => w.heap.size ≤ k) hb).trans hW (fun k hk => .inl hk)) (fun k hk => hk)))
      have HY := Aside0.mk (show y.length ≤ 2500 by have := HW.out; have := HL.out; have := HLN.out; simp only [wOp8] at *; omega)
      have HYB := Aside0.mk (show AllB y from HBO.out ⟨kd, at_, nn, y, ch⟩ (List.mem_of_getElem? ho))
      have HNN := Aside0.mk (OpIs.C (o := ⟨kd, at_, nn, y, ch⟩) hOp).2.2.2.2.2
      have HDB := Aside0.mk (show D.held.length ≤ 100000 by have := HH.out; have := wsum8_le l i; have := HLN.out; omega)
      have HRB := Aside0.mk (show R.wait.length ≤ 100000 by have := HRW.out; have := wsum8_le l i; have := HLN.out; omega)
      have HPL := Aside0.mk (HM.out.play HK.out HKR.out.d HV.out ⟨kd, at_, nn, y, ch⟩ HYB.out)
      have HPV := Lib.hid HPL.out.2
      clear h0 h1 h2 h3 h4 hOp ho hb
      have hps := play8_hs (fr := fr) (n := n) (D := D) (R := R) ⟨kd, at_, nn, y, ch⟩
      have hpk := play8_ok (fr := fr) (n := n) (D := D) (R := R) ⟨kd, at_, nn, y, ch⟩ HK.out.d (by have := HDB.out; have := HY.out; show D.held.length + y.length + 128 ≤ _; omega) HNN.out
      have HK5 := Aside0.mk (HK.out.dm hpk hps.2)
      have HPS := Aside0.mk hps
      have HV5 := Aside0.mk (show DB (play8 fr n D R ⟨kd, at_, nn, y, ch⟩).1 from play8_B _ HV.out HYB.out)
      clear hps hpk
      go_wp2_with (first | (refine load_at (ty := 37) (.tmp 69) rfl rfl HLO.out rfl ?_) | (go_at_call 12; (with_reducible refine (plays8_calls HT.out HK.out HKR.out (by have := HDB.out; omega) (by have := HRB.out; omega) kd at_ nn y ch ab ac cb cc (by have := HY.out; omega) HOP.out).mono ?_); rintro e w5 ⟨rfl, F5, F25, _, _, hT5, hk5, hw5, _⟩; rw [HPV.out]; have HT5 := Aside0.mk hT5; have HKR5 := Aside0.mk hk5; have HW5 := Aside0.mk hw5; clear hT5 hk5 hw5) | (go_at_call 11; (with_reducible refine (same8_calls HT5.out HK5.out HKR5.out HPL.out.1 HV5.out).mono ?_); rintro e w6 ⟨rfl, hb6⟩; have HT6 := Aside0.mk (HT5.out.below hb6); clear hb6))
      have HH5 := Aside0.mk (show (play8 fr n D R ⟨kd, at_, nn, y, ch⟩).1.held.length ≤ 40 * wsum8 (l.take (i + 1)) by have h1 := HPS.out.1; have h2 := HH.out; have h3 := HW.out; simp only [wOp8] at h3 h1; omega)
      have HR5 := Aside0.mk (show (play8 fr n D R ⟨kd, at_, nn, y, ch⟩).2.1.wait.length ≤ 40 * wsum8 (l.take (i + 1)) by have h2 := HRW.out; have h3 := HW.out; have h4 := HW5.out; simp only [wOp8] at h3; omega)
      have HM5 := Aside0.mk HPL.out.1
      go_roundw
      case rel => exact ⟨i + 1, F5, F25, _, _, by go_num, by omega, HT6, HK5, HKR5, HH5, HR5, HM5, HV5⟩
      case measure => simp [intOf]; omega
    · obtain rfl : i = l.length := by omega
      go_wp2_with (first | (go_at_call 7; (with_reducible refine (known_calls HT.out.glob).mono ?_); rintro e w99 ⟨rfl, hb99⟩; have HB99 := Aside0.mk (below_trans HT.out.b hb99); clear hb99))
      go_ret
      exact ⟨rfl, HB99.out⟩
end Go.Proofs.YtmblnflfklmmkaaGreatDoor.Sh
/- The laws' arguments, opened: bytes, choices, operations. -/
namespace Go.Proofs.YtmblnflfklmmkaaGreatDoor.Dk
open Go.RowKit Go.Proofs.YtmblnflfklmmkaaGreatDoorW.PrintWords Go.Proofs.YtmblnflfklmmkaaGreatDoorW.PrintLast Go.Proofs.YtmblnflfklmmkaaGreatDoorW.PrintMore
open Go.ChangeShapes Go.WideShapes
set_option linter.unusedVariables false
set_option linter.unusedSimpArgs false
set_option maxRecDepth 30000
variable {H : Type} {enc : TypeId × Value → H} {W : World}
theorem bytes5 : Tryz.prog.bytesOf 5 = 1 := by kernel_rfl
theorem bytes4 : Tryz.prog.bytesOf 4 = 1 := by kernel_rfl
theorem bytes37 : Tryz.prog.bytesOf 37 = 72 := by kernel_rfl
theorem cells37 : Tryz.prog.cellsOf 37 = 5 := by kernel_rfl
theorem open_ch {fuel : Nat} {cs : List Value} {x : DataW H × List MemPlace} (h : DataW.trod enc Tryz.prog W 0 (fun _ => true) true fuel 35 cs = some x) (hw : ∀ n ∈ x.1.weights Tryz.prog 35, n ≤ reachBytes) :
    ∃ a c zs, cs = [.slice a zs.length c] ∧ zs.length ≤ c ∧ Kd.C Kd.bool W a zs.length zs ∧ zs.length ≤ 140737488351232 := by
  rcases Go.Deep.open_bools Tryz.underlying35 Tryz.underlying4 (by kernel_rfl) h with ⟨rfl, _⟩ | ⟨a, len, cap, Bf, rfl, _, hl, hm, rfl, hc⟩
  · exact ⟨none, 0, [], rfl, Nat.le_refl _, Kd.C_nil _ _, by decide⟩
  · have hlt : ((List.range len).map Bf).length = len := by simp
    have hb : len ≤ 140737488351232 := by
      have h1 := hw ((len + (cap - len)) * Tryz.prog.bytesOf 4) (by simp [Go.Deep.boolRow, DataW.weights, Tryz.underlying35])
      rw [bytes4] at h1
      have : reachBytes = 140737488351232 := rfl
      omega
    have hmx : maxLen = 9223372036854775807 := by decide
    refine ⟨some a, cap, (List.range len).map Bf, by rw [hlt], by omega, ⟨rfl, by omega, fun _ => ⟨a, rfl, fun j p hj => ?_⟩⟩, by omega⟩
    obtain ⟨hj1, rfl⟩ := List.getElem?_eq_some_iff.1 hj
    rw [hlt] at hj1
    refine ⟨[.bool (Bf j)], rfl, by simp [Kd.bool, Kd.scalar], fun i u hu => ?_⟩
    cases i with
    | zero =>
      simp only [List.getElem?_cons_zero, Option.some.injEq] at hu
      subst hu
      have := hc j (by omega)
      simpa [Kd.bool, Kd.scalar] using this
    | succ i => simp at hu
theorem wf_i64 {n : Int} (h : (Lit.int .i64 n).wf = true) : -9223372036854775808 ≤ n ∧ n ≤ 9223372036854775807 := by
  have e1 : IntKind.i64.min = -9223372036854775808 := by decide
  have e2 : IntKind.i64.max = 9223372036854775807 := by decide
  simp [Lit.wf] at h
  omega
theorem weightsAll_mem {P : Program} {e : TypeId} : ∀ {l : List (DataW H)} {d : DataW H}, d ∈ l → ∀ n ∈ d.weights P e, n ∈ DataW.weightsAll P e l
  | [], _, h, _, _ => by cases h
  | d0 :: l, d, h, n, hn => by
    simp only [DataW.weightsAll, List.mem_append]
    rcases List.mem_cons.1 h with rfl | h
    · exact .inl hn
    · exact .inr (weightsAll_mem h n hn)
end Go.Proofs.YtmblnflfklmmkaaGreatDoor.Dk
/- A law's bytes, opened, with their range. -/
namespace Go.Proofs.YtmblnflfklmmkaaGreatDoor.Dk
open Go.RowKit Go.Proofs.YtmblnflfklmmkaaGreatDoorW.PrintWords Go.Proofs.YtmblnflfklmmkaaGreatDoorW.PrintLast Go.Proofs.YtmblnflfklmmkaaGreatDoorW.PrintMore
open Go.ChangeShapes Go.WideShapes
set_option linter.unusedVariables false
set_option linter.unusedSimpArgs false
set_option maxRecDepth 30000
variable {H : Type} {enc : TypeId × Value → H} {W : World}
theorem wf_u8 {n : Int} (h : (Lit.int .u8 n).wf = true) : 0 ≤ n ∧ n ≤ 255 := by
  have e1 : IntKind.u8.min = 0 := by decide
  have e2 : IntKind.u8.max = 255 := by decide
  simp [Lit.wf] at h
  omega
theorem open_byB {fuel : Nat} {cs : List Value} {x : DataW H × List MemPlace} (h : DataW.trod enc Tryz.prog W 0 (fun _ => true) true fuel 22 cs = some x) (hw : ∀ n ∈ x.1.weights Tryz.prog 22, n ≤ reachBytes) :
    ∃ a c zs, cs = [.slice a zs.length c] ∧ zs.length ≤ c ∧ Kd.C (Kd.int .u8) W a zs.length zs ∧ zs.length ≤ 140737488351232 ∧ ∀ z ∈ zs, 0 ≤ z ∧ z ≤ 255 := by
  rcases open_ints Tryz.underlying22 Tryz.underlying5 (by kernel_rfl) h with ⟨rfl, _⟩ | ⟨a, len, cap, zs, rfl, _, hl, hm, hz, rfl, hc, hwf⟩
  · exact ⟨none, 0, [], rfl, Nat.le_refl _, Kd.C_nil _ _, by decide, fun z hz => by cases hz⟩
  · simp only [if_true] at hz
    have hlt : (zs.take len).length = len := by rw [List.length_take]; omega
    have hb : len ≤ 140737488351232 := by
      have h1 := hw (((lits (H := H) .u8 (zs.take len)).length + (lits (H := H) .u8 (zs.drop len)).length) * Tryz.prog.bytesOf 5) (by simp [DataW.weights, Tryz.underlying22])
      have h2 : (lits (H := H) .u8 (zs.take len)).length = len := by simp [lits]; omega
      rw [h2, bytes5] at h1
      have : reachBytes = 140737488351232 := rfl
      omega
    refine ⟨some a, cap, zs.take len, by rw [hlt], by omega, ⟨rfl, by omega, fun _ => ⟨a, rfl, fun j p hj => ?_⟩⟩, by omega, fun z hz => wf_u8 (hwf z (List.mem_of_mem_take hz))⟩
    rw [List.getElem?_take] at hj
    split at hj
    · obtain ⟨hj1, rfl⟩ := List.getElem?_eq_some_iff.1 hj
      refine ⟨[.int .u8 zs[j]], rfl, rfl, fun i u hu => ?_⟩
      cases i with
      | zero =>
        simp only [List.getElem?_cons_zero, Option.some.injEq] at hu
        subst hu
        have := hc j hj1
        rw [List.getD_eq_getElem?_getD, hj] at this
        simpa [Kd.int, Kd.scalar] using this
      | succ i => simp at hu
    · cases hj
end Go.Proofs.YtmblnflfklmmkaaGreatDoor.Dk
/- A law's operations, opened, with the range of their bytes. -/
namespace Go.Proofs.YtmblnflfklmmkaaGreatDoor.Dk
open Go.RowKit Go.Proofs.YtmblnflfklmmkaaGreatDoorW.PrintWords Go.Proofs.YtmblnflfklmmkaaGreatDoorW.PrintLast Go.Proofs.YtmblnflfklmmkaaGreatDoorW.PrintMore
open Go.ChangeShapes Go.WideShapes
set_option linter.unusedVariables false
set_option linter.unusedSimpArgs false
set_option maxRecDepth 30000
variable {H : Type} {enc : TypeId × Value → H} {W : World}
theorem open_opB {fuel : Nat} {cs : List Value} {x : DataW H × List MemPlace} (h : DataW.trod enc Tryz.prog W 0 (fun _ => true) true fuel 37 cs = some x) (hw : ∀ n ∈ x.1.weights Tryz.prog 37, n ≤ reachBytes) : ∃ o, OpIs W o cs ∧ ∀ z ∈ o.b, 0 ≤ z ∧ z ≤ 255 := by
  obtain ⟨xs, n, rfl, rfl, hl, hxl, hf⟩ := DataW.trod_struct Tryz.underlying37 h
  rw [cells37] at hl
  match cs, hl, xs, hxl with
  | [v0, v1, v2, v3, v4], _, [y0, y1, y2, y3, y4], _ =>
    have g0 := hf 0 _ rfl
    have g1 := hf 1 _ rfl
    have g2 := hf 2 _ rfl
    have g3 := hf 3 _ rfl
    have g4 := hf 4 _ rfl
    have c3 : Tryz.prog.cellsOf 3 = 1 := by kernel_rfl
    have c22 : Tryz.prog.cellsOf 22 = 1 := by kernel_rfl
    have c24 : Tryz.prog.cellsOf 35 = 1 := by kernel_rfl
    simp [c3, c22, c24] at g0 g1 g2 g3 g4
    obtain ⟨n0, e0, _, w0⟩ := DataW.trod_int Tryz.underlying3 g0
    obtain ⟨n1, e1, _, w1⟩ := DataW.trod_int Tryz.underlying3 g1
    obtain ⟨n2, e2, _, w2⟩ := DataW.trod_int Tryz.underlying3 g2
    have hw' : ∀ n ∈ DataW.weightsEach Tryz.prog [3, 3, 3, 22, 35] [y0.1, y1.1, y2.1, y3.1, y4.1], n ≤ reachBytes := fun n hn => hw n (by simpa [DataW.weights, Tryz.underlying37] using hn)
    obtain ⟨a3, k3, z3, e3, l3, C3, b3, B3⟩ := open_byB g3 (fun n hn => hw' n (by simp [DataW.weightsEach, hn]))
    obtain ⟨a4, k4, z4, e4, l4, C4, b4⟩ := open_ch g4 (fun n hn => hw' n (by simp [DataW.weightsEach, hn]))
    injection e0 with e0; injection e1 with e1; injection e2 with e2; injection e3 with e3; injection e4 with e4
    subst e0; subst e1; subst e2; subst e3; subst e4
    obtain ⟨p1, p2⟩ := wf_i64 w1
    obtain ⟨q1, q2⟩ := wf_i64 w2
    exact ⟨⟨n0, n1, n2, z3, z4⟩, ⟨a3, k3, a4, k4, rfl, l3, l4, C3, C4, b3, b4, p1, p2, q1, q2⟩, B3⟩
theorem open_opsB {a : Option Addr} {len cap : Nat} {d : DataW H} {p : List MemPlace} (h : DataW.Trod enc Tryz.prog W 0 (fun _ => true) true 23 (.slice a len cap) d p) (hw : ∀ n ∈ d.weights Tryz.prog 23, n ≤ reachBytes) :
    ∃ l : List OpM, len = l.length ∧ Ops W a l ∧ l.length ≤ 140737488351232 ∧ ∀ o ∈ l, ∀ z ∈ o.b, 0 ≤ z ∧ z ≤ 255 := by
  obtain ⟨fuel, hf⟩ := h
  rcases Go.Deep.open_slice Tryz.underlying23 hf with ⟨hcs, _⟩ | ⟨a', len', cap', m, n, Df, Pl, hcs, _, hl, hm, hmm, hx, hi⟩
  · simp [Value.cells] at hcs
    obtain ⟨rfl, rfl, rfl⟩ := hcs
    exact ⟨[], rfl, ⟨rfl, by decide, fun h => absurd h (by decide)⟩, by decide, fun o ho => by cases ho⟩
  · simp [Value.cells] at hcs
    obtain ⟨rfl, rfl, rfl⟩ := hcs
    simp only [if_true] at hmm
    injection hx with hx _
    subst hx
    have hb : len ≤ 140737488351232 := by
      have h1 := hw ((((List.range len).map Df).length + ((List.range (m - len)).map fun j => Df (len + j)).length) * Tryz.prog.bytesOf 37) (by simp [DataW.weights, Tryz.underlying23])
      rw [bytes37] at h1
      simp only [List.length_map, List.length_range] at h1
      have : reachBytes = 140737488351232 := rfl
      omega
    have each : ∀ i, ∃ o : OpM, i < len → ∃ cs', (OpIs W o cs' ∧ ∀ z ∈ o.b, 0 ≤ z ∧ z ≤ 255) ∧ cs'.length = 5 ∧ ∀ j u, cs'[j]? = some u → W.cell? (a'.add (i * 5 + j)) = some u := by
      intro i
      by_cases hlt : i < len
      · obtain ⟨cs', h1, h2⟩ := hi i (by omega)
        rw [cells37] at h1
        obtain ⟨_, hcl, hcell⟩ := World.cells?_some h1
        obtain ⟨o, ho⟩ := open_opB h2 (fun n hn => hw n (by
          simp only [DataW.weights, Tryz.underlying23, List.mem_cons, List.mem_append]
          exact .inr (.inl (weightsAll_mem (List.mem_map.2 ⟨i, List.mem_range.2 hlt, rfl⟩) n hn))))
        refine ⟨o, fun _ => ⟨cs', ho, hcl, fun j u hj => ?_⟩⟩
        have hj5 : j < 5 := by
          have := (List.getElem?_eq_some_iff.1 hj).1
          omega
        rw [← Addr.add_add, hcell j hj5, hj]
      · exact ⟨⟨0, 0, 0, [], []⟩, fun h => absurd h hlt⟩
    refine ⟨(List.range len).map (fun i => Classical.choose (each i)), by simp, ⟨rfl, by simp; omega, fun _ => ⟨a', rfl, fun j o hj => ?_⟩⟩, by simpa using hb, fun o ho => ?_⟩
    rotate_left
    · obtain ⟨i, hi, rfl⟩ := List.mem_map.1 ho
      obtain ⟨cs', h1, _⟩ := Classical.choose_spec (each i) (List.mem_range.1 hi)
      exact h1.2
    obtain ⟨hj1, rfl⟩ := List.getElem?_eq_some_iff.1 hj
    simp only [List.length_map, List.length_range] at hj1
    obtain ⟨cs', h1, h2, h3⟩ := Classical.choose_spec (each j) hj1
    exact ⟨cs', h2, by simpa using h1.1, h3⟩
end Go.Proofs.YtmblnflfklmmkaaGreatDoor.Dk
/- The law StorePlays holds: called with any arguments that can be read, it returns true and leaves them as they were: the card, tied to the program's text. There is no further condition. -/
namespace Go.Proofs.YtmblnflfklmmkaaGreatDoor.storePlays
open Go.ChangeShapes Go.WideShapes Go.ChangeAt Go.RowKit
open Go.ChangeMaps (open_string shut_string)
set_option linter.unusedVariables false
theorem own : ownKnob Tryz.prog.godebug = none := by kernel_rfl
theorem laidOut : laidOutB Tryz.prog = true := by kernel_rfl
set_option maxHeartbeats 8000000 in
set_option maxRecDepth 100000 in
theorem lifted (os : Os) (started : os.Started) (H : Type) (enc : TypeId × Value → H) :
    ReturnsInHanded {} Tryz.checked os 3 .any (fun w args => (Rows.storePlaysSpec.pre enc Tryz.prog Tryz.f3 [] false w args ∧ laidMetH Tryz.prog Sh.laidTabs w) ∧ sizedMet enc Tryz.prog Tryz.f3 (OpenSpec.ofChange Rows.storePlaysSpec) false w args) (Rows.storePlaysSpec.post enc Tryz.prog Tryz.f3 false true false false) := by
  refine returnsInHanded_of_change_and (C := Tryz.checked) (X := fun w _ => laidMetH Tryz.prog Sh.laidTabs w) (fun _ _ _ hh h => h.of_heap hh) own started (by kernel_rfl) Tryz.func3
    (ChangeSpec.witness_shaped (enc := enc) (C := Tryz.checked) (os := os) (X := fun w _ => laidMetH Tryz.prog Sh.laidTabs w) false (World.doorLaid Tryz.prog 400 os) #[.slice none 0 0, .int .i64 0, .int .i64 0, .int .i64 0, .slice none 0 0] 8 rfl (World.shaped_of_RefB (by kernel_rfl) (by kernel_rfl)) (by kernel_rfl) (by kernel_rfl) (by kernel_rfl) (Sh.door_met os _)) ?_
  intro W base args ds gs before hval0 hW hcnd hsz0 hL _
  have hG := Sh.of_laid hL
  have hsz : (DataW.weightsEach Tryz.prog (Tryz.f3.params.toList ++ Rows.storePlaysSpec.plain.varTypes Tryz.prog) (ds ++ gs)).all (· ≤ reachBytes) = true := hsz0
  have hval : ∀ (j : Nat) t v, Tryz.f3.params[j]? = some t → args[j]? = some v → Value.okWide Tryz.prog W .any base t v := hval0
  have hW' := hW
  obtain ⟨p, q, hA0, hV, rfl, hfz, hnd⟩ := hW
  have hA : DataW.TrodAll enc Tryz.prog W 0 (fun _ => true) true Tryz.f3.params.toList args.toList ds p := hA0
  rw [Tryz.params3] at hA hval hsz
  obtain ⟨v0, vs0, d0, ds0, p0, q0, hargs, rfl, rfl, h0, r0⟩ := trodAll_cons hA
  obtain ⟨v1, vs1, d1, ds1, p1, q1, rfl, rfl, rfl, h1, r1⟩ := trodAll_cons r0
  obtain ⟨v2, vs2, d2, ds2, p2, q2, rfl, rfl, rfl, h2, r2⟩ := trodAll_cons r1
  obtain ⟨v3, vs3, d3, ds3, p3, q3, rfl, rfl, rfl, h3, r3⟩ := trodAll_cons r2
  obtain ⟨v4, vs4, d4, ds4, p4, q4, rfl, rfl, rfl, h4, r4⟩ := trodAll_cons r3
  obtain ⟨rfl, rfl, rfl⟩ := trodAll_nil r4
  obtain rfl : args = #[v0, v1, v2, v3, v4] := by cases args; simp_all
  obtain ⟨rfl, rfl⟩ := trodVars_none hV
  obtain ⟨a0, len0, cap0, rfl⟩ := okWide_slice Tryz.underlying22 (hval 0 22 v0 rfl rfl)
  have k0 := h0
  have lt0 : ∀ x ∈ p0, x.block < W.heap.size := by obtain ⟨m, hm⟩ := k0; exact DataW.trod_lt m _ _ _ hm
  obtain ⟨fu0, hf0⟩ := h0
  obtain ⟨b0, c0, z0, hcs0, hl0, hC0, hb0, hB0⟩ := Dk.open_byB hf0 (fun n hn => by simpa using List.all_eq_true.1 hsz _ (DataW.weights_mem_each (j := 0) (t := 22) rfl rfl n hn))
  simp [Value.cells] at hcs0
  obtain ⟨rfl, rfl, rfl⟩ := hcs0
  obtain ⟨a1, rfl, rfl, rfl, w1⟩ := open_int Tryz.underlying3 (hval 1 3 v1 rfl rfl) h1
  obtain ⟨a2, rfl, rfl, rfl, w2⟩ := open_int Tryz.underlying3 (hval 2 3 v2 rfl rfl) h2
  obtain ⟨a3, rfl, rfl, rfl, w3⟩ := open_int Tryz.underlying3 (hval 3 3 v3 rfl rfl) h3
  obtain ⟨a4, len4, cap4, rfl⟩ := okWide_slice Tryz.underlying23 (hval 4 23 v4 rfl rfl)
  have k4 := h4
  have lt4 : ∀ x ∈ p4, x.block < W.heap.size := by obtain ⟨m, hm⟩ := k4; exact DataW.trod_lt m _ _ _ hm
  obtain ⟨z4, rfl, hO4, hb4, hOB4⟩ := Dk.open_opsB h4 (fun n hn => by simpa using List.all_eq_true.1 hsz _ (DataW.weights_mem_each (j := 4) (t := 23) rfl rfl n hn))
  clear hA0 hval0 hsz0 hsz
  refine (Sh.StorePlays_calls hG a0 cap0 z0 a1 a2 a3 a4 cap4 z4 hb0 hl0 hC0 hO4 hb4 hB0 hOB4).mono fun e W' ⟨he, bel⟩ => ?_
  subst he
  exact ⟨_, rfl, _, _, _, [], _, [], hW', trodAll_mk1 (shut_bool Tryz.underlying4 _), (trodAll_cons_mk (Below.trod laidOut (by kernel_rfl) (of_decide_eq_true (by kernel_rfl)) k0 bel lt0) (trodAll_cons_mk (shut_int Tryz.underlying3 w1) (trodAll_cons_mk (shut_int Tryz.underlying3 w2) (trodAll_cons_mk (shut_int Tryz.underlying3 w3) (trodAll_cons_mk (Below.trod laidOut (by kernel_rfl) (of_decide_eq_true (by kernel_rfl)) k4 bel lt4) trodAll_mk0))))), rfl, bel.frame _, fun h => by cases h⟩
theorem over : Rows.storePlaysRow.holds Tryz.pinned (OpenSpec.ofChange Rows.storePlaysSpec) :=
  OpenClaim.holds_of_wide 3 Tryz.f3 rfl rfl rfl rfl rfl rfl rfl ⟨rfl, rfl, rfl, rfl, rfl⟩ rfl rfl rfl rfl rfl (by kernel_rfl) Tryz.func3 (by kernel_rfl)
    (of_decide_eq_true (by kernel_rfl)) (by unfold Func.isWrapper; first | (rw [if_pos (by decide +kernel)]; kernel_rfl) | (rw [if_neg (by decide +kernel)]; exact ⟨rfl, rfl⟩))
    (fun os started H enc _ => lifted os started H enc)
theorem proved : Rows.StorePlaysSaid := over
theorem card : Rows.StorePlaysCardSaid :=
  Claim7.holds_tied_plain_at .later [] [.data, .data] true (true, "38829f24f7c41a7a1fa4dcf99df71839266e80ad6b31fa865b82f39ddabc8f36") false
    proved (fun _ h => by cases h) (by kernel_rfl) (fun _ h => by cases h) storePlays_row_tie rfl ⟨rfl, rfl⟩ (by kernel_rfl) rfl
    (fun f fn hf hfn => by
      obtain rfl : f = 3 := Option.some.inj ((show Tryz.prog.funcNamed "imprimatur/imprimaturlaw08.StorePlays" = some 3 by kernel_rfl).symm.trans hf) |>.symm
      obtain rfl : fn = Tryz.f3 := (Option.some.inj (Tryz.func3.symm.trans hfn)).symm
      exact ⟨by kernel_rfl, fun j t ht => by
        rw [Tryz.params3] at ht
        have hm : t ∈ [22, 3, 3, 3, 23] := by simpa using Array.mem_of_getElem? ht
        have hall : ([22, 3, 3, 3, 23].all fun u => !Tryz.prog.wantsStandIn u) = true := by kernel_rfl
        exact (show Tryz.prog.wantsStandIn t = false by simpa using List.all_eq_true.1 hall t hm)⟩)
    (by kernel_rfl)
#print axioms card
end Go.Proofs.YtmblnflfklmmkaaGreatDoor.storePlays
namespace Go.Proofs.YtmblnflfklmmkaaGreatDoor
/-- The statement, under a short name, for the claim. -/
theorem storePlays_holds : Rows.StorePlaysCardSaid := storePlays.card
end Go.Proofs.YtmblnflfklmmkaaGreatDoor
