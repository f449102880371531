/- StoreAsks: the texts L8B L8C PlU ShS PlV L8D ScA SpA SkA LwR LwZ LwQ LawStoreAsks. -/
import Derived.Test.YtmblnflfklmmkaaGreatDoorPStoreAsks2
import Derived.Test.YtmblnflfklmmkaaGreatDoorPStoreAsks5
import Derived.Test.YtmblnflfklmmkaaGreatDoorPStoreAsks4
import Derived.Deep.Slices
import Derived.Deep.Grids
import Derived.Test.YtmblnflfklmmkaaGreatDoorRows
import Derived.Test.YtmblnflfklmmkaaGreatDoorCards
import Derived.Test.YtmblnflfklmmkaaGreatDoorTie
import Derived.Test.YtmblnflfklmmkaaGreatDoorPStoreAsks1
import Derived.WalkKit
import Derived.ProofKit
import Derived.OpenShut
import Derived.ShutString
import Derived.ChangeOld
import Derived.Below
import Derived.SizedLaws
import Derived.SevenTiedAt
import Derived.LaidMore
import Derived.Stop.Joined
/- The law's plays. -/
namespace Go.Proofs.YtmblnflfklmmkaaGreatDoor.Sh
open Go.Proofs.YtmblnflfklmmkaaGreatDoor.Dk
open Go.RowKit Go.Proofs.YtmblnflfklmmkaaGreatDoorW.PrintWords Go.Proofs.YtmblnflfklmmkaaGreatDoorW.PrintLast Go.Proofs.YtmblnflfklmmkaaGreatDoorW.PrintMore
set_option linter.unusedVariables false
set_option linter.unusedSimpArgs false
set_option maxRecDepth 30000
variable {w0 w w' W w1 w2 w3 : World} {s g t g2 : Nat} {F F2 : Nat → Prop} {D D' : DM} {R R' : RM} {fr n : Int}
/-- A store on a disk, and the document's store on the document's, beside each other; all is younger than w0. -/
structure Tri (w0 w : World) (s g : Nat) (F : Nat → Prop) (D : DM) (fr n : Int) (t g2 : Nat) (F2 : Nat → Prop) (R : RM) : Prop where
  S : SAt w w0.heap.size s g F D fr n
  T : TAt w w0.heap.size t g2 F2 R fr n
  ap : ∀ k, F k → ¬ F2 k
  sF : ¬ F2 s
  tF : ¬ F t
  G : Glob w0
  b : Below w0.heap.size w0 w
theorem Tri.glob (h : Tri w0 w s g F D fr n t g2 F2 R) : Glob w := h.G.below h.b
theorem Tri.notF (h : Tri w0 w s g F D fr n t g2 F2 R) : ¬ F 0 ∧ ¬ F 1 :=
  ⟨fun hf => by have := h.S.d.lo _ hf; have := h.G.lt; omega, fun hf => by have := h.S.d.lo _ hf; have := h.G.lt; omega⟩
theorem Tri.below (h : Tri w0 w s g F D fr n t g2 F2 R) (hb : Below w.heap.size w w1) : Tri w0 w1 s g F D fr n t g2 F2 R := ⟨h.S.below hb, h.T.below hb, h.ap, h.sF, h.tF, h.G, below_trans h.b hb⟩
theorem Tri.hi (h : Tri w0 w s g F D fr n t g2 F2 R) : (∀ k, F k → k < w.heap.size) ∧ (∀ k, F2 k → k < w.heap.size) := ⟨fun k hk => h.S.d.lt k hk, fun k hk => (h.T.r.lo k hk).2⟩
theorem TAt.upd {G : Nat → Prop} (h : TAt w w0.heap.size t g2 F2 R fr n) (hu : Upd w w1 G) (hd : ∀ k, F2 k → ¬ G k) (hG : ∀ k, G k → w0.heap.size ≤ k) (ht : ¬ G t) : TAt w1 w0.heap.size t g2 F2 R fr n := ⟨(hu.block t (blk_lt h.blk) ht).trans h.blk, h.r.frame hu hd hG, h.nF⟩
theorem SAt.upd {G : Nat → Prop} (h : SAt w w0.heap.size s g F D fr n) (hu : Upd w w1 G) (hd : ∀ k, F k → ¬ G k) (hs : ¬ G s) : SAt w1 w0.heap.size s g F D fr n := ⟨(hu.block s (blk_lt h.blk) hs).trans h.blk, h.d.frame hu (fun k _ => hd k), h.nF⟩
theorem Tri.onS (h : Tri w0 w s g F D fr n t g2 F2 R) (hp : SPo w w1 w0.heap.size s g F D' fr n) : ∃ F', (∀ k, F' k → F k ∨ w.heap.size ≤ k) ∧ Tri w0 w1 s g F' D' fr n t g2 F2 R ∧ Upd w w1 F := by
  obtain ⟨F', hF, hs, hu⟩ := hp
  refine ⟨F', hF, ⟨hs, h.T.upd hu (fun k h2 h1 => h.ap k h1 h2) (fun k hk => h.S.d.lo k hk) h.tF, fun k h1 h2 => ?_, h.sF, fun h1 => ?_, h.G, below_upd h.b hu (fun k hk => h.S.d.lo k hk)⟩, hu⟩
  · rcases hF k h1 with h1 | h1
    · exact h.ap k h1 h2
    · have := h.hi.2 k h2
      omega
  · rcases hF t h1 with h1 | h1
    · exact h.tF h1
    · have := blk_lt h.T.blk
      omega
theorem Tri.onT {m : Nat} (h : Tri w0 w s g F D fr n t g2 F2 R) (hp : TPo w w1 w0.heap.size t g2 F2 R R' fr n m) : ∃ F', (∀ k, F' k → F2 k ∨ w.heap.size ≤ k) ∧ Tri w0 w1 s g F D fr n t g2 F' R' ∧ TOk R' fr n ∧ R'.wait.length ≤ R.wait.length + m ∧ Upd w w1 F2 := by
  obtain ⟨F', hF, ht, hk, hw, hu⟩ := hp
  refine ⟨F', hF, ⟨h.S.upd hu (fun k h1 h2 => h.ap k h1 h2) h.sF, ht, fun k h1 h2 => ?_, fun h1 => ?_, h.tF, h.G, below_upd h.b hu (fun k hk => (h.T.r.lo k hk).1)⟩, hk, hw, hu⟩
  · rcases hF k h2 with h2 | h2
    · exact h.ap k h1 h2
    · have := h.hi.1 k h1
      omega
  · rcases hF s h1 with h1 | h1
    · exact h.sF h1
    · have := blk_lt h.S.blk
      omega
theorem TAt.po {m : Nat} (h : TAt w w0.heap.size t g2 F2 R fr n) (hk : TOk R fr n) (hp : RefTo w w1 w0.heap.size g2 F2 R m R') : TPo w w1 w0.heap.size t g2 F2 R R' fr n m := by
  obtain ⟨F', hF, hr, ho, hw, hl, hu⟩ := hp
  refine ⟨F', hF, ⟨(hu.block t (blk_lt h.blk) h.nF).trans h.blk, hr, fun hs => ?_⟩, hk.dm ho hl, hw, hu⟩
  rcases hF t hs with h1 | h1
  · exact h.nF h1
  · have := blk_lt h.blk
    omega
/-- An operation on both: the disks behind it, and what is told. -/
def play8 (fr n : Int) (D : DM) (R : RM) (o : OpM) : DM × RM × Bool :=
  if o.kind = 1 then ((putM D fr n o.b).1, (rputM R fr n o.b).1, (putM D fr n o.b).2 == (rputM R fr n o.b).2)
  else if o.kind = 2 then ((setM D o.n o.ch).1, rsetM R o.n o.ch, (setM D o.n o.ch).2 == rsetE o.n o.ch)
  else if o.kind = 3 then (loseM o.ch D, rloseM o.ch R, true)
  else if o.kind = 4 then (startM D, rstartM R, true)
  else if o.kind = 5 then (if (writeM D o.at_ o.b).2 = (rwriteM R o.at_ o.b).2 then ((flushM (writeM D o.at_ o.b).1).1, (rflushM (rwriteM R o.at_ o.b).1).1, (flushM (writeM D o.at_ o.b).1).2 == (rflushM (rwriteM R o.at_ o.b).1).2) else ((writeM D o.at_ o.b).1, (rwriteM R o.at_ o.b).1, false))
  else (D, R, true)
/-- What plays leaves. -/
def P8Po (w0 w w' : World) (s g : Nat) (F : Nat → Prop) (fr n : Int) (t g2 : Nat) (F2 : Nat → Prop) (R : RM) (p : DM × RM × Bool) (m : Nat) (e : Ending) : Prop :=
  e = .returned (.bool p.2.2) ∧ ∃ F' F2', (∀ k, F' k → F k ∨ w.heap.size ≤ k) ∧ (∀ k, F2' k → F2 k ∨ w.heap.size ≤ k) ∧ Tri w0 w' s g F' p.1 fr n t g2 F2' p.2.1 ∧ TOk p.2.1 fr n ∧ p.2.1.wait.length ≤ R.wait.length + m ∧ Upd w w' (fun k => F k ∨ F2 k)
theorem P8Po.of {wa : World} {m : Nat} {p : DM × RM × Bool} {F' F2' : Nat → Prop} (hb : Below w.heap.size w wa) (h1 : ∀ k, F' k → F k ∨ wa.heap.size ≤ k) (h2 : ∀ k, F2' k → F2 k ∨ wa.heap.size ≤ k) (h3 : Tri w0 w' s g F' p.1 fr n t g2 F2' p.2.1) (h4 : TOk p.2.1 fr n) (h5 : p.2.1.wait.length ≤ R.wait.length + m) (hu : Upd wa w' (fun k => F k ∨ F2 k)) : P8Po w0 w w' s g F fr n t g2 F2 R p m (.returned (.bool p.2.2)) :=
  ⟨rfl, F', F2', fun k hk => (h1 k hk).imp id (fun h => Nat.le_trans hb.size h), fun k hk => (h2 k hk).imp id (fun h => Nat.le_trans hb.size h), h3, h4, h5, (Upd.of_below hb).trans hu (fun _ h => .inl h)⟩
theorem upd_or (h1 : Upd w w1 F) (h2 : Upd w1 w2 F2) : Upd w w2 (fun k => F k ∨ F2 k) := (h1.mono (fun _ h => .inl h)).trans (h2.mono (fun _ h => .inr h)) (fun _ h => .inl h)
theorem upd_four {F' F2' : Nat → Prop} {w4 : World} (h1 : Upd w w1 F) (h2 : Upd w1 w2 F2) (h3 : Upd w2 w3 F') (h4 : Upd w3 w4 F2') (hF : ∀ k, F' k → F k ∨ w.heap.size ≤ k) (hF2 : ∀ k, F2' k → F2 k ∨ w1.heap.size ≤ k) : Upd w w4 (fun k => F k ∨ F2 k) := by
  have a := upd_or h1 h2
  have b : Upd w w3 (fun k => F k ∨ F2 k) := a.trans h3 (fun k hk => (hF k hk).imp .inl id)
  exact b.trans h4 (fun k hk => (hF2 k hk).imp .inr (fun h => Nat.le_trans h1.size h))

set_option maxHeartbeats 16000000 in
theorem plays8_calls (hT : Tri w0 w s g F D fr n t g2 F2 R) (hK : SOk D fr n) (hKR : TOk R fr n) (hDn : D.held.length ≤ 3000000) (hRn : R.wait.length ≤ 3000000) (kd at_ nn : Int) (x : List Int) (ch : List Bool) (ab ac : Option Addr) (cb cc : Nat) (hx : x.length ≤ 3000)
    (hO : ∀ W, Upd w W (fun k => w0.heap.size ≤ k) → OpIs W ⟨kd, at_, nn, x, ch⟩ [.int .i64 kd, .int .i64 at_, .int .i64 nn, .slice ab x.length cb, .slice ac ch.length cc]) :
    Calls Tryz.prog 12 #[.pointer (some ⟨s, 0, none⟩), .pointer (some ⟨g, 0, none⟩), .pointer (some ⟨t, 0, none⟩), .agg #[.int .i64 kd, .int .i64 at_, .int .i64 nn, .slice ab x.length cb, .slice ac ch.length cc]] w fun e w' => P8Po w0 w w' s g F fr n t g2 F2 R (play8 fr n D R ⟨kd, at_, nn, x, ch⟩) (3 * (x.length + 64)) e := by
  have HT := Aside0.mk hT
  have HK := Aside0.mk hK
  have HKR := Aside0.mk hKR
  have HO := Aside0.mk hO
  have HDn := Aside0.mk hDn
  have HRn := Aside0.mk (show R.wait.length ≤ 5000000 by omega)
  have HX := Aside0.mk hx
  have HC := Aside0.mk (OpIs.C (o := ⟨kd, at_, nn, x, ch⟩) (hO w (Upd.refl _ _)))
  clear hT hK hKR hO hDn hRn hx
  by_cases h1 : kd = 1
  · subst h1
    have hbk := heap_alloc_new w (.cells #[.int .i64 1, .int .i64 at_, .int .i64 nn, .slice ab x.length cb, .slice ac ch.length cc] 37)
    have hba := below_alloc (Below.refl w.heap.size w) (.cells #[.int .i64 1, .int .i64 at_, .int .i64 nn, .slice ab x.length cb, .slice ac ch.length cc] 37)
    have HTa := Aside0.mk (HT.out.below hba)
    have HBA := Aside0.mk hba
    have HBK := Aside0.mk hbk
    have HOA := Aside0.mk (fun W (hW : Upd (w.alloc (.cells #[.int .i64 1, .int .i64 at_, .int .i64 nn, .slice ab x.length cb, .slice ac ch.length cc] 37)) W (fun k => w0.heap.size ≤ k)) => OpIs.C (o := ⟨1, at_, nn, x, ch⟩) (HO.out W ((Upd.of_below (F := fun k => w0.heap.size ≤ k) hba).trans hW (fun _ h => .inl h))))
    clear hba hbk
    have hbd := below_drew HBA.out
    have HTD := Aside0.mk (HTa.out.below (below_drew (Below.refl _ _)))
    have HBKD := Aside0.mk (show (w.alloc (.cells #[.int .i64 1, .int .i64 at_, .int .i64 nn, .slice ab x.length cb, .slice ac ch.length cc] 37)).drew.heap[w.heap.size]? = some (.cells #[.int .i64 1, .int .i64 at_, .int .i64 nn, .slice ab x.length cb, .slice ac ch.length cc] 37 (0, 0)) from HBK.out)
    have HBAD := Aside0.mk hbd
    have HNS := Aside0.mk (show ¬ F w.heap.size from fun hk => by have := HT.out.hi.1 _ hk; omega)
    have HNT := Aside0.mk (show ¬ F2 w.heap.size from fun hk => by have := HT.out.hi.2 _ hk; omega)
    have HPS := Aside0.mk (Put_calls HTD.out.glob HTD.out.notF HTD.out.S HK.out (by have := HDn.out; omega) ab cb x (by have := HX.out; omega) HC.out.1 (fun W hW => (HOA.out W ((Upd.of_below (F := fun k => w0.heap.size ≤ k) (below_drew (Below.refl _ _))).trans hW (fun k hk => .inl (HTD.out.S.d.lo k hk)))).2.2.1))
    have HPR := Aside0.mk (show ∀ w2, Upd (w.alloc (.cells #[.int .i64 1, .int .i64 at_, .int .i64 nn, .slice ab x.length cb, .slice ac ch.length cc] 37)).drew w2 F → TAt w2 w0.heap.size t g2 F2 R fr n → Calls Tryz.prog 28 #[.pointer (some ⟨t, 0, none⟩), .slice ab x.length cb] w2 fun e w' => e = .returned (.int .i64 (rputM R fr n x).2) ∧ TPo w2 w' w0.heap.size t g2 F2 R (rputM R fr n x).1 fr n (3 * (x.length + 64)) from fun w2 hu2 hT => rPut_calls hT HKR.out (Nat.le_trans HTD.out.b.size hu2.size) HRn.out ab cb x (by have := HX.out; omega) HC.out.1 (fun W hW => (HOA.out W (((Upd.of_below (F := fun k => w0.heap.size ≤ k) (below_drew (Below.refl _ _))).trans hu2 (fun k hk => .inl (HTD.out.S.d.lo k hk))).trans hW (fun k hk => .inl (hT.r.lo k hk).1))).2.2.1))
    clear hbd
    have hq := Lib.hid (show play8 fr n D R ⟨1, at_, nn, x, ch⟩ = ((putM D fr n x).1, (rputM R fr n x).1, (putM D fr n x).2 == (rputM R fr n x).2) from if_pos rfl)
    rw [hq.out]
    go_enter Tryz.func12, Tryz.ntmps12
    go_wp2_with (fail)
    refine start_ (n := 10) (S := fun w' => w'.cell? ⟨w.heap.size, 3, none⟩ = some (.slice ab x.length cb)) (ds := []) (bz 10 0) (by kernel_rfl) rfl rfl (cellB HBKD.out 3 _ rfl) (fun hHeld => ?_)
    refine pz 0 (some 13) (bz 10 1) ?_
    refine pz 1 (some 14) (bz 10 3) ?_
    refine pz 4 (some 17) (bz 10 19) ?_
    refine pz 5 (some 18) (bz 10 51) ?_
    refine tz1 2 (some 15) (bz 10 55) hHeld ?_
    refine tz1 6 (some 19) (bz 10 119) hHeld ?_
    refine one_ (i := 3) (N := some 16) (bz 10 127) rfl rfl (by kernel_rfl) (by decide) (fun K hK => ?_)
    refine goes_ Tryz.func22 (by kernel_rfl) rfl #[.pointer (some ⟨s, 0, none⟩), .slice ab x.length cb] (by rfl) rfl rfl (by simp only [List.map_toArray, List.map_cons, List.map_nil]; rfl) ?_
    with_reducible refine (HPS.out).mono ?_
    rintro e w2 ⟨rfl, hp⟩
    refine ⟨_, rfl, ?_⟩
    obtain ⟨F2a, hF2a, hT2, hu2⟩ := HTD.out.onS hp
    have HT2 := Aside0.mk hT2
    have HFa := Aside0.mk hF2a
    have HU2 := Aside0.mk hu2
    have HBK2 := Aside0.mk ((hu2.block _ (blk_lt HBKD.out) (fun hk => HNS.out hk)).trans HBKD.out)
    have HPT := Aside0.mk (HPR.out w2 hu2 hT2.T)
    clear hp hF2a hT2 hu2
    refine hK.out _ _ (cellB HBK2.out 3 _ rfl) (fun hHeld => ?_)
    clear hK K
    refine norm_ (a' := ?_) ?_ ?_
    rotate_left
    · show Act.put _ (some 16) _ = _
      simp only [Act.put, List.setIfInBounds_toArray, List.set_cons_zero, List.set_cons_succ, i64_w, i32_w]
      rfl
    refine one_ (i := 7) (N := some 20) (bz 10 255) rfl rfl (by kernel_rfl) (by decide) (fun K hK => ?_)
    refine goes_ Tryz.func28 (by kernel_rfl) rfl #[.pointer (some ⟨t, 0, none⟩), .slice ab x.length cb] (by rfl) rfl rfl (by simp only [List.map_toArray, List.map_cons, List.map_nil]; rfl) ?_
    with_reducible refine (HPT.out).mono ?_
    rintro e w3 ⟨rfl, hp3⟩
    refine ⟨_, rfl, ?_⟩
    obtain ⟨F3, hF3, hT3, hk3, hw3, hu3⟩ := HT2.out.onT hp3
    have HT3 := Aside0.mk hT3
    have HF3 := Aside0.mk hF3
    have HK3 := Aside0.mk hk3
    have HW3 := Aside0.mk hw3
    have HU3 := Aside0.mk hu3
    have HBK3 := Aside0.mk ((hu3.block _ (blk_lt HBK2.out) (fun hk => HNT.out hk)).trans HBK2.out)
    clear hp3 hF3 hT3 hk3 hw3 hu3
    refine hK.out _ _ (cellB HBK3.out 3 _ rfl) (fun hHeld => ?_)
    clear hK K
    refine norm_ (a' := ?_) ?_ ?_
    rotate_left
    · show Act.put _ (some 20) _ = _
      simp only [Act.put, List.setIfInBounds_toArray, List.set_cons_zero, List.set_cons_succ, i64_w, i32_w]
      rfl
    refine pz 8 (some 21) (bz 10 511) ?_
    refine pz 9 (some 8) (bz 10 1023) ?_
    refine done_ (by kernel_rfl) ?_
    clear hHeld
    go_wp2_with (fail)
    go_ret
    exact P8Po.of HBAD.out HFa.out (fun k hk => (HF3.out k hk).imp id (fun h => Nat.le_trans HU2.out.size h)) HT3.out HK3.out (Nat.le_trans HW3.out (by omega)) (upd_or HU2.out HU3.out)
  by_cases h2 : kd = 2
  · subst h2
    have hbk := heap_alloc_new w (.cells #[.int .i64 2, .int .i64 at_, .int .i64 nn, .slice ab x.length cb, .slice ac ch.length cc] 37)
    have hba := below_alloc (Below.refl w.heap.size w) (.cells #[.int .i64 2, .int .i64 at_, .int .i64 nn, .slice ab x.length cb, .slice ac ch.length cc] 37)
    have HTa := Aside0.mk (HT.out.below hba)
    have HBA := Aside0.mk hba
    have HBK := Aside0.mk hbk
    have HOA := Aside0.mk (fun W (hW : Upd (w.alloc (.cells #[.int .i64 2, .int .i64 at_, .int .i64 nn, .slice ab x.length cb, .slice ac ch.length cc] 37)) W (fun k => w0.heap.size ≤ k)) => OpIs.C (o := ⟨2, at_, nn, x, ch⟩) (HO.out W ((Upd.of_below (F := fun k => w0.heap.size ≤ k) hba).trans hW (fun _ h => .inl h))))
    clear hba hbk h1
    have hbd := below_drew HBA.out
    have HTD := Aside0.mk (HTa.out.below (below_drew (Below.refl _ _)))
    have HBKD := Aside0.mk (show (w.alloc (.cells #[.int .i64 2, .int .i64 at_, .int .i64 nn, .slice ab x.length cb, .slice ac ch.length cc] 37)).drew.heap[w.heap.size]? = some (.cells #[.int .i64 2, .int .i64 at_, .int .i64 nn, .slice ab x.length cb, .slice ac ch.length cc] 37 (0, 0)) from HBK.out)
    have HBAD := Aside0.mk hbd
    have HNS := Aside0.mk (show ¬ F w.heap.size from fun hk => by have := HT.out.hi.1 _ hk; omega)
    have HNT := Aside0.mk (show ¬ F2 w.heap.size from fun hk => by have := HT.out.hi.2 _ hk; omega)
    have HUD := Aside0.mk (show Upd (w.alloc (.cells #[.int .i64 2, .int .i64 at_, .int .i64 nn, .slice ab x.length cb, .slice ac ch.length cc] 37)) (w.alloc (.cells #[.int .i64 2, .int .i64 at_, .int .i64 nn, .slice ab x.length cb, .slice ac ch.length cc] 37)).drew (fun k => w0.heap.size ≤ k) from Upd.of_below (below_drew (Below.refl _ _)))
    have HFS := Aside0.mk (show ∀ k, F k → w0.heap.size ≤ k from fun k hk => HT.out.S.d.lo k hk)
    have HFT := Aside0.mk (show ∀ k, F2 k → w0.heap.size ≤ k from fun k hk => (HT.out.T.r.lo k hk).1)
    clear hbd
    have hq := Lib.hid (show play8 fr n D R ⟨2, at_, nn, x, ch⟩ = ((setM D nn ch).1, rsetM R nn ch, (setM D nn ch).2 == rsetE nn ch) from by simp [play8])
    rw [hq.out]
    go_enter Tryz.func12, Tryz.ntmps12
    go_wp2_with (fail)
    refine start_ (n := 17) (S := fun w' => w'.cell? ⟨w.heap.size, 2, none⟩ = some (.int .i64 nn) ∧ w'.cell? ⟨w.heap.size, 4, none⟩ = some (.slice ac ch.length cc) ∧ w'.cell? ⟨t, 0, none⟩ = some (.pointer (some ⟨g2, 0, none⟩))) (ds := []) (bz 17 0) (by kernel_rfl) rfl rfl ⟨cellB HBKD.out 2 _ rfl, cellB HBKD.out 4 _ rfl, HTD.out.T.c0⟩ (fun hHeld => ?_)
    refine pz 0 (some 24) (bz 17 1) ?_
    refine pz 1 (some 25) (bz 17 3) ?_
    refine pz 3 (some 27) (bz 17 11) ?_
    refine pz 6 (some 30) (bz 17 75) ?_
    refine pz 7 (some 31) (bz 17 203) ?_
    refine pz 8 (some 32) (bz 17 459) ?_
    refine pz 10 (some 34) (bz 17 1483) ?_
    refine pz 12 (some 36) (bz 17 5579) ?_
    refine tz3 2 (some 26) (bz 17 5583) hHeld ?_
    refine tz3 4 (some 28) (bz 17 5599) hHeld ?_
    refine tz3 9 (some 33) (bz 17 6111) hHeld ?_
    refine tz3 11 (some 35) (bz 17 8159) hHeld ?_
    refine tz3 13 (some 37) (bz 17 16351) hHeld ?_
    refine one_ (i := 5) (N := some 29) (bz 17 16383) rfl rfl (by kernel_rfl) (by decide) (fun K hK => ?_)
    refine goes_ Tryz.func29 (by kernel_rfl) rfl #[.pointer (some ⟨g, 0, none⟩), .int .i64 nn, .slice ac ch.length cc] (by rfl) rfl rfl (by simp only [List.map_toArray, List.map_cons, List.map_nil]; rfl) ?_
    with_reducible refine (dSet HTD.out.S.d nn ac cc ch (HOA.out _ HUD.out).2.2.2.1).mono ?_
    rintro e w2 ⟨rfl, hp⟩
    refine ⟨_, rfl, ?_⟩
    obtain ⟨F2a, hF2a, hT2, hu2⟩ := HTD.out.onS (HTD.out.S.po hp)
    have HT2 := Aside0.mk hT2
    have HFa := Aside0.mk hF2a
    have HU2 := Aside0.mk hu2
    have HBK2 := Aside0.mk ((hu2.block _ (blk_lt HBKD.out) (fun hk => HNS.out hk)).trans HBKD.out)
    clear hp hF2a hT2 hu2
    refine hK.out _ _ ⟨cellB HBK2.out 2 _ rfl, cellB HBK2.out 4 _ rfl, HT2.out.T.c0⟩ (fun hHeld => ?_)
    clear hK K
    refine norm_ (a' := ?_) ?_ ?_
    rotate_left
    · show Act.put _ (some 29) _ = _
      simp only [Act.put, List.setIfInBounds_toArray, List.set_cons_zero, List.set_cons_succ, i64_w, i32_w]
      rfl
    refine one_ (i := 14) (N := some 38) (bz 17 32767) rfl rfl (by kernel_rfl) (by decide) (fun K hK => ?_)
    refine goes_ Tryz.func30 (by kernel_rfl) rfl #[.pointer (some ⟨g2, 0, none⟩), .int .i64 nn, .slice ac ch.length cc] (by rfl) rfl rfl (by simp only [List.map_toArray, List.map_cons, List.map_nil]; rfl) ?_
    with_reducible refine (rTo_set HT2.out.T.r HKR.out.d nn HC.out.2.2.2.2.2 ac cc ch HC.out.2.1 (fun W hW => (HOA.out W ((HUD.out.trans HU2.out (fun k hk => .inl (HFS.out k hk))).trans hW (fun k hk => .inl hk))).2.2.2.1)).mono ?_
    rintro e w3 ⟨rfl, hp3⟩
    refine ⟨_, rfl, ?_⟩
    obtain ⟨F3, hF3, hT3, hk3, hw3, hu3⟩ := HT2.out.onT (HT2.out.T.po HKR.out hp3)
    have HT3 := Aside0.mk hT3
    have HF3 := Aside0.mk hF3
    have HK3 := Aside0.mk hk3
    have HW3 := Aside0.mk hw3
    have HU3 := Aside0.mk hu3
    have HBK3 := Aside0.mk ((hu3.block _ (blk_lt HBK2.out) (fun hk => HNT.out hk)).trans HBK2.out)
    clear hp3 hF3 hT3 hk3 hw3 hu3
    refine hK.out _ _ ⟨cellB HBK3.out 2 _ rfl, cellB HBK3.out 4 _ rfl, HT3.out.T.c0⟩ (fun hHeld => ?_)
    clear hK K
    refine norm_ (a' := ?_) ?_ ?_
    rotate_left
    · show Act.put _ (some 38) _ = _
      simp only [Act.put, List.setIfInBounds_toArray, List.set_cons_zero, List.set_cons_succ, i64_w, i32_w]
      rfl
    refine pz 15 (some 39) (bz 17 65535) ?_
    refine pz 16 (some 8) (bz 17 131071) ?_
    refine done_ (by kernel_rfl) ?_
    clear hHeld
    go_wp2_with (fail)
    go_ret
    exact P8Po.of HBAD.out HFa.out (fun k hk => (HF3.out k hk).imp id (fun h => Nat.le_trans HU2.out.size h)) HT3.out HK3.out (Nat.le_trans HW3.out (by omega)) (upd_or HU2.out HU3.out)
  by_cases h3 : kd = 3
  · subst h3
    have hbk := heap_alloc_new w (.cells #[.int .i64 3, .int .i64 at_, .int .i64 nn, .slice ab x.length cb, .slice ac ch.length cc] 37)
    have hba := below_alloc (Below.refl w.heap.size w) (.cells #[.int .i64 3, .int .i64 at_, .int .i64 nn, .slice ab x.length cb, .slice ac ch.length cc] 37)
    have HTa := Aside0.mk (HT.out.below hba)
    have HBA := Aside0.mk hba
    have HBK := Aside0.mk hbk
    have HOA := Aside0.mk (fun W (hW : Upd (w.alloc (.cells #[.int .i64 3, .int .i64 at_, .int .i64 nn, .slice ab x.length cb, .slice ac ch.length cc] 37)) W (fun k => w0.heap.size ≤ k)) => OpIs.C (o := ⟨3, at_, nn, x, ch⟩) (HO.out W ((Upd.of_below (F := fun k => w0.heap.size ≤ k) hba).trans hW (fun _ h => .inl h))))
    clear hba hbk h1 h2
    have hbd := below_drew HBA.out
    have HTD := Aside0.mk (HTa.out.below (below_drew (Below.refl _ _)))
    have HBKD := Aside0.mk (show (w.alloc (.cells #[.int .i64 3, .int .i64 at_, .int .i64 nn, .slice ab x.length cb, .slice ac ch.length cc] 37)).drew.heap[w.heap.size]? = some (.cells #[.int .i64 3, .int .i64 at_, .int .i64 nn, .slice ab x.length cb, .slice ac ch.length cc] 37 (0, 0)) from HBK.out)
    have HBAD := Aside0.mk hbd
    have HNS := Aside0.mk (show ¬ F w.heap.size from fun hk => by have := HT.out.hi.1 _ hk; omega)
    have HNT := Aside0.mk (show ¬ F2 w.heap.size from fun hk => by have := HT.out.hi.2 _ hk; omega)
    have HUD := Aside0.mk (show Upd (w.alloc (.cells #[.int .i64 3, .int .i64 at_, .int .i64 nn, .slice ab x.length cb, .slice ac ch.length cc] 37)) (w.alloc (.cells #[.int .i64 3, .int .i64 at_, .int .i64 nn, .slice ab x.length cb, .slice ac ch.length cc] 37)).drew (fun k => w0.heap.size ≤ k) from Upd.of_below (below_drew (Below.refl _ _)))
    have HFS := Aside0.mk (show ∀ k, F k → w0.heap.size ≤ k from fun k hk => HT.out.S.d.lo k hk)
    have HFT := Aside0.mk (show ∀ k, F2 k → w0.heap.size ≤ k from fun k hk => (HT.out.T.r.lo k hk).1)
    clear hbd
    have hq := Lib.hid (show play8 fr n D R ⟨3, at_, nn, x, ch⟩ = (loseM ch D, rloseM ch R, true) from by simp [play8])
    rw [hq.out]
    go_enter Tryz.func12, Tryz.ntmps12
    go_wp2_with (first | (go_at_call 31; (with_reducible refine (dLose HTa.out.S.d HK.out.d ac cc ch HC.out.2.1 (fun W hW => (HOA.out W (hW.mono (fun k hk => HFS.out k hk))).2.2.2.1)).mono ?_); rintro e w2 ⟨rfl, hp⟩; obtain ⟨F2a, hF2a, hT2, hu2⟩ := HTa.out.onS (HTa.out.S.po hp); have HT2 := Aside0.mk hT2; have HFa := Aside0.mk hF2a; have HU2 := Aside0.mk hu2; have HBK2 := Aside0.mk ((hu2.block _ (blk_lt HBK.out) (fun hk => HNS.out hk)).trans HBK.out); clear hp hF2a hT2 hu2))
    have HT2D := Aside0.mk (HT2.out.below (below_drew (Below.refl _ _)))
    have HBK2D := Aside0.mk (show w2.drew.heap[w.heap.size]? = some (.cells #[.int .i64 3, .int .i64 at_, .int .i64 nn, .slice ab x.length cb, .slice ac ch.length cc] 37 (0, 0)) from HBK2.out)
    have HU2D := Aside0.mk HU2.out.drew
    refine start_ (n := 7) (S := fun w' => w'.cell? ⟨w.heap.size, 4, none⟩ = some (.slice ac ch.length cc) ∧ w'.cell? ⟨t, 0, none⟩ = some (.pointer (some ⟨g2, 0, none⟩))) (ds := []) (bz 7 0) (by kernel_rfl) rfl rfl ⟨cellB HBK2D.out 4 _ rfl, HT2D.out.T.c0⟩ (fun hHeld => ?_)
    refine pz 0 (some 46) (bz 7 1) ?_
    refine pz 1 (some 47) (bz 7 3) ?_
    refine pz 2 (some 48) (bz 7 7) ?_
    refine pz 4 (some 50) (bz 7 23) ?_
    refine tz2 3 (some 49) (bz 7 31) hHeld ?_
    refine tz2 5 (some 51) (bz 7 63) hHeld ?_
    refine one_ (i := 6) (N := some 52) (bz 7 127) rfl rfl (by kernel_rfl) (by decide) (fun K hK => ?_)
    refine goes_ Tryz.func32 (by kernel_rfl) rfl #[.pointer (some ⟨g2, 0, none⟩), .slice ac ch.length cc] (by rfl) rfl rfl (by simp only [List.map_toArray, List.map_cons, List.map_nil]; rfl) ?_
    with_reducible refine (rTo_lose HT2D.out.T.r HKR.out.d ac cc ch (fun W hW => (HOA.out W ((HU2D.out.mono (fun k hk => HFS.out k hk)).trans hW (fun k hk => .inl (HFT.out k hk)))).2.2.2.1)).mono ?_
    rintro e w3 ⟨rfl, hp3⟩
    refine ⟨_, rfl, ?_⟩
    obtain ⟨F3, hF3, hT3, hk3, hw3, hu3⟩ := HT2D.out.onT (HT2D.out.T.po HKR.out hp3)
    have HT3 := Aside0.mk hT3
    have HF3 := Aside0.mk hF3
    have HK3 := Aside0.mk hk3
    have HW3 := Aside0.mk hw3
    have HU3 := Aside0.mk hu3
    have HBK3 := Aside0.mk ((hu3.block _ (blk_lt HBK2D.out) (fun hk => HNT.out hk)).trans HBK2D.out)
    clear hp3 hF3 hT3 hk3 hw3 hu3
    refine hK.out _ _ ⟨cellB HBK3.out 4 _ rfl, HT3.out.T.c0⟩ (fun hHeld => ?_)
    clear hK K
    refine norm_ (a' := ?_) ?_ ?_
    rotate_left
    · show Act.put _ (some 52) _ = _
      simp only [Act.put, List.setIfInBounds_toArray, List.set_cons_zero, List.set_cons_succ, i64_w, i32_w]
      rfl
    refine done_ (by kernel_rfl) ?_
    clear hHeld
    go_wp2_with (fail)
    go_ret
    exact P8Po.of HBA.out HFa.out (fun k hk => (HF3.out k hk).imp id (fun h => Nat.le_trans HU2D.out.size h)) HT3.out HK3.out (Nat.le_trans HW3.out (by omega)) (upd_or HU2D.out HU3.out)
  by_cases h4 : kd = 4
  · subst h4
    have hbk := heap_alloc_new w (.cells #[.int .i64 4, .int .i64 at_, .int .i64 nn, .slice ab x.length cb, .slice ac ch.length cc] 37)
    have hba := below_alloc (Below.refl w.heap.size w) (.cells #[.int .i64 4, .int .i64 at_, .int .i64 nn, .slice ab x.length cb, .slice ac ch.length cc] 37)
    have HTa := Aside0.mk (HT.out.below hba)
    have HBA := Aside0.mk hba
    have HBK := Aside0.mk hbk
    have HOA := Aside0.mk (fun W (hW : Upd (w.alloc (.cells #[.int .i64 4, .int .i64 at_, .int .i64 nn, .slice ab x.length cb, .slice ac ch.length cc] 37)) W (fun k => w0.heap.size ≤ k)) => OpIs.C (o := ⟨4, at_, nn, x, ch⟩) (HO.out W ((Upd.of_below (F := fun k => w0.heap.size ≤ k) hba).trans hW (fun _ h => .inl h))))
    clear hba hbk h1 h2 h3
    have hbd := below_drew HBA.out
    have HTD := Aside0.mk (HTa.out.below (below_drew (Below.refl _ _)))
    have HBKD := Aside0.mk (show (w.alloc (.cells #[.int .i64 4, .int .i64 at_, .int .i64 nn, .slice ab x.length cb, .slice ac ch.length cc] 37)).drew.heap[w.heap.size]? = some (.cells #[.int .i64 4, .int .i64 at_, .int .i64 nn, .slice ab x.length cb, .slice ac ch.length cc] 37 (0, 0)) from HBK.out)
    have HBAD := Aside0.mk hbd
    have HNS := Aside0.mk (show ¬ F w.heap.size from fun hk => by have := HT.out.hi.1 _ hk; omega)
    have HNT := Aside0.mk (show ¬ F2 w.heap.size from fun hk => by have := HT.out.hi.2 _ hk; omega)
    have HUD := Aside0.mk (show Upd (w.alloc (.cells #[.int .i64 4, .int .i64 at_, .int .i64 nn, .slice ab x.length cb, .slice ac ch.length cc] 37)) (w.alloc (.cells #[.int .i64 4, .int .i64 at_, .int .i64 nn, .slice ab x.length cb, .slice ac ch.length cc] 37)).drew (fun k => w0.heap.size ≤ k) from Upd.of_below (below_drew (Below.refl _ _)))
    have HFS := Aside0.mk (show ∀ k, F k → w0.heap.size ≤ k from fun k hk => HT.out.S.d.lo k hk)
    have HFT := Aside0.mk (show ∀ k, F2 k → w0.heap.size ≤ k from fun k hk => (HT.out.T.r.lo k hk).1)
    clear hbd
    have hq := Lib.hid (show play8 fr n D R ⟨4, at_, nn, x, ch⟩ = (startM D, rstartM R, true) from by simp [play8])
    rw [hq.out]
    go_enter Tryz.func12, Tryz.ntmps12
    go_wp2_with (first | (go_at_call 33; (with_reducible refine (dStart HTa.out.S.d).mono ?_); rintro e w2 ⟨rfl, hp⟩; obtain ⟨F2a, hF2a, hT2, hu2⟩ := HTa.out.onS (HTa.out.S.po hp); have HT2 := Aside0.mk hT2; have HFa := Aside0.mk hF2a; have HU2 := Aside0.mk hu2; have h20 := hT2.T.c0; clear hp hF2a hT2 hu2) | (go_at_call 34; (with_reducible refine (rTo_start HT2.out.T.r HKR.out.d).mono ?_); rintro e w3 ⟨rfl, hp3⟩; obtain ⟨F3, hF3, hT3, hk3, hw3, hu3⟩ := HT2.out.onT (HT2.out.T.po HKR.out hp3); have HT3 := Aside0.mk hT3; have HF3 := Aside0.mk hF3; have HK3 := Aside0.mk hk3; have HW3 := Aside0.mk hw3; have HU3 := Aside0.mk hu3; clear hp3 hF3 hT3 hk3 hw3 hu3))
    go_ret
    exact P8Po.of HBA.out HFa.out (fun k hk => (HF3.out k hk).imp id (fun h => Nat.le_trans HU2.out.size h)) HT3.out HK3.out (Nat.le_trans HW3.out (by omega)) (upd_or HU2.out HU3.out)
  by_cases h5 : kd = 5
  · subst h5
    have hbk := heap_alloc_new w (.cells #[.int .i64 5, .int .i64 at_, .int .i64 nn, .slice ab x.length cb, .slice ac ch.length cc] 37)
    have hba := below_alloc (Below.refl w.heap.size w) (.cells #[.int .i64 5, .int .i64 at_, .int .i64 nn, .slice ab x.length cb, .slice ac ch.length cc] 37)
    have HTa := Aside0.mk (HT.out.below hba)
    have HBA := Aside0.mk hba
    have HBK := Aside0.mk hbk
    have HOA := Aside0.mk (fun W (hW : Upd (w.alloc (.cells #[.int .i64 5, .int .i64 at_, .int .i64 nn, .slice ab x.length cb, .slice ac ch.length cc] 37)) W (fun k => w0.heap.size ≤ k)) => OpIs.C (o := ⟨5, at_, nn, x, ch⟩) (HO.out W ((Upd.of_below (F := fun k => w0.heap.size ≤ k) hba).trans hW (fun _ h => .inl h))))
    clear hba hbk h1 h2 h3 h4
    have hbd := below_drew HBA.out
    have HTD := Aside0.mk (HTa.out.below (below_drew (Below.refl _ _)))
    have HBKD := Aside0.mk (show (w.alloc (.cells #[.int .i64 5, .int .i64 at_, .int .i64 nn, .slice ab x.length cb, .slice ac ch.length cc] 37)).drew.heap[w.heap.size]? = some (.cells #[.int .i64 5, .int .i64 at_, .int .i64 nn, .slice ab x.length cb, .slice ac ch.length cc] 37 (0, 0)) from HBK.out)
    have HBAD := Aside0.mk hbd
    have HNS := Aside0.mk (show ¬ F w.heap.size from fun hk => by have := HT.out.hi.1 _ hk; omega)
    have HNT := Aside0.mk (show ¬ F2 w.heap.size from fun hk => by have := HT.out.hi.2 _ hk; omega)
    have HUD := Aside0.mk (show Upd (w.alloc (.cells #[.int .i64 5, .int .i64 at_, .int .i64 nn, .slice ab x.length cb, .slice ac ch.length cc] 37)) (w.alloc (.cells #[.int .i64 5, .int .i64 at_, .int .i64 nn, .slice ab x.length cb, .slice ac ch.length cc] 37)).drew (fun k => w0.heap.size ≤ k) from Upd.of_below (below_drew (Below.refl _ _)))
    have HFS := Aside0.mk (show ∀ k, F k → w0.heap.size ≤ k from fun k hk => HT.out.S.d.lo k hk)
    have HFT := Aside0.mk (show ∀ k, F2 k → w0.heap.size ≤ k from fun k hk => (HT.out.T.r.lo k hk).1)
    clear hbd
    have HWK := Aside0.mk (show DOk (writeM D at_ x).1 from writeM_ok HK.out.d (by have := HDn.out; omega))
    obtain ⟨dv, hdv⟩ : ∃ dv, (writeM D at_ x).2 = dv := ⟨_, rfl⟩
    obtain ⟨rv, hrv⟩ : ∃ rv, (rwriteM R at_ x).2 = rv := ⟨_, rfl⟩
    have HDV := Lib.hid hdv
    have HRV := Lib.hid hrv
    by_cases he : dv = rv
    · have hq := Lib.hid (show play8 fr n D R ⟨5, at_, nn, x, ch⟩ = ((flushM (writeM D at_ x).1).1, (rflushM (rwriteM R at_ x).1).1, (flushM (writeM D at_ x).1).2 == (rflushM (rwriteM R at_ x).1).2) from by
        have e : (writeM D at_ x).2 = (rwriteM R at_ x).2 := by rw [hdv, hrv, he]
        simp [play8, e])
      rw [hq.out]
      subst he
      clear hdv hrv
      have hee : (dv == dv) = true := by simp
      go_enter Tryz.func12, Tryz.ntmps12
      go_wp2_with (fail)
      refine start_ (n := 27) (S := fun w' => w'.cell? ⟨w.heap.size, 1, none⟩ = some (.int .i64 at_) ∧ w'.cell? ⟨w.heap.size, 3, none⟩ = some (.slice ab x.length cb) ∧ w'.cell? ⟨t, 0, none⟩ = some (.pointer (some ⟨g2, 0, none⟩))) (ds := []) (bz 27 0) (by kernel_rfl) rfl rfl ⟨cellB HBKD.out 1 _ rfl, cellB HBKD.out 3 _ rfl, HTD.out.T.c0⟩ (fun hHeld => ?_)
      refine pz 0 (some 64) (bz 27 1) ?_
      refine pz 1 (some 65) (bz 27 3) ?_
      refine pz 3 (some 67) (bz 27 11) ?_
      refine pz 6 (some 70) (bz 27 75) ?_
      refine pz 7 (some 71) (bz 27 203) ?_
      refine pz 8 (some 72) (bz 27 459) ?_
      refine pz 10 (some 74) (bz 27 1483) ?_
      refine pz 12 (some 76) (bz 27 5579) ?_
      refine tz3 2 (some 66) (bz 27 5583) hHeld ?_
      refine tz3 4 (some 68) (bz 27 5599) hHeld ?_
      refine tz3 9 (some 73) (bz 27 6111) hHeld ?_
      refine tz3 11 (some 75) (bz 27 8159) hHeld ?_
      refine tz3 13 (some 77) (bz 27 16351) hHeld ?_
      refine one_ (i := 5) (N := some 69) (bz 27 16383) rfl rfl (by kernel_rfl) (by decide) (fun K hK => ?_)
      refine goes_ Tryz.func35 (by kernel_rfl) rfl #[.pointer (some ⟨g, 0, none⟩), .int .i64 at_, .slice ab x.length cb] (by rfl) rfl rfl (by simp only [List.map_toArray, List.map_cons, List.map_nil]; rfl) ?_
      with_reducible refine (dWrite HTD.out.S.d HK.out.d (by have := HDn.out; omega) at_ ab cb x (HOA.out _ HUD.out).2.2.1).mono ?_
      rintro e w2 ⟨rfl, hp⟩
      refine ⟨_, rfl, ?_⟩
      rw [HDV.out]
      obtain ⟨F2a, hF2a, hT2, hu2⟩ := HTD.out.onS (HTD.out.S.po hp)
      have HT2 := Aside0.mk hT2
      have HFa := Aside0.mk hF2a
      have HU2 := Aside0.mk hu2
      have HBK2 := Aside0.mk ((hu2.block _ (blk_lt HBKD.out) (fun hk => HNS.out hk)).trans HBKD.out)
      clear hp hF2a hT2 hu2
      refine hK.out _ _ ⟨cellB HBK2.out 1 _ rfl, cellB HBK2.out 3 _ rfl, HT2.out.T.c0⟩ (fun hHeld => ?_)
      clear hK K
      refine norm_ (a' := ?_) ?_ ?_
      rotate_left
      · show Act.put _ (some 69) _ = _
        simp only [Act.put, List.setIfInBounds_toArray, List.set_cons_zero, List.set_cons_succ, i64_w, i32_w]
        rfl
      refine one_ (i := 14) (N := some 78) (bz 27 32767) rfl rfl (by kernel_rfl) (by decide) (fun K hK => ?_)
      refine goes_ Tryz.func36 (by kernel_rfl) rfl #[.pointer (some ⟨g2, 0, none⟩), .int .i64 at_, .slice ab x.length cb] (by rfl) rfl rfl (by simp only [List.map_toArray, List.map_cons, List.map_nil]; rfl) ?_
      with_reducible refine (rTo_write HT2.out.T.r HKR.out.d (Nat.le_trans HTD.out.b.size HU2.out.size) (by have := HRn.out; omega) at_ ab cb x (HOA.out _ (HUD.out.trans HU2.out (fun k hk => .inl (HFS.out k hk)))).2.2.1).mono ?_
      rintro e w3 ⟨rfl, hp3⟩
      refine ⟨_, rfl, ?_⟩
      rw [HRV.out]
      obtain ⟨F3, hF3, hT3, hk3, hw3, hu3⟩ := HT2.out.onT (HT2.out.T.po HKR.out hp3)
      have HT3 := Aside0.mk hT3
      have HF3 := Aside0.mk hF3
      have HK3 := Aside0.mk hk3
      have HW3 := Aside0.mk hw3
      have HU3 := Aside0.mk hu3
      have HBK3 := Aside0.mk ((hu3.block _ (blk_lt HBK2.out) (fun hk => HNT.out hk)).trans HBK2.out)
      clear hp3 hF3 hT3 hk3 hw3 hu3
      refine hK.out _ _ ⟨cellB HBK3.out 1 _ rfl, cellB HBK3.out 3 _ rfl, HT3.out.T.c0⟩ (fun hHeld => ?_)
      clear hK K
      refine norm_ (a' := ?_) ?_ ?_
      rotate_left
      · show Act.put _ (some 78) _ = _
        simp only [Act.put, List.setIfInBounds_toArray, List.set_cons_zero, List.set_cons_succ, i64_w, i32_w]
        rfl
      refine pz 15 (some 79) (bz 27 65535) ?_
      refine pz 16 (some 80) (bz 27 131071) ?_
      refine pz 17 (some 81) (bz 27 262143) ?_
      refine pz 19 (some 83) (bz 27 786431) ?_
      refine pz 20 (some 84) (bz 27 1835007) ?_
      refine pz 21 (some 85) (bz 27 3932159) ?_
      refine tz3 22 (some 86) (bz 27 8126463) hHeld ?_
      refine one_ (i := 18) (N := some 82) (bz 27 8388607) rfl rfl (by kernel_rfl) (by decide) (fun K hK => ?_)
      refine goes_ Tryz.func37 (by kernel_rfl) rfl #[.pointer (some ⟨g, 0, none⟩)] (by rfl) rfl rfl (by simp only [List.map_toArray, List.map_cons, List.map_nil]; rfl) ?_
      with_reducible refine (dFlush HT3.out.S.d HWK.out).mono ?_
      rintro e w4 ⟨rfl, hp4⟩
      refine ⟨_, rfl, ?_⟩
      obtain ⟨F4, hF4, hT4, hu4⟩ := HT3.out.onS (HT3.out.S.po hp4)
      have HT4 := Aside0.mk hT4
      have HF4 := Aside0.mk hF4
      have HU4 := Aside0.mk hu4
      have HBK4 := Aside0.mk ((hu4.block _ (blk_lt HBK3.out) (fun hk => (HFa.out _ hk).elim HNS.out (fun h => by have := blk_lt HBKD.out; omega))).trans HBK3.out)
      clear hp4 hF4 hT4 hu4
      refine hK.out _ _ ⟨cellB HBK4.out 1 _ rfl, cellB HBK4.out 3 _ rfl, HT4.out.T.c0⟩ (fun hHeld => ?_)
      clear hK K
      refine norm_ (a' := ?_) ?_ ?_
      rotate_left
      · show Act.put _ (some 82) _ = _
        simp only [Act.put, List.setIfInBounds_toArray, List.set_cons_zero, List.set_cons_succ, i64_w, i32_w]
        rfl
      refine one_ (i := 23) (N := some 87) (bz 27 16777215) rfl rfl (by kernel_rfl) (by decide) (fun K hK => ?_)
      refine goes_ Tryz.func38 (by kernel_rfl) rfl #[.pointer (some ⟨g2, 0, none⟩)] (by rfl) rfl rfl (by simp only [List.map_toArray, List.map_cons, List.map_nil]; rfl) ?_
      with_reducible refine (rTo_flush HT4.out.T.r HK3.out.d).mono ?_
      rintro e w5 ⟨rfl, hp5⟩
      refine ⟨_, rfl, ?_⟩
      obtain ⟨F5, hF5, hT5, hk5, hw5, hu5⟩ := HT4.out.onT (HT4.out.T.po HK3.out hp5)
      have HT5 := Aside0.mk hT5
      have HF5 := Aside0.mk hF5
      have HK5 := Aside0.mk hk5
      have HW5 := Aside0.mk hw5
      have HU5 := Aside0.mk hu5
      have HBK5 := Aside0.mk ((hu5.block _ (blk_lt HBK4.out) (fun hk => (HF3.out _ hk).elim HNT.out (fun h => by have := blk_lt HBKD.out; have := HU2.out.size; omega))).trans HBK4.out)
      clear hp5 hF5 hT5 hk5 hw5 hu5
      refine hK.out _ _ ⟨cellB HBK5.out 1 _ rfl, cellB HBK5.out 3 _ rfl, HT5.out.T.c0⟩ (fun hHeld => ?_)
      clear hK K
      refine norm_ (a' := ?_) ?_ ?_
      rotate_left
      · show Act.put _ (some 87) _ = _
        simp only [Act.put, List.setIfInBounds_toArray, List.set_cons_zero, List.set_cons_succ, i64_w, i32_w]
        rfl
      refine pz 24 (some 88) (bz 27 33554431) ?_
      refine pz 25 (some 89) (bz 27 67108863) ?_
      refine pz 26 (some 8) (bz 27 134217727) ?_
      refine done_ (by kernel_rfl) ?_
      clear hHeld
      go_wp2_with (fail)
      go_ret
      exact P8Po.of HBAD.out (fun k hk => (HF4.out k hk).elim (fun h => HFa.out k h) (fun h => .inr (Nat.le_trans HU2.out.size (Nat.le_trans HU3.out.size h)))) (fun k hk => (HF5.out k hk).elim (fun h => (HF3.out k h).imp id (fun h => Nat.le_trans HU2.out.size h)) (fun h => .inr (Nat.le_trans HU2.out.size (Nat.le_trans HU3.out.size (Nat.le_trans HU4.out.size h))))) HT5.out HK5.out (by have h1 := HW5.out; have h2 := HW3.out; show (rflushM (rwriteM R at_ x).1).1.wait.length ≤ _; omega) (upd_four HU2.out HU3.out HU4.out HU5.out HFa.out HF3.out)
    · have hq := Lib.hid (show play8 fr n D R ⟨5, at_, nn, x, ch⟩ = ((writeM D at_ x).1, (rwriteM R at_ x).1, false) from by
        have e : ¬ (writeM D at_ x).2 = (rwriteM R at_ x).2 := by rw [hdv, hrv]; exact he
        simp [play8, e])
      rw [hq.out]
      have hee : (dv == rv) = false := by simpa using he
      clear hdv hrv he
      go_enter Tryz.func12, Tryz.ntmps12
      go_wp2_with (fail)
      refine start_ (n := 27) (S := fun w' => w'.cell? ⟨w.heap.size, 1, none⟩ = some (.int .i64 at_) ∧ w'.cell? ⟨w.heap.size, 3, none⟩ = some (.slice ab x.length cb) ∧ w'.cell? ⟨t, 0, none⟩ = some (.pointer (some ⟨g2, 0, none⟩))) (ds := []) (bz 27 0) (by kernel_rfl) rfl rfl ⟨cellB HBKD.out 1 _ rfl, cellB HBKD.out 3 _ rfl, HTD.out.T.c0⟩ (fun hHeld => ?_)
      refine pz 0 (some 64) (bz 27 1) ?_
      refine pz 1 (some 65) (bz 27 3) ?_
      refine pz 3 (some 67) (bz 27 11) ?_
      refine pz 6 (some 70) (bz 27 75) ?_
      refine pz 7 (some 71) (bz 27 203) ?_
      refine pz 8 (some 72) (bz 27 459) ?_
      refine pz 10 (some 74) (bz 27 1483) ?_
      refine pz 12 (some 76) (bz 27 5579) ?_
      refine tz3 2 (some 66) (bz 27 5583) hHeld ?_
      refine tz3 4 (some 68) (bz 27 5599) hHeld ?_
      refine tz3 9 (some 73) (bz 27 6111) hHeld ?_
      refine tz3 11 (some 75) (bz 27 8159) hHeld ?_
      refine tz3 13 (some 77) (bz 27 16351) hHeld ?_
      refine one_ (i := 5) (N := some 69) (bz 27 16383) rfl rfl (by kernel_rfl) (by decide) (fun K hK => ?_)
      refine goes_ Tryz.func35 (by kernel_rfl) rfl #[.pointer (some ⟨g, 0, none⟩), .int .i64 at_, .slice ab x.length cb] (by rfl) rfl rfl (by simp only [List.map_toArray, List.map_cons, List.map_nil]; rfl) ?_
      with_reducible refine (dWrite HTD.out.S.d HK.out.d (by have := HDn.out; omega) at_ ab cb x (HOA.out _ HUD.out).2.2.1).mono ?_
      rintro e w2 ⟨rfl, hp⟩
      refine ⟨_, rfl, ?_⟩
      rw [HDV.out]
      obtain ⟨F2a, hF2a, hT2, hu2⟩ := HTD.out.onS (HTD.out.S.po hp)
      have HT2 := Aside0.mk hT2
      have HFa := Aside0.mk hF2a
      have HU2 := Aside0.mk hu2
      have HBK2 := Aside0.mk ((hu2.block _ (blk_lt HBKD.out) (fun hk => HNS.out hk)).trans HBKD.out)
      clear hp hF2a hT2 hu2
      refine hK.out _ _ ⟨cellB HBK2.out 1 _ rfl, cellB HBK2.out 3 _ rfl, HT2.out.T.c0⟩ (fun hHeld => ?_)
      clear hK K
      refine norm_ (a' := ?_) ?_ ?_
      rotate_left
      · show Act.put _ (some 69) _ = _
        simp only [Act.put, List.setIfInBounds_toArray, List.set_cons_zero, List.set_cons_succ, i64_w, i32_w]
        rfl
      refine one_ (i := 14) (N := some 78) (bz 27 32767) rfl rfl (by kernel_rfl) (by decide) (fun K hK => ?_)
      refine goes_ Tryz.func36 (by kernel_rfl) rfl #[.pointer (some ⟨g2, 0, none⟩), .int .i64 at_, .slice ab x.length cb] (by rfl) rfl rfl (by simp only [List.map_toArray, List.map_cons, List.map_nil]; rfl) ?_
      with_reducible refine (rTo_write HT2.out.T.r HKR.out.d (Nat.le_trans HTD.out.b.size HU2.out.size) (by have := HRn.out; omega) at_ ab cb x (HOA.out _ (HUD.out.trans HU2.out (fun k hk => .inl (HFS.out k hk)))).2.2.1).mono ?_
      rintro e w3 ⟨rfl, hp3⟩
      refine ⟨_, rfl, ?_⟩
      rw [HRV.out]
      obtain ⟨F3, hF3, hT3, hk3, hw3, hu3⟩ := HT2.out.onT (HT2.out.T.po HKR.out hp3)
      have HT3 := Aside0.mk hT3
      have HF3 := Aside0.mk hF3
      have HK3 := Aside0.mk hk3
      have HW3 := Aside0.mk hw3
      have HU3 := Aside0.mk hu3
      have HBK3 := Aside0.mk ((hu3.block _ (blk_lt HBK2.out) (fun hk => HNT.out hk)).trans HBK2.out)
      clear hp3 hF3 hT3 hk3 hw3 hu3
      refine hK.out _ _ ⟨cellB HBK3.out 1 _ rfl, cellB HBK3.out 3 _ rfl, HT3.out.T.c0⟩ (fun hHeld => ?_)
      clear hK K
      refine norm_ (a' := ?_) ?_ ?_
      rotate_left
      · show Act.put _ (some 78) _ = _
        simp only [Act.put, List.setIfInBounds_toArray, List.set_cons_zero, List.set_cons_succ, i64_w, i32_w]
        rfl
      refine pz 15 (some 79) (bz 27 65535) ?_
      refine pz 16 (some 80) (bz 27 131071) ?_
      refine pu 17 (some 81) (bz 27 262143) ?_
      refine pu 18 (some 82) (bz 27 524287) ?_
      refine pu 19 (some 83) (bz 27 1048575) ?_
      refine pu 20 (some 84) (bz 27 2097151) ?_
      refine pu 21 (some 85) (bz 27 4194303) ?_
      refine pu 22 (some 86) (bz 27 8388607) ?_
      refine pu 23 (some 87) (bz 27 16777215) ?_
      refine pu 24 (some 88) (bz 27 33554431) ?_
      refine pz 25 (some 89) (bz 27 67108863) ?_
      refine pz 26 (some 8) (bz 27 134217727) ?_
      refine done_ (by kernel_rfl) ?_
      clear hHeld
      go_wp2_with (fail)
      go_ret
      exact P8Po.of HBAD.out HFa.out (fun k hk => (HF3.out k hk).imp id (fun h => Nat.le_trans HU2.out.size h)) HT3.out HK3.out (Nat.le_trans HW3.out (by omega)) (upd_or HU2.out HU3.out)
  have hq := Lib.hid (show play8 fr n D R ⟨kd, at_, nn, x, ch⟩ = (D, R, true) from by simp [play8, h1, h2, h3, h4, h5])
  rw [hq.out]
  have t1 : (kd == 1) = false := by simpa using h1
  have t2 : (kd == 2) = false := by simpa using h2
  have t3 : (kd == 3) = false := by simpa using h3
  have t4 : (kd == 4) = false := by simpa using h4
  have t5 : (kd == 5) = false := by simpa using h5
  have hba := below_alloc (Below.refl w.heap.size w) (.cells #[.int .i64 kd, .int .i64 at_, .int .i64 nn, .slice ab x.length cb, .slice ac ch.length cc] 37)
  have HBA := Aside0.mk hba
  have HTa := Aside0.mk (HT.out.below hba)
  clear h1 h2 h3 h4 h5 hba
  go_enter Tryz.func12, Tryz.ntmps12
  go_wp2_with (fail)
  go_ret
  exact P8Po.of (p := (D, R, true)) HBA.out (fun _ h => .inl h) (fun _ h => .inl h) HTa.out HKR.out (Nat.le_add_right _ _) (Upd.refl _ _)

end Go.Proofs.YtmblnflfklmmkaaGreatDoor.Sh
/- The law's both and made. -/
namespace Go.Proofs.YtmblnflfklmmkaaGreatDoor.Sh
open Go.Proofs.YtmblnflfklmmkaaGreatDoor.Dk
open Go.RowKit Go.Proofs.YtmblnflfklmmkaaGreatDoorW.PrintWords Go.Proofs.YtmblnflfklmmkaaGreatDoorW.PrintLast Go.Proofs.YtmblnflfklmmkaaGreatDoorW.PrintMore
set_option linter.unusedVariables false
set_option linter.unusedSimpArgs false
set_option maxRecDepth 30000
variable {w0 w w' W w1 w2 w3 : World} {s g t g2 : Nat} {F F2 : Nat → Prop} {D D' : DM} {R R' : RM} {fr n : Int}
theorem results_tmp5 {fn : Func} {a b c d e : Tmp} (h : fn.results = #[.tmp a, .tmp b, .tmp c, .tmp d, .tmp e]) (tmps : Array Value) (P : Program) (w : World) : (results fn tmps).run P w = .ok (.tuple #[tmps.getD a undef, tmps.getD b undef, tmps.getD c undef, tmps.getD d undef, tmps.getD e undef]) w := by
  simp [results, h]
/-- What an operation leaves of the program's disk. -/
theorem play8_hs (o : OpM) : (play8 fr n D R o).1.held.length ≤ D.held.length + o.b.length + 128 ∧ (play8 fr n D R o).1.sec.length = D.sec.length := by
  unfold play8
  split
  · have := putM_hs (D := D) (fr := fr) (n := n) (x := o.b); exact ⟨by dsimp only; omega, this.2⟩
  · split
    · unfold setM
      split
      · exact ⟨by simp only; omega, rfl⟩
      · split <;> exact ⟨by simp only; omega, rfl⟩
    · split
      · have := loseM_hs (D := D) o.ch; exact ⟨by dsimp only; omega, this.2⟩
      · split
        · exact ⟨by simp only [startM]; omega, rfl⟩
        · split
          · have hw := writeM_hs (D := D) o.at_ o.b
            have hf := flushM_hs (D := (writeM D o.at_ o.b).1)
            split
            · exact ⟨by dsimp only; omega, hf.2.trans hw.2⟩
            · exact ⟨by dsimp only; omega, hw.2⟩
          · exact ⟨by dsimp only; omega, rfl⟩
theorem play8_ok (o : OpM) (h : DOk D) (hn : D.held.length + o.b.length + 128 ≤ 10000000) (hn2 : o.n ≤ 9223372036854775807) : DOk (play8 fr n D R o).1 := by
  unfold play8
  split
  · exact putM_ok h hn
  · split
    · exact setM_ok h hn2
    · split
      · exact loseM_ok _ h
      · split
        · exact startM_ok h
        · split
          · have hw := writeM_ok (k := o.at_) (x := o.b) h (by omega)
            split
            · exact flushM_ok hw
            · exact hw
          · exact h
theorem ref_lower {g2 : Nat} (h : RefAt w1 w.heap.size g2 F2 R) (hb : w0.heap.size ≤ w.heap.size) (hc : R.choice = []) : RefAt w1 w0.heap.size g2 F2 R := by
  obtain ⟨_, _, _, h⟩ := h
  exact ⟨_, _, _, h.lower hb hc⟩
theorem tri_new {w4 : World} (hg : Glob w) (hb : Below w.heap.size w w4) (hs : SAt w4 w.heap.size s g (fun k => w.heap.size ≤ k ∧ k < w1.heap.size) D fr n) (ht : TAt w4 w.heap.size t g2 (fun k => w1.heap.size ≤ k ∧ k < w2.heap.size) R fr n) (h1 : w.heap.size ≤ w1.heap.size) (h2 : w.heap.size ≤ w2.heap.size) (hls : w2.heap.size ≤ s) (h13 : w1.heap.size ≤ w3.heap.size) (h23 : w2.heap.size ≤ w3.heap.size) (hlt : w3.heap.size ≤ t) : Tri w w4 s g (fun k => w.heap.size ≤ k ∧ k < w1.heap.size) D fr n t g2 (fun k => w1.heap.size ≤ k ∧ k < w2.heap.size) R :=
  ⟨hs, ht, fun k h1 h2 => by omega, fun h => by omega, fun h => by omega, hg, hb⟩
/-- What both answers. -/
def BothPo (w w' : World) (x : List Int) (sz : Int) (fr n : Int) (e : Ending) : Prop :=
  (e = .returned (.tuple #[.pointer none, .pointer none, .pointer none, .bool false, .bool true]) ∧ Below w.heap.size w w') ∨
  ∃ s g t g2 F F2 k, sz = ((k : Nat) : Int) ∧ ¬ newBad x k ∧ e = .returned (.tuple #[.pointer (some ⟨s, 0, none⟩), .pointer (some ⟨g, 0, none⟩), .pointer (some ⟨t, 0, none⟩), .bool true, .bool true]) ∧ Tri w w' s g F (newM x k k) fr n t g2 F2 (rnewM ((List.range k).map (secAt x))) ∧ SOk (newM x k k) fr n ∧ TOk (rnewM ((List.range k).map (secAt x))) fr n
set_option maxHeartbeats 16000000 in
theorem both_calls (hg : Glob w) (A : Option Addr) (c : Nat) (x : List Int) (sz fr n : Int) (hx : x.length ≤ 2000) (hxc : x.length ≤ c) (hC : C8 w A x) (hsz : sz ≤ 60) :
    Calls Tryz.prog 8 #[.slice A x.length c, .int .i64 sz, .int .i64 fr, .int .i64 n] w fun e w' => BothPo w w' x sz fr n e := by
  have HG := Aside0.mk hg
  have HC := Aside0.mk hC
  have HXC := Aside0.mk hxc
  clear hg hC hxc
  by_cases hbad : newBad x sz
  · have HBAD := Aside0.mk hbad
    clear hbad
    go_enter Tryz.func8, Tryz.ntmps8
    go_wp2_with (first | (go_at_call 20; (with_reducible refine (New_fails A c x sz (by omega) HBAD.out).mono ?_); rintro e w1 ⟨rfl, rfl⟩) | (go_at_call 23; (with_reducible refine (rNew_fails A c x sz (by omega) HBAD.out).mono ?_); rintro e w1 ⟨rfl, rfl⟩))
    refine bodyPost_ret (results_tmp5 rfl _ _ _) rfl ?_
    exact .inl ⟨rfl, Below.refl _ _⟩
  obtain ⟨k, rfl⟩ : ∃ k : Nat, sz = k := ⟨sz.toNat, by unfold newBad at hbad; omega⟩
  have hk0 : 1 ≤ k ∧ k ≤ 60 := by unfold newBad at hbad; omega
  have HBAD := Aside0.mk hbad
  have HK0 := Aside0.mk hk0
  have HKD := Aside0.mk (newM_ok x k (by omega))
  have HSL := Aside0.mk (show (newM x k k).sec.length = k from secTo_length x k k (Nat.le_refl _))
  have HRL := Aside0.mk (show (rnewM ((List.range k).map (secAt x))).sec.length = k from by simp [rnewM])
  obtain ⟨D0, hD0⟩ : ∃ D0, newM x k k = D0 := ⟨_, rfl⟩
  obtain ⟨R0, hR0⟩ : ∃ R0, rnewM ((List.range k).map (secAt x)) = R0 := ⟨_, rfl⟩
  have HR0 := Aside0.mk hR0
  have HD0 := Aside0.mk hD0
  have HRC := Aside0.mk (show R0.choice = [] from by rw [← hR0]; rfl)
  rw [hD0] at HKD HSL
  rw [hR0] at HRL
  clear hbad hk0 hD0 hR0
  by_cases hin : 2 ≤ n ∧ 0 ≤ fr ∧ fr + 2 * n ≤ (k : Int)
  · have HIN := Aside0.mk hin
    clear hin
    go_enter Tryz.func8, Tryz.ntmps8
    go_wp2_with (first | (go_at_call 20; (with_reducible refine (New_calls A c x k (by omega) HXC.out HC.out HBAD.out).mono ?_); rintro e w1 ⟨g1, rfl, hd1, hb1⟩; rw [HD0.out] at hd1; have HD1 := Aside0.mk hd1; have HB1 := Aside0.mk hb1; have HC1 := Aside0.mk (Kd.C_below HC.out hb1); clear hd1 hb1) | (go_at_call 23; (with_reducible refine (rNew_calls A c x k (by omega) HXC.out HC1.out HBAD.out).mono ?_); rintro e w2 ⟨g2, R2, rfl, hr2, hok2, hw2, hc2, hs2, hb2, he2⟩; obtain rfl := (he2.out.trans HR0.out).symm; have HR2 := Aside0.mk (ref_lower hr2 HB1.out.size hc2); have HOK2 := Aside0.mk hok2; have HB2 := Aside0.mk hb2; have HBW2 := Aside0.mk (below_trans HB1.out hb2); have HD2 := Aside0.mk (HD1.out.frame (G := fun _ => False) (Upd.of_below hb2) (fun _ _ _ h => h)); clear hr2 hok2 hw2 hc2 hs2 hb2 he2) | (go_at_call 21; (with_reducible refine (Open_calls HD2.out (by rw [HSL.out]; have := HK0.out; omega) fr n).mono ?_); rintro e w3 h3; rcases h3 with ⟨hn3, _⟩ | ⟨_, s, rfl, hs3, hlo3, hb3⟩; (exact absurd (by rw [HSL.out]; exact HIN.out) hn3); have HS3 := Aside0.mk hs3; have HLO3 := Aside0.mk hlo3; have HB3 := Aside0.mk hb3; have HR3 := Aside0.mk (HR2.out.frame (G := fun _ => False) (Upd.of_below hb3) (fun _ _ h => h) (fun _ h => h.elim)); clear hs3 hlo3 hb3) | (go_at_call 24; (with_reducible refine (rOpen_calls HR3.out (by rw [HRL.out]; have := HK0.out; omega) fr n).mono ?_); rintro e w4 h4; rcases h4 with ⟨hn4, _⟩ | ⟨_, t, rfl, ht4, hlo4, hb4⟩; (exact absurd (by rw [HRL.out]; exact HIN.out) hn4); have HTRI := Aside0.mk (tri_new HG.out (below_trans (below_trans HBW2.out HB3.out) hb4) (HS3.out.below hb4) ht4 HB1.out.size HBW2.out.size HLO3.out (Nat.le_trans HB2.out.size HB3.out.size) HB3.out.size hlo4); clear ht4 hlo4 hb4))
    refine bodyPost_ret (results_tmp5 rfl _ _ _) rfl ?_
    refine .inr ⟨s, g1, t, g2, fun k => w.heap.size ≤ k ∧ k < w1.heap.size, fun k => w1.heap.size ≤ k ∧ k < w2.heap.size, k, rfl, HBAD.out, rfl, ?_, ?_, ?_⟩
    · rw [HD0.out, HR0.out]; exact HTRI.out
    · rw [HD0.out]; exact ⟨HKD.out, HIN.out.2.1, HIN.out.1, by rw [HSL.out]; exact HIN.out.2.2, by rw [HSL.out]; have := HK0.out; omega⟩
    · rw [HR0.out]; exact ⟨HOK2.out, HIN.out.2.1, HIN.out.1, by rw [HRL.out]; exact HIN.out.2.2, by rw [HRL.out]; have := HK0.out; omega⟩
  · have HIN := Aside0.mk hin
    clear hin
    go_enter Tryz.func8, Tryz.ntmps8
    go_wp2_with (first | (go_at_call 20; (with_reducible refine (New_calls A c x k (by omega) HXC.out HC.out HBAD.out).mono ?_); rintro e w1 ⟨g1, rfl, hd1, hb1⟩; rw [HD0.out] at hd1; have HD1 := Aside0.mk hd1; have HB1 := Aside0.mk hb1; have HC1 := Aside0.mk (Kd.C_below HC.out hb1); clear hd1 hb1) | (go_at_call 23; (with_reducible refine (rNew_calls A c x k (by omega) HXC.out HC1.out HBAD.out).mono ?_); rintro e w2 ⟨g2, R2, rfl, hr2, hok2, hw2, hc2, hs2, hb2, he2⟩; obtain rfl := (he2.out.trans HR0.out).symm; have HR2 := Aside0.mk (ref_lower hr2 HB1.out.size hc2); have HOK2 := Aside0.mk hok2; have HB2 := Aside0.mk hb2; have HBW2 := Aside0.mk (below_trans HB1.out hb2); have HD2 := Aside0.mk (HD1.out.frame (G := fun _ => False) (Upd.of_below hb2) (fun _ _ _ h => h)); clear hr2 hok2 hw2 hc2 hs2 hb2 he2) | (go_at_call 21; (with_reducible refine (Open_calls HD2.out (by rw [HSL.out]; have := HK0.out; omega) fr n).mono ?_); rintro e w3 h3; rcases h3 with ⟨_, rfl, hb3⟩ | ⟨hn3, _⟩; rotate_left; (exact absurd (by rw [HSL.out] at hn3; exact hn3) HIN.out); have HB3 := Aside0.mk (below_trans HBW2.out hb3); have HR3 := Aside0.mk (HR2.out.frame (G := fun _ => False) (Upd.of_below hb3) (fun _ _ h => h) (fun _ h => h.elim)); clear hb3) | (go_at_call 24; (with_reducible refine (rOpen_calls HR3.out (by rw [HRL.out]; have := HK0.out; omega) fr n).mono ?_); rintro e w4 h4; rcases h4 with ⟨_, rfl, hb4⟩ | ⟨hn4, _⟩; rotate_left; (exact absurd (by rw [HRL.out] at hn4; exact hn4) HIN.out); have HBE := Aside0.mk (below_trans HB3.out hb4); clear hb4))
    refine bodyPost_ret (results_tmp5 rfl _ _ _) rfl ?_
    exact .inl ⟨rfl, HBE.out⟩

end Go.Proofs.YtmblnflfklmmkaaGreatDoor.Sh
/- Plain facts about stores: a Put whose power may go, and what no Put touches. -/
namespace Go.Proofs.YtmblnflfklmmkaaGreatDoor.Sh
open Go.Proofs.YtmblnflfklmmkaaGreatDoor.Dk
open Go.RowKit Go.Proofs.YtmblnflfklmmkaaGreatDoorW.PrintWords Go.Proofs.YtmblnflfklmmkaaGreatDoorW.PrintLast Go.Proofs.YtmblnflfklmmkaaGreatDoorW.PrintMore
set_option linter.unusedVariables false
set_option linter.unusedSimpArgs false
set_option maxRecDepth 30000
variable {D D0 D1 D' : DM} {fr n q k g lo hi : Int} {x y b h : List Int}
theorem goes_same (D : DM) : (goesM D).1.sec = D.sec ∧ (goesM D).1.held = D.held ∧ (goesM D).1.down = D.down := by
  unfold goesM
  split
  · exact ⟨rfl, rfl, rfl⟩
  · split <;> exact ⟨rfl, rfl, rfl⟩
theorem lose_same (l : List Bool) (hd : D.down = false) : (loseM l D).down = true ∧ (loseM l D).held = [] ∧ ∃ keep, (loseM l D).sec = putsTo keep D.held D.sec D.held.length := by
  unfold loseM
  rw [hd, if_neg (by decide)]
  exact ⟨rfl, rfl, _, rfl⟩
theorem puts_each (keep : Nat → Bool) (H : List (Int × List Int)) (S : List (List Int)) (j : Nat) (hH : ∀ h ∈ H, 0 ≤ h.1) : ∀ n, n ≤ H.length → (putsTo keep H S n).getD j [] = S.getD j [] ∨ ∃ h ∈ H, h.1 = (j : Int) ∧ (putsTo keep H S n).getD j [] = h.2
  | 0, _ => .inl rfl
  | n + 1, hn => by
    have hm : H.getD n (0, []) ∈ H := by rw [List.getD_eq_getElem?_getD, List.getElem?_eq_getElem (by omega)]; exact List.getElem_mem (by omega)
    have ih := puts_each keep H S j hH n (by omega)
    rw [putsTo]
    cases keep n with
    | false => rw [if_neg (by decide)]; exact ih
    | true =>
      rw [if_pos rfl]
      by_cases hj : (H.getD n (0, [])).1.toNat = j
      · by_cases hs : j < (putsTo keep H S n).length
        · refine .inr ⟨_, hm, by have := hH _ hm; omega, ?_⟩
          rw [List.getD_eq_getElem?_getD, List.getElem?_set, if_pos hj, if_pos (by omega)]
          rfl
        · rw [List.getD_eq_getElem?_getD, List.getElem?_set, if_pos hj, if_neg (by omega)]
          refine .inl ?_
          rw [putsTo_length] at hs
          rw [List.getD_eq_getElem?_getD, List.getElem?_eq_none (by omega)]
      · rw [List.getD_eq_getElem?_getD, List.getElem?_set, if_neg hj, ← List.getD_eq_getElem?_getD]
        exact ih
/-! ### What no Put touches -/
structure Apt (D D' : DM) (lo hi : Int) : Prop where
  low : 0 ≤ lo
  len : D'.sec.length = D.sec.length
  out : ∀ j : Nat, ((j : Int) < lo ∨ hi ≤ (j : Int)) → D'.sec.getD j [] = D.sec.getD j []
  held : ∀ h ∈ D'.held, lo ≤ h.1 ∧ h.1 < hi
theorem Apt.puts (h : Apt D0 D lo hi) (keep : Nat → Bool) {D' : DM} (hs : D'.sec = putsTo keep D.held D.sec D.held.length) (hh : D'.held = []) : Apt D0 D' lo hi := by
  refine ⟨h.low, by rw [hs, putsTo_length, h.len], fun j hj => ?_, by rw [hh]; intro h hh; cases hh⟩
  rw [hs]
  rcases puts_each keep D.held D.sec j (fun y hy => by have := h.held y hy; have := h.low; omega) _ (Nat.le_refl _) with e | ⟨y, hy, h1, _⟩
  · rw [e]; exact h.out j hj
  · have := h.held y hy
    omega
theorem Apt.same (h : Apt D0 D lo hi) (hs : D'.sec = D.sec) (hh : D'.held = D.held) : Apt D0 D' lo hi := ⟨h.low, by rw [hs, h.len], by rw [hs]; exact h.out, by rw [hh]; exact h.held⟩
theorem Apt.goes (h : Apt D0 D lo hi) : Apt D0 (goesM D).1 lo hi := h.same (goes_same D).1 (goes_same D).2.1
theorem Apt.lose (h : Apt D0 D lo hi) (l : List Bool) : Apt D0 (loseM l D) lo hi := by
  cases hd : D.down with
  | true => unfold loseM; rw [if_pos hd]; exact h
  | false => obtain ⟨_, h2, keep, h3⟩ := lose_same l hd; exact h.puts keep h3 h2
theorem Apt.write (h : Apt D0 D lo hi) (h0 : lo ≤ k) (h1 : k < hi) : Apt D0 (writeM D k x).1 lo hi := by
  unfold writeM
  split
  · exact h
  split
  · exact h
  have hq : Apt D0 (holdM D k x) lo hi := ⟨h.low, h.len, h.out, fun y hy => by
    simp only [holdM, List.mem_append, List.mem_singleton] at hy
    rcases hy with hy | rfl
    · exact h.held y hy
    · exact ⟨h0, h1⟩⟩
  split
  · exact hq.goes.lose _
  · exact hq.goes
theorem Apt.flush (h : Apt D0 D lo hi) : Apt D0 (flushM D).1 lo hi := by
  unfold flushM
  split
  · exact h
  split
  · exact h.goes.lose _
  · exact h.goes.puts _ rfl rfl
theorem Apt.saveFrom (x : List Int) (q : Int) : ∀ (m i : Nat) (D : DM), Apt D0 D lo hi → lo ≤ q → q + i + m ≤ hi → Apt D0 (saveFrom x q m i D).1 lo hi
  | 0, _, _, h, _, _ => h
  | m + 1, i, D, h, h0, h1 => by
    rw [Dk.saveFrom]
    split
    · exact h.write (by omega) (by omega)
    · exact Apt.saveFrom x q m (i + 1) _ (h.write (by omega) (by omega)) h0 (by omega)
theorem Apt.step (h : Apt D0 D lo hi) (h0 : lo ≤ q) (h1 : q + (secN x : Nat) ≤ hi) : Apt D0 (stepM D q x).1 lo hi := by
  have hs : Apt D0 (saveM D q x).1 lo hi := by
    unfold saveM
    split
    · exact h
    · exact Apt.saveFrom x q _ 0 D h h0 (by unfold secN at h1; omega)
  unfold stepM
  split
  · exact hs
  · exact hs.flush
theorem Apt.put (hk : SOk D fr n) (h : Apt D0 D fr (fr + 2 * n)) : Apt D0 (putM D fr n x).1 fr (fr + 2 * n) := by
  have hn := hk.hn
  unfold putM
  split
  · exact h
  split
  · exact h
  split
  · exact h
  have hat := newest_at (D := D) (fr := fr) (n := n)
  have hom : otherM (newestM D fr n).1 = 0 ∨ otherM (newestM D fr n).1 = 1 := by unfold otherM; split <;> simp
  have hon : 0 ≤ otherM (newestM D fr n).1 * n ∧ otherM (newestM D fr n).1 * n ≤ n := by rcases hom with h | h <;> rw [h] <;> omega
  have hsx : (secN x : Int) ≤ n - 1 := by unfold secN; omega
  rw [toM_eq]
  have z1 : secN zer64 = 1 := secN_64 zer64_len
  have a := h.step (q := fr + otherM (newestM D fr n).1 * n) (x := zer64) (by omega) (by rw [z1]; omega)
  unfold put3
  split
  · exact a
  have b := a.step (q := fr + otherM (newestM D fr n).1 * n + 1) (x := x) (by omega) (by omega)
  split
  · exact b
  · exact b.step (by omega) (by rw [secN_64 (headM_length _ _)]; omega)
theorem Apt.refl (D : DM) (h0 : 0 ≤ lo) (hh : D.held = []) : Apt D D lo hi := ⟨h0, rfl, fun _ _ => rfl, by rw [hh]; intro h hh; cases hh⟩
/-! ### A Put whose power may go -/
end Go.Proofs.YtmblnflfklmmkaaGreatDoor.Sh
/- Plain facts: the program's digest of bytes is the reference's. -/
namespace Go.Proofs.YtmblnflfklmmkaaGreatDoor.Sh
open Go.Proofs.YtmblnflfklmmkaaGreatDoor.Dk Go.Proofs.YtmblnflfklmmkaaGreatDoor.P
open Go.RowKit Go.Proofs.YtmblnflfklmmkaaGreatDoorW.PrintWords Go.Proofs.YtmblnflfklmmkaaGreatDoorW.PrintLast Go.Proofs.YtmblnflfklmmkaaGreatDoorW.PrintMore
set_option linter.unusedVariables false
set_option linter.unusedSimpArgs false
set_option maxRecDepth 30000
def AllB (l : List Int) : Prop := ∀ x ∈ l, 0 ≤ x ∧ x ≤ 255
theorem AllB.take {l : List Int} (h : AllB l) (n : Nat) : AllB (l.take n) := fun x hx => h x (List.mem_of_mem_take hx)
theorem AllB.drop {l : List Int} (h : AllB l) (n : Nat) : AllB (l.drop n) := fun x hx => h x (List.mem_of_mem_drop hx)
theorem AllB.app {l m : List Int} (h : AllB l) (h2 : AllB m) : AllB (l ++ m) := fun x hx => (List.mem_append.1 hx).elim (h x) (h2 x)
theorem beM_B : ∀ (m : Nat) (n : Int), AllB (beM m n)
  | 0, n => by rw [beM]; intro x hx; cases hx
  | m + 1, n => by
    rw [beM]
    refine (beM_B m _).app (fun x hx => ?_)
    rw [List.mem_singleton] at hx
    omega
theorem zeros_B (n : Nat) : AllB (List.replicate n 0) := fun x hx => by
  rw [(List.mem_replicate.1 hx).2]
  exact ⟨by decide, by decide⟩
/-! ### Words of a block -/
/-! ### Rounds and blocks -/
/-! ### Whole texts -/
end Go.Proofs.YtmblnflfklmmkaaGreatDoor.Sh
/- Plain facts: a disk's bytes are bytes, whatever is played upon it. -/
namespace Go.Proofs.YtmblnflfklmmkaaGreatDoor.Sh
open Go.Proofs.YtmblnflfklmmkaaGreatDoor.Dk
open Go.RowKit Go.Proofs.YtmblnflfklmmkaaGreatDoorW.PrintWords Go.Proofs.YtmblnflfklmmkaaGreatDoorW.PrintLast Go.Proofs.YtmblnflfklmmkaaGreatDoorW.PrintMore
set_option linter.unusedVariables false
set_option linter.unusedSimpArgs false
set_option maxRecDepth 30000
variable {D D' : DM} {fr n q k g : Int} {x y b h : List Int}
structure DB (D : DM) : Prop where
  sec : ∀ s ∈ D.sec, AllB s
  held : ∀ h ∈ D.held, AllB h.2
theorem puts_B (keep : Nat → Bool) (H : List (Int × List Int)) (S : List (List Int)) (hS : ∀ s ∈ S, AllB s) (hH : ∀ h ∈ H, AllB h.2) : ∀ n, ∀ s ∈ putsTo keep H S n, AllB s
  | 0 => hS
  | n + 1 => by
    have ih := puts_B keep H S hS hH n
    rw [putsTo]
    split
    · intro s hs
      rcases List.mem_or_eq_of_mem_set hs with h | h
      · exact ih s h
      · rw [h, List.getD_eq_getElem?_getD]
        cases hx : H[n]? with
        | none => intro z hz; cases hz
        | some p => exact hH p (List.mem_of_getElem? hx)
    · exact ih
theorem DB.same (h : DB D) (hs : D'.sec = D.sec) (hh : D'.held = D.held) : DB D' := ⟨by rw [hs]; exact h.sec, by rw [hh]; exact h.held⟩
theorem DB.puts (h : DB D) (keep : Nat → Bool) (hs : D'.sec = putsTo keep D.held D.sec D.held.length) (hh : D'.held = []) : DB D' := ⟨by rw [hs]; exact puts_B keep _ _ h.sec h.held _, by rw [hh]; intro h hh; cases hh⟩
theorem DB.goes (h : DB D) : DB (goesM D).1 := h.same (goes_same D).1 (goes_same D).2.1
theorem DB.lose (h : DB D) (l : List Bool) : DB (loseM l D) := by
  cases hd : D.down with
  | true => unfold loseM; rw [if_pos hd]; exact h
  | false => obtain ⟨_, h2, keep, h3⟩ := lose_same l hd; exact h.puts keep h3 h2
theorem DB.start (h : DB D) : DB (startM D) := h.same rfl rfl
theorem DB.set (h : DB D) (m : Int) (l : List Bool) : DB (setM D m l).1 := by
  unfold setM
  split
  · exact h
  · split
    · exact h
    · exact h.same rfl rfl
theorem DB.write (h : DB D) (hx : AllB x) : DB (writeM D k x).1 := by
  unfold writeM
  split
  · exact h
  split
  · exact h
  have hq : DB (holdM D k x) := ⟨h.sec, fun y hy => by
    simp only [holdM, List.mem_append, List.mem_singleton] at hy
    rcases hy with hy | rfl
    · exact h.held y hy
    · exact hx⟩
  split
  · exact hq.goes.lose _
  · exact hq.goes
theorem DB.flush (h : DB D) : DB (flushM D).1 := by
  unfold flushM
  split
  · exact h
  split
  · exact h.goes.lose _
  · exact h.goes.puts _ rfl rfl
theorem secAt_B (hx : AllB x) (i : Nat) : AllB (secAt x i) := ((hx.drop _).take _).app (zeros_B _)
theorem DB.saveFrom (hx : AllB x) (q : Int) : ∀ (m i : Nat) (D : DM), DB D → DB (saveFrom x q m i D).1
  | 0, _, _, h => h
  | m + 1, i, D, h => by
    rw [Dk.saveFrom]
    split
    · exact h.write (secAt_B hx i)
    · exact DB.saveFrom hx q m (i + 1) _ (h.write (secAt_B hx i))
theorem DB.save (h : DB D) (hx : AllB x) : DB (saveM D q x).1 := by
  unfold saveM
  split
  · exact h
  · exact DB.saveFrom hx q _ 0 D h
theorem DB.step (h : DB D) (hx : AllB x) : DB (stepM D q x).1 := by
  unfold stepM
  split
  · exact h.save hx
  · exact (h.save hx).flush
theorem tellM_B (hv : List Int) : AllB (tellM hv) := fun z hz => by
  unfold tellM at hz
  obtain ⟨a, _, ha⟩ := List.mem_flatMap.1 hz
  simp only [tell1, List.mem_cons, List.not_mem_nil, or_false] at ha
  rcases ha with rfl | rfl | rfl | rfl <;> omega
theorem headM_B (g : Int) (x : List Int) : AllB (headM g x) := by
  rw [headM_eq]
  refine ((AllB.app (AllB.app (AllB.app ?_ (beM_B _ _)) (beM_B _ _)) ?_).app (zeros_B _))
  · intro z hz
    simp only [List.mem_cons, List.not_mem_nil, or_false] at hz
    rcases hz with rfl | rfl | rfl | rfl <;> decide
  · unfold digestM sumM
    exact tellM_B _
theorem DB.put (h : DB D) (hx : AllB x) : DB (putM D fr n x).1 := by
  unfold putM
  split
  · exact h
  split
  · exact h
  split
  · exact h
  have a := h.step (q := toM fr n (newestM D fr n).1) (x := zer64) (zeros_B 64)
  unfold put3
  split
  · exact a
  have b := a.step (q := toM fr n (newestM D fr n).1 + 1) hx
  split
  · exact b
  · exact b.step (headM_B _ _)
theorem DB.new (hx : AllB x) (m i : Nat) : DB (newM x m i) := ⟨fun s hs => by
    have hs' : s ∈ secTo x m i := hs
    unfold secTo at hs'
    rcases List.mem_append.1 hs' with h | h
    · obtain ⟨j, _, rfl⟩ := List.mem_map.1 h
      exact secAt_B hx j
    · rw [(List.mem_replicate.1 h).2]
      exact zeros_B 64, fun h hh => by cases hh⟩
/-- What is read of such a disk. -/
theorem DB.read (h : DB D) (k : Int) : AllB (readM D k) := by
  unfold readM
  have : ∀ i, AllB (readTo k D.held (D.sec.getD k.toNat []) i) := by
    intro i
    induction i with
    | zero =>
      rw [readTo, List.getD_eq_getElem?_getD]
      cases hx : D.sec[k.toNat]? with
      | none => intro z hz; cases hz
      | some s => exact h.sec s (List.mem_of_getElem? hx)
    | succ i ih =>
      rw [readTo]
      split
      · rw [List.getD_eq_getElem?_getD]
        cases hx : D.held[i]? with
        | none => intro z hz; cases hz
        | some p => exact h.held p (List.mem_of_getElem? hx)
      · exact ih
  exact this _
theorem DB.reads (h : DB D) (k : Int) : ∀ m, AllB (readsTo D k m)
  | 0 => fun z hz => by cases hz
  | m + 1 => by rw [readsTo]; exact (DB.reads h k m).app (h.read _)
theorem DB.area {p : Int × List Int} (h : DB D) (ha : areaM D fr n k = some p) : AllB p.2 := by
  unfold areaM at ha
  split at ha
  · cases ha
  split at ha
  · cases ha
  split at ha
  · injection ha with ha
    rw [← ha]
    exact (h.reads _ _).take _
  · cases ha
theorem DB.newest (h : DB D) : AllB (newestM D fr n).2.2 := by
  have hn : ∀ (st : Int × Int × List Int) (k : Int) (o : Option (Int × List Int)), AllB st.2.2 → (∀ p, o = some p → AllB p.2) → AllB (nextM st k o).2.2 := by
    intro st k o h1 h2
    cases o with
    | none => exact h1
    | some p =>
      rw [next_some]
      split
      · exact h2 p rfl
      · exact h1
  exact hn _ _ _ (hn _ _ _ (fun z hz => by cases hz) (fun p hp => h.area hp)) (fun p hp => h.area hp)
end Go.Proofs.YtmblnflfklmmkaaGreatDoor.Sh
/- The law's made. -/
namespace Go.Proofs.YtmblnflfklmmkaaGreatDoor.Sh
open Go.Proofs.YtmblnflfklmmkaaGreatDoor.Dk
open Go.RowKit Go.Proofs.YtmblnflfklmmkaaGreatDoorW.PrintWords Go.Proofs.YtmblnflfklmmkaaGreatDoorW.PrintLast Go.Proofs.YtmblnflfklmmkaaGreatDoorW.PrintMore
set_option linter.unusedVariables false
set_option linter.unusedSimpArgs false
set_option maxRecDepth 30000
variable {w0 w w' W w1 w2 w3 : World} {s g t g2 : Nat} {F F2 : Nat → Prop} {D D' : DM} {R R' : RM} {fr n : Int}
theorem Tri.ss (h : Tri w0 w s g F D fr n t g2 F2 R) (hk : SOk D fr n) : Ss w0 w s g F D fr n := ⟨h.S, hk, h.G, h.b⟩
theorem tri_base {m : Nat} (h : Tri (w.drewN m) w1 s g F D fr n t g2 F2 R) : Tri w w1 s g F D fr n t g2 F2 R := ⟨h.S, h.T, h.ap, h.sF, h.tF, ⟨h.G.s, h.G.c, h.G.lt⟩, (pw_below_drewN (Below.refl _ _) m).trans h.b⟩
/-- What made answers: none, or a store on a disk that is up and not set. -/
def MadePo (w w' : World) (fr n : Int) (Q : Prop) (e : Ending) : Prop := (e = .returned (.tuple #[.pointer none, .pointer none]) ∧ Below w.heap.size w w') ∨
  ∃ s g F D, e = .returned (.tuple #[.pointer (some ⟨s, 0, none⟩), .pointer (some ⟨g, 0, none⟩)]) ∧ Ss w w' s g F D fr n ∧ Dk.Calm D ∧ D.held.length ≤ 120000 ∧ D.sec.length ≤ 60 ∧ (Q → DB D)
theorem play8_B (o : OpM) (h : DB D) (hy : AllB o.b) : DB (play8 fr n D R o).1 := by
  unfold play8
  split
  · exact h.put hy
  split
  · exact h.set _ _
  split
  · exact h.lose _
  split
  · exact h.start
  split
  · split
    · exact (h.write hy).flush
    · exact h.write hy
  · exact h
theorem start_ss (h : Ss w0 w s g F D fr n) : Calls Tryz.prog 33 #[.pointer (some ⟨g, 0, none⟩)] w fun e w' => e = .returned (.tuple #[]) ∧ SsPo w0 w w' s g F (startM D) fr n :=
  (dStart h.S.d).mono fun e w' ⟨he, hp⟩ => ⟨he, h.dpo (h.K.dm (startM_ok h.K.d) rfl) hp⟩
set_option maxHeartbeats 16000000 in
theorem made8_calls (hg : Glob w) (A : Option Addr) (c : Nat) (x : List Int) (sz fr n : Int) (A2 : Option Addr) (c2 : Nat) (l : List OpM) (hx0 : x.length ≤ 140737488351232) (hxc : x.length ≤ c) (hC : C8 w A x) (hO : Ops w A2 l) (hl : l.length ≤ 140737488351232) :
    Calls Tryz.prog 13 #[.slice A x.length c, .int .i64 sz, .int .i64 fr, .int .i64 n, .slice A2 l.length c2] w fun e w' => MadePo w w' fr n (AllB x ∧ ∀ o ∈ l, AllB o.b) e := by
  have HG := Aside0.mk hg
  have HC := Aside0.mk hC
  have HO := Aside0.mk hO
  have HXC := Aside0.mk hxc
  have HW8 := Aside0.mk (wide8_calls (w := w) A c x sz hx0)
  have HL8 := Aside0.mk (long8_calls (w := w) A2 c2 l hO hl)
  clear hg hC hO hxc
  by_cases hw : 2000 < x.length ∨ 60 < sz
  · have hwb := Lib.hid (decide_eq_true hw)
    rw [hwb.out] at HW8
    clear hw hwb
    go_enter Tryz.func13, Tryz.ntmps13
    go_wp2_with (first | (go_at_call 5; (with_reducible refine (HW8.out).mono ?_); rintro e w1 ⟨rfl, rfl⟩))
    refine bodyPost_ret (results_tmp2 rfl _ _ _) rfl ?_
    exact .inl ⟨rfl, Below.refl _ _⟩
  have hwb := Lib.hid (decide_eq_false hw)
  rw [hwb.out] at HW8
  have HXS := Aside0.mk (show x.length ≤ 2000 ∧ sz ≤ 60 by omega)
  clear hw hwb
  by_cases hlg : 2500 < wsum8 l
  · have HLG := Lib.hid (decide_eq_true hlg)
    clear hlg
    go_enter Tryz.func13, Tryz.ntmps13
    go_wp2_with (first | (go_at_call 5; (with_reducible refine (HW8.out).mono ?_); rintro e w1 ⟨rfl, rfl⟩) | (go_at_call 6; (with_reducible refine (HL8.out).mono ?_); rintro e w2 ⟨rfl, m, rfl⟩; rw [HLG.out]))
    refine bodyPost_ret (results_tmp2 rfl _ _ _) rfl ?_
    exact .inl ⟨rfl, pw_below_drewN (Below.refl _ _) m⟩
  have HLG := Lib.hid (decide_eq_false hlg)
  have HLN := Aside0.mk (show wsum8 l ≤ 2500 by omega)
  clear hlg
  have HBT := Aside0.mk (show ∀ m, Calls Tryz.prog 8 #[.slice A x.length c, .int .i64 sz, .int .i64 fr, .int .i64 n] (w.drewN m) fun e w' => BothPo (w.drewN m) w' x sz fr n e from fun m => both_calls (HG.out.below (pw_below_drewN (Below.refl _ _) m)) A c x sz fr n HXS.out.1 HXC.out (Kd.C_drewN HC.out m) HXS.out.2)
  go_enter Tryz.func13, Tryz.ntmps13
  go_wp2_with (first | (go_at_call 5; (with_reducible refine (HW8.out).mono ?_); rintro e w1 ⟨rfl, rfl⟩) | (go_at_call 6; (with_reducible refine (HL8.out).mono ?_); rintro e w2 ⟨rfl, m, rfl⟩; rw [HLG.out]) | (go_at_call 8; (with_reducible refine (HBT.out m).mono ?_); rintro e w3 h3; rcases h3 with ⟨rfl, hb3⟩ | ⟨s, g, t, g2, F, F2, k, hk, hbd, rfl, htr, hsk, htk⟩; (have HB1 := Aside0.mk (show Below w.heap.size w w3 from (pw_below_drewN (Below.refl _ _) m).trans hb3); clear hb3); rotate_left; (obtain ⟨D0, hD0⟩ : ∃ D0, newM x k k = D0 := ⟨_, rfl⟩); (obtain ⟨R0, hR0⟩ : ∃ R0, rnewM ((List.range k).map (secAt x)) = R0 := ⟨_, rfl⟩); have HV0 := Aside0.mk (show (AllB x ∧ ∀ o ∈ l, AllB o.b) → DB D0 from fun hq => by rw [← hD0]; exact DB.new hq.1 k k); have HH0 := Aside0.mk (show D0.held.length ≤ 40 * wsum8 (l.take 0) by rw [← hD0]; exact Nat.zero_le _); have HR0 := Aside0.mk (show R0.wait.length ≤ 40 * wsum8 (l.take 0) by rw [← hR0]; exact Nat.zero_le _); have HS0 := Aside0.mk (show D0.sec.length ≤ 60 by rw [← hD0]; have h1 : (newM x k k).sec.length = k := secTo_length x k k (Nat.le_refl _); have h2 := HXS.out.2; omega); rw [hD0, hR0] at htr; rw [hD0] at hsk; rw [hR0] at htk; have HTR := Aside0.mk (tri_base htr); have HSK := Aside0.mk hsk; have HTK := Aside0.mk htk; clear hk hbd htr hsk htk hD0 hR0; rotate_left))
  · refine bodyPost_ret (results_tmp2 rfl _ _ _) rfl ?_
    exact .inl ⟨rfl, HB1.out⟩
  go_loopw [17] (fun v17 w' => ∃ (i : Nat) (F F2 : Nat → Prop) (D : DM) (R : RM), v17 = .int .i64 i ∧ i ≤ l.length ∧ Aside0 (Tri w w' s g F D fr n t g2 F2 R) ∧ Aside0 (SOk D fr n) ∧ Aside0 (TOk R fr n) ∧ Aside0 (D.held.length ≤ 40 * wsum8 (l.take i)) ∧ Aside0 (R.wait.length ≤ 40 * wsum8 (l.take i)) ∧ Aside0 (D.sec.length ≤ 60) ∧ Aside0 ((AllB x ∧ ∀ o ∈ l, AllB o.b) → DB D)) (fun v17 _ => l.length - (intOf v17).toNat)
  case atStart => exact ⟨0, F, F2, D0, R0, rfl, Nat.zero_le _, HTR, HSK, HTK, HH0, HR0, HS0, HV0⟩
  case round =>
    clear HTR HSK HTK HH0 HR0 HS0 HV0
    obtain ⟨i, F, F2, D, R, rfl, hi, HT, HK, HKR, HH, HRW, HS, HV⟩ := hrel
    by_cases hlt : i < l.length
    · obtain ⟨ad, ab, cb, ac, cc, o, rfl, ho, h0, h1, h2, h3, h4, hOp⟩ := HO.out.get i hlt
      obtain ⟨kd, at_, nn, y, ch⟩ := o
      have HW := Aside0.mk (wsum8_take ho)
      have HL := Aside0.mk (wsum8_le l (i + 1))
      have hb := HT.out.b
      have HLO := Aside0.mk (load_op (cell_kept h0 hb) (cell_kept h1 hb) (cell_kept h2 hb) (cell_kept h3 hb) (cell_kept h4 hb))
      have HOP := Aside0.mk (show ∀ W, Upd wr W (fun k => w.heap.size ≤ k) → OpIs W ⟨kd, at_, nn, y, ch⟩ [.int .i64 kd, .int .i64 at_, .int .i64 nn, .slice ab y.length cb, .slice ac ch.length cc] from fun W hW => OpIs.below hOp (Upd.below (F := fun k => w.heap.size ≤ k) ((Upd.of_below (F := fun k => w.heap.size ≤ k) hb).trans hW (fun k hk => .inl hk)) (fun k hk => hk)))
      have HY := Aside0.mk (show y.length ≤ 2500 by have := HW.out; have := HL.out; have := HLN.out; simp only [wOp8] at *; omega)
      have HYB := Aside0.mk (show (∀ o ∈ l, AllB o.b) → AllB y from fun hB => hB ⟨kd, at_, nn, y, ch⟩ (List.mem_of_getElem? ho))
      have HNN := Aside0.mk (OpIs.C (o := ⟨kd, at_, nn, y, ch⟩) hOp).2.2.2.2.2
      have HDB := Aside0.mk (show D.held.length ≤ 100000 by have := HH.out; have := wsum8_le l i; have := HLN.out; omega)
      have HRB := Aside0.mk (show R.wait.length ≤ 100000 by have := HRW.out; have := wsum8_le l i; have := HLN.out; omega)
      clear h0 h1 h2 h3 h4 hOp ho hb
      go_wp2_with (first | (refine load_at (ty := 37) (.tmp 53) rfl rfl HLO.out rfl ?_) | (go_at_call 12; (with_reducible refine (plays8_calls HT.out HK.out HKR.out (by have := HDB.out; omega) (by have := HRB.out; omega) kd at_ nn y ch ab ac cb cc (by have := HY.out; omega) HOP.out).mono ?_); rintro e w5 ⟨rfl, hp5⟩; have HP5 := Aside0.mk hp5; clear hp5))
      obtain ⟨F5, F25, _, _, hT5, hk5, hw5, _⟩ := HP5.out
      have hps := play8_hs (fr := fr) (n := n) (D := D) (R := R) ⟨kd, at_, nn, y, ch⟩
      have hpk := play8_ok (fr := fr) (n := n) (D := D) (R := R) ⟨kd, at_, nn, y, ch⟩ HK.out.d (by have := HDB.out; have := HY.out; show D.held.length + y.length + 128 ≤ _; omega) HNN.out
      have HT5 := Aside0.mk hT5
      have HK5 := Aside0.mk (HK.out.dm hpk hps.2)
      have HKR5 := Aside0.mk hk5
      have HH5 := Aside0.mk (show (play8 fr n D R ⟨kd, at_, nn, y, ch⟩).1.held.length ≤ 40 * wsum8 (l.take (i + 1)) by have h1 := hps.1; have h2 := HH.out; have h3 := HW.out; simp only [wOp8] at h3 h1; omega)
      have HR5 := Aside0.mk (show (play8 fr n D R ⟨kd, at_, nn, y, ch⟩).2.1.wait.length ≤ 40 * wsum8 (l.take (i + 1)) by have h2 := HRW.out; have h3 := HW.out; simp only [wOp8] at h3; omega)
      have HV5 := Aside0.mk (show (AllB x ∧ ∀ o ∈ l, AllB o.b) → DB (play8 fr n D R ⟨kd, at_, nn, y, ch⟩).1 from fun hq => play8_B _ (HV.out hq) (HYB.out hq.2))
      have HS5 := Aside0.mk (show (play8 fr n D R ⟨kd, at_, nn, y, ch⟩).1.sec.length ≤ 60 by rw [hps.2]; exact HS.out)
      clear hT5 hk5 hw5 hps hpk
      go_roundw
      case rel => exact ⟨i + 1, F5, F25, _, _, by go_num, by omega, HT5, HK5, HKR5, HH5, HR5, HS5, HV5⟩
      case measure => simp [intOf]; omega
    · obtain rfl : i = l.length := by omega
      have HB := Aside0.mk (show D.held.length ≤ 120000 by have := HH.out; have := wsum8_le l l.length; have := HLN.out; omega)
      have HSS := Aside0.mk (HT.out.ss HK.out)
      go_wp2_with (first | (go_at_call 33; (with_reducible refine (start_ss HSS.out).mono ?_); rintro e w6 ⟨rfl, hp6⟩; have HP6 := Aside0.mk hp6; clear hp6))
      refine bodyPost_ret (results_tmp2 rfl _ _ _) rfl ?_
      obtain ⟨F6, hs6, _⟩ := HP6.out
      exact .inr ⟨s, g, F6, startM D, rfl, hs6, ⟨rfl, rfl⟩, HB.out, HS.out, fun hq => (HV.out hq).start⟩

end Go.Proofs.YtmblnflfklmmkaaGreatDoor.Sh
/- The law StoreCrash. -/
namespace Go.Proofs.YtmblnflfklmmkaaGreatDoor.Sh
open Go.Proofs.YtmblnflfklmmkaaGreatDoor.Dk
open Go.RowKit Go.Proofs.YtmblnflfklmmkaaGreatDoorW.PrintWords Go.Proofs.YtmblnflfklmmkaaGreatDoorW.PrintLast Go.Proofs.YtmblnflfklmmkaaGreatDoorW.PrintMore
set_option linter.unusedVariables false
set_option linter.unusedSimpArgs false
set_option maxRecDepth 30000
variable {w0 w w' W w1 w2 w3 : World} {s g t g2 : Nat} {F F' F2 : Nat → Prop} {D D' : DM} {R R' : RM} {fr n k : Int} {x r : List Int}
end Go.Proofs.YtmblnflfklmmkaaGreatDoor.Sh
/- The law StoreApart. -/
namespace Go.Proofs.YtmblnflfklmmkaaGreatDoor.Sh
open Go.Proofs.YtmblnflfklmmkaaGreatDoor.Dk
open Go.RowKit Go.Proofs.YtmblnflfklmmkaaGreatDoorW.PrintWords Go.Proofs.YtmblnflfklmmkaaGreatDoorW.PrintLast Go.Proofs.YtmblnflfklmmkaaGreatDoorW.PrintMore
set_option linter.unusedVariables false
set_option linter.unusedSimpArgs false
set_option maxRecDepth 30000
variable {w0 w w' W w1 w2 w3 : World} {s g t g2 : Nat} {F F' F2 : Nat → Prop} {D D' : DM} {R R' : RM} {fr n k : Int} {x r xs ys : List Int}
end Go.Proofs.YtmblnflfklmmkaaGreatDoor.Sh
/- The law StoreAsks. -/
namespace Go.Proofs.YtmblnflfklmmkaaGreatDoor.Sh
open Go.Proofs.YtmblnflfklmmkaaGreatDoor.Dk
open Go.RowKit Go.Proofs.YtmblnflfklmmkaaGreatDoorW.PrintWords Go.Proofs.YtmblnflfklmmkaaGreatDoorW.PrintLast Go.Proofs.YtmblnflfklmmkaaGreatDoorW.PrintMore
set_option linter.unusedVariables false
set_option linter.unusedSimpArgs false
set_option maxRecDepth 30000
variable {w0 w w' W w1 w2 w3 wr : World} {s g t g2 : Nat} {F F' F2 : Nat → Prop} {D D' : DM} {R R' : RM} {fr n k : Int} {x r xs ys bb : List Int} {E : Int}
/-- The first i of a row turned. -/
def upT (f : Int → Int) (x : List Int) (i : Nat) : List Int := (x.take i).map f ++ x.drop i
theorem upT_zero (f : Int → Int) (x : List Int) : upT f x 0 = x := rfl
theorem upT_all (f : Int → Int) (x : List Int) : upT f x x.length = x.map f := by simp [upT]
theorem upT_length (f : Int → Int) (x : List Int) (i : Nat) : (upT f x i).length = x.length := by simp [upT]; omega
theorem upT_get (f : Int → Int) {x : List Int} {i : Nat} (h : i < x.length) : (upT f x i).getD i 0 = x.getD i 0 := by
  unfold upT
  rw [List.getD_eq_getElem?_getD, List.getElem?_append_right (by simp; omega), List.length_map, List.length_take, Nat.min_eq_left (by omega), Nat.sub_self, List.getElem?_drop, Nat.add_zero, ← List.getD_eq_getElem?_getD]
theorem upT_set (f : Int → Int) {x : List Int} {i : Nat} (h : i < x.length) : (upT f x i).set i (f (x.getD i 0)) = upT f x (i + 1) := by
  unfold upT
  rw [List.set_append_right _ _ (by simp; omega), List.length_map, List.length_take, Nat.min_eq_left (by omega), Nat.sub_self, List.drop_eq_getElem_cons h, List.set_cons_zero, List.take_succ_eq_append_getElem h, List.map_append, List.append_assoc, List.getD_eq_getElem?_getD, List.getElem?_eq_getElem h]
  rfl
def incB (z : Int) : Int := (z + 1) % 256
def decB (z : Int) : Int := (z - 1) % 256
theorem inc_dec (hx : AllB x) : (x.map incB).map decB = x := by
  rw [List.map_map]
  conv => rhs; rw [← List.map_id x]
  refine List.map_congr_left fun z hz => ?_
  have := hx z hz
  simp only [Function.comp, incB, decB, id]
  omega
/-- What the law asks of a store, a disk's bytes and numbers beside. -/
theorem ask_bytes (h : Ss w0 w s g F D fr n) (hb : bytesM D = bb) : Calls Tryz.prog 14 #[.pointer (some ⟨g, 0, none⟩)] w fun e w' => ∃ A c, e = .returned (.slice A bb.length c) ∧ C8 w' A bb ∧ Below w.heap.size w w' := by
  obtain ⟨_, _, _, hd⟩ := h.S.d
  refine (Bytes_calls hd h.K.d).mono ?_
  rintro e w' ⟨v, rfl, hr, hb'⟩
  rw [hb] at hr
  obtain ⟨A, c, rfl, _, hC⟩ := Kd.R_reads hr
  exact ⟨A, c, rfl, hC, hb'⟩
theorem ask_str (h : Ss w0 w s g F D fr n) (hb : D.strokes = k) : Calls Tryz.prog 15 #[.pointer (some ⟨g, 0, none⟩)] w fun e w' => e = .returned (.int .i64 k) ∧ w = w' := by
  rw [← hb]
  exact StrokesD h.S.d
theorem ask_held (h : Ss w0 w s g F D fr n) (hb : (D.held.length : Int) = k) : Calls Tryz.prog 16 #[.pointer (some ⟨g, 0, none⟩)] w fun e w' => e = .returned (.int .i64 k) ∧ w = w' := by
  rw [← hb]
  exact sHeld h.st
theorem ask_get (h : Ss w0 w s g F D fr n) (hE : getE D fr n = E) (hR : getR D fr n = x) : Calls Tryz.prog 17 #[.pointer (some ⟨s, 0, none⟩)] w fun e w' => ∃ A c, e = .returned (.tuple #[.slice A x.length c, .int .i64 E]) ∧ C8 w' A x ∧ (∃ c, Row8 w' w.heap.size (.slice A x.length c) x) ∧ Below w.heap.size w w' ∧ x.length ≤ 9223372036854775807 := by
  refine (ssGet h).mono ?_
  rintro e w' ⟨A, c, rfl, hf, hb⟩
  rw [hE, hR]
  rw [hR] at hf
  exact ⟨A, c, rfl, hf.C, hf.row, hb, hf.C.2.1⟩
theorem ask_new (h : Ss w0 w s g F D fr n) : Calls Tryz.prog 18 #[.pointer (some ⟨s, 0, none⟩)] w fun e w' => ∃ v, e = .returned v ∧ Below w.heap.size w w' := by
  refine (ssNewest h).mono ?_
  rintro e w' ⟨hb, rfl⟩
  exact ⟨_, rfl, hb⟩
theorem ask_same {A A2 : Option Addr} {c c2 : Nat} (h1 : C8 w A bb) (h2 : C8 w A2 bb) : Calls Tryz.prog 19 #[.slice A bb.length c, .slice A2 bb.length c2] w fun e w' => e = .returned (.bool true) ∧ w = w' := by
  have := Same_calls A c bb A2 c2 bb h1 h2
  rwa [sameM_refl] at this
set_option maxHeartbeats 16000000 in
theorem StoreAsks_calls (hg : Glob w) (A : Option Addr) (c : Nat) (x0 : List Int) (sz fr n : Int) (A2 : Option Addr) (c2 : Nat) (l : List OpM) (hx0 : x0.length ≤ 140737488351232) (hxc : x0.length ≤ c) (hC : C8 w A x0) (hO : Ops w A2 l) (hl : l.length ≤ 140737488351232) (hB : AllB x0) (hBO : ∀ o ∈ l, AllB o.b) :
    Calls Tryz.prog 4 #[.slice A x0.length c, .int .i64 sz, .int .i64 fr, .int .i64 n, .slice A2 l.length c2] w fun e w' => Kn w w' e := by
  have HM := Aside0.mk (made8_calls hg A c x0 sz fr n A2 c2 l hx0 hxc hC hO hl)
  have HG := Aside0.mk hg
  have HQ := Aside0.mk (show AllB x0 ∧ ∀ o ∈ l, AllB o.b from ⟨hB, hBO⟩)
  clear hg hC hO hxc hB hBO hx0 hl
  go_enter Tryz.func4, Tryz.ntmps4
  go_wp2_with (first | (go_at_call 13; (with_reducible refine (HM.out).mono ?_); rintro e w1 h1; rcases h1 with ⟨rfl, hb1⟩ | ⟨s, g, F, D, rfl, hs1, hc1, hh1, hl1, hv1⟩; (have HB1 := Aside0.mk hb1; clear hb1); rotate_left; (have HS1 := Aside0.mk hs1; have HHD := Aside0.mk hh1; have HV1 := Aside0.mk (hv1 HQ.out); obtain ⟨bb, hbb⟩ : ∃ bb, bytesM D = bb := ⟨_, rfl⟩; obtain ⟨ks, hks⟩ : ∃ ks, D.strokes = ks := ⟨_, rfl⟩; obtain ⟨kh, hkh⟩ : ∃ kh, (D.held.length : Int) = kh := ⟨_, rfl⟩; obtain ⟨E, hE⟩ : ∃ E, getE D fr n = E := ⟨_, rfl⟩; obtain ⟨x, hx⟩ : ∃ x, getR D fr n = x := ⟨_, rfl⟩; have HBB := Lib.hid hbb; have HKS := Lib.hid hks; have HKH := Lib.hid hkh; have HE := Lib.hid hE; have HX := Lib.hid hx; have HXB := Aside0.mk (show AllB x by (rw [← hx]; unfold getR; split; exact HV1.out.newest; exact fun z hz => by cases hz)); (have hq1 : (E == E) = true := by simp); (have hq2 : (ks == ks) = true := by simp); (have hq3 : (kh == kh) = true := by simp); clear hs1 hc1 hh1 hl1 hv1 hbb hks hkh hE hx); rotate_left) | (go_at_call 7; (with_reducible refine (known_calls (HG.out.below HB1.out)).mono ?_); rintro e w99 ⟨rfl, hb99⟩; have HB99 := Aside0.mk hb99; clear hb99) | (go_at_call 14; (with_reducible refine (ask_bytes HS1.out HBB.out).mono ?_); rintro e w2 ⟨A3, c3, rfl, hc3, hb3⟩; have HC3 := Aside0.mk hc3; have HS2 := Aside0.mk (HS1.out.below hb3); clear hc3 hb3) | (go_at_call 15; (with_reducible refine (ask_str HS2.out HKS.out).mono ?_); rintro e w3 ⟨rfl, rfl⟩) | (go_at_call 16; (with_reducible refine (ask_held HS2.out HKH.out).mono ?_); rintro e w3 ⟨rfl, rfl⟩) | (go_at_call 17; (with_reducible refine (ask_get HS2.out HE.out HX.out).mono ?_); rintro e w4 ⟨A4, c4, rfl, hc4, ⟨c5, hr4⟩, hb4, hxm⟩; have HR4 := Aside0.mk (show Row8 w4 w2.heap.size (.slice A4 x.length c5) (upT incB x 0) from hr4); have HB4 := Aside0.mk hb4; clear hc4 hr4 hb4))
  · go_ret
    exact ⟨rfl, below_trans HB1.out HB99.out⟩
  go_loopw [18] (fun v18 w' => ∃ (i : Nat), v18 = .int .i64 i ∧ i ≤ x.length ∧ Aside0 (Row8 w' w2.heap.size (.slice A4 x.length c5) (upT incB x i)) ∧ Aside0 (Below w2.heap.size w2 w')) (fun v18 _ => x.length - (intOf v18).toNat)
  case atStart => exact ⟨0, rfl, Nat.zero_le _, HR4, HB4⟩
  case round =>
    clear HR4 HB4
    obtain ⟨i, rfl, hi, HR, HB⟩ := hrel
    by_cases hlt : i < x.length
    · have hfm := HR.out.form (by rw [upT_length]; omega)
      obtain ⟨q, cq, he, hq1', hq2', _⟩ := hfm
      rw [upT_length] at he
      injection he with he1 he2 he3
      subst he1
      clear he2 he3
      have HQ1 := Aside0.mk hq1'
      have hcell := HR.out.celln (i := i) (by rw [upT_length]; omega)
      rw [upT_get _ hlt] at hcell
      obtain ⟨y, hy⟩ : ∃ y, x.getD i 0 = y := ⟨_, rfl⟩
      rw [hy] at hcell
      obtain ⟨hc1, hc2⟩ := hcell
      have HY := Lib.hid hy
      clear hy hq1' hq2'
      go_wp2_with (fail)
      have HR1 := Aside0.mk (show Row8 (wr.setCell ⟨q, i, none⟩ (.int .u8 ((y + 1) % 256))) w2.heap.size (.slice (some ⟨q, 0, none⟩) x.length c5) (upT incB x (i + 1)) by
        rw [← upT_set incB hlt, HY.out]
        exact HR.out.put i _)
      have HB1' := Aside0.mk (HB.out.setCell (p := ⟨q, i, none⟩) HQ1.out (.int .u8 ((y + 1) % 256)))
      go_roundw
      case rel => exact ⟨i + 1, by go_num, by omega, HR1, HB1'⟩
      case measure => simp [intOf]; omega
    · obtain rfl : i = x.length := by omega
      have HR1 := Aside0.mk (show Row8 wr w2.heap.size (.slice A4 x.length c5) (upT decB (x.map incB) 0) by rw [upT_zero, ← upT_all]; exact HR.out)
      have HSr := Aside0.mk (HS2.out.below HB.out)
      have HLM := Aside0.mk (show (x.map incB).length = x.length from List.length_map _)
      clear HR
      go_wp2_with (first | (go_at_call 17; (with_reducible refine (ask_get HSr.out HE.out HX.out).mono ?_); rintro e w5 ⟨A5, c6, rfl, hc5, ⟨c7, hr5⟩, hb5, _⟩; have HC5 := Aside0.mk hc5; have HW5 := Aside0.mk (show ∀ a, A5 = some a → wr.heap.size ≤ a.block ∧ a.block < w5.heap.size from fun a ha => by (subst ha; exact hr5.own a.block rfl)); have HR5 := Aside0.mk (HR1.out.below hb5); have HO5 := Aside0.mk (show ∀ k, (Value.slice A4 x.length c5).ownBlock = some k → k < wr.heap.size from fun k hk => (HR1.out.own k hk).2); have HB5 := Aside0.mk (HB.out.trans (hb5.mono HB.out.size)); have HS5 := Aside0.mk (HSr.out.below hb5); clear hc5 hr5 hb5) | (go_at_call 18; (with_reducible refine (ask_new HS5.out).mono ?_); rintro e w6 ⟨v6, rfl, hb6⟩; have HR6 := Aside0.mk (HR5.out.below hb6); have HC6 := Aside0.mk (Kd.C_below HC5.out hb6); have HB6 := Aside0.mk (HB5.out.trans (hb6.mono HB5.out.size)); have HZ6 := Aside0.mk hb6.size; clear hb6))
      go_loopw [21] (fun v21 w' => ∃ (i : Nat), v21 = .int .i64 i ∧ i ≤ x.length ∧ Aside0 (Row8 w' w2.heap.size (.slice A4 x.length c5) (upT decB (x.map incB) i)) ∧ Aside0 (C8 w' A5 x) ∧ Aside0 (Below w2.heap.size w2 w') ∧ Aside0 (w5.heap.size ≤ w'.heap.size)) (fun v21 _ => x.length - (intOf v21).toNat)
      case atStart => exact ⟨0, rfl, Nat.zero_le _, HR6, HC6, HB6, HZ6⟩
      case round =>
        clear HR6 HC6 HB6 HR5 HC5 HB5 HR1
        obtain ⟨i, rfl, hi, HR, HC, HB, HSZ⟩ := hrel
        by_cases hlt : i < x.length
        · have hfm := HR.out.form (by rw [upT_length, HLM.out]; omega)
          obtain ⟨q, cq, he, hq1', hq2', _⟩ := hfm
          rw [upT_length, HLM.out] at he
          injection he with he1 he2 he3
          subst he1
          clear he2 he3
          have HQ1 := Aside0.mk hq1'
          have hcell := HR.out.celln (i := i) (by rw [upT_length, HLM.out]; omega)
          rw [upT_get _ (by rw [HLM.out]; exact hlt)] at hcell
          obtain ⟨y, hy⟩ : ∃ y, (x.map incB).getD i 0 = y := ⟨_, rfl⟩
          rw [hy] at hcell
          obtain ⟨hc1, hc2⟩ := hcell
          have HY := Lib.hid hy
          clear hy hq1' hq2'
          go_wp2_with (fail)
          have HR1 := Aside0.mk (show Row8 (wr.setCell ⟨q, i, none⟩ (.int .u8 ((y - 1) % 256))) w2.heap.size (.slice (some ⟨q, 0, none⟩) x.length c5) (upT decB (x.map incB) (i + 1)) by
            rw [← upT_set decB (by rw [HLM.out]; exact hlt), HY.out]
            exact HR.out.put i _)
          have HB1' := Aside0.mk (HB.out.setCell (p := ⟨q, i, none⟩) HQ1.out (.int .u8 ((y - 1) % 256)))
          have HC1 := Aside0.mk (show C8 (wr.setCell ⟨q, i, none⟩ (.int .u8 ((y - 1) % 256))) A5 x from HC.out.upd (G := fun k => k = q) ((Upd.refl wr (fun k => k = q)).setCell (.inl rfl) _) (fun a ha => by
            have h1 := HW5.out a ha
            have h2 := HO5.out q rfl
            have h3 := HSZ.out
            exact ⟨by omega, fun he => by omega⟩))
          go_roundw
          case rel => exact ⟨i + 1, by go_num, by omega, HR1, HC1, HB1', ⟨by have h := HSZ.out; simpa [World.setCell] using h⟩⟩
          case measure => simp [intOf]; omega
        · obtain rfl : i = x.length := by omega
          have HRB := Aside0.mk (show C8 wr A4 x by
            have h := HR.out.C.2.2
            rw [← HLM.out, upT_all, inc_dec HXB.out] at h
            exact h)
          have HS7 := Aside0.mk (HS2.out.below HB.out)
          have HC7 := Aside0.mk (Kd.C_below HC3.out HB.out)
          go_wp2_with (first | (go_at_call 19; (with_reducible refine (ask_same HRB.out HC.out).mono ?_); rintro e w8 ⟨rfl, rfl⟩) | (go_at_call 14; (with_reducible refine (ask_bytes HS7.out HBB.out).mono ?_); rintro e w9 ⟨A9, c9, rfl, hc9, hb9⟩; have HC9 := Aside0.mk hc9; have HS9 := Aside0.mk (HS7.out.below hb9); have HD9 := Aside0.mk (Kd.C_below HC7.out hb9); clear hc9 hb9) | (go_at_call 19; (with_reducible refine (ask_same HC9.out HD9.out).mono ?_); rintro e w8 ⟨rfl, rfl⟩) | (go_at_call 15; (with_reducible refine (ask_str HS9.out HKS.out).mono ?_); rintro e w3 ⟨rfl, rfl⟩) | (go_at_call 16; (with_reducible refine (ask_held HS9.out HKH.out).mono ?_); rintro e w3 ⟨rfl, rfl⟩) | (go_at_call 7; (with_reducible refine (known_calls HS9.out.glob).mono ?_); rintro e w99 ⟨rfl, hb99⟩; have HB99 := Aside0.mk (below_trans HS9.out.b hb99); clear hb99))
          go_ret
          exact ⟨rfl, HB99.out⟩
end Go.Proofs.YtmblnflfklmmkaaGreatDoor.Sh
/- The laws' arguments, opened: bytes, choices, operations. -/
namespace Go.Proofs.YtmblnflfklmmkaaGreatDoor.Dk
open Go.RowKit Go.Proofs.YtmblnflfklmmkaaGreatDoorW.PrintWords Go.Proofs.YtmblnflfklmmkaaGreatDoorW.PrintLast Go.Proofs.YtmblnflfklmmkaaGreatDoorW.PrintMore
open Go.ChangeShapes Go.WideShapes
set_option linter.unusedVariables false
set_option linter.unusedSimpArgs false
set_option maxRecDepth 30000
variable {H : Type} {enc : TypeId × Value → H} {W : World}
theorem bytes5 : Tryz.prog.bytesOf 5 = 1 := by kernel_rfl
theorem bytes4 : Tryz.prog.bytesOf 4 = 1 := by kernel_rfl
theorem bytes37 : Tryz.prog.bytesOf 37 = 72 := by kernel_rfl
theorem cells37 : Tryz.prog.cellsOf 37 = 5 := by kernel_rfl
theorem open_ch {fuel : Nat} {cs : List Value} {x : DataW H × List MemPlace} (h : DataW.trod enc Tryz.prog W 0 (fun _ => true) true fuel 35 cs = some x) (hw : ∀ n ∈ x.1.weights Tryz.prog 35, n ≤ reachBytes) :
    ∃ a c zs, cs = [.slice a zs.length c] ∧ zs.length ≤ c ∧ Kd.C Kd.bool W a zs.length zs ∧ zs.length ≤ 140737488351232 := by
  rcases Go.Deep.open_bools Tryz.underlying35 Tryz.underlying4 (by kernel_rfl) h with ⟨rfl, _⟩ | ⟨a, len, cap, Bf, rfl, _, hl, hm, rfl, hc⟩
  · exact ⟨none, 0, [], rfl, Nat.le_refl _, Kd.C_nil _ _, by decide⟩
  · have hlt : ((List.range len).map Bf).length = len := by simp
    have hb : len ≤ 140737488351232 := by
      have h1 := hw ((len + (cap - len)) * Tryz.prog.bytesOf 4) (by simp [Go.Deep.boolRow, DataW.weights, Tryz.underlying35])
      rw [bytes4] at h1
      have : reachBytes = 140737488351232 := rfl
      omega
    have hmx : maxLen = 9223372036854775807 := by decide
    refine ⟨some a, cap, (List.range len).map Bf, by rw [hlt], by omega, ⟨rfl, by omega, fun _ => ⟨a, rfl, fun j p hj => ?_⟩⟩, by omega⟩
    obtain ⟨hj1, rfl⟩ := List.getElem?_eq_some_iff.1 hj
    rw [hlt] at hj1
    refine ⟨[.bool (Bf j)], rfl, by simp [Kd.bool, Kd.scalar], fun i u hu => ?_⟩
    cases i with
    | zero =>
      simp only [List.getElem?_cons_zero, Option.some.injEq] at hu
      subst hu
      have := hc j (by omega)
      simpa [Kd.bool, Kd.scalar] using this
    | succ i => simp at hu
theorem wf_i64 {n : Int} (h : (Lit.int .i64 n).wf = true) : -9223372036854775808 ≤ n ∧ n ≤ 9223372036854775807 := by
  have e1 : IntKind.i64.min = -9223372036854775808 := by decide
  have e2 : IntKind.i64.max = 9223372036854775807 := by decide
  simp [Lit.wf] at h
  omega
theorem weightsAll_mem {P : Program} {e : TypeId} : ∀ {l : List (DataW H)} {d : DataW H}, d ∈ l → ∀ n ∈ d.weights P e, n ∈ DataW.weightsAll P e l
  | [], _, h, _, _ => by cases h
  | d0 :: l, d, h, n, hn => by
    simp only [DataW.weightsAll, List.mem_append]
    rcases List.mem_cons.1 h with rfl | h
    · exact .inl hn
    · exact .inr (weightsAll_mem h n hn)
end Go.Proofs.YtmblnflfklmmkaaGreatDoor.Dk
/- A law's bytes, opened, with their range. -/
namespace Go.Proofs.YtmblnflfklmmkaaGreatDoor.Dk
open Go.RowKit Go.Proofs.YtmblnflfklmmkaaGreatDoorW.PrintWords Go.Proofs.YtmblnflfklmmkaaGreatDoorW.PrintLast Go.Proofs.YtmblnflfklmmkaaGreatDoorW.PrintMore
open Go.ChangeShapes Go.WideShapes
set_option linter.unusedVariables false
set_option linter.unusedSimpArgs false
set_option maxRecDepth 30000
variable {H : Type} {enc : TypeId × Value → H} {W : World}
theorem wf_u8 {n : Int} (h : (Lit.int .u8 n).wf = true) : 0 ≤ n ∧ n ≤ 255 := by
  have e1 : IntKind.u8.min = 0 := by decide
  have e2 : IntKind.u8.max = 255 := by decide
  simp [Lit.wf] at h
  omega
theorem open_byB {fuel : Nat} {cs : List Value} {x : DataW H × List MemPlace} (h : DataW.trod enc Tryz.prog W 0 (fun _ => true) true fuel 22 cs = some x) (hw : ∀ n ∈ x.1.weights Tryz.prog 22, n ≤ reachBytes) :
    ∃ a c zs, cs = [.slice a zs.length c] ∧ zs.length ≤ c ∧ Kd.C (Kd.int .u8) W a zs.length zs ∧ zs.length ≤ 140737488351232 ∧ ∀ z ∈ zs, 0 ≤ z ∧ z ≤ 255 := by
  rcases open_ints Tryz.underlying22 Tryz.underlying5 (by kernel_rfl) h with ⟨rfl, _⟩ | ⟨a, len, cap, zs, rfl, _, hl, hm, hz, rfl, hc, hwf⟩
  · exact ⟨none, 0, [], rfl, Nat.le_refl _, Kd.C_nil _ _, by decide, fun z hz => by cases hz⟩
  · simp only [if_true] at hz
    have hlt : (zs.take len).length = len := by rw [List.length_take]; omega
    have hb : len ≤ 140737488351232 := by
      have h1 := hw (((lits (H := H) .u8 (zs.take len)).length + (lits (H := H) .u8 (zs.drop len)).length) * Tryz.prog.bytesOf 5) (by simp [DataW.weights, Tryz.underlying22])
      have h2 : (lits (H := H) .u8 (zs.take len)).length = len := by simp [lits]; omega
      rw [h2, bytes5] at h1
      have : reachBytes = 140737488351232 := rfl
      omega
    refine ⟨some a, cap, zs.take len, by rw [hlt], by omega, ⟨rfl, by omega, fun _ => ⟨a, rfl, fun j p hj => ?_⟩⟩, by omega, fun z hz => wf_u8 (hwf z (List.mem_of_mem_take hz))⟩
    rw [List.getElem?_take] at hj
    split at hj
    · obtain ⟨hj1, rfl⟩ := List.getElem?_eq_some_iff.1 hj
      refine ⟨[.int .u8 zs[j]], rfl, rfl, fun i u hu => ?_⟩
      cases i with
      | zero =>
        simp only [List.getElem?_cons_zero, Option.some.injEq] at hu
        subst hu
        have := hc j hj1
        rw [List.getD_eq_getElem?_getD, hj] at this
        simpa [Kd.int, Kd.scalar] using this
      | succ i => simp at hu
    · cases hj
end Go.Proofs.YtmblnflfklmmkaaGreatDoor.Dk
/- A law's operations, opened, with the range of their bytes. -/
namespace Go.Proofs.YtmblnflfklmmkaaGreatDoor.Dk
open Go.RowKit Go.Proofs.YtmblnflfklmmkaaGreatDoorW.PrintWords Go.Proofs.YtmblnflfklmmkaaGreatDoorW.PrintLast Go.Proofs.YtmblnflfklmmkaaGreatDoorW.PrintMore
open Go.ChangeShapes Go.WideShapes
set_option linter.unusedVariables false
set_option linter.unusedSimpArgs false
set_option maxRecDepth 30000
variable {H : Type} {enc : TypeId × Value → H} {W : World}
theorem open_opB {fuel : Nat} {cs : List Value} {x : DataW H × List MemPlace} (h : DataW.trod enc Tryz.prog W 0 (fun _ => true) true fuel 37 cs = some x) (hw : ∀ n ∈ x.1.weights Tryz.prog 37, n ≤ reachBytes) : ∃ o, OpIs W o cs ∧ ∀ z ∈ o.b, 0 ≤ z ∧ z ≤ 255 := by
  obtain ⟨xs, n, rfl, rfl, hl, hxl, hf⟩ := DataW.trod_struct Tryz.underlying37 h
  rw [cells37] at hl
  match cs, hl, xs, hxl with
  | [v0, v1, v2, v3, v4], _, [y0, y1, y2, y3, y4], _ =>
    have g0 := hf 0 _ rfl
    have g1 := hf 1 _ rfl
    have g2 := hf 2 _ rfl
    have g3 := hf 3 _ rfl
    have g4 := hf 4 _ rfl
    have c3 : Tryz.prog.cellsOf 3 = 1 := by kernel_rfl
    have c22 : Tryz.prog.cellsOf 22 = 1 := by kernel_rfl
    have c24 : Tryz.prog.cellsOf 35 = 1 := by kernel_rfl
    simp [c3, c22, c24] at g0 g1 g2 g3 g4
    obtain ⟨n0, e0, _, w0⟩ := DataW.trod_int Tryz.underlying3 g0
    obtain ⟨n1, e1, _, w1⟩ := DataW.trod_int Tryz.underlying3 g1
    obtain ⟨n2, e2, _, w2⟩ := DataW.trod_int Tryz.underlying3 g2
    have hw' : ∀ n ∈ DataW.weightsEach Tryz.prog [3, 3, 3, 22, 35] [y0.1, y1.1, y2.1, y3.1, y4.1], n ≤ reachBytes := fun n hn => hw n (by simpa [DataW.weights, Tryz.underlying37] using hn)
    obtain ⟨a3, k3, z3, e3, l3, C3, b3, B3⟩ := open_byB g3 (fun n hn => hw' n (by simp [DataW.weightsEach, hn]))
    obtain ⟨a4, k4, z4, e4, l4, C4, b4⟩ := open_ch g4 (fun n hn => hw' n (by simp [DataW.weightsEach, hn]))
    injection e0 with e0; injection e1 with e1; injection e2 with e2; injection e3 with e3; injection e4 with e4
    subst e0; subst e1; subst e2; subst e3; subst e4
    obtain ⟨p1, p2⟩ := wf_i64 w1
    obtain ⟨q1, q2⟩ := wf_i64 w2
    exact ⟨⟨n0, n1, n2, z3, z4⟩, ⟨a3, k3, a4, k4, rfl, l3, l4, C3, C4, b3, b4, p1, p2, q1, q2⟩, B3⟩
theorem open_opsB {a : Option Addr} {len cap : Nat} {d : DataW H} {p : List MemPlace} (h : DataW.Trod enc Tryz.prog W 0 (fun _ => true) true 23 (.slice a len cap) d p) (hw : ∀ n ∈ d.weights Tryz.prog 23, n ≤ reachBytes) :
    ∃ l : List OpM, len = l.length ∧ Ops W a l ∧ l.length ≤ 140737488351232 ∧ ∀ o ∈ l, ∀ z ∈ o.b, 0 ≤ z ∧ z ≤ 255 := by
  obtain ⟨fuel, hf⟩ := h
  rcases Go.Deep.open_slice Tryz.underlying23 hf with ⟨hcs, _⟩ | ⟨a', len', cap', m, n, Df, Pl, hcs, _, hl, hm, hmm, hx, hi⟩
  · simp [Value.cells] at hcs
    obtain ⟨rfl, rfl, rfl⟩ := hcs
    exact ⟨[], rfl, ⟨rfl, by decide, fun h => absurd h (by decide)⟩, by decide, fun o ho => by cases ho⟩
  · simp [Value.cells] at hcs
    obtain ⟨rfl, rfl, rfl⟩ := hcs
    simp only [if_true] at hmm
    injection hx with hx _
    subst hx
    have hb : len ≤ 140737488351232 := by
      have h1 := hw ((((List.range len).map Df).length + ((List.range (m - len)).map fun j => Df (len + j)).length) * Tryz.prog.bytesOf 37) (by simp [DataW.weights, Tryz.underlying23])
      rw [bytes37] at h1
      simp only [List.length_map, List.length_range] at h1
      have : reachBytes = 140737488351232 := rfl
      omega
    have each : ∀ i, ∃ o : OpM, i < len → ∃ cs', (OpIs W o cs' ∧ ∀ z ∈ o.b, 0 ≤ z ∧ z ≤ 255) ∧ cs'.length = 5 ∧ ∀ j u, cs'[j]? = some u → W.cell? (a'.add (i * 5 + j)) = some u := by
      intro i
      by_cases hlt : i < len
      · obtain ⟨cs', h1, h2⟩ := hi i (by omega)
        rw [cells37] at h1
        obtain ⟨_, hcl, hcell⟩ := World.cells?_some h1
        obtain ⟨o, ho⟩ := open_opB h2 (fun n hn => hw n (by
          simp only [DataW.weights, Tryz.underlying23, List.mem_cons, List.mem_append]
          exact .inr (.inl (weightsAll_mem (List.mem_map.2 ⟨i, List.mem_range.2 hlt, rfl⟩) n hn))))
        refine ⟨o, fun _ => ⟨cs', ho, hcl, fun j u hj => ?_⟩⟩
        have hj5 : j < 5 := by
          have := (List.getElem?_eq_some_iff.1 hj).1
          omega
        rw [← Addr.add_add, hcell j hj5, hj]
      · exact ⟨⟨0, 0, 0, [], []⟩, fun h => absurd h hlt⟩
    refine ⟨(List.range len).map (fun i => Classical.choose (each i)), by simp, ⟨rfl, by simp; omega, fun _ => ⟨a', rfl, fun j o hj => ?_⟩⟩, by simpa using hb, fun o ho => ?_⟩
    rotate_left
    · obtain ⟨i, hi, rfl⟩ := List.mem_map.1 ho
      obtain ⟨cs', h1, _⟩ := Classical.choose_spec (each i) (List.mem_range.1 hi)
      exact h1.2
    obtain ⟨hj1, rfl⟩ := List.getElem?_eq_some_iff.1 hj
    simp only [List.length_map, List.length_range] at hj1
    obtain ⟨cs', h1, h2, h3⟩ := Classical.choose_spec (each j) hj1
    exact ⟨cs', h2, by simpa using h1.1, h3⟩
end Go.Proofs.YtmblnflfklmmkaaGreatDoor.Dk
/- The law StoreAsks holds: called with any arguments that can be read, it returns true and leaves them as they were: the card, tied to the program's text. There is no further condition. -/
namespace Go.Proofs.YtmblnflfklmmkaaGreatDoor.storeAsks
open Go.ChangeShapes Go.WideShapes Go.ChangeAt Go.RowKit
open Go.ChangeMaps (open_string shut_string)
set_option linter.unusedVariables false
theorem own : ownKnob Tryz.prog.godebug = none := by kernel_rfl
theorem laidOut : laidOutB Tryz.prog = true := by kernel_rfl
set_option maxHeartbeats 8000000 in
set_option maxRecDepth 100000 in
theorem lifted (os : Os) (started : os.Started) (H : Type) (enc : TypeId × Value → H) :
    ReturnsInHanded {} Tryz.checked os 4 .any (fun w args => (Rows.storeAsksSpec.pre enc Tryz.prog Tryz.f4 [] false w args ∧ laidMetH Tryz.prog Sh.laidTabs w) ∧ sizedMet enc Tryz.prog Tryz.f4 (OpenSpec.ofChange Rows.storeAsksSpec) false w args) (Rows.storeAsksSpec.post enc Tryz.prog Tryz.f4 false true false false) := by
  refine returnsInHanded_of_change_and (C := Tryz.checked) (X := fun w _ => laidMetH Tryz.prog Sh.laidTabs w) (fun _ _ _ hh h => h.of_heap hh) own started (by kernel_rfl) Tryz.func4
    (ChangeSpec.witness_shaped (enc := enc) (C := Tryz.checked) (os := os) (X := fun w _ => laidMetH Tryz.prog Sh.laidTabs w) false (World.doorLaid Tryz.prog 400 os) #[.slice none 0 0, .int .i64 0, .int .i64 0, .int .i64 0, .slice none 0 0] 8 rfl (World.shaped_of_RefB (by kernel_rfl) (by kernel_rfl)) (by kernel_rfl) (by kernel_rfl) (by kernel_rfl) (Sh.door_met os _)) ?_
  intro W base args ds gs before hval0 hW hcnd hsz0 hL _
  have hG := Sh.of_laid hL
  have hsz : (DataW.weightsEach Tryz.prog (Tryz.f4.params.toList ++ Rows.storeAsksSpec.plain.varTypes Tryz.prog) (ds ++ gs)).all (· ≤ reachBytes) = true := hsz0
  have hval : ∀ (j : Nat) t v, Tryz.f4.params[j]? = some t → args[j]? = some v → Value.okWide Tryz.prog W .any base t v := hval0
  have hW' := hW
  obtain ⟨p, q, hA0, hV, rfl, hfz, hnd⟩ := hW
  have hA : DataW.TrodAll enc Tryz.prog W 0 (fun _ => true) true Tryz.f4.params.toList args.toList ds p := hA0
  rw [Tryz.params4] at hA hval hsz
  obtain ⟨v0, vs0, d0, ds0, p0, q0, hargs, rfl, rfl, h0, r0⟩ := trodAll_cons hA
  obtain ⟨v1, vs1, d1, ds1, p1, q1, rfl, rfl, rfl, h1, r1⟩ := trodAll_cons r0
  obtain ⟨v2, vs2, d2, ds2, p2, q2, rfl, rfl, rfl, h2, r2⟩ := trodAll_cons r1
  obtain ⟨v3, vs3, d3, ds3, p3, q3, rfl, rfl, rfl, h3, r3⟩ := trodAll_cons r2
  obtain ⟨v4, vs4, d4, ds4, p4, q4, rfl, rfl, rfl, h4, r4⟩ := trodAll_cons r3
  obtain ⟨rfl, rfl, rfl⟩ := trodAll_nil r4
  obtain rfl : args = #[v0, v1, v2, v3, v4] := by cases args; simp_all
  obtain ⟨rfl, rfl⟩ := trodVars_none hV
  obtain ⟨a0, len0, cap0, rfl⟩ := okWide_slice Tryz.underlying22 (hval 0 22 v0 rfl rfl)
  have k0 := h0
  have lt0 : ∀ x ∈ p0, x.block < W.heap.size := by obtain ⟨m, hm⟩ := k0; exact DataW.trod_lt m _ _ _ hm
  obtain ⟨fu0, hf0⟩ := h0
  obtain ⟨b0, c0, z0, hcs0, hl0, hC0, hb0, hB0⟩ := Dk.open_byB hf0 (fun n hn => by simpa using List.all_eq_true.1 hsz _ (DataW.weights_mem_each (j := 0) (t := 22) rfl rfl n hn))
  simp [Value.cells] at hcs0
  obtain ⟨rfl, rfl, rfl⟩ := hcs0
  obtain ⟨a1, rfl, rfl, rfl, w1⟩ := open_int Tryz.underlying3 (hval 1 3 v1 rfl rfl) h1
  obtain ⟨a2, rfl, rfl, rfl, w2⟩ := open_int Tryz.underlying3 (hval 2 3 v2 rfl rfl) h2
  obtain ⟨a3, rfl, rfl, rfl, w3⟩ := open_int Tryz.underlying3 (hval 3 3 v3 rfl rfl) h3
  obtain ⟨a4, len4, cap4, rfl⟩ := okWide_slice Tryz.underlying23 (hval 4 23 v4 rfl rfl)
  have k4 := h4
  have lt4 : ∀ x ∈ p4, x.block < W.heap.size := by obtain ⟨m, hm⟩ := k4; exact DataW.trod_lt m _ _ _ hm
  obtain ⟨z4, rfl, hO4, hb4, hOB4⟩ := Dk.open_opsB h4 (fun n hn => by simpa using List.all_eq_true.1 hsz _ (DataW.weights_mem_each (j := 4) (t := 23) rfl rfl n hn))
  clear hA0 hval0 hsz0 hsz
  refine (Sh.StoreAsks_calls hG a0 cap0 z0 a1 a2 a3 a4 cap4 z4 hb0 hl0 hC0 hO4 hb4 hB0 hOB4).mono fun e W' ⟨he, bel⟩ => ?_
  subst he
  exact ⟨_, rfl, _, _, _, [], _, [], hW', trodAll_mk1 (shut_bool Tryz.underlying4 _), (trodAll_cons_mk (Below.trod laidOut (by kernel_rfl) (of_decide_eq_true (by kernel_rfl)) k0 bel lt0) (trodAll_cons_mk (shut_int Tryz.underlying3 w1) (trodAll_cons_mk (shut_int Tryz.underlying3 w2) (trodAll_cons_mk (shut_int Tryz.underlying3 w3) (trodAll_cons_mk (Below.trod laidOut (by kernel_rfl) (of_decide_eq_true (by kernel_rfl)) k4 bel lt4) trodAll_mk0))))), rfl, bel.frame _, fun h => by cases h⟩
theorem over : Rows.storeAsksRow.holds Tryz.pinned (OpenSpec.ofChange Rows.storeAsksSpec) :=
  OpenClaim.holds_of_wide 4 Tryz.f4 rfl rfl rfl rfl rfl rfl rfl ⟨rfl, rfl, rfl, rfl, rfl⟩ rfl rfl rfl rfl rfl (by kernel_rfl) Tryz.func4 (by kernel_rfl)
    (of_decide_eq_true (by kernel_rfl)) (by unfold Func.isWrapper; first | (rw [if_pos (by decide +kernel)]; kernel_rfl) | (rw [if_neg (by decide +kernel)]; exact ⟨rfl, rfl⟩))
    (fun os started H enc _ => lifted os started H enc)
theorem proved : Rows.StoreAsksSaid := over
theorem card : Rows.StoreAsksCardSaid :=
  Claim7.holds_tied_plain_at .later [] [.data, .data] true (true, "38829f24f7c41a7a1fa4dcf99df71839266e80ad6b31fa865b82f39ddabc8f36") false
    proved (fun _ h => by cases h) (by kernel_rfl) (fun _ h => by cases h) storeAsks_row_tie rfl ⟨rfl, rfl⟩ (by kernel_rfl) rfl
    (fun f fn hf hfn => by
      obtain rfl : f = 4 := Option.some.inj ((show Tryz.prog.funcNamed "imprimatur/imprimaturlaw08.StoreAsks" = some 4 by kernel_rfl).symm.trans hf) |>.symm
      obtain rfl : fn = Tryz.f4 := (Option.some.inj (Tryz.func4.symm.trans hfn)).symm
      exact ⟨by kernel_rfl, fun j t ht => by
        rw [Tryz.params4] at ht
        have hm : t ∈ [22, 3, 3, 3, 23] := by simpa using Array.mem_of_getElem? ht
        have hall : ([22, 3, 3, 3, 23].all fun u => !Tryz.prog.wantsStandIn u) = true := by kernel_rfl
        exact (show Tryz.prog.wantsStandIn t = false by simpa using List.all_eq_true.1 hall t hm)⟩)
    (by kernel_rfl)
#print axioms card
end Go.Proofs.YtmblnflfklmmkaaGreatDoor.storeAsks
namespace Go.Proofs.YtmblnflfklmmkaaGreatDoor
/-- The statement, under a short name, for the claim. -/
theorem storeAsks_holds : Rows.StoreAsksCardSaid := storeAsks.card
end Go.Proofs.YtmblnflfklmmkaaGreatDoor
