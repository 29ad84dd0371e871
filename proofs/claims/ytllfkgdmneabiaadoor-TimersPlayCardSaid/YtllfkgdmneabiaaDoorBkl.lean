/- The book of lists of ints: all are as they were marked. -/
import Derived.Test.YtllfkgdmneabiaaDoorBkg
import Derived.Deep.QuietTactic
set_option linter.unusedVariables false
set_option linter.unusedSimpArgs false
namespace Go.Proofs.YtllfkgdmneabiaaDoor
open Go.RowKit Go.Shelf
attribute [local go_sem] Oper.semAt_some

theorem gp_long {w0 w : World} {h : Hl} {al : Option Addr} {m c : Nat} {r : List Thing} (H : Hp w0 w (Gp h (.slice al m c) m :: r)) (k : Nat) (hk : k < m) : ∃ g, al = some ⟨g, 0, none⟩ ∧ w.cell? ⟨g, k, none⟩ = some (.int .i64 (mk h.q)) := by
  have ho := gp_own H
  rcases ho.2 with ⟨e, e2⟩ | ⟨g, cap, cur, e, _⟩
  · omega
  · obtain ⟨e1, -, -⟩ := Value.slice.inj e
    subst e1
    refine ⟨g, rfl, ?_⟩
    have := ho.cells (g := g) rfl k (.int .i64 (mk h.q)) (by rw [List.getElem?_map, List.getElem?_replicate, if_pos hk]; rfl)
    rwa [show (⟨g, 0, none⟩ : Addr).add k = ⟨g, 0 + k, none⟩ from Addr.add_lit g 0 k, Nat.zero_add] at this
theorem gp_short {w0 w : World} {h : Hl} {long : Value} {ah : Option Addr} {m c : Nat} {r : List Thing} (H : Hp w0 w (Gp h long m :: r)) (hv : h.v = .slice ah h.n c) (k : Nat) (hk : k < h.n) : ∃ g, ah = some ⟨g, 0, none⟩ ∧ w.cell? ⟨g, k, none⟩ = some (.int .i64 (mk h.q)) := by
  rcases gp_cells H with ⟨_, e⟩ | ⟨g, c', e, h2⟩
  · omega
  · rw [hv] at e
    obtain ⟨e1, -, -⟩ := Value.slice.inj e
    exact ⟨g, e1, h2 k hk⟩

set_option maxHeartbeats 4000000 in
set_option maxRecDepth 20000 in
theorem look_c {w0 w : World} {r : List Thing} {kb : Nat} {n : Int} {vb : Value} {ys : List Hr} (H : Hp w0 w (Bkt kb n vb :: Rows_ vb ys :: (ys.map Gx ++ r))) (hq : ∀ x ∈ ys, (0 ≤ x.l.q ∧ x.l.q ≤ 100000) ∧ x.l.n < 100000) (hl : ys.length < 100000) :
    Calls Tryd.prog 45 #[.pointer (some ⟨kb, 0, none⟩)] w fun e w' => e = .returned (.bool true) ∧ Hp w0 w' (Bkt kb n vb :: Rows_ vb ys :: (ys.map Gx ++ r)) := by
  have HQ := Lib.hid hq
  clear hq
  obtain ⟨a, c, rfl⟩ := own_slice H.tail
  have HH := Lib.hid H
  clear H
  go_enter Tryd.func45, Tryd.ntmps45
  go_upto_region 2 with fail
  go_loopw [3] (fun i wr => ∃ A B : List Hr, Hid (ys = A ++ B) ∧ i = .int .i64 A.length ∧ Hid (Hp w0 wr (Bkt kb n (.slice a ys.length c) :: Rows_ (.slice a ys.length c) ys :: (ys.map Gx ++ r)))) (fun i _ => ys.length - (intOf i).toNat)
  case atStart => exact ⟨[], ys, Lib.hid rfl, rfl, HH⟩
  case round =>
    obtain ⟨A, B, hx, rfl, hH⟩ := hrel
    obtain ⟨hk, hf⟩ := bk_cells hH.out
    have h3 : wr.cell? ⟨kb, 3, none⟩ = some (.slice a ys.length c) := hk 3
    clear hk hf
    cases B with
    | nil =>
      have e2 : A.length = ys.length := by have := congrArg List.length hx.out; simpa using this.symm
      have c1 : ¬ (A.length : Int) < (ys.length : Int) := by omega
      clear e2
      go_wp2
      go_ret
      exact ⟨rfl, hH.out⟩
    | cons x B =>
      have hlen : ys.length = A.length + (B.length + 1) := by rw [hx.out]; simp
      have c1 : (A.length : Int) < (ys.length : Int) := by omega
      have H2 : Hp w0 wr (Gx x :: Bkt kb n (.slice a ys.length c) :: Rows_ (.slice a ys.length c) ys :: (A.map Gx ++ B.map Gx ++ r)) := by
        have h1 := hH.out
        have e : ys.map Gx = A.map Gx ++ Gx x :: B.map Gx := by rw [hx.out]; simp
        rw [e] at h1
        exact h1.perm perm_in
      obtain ⟨al, cl, hlv⟩ := gp_slice H2
      obtain ⟨ah, ch, hv⟩ := gp_hv H2
      have hcs : ∀ o, o < 3 → (hc ys)[A.length * 3 + o]? = (hrc x)[o]? := fun o ho => by
        rw [hx.out]; exact hc_at _ _ _ _ rfl o ho
      obtain ⟨g, cap, e1, k0⟩ := own_cell H2.tail.tail _ _ (hcs 0 (by omega))
      obtain ⟨g', cap', e2, k1⟩ := own_cell H2.tail.tail _ _ (hcs 1 (by omega))
      obtain ⟨rfl, -, rfl⟩ := Value.slice.inj e1
      obtain ⟨e2, -, -⟩ := Value.slice.inj e2
      cases e2
      obtain ⟨g', cap', e2, k2⟩ := own_cell H2.tail.tail _ _ (hcs 2 (by omega))
      obtain ⟨e2, -, -⟩ := Value.slice.inj e2
      cases e2
      clear hcs e1
      rw [hv] at k0
      rw [hlv] at k1
      have hqn := HQ.out x (by rw [hx.out]; simp)
      have HQN := Lib.hid hqn
      have HX := Lib.hid hx.out
      have hn1 := hqn.2
      simp only [Nat.add_zero] at k0
      have hlt0 : (0 : Int) ≤ (A.length : Int) := Int.natCast_nonneg _
      have HH2 : Hid (Hp w0 wr (Gp x.l (.slice al (x.l.n + 40) cl) (x.l.n + 40) :: Bkt kb n (.slice (some ⟨g, 0, none⟩) ys.length c) :: Rows_ (.slice (some ⟨g, 0, none⟩) ys.length c) ys :: (A.map Gx ++ B.map Gx ++ r))) := Lib.hid (by have h1 := H2; unfold Gx at h1; rw [hlv] at h1; exact h1)
      have HV := Lib.hid hv
      have HLV := Lib.hid hlv
      have hw4 : IntKind.i64.wrap ((x.l.n : Int) + 40) = ((x.l.n + 40 : Nat) : Int) := by rw [IntKind.wrap_i64]; omega
      clear H2 hx hH hlen hqn hv hlv
      obtain ⟨m, hm⟩ : ∃ m, m = x.l.n + 40 := ⟨_, rfl⟩
      rw [← hm] at hw4 k1 HH2
      have HM := Lib.hid hm
      clear hm
      go_upto_region 8 with fail
      have H3 := Lib.hid (blk_new HH2.out (.cells #[.slice ah x.l.n ch, .slice al m cl, .int .i64 x.l.q] 76))
      clear k0 k1 k2 h3 HH2 c1 hlt0 hw4
      generalize (wr.alloc (.cells #[.slice ah x.l.n ch, .slice al m cl, .int .i64 x.l.q] 76)) = w2 at *
      generalize wr.heap.size = hb at *
      go_loopw [5] (fun j wx => ∃ k : Nat, k ≤ m ∧ j = .int .i64 k ∧ Hid (Hp w0 wx (Blk hb (.cells #[.slice ah x.l.n ch, .slice al m cl, .int .i64 x.l.q] 76 (0, 0)) :: Gp x.l (.slice al m cl) m :: Bkt kb n (.slice (some ⟨g, 0, none⟩) ys.length c) :: Rows_ (.slice (some ⟨g, 0, none⟩) ys.length c) ys :: (A.map Gx ++ B.map Gx ++ r)))) (fun j _ => m - (intOf j).toNat)
      case atStart => exact ⟨0, Nat.zero_le _, rfl, H3⟩
      case round =>
        obtain ⟨k, hk, rfl, hH⟩ := hrel
        have b0 : wr.cell? ⟨hb, 0, none⟩ = some (.slice ah x.l.n ch) := cell_blk (blk_get hH.out) 0
        have b1 : wr.cell? ⟨hb, 1, none⟩ = some (.slice al m cl) := cell_blk (blk_get hH.out) 1
        have b2 : wr.cell? ⟨hb, 2, none⟩ = some (.int .i64 x.l.q) := cell_blk (blk_get hH.out) 2
        by_cases hlt : k < m
        · have c1 : (k : Int) < (m : Int) := by omega
          have hk0 : (0 : Int) ≤ (k : Int) := Int.natCast_nonneg _
          have hwz : IntKind.i64.wrap ((k : Int) + 1) = (k : Int) + 1 := by rw [IntKind.wrap_i64]; have := HM.out; omega
          have MC := Lib.hid (fun w => (ismark_c w x.l.q HQN.out.1).mono fun _ _ h => (⟨h.1, h.2.symm⟩ : _ ∧ _))
          obtain ⟨gl, rfl, kl⟩ := gp_long hH.out.up1 k hlt
          by_cases hs : k < x.l.n
          · obtain ⟨gs, rfl, ks⟩ := gp_short hH.out.up1 HV.out k hs
            have c2 : decide ((k : Int) < (x.l.n : Int)) = true := by simpa using hs
            have c3 : (k : Int) < (x.l.n : Int) := by omega
            generalize mk x.l.q = mq at *
            go_wp2
            go_quiet ((go_at_call 66; exact Calls.quiet_of_same (MC.out _)))
            go_wp2
            go_roundw
            case rel => exact ⟨k + 1, by omega, by go_num, Lib.hid (hH.out.drewN _)⟩
            case measure => simp [intOf]; omega
          · have c2 : decide ((k : Int) < (x.l.n : Int)) = false := by simpa using hs
            generalize mk x.l.q = mq at *
            go_wp2
            go_quiet ((go_at_call 66; exact Calls.quiet_of_same (MC.out _)))
            go_wp2
            go_roundw
            case rel => exact ⟨k + 1, by omega, by go_num, Lib.hid (hH.out.drewN _)⟩
            case measure => simp [intOf]; omega
        · have hke : k = m := by omega
          subst hke
          have hlen : ys.length = A.length + (B.length + 1) := by rw [HX.out]; simp
          have hwz : IntKind.i64.wrap ((A.length : Int) + 1) = (A.length : Int) + 1 := by rw [IntKind.wrap_i64]; omega
          have HE : Hid (Hp w0 wr (Bkt kb n (.slice (some ⟨g, 0, none⟩) ys.length c) :: Rows_ (.slice (some ⟨g, 0, none⟩) ys.length c) ys :: (ys.map Gx ++ r))) := Lib.hid (by
            have h1 : Hp w0 wr (Gx x :: Bkt kb n (.slice (some ⟨g, 0, none⟩) ys.length c) :: Rows_ (.slice (some ⟨g, 0, none⟩) ys.length c) ys :: (A.map Gx ++ B.map Gx ++ r)) := by
              unfold Gx; rw [HLV.out, ← HM.out]; exact hH.out.tail
            have e : ys.map Gx = A.map Gx ++ Gx x :: B.map Gx := by rw [HX.out]; simp
            rw [e]
            exact h1.perm perm_in.symm)
          have c1 : ¬ (k : Int) < (k : Int) := by omega
          clear hlen hH b0 b2
          go_wp2
          go_roundw
          case rel => exact ⟨A ++ [x], B, Lib.hid (by rw [HX.out]; simp), by rw [List.length_append, List.length_singleton]; go_num, Lib.hid (by first | exact HE.out | exact HE.out.drew)⟩
          case measure => have := HX.out; simp [intOf]; have h2 := congrArg List.length this; simp at h2; omega
end Go.Proofs.YtllfkgdmneabiaaDoor
