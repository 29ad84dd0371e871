/- Instructions: Parse: the program's text. -/
import Derived.Test.YtcfoljdpffonhaaGreatDoorJd
set_option linter.unusedVariables false
set_option linter.unusedSimpArgs false
namespace Go.Proofs.YtcfoljdpffonhaaGreatDoor
open Go.RowKit Go.Joins Go.Shelf
attribute [local go_sem] Oper.semAt_some

theorem spl_len : ∀ (s : List UInt8), ∀ p ∈ spl s, p.length ≤ s.length
  | [], p, h => by simp [spl] at h; subst h; simp
  | c :: s, p, h => by
    obtain ⟨h', t', e'⟩ := spl_ne s
    have ih := spl_len s
    unfold spl at h
    split at h
    · simp at h
      rcases h with rfl | h
      · simp
      · have := ih p h; simp; omega
    · rw [e'] at h
      simp at h
      rcases h with rfl | h
      · have := ih h' (by simp [e']); simp; omega
      · have := ih p (by simp [e', h]); simp; omega
theorem splitB_spl (s : List UInt8) : (Lib.splitB ⟨#[32]⟩ 0 (Lib.countB ⟨s.toArray⟩ ⟨#[32]⟩) ⟨s.toArray⟩).map Value.string = (spl s).map strv := by
  have h := Lib.splitB_data ⟨#[32]⟩ 0 (Lib.countB ⟨s.toArray⟩ ⟨#[32]⟩) ⟨s.toArray⟩
  have h2 : Lib.splitK [32] 0 (Lib.countB ⟨s.toArray⟩ ⟨#[32]⟩) s = spl s := split_spl s
  have h3 : (Lib.splitB ⟨#[32]⟩ 0 (Lib.countB ⟨s.toArray⟩ ⟨#[32]⟩) ⟨s.toArray⟩).map (·.data.toList) = spl s := h.trans h2
  rw [← h3, List.map_map]
  refine List.map_congr_left (fun x _ => ?_)
  show Value.string x = strv x.data.toList
  rw [strv, ← ba_ext x]
theorem splits_c {w0 w : World} {r : List Thing} (L : Lf w0) (s : List UInt8) (hs : s.length < 4294967281) (H : Hp w0 w r) :
    Calls Tryz.prog 66 #[strv s, strv [32]] w fun e w' => ∃ B, e = .returned (.slice (some ⟨B, 0, none⟩) (spl s).length (spl s).length) ∧ Hp w0 w' (Blk B (.cells ((spl s).map strv).toArray 9 (0, 0)) :: r) := by
  obtain ⟨m, hm⟩ := (L.hp H).max
  refine (Tryz.strings_Split ⟨s.toArray⟩ ⟨#[32]⟩ m w hs hm (by decide)).mono ?_
  rintro e w' ⟨rfl, rfl⟩
  have hl : Lib.countB ⟨s.toArray⟩ ⟨#[32]⟩ + 1 = (spl s).length := by
    have h1 := Lib.splitB_all ⟨#[32]⟩ (by decide) 0 _ ⟨s.toArray⟩ rfl
    have h2 := congrArg List.length (splitB_spl s)
    simp only [List.length_map] at h2
    omega
  rw [hl, splitB_spl]
  exact ⟨w.heap.size, rfl, blk_new H _⟩
theorem index_forms64 (op : Nat) (h : op ≤ 22) (w : World) : (Instr.index 147 (.agg FORMS) (.int .i64 op)).run Tryz.prog w = .ok (.agg #[.string (wd op), .string (fd op)]) w := by
  exact match op, h with
  | 0, _ => by kernel_rfl
  | 1, _ => by kernel_rfl
  | 2, _ => by kernel_rfl
  | 3, _ => by kernel_rfl
  | 4, _ => by kernel_rfl
  | 5, _ => by kernel_rfl
  | 6, _ => by kernel_rfl
  | 7, _ => by kernel_rfl
  | 8, _ => by kernel_rfl
  | 9, _ => by kernel_rfl
  | 10, _ => by kernel_rfl
  | 11, _ => by kernel_rfl
  | 12, _ => by kernel_rfl
  | 13, _ => by kernel_rfl
  | 14, _ => by kernel_rfl
  | 15, _ => by kernel_rfl
  | 16, _ => by kernel_rfl
  | 17, _ => by kernel_rfl
  | 18, _ => by kernel_rfl
  | 19, _ => by kernel_rfl
  | 20, _ => by kernel_rfl
  | 21, _ => by kernel_rfl
  | 22, _ => by kernel_rfl
  | n + 23, h => absurd h (by omega)
def pvv : Option (Nat × List Int) → Value
  | some (o, bs) => rv o (some bs)
  | none => .agg zS
theorem find_lt {α : Type} (f : Nat → Option α) : ∀ (n k : Nat) (x : α), k < n → (∀ o, o < k → f o = none) → f k = some x → (List.range n).findSome? f = some x
  | 0, k, x, h, _, _ => by omega
  | n + 1, k, x, h, h1, h2 => by
    rw [List.range_succ, List.findSome?_append]
    by_cases hk : k < n
    · rw [find_lt f n k x hk h1 h2]; rfl
    · obtain rfl : k = n := by omega
      have : (List.range k).findSome? f = none := by rw [List.findSome?_eq_none_iff]; intro a ha; exact h1 a (by simpa using ha)
      rw [this]; simp [h2]
theorem prs_at {s : List UInt8} {k : Nat} {bs : List Int} (hk : k < 23) (h1 : ∀ o, o < k → pat (spl s) o = none) (h2 : pat (spl s) k = some bs) : prs s = some (k, bs) :=
  find_lt _ 23 k (k, bs) hk (fun o h => by rw [h1 o h]; rfl) (by rw [h2]; rfl)
theorem prs_none {s : List UInt8} (h1 : ∀ o, o < 23 → pat (spl s) o = none) : prs s = none := by
  unfold prs
  rw [List.findSome?_eq_none_iff]
  intro a ha
  rw [h1 a (by simpa using ha)]; rfl
set_option maxHeartbeats 4000000 in
set_option maxRecDepth 20000 in
theorem parse_c {w0 w : World} {r : List Thing} (L : Lf w0) (s : List UInt8) (hs : s.length < 4294967281) (H : Hp w0 w r) :
    Calls Tryz.prog 99 #[strv s] w fun e w' => e = .returned (.tuple #[pvv (prs s), .int .i64 (if (prs s).isSome then 0 else 14)]) ∧ Hp w0 w' r := by
  have H1 := Lib.hid (blk_new H (.cells zS 61))
  have CS := Lib.hid (splits_c L s hs H1.out)
  have hln : ∀ p ∈ spl s, p.length ≤ 281474976710656 := fun p hp => by have := spl_len s p hp; omega
  have HAt := Lib.hid (fun k bs => prs_at (s := s) (k := k) (bs := bs))
  have HNo := Lib.hid (prs_none (s := s))
  generalize her : (if (prs s).isSome then (0 : Int) else 14) = er
  have HER := Lib.hid her
  clear her
  obtain ⟨p0, pt, hsp⟩ := spl_ne s
  rw [hsp] at CS hln HAt HNo
  have HLN := Lib.hid (fun p hp => hln p (List.mem_cons_of_mem _ hp))
  clear H hsp hln hs
  go_enter Tryz.func99, Tryz.ntmps99
  go_wp2_with fail
  refine CS.out.mono ?_; rintro e w1 ⟨B, rfl, H2⟩
  have H2' := Lib.hid H2
  clear H1 CS H2
  go_wp2_with fail
  refine (forms_h H2'.out).mono ?_; rintro e w2 ⟨rfl, H3⟩
  have H3' := Lib.hid H3
  clear H2' H3
  go_wp2
  generalize w.heap.size = xb at *
  go_loopw [12] (fun s12 wr => ∃ k : Nat, k ≤ 23 ∧ s12 = .int .i64 k ∧ Hid (∀ o, o < k → pat (p0 :: pt) o = none) ∧ Hid (Hp w0 wr (Blk B (.cells ((p0 :: pt).map strv).toArray 9 (0, 0)) :: Blk xb (.cells zS 61 (0, 0)) :: r))) (fun s12 _ => 23 - (intOf s12).toNat)
  case atStart => exact ⟨0, by omega, rfl, Lib.hid (fun o h => by omega), H3'⟩
  case round =>
    obtain ⟨k, hk, rfl, hN, hH⟩ := hrel
    clear H3'
    by_cases hlt : k < 23
    · have c1 : (k : Int) < 23 := by omega
      have hix := index_forms64 k (by omega)
      have hwk : IntKind.i64.wrap ((k : Int) + 1) = (k : Int) + 1 := by rw [IntKind.wrap_i64]; omega
      have hw8 : IntKind.u8.wrap (k : Int) = k := wrapu8 rfl (by omega) (by omega)
      go_upto_region 5 with fail
      have H7 := Lib.hid (blk_new hH.out (.cells #[.string (wd k), .string (fd k)] 146))
      have f0 : (wr.alloc (.cells #[.string (wd k), .string (fd k)] 146)).cell? ⟨wr.heap.size, 0, none⟩ = some (.string (wd k)) := cell_blk (blk_get H7.out) 0
      have f1 : (wr.alloc (.cells #[.string (wd k), .string (fd k)] 146)).cell? ⟨wr.heap.size, 1, none⟩ = some (.string (fd k)) := cell_blk (blk_get H7.out) 1
      have f2 : (wr.alloc (.cells #[.string (wd k), .string (fd k)] 146)).cell? ⟨B, 0, none⟩ = some (strv p0) := cell_blk (blk_get (H7.out.pull 1 rfl)) 0
      clear hH hix
      generalize (wr.alloc (.cells #[.string (wd k), .string (fd k)] 146)) = w4 at *
      generalize wr.heap.size = fb at *
      have hfs : (fd k).size = (fl k).length := rfl
      have h3 := fl_len k
      have hw1 : wrap64 (1 + ((fl k).length : Int)) = 1 + ((fl k).length : Int) := by unfold wrap64; omega
      have HX : Hid (pat (p0 :: pt) k = none → ∀ o, o < k + 1 → pat (p0 :: pt) o = none) := Lib.hid (fun h o ho => by
        rcases Nat.lt_or_eq_of_le (Nat.le_of_lt_succ ho) with h1 | rfl
        · exact hN.out o h1
        · exact h)
      by_cases hw : wl k = p0
      · subst hw
        by_cases hl : pt.length = (fl k).length
        · have hne : ((pt.length : Int) + 1 != 1 + ((fl k).length : Int)) = false := by simp; omega
          have hpa : pat (wl k :: pt) k = rd (fl k) pt := by unfold pat; rw [if_pos ⟨rfl, by simp; omega⟩]; rfl
          have HPA := Lib.hid hpa
          clear hpa
          go_quiet (fail)
          go_upto_region 6 with fail
          have H8 := Lib.hid (H7.out.drewN nq)
          have g0 : (w4.drewN nq).cell? ⟨fb, 0, none⟩ = some (.string (wd k)) := f0
          have g1 : (w4.drewN nq).cell? ⟨fb, 1, none⟩ = some (.string (fd k)) := f1
          clear f0 f1 f2 H7 hne hw1
          generalize (w4.drewN nq) = w5 at *
          obtain ⟨u0, u1, u2, u3, hrv⟩ : ∃ u0 u1 u2 u3 : Int, rv k (rd (fl k) pt) = .agg #[.int .u8 u0, .int .u8 u1, .int .u8 u2, .int .u8 u3] := by
            cases rd (fl k) pt with
            | none => exact ⟨0, 0, 0, 0, rfl⟩
            | some bs => exact ⟨_, _, _, _, rfl⟩
          have RC : Hid (∀ (W : World) (r' : List Thing) (a : Option Addr), (0 < pt.length → a = some ⟨B, 1, none⟩) → Hp w0 W (Blk B (.cells ((wl k :: pt).map strv).toArray 9 (0, 0)) :: r') → Calls Tryz.prog 117 #[.int .u8 k, .agg #[.string (wd k), .string (fd k)], .slice a pt.length pt.length] W fun e w' => e = .returned (.tuple #[.agg #[.int .u8 u0, .int .u8 u1, .int .u8 u2, .int .u8 u3], .bool (rd (fl k) pt).isSome]) ∧ Hp w0 w' (Blk B (.cells ((wl k :: pt).map strv).toArray 9 (0, 0)) :: r')) :=
            Lib.hid (fun W r' a ha h => by rw [← hrv]; exact read_c L k (by omega) B 1 _ pt a hl ha (fun i hi => by simp [Nat.add_comm 1 i, hi]) HLN.out h)
          have HRV := Lib.hid hrv
          generalize hbb : (rd (fl k) pt).isSome = bb at *
          have HBB := Lib.hid hbb
          have gd0 : w5.drew.cell? ⟨fb, 0, none⟩ = some (.string (wd k)) := g0
          have gd1 : w5.drew.cell? ⟨fb, 1, none⟩ = some (.string (fd k)) := g1
          have gx0 : ∀ o, (w5.alloc o).drew.cell? ⟨fb, 0, none⟩ = some (.string (wd k)) := (fun o => cell_alloc_l' o g0)
          have gx1 : ∀ o, (w5.alloc o).drew.cell? ⟨fb, 1, none⟩ = some (.string (fd k)) := (fun o => cell_alloc_l' o g1)
          have gy0 : ∀ o, (w5.alloc o).cell? ⟨fb, 0, none⟩ = some (.string (wd k)) := (fun o => cell_alloc_l' o g0)
          have gy1 : ∀ o, (w5.alloc o).cell? ⟨fb, 1, none⟩ = some (.string (fd k)) := (fun o => cell_alloc_l' o g1)
          have ga0 : ∀ o, (w5.drew.alloc o).cell? ⟨fb, 0, none⟩ = some (.string (wd k)) := (fun o => cell_alloc_l' o g0)
          have ga1 : ∀ o, (w5.drew.alloc o).cell? ⟨fb, 1, none⟩ = some (.string (fd k)) := (fun o => cell_alloc_l' o g1)
          have HK : Hid (k ≤ 22) := Lib.hid (by omega)
          clear hl hrv hbb
          go_cut [7, 8] from 29 to 39 (fun s7 s8 wx => ∃ tb, s7 = .pointer (some ⟨tb, 0, none⟩) ∧ s8 = .bool bb ∧ Hid (Hp w0 wx (Blk tb (.cells #[.int .u8 u0, .int .u8 u1, .int .u8 u2, .int .u8 u3] 61 (0, 0)) :: Blk B (.cells ((wl k :: pt).map strv).toArray 9 (0, 0)) :: Blk xb (.cells zS 61 (0, 0)) :: r)))
          case first =>
            have hsz : pt.length = 0 ∨ 0 < pt.length := by omega
            rcases hsz with h0 | h0
            · obtain rfl := List.eq_nil_of_length_eq_zero h0
              go_region_held3 (fun x => x.cell? ⟨fb, 0, none⟩ = some (.string (wd k)) ∧ x.cell? ⟨fb, 1, none⟩ = some (.string (fd k))) (with_reducible (first | exact ⟨g0, g1⟩ | exact ⟨gd0, gd1⟩ | exact ⟨ga0 _, ga1 _⟩ | exact ⟨gx0 _, gx1 _⟩ | exact ⟨gy0 _, gy1 _⟩ | exact ⟨gs0, gs1⟩ | exact ⟨gt0, gt1⟩)) (first | (go_at_call 117; (first | (refine (RC.out _ _ _ ?_ (H8.out.drew.up1)).mono ?_; (exact fun h => absurd h (by simp)); rintro e wf ⟨rfl, HF⟩; have g0 : wf.cell? ⟨fb, 0, none⟩ = some (.string (wd k)) := (cell_blk (blk_get (HF.pull 1 rfl)) 0); have g1 : wf.cell? ⟨fb, 1, none⟩ = some (.string (fd k)) := (cell_blk (blk_get (HF.pull 1 rfl)) 1); have gd0 : wf.drew.cell? ⟨fb, 0, none⟩ = some (.string (wd k)) := g0; have gd1 : wf.drew.cell? ⟨fb, 1, none⟩ = some (.string (fd k)) := g1; have gx0 : ∀ o, (wf.alloc o).drew.cell? ⟨fb, 0, none⟩ = some (.string (wd k)) := (fun o => cell_alloc_l' o g0); have gx1 : ∀ o, (wf.alloc o).drew.cell? ⟨fb, 1, none⟩ = some (.string (fd k)) := (fun o => cell_alloc_l' o g1); have ga0 : ∀ o, (wf.alloc o).cell? ⟨fb, 0, none⟩ = some (.string (wd k)) := (fun o => cell_alloc_l' o g0); have ga1 : ∀ o, (wf.alloc o).cell? ⟨fb, 1, none⟩ = some (.string (fd k)) := (fun o => cell_alloc_l' o g1)) | (refine (RC.out _ _ _ ?_ ((blk_new H8.out.drew (.cells zS 61)).pull 2 rfl)).mono ?_; (exact fun h => absurd h (by simp)); rintro e wf ⟨rfl, HF⟩; have g0 : wf.cell? ⟨fb, 0, none⟩ = some (.string (wd k)) := (cell_blk (blk_get (HF.pull 2 rfl)) 0); have g1 : wf.cell? ⟨fb, 1, none⟩ = some (.string (fd k)) := (cell_blk (blk_get (HF.pull 2 rfl)) 1); have z0 : wf.cell? ⟨w5.heap.size, 0, none⟩ = some (.int .u8 0) := (cell_blk (blk_get (HF.pull 1 rfl)) 0); have e0 : wf.frozen? ⟨w5.heap.size, 0, none⟩ = false := (free_blk (blk_get (HF.pull 1 rfl)) 0); have z1 : wf.cell? ⟨w5.heap.size, 1, none⟩ = some (.int .u8 0) := (cell_blk (blk_get (HF.pull 1 rfl)) 1); have e1 : wf.frozen? ⟨w5.heap.size, 1, none⟩ = false := (free_blk (blk_get (HF.pull 1 rfl)) 1); have z2 : wf.cell? ⟨w5.heap.size, 2, none⟩ = some (.int .u8 0) := (cell_blk (blk_get (HF.pull 1 rfl)) 2); have e2 : wf.frozen? ⟨w5.heap.size, 2, none⟩ = false := (free_blk (blk_get (HF.pull 1 rfl)) 2); have z3 : wf.cell? ⟨w5.heap.size, 3, none⟩ = some (.int .u8 0) := (cell_blk (blk_get (HF.pull 1 rfl)) 3); have e3 : wf.frozen? ⟨w5.heap.size, 3, none⟩ = false := (free_blk (blk_get (HF.pull 1 rfl)) 3); have HS := set4 (v0 := undef) (v1 := undef) (v2 := undef) (v3 := undef) (HF.pull 1 rfl) (.int .u8 u0) (.int .u8 u1) (.int .u8 u2) (.int .u8 u3); have gs0 : ((((wf.setCell ⟨w5.heap.size, 0, none⟩ (.int .u8 u0)).setCell ⟨w5.heap.size, 1, none⟩ (.int .u8 u1)).setCell ⟨w5.heap.size, 2, none⟩ (.int .u8 u2)).setCell ⟨w5.heap.size, 3, none⟩ (.int .u8 u3)).cell? ⟨fb, 0, none⟩ = some (.string (wd k)) := (cell_blk (blk_get (HS.pull 2 rfl)) 0); have gs1 : ((((wf.setCell ⟨w5.heap.size, 0, none⟩ (.int .u8 u0)).setCell ⟨w5.heap.size, 1, none⟩ (.int .u8 u1)).setCell ⟨w5.heap.size, 2, none⟩ (.int .u8 u2)).setCell ⟨w5.heap.size, 3, none⟩ (.int .u8 u3)).cell? ⟨fb, 1, none⟩ = some (.string (fd k)) := (cell_blk (blk_get (HS.pull 2 rfl)) 1); have gt0 : ((((wf.setCell ⟨w5.heap.size, 0, none⟩ (.int .u8 u0)).setCell ⟨w5.heap.size, 1, none⟩ (.int .u8 u1)).setCell ⟨w5.heap.size, 2, none⟩ (.int .u8 u2)).setCell ⟨w5.heap.size, 3, none⟩ (.int .u8 u3)).drew.cell? ⟨fb, 0, none⟩ = some (.string (wd k)) := gs0; have gt1 : ((((wf.setCell ⟨w5.heap.size, 0, none⟩ (.int .u8 u0)).setCell ⟨w5.heap.size, 1, none⟩ (.int .u8 u1)).setCell ⟨w5.heap.size, 2, none⟩ (.int .u8 u2)).setCell ⟨w5.heap.size, 3, none⟩ (.int .u8 u3)).drew.cell? ⟨fb, 1, none⟩ = some (.string (fd k)) := gs1; have HS := Lib.hid HS))))
              all_goals go_wp2
              all_goals go_meet
              all_goals first | exact ⟨_, rfl, rfl, Lib.hid (blk_new HF.up1.tail _)⟩ | exact ⟨_, rfl, rfl, Lib.hid (HS.out.pull 2 rfl).tail⟩
            · have i1 : (1 : Int) ≤ (pt.length : Int) + 1 := by omega
              have i2 : ¬ pt.length = 0 := by omega
              have i4 : ¬ pt = [] := by intro h; subst h; simp at h0
              go_region_held3 (fun x => x.cell? ⟨fb, 0, none⟩ = some (.string (wd k)) ∧ x.cell? ⟨fb, 1, none⟩ = some (.string (fd k))) (with_reducible (first | exact ⟨g0, g1⟩ | exact ⟨gd0, gd1⟩ | exact ⟨ga0 _, ga1 _⟩ | exact ⟨gx0 _, gx1 _⟩ | exact ⟨gy0 _, gy1 _⟩ | exact ⟨gs0, gs1⟩ | exact ⟨gt0, gt1⟩)) (first | (go_at_call 117; (first | (refine (RC.out _ _ _ ?_ (H8.out.drew.up1)).mono ?_; (exact fun _ => rfl); rintro e wf ⟨rfl, HF⟩; have g0 : wf.cell? ⟨fb, 0, none⟩ = some (.string (wd k)) := (cell_blk (blk_get (HF.pull 1 rfl)) 0); have g1 : wf.cell? ⟨fb, 1, none⟩ = some (.string (fd k)) := (cell_blk (blk_get (HF.pull 1 rfl)) 1); have gd0 : wf.drew.cell? ⟨fb, 0, none⟩ = some (.string (wd k)) := g0; have gd1 : wf.drew.cell? ⟨fb, 1, none⟩ = some (.string (fd k)) := g1; have gx0 : ∀ o, (wf.alloc o).drew.cell? ⟨fb, 0, none⟩ = some (.string (wd k)) := (fun o => cell_alloc_l' o g0); have gx1 : ∀ o, (wf.alloc o).drew.cell? ⟨fb, 1, none⟩ = some (.string (fd k)) := (fun o => cell_alloc_l' o g1); have ga0 : ∀ o, (wf.alloc o).cell? ⟨fb, 0, none⟩ = some (.string (wd k)) := (fun o => cell_alloc_l' o g0); have ga1 : ∀ o, (wf.alloc o).cell? ⟨fb, 1, none⟩ = some (.string (fd k)) := (fun o => cell_alloc_l' o g1)) | (refine (RC.out _ _ _ ?_ ((blk_new H8.out.drew (.cells zS 61)).pull 2 rfl)).mono ?_; (exact fun _ => rfl); rintro e wf ⟨rfl, HF⟩; have g0 : wf.cell? ⟨fb, 0, none⟩ = some (.string (wd k)) := (cell_blk (blk_get (HF.pull 2 rfl)) 0); have g1 : wf.cell? ⟨fb, 1, none⟩ = some (.string (fd k)) := (cell_blk (blk_get (HF.pull 2 rfl)) 1); have z0 : wf.cell? ⟨w5.heap.size, 0, none⟩ = some (.int .u8 0) := (cell_blk (blk_get (HF.pull 1 rfl)) 0); have e0 : wf.frozen? ⟨w5.heap.size, 0, none⟩ = false := (free_blk (blk_get (HF.pull 1 rfl)) 0); have z1 : wf.cell? ⟨w5.heap.size, 1, none⟩ = some (.int .u8 0) := (cell_blk (blk_get (HF.pull 1 rfl)) 1); have e1 : wf.frozen? ⟨w5.heap.size, 1, none⟩ = false := (free_blk (blk_get (HF.pull 1 rfl)) 1); have z2 : wf.cell? ⟨w5.heap.size, 2, none⟩ = some (.int .u8 0) := (cell_blk (blk_get (HF.pull 1 rfl)) 2); have e2 : wf.frozen? ⟨w5.heap.size, 2, none⟩ = false := (free_blk (blk_get (HF.pull 1 rfl)) 2); have z3 : wf.cell? ⟨w5.heap.size, 3, none⟩ = some (.int .u8 0) := (cell_blk (blk_get (HF.pull 1 rfl)) 3); have e3 : wf.frozen? ⟨w5.heap.size, 3, none⟩ = false := (free_blk (blk_get (HF.pull 1 rfl)) 3); have HS := set4 (v0 := undef) (v1 := undef) (v2 := undef) (v3 := undef) (HF.pull 1 rfl) (.int .u8 u0) (.int .u8 u1) (.int .u8 u2) (.int .u8 u3); have gs0 : ((((wf.setCell ⟨w5.heap.size, 0, none⟩ (.int .u8 u0)).setCell ⟨w5.heap.size, 1, none⟩ (.int .u8 u1)).setCell ⟨w5.heap.size, 2, none⟩ (.int .u8 u2)).setCell ⟨w5.heap.size, 3, none⟩ (.int .u8 u3)).cell? ⟨fb, 0, none⟩ = some (.string (wd k)) := (cell_blk (blk_get (HS.pull 2 rfl)) 0); have gs1 : ((((wf.setCell ⟨w5.heap.size, 0, none⟩ (.int .u8 u0)).setCell ⟨w5.heap.size, 1, none⟩ (.int .u8 u1)).setCell ⟨w5.heap.size, 2, none⟩ (.int .u8 u2)).setCell ⟨w5.heap.size, 3, none⟩ (.int .u8 u3)).cell? ⟨fb, 1, none⟩ = some (.string (fd k)) := (cell_blk (blk_get (HS.pull 2 rfl)) 1); have gt0 : ((((wf.setCell ⟨w5.heap.size, 0, none⟩ (.int .u8 u0)).setCell ⟨w5.heap.size, 1, none⟩ (.int .u8 u1)).setCell ⟨w5.heap.size, 2, none⟩ (.int .u8 u2)).setCell ⟨w5.heap.size, 3, none⟩ (.int .u8 u3)).drew.cell? ⟨fb, 0, none⟩ = some (.string (wd k)) := gs0; have gt1 : ((((wf.setCell ⟨w5.heap.size, 0, none⟩ (.int .u8 u0)).setCell ⟨w5.heap.size, 1, none⟩ (.int .u8 u1)).setCell ⟨w5.heap.size, 2, none⟩ (.int .u8 u2)).setCell ⟨w5.heap.size, 3, none⟩ (.int .u8 u3)).drew.cell? ⟨fb, 1, none⟩ = some (.string (fd k)) := gs1; have HS := Lib.hid HS))))
              all_goals go_wp2
              all_goals go_meet
              all_goals first | exact ⟨_, rfl, rfl, Lib.hid (blk_new HF.up1.tail _)⟩ | exact ⟨_, rfl, rfl, Lib.hid (HS.out.pull 2 rfl).tail⟩
          case rest =>
          obtain ⟨tb, rfl, rfl, H9⟩ := hcut
          clear g0 g1 ga0 ga1 gd0 gd1 gx0 gx1 gy0 gy1 H8 RC
          by_cases hbt : bb = true
          · subst hbt
            obtain ⟨bs, hbs⟩ := Option.isSome_iff_exists.1 HBB.out
            have hpr : prs s = some (k, bs) := HAt.out k bs (by have := HK.out; omega) hN.out (HPA.out.trans hbs)
            have hrv : rv k (some bs) = .agg #[.int .u8 u0, .int .u8 u1, .int .u8 u2, .int .u8 u3] := by rw [← hbs]; exact HRV.out
            obtain rfl : 0 = er := by have := HER.out; rw [hpr] at this; exact this
            have HPR := Lib.hid hpr
            have HRW := Lib.hid hrv
            have bt := blk_get H9.out
            have t0 : wc.cell? ⟨tb, 0, none⟩ = some (.int .u8 u0) := cell_blk bt 0
            have t1 : wc.cell? ⟨tb, 1, none⟩ = some (.int .u8 u1) := cell_blk bt 1
            have t2 : wc.cell? ⟨tb, 2, none⟩ = some (.int .u8 u2) := cell_blk bt 2
            have t3 : wc.cell? ⟨tb, 3, none⟩ = some (.int .u8 u3) := cell_blk bt 3
            have bz := blk_get (H9.out.pull 2 rfl)
            have z0 : wc.cell? ⟨xb, 0, none⟩ = some (.int .u8 0) := cell_blk bz 0
            have e0 := free_blk bz 0
            have z1 : wc.cell? ⟨xb, 1, none⟩ = some (.int .u8 0) := cell_blk bz 1
            have e1 := free_blk bz 1
            have z2 : wc.cell? ⟨xb, 2, none⟩ = some (.int .u8 0) := cell_blk bz 2
            have e2 := free_blk bz 2
            have z3 : wc.cell? ⟨xb, 3, none⟩ = some (.int .u8 0) := cell_blk bz 3
            have e3 := free_blk bz 3
            have H5 := Lib.hid (set4 (v0 := undef) (v1 := undef) (v2 := undef) (v3 := undef) (H9.out.pull 2 rfl) (.int .u8 u0) (.int .u8 u1) (.int .u8 u2) (.int .u8 u3))
            clear hpr hrv bt bz HAt HNo HX HPA HRV HBB hN H9 hbs
            go_wp2
            exact bodyPost_ret (results_cell_tmp_row rfl _ _ xb _ _ _ _ rfl (blk_get H5.out) Tryz.underlying61 rfl ins_info) rfl ⟨by rw [HPR.out]; show _ = Ending.returned (.tuple #[rv k (some bs), .int .i64 0]); rw [HRW.out]; rfl, H5.out.tail.tail.tail⟩
          · have hbf : bb = false := by simpa using hbt
            subst hbf
            have hrd : rd (fl k) pt = none := by have := HBB.out; simpa using this
            have hpa := Lib.hid (HX.out (HPA.out.trans hrd))
            clear HX HPA HBB HRV hrd hbt HAt HNo hN
            go_wp2
            go_roundw
            case rel => exact ⟨k + 1, by have := HK.out; omega, by simp, hpa, Lib.hid H9.out.tail⟩
            case measure => simp [intOf]; omega
        · have hne : ((pt.length : Int) + 1 != 1 + ((fl k).length : Int)) = true := by simp; omega
          have hpa := Lib.hid (HX.out (by unfold pat; rw [if_neg (by simp; omega)]))
          clear HX hN hl
          go_quiet (fail)
          go_wp2
          go_roundw
          case rel => exact ⟨k + 1, by omega, by simp, hpa, Lib.hid (Hp.tail (Hp.drewN H7.out _))⟩
          case measure => simp [intOf]; omega
      · have hb : (wl k == p0) = false := by simpa using hw
        have hpa := Lib.hid (HX.out (by unfold pat; rw [if_neg (by simp [hw])]))
        clear HX hN hw
        go_quiet (fail)
        go_wp2
        go_roundw
        case rel => exact ⟨k + 1, by omega, by simp, hpa, Lib.hid (Hp.tail (Hp.drewN H7.out _))⟩
        case measure => simp [intOf]; omega
    · obtain rfl : k = 23 := by omega
      have hpr : prs s = none := HNo.out hN.out
      obtain rfl : 14 = er := by have := HER.out; rw [hpr] at this; exact this
      have HPR := Lib.hid hpr
      have bz := blk_get (hH.out.pull 1 rfl)
      have z0 : wr.cell? ⟨xb, 0, none⟩ = some (.int .u8 0) := cell_blk bz 0
      have e0 := free_blk bz 0
      have z1 : wr.cell? ⟨xb, 1, none⟩ = some (.int .u8 0) := cell_blk bz 1
      have e1 := free_blk bz 1
      have z2 : wr.cell? ⟨xb, 2, none⟩ = some (.int .u8 0) := cell_blk bz 2
      have e2 := free_blk bz 2
      have z3 : wr.cell? ⟨xb, 3, none⟩ = some (.int .u8 0) := cell_blk bz 3
      have e3 := free_blk bz 3
      have H5 := Lib.hid (set4 (v0 := undef) (v1 := undef) (v2 := undef) (v3 := undef) (hH.out.pull 1 rfl) (.int .u8 0) (.int .u8 0) (.int .u8 0) (.int .u8 0))
      clear hpr bz HAt HNo hN hH HLN
      go_wp2
      exact bodyPost_ret (results_cell_tmp_row rfl _ _ xb _ _ _ _ rfl (blk_get H5.out) Tryz.underlying61 rfl ins_info) rfl ⟨by rw [HPR.out]; rfl, H5.out.tail.tail⟩
end Go.Proofs.YtcfoljdpffonhaaGreatDoor
