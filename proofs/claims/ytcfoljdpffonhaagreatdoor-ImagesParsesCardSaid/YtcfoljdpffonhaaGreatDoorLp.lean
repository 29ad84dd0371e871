/- Images: alive(), walked. -/
import Derived.Test.YtcfoljdpffonhaaGreatDoorLn
set_option linter.unusedVariables false
set_option linter.unusedSimpArgs false
namespace Go.Proofs.YtcfoljdpffonhaaGreatDoor
open Go.RowKit Go.Joins Go.Shelf
attribute [local go_sem] Oper.semAt_some

theorem parse_yes {w0 w' : World} {r : List Thing} {t : Rs} {e : Ending} (hk : imck t.n t.d t.c = true) (h : ParsePost w0 r (.inl t) e w') : ∃ ad dc ac cc, e = .returned (.tuple #[imV t.n ad t.d.length dc ac t.c.length cc, .int .i64 0, .int .i64 0]) ∧ Hp w0 w' (OwnU (.slice ad t.d.length dc) t.d :: OwnN (.slice ac t.c.length cc) t.c :: r) := by
  have h : (if imck t.n t.d t.c = true then _ else _) := h
  rw [if_pos hk] at h
  obtain ⟨dv, cv, rfl, H⟩ := h
  obtain ⟨ad, dc, rfl⟩ := own_slice H
  obtain ⟨ac, cc, rfl⟩ := own_slice H.tail
  exact ⟨_, _, _, _, rfl, H⟩
theorem parse_arg {w0 w' : World} {r : List Thing} {t : Rs} {e : Ending} (hk : imck t.n t.d t.c = false) (h : ParsePost w0 r (.inl t) e w') : e = .returned (.tuple #[.agg zI, .int .i64 0, .int .i64 1]) ∧ Hp w0 w' r := by
  have h : (if imck t.n t.d t.c = true then _ else _) := h
  rw [if_neg (by rw [hk]; simp)] at h
  exact h
theorem blk_in {w0 w : World} {r : List Thing} {g : Nat} {l : List Value} {t : TypeId} {f : Nat × Nat} (H : Hp w0 w (Blk g (.cells l.toArray t f) :: r)) : CellsIn w (some ⟨g, 0, none⟩) l := fun j hj => ⟨g, 0, rfl, by rw [Nat.zero_add, cell_blk (blk_get H)]; simp [hj]⟩
set_option maxHeartbeats 16000000 in
set_option maxRecDepth 100000 in
theorem alive_c {w0 w : World} {r : List Thing} (L : Lf w0) (H : Hp w0 w r) :
    Calls Tryz.prog 25 #[] w fun e w' => e = .returned (.bool true) ∧ Hp w0 w' r := by
  have P1 := Lib.hid (imparse_c L T1 (by decide) H)
  rw [al1] at P1
  go_enter Tryz.func25, Tryz.ntmps25
  go_wp2_with fail
  refine P1.out.mono ?_
  intro e w1 h1
  obtain ⟨ad, dc, ac, cc, rfl, H1⟩ := parse_yes al5 h1
  have H2 := Lib.hid (H1.alloc (.cells #[.int .i64 8, .slice ad 2 dc, .slice ac 2 cc] 25))
  clear P1 h1 H1 H
  have C1 := Lib.hid (CellsIn.own H2.out)
  have C2 := Lib.hid (CellsIn.own H2.out.tail)
  have P2 := Lib.hid (imput_c 8 ad ac dc cc [1, 255] [(1, 1, 1, 44), (22, 0, 0, 0)] _ C1.out C2.out al5)
  rw [al9] at P2
  go_wp2_with fail
  refine P2.out.mono ?_; rintro e w2 ⟨v, rfl, K⟩
  have H3 := Lib.hid ((H2.out.tail.tail).lift K)
  clear P2 K C1 C2 H2
  obtain ⟨av, cp, rfl⟩ := own_slice H3.out
  have H4 := Lib.hid (blk_new H3.out (.cells #[.int .u8 116, .int .u8 107, .int .u8 49, .int .u8 0, .int .u8 0, .int .u8 0, .int .u8 1, .int .u8 0, .int .u8 0, .int .u8 5] 5 (10, 11)))
  have C3 : Hid (CellsIn (w2.alloc (.cells #[.int .u8 116, .int .u8 107, .int .u8 49, .int .u8 0, .int .u8 0, .int .u8 0, .int .u8 1, .int .u8 0, .int .u8 0, .int .u8 5] 5 (10, 11))) (some ⟨w2.heap.size, 0, none⟩) (([116, 107, 49, 0, 0, 0, 1, 0, 0, 5] : List UInt8).map bv)) := Lib.hid (blk_in (l := ([116, 107, 49, 0, 0, 0, 1, 0, 0, 5] : List UInt8).map bv) H4.out)
  have P3 := Lib.hid (imget_c (some ⟨w2.heap.size, 0, none⟩) 10 [116, 107, 49, 0, 0, 0, 1, 0, 0, 5] _ C3.out (by decide))
  rw [al8] at P3
  have kv := run_convert_bytes_const_at (P := Tryz.prog) w2 22 5 #[.int .u8 116, .int .u8 107, .int .u8 49, .int .u8 0, .int .u8 0, .int .u8 0, .int .u8 1, .int .u8 0, .int .u8 0, .int .u8 5] 10 10 w2.heap.size rfl Tryz.underlying22 Tryz.underlying5
  go_wp2_with fail
  refine P3.out.mono ?_; rintro e w3 ⟨hb, rfl⟩
  have H5 := Lib.hid ((H4.out.below_read hb).tail.alloc (.cells #[.int .i64 0, .slice none 0 0, .slice none 0 0] 25))
  clear P3 hb C3 H4 H3 kv
  have P4 := Lib.hid (imparse_c L T2 (by decide) H5.out)
  rw [al2] at P4
  go_wp2_with fail
  refine P4.out.mono ?_
  intro e w4 h4
  obtain ⟨rfl, H6⟩ := h4
  have H7 := Lib.hid (H6.alloc (.cells #[.int .i64 0, .slice none 0 0, .slice none 0 0] 25))
  clear P4 H5 H6
  have P5 := Lib.hid (imparse_c L T3 (by decide) H7.out)
  rw [al3] at P5
  go_wp2_with fail
  refine P5.out.mono ?_
  intro e w5 h5
  obtain ⟨rfl, H8⟩ := parse_arg al6 h5
  have H9 := Lib.hid (H8.alloc (.cells #[.int .i64 0, .slice none 0 0, .slice none 0 0] 25))
  clear P5 H7 H8 h5
  have P6 := Lib.hid (imparse_c L T4 (by decide) H9.out)
  rw [al4] at P6
  go_wp2_with fail
  refine P6.out.mono ?_
  intro e w6 h6
  obtain ⟨rfl, HA⟩ := parse_arg al7 h6
  have HB := Lib.hid (HA.alloc (.cells #[.int .i64 0, .slice none 0 0, .slice none 0 0] 25))
  clear P6 H9 HA h6
  go_upto_region 7 with fail
  generalize (w6.alloc (.cells #[.int .i64 0, .slice none 0 0, .slice none 0 0] 25)) = w7 at *
  have kc : (convert 22 9 (.slice av 19 cp)).run Tryz.prog w7 = .ok (strv [116, 107, 49, 0, 8, 0, 2, 0, 2, 1, 255, 1, 1, 1, 44, 22, 0, 0, 0]) w7 := conv_in w7 av cp [116, 107, 49, 0, 8, 0, 2, 0, 2, 1, 255, 1, 1, 1, 44, 22, 0, 0, 0] (CellsIn.own HB.out)
  go_wp2
  go_ret
  exact ⟨rfl, HB.out.tail⟩
end Go.Proofs.YtcfoljdpffonhaaGreatDoor
