/- Instructions: the document's Text, walked. -/
import Derived.Test.YtceienodijgllaaDoorJu
set_option linter.unusedVariables false
set_option linter.unusedSimpArgs false
namespace Go.Proofs.YtceienodijgllaaDoor
open Go.RowKit Go.Joins Go.Shelf
attribute [local go_sem] Oper.semAt_some

theorem sp_cons {c : UInt8} {cs : List UInt8} {rest l : List Int} (h : sp (c :: cs) rest = some l) : ∃ l', l = num (rest.take (kby c)) :: l' ∧ mayK c (num (rest.take (kby c))) = true ∧ sp cs (rest.drop (kby c)) = some l' := by
  unfold sp at h
  split at h
  · rename_i hm
    rw [Option.map_eq_some_iff] at h
    obtain ⟨l', hl, rfl⟩ := h
    exact ⟨l', rfl, hm, hl⟩
  · cases h
theorem num1 {a b c : Int} {u : Nat} (hu : u < 3) : num (([a, b, c].drop u).take 1) = [a, b, c].getD u 0 := by
  match u, hu with
  | 0, _ => rfl
  | 1, _ => rfl
  | 2, _ => rfl
theorem num2 {a b c : Int} {u : Nat} (hu : u < 2) : num (([a, b, c].drop u).take 2) = [a, b, c].getD u 0 * 256 + [a, b, c].getD (u + 1) 0 := by
  match u, hu with
  | 0, _ => rfl
  | 1, _ => rfl
theorem abc_cell {w : World} {g : Nat} {a b c : Int} {t : TypeId} (h : w.heap[g]? = some (.cells #[.int .u8 a, .int .u8 b, .int .u8 c] t (0, 0))) {u : Nat} (hu : u < 3) : w.cell? ⟨g, u, none⟩ = some (.int .u8 ([a, b, c].getD u 0)) := by
  rw [cell_blk h]
  match u, hu with
  | 0, _ => rfl
  | 1, _ => rfl
  | 2, _ => rfl
theorem abc_in {a b c : Int} (hb : By3 a b c) (u : Nat) : 0 ≤ [a, b, c].getD u 0 ∧ [a, b, c].getD u 0 < 256 := by
  match u with
  | 0 => exact hb.a
  | 1 => exact hb.b
  | 2 => exact hb.c
  | n + 3 => simp
theorem itoa_n (z : Nat) : Lib.itoa (z : Int) = Lib.decDigits z := by rw [itoa_nat (by omega), Int.toNat_natCast]
theorem tx110 (z : Nat) : tx 110 (z : Int) = Lib.decDigits z := itoa_n z
theorem tx98 (z : Nat) : tx 98 (z : Int) = Lib.decDigits z := itoa_n z
theorem tx119 (z : Nat) : tx 119 (z : Int) = Lib.decDigits z := itoa_n z
theorem tx114 (z : Nat) : tx 114 (z : Int) = 114 :: Lib.decDigits z := by show 114 :: Lib.itoa (z : Int) = _; rw [itoa_n]
theorem rdig_q {n : Nat} (hn : n < 2147483648) {d : List UInt8} (hd : Lib.decDigits n = d) (w : World) : Calls Tryd.prog 24 #[.int .i64 n] w fun e w' => e = .returned (strv d) ∧ ∃ m, w' = w.drewN m := by subst hd; exact rdigits_c n hn w
set_option maxHeartbeats 16000000 in
set_option maxRecDepth 20000 in
theorem rtext_yes {w0 w : World} {r : List Thing} {op : Nat} {a b c : Int} (H : Hp w0 w r) (hb : By3 a b c) (hop : op < 256) (hk : ck op a b c = true) :
    Calls Tryd.prog 15 #[inS op a b c] w fun e w' => e = .returned (.tuple #[strv (txo op a b c), .int .i64 0]) ∧ Hp w0 w' r := by
  have HX := Lib.hid (blk_new H (.cells #[.int .u8 op, .int .u8 a, .int .u8 b, .int .u8 c] 24))
  obtain ⟨l, hl, hte⟩ := ck_flds hb hk
  obtain ⟨h22, hsp⟩ := flds_some hl
  rw [hte]
  have HC := rcheck_c (op := op) HX.out hb hop
  rw [hk] at HC
  have HCK := Lib.hid HC
  have HSP := Lib.hid hsp
  have HB := Lib.hid hb
  have H22 := Lib.hid h22
  have hwop : IntKind.i64.wrap (op : Int) = op := by rw [IntKind.wrap_i64]; omega
  have c0 : (op : Int) < 23 := by omega
  have c1 : ¬ 23 ≤ (op : Int) := by omega
  have c12 : decide (23 ≤ (op : Int)) = false := by simpa using c1
  clear H hl hte HC hk hsp hb h22 hop
  go_enter Tryd.func15, Tryd.ntmps15
  go_upto_region 1 with fail
  have x0 : (w.alloc (.cells #[.int .u8 op, .int .u8 a, .int .u8 b, .int .u8 c] 24)).cell? ⟨w.heap.size, 0, none⟩ = some (.int .u8 op) := cell_blk (blk_get HX.out) 0
  have x1 : (w.alloc (.cells #[.int .u8 op, .int .u8 a, .int .u8 b, .int .u8 c] 24)).cell? ⟨w.heap.size, 1, none⟩ = some (.int .u8 a) := cell_blk (blk_get HX.out) 1
  have x2 : (w.alloc (.cells #[.int .u8 op, .int .u8 a, .int .u8 b, .int .u8 c] 24)).cell? ⟨w.heap.size, 2, none⟩ = some (.int .u8 b) := cell_blk (blk_get HX.out) 2
  have x3 : (w.alloc (.cells #[.int .u8 op, .int .u8 a, .int .u8 b, .int .u8 c] 24)).cell? ⟨w.heap.size, 3, none⟩ = some (.int .u8 c) := cell_blk (blk_get HX.out) 3
  generalize (w.alloc (.cells #[.int .u8 op, .int .u8 a, .int .u8 b, .int .u8 c] 24)) = w1 at *
  generalize w.heap.size = xb at *
  go_wp2_with fail
  refine HCK.out.mono ?_; rintro e w2 ⟨rfl, H2⟩
  have H3 := Lib.hid H2
  clear x0 x1 x2 x3 HCK HX
  have bx := blk_get H2
  have x0 : w2.cell? ⟨xb, 0, none⟩ = some (.int .u8 op) := cell_blk bx 0
  clear H2 bx
  go_upto_region 3 with fail
  go_cut [4] from 13 to 17 (fun s4 wx => s4 = .string (wd op) ∧ Hid (Hp w0 wx (Blk xb (.cells #[.int .u8 op, .int .u8 a, .int .u8 b, .int .u8 c] 24 (0, 0)) :: r)))
  case first =>
    go_region_with (go_at_call 20; refine (words_c H3.out.drew).mono ?_; rintro e wq ⟨g2, rfl, H4⟩; have y2 : wq.cell? ⟨xb, 0, none⟩ = some (.int .u8 op) := (cell_blk (blk_get (H4.pull 1 rfl)) 0); have y1 : wq.cell? ⟨g2, op, none⟩ = some (.string (wd op)) := ((cell_blk (blk_get H4) op).trans (words_get op H22.out)))
    all_goals go_wp2
    all_goals
      go_meet
      exact ⟨rfl, Lib.hid H4.tail⟩
  case rest =>
  obtain ⟨rfl, H4⟩ := hcut
  clear H3 x0
  have bx := blk_get H4.out
  have x1 : wc.cell? ⟨xb, 1, none⟩ = some (.int .u8 a) := cell_blk bx 1
  have x2 : wc.cell? ⟨xb, 2, none⟩ = some (.int .u8 b) := cell_blk bx 2
  have x3 : wc.cell? ⟨xb, 3, none⟩ = some (.int .u8 c) := cell_blk bx 3
  have H5 := Lib.hid (blk_new H4.out (.cells #[.int .u8 a, .int .u8 b, .int .u8 c] 5))
  clear bx H4
  go_upto_region 5 with fail
  have y0 : (wc.alloc (.cells #[.int .u8 a, .int .u8 b, .int .u8 c] 5)).cell? ⟨xb, 0, none⟩ = some (.int .u8 op) := cell_blk (blk_get (H5.out.pull 1 rfl)) 0
  clear x1 x2 x3
  generalize (wc.alloc (.cells #[.int .u8 a, .int .u8 b, .int .u8 c] 5)) = w3 at *
  generalize wc.heap.size = g at *
  go_cut [6] from 25 to 29 (fun s6 wx => s6 = .string (fd op) ∧ Hid (Hp w0 wx (Blk g (.cells #[.int .u8 a, .int .u8 b, .int .u8 c] 5 (0, 0)) :: Blk xb (.cells #[.int .u8 op, .int .u8 a, .int .u8 b, .int .u8 c] 24 (0, 0)) :: r)))
  case first =>
    go_region_with (go_at_call 21; refine (fields_c H5.out.drew).mono ?_; rintro e wq ⟨g2, rfl, H4⟩; have y2 : wq.cell? ⟨xb, 0, none⟩ = some (.int .u8 op) := (cell_blk (blk_get (H4.pull 2 rfl)) 0); have y1 : wq.cell? ⟨g2, op, none⟩ = some (.string (fd op)) := ((cell_blk (blk_get H4) op).trans (fields_get op H22.out)))
    all_goals go_wp2
    all_goals
      go_meet
      exact ⟨rfl, Lib.hid H4.tail⟩
  case rest =>
  obtain ⟨rfl, H6⟩ := hcut
  clear y0 H5 c0 c1 c12
  obtain ⟨fk, ft⟩ := fl_ok op
  have FK := Lib.hid fk
  have FD := Lib.hid (fd_get op)
  have hfs : (fd op).size = (fl op).length := rfl
  have F3 : Hid ((fl op).length ≤ 3) := Lib.hid (fl_len op)
  have WL := Lib.hid (wl_len op)
  have FT := Lib.hid ft
  clear fk ft
  go_wp2
  go_loopw [4, 7, 8] (fun s4 s7 s8 wr => ∃ (p u : Nat) (acc : List UInt8) (lr : List Int), p ≤ (fl op).length ∧ u + tby ((fl op).drop p) ≤ 3 ∧ s8 = .int .i64 p ∧ s7 = .int .i64 u ∧ s4 = strv acc ∧ acc.length ≤ 8 + 31 * p ∧ Hid (sp ((fl op).drop p) ([a, b, c].drop u) = some lr) ∧ Hid (txt op l = acc ++ ((txs ((fl op).drop p) lr).flatMap (32 :: ·))) ∧ Hid (Hp w0 wr (Blk g (.cells #[.int .u8 a, .int .u8 b, .int .u8 c] 5 (0, 0)) :: Blk xb (.cells #[.int .u8 op, .int .u8 a, .int .u8 b, .int .u8 c] 24 (0, 0)) :: r))) (fun _ _ s8 _ => (fl op).length - (intOf s8).toNat)
  case atStart => exact ⟨0, 0, wl op, l, Nat.zero_le _, by have := FT.out; simpa using this, rfl, rfl, rfl, WL.out, HSP, Lib.hid rfl, H6⟩
  case round =>
    obtain ⟨p, u, acc, lr, hp, hu, rfl, rfl, rfl, hac, hS, hT, hH⟩ := hrel
    clear H6
    by_cases hlt : p < (fl op).length
    · obtain ⟨hl', hfc⟩ := FD.out p hlt
      have hkc := FK.out _ (List.getElem_mem hlt)
      have hdr : (fl op).drop p = (fl op)[p] :: (fl op).drop (p + 1) := List.drop_eq_getElem_cons hlt
      have hp3 : p < 3 := by have := F3.out; omega
      rw [hdr] at hS hT hu
      have hu' : u + (kby (fl op)[p] + tby ((fl op).drop (p + 1))) ≤ 3 := by rw [tby_cons] at hu; exact hu
      obtain ⟨l', rfl, hm, hS'⟩ := sp_cons hS.out
      rw [List.drop_drop] at hS'
      have hT' : txt op l = (acc ++ 32 :: tx (fl op)[p] (num (([a, b, c].drop u).take (kby (fl op)[p])))) ++ ((txs ((fl op).drop (p + 1)) l').flatMap (32 :: ·)) := by rw [hT.out]; simp [txs]
      have tl := tx_len hm
      have hbg := blk_get hH.out
      have hpw : IntKind.i64.wrap ((p : Int) + 1) = (p : Int) + 1 := by rw [IntKind.wrap_i64]; omega
      have huw : IntKind.i64.wrap ((u : Int) + 1) = (u : Int) + 1 := by rw [IntKind.wrap_i64]; omega
      have HLT := Lib.hid hlt
      generalize (fl op)[p] = ch at *
      have hkb := kby_pos ch
      have hu3 : u < 3 := by omega
      have c0 := abc_cell hbg hu3
      have r0 := abc_in HB.out u
      have HTX : Hid ((acc ++ 32 :: tx ch (num (([a, b, c].drop u).take (kby ch)))).length ≤ 8 + 31 * (p + 1)) := Lib.hid (by simp; omega)
      have HS2 := Lib.hid hS'
      have HT2 := Lib.hid hT'
      have hcc := hkc
      unfold isK at hcc
      simp only [Bool.or_eq_true, beq_iff_eq] at hcc
      have HM := Lib.hid hm
      have HBG := Lib.hid hbg
      have HU := Lib.hid hu'
      clear hS hT hS' hT' hm hkc hdr hlt hbg hu' hu hkb
      rcases hcc with (((rfl | rfl) | rfl) | rfl) | rfl
      · have hn : num (([a, b, c].drop u).take (kby 114)) = [a, b, c].getD u 0 := num1 hu3
        obtain ⟨z, hz⟩ : ∃ z : Nat, [a, b, c].getD u 0 = (z : Int) := ⟨([a, b, c].getD u 0).toNat, by omega⟩
        rw [hz] at c0 r0 hn
        rw [hn] at HT2 HTX
        have hzl : z < 256 := by omega
        have hzw : IntKind.i64.wrap (z : Int) = z := by rw [IntKind.wrap_i64]; omega
        have htx : tx 114 (z : Int) = 114 :: Lib.decDigits z := tx114 z
        rw [htx] at HT2 HTX
        have hdl := rdec_len z (by omega)
        generalize hD : Lib.decDigits z = D at *
        have QD := Lib.hid (rdig_q (show z < 2147483648 by omega) hD)
        have l1 : ¬ 9223372036854775807 < acc.length + 1 := by omega
        have l2 : ¬ 9223372036854775807 < acc.length + 1 + 1 := by omega
        have l3 : ¬ 9223372036854775807 < acc.length + (1 + D.length) := by omega
        have l4 : ¬ 9223372036854775807 < acc.length + (1 + (1 + D.length)) := by omega
        have l5 : ¬ 9223372036854775807 < acc.length + 1 + D.length := by omega
        have l6 : ¬ 9223372036854775807 < acc.length + 1 + 1 + D.length := by omega
        have HZ := Lib.hid hzl
        have HAC := Lib.hid hac
        clear hD hzl hac tl HM HBG HB hdl
        go_wp2_with fail
        refine (QD.out _).mono ?_; rintro e wd ⟨rfl, m, rfl⟩
        have H7 := Lib.hid (hH.out.drewN m)
        clear hH c0 QD
        go_wp2
        go_roundw
        case rel => exact ⟨p + 1, u + 1, acc ++ 32 :: 114 :: D, l', by have := HLT.out; omega, by have := HU.out; simp [kby] at this; omega, by go_num, by go_num, by simp [str_app2], by have := HTX.out; simp at this ⊢; omega, HS2, Lib.hid (by have := HT2.out; simpa using this), H7⟩
        case measure => have := HLT.out; simp [intOf]; omega
      · have hu2 : u < 2 := by have := HU.out; simp [kby] at this; omega
        have c1 := abc_cell HBG.out (show u + 1 < 3 by omega)
        have r1 := abc_in HB.out (u + 1)
        have hn : num (([a, b, c].drop u).take (kby 110)) = [a, b, c].getD u 0 * 256 + [a, b, c].getD (u + 1) 0 := num2 hu2
        obtain ⟨x, hx⟩ : ∃ x : Nat, [a, b, c].getD u 0 = (x : Int) := ⟨([a, b, c].getD u 0).toNat, by omega⟩
        obtain ⟨y, hy⟩ : ∃ y : Nat, [a, b, c].getD (u + 1) 0 = (y : Int) := ⟨([a, b, c].getD (u + 1) 0).toNat, by omega⟩
        rw [hx] at c0 r0 hn
        rw [hy] at c1 r1 hn
        have hn2 : num (([a, b, c].drop u).take (kby 110)) = ((256 * x + y : Nat) : Int) := by rw [hn]; omega
        rw [hn2] at HT2 HTX
        have htx : tx 110 ((256 * x + y : Nat) : Int) = Lib.decDigits (256 * x + y) := tx110 _
        rw [htx] at HT2 HTX
        generalize hz : 256 * x + y = z at *
        have hz2 : 256 * (x : Int) + (y : Int) = (z : Int) := by omega
        have hzl : z < 65536 := by omega
        have hzw : IntKind.i64.wrap (256 * (x : Int)) = 256 * (x : Int) := by rw [IntKind.wrap_i64]; omega
        have hzw2 : IntKind.i64.wrap (z : Int) = z := by rw [IntKind.wrap_i64]; omega
        have hxw : IntKind.i64.wrap (x : Int) = x := by rw [IntKind.wrap_i64]; omega
        have hyw : IntKind.i64.wrap (y : Int) = y := by rw [IntKind.wrap_i64]; omega
        have huw2 : IntKind.i64.wrap ((u : Int) + 1 + 1) = (u : Int) + 2 := by rw [IntKind.wrap_i64]; omega
        have hdl := rdec_len z (by omega)
        generalize hD : Lib.decDigits z = D at *
        have QD := Lib.hid (rdig_q (show z < 2147483648 by omega) hD)
        have l1 : ¬ 9223372036854775807 < acc.length + 1 := by omega
        have l2 : ¬ 9223372036854775807 < acc.length + 1 + 1 := by omega
        have l3 : ¬ 9223372036854775807 < acc.length + (1 + D.length) := by omega
        have l4 : ¬ 9223372036854775807 < acc.length + (1 + (1 + D.length)) := by omega
        have l5 : ¬ 9223372036854775807 < acc.length + 1 + D.length := by omega
        have l6 : ¬ 9223372036854775807 < acc.length + 1 + 1 + D.length := by omega
        have HZ := Lib.hid hzl
        have HAC := Lib.hid hac
        clear hD hzl hac tl HM HBG HB hdl
        go_wp2_with fail
        refine (QD.out _).mono ?_; rintro e wd ⟨rfl, m, rfl⟩
        have H7 := Lib.hid (hH.out.drewN m)
        clear hH c0 QD
        go_wp2
        go_roundw
        case rel => exact ⟨p + 1, u + 2, acc ++ 32 :: D, l', by have := HLT.out; omega, by have := HU.out; simp [kby] at this; omega, by go_num, by go_num, by simp [str_app2], by have := HTX.out; simp at this ⊢; omega, HS2, Lib.hid (by have := HT2.out; simpa using this), H7⟩
        case measure => have := HLT.out; simp [intOf]; omega
      · have hn : num (([a, b, c].drop u).take (kby 98)) = [a, b, c].getD u 0 := num1 hu3
        obtain ⟨z, hz⟩ : ∃ z : Nat, [a, b, c].getD u 0 = (z : Int) := ⟨([a, b, c].getD u 0).toNat, by omega⟩
        rw [hz] at c0 r0 hn
        rw [hn] at HT2 HTX
        have hzl : z < 256 := by omega
        have hzw : IntKind.i64.wrap (z : Int) = z := by rw [IntKind.wrap_i64]; omega
        have htx : tx 98 (z : Int) = Lib.decDigits z := tx98 z
        rw [htx] at HT2 HTX
        have hdl := rdec_len z (by omega)
        generalize hD : Lib.decDigits z = D at *
        have QD := Lib.hid (rdig_q (show z < 2147483648 by omega) hD)
        have l1 : ¬ 9223372036854775807 < acc.length + 1 := by omega
        have l2 : ¬ 9223372036854775807 < acc.length + 1 + 1 := by omega
        have l3 : ¬ 9223372036854775807 < acc.length + (1 + D.length) := by omega
        have l4 : ¬ 9223372036854775807 < acc.length + (1 + (1 + D.length)) := by omega
        have l5 : ¬ 9223372036854775807 < acc.length + 1 + D.length := by omega
        have l6 : ¬ 9223372036854775807 < acc.length + 1 + 1 + D.length := by omega
        have HZ := Lib.hid hzl
        have HAC := Lib.hid hac
        clear hD hzl hac tl HM HBG HB hdl
        go_wp2_with fail
        refine (QD.out _).mono ?_; rintro e wd ⟨rfl, m, rfl⟩
        have H7 := Lib.hid (hH.out.drewN m)
        clear hH c0 QD
        go_wp2
        go_roundw
        case rel => exact ⟨p + 1, u + 1, acc ++ 32 :: D, l', by have := HLT.out; omega, by have := HU.out; simp [kby] at this; omega, by go_num, by go_num, by simp [str_app2], by have := HTX.out; simp at this ⊢; omega, HS2, Lib.hid (by have := HT2.out; simpa using this), H7⟩
        case measure => have := HLT.out; simp [intOf]; omega
      · have hn : num (([a, b, c].drop u).take (kby 119)) = [a, b, c].getD u 0 := num1 hu3
        obtain ⟨z, hz⟩ : ∃ z : Nat, [a, b, c].getD u 0 = (z : Int) := ⟨([a, b, c].getD u 0).toNat, by omega⟩
        rw [hz] at c0 r0 hn
        rw [hn] at HT2 HTX
        have hzl : z < 256 := by omega
        have hzw : IntKind.i64.wrap (z : Int) = z := by rw [IntKind.wrap_i64]; omega
        have htx : tx 119 (z : Int) = Lib.decDigits z := tx119 z
        rw [htx] at HT2 HTX
        have hdl := rdec_len z (by omega)
        generalize hD : Lib.decDigits z = D at *
        have QD := Lib.hid (rdig_q (show z < 2147483648 by omega) hD)
        have l1 : ¬ 9223372036854775807 < acc.length + 1 := by omega
        have l2 : ¬ 9223372036854775807 < acc.length + 1 + 1 := by omega
        have l3 : ¬ 9223372036854775807 < acc.length + (1 + D.length) := by omega
        have l4 : ¬ 9223372036854775807 < acc.length + (1 + (1 + D.length)) := by omega
        have l5 : ¬ 9223372036854775807 < acc.length + 1 + D.length := by omega
        have l6 : ¬ 9223372036854775807 < acc.length + 1 + 1 + D.length := by omega
        have HZ := Lib.hid hzl
        have HAC := Lib.hid hac
        clear hD hzl hac tl HM HBG HB hdl
        go_wp2_with fail
        refine (QD.out _).mono ?_; rintro e wd ⟨rfl, m, rfl⟩
        have H7 := Lib.hid (hH.out.drewN m)
        clear hH c0 QD
        go_wp2
        go_roundw
        case rel => exact ⟨p + 1, u + 1, acc ++ 32 :: D, l', by have := HLT.out; omega, by have := HU.out; simp [kby] at this; omega, by go_num, by go_num, by simp [str_app2], by have := HTX.out; simp at this ⊢; omega, HS2, Lib.hid (by have := HT2.out; simpa using this), H7⟩
        case measure => have := HLT.out; simp [intOf]; omega
      · have hn : num (([a, b, c].drop u).take (kby 115)) = [a, b, c].getD u 0 := num1 hu3
        obtain ⟨z, hz⟩ : ∃ z : Nat, [a, b, c].getD u 0 = (z : Int) := ⟨([a, b, c].getD u 0).toNat, by omega⟩
        rw [hz] at c0 r0 hn
        rw [hn] at HT2 HTX
        have hzl : z < 256 := by omega
        have hzw : IntKind.i64.wrap (z : Int) = z := by rw [IntKind.wrap_i64]; omega
        by_cases h128 : z < 128
        · have htx : tx 115 (z : Int) = Lib.decDigits z := by show Lib.itoa (if (z : Int) < 128 then (z : Int) else (z : Int) - 256) = _; rw [if_pos (by omega)]; exact itoa_n z
          rw [htx] at HT2 HTX
          have g1 : ¬ (128 : Int) ≤ (z : Int) := by omega
          have hdl := rdec_len z (by omega)
          generalize hD : Lib.decDigits z = D at *
          have QD := Lib.hid (rdig_q (show z < 2147483648 by omega) hD)
          have l1 : ¬ 9223372036854775807 < acc.length + 1 := by omega
          have l2 : ¬ 9223372036854775807 < acc.length + 1 + 1 := by omega
          have l3 : ¬ 9223372036854775807 < acc.length + (1 + D.length) := by omega
          have l4 : ¬ 9223372036854775807 < acc.length + (1 + (1 + D.length)) := by omega
          have l5 : ¬ 9223372036854775807 < acc.length + 1 + D.length := by omega
          have l6 : ¬ 9223372036854775807 < acc.length + 1 + 1 + D.length := by omega
          have HZ := Lib.hid hzl
          have HAC := Lib.hid hac
          clear hD hzl hac tl HM HBG HB hdl
          go_wp2_with fail
          refine (QD.out _).mono ?_; rintro e wd ⟨rfl, m, rfl⟩
          have H7 := Lib.hid (hH.out.drewN m)
          clear hH c0 QD
          go_wp2
          go_roundw
          case rel => exact ⟨p + 1, u + 1, acc ++ 32 :: D, l', by have := HLT.out; omega, by have := HU.out; simp [kby] at this; omega, by go_num, by go_num, by simp [str_app2], by have := HTX.out; simp at this ⊢; omega, HS2, Lib.hid (by have := HT2.out; simpa using this), H7⟩
          case measure => have := HLT.out; simp [intOf]; omega
        · have htx : tx 115 (z : Int) = 45 :: Lib.decDigits (256 - z) := by
            show Lib.itoa (if (z : Int) < 128 then (z : Int) else (z : Int) - 256) = _
            rw [if_neg (by omega)]
            unfold Lib.itoa
            rw [if_pos (by omega)]
            congr 2; omega
          rw [htx] at HT2 HTX
          have g1 : (128 : Int) ≤ (z : Int) := by omega
          obtain ⟨y, hy⟩ : ∃ y : Nat, 256 - z = y := ⟨_, rfl⟩
          rw [hy] at HT2 HTX
          have hy2 : 256 - (z : Int) = (y : Int) := by omega
          have hyw : IntKind.i64.wrap (y : Int) = y := by rw [IntKind.wrap_i64]; omega
          have hdl := rdec_len y (by omega)
          generalize hD : Lib.decDigits y = D at *
          have QD := Lib.hid (rdig_q (show y < 2147483648 by omega) hD)
          have l1 : ¬ 9223372036854775807 < acc.length + 1 := by omega
          have l2 : ¬ 9223372036854775807 < acc.length + 1 + 1 := by omega
          have l3 : ¬ 9223372036854775807 < acc.length + (1 + D.length) := by omega
          have l4 : ¬ 9223372036854775807 < acc.length + (1 + (1 + D.length)) := by omega
          have l5 : ¬ 9223372036854775807 < acc.length + 1 + D.length := by omega
          have l6 : ¬ 9223372036854775807 < acc.length + 1 + 1 + D.length := by omega
          have HZ := Lib.hid hzl
          have HAC := Lib.hid hac
          clear hD hzl hac tl HM HBG HB hdl
          go_wp2_with fail
          refine (QD.out _).mono ?_; rintro e wd ⟨rfl, m, rfl⟩
          have H7 := Lib.hid (hH.out.drewN m)
          clear hH c0 QD
          go_wp2
          go_roundw
          case rel => exact ⟨p + 1, u + 1, acc ++ 32 :: 45 :: D, l', by have := HLT.out; omega, by have := HU.out; simp [kby] at this; omega, by go_num, by go_num, by simp [str_app2], by have := HTX.out; simp at this ⊢; omega, HS2, Lib.hid (by have := HT2.out; simpa using this), H7⟩
          case measure => have := HLT.out; simp [intOf]; omega
    · obtain rfl : p = (fl op).length := by omega
      have hT2 : txt op l = acc := by rw [hT.out, List.drop_length]; simp [txs]
      have HT2 := Lib.hid hT2
      clear hT hT2 hS
      go_wp2
      go_ret2
      exact ⟨by rw [HT2.out]; rfl, hH.out.tail.tail⟩
end Go.Proofs.YtceienodijgllaaDoor
