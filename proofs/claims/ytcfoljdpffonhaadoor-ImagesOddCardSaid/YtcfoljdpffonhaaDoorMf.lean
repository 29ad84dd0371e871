/- Images: ImagesOdd, walked. -/
import Derived.Test.YtcfoljdpffonhaaDoorMe
import Derived.Outline
set_option linter.unusedVariables false
set_option linter.unusedSimpArgs false
namespace Go.Proofs.YtcfoljdpffonhaaDoor
open Go.RowKit Go.Joins Go.Shelf
attribute [local go_sem] Oper.semAt_some

theorem flat_len {cs : List UInt8} : ∀ {l : List Int}, mays cs l → ((txs cs l).flatMap (32 :: ·)).length ≤ 31 * cs.length := by
  induction cs with
  | nil => intro l _; simp [txs]
  | cons c cs ih =>
    intro l h
    cases l with
    | nil => exact h.elim
    | cons n ns =>
      have := tx_len h.1
      have := ih h.2
      simp [txs] at *
      omega
theorem til_len {x : I4} (hk : ik x = true) : (til x).length ≤ 200 := by
  obtain ⟨h22, l, hm, ht, hs, hl⟩ := txo_spl (by4 x) hk
  have h1 := flat_len hm
  have h2 := wl_len x.1.toNat
  have h3 := fl_len x.1.toNat
  have e : til x = wl x.1.toNat ++ (txs (fl x.1.toNat) l).flatMap (32 :: ·) := ht
  rw [e, List.length_append]
  omega
theorem lines_short {n m : Nat} {d : List UInt8} {c : List I4} (hm : m ≤ 40) (hn : n ≤ 4096) (hall : c.all ik = true) : ∀ l ∈ linesL n d c m, l.length ≤ 300 := by
  intro l hl
  unfold linesL at hl
  rw [List.mem_cons, List.mem_append, List.mem_map, List.mem_map] at hl
  rcases hl with rfl | ⟨j, _, rfl⟩ | ⟨x, hx, rfl⟩
  · have := siz_len hn; omega
  · unfold datl
    rw [List.length_append, hxl_len, List.length_take]
    simp only [List.length_cons, List.length_nil]
    omega
  · have := til_len (List.all_eq_true.1 hall x hx); omega
theorem lines_many {n m : Nat} {d : List UInt8} {c : List I4} (hm : 1 ≤ m) : (linesL n d c m).length ≤ 1 + d.length + c.length := by
  have h : partsN d.length m ≤ d.length := by
    rcases Nat.eq_zero_or_pos (partsN d.length m) with h | h
    · omega
    · have h1 := (parts_lt (n := d.length) (m := m) hm).1 (partsN d.length m - 1) (by omega)
      have h2 : (partsN d.length m - 1) * 1 ≤ (partsN d.length m - 1) * m := Nat.mul_le_mul_left _ hm
      omega
  unfold linesL
  simp only [List.length_cons, List.length_append, List.length_map, List.length_range]
  omega
set_option maxHeartbeats 16000000 in
set_option maxRecDepth 20000 in
theorem oddlaw_c (w : World) (L : Lf w) (n : Int) (ad ac : Option Addr) (dc cc : Nat) (d : List UInt8) (c : List I4) (at_ wh : Nat) (hat : at_ < 256) (hwh : wh < 256) (hd : CellsIn w ad (d.map bv)) (hc : CellsIn w ac (ics c)) :
    Calls Tryd.prog 8 #[imV n ad d.length dc ac c.length cc, .int .u8 at_, .int .u8 wh] w fun e w' => e = .returned (.bool true) ∧ Below w.heap.size w w' := by
  have H0 := Lib.hid (blk_new (Hp.start w) (.cells #[.int .i64 n, .slice ad d.length dc, .slice ac c.length cc] 25))
  have HD := Lib.hid hd
  have HC := Lib.hid hc
  clear hd hc
  have AC := Lib.hid (fun (w' : World) (r : List Thing) (H : Hp w w' r) => alive_c L H)
  have AB := Lib.hid (alive_c L H0.out)
  go_enter Tryd.func8, Tryd.ntmps8
  go_wp2_with fail
  refine AB.out.mono ?_; rintro e1 w1 ⟨rfl, H1'⟩
  have H1 := Lib.hid H1'
  clear AB H1' H0
  generalize w.heap.size = xb at *
  obtain ⟨x0, x1, x2⟩ := im_cells H1.out
  by_cases hg1 : 300 < d.length
  · have g1 : decide ((300 : Int) < (d.length : Int)) = true := by simp; omega
    go_wp2_with fail
    refine (AC.out _ _ H1.out).mono ?_; rintro e3 wz ⟨rfl, H4⟩
    have HZ := Lib.hid H4
    clear H4
    go_wp2
    go_ret
    exact ⟨rfl, HZ.out.below⟩
  by_cases hg2 : 100 < c.length
  · have g1 : decide ((300 : Int) < (d.length : Int)) = false := by simp; omega
    have g2 : decide ((100 : Int) < (c.length : Int)) = true := by simp; omega
    go_wp2_with fail
    refine (AC.out _ _ H1.out).mono ?_; rintro e3 wz ⟨rfl, H4⟩
    have HZ := Lib.hid H4
    clear H4
    go_wp2
    go_ret
    exact ⟨rfl, HZ.out.below⟩
  have g1 : decide ((300 : Int) < (d.length : Int)) = false := by simp; omega
  have g2 : decide ((100 : Int) < (c.length : Int)) = false := by simp; omega
  have HDL : Hid (d.length ≤ 300 ∧ c.length ≤ 100) := Lib.hid ⟨by omega, by omega⟩
  have G := Lib.hid (imcheck_c n ad ac dc cc d c w1 (HC.out.hp H1.out))
  cases hg3 : imck n d c with
  | false =>
    rw [hg3] at G
    clear hg3
    go_wp2_with fail
    refine G.out.mono ?_; rintro e2 w3 ⟨rfl, hb⟩
    have H3 := Lib.hid (H1.out.below_read hb)
    clear hb G H1 x0 x1 x2
    go_wp2_with fail
    refine (AC.out _ _ H3.out).mono ?_; rintro e3 wz ⟨rfl, H4⟩
    have HZ := Lib.hid H4
    clear H4
    go_wp2
    go_ret
    exact ⟨rfl, HZ.out.below⟩
  | true =>
    rw [hg3] at G
    have HK := Lib.hid hg3
    clear hg3
    obtain ⟨N, rfl⟩ := Int.eq_ofNat_of_zero_le (imck_bounds HK.out).1
    go_wp2_with fail
    refine G.out.mono ?_; rintro e2 w3 ⟨rfl, hb⟩
    have H3 := Lib.hid (H1.out.below_read hb)
    clear hb G H1 x0 x1 x2 g1 g2 hg1 hg2
    obtain ⟨x0, x1, x2⟩ := im_cells H3.out
    have HN : Hid (N ≤ 4096) := Lib.hid (by have := (imck_bounds HK.out).2.1; omega)
    have LN := Lib.hid (ilines_c L N 16 ad ac dc cc d c (by omega) (by omega) HN.out HDL.out.1 HDL.out.2 HD.out HC.out H3.out)
    have HR := Lib.hid (lines_runs 16 (by omega) HK.out)
    have HLL := Lib.hid (lines_short (m := 16) (n := N) (d := d) (c := c) (by omega) HN.out (imck_bounds HK.out).2.2.2.2)
    have HLN := Lib.hid (lines_many (m := 16) (n := N) (d := d) (c := c) (by omega))
    go_wp2_with fail
    refine LN.out.mono ?_; rintro e4 w4 ⟨v4, rfl, K4⟩
    have H4 := Lib.hid K4
    obtain ⟨a4, c4, rfl⟩ := own_slice K4
    clear LN K4 H3 x0 x1 x2
    generalize linesL N d c 16 = ls at *
    obtain ⟨k, hk, hkl⟩ : ∃ k : Nat, (at_ : Int) % ((ls.length : Int) + 1) = (k : Int) ∧ k ≤ ls.length := ⟨at_ % (ls.length + 1), by rw [Int.natCast_emod]; rfl, by have := Nat.mod_lt at_ (show 0 < ls.length + 1 by omega); omega⟩
    obtain ⟨q, hq, hq14⟩ : ∃ q : Nat, (wh : Int) % 14 = (q : Int) ∧ q < 14 := ⟨wh % 14, by omega, by omega⟩
    obtain ⟨od, hod⟩ : ∃ od, odd14[q]? = some od := ⟨_, List.getElem?_eq_getElem (by show q < 14; exact hq14)⟩
    have HOD := Lib.hid (List.mem_of_getElem? hod)
    have ko : (w4.alloc (.cells ODDS 9)).cell? ⟨w4.heap.size, q, none⟩ = some (strv od) := by
      rw [cell_blk (blk_alloc_new w4 _) q, odds_eq]
      simp [hod]
    have hw1 : IntKind.i64.wrap ((ls.length : Int) + 1) = (ls.length : Int) + 1 := by rw [IntKind.wrap_i64]; have := HLN.out; have := HDL.out; omega
    have hz : ¬ (ls.length : Int) + 1 = 0 := by omega
    have hq0 : (q : Int) < 14 := by omega
    have ha0 : (0 : Int) ≤ (at_ : Int) := by omega
    have hb0 : (0 : Int) < (ls.length : Int) + 1 := by omega
    have HKL := Lib.hid hkl
    clear hod hq14 hkl
    go_wp2
    generalize (at_ : Int) % ((ls.length : Int) + 1) = kk at *
    subst hk
    clear ko hz hq0 ha0 hb0 hq hw1
    have H5 := Lib.hid (H4.out.alloc (.cells ODDS 9))
    clear H4
    generalize (w4.alloc (.cells ODDS 9)) = w5 at *
    go_loopw [10, 11] (fun s10 s11 wr => ∃ (i : Nat) (s : List UInt8), i ≤ ls.length + 1 ∧ s11 = .int .i64 i ∧ s10 = strv s ∧ s.length ≤ 1000 * i ∧ Hid (s = nls (built ls od k i)) ∧ Hid (Hp w wr [OwnS (.slice a4 ls.length c4) ls, IM xb (N : Int) (.slice ad d.length dc) (.slice ac c.length cc)])) (fun _ s11 _ => ls.length + 1 - (intOf s11).toNat)
    case atStart => exact ⟨0, [], by omega, rfl, rfl, by simp, Lib.hid (by simp [built, nls]), H5⟩
    case round =>
      obtain ⟨i, s, hle, rfl, rfl, hslen, hs, hH⟩ := hrel
      clear H5
      have hlen : ls.length ≤ 401 := by have := HLN.out; have := HDL.out; omega
      have hod20 := (odd_bad od HOD.out).2.2.2
      by_cases hi : i ≤ ls.length
      · have c1 : (i : Int) ≤ (ls.length : Int) := by omega
        by_cases hik : i = k
        · subst hik
          by_cases hi2 : i < ls.length
          · obtain ⟨g4, cap4, e4, ci⟩ := own_cell hH.out i (strv ls[i]) (by rw [List.getElem?_map, List.getElem?_eq_getElem hi2]; rfl)
            cases e4
            have HX : Hid (ls[i].length ≤ 300) := Lib.hid (HLL.out _ (List.getElem_mem hi2))
            have hst := Lib.hid (built_at (od := od) hi2)
            generalize ls[i] = x at *
            have hx := HX.out
            have k1 : (⟨s.toArray⟩ ++ ⟨od.toArray⟩ ++ ⟨#[10]⟩ : ByteArray) = ⟨(s ++ od ++ [10]).toArray⟩ := by rw [str_app2]; exact str_app2 _ [10]
            obtain ⟨s1, hs1⟩ : ∃ s1, s1 = s ++ od ++ [10] := ⟨_, rfl⟩
            rw [← hs1] at k1
            have hl1 : s1.length ≤ s.length + 21 := by rw [hs1]; simp; omega
            have l1 : ¬ 9223372036854775807 < s.length + od.length := by omega
            have l2 : ¬ 9223372036854775807 < s.length + od.length + 1 := by omega
            have k2 : (⟨s1.toArray⟩ ++ ⟨x.toArray⟩ ++ ⟨#[10]⟩ : ByteArray) = ⟨(s1 ++ x ++ [10]).toArray⟩ := by rw [str_app2]; exact str_app2 _ [10]
            obtain ⟨s2, hs2⟩ : ∃ s2, s2 = s1 ++ x ++ [10] := ⟨_, rfl⟩
            rw [← hs2] at k2
            have hl2 : s2.length ≤ s1.length + 301 := by rw [hs2]; simp; omega
            have l3 : ¬ 9223372036854775807 < s1.length + x.length := by omega
            have l4 : ¬ 9223372036854775807 < s1.length + x.length + 1 := by omega
            have hcb : Hid (s2.length ≤ 1000 * (i + 1)) := Lib.hid (by omega)
            have hsn : Hid (s2 = nls (built ls od i (i + 1))) := Lib.hid (by rw [hst.out, nls_app, ← hs.out, hs2, hs1]; simp [nls])
            have hkw : IntKind.i64.wrap ((i : Int) + 1) = (i : Int) + 1 := by rw [IntKind.wrap_i64]; omega
            have c2 : (i : Int) < (ls.length : Int) := by omega
            have HI := Lib.hid hle
            clear hs hst hle hslen hlen hod20
            clear hs1 hl1
            clear hs2 hl2 hx HX hi2
            go_wp2
            go_roundw
            case rel => exact ⟨i + 1, s2, by have := HI.out; omega, by go_num, rfl, hcb.out, hsn, hH⟩
            case measure => have := HI.out; simp [intOf]; omega
          · have hst := Lib.hid (built_last (ls := ls) (od := od) (k := i) (by omega))
            have k1 : (⟨s.toArray⟩ ++ ⟨od.toArray⟩ ++ ⟨#[10]⟩ : ByteArray) = ⟨(s ++ od ++ [10]).toArray⟩ := by rw [str_app2]; exact str_app2 _ [10]
            obtain ⟨s1, hs1⟩ : ∃ s1, s1 = s ++ od ++ [10] := ⟨_, rfl⟩
            rw [← hs1] at k1
            have hl1 : s1.length ≤ s.length + 21 := by rw [hs1]; simp; omega
            have l1 : ¬ 9223372036854775807 < s.length + od.length := by omega
            have l2 : ¬ 9223372036854775807 < s.length + od.length + 1 := by omega
            have hcb : Hid (s1.length ≤ 1000 * (i + 1)) := Lib.hid (by omega)
            have hsn : Hid (s1 = nls (built ls od i (i + 1))) := Lib.hid (by rw [hst.out, nls_app, ← hs.out, hs1]; simp [nls])
            have hkw : IntKind.i64.wrap ((i : Int) + 1) = (i : Int) + 1 := by rw [IntKind.wrap_i64]; omega
            have c2 : ¬ (i : Int) < (ls.length : Int) := by omega
            have HI := Lib.hid hle
            clear hs hst hle hslen hlen hod20
            clear hs1 hl1
            clear hi2
            go_wp2
            go_roundw
            case rel => exact ⟨i + 1, s1, by have := HI.out; omega, by go_num, rfl, hcb.out, hsn, hH⟩
            case measure => have := HI.out; simp [intOf]; omega
        · have ce : ((i : Int) == (k : Int)) = false := by rw [beq_eq_false_iff_ne]; omega
          have ce2 : ¬ (i : Int) = (k : Int) := by omega
          have hki : ls.length ≤ i → k < i := by have := HKL.out; omega
          by_cases hi2 : i < ls.length
          · clear hki
            obtain ⟨g4, cap4, e4, ci⟩ := own_cell hH.out i (strv ls[i]) (by rw [List.getElem?_map, List.getElem?_eq_getElem hi2]; rfl)
            cases e4
            have HX : Hid (ls[i].length ≤ 300) := Lib.hid (HLL.out _ (List.getElem_mem hi2))
            have hst := Lib.hid (built_lt (od := od) hik hi2)
            generalize ls[i] = x at *
            have hx := HX.out
            have k2 : (⟨s.toArray⟩ ++ ⟨x.toArray⟩ ++ ⟨#[10]⟩ : ByteArray) = ⟨(s ++ x ++ [10]).toArray⟩ := by rw [str_app2]; exact str_app2 _ [10]
            obtain ⟨s2, hs2⟩ : ∃ s2, s2 = s ++ x ++ [10] := ⟨_, rfl⟩
            rw [← hs2] at k2
            have hl2 : s2.length ≤ s.length + 301 := by rw [hs2]; simp; omega
            have l3 : ¬ 9223372036854775807 < s.length + x.length := by omega
            have l4 : ¬ 9223372036854775807 < s.length + x.length + 1 := by omega
            have hcb : Hid (s2.length ≤ 1000 * (i + 1)) := Lib.hid (by omega)
            have hsn : Hid (s2 = nls (built ls od k (i + 1))) := Lib.hid (by rw [hst.out, nls_app, ← hs.out, hs2]; simp [nls])
            have hkw : IntKind.i64.wrap ((i : Int) + 1) = (i : Int) + 1 := by rw [IntKind.wrap_i64]; omega
            have c2 : (i : Int) < (ls.length : Int) := by omega
            have HI := Lib.hid hle
            clear hs hst hle hslen hlen hod20
            clear hs2 hl2 hx HX hi2
            go_wp2
            go_roundw
            case rel => exact ⟨i + 1, s2, by have := HI.out; omega, by go_num, rfl, hcb.out, hsn, hH⟩
            case measure => have := HI.out; simp [intOf]; omega
          · have hki2 := hki (by omega)
            clear hki
            have hst := Lib.hid (built_end (ls := ls) (od := od) (k := k) (i := i) (by omega) (by omega))
            have hcb : Hid (s.length ≤ 1000 * (i + 1)) := Lib.hid (by omega)
            have hsn : Hid (s = nls (built ls od k (i + 1))) := Lib.hid (by rw [hst.out]; exact hs.out)
            have hkw : IntKind.i64.wrap ((i : Int) + 1) = (i : Int) + 1 := by rw [IntKind.wrap_i64]; omega
            have c2 : ¬ (i : Int) < (ls.length : Int) := by omega
            have HI := Lib.hid hle
            clear hs hst hle hslen hlen hod20
            clear hi2
            go_wp2
            go_roundw
            case rel => exact ⟨i + 1, s, by have := HI.out; omega, by go_num, rfl, hcb.out, hsn, hH⟩
            case measure => have := HI.out; simp [intOf]; omega
      · obtain rfl : i = ls.length + 1 := by omega
        have hp := odd_parse HR.out HKL.out HOD.out
        rw [← hs.out] at hp
        have k1 : (⟨s.toArray⟩ ++ ⟨od.toArray⟩ : ByteArray) = ⟨(s ++ od).toArray⟩ := str_app2 _ _
        have ht : Hid ((s ++ od).length < 4294967281) := Lib.hid (by rw [List.length_append]; omega)
        have l1 : ¬ 9223372036854775807 < s.length + od.length := by omega
        generalize s ++ od = t at *
        have PC := imparse_c L t ht.out hH.out
        rw [hp] at PC
        have P := Lib.hid PC
        have c1 : ¬ ((ls.length : Int) + 1 ≤ (ls.length : Int)) := by omega
        clear hp PC ht hs hslen hlen hod20 hi hle
        go_wp2_with fail
        refine P.out.mono ?_; intro e6 w6 h6
        obtain ⟨rfl, H6⟩ := h6
        have H7 := Lib.hid (H6.alloc (.cells #[.int .i64 0, .slice none 0 0, .slice none 0 0] 25))
        clear P H6 hH
        go_wp2
        go_ret
        exact ⟨rfl, H7.out.below⟩
end Go.Proofs.YtcfoljdpffonhaaDoor
