/- Images: an image's lines, as they are written: walked. -/
import Derived.Test.YtcfoljdpffonhaaGreatDoorMb
set_option linter.unusedVariables false
set_option linter.unusedSimpArgs false
namespace Go.Proofs.YtcfoljdpffonhaaGreatDoor
open Go.RowKit Go.Joins Go.Shelf
attribute [local go_sem] Oper.semAt_some

def hxs (x : UInt8) : List UInt8 := [hexd.getD (x.toNat / 16) 0, hexd.getD (x.toNat % 16) 0]
def hxl (l : List UInt8) : List UInt8 := l.flatMap hxs
def datl (m : Nat) (d : List UInt8) (j : Nat) : List UInt8 := [100, 97, 116, 97, 32] ++ hxl ((d.drop (j * m)).take m)
def siz (n : Nat) : List UInt8 := [115, 105, 122, 101, 32] ++ Lib.decDigits n
def til (x : I4) : List UInt8 := txo x.1.toNat x.2.1.toNat x.2.2.1.toNat x.2.2.2.toNat
def partsN (n m : Nat) : Nat := (n + m - 1) / m
def linesL (n : Nat) (d : List UInt8) (c : List I4) (m : Nat) : List (List UInt8) := siz n :: ((List.range (partsN d.length m)).map (datl m d) ++ c.map til)
abbrev OwnS (v : Value) (l : List (List UInt8)) : Thing := Own 9 1 v l.length (l.map strv)
theorem info_str : (Tryz.prog.info? 9).map (fun i => (i.zero, i.size, i.bytes)) = some (some (strv []), 1, 16) := by kernel_rfl
theorem hxl_len (l : List UInt8) : (hxl l).length = 2 * l.length := by
  induction l with
  | nil => rfl
  | cons x l ih => simp [hxl, hxs] at *; omega
theorem hxl_snoc (l : List UInt8) (x : UInt8) : hxl (l ++ [x]) = hxl l ++ hxs x := by simp [hxl]
theorem hex_ext {r : Nat} (h : r < 16) : (⟨#[48, 49, 50, 51, 52, 53, 54, 55, 56, 57, 97, 98, 99, 100, 101, 102]⟩ : ByteArray).extract r (r + 1) = ⟨[hexd.getD r 0].toArray⟩ :=
  match r, h with
  | 0, _ => by rfl
  | 1, _ => by rfl
  | 2, _ => by rfl
  | 3, _ => by rfl
  | 4, _ => by rfl
  | 5, _ => by rfl
  | 6, _ => by rfl
  | 7, _ => by rfl
  | 8, _ => by rfl
  | 9, _ => by rfl
  | 10, _ => by rfl
  | 11, _ => by rfl
  | 12, _ => by rfl
  | 13, _ => by rfl
  | 14, _ => by rfl
  | 15, _ => by rfl
  | n + 16, h => absurd h (by omega)
theorem cat_hex {a b : Nat} (ha : a < 16) (hb : b < 16) (s : List UInt8) : (⟨s.toArray⟩ : ByteArray) ++ (⟨#[48, 49, 50, 51, 52, 53, 54, 55, 56, 57, 97, 98, 99, 100, 101, 102]⟩ : ByteArray).extract a (a + 1) ++ (⟨#[48, 49, 50, 51, 52, 53, 54, 55, 56, 57, 97, 98, 99, 100, 101, 102]⟩ : ByteArray).extract b (b + 1) = ⟨(s ++ [hexd.getD a 0, hexd.getD b 0]).toArray⟩ := by
  rw [hex_ext ha, hex_ext hb, str_app2, str_app2]; simp
theorem parts_eq {n m i j : Nat} (hm : 1 ≤ m) (hi : i = j * m) (h1 : n ≤ i) (h2 : j = 0 ∨ (j - 1) * m < n) : partsN n m = j := by
  unfold partsN
  have e : (j + 1) * m = j * m + m := Nat.succ_mul _ _
  apply Nat.div_eq_of_lt_le
  · rcases h2 with rfl | h2
    · omega
    · by_cases h0 : j = 0
      · subst h0; omega
      · have e2 : (j - 1 + 1) * m = (j - 1) * m + m := Nat.succ_mul _ _
        rw [show j - 1 + 1 = j by omega] at e2
        omega
  · show n + m - 1 < (j + 1) * m
    omega
theorem own_lit {w0 w : World} {r : List Thing} {e : TypeId} {size n : Nat} {cs : Array Value} (H : Hp w0 w r) (hs : cs.size = n * size) (hn : n ≤ maxLen) : Hp w0 (w.alloc (.cells cs e)) (Own e size (.slice (some ⟨w.heap.size, 0, none⟩) n n) n cs.toList :: r) := by
  refine own_new H ((Tch.refl _ w).alloc _) ⟨by simpa using hs, Or.inr ⟨w.heap.size, n, cs, rfl, Nat.le_refl _, blk_alloc_new w _, Nat.le_refl _, hn, hs, ?_⟩⟩
  rw [← hs, ← Array.length_toList, List.take_length]
theorem s_snoc {w0 w : World} {r : List Thing} {v : Value} {ls : List (List UInt8)} {s : List UInt8} (H : Hp w0 w (Own 9 1 v (ls.length + 1) (ls.map strv ++ [strv s]) :: r)) : Hp w0 w (OwnS v (ls ++ [s]) :: r) :=
  own_as H (by simp) (by simp)
theorem take_more {d : List UInt8} {i p : Nat} (hi : i ≤ p) (hp : p < d.length) : (d.drop i).take (p + 1 - i) = (d.drop i).take (p - i) ++ [d[p]] := by
  rw [show p + 1 - i = (p - i) + 1 by omega, List.take_succ_eq_append_getElem (by rw [List.length_drop]; omega)]
  congr 2
  rw [List.getElem_drop]
  congr 1
  omega
set_option maxHeartbeats 16000000 in
set_option maxRecDepth 20000 in
theorem ilines_c {w0 w : World} {r : List Thing} (L : Lf w0) (n m : Nat) (ad ac : Option Addr) (dc cc : Nat) (d : List UInt8) (c : List I4) (hm1 : 1 ≤ m) (hm2 : m ≤ 40) (hn : n ≤ 4096) (hdl : d.length ≤ 300) (hcl : c.length ≤ 100) (hd : CellsIn w0 ad (d.map bv)) (hc : CellsIn w0 ac (ics c)) (H : Hp w0 w r) :
    Calls Tryz.prog 26 #[imV n ad d.length dc ac c.length cc, .int .i64 m] w fun e w' => ∃ v, e = .returned v ∧ Hp w0 w' (OwnS v (linesL n d c m) :: r) := by
  have H1 := Lib.hid (blk_new H (.cells #[.int .i64 n, .slice ad d.length dc, .slice ac c.length cc] 25))
  have HD := Lib.hid hd
  have HC := Lib.hid hc
  have HM := Lib.hid (And.intro hm1 hm2)
  have HDL := Lib.hid (And.intro hdl hcl)
  obtain ⟨i0, hi, hz0, hz1, hz2⟩ := info_parts info_str
  have DG := Lib.hid (digits_c n (by omega))
  have hsl := dec_length n (by omega)
  have hsz : siz n = [115, 105, 122, 101, 32] ++ Lib.decDigits n := rfl
  generalize Lib.decDigits n = s0 at *
  have ks : (⟨#[115, 105, 122, 101, 32]⟩ : ByteArray) ++ ⟨s0.toArray⟩ = ⟨(siz n).toArray⟩ := by rw [hsz]; exact str_app2 [115, 105, 122, 101, 32] s0
  have l1 : ¬ 9223372036854775807 < 5 + s0.length := by omega
  clear hd hc H hm1 hm2 hdl hcl hsz hn
  go_enter Tryz.func26, Tryz.ntmps26
  go_upto_region 1 with fail
  obtain ⟨x0, x1, x2⟩ := im_cells H1.out
  generalize (w.alloc (.cells #[.int .i64 n, .slice ad d.length dc, .slice ac c.length cc] 25)) = w1 at *
  generalize w.heap.size = xb at *
  go_wp2_with fail
  refine (DG.out w1).mono ?_; rintro e w2 ⟨rfl, rfl⟩
  go_wp2
  clear ks l1 hsl DG x0 x1 x2
  have H2 : Hid (Hp w0 (w1.alloc (.cells #[strv (siz n)] 9)) (OwnS (.slice (some ⟨w1.heap.size, 0, none⟩) 1 1) [siz n] :: _)) := Lib.hid (own_lit (n := 1) (size := 1) (e := 9) (cs := #[strv (siz n)]) H1.out rfl (by unfold maxLen; omega))
  clear H1
  generalize (w1.alloc (.cells #[strv (siz n)] 9)) = w2 at *
  generalize w1.heap.size = gs at *
  go_loopw [5, 6] (fun s5 s6 wr => ∃ (j i : Nat) (ls : List (List UInt8)), Hid (i = j * m) ∧ Hid (j = 0 ∨ (j - 1) * m < d.length) ∧ s6 = .int .i64 i ∧ i ≤ 400 ∧ Hid (j ≤ i) ∧ Hid (ls = siz n :: (List.range j).map (datl m d)) ∧ Hid (Hp w0 wr (OwnS s5 ls :: IM xb n (.slice ad d.length dc) (.slice ac c.length cc) :: r))) (fun _ s6 _ => d.length - (intOf s6).toNat)
  case atStart => exact ⟨0, 0, [siz n], Lib.hid (by simp), Lib.hid (Or.inl rfl), rfl, by omega, Lib.hid (Nat.le_refl _), Lib.hid rfl, H2⟩
  case round =>
    obtain ⟨j, i, ls, hij, hj, rfl, hi4, hji, hls, hH⟩ := hrel
    clear H2
    obtain ⟨a5, c5, rfl⟩ := own_slice hH.out
    obtain ⟨x0, x1, x2⟩ := im_cells (hH.out.pull 1 rfl)
    by_cases hlt : i < d.length
    · have j0 : (i : Int) < (d.length : Int) := by omega
      go_wp2
      clear x0 x1 x2
      go_loopw [7, 8] (fun s7 s8 wx => ∃ (p : Nat) (s : List UInt8), i ≤ p ∧ p ≤ d.length ∧ p ≤ i + m ∧ s8 = .int .i64 p ∧ s7 = strv s ∧ s.length ≤ 100 ∧ Hid (s = [100, 97, 116, 97, 32] ++ hxl ((d.drop i).take (p - i))) ∧ Hid (Hp w0 wx (OwnS (.slice a5 ls.length c5) ls :: IM xb n (.slice ad d.length dc) (.slice ac c.length cc) :: r))) (fun _ s8 _ => d.length - (intOf s8).toNat)
      case atStart => exact ⟨i, [100, 97, 116, 97, 32], Nat.le_refl _, by omega, by omega, rfl, rfl, by simp, Lib.hid (by rw [Nat.sub_self]; rfl), hH⟩
      case round =>
        obtain ⟨p, s, hp1, hp2, hp3, rfl, rfl, hs100, hs, hK⟩ := hrel
        clear hH
        obtain ⟨x0, x1, x2⟩ := im_cells (hK.out.pull 1 rfl)
        have hdl := HDL.out.1
        have hm2 := HM.out.2
        by_cases hgo : p < d.length ∧ p < i + m
        · obtain ⟨g1, g2⟩ := hgo
          obtain ⟨g, o, rfl, cp⟩ := byte_cell (HD.out.hp hK.out) g1
          have hst : Hid (s ++ hxs d[p] = [100, 97, 116, 97, 32] ++ hxl ((d.drop i).take (p + 1 - i))) := Lib.hid (by rw [take_more hp1 g1, hxl_snoc, hs.out]; simp)
          have hxd : hxs d[p] = [hexd.getD (d[p].toNat / 16) 0, hexd.getD (d[p].toNat % 16) 0] := rfl
          rw [hxd] at hst
          have hln : Hid (s.length + 2 ≤ 100) := Lib.hid (by
            have := congrArg List.length hs.out
            rw [List.length_append, hxl_len, List.length_take] at this
            simp only [List.length_cons, List.length_nil] at this
            omega)
          clear hxd hs
          generalize d[p] = x at *
          have hx := x.toNat_lt
          obtain ⟨h, hh, hh16⟩ : ∃ h : Nat, h = x.toNat / 16 ∧ h < 16 := ⟨_, rfl, by omega⟩
          obtain ⟨l, hl, hl16⟩ : ∃ l : Nat, l = x.toNat % 16 ∧ l < 16 := ⟨_, rfl, by omega⟩
          rw [← hh, ← hl] at hst
          have q1 : (x.toNat : Int).tdiv 16 = h := by rw [show (16 : Int) = ((16 : Nat) : Int) by rfl, ← Int.ofNat_tdiv, hh]
          have q2 : (x.toNat : Int) / 16 = h := by omega
          have q3 : (x.toNat : Int).tmod 16 = l := by rw [show (16 : Int) = ((16 : Nat) : Int) by rfl, ← Int.ofNat_tmod, hl]
          have q4 : (x.toNat : Int) % 16 = l := by omega
          have q5 : IntKind.u8.wrap (h : Int) = h := by rw [IntKind.wrap_u8]; omega
          have q6 : IntKind.u8.wrap ((h : Int) + 1) = (h : Int) + 1 := by rw [IntKind.wrap_u8]; omega
          have q7 : IntKind.u8.wrap (l : Int) = l := by rw [IntKind.wrap_u8]; omega
          have q8 : IntKind.u8.wrap ((l : Int) + 1) = (l : Int) + 1 := by rw [IntKind.wrap_u8]; omega
          have q9 : ¬ 9223372036854775807 < s.length + (min (h + 1) 16 - h) := by omega
          have q10 : ¬ 9223372036854775807 < s.length + (min (h + 1) 16 - h) + (min (l + 1) 16 - l) := by omega
          have j1 : (p : Int) < (d.length : Int) := by omega
          have j2 : (p : Int) < (i : Int) + (m : Int) := by omega
          have HP := Lib.hid (And.intro hp1 (And.intro g1 g2))
          clear hh hl hp1 hp2 hp3 g1 g2 hx
          go_upto_region 10 with fail
          go_quiet (fail)
          go_wp2
          go_roundw
          case rel => exact ⟨p + 1, _, by have := HP.out; omega, by have := HP.out; omega, by have := HP.out; omega, by go_num, by rw [cat_hex hh16 hl16], by rw [List.length_append]; exact hln.out, hst, Lib.hid (hK.out.drewN _)⟩
          case measure => have := HP.out; simp [intOf]; omega
        · have hs2 : s = datl m d j := by
            rw [hs.out]
            unfold datl
            rw [← hij.out]
            congr 2
            by_cases g1 : p < d.length
            · rw [show p - i = m by omega]
            · rw [List.take_of_length_le (by rw [List.length_drop]; omega), List.take_of_length_le (by rw [List.length_drop]; omega)]
          have HS := Lib.hid hs2
          have hex : ¬ (p : Int) < (d.length : Int) ∨ ((p : Int) < (d.length : Int) ∧ ¬ (p : Int) < (i : Int) + (m : Int)) := by omega
          have HLS : Hid (ls.length ≤ 500) := Lib.hid (by rw [hls.out]; have := hji.out; simp; omega)
          have HI := Lib.hid (And.intro hlt hi4)
          have hi3 : i ≤ 300 := by omega
          clear hs hs2 hp1 hp2 hp3 hgo hlt j0
          rcases hex with g1 | ⟨g1, g2⟩
          all_goals
            go_wp2_with (at_builtin; refine wpList_append_hp rfl (.tmp 61) (.tmp 63) 53 rfl 9 i0 _ 1 16 Tryz.underlying53 hi hz0 hz1 hz2 rfl (by decide) (hK.out.alloc _) rfl ⟨wr.heap.size, 0, none⟩ 1 1 [strv s] rfl rfl (cell_one_new _ _ _) (by simp [Value.oneCell']) (by have := HLS.out; omega) (by omega) ?_; intro v' w3 HA0)
            have HA := Lib.hid (s_snoc HA0)
            clear HA0 hK x0 x1 x2
            go_wp2
            go_roundw
            case rel => exact ⟨j + 1, i + m, ls ++ [s], Lib.hid (by rw [hij.out, Nat.succ_mul]), Lib.hid (Or.inr (by have := HI.out; have := hij.out; rw [Nat.add_sub_cancel]; omega)), by go_num, by omega, Lib.hid (by have := hji.out; have := HM.out; omega), Lib.hid (by rw [hls.out, HS.out, List.range_succ, List.map_append]; rfl), HA⟩
            case measure => have := HI.out; have := HM.out; simp [intOf]; omega
    · have hpt : partsN d.length m = j := parts_eq HM.out.1 hij.out (by omega) hj.out
      have hls2 : Hid (ls = siz n :: (List.range (partsN d.length m)).map (datl m d)) := Lib.hid (by rw [hpt]; exact hls.out)
      have HLS : Hid (ls.length ≤ 500) := Lib.hid (by rw [hls.out]; have := hji.out; simp; omega)
      have j0 : ¬ (i : Int) < (d.length : Int) := by omega
      clear hls hpt hij hj hji hlt hi4
      go_wp2
      clear x0 x1 x2 j0
      go_loopw [5, 10] (fun s5 s10 wr => ∃ (k : Nat) (l2 : List (List UInt8)), k ≤ c.length ∧ s10 = .int .i64 k ∧ Hid (l2 = ls ++ (c.take k).map til) ∧ Hid (Hp w0 wr (OwnS s5 l2 :: IM xb n (.slice ad d.length dc) (.slice ac c.length cc) :: r))) (fun _ s10 _ => c.length - (intOf s10).toNat)
      case atStart => exact ⟨0, ls, Nat.zero_le _, rfl, Lib.hid (by simp), hH⟩
      case round =>
        obtain ⟨k, l2, hk, rfl, hl2, hK⟩ := hrel
        clear hH
        obtain ⟨a6, c6, rfl⟩ := own_slice hK.out
        obtain ⟨x0, x1, x2⟩ := im_cells (hK.out.pull 1 rfl)
        by_cases hlt : k < c.length
        · obtain ⟨gc, oc, rfl, y0, y1, y2, y3⟩ := ins_cells (HC.out.hp hK.out) hlt
          have hst : Hid (l2 ++ [til c[k]] = ls ++ (c.take (k + 1)).map til) := Lib.hid (by rw [List.take_succ_eq_append_getElem hlt, List.map_append, hl2.out]; simp)
          have HL2 : Hid (l2.length ≤ 700) := Lib.hid (by rw [hl2.out, List.length_append, List.length_map, List.length_take]; have := HLS.out; have := HDL.out; omega)
          have HLT := Lib.hid hlt
          have hcl := HDL.out.2
          have TX := Lib.hid (text_c (op := c[k].1.toNat) L hK.out (by4 c[k]))
          have htl : txo c[k].1.toNat c[k].2.1.toNat c[k].2.2.1.toNat c[k].2.2.2.toNat = til c[k] := rfl
          rw [htl] at TX
          generalize (if ck c[k].1.toNat c[k].2.1.toNat c[k].2.2.1.toNat c[k].2.2.2.toNat = true then (0 : Int) else 1) = er at TX
          generalize til c[k] = tx at *
          generalize c[k] = x at *
          obtain ⟨yo, ya, yb, yc⟩ := x
          simp only at y0 y1 y2 y3 TX
          have j1 : (k : Int) < (c.length : Int) := by omega
          have hkw : IntKind.i64.wrap ((k : Int) + 1) = (k : Int) + 1 := by rw [IntKind.wrap_i64]; have := HLT.out; omega
          clear htl hl2 hk hlt
          go_wp2_with fail
          refine TX.out.mono ?_; rintro e w7 ⟨rfl, H7⟩
          have H8 := Lib.hid H7
          clear TX H7 hK y0 y1 y2 y3 x0 x1 x2 j1
          go_wp2_with (at_builtin; refine wpList_append_hp rfl (.tmp 81) (.tmp 83) 53 rfl 9 i0 _ 1 16 Tryz.underlying53 hi hz0 hz1 hz2 rfl (by decide) (H8.out.alloc _) rfl ⟨w7.heap.size, 0, none⟩ 1 1 [strv tx] rfl rfl (cell_one_new _ _ _) (by simp [Value.oneCell']) (by have := HL2.out; omega) (by omega) ?_; intro v' w3 HA0)
          have HA := Lib.hid (s_snoc HA0)
          clear HA0 H8
          go_wp2
          go_roundw
          case rel => exact ⟨k + 1, l2 ++ [tx], by have := HLT.out; omega, by go_num, hst, HA⟩
          case measure => have := HLT.out; simp [intOf]; omega
        · obtain rfl : k = c.length := by omega
          have he : Hid (l2 = linesL n d c m) := Lib.hid (by rw [hl2.out, List.take_length, hls2.out]; simp [linesL])
          have j1 : ¬ (c.length : Int) < (c.length : Int) := by omega
          clear hl2 hk hlt
          go_wp2
          go_ret
          exact ⟨_, rfl, by rw [← he.out]; exact Hp.tail hK.out.up1⟩
end Go.Proofs.YtcfoljdpffonhaaGreatDoor
