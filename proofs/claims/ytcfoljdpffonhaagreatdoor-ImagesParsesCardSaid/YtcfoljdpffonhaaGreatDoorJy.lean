/- Instructions: the document's Parse, walked to its end. -/
import Derived.Test.YtcfoljdpffonhaaGreatDoorJx
import Derived.RegionTactic
import Derived.ChangeAlike
import Derived.BigRegion
set_option linter.unusedVariables false
set_option linter.unusedSimpArgs false
namespace Go.Proofs.YtcfoljdpffonhaaGreatDoor
open Go.RowKit Go.Joins Go.Shelf
attribute [local go_sem] Oper.semAt_some

def slen : Value → Nat
  | .slice _ n _ => n
  | _ => 0
theorem pad3 (bs : List Int) (j : Nat) (h : bs.length + j = 3) : bs ++ List.replicate j 0 = [g3 bs 0, g3 bs 1, g3 bs 2] := by
  obtain rfl : j = 3 - bs.length := by omega
  match bs, h with
  | [], _ => rfl
  | [_], _ => rfl
  | [_, _], _ => rfl
  | [_, _, _], _ => rfl
  | _ :: _ :: _ :: _ :: _, h => exact absurd h (by simp)
theorem blk_news {w : World} {g : Nat} {l : List Value} {t : TypeId} (h : w.heap[g]? = some (.cells l.toArray t (0, 0))) : ∀ j u, l[j]? = some u → w.cell? ((⟨g, 0, none⟩ : Addr).add j) = some u := by
  intro j u hj
  rw [show (⟨g, 0, none⟩ : Addr).add j = ⟨g, 0 + j, none⟩ from Addr.add_lit g 0 j, cell_blk h, Nat.zero_add]
  simpa using hj
theorem g3_lt {bs : List Int} (h : ∀ x ∈ bs, 0 ≤ x ∧ x < 256) (k : Nat) : 0 ≤ g3 bs k ∧ g3 bs k < 256 := by
  unfold g3
  rw [List.getD_eq_getElem?_getD]
  cases e : bs[k]? with
  | none => simp
  | some v => exact h v (List.mem_of_getElem? e)
theorem rfd_len {c : UInt8} (hc : isK c = true) {s : List UInt8} {b : List Int} (h : rfd c s = some b) : 1 ≤ b.length ∧ b.length ≤ 2 := by
  rw [rfd_pk hc] at h
  cases hp : pk c s with
  | none => rw [hp] at h; cases h
  | some n =>
    rw [hp] at h
    simp only at h
    split at h
    · cases h
      rw [byt_len]
      unfold kby; split <;> omega
    · cases h
set_option maxHeartbeats 16000000 in
set_option maxRecDepth 20000 in
theorem rparse_c {w0 w : World} {r : List Thing} (s : List UInt8) (hs : s.length ≤ 1048576) (H : Hp w0 w r) :
    Calls Tryz.prog 71 #[strv s] w fun e w' => e = .returned (.tuple #[pvv (prs s), .int .i64 (if (prs s).isSome then 0 else 14)]) ∧ Hp w0 w' r := by
  have H1 := Lib.hid (blk_new H (.cells zS 61))
  have CS := Lib.hid (rparts_c s hs H1.out)
  have hln : ∀ p ∈ spl s, p.length < 9223372036854775807 := fun p hp => by have := spl_len s p hp; omega
  have HAt := Lib.hid (fun k bs => prs_at (s := s) (k := k) (bs := bs))
  have HNo := Lib.hid (prs_none (s := s))
  have HNk := Lib.hid (fun k pt => prs_no_at (s := s) (k := k) (pt := pt))
  obtain ⟨i0, hi, hz0, hz1, hz2⟩ := info_parts info_u8
  generalize her : (if (prs s).isSome then (0 : Int) else 14) = er
  have HER := Lib.hid her
  clear her
  obtain ⟨p0, pt, hsp⟩ := spl_ne s
  rw [hsp] at CS hln HAt HNo
  have HSP := Lib.hid hsp
  have HLN := Lib.hid (fun p hp => hln p (List.mem_cons_of_mem _ hp))
  have hcnt : pt.length ≤ 1048576 := by
    have : (spl s).length ≤ s.length + 1 := spl_count s
    rw [hsp] at this; simp at this; omega
  have HCT := Lib.hid hcnt
  clear H hsp hln hs hcnt
  go_enter Tryz.func71, Tryz.ntmps71
  go_wp2_with fail
  refine CS.out.mono ?_; rintro e w1 ⟨v, rfl, H2⟩
  obtain ⟨B, cv, rfl, -⟩ := own_cell H2 0 (strv p0) rfl
  have H2' := Lib.hid H2
  clear H1 CS H2
  go_wp2_with fail
  refine (words_c H2'.out).mono ?_; rintro e w2 ⟨g, rfl, H3⟩
  have H3' := Lib.hid H3
  clear H2' H3
  go_wp2
  generalize w.heap.size = xb at *
  go_loopw [6] (fun s6 wr => ∃ k : Nat, k ≤ 23 ∧ s6 = .int .i64 k ∧ Hid (∀ o, o < k → pat (p0 :: pt) o = none) ∧ Hid (Hp w0 wr (Blk g (.cells WORDS 9 (0, 0)) :: OwnSp (.slice (some ⟨B, 0, none⟩) (p0 :: pt).length cv) (p0 :: pt) :: Blk xb (.cells zS 61 (0, 0)) :: r))) (fun s6 _ => 23 - (intOf s6).toNat)
  case atStart => exact ⟨0, by omega, rfl, Lib.hid (fun o h => by omega), H3'⟩
  case round =>
    obtain ⟨k, hk, rfl, hN, hH⟩ := hrel
    clear H3'
    by_cases hlt : k < 23
    · have c1 : (k : Int) < 23 := by omega
      have hwk : IntKind.i64.wrap ((k : Int) + 1) = (k : Int) + 1 := by rw [IntKind.wrap_i64]; omega
      have hw8 : IntKind.u8.wrap (k : Int) = k := wrapu8 rfl (by omega) (by omega)
      have HK : Hid (k ≤ 22) := Lib.hid (by omega)
      go_wp2_with fail
      refine (fields_c hH.out).mono ?_; rintro e w4 ⟨g2, rfl, H4⟩
      have y2 : w4.cell? ⟨g2, k, none⟩ = some (.string (fd k)) := (cell_blk (blk_get H4) k).trans (fields_get k HK.out)
      have H5 := Lib.hid H4.tail
      clear H4 hH
      go_upto_region 7 with fail
      clear y2
      have f0 : w4.cell? ⟨B, 0, none⟩ = some (strv p0) := own_cell_at (H5.out.pull 1 rfl) 0 _ rfl
      have f1 : w4.cell? ⟨g, k, none⟩ = some (.string (wd k)) := (cell_blk (blk_get H5.out) k).trans (words_get k HK.out)
      have hfs : (fd k).size = (fl k).length := rfl
      have h3 := fl_len k
      have hcn := HCT.out
      have hw1 : wrap64 (1 + ((fl k).length : Int)) = 1 + ((fl k).length : Int) := by unfold wrap64; omega
      have hw2 : IntKind.i64.wrap (1 + ((fl k).length : Int)) = 1 + ((fl k).length : Int) := by rw [IntKind.wrap_i64]; omega
      have HX : Hid (pat (p0 :: pt) k = none → ∀ o, o < k + 1 → pat (p0 :: pt) o = none) := Lib.hid (fun h o ho => by
        rcases Nat.lt_or_eq_of_le (Nat.le_of_lt_succ ho) with h1 | rfl
        · exact hN.out o h1
        · exact h)
      by_cases hw : wl k = p0
      · subst hw
        by_cases hl : pt.length = (fl k).length
        · have hne : ((pt.length : Int) + 1 != 1 + ((fl k).length : Int)) = false := by simp; omega
          have hpa : pat (wl k :: pt) k = rd (fl k) pt := by unfold pat; rw [if_pos ⟨rfl, by simp; omega⟩]; rfl
          have HPA := Lib.hid hpa
          have HRR := Lib.hid (rd_rrd HK.out hl)
          have HL := Lib.hid hl
          have H33 := Lib.hid h3
          clear hpa hcn hl
          go_quiet (fail)
          go_wp2
          have H8 := Lib.hid (own_nil (H5.out.drewN nq) 5 1)
          clear f0 f1 H5 hne hw1 hw2 h3
          generalize (w4.drewN nq) = w5 at *
          obtain ⟨fk, ft⟩ := fl_ok k
          have FK := Lib.hid fk
          have FT := Lib.hid ft
          have FD := Lib.hid (fd_get k)
          clear fk ft
          go_loopw [8, 9] (fun s8 s9 wx => ∃ (p : Nat) (bs : List Int), p ≤ (fl k).length ∧ s9 = .int .i64 p ∧ Hid (rrd (fl k) pt = (rrd ((fl k).drop p) (pt.drop p)).map (bs ++ ·)) ∧ Hid (bs.length ≤ 2 * p) ∧ Hid (Hp w0 wx (OwnB s8 bs :: Blk g (.cells WORDS 9 (0, 0)) :: OwnSp (.slice (some ⟨B, 0, none⟩) (wl k :: pt).length cv) (wl k :: pt) :: Blk xb (.cells zS 61 (0, 0)) :: r))) (fun _ s9 _ => (fl k).length - (intOf s9).toNat)
          case atStart => exact ⟨0, [], Nat.zero_le _, rfl, Lib.hid (by simp), Lib.hid (by simp), H8⟩
          case round =>
            obtain ⟨p, bs, hp, rfl, hR, hB, hH⟩ := hrel
            clear H8
            by_cases hlt2 : p < (fl k).length
            · obtain ⟨hl', hfc⟩ := FD.out p hlt2
              have hkc := FK.out _ (List.getElem_mem hlt2)
              have hpl : p < pt.length := by rw [HL.out]; exact hlt2
              have hdr : (fl k).drop p = (fl k)[p] :: (fl k).drop (p + 1) := List.drop_eq_getElem_cons hlt2
              have hdl : pt.drop p = pt[p] :: pt.drop (p + 1) := List.drop_eq_getElem_cons hpl
              have hpb := HLN.out _ (List.getElem_mem hpl)
              have hR2 : rrd (fl k) pt = match rfd (fl k)[p] pt[p] with | some b => (rrd ((fl k).drop (p + 1)) (pt.drop (p + 1))).map ((bs ++ b) ++ ·) | none => none := by
                rw [hR.out, hdr, hdl, rrd]
                cases rfd (fl k)[p] pt[p] with
                | none => rfl
                | some b => simp only [Option.map_map]; congr 1; funext x; simp
              obtain ⟨av, c8, rfl⟩ := own_slice hH.out
              have cB : ∀ (W : World) (r' : List Thing), Hp w0 W (OwnSp (.slice (some ⟨B, 0, none⟩) (wl k :: pt).length cv) (wl k :: pt) :: r') → W.cell? ⟨B, p + 1, none⟩ = some (strv pt[p]) := fun W r' h => own_cell_at h (p + 1) _ (by simp [hpl])
              have CB := Lib.hid cB
              have k0 := cB _ _ (hH.out.pull 2 rfl)
              generalize (fl k)[p] = ch at *
              generalize pt[p] = part at *
              have h1p : IntKind.i64.wrap (1 + (p : Int)) = 1 + (p : Int) := by rw [IntKind.wrap_i64]; have := H33.out; omega
              have h1z : 0 ≤ 1 + (p : Int) := by omega
              have h1t : (1 + (p : Int)).toNat = p + 1 := by omega
              have h1q : IntKind.i64.wrap ((p : Int) + 1) = (p : Int) + 1 := by rw [IntKind.wrap_i64]; have := H33.out; omega
              have hi2 : 1 + (p : Int) < (pt.length : Int) + 1 := by omega
              have hpt1 : p + 1 < pt.length + 1 := by omega
              have HPT := Lib.hid hpl
              have HLT2 := Lib.hid hlt2
              clear hdr hdl hpl hR cB
              cases hfd : rfd ch part with
              | none =>
                rw [hfd] at hR2
                have hpr : prs s = none := HNk.out k pt HK.out HSP.out (by rw [HPA.out, HRR.out, hR2]; rfl)
                obtain rfl : 14 = er := by have := HER.out; rw [hpr] at this; exact this
                have HPR := Lib.hid hpr
                have FC : Hid (∀ (W : World) (R : List Thing), Hp w0 W R → Calls Tryz.prog 102 #[.int .u8 ch.toNat, strv part] W fun e w' => ∃ v, e = .returned (.tuple #[v, .bool false]) ∧ Hp w0 w' R) := Lib.hid (fun W R h => by have := rfield_c hkc part hpb h; rw [hfd] at this; exact this)
                clear hpr hR2 hfd HAt HNo HNk HX HPA HRR hN hB
                go_upto_region 12 with fail
                go_cut [10, 11] from 49 to 59 (fun s10 s11 wx => s11 = .bool false ∧ Hid (Hp w0 wx (OwnB (.slice av bs.length c8) bs :: Blk g (.cells WORDS 9 (0, 0)) :: OwnSp (.slice (some ⟨B, 0, none⟩) (wl k :: pt).length cv) (wl k :: pt) :: Blk xb (.cells zS 61 (0, 0)) :: r)))
                case first =>
                  go_region_held3 (fun x => x.cell? ⟨B, p + 1, none⟩ = some (strv part)) (exact k0) (first | (go_at_call 102; (first | refine (FC.out _ _ hH.out.drew).mono ?_ | refine (FC.out _ _ hH.out).mono ?_); rintro e wf ⟨v, rfl, HF⟩; have k0 := CB.out _ _ (HF.pull 2 rfl)))
                  all_goals go_wp2
                  all_goals go_meet
                  all_goals exact ⟨rfl, Lib.hid HF⟩
                case rest =>
                obtain ⟨rfl, H7⟩ := hcut
                clear hH k0 FC
                have bz := blk_get (H7.out.pull 3 rfl)
                have z0 : wc.cell? ⟨xb, 0, none⟩ = some (.int .u8 0) := cell_blk bz 0
                have e0 := free_blk bz 0
                have z1 : wc.cell? ⟨xb, 1, none⟩ = some (.int .u8 0) := cell_blk bz 1
                have e1 := free_blk bz 1
                have z2 : wc.cell? ⟨xb, 2, none⟩ = some (.int .u8 0) := cell_blk bz 2
                have e2 := free_blk bz 2
                have z3 : wc.cell? ⟨xb, 3, none⟩ = some (.int .u8 0) := cell_blk bz 3
                have e3 := free_blk bz 3
                have H9 := Lib.hid (set4 (v0 := undef) (v1 := undef) (v2 := undef) (v3 := undef) (H7.out.pull 3 rfl) (.int .u8 0) (.int .u8 0) (.int .u8 0) (.int .u8 0))
                clear bz H7
                go_wp2
                exact bodyPost_ret (results_cell_tmp_row rfl _ _ xb _ _ _ _ rfl (blk_get H9.out) Tryz.underlying61 rfl ins_info) rfl ⟨by rw [HPR.out]; rfl, H9.out.tail.tail.tail.tail⟩
              | some b =>
                rw [hfd] at hR2
                have hbl := rfd_len hkc hfd
                have FC : Hid (∀ (W : World) (R : List Thing), Hp w0 W R → Calls Tryz.prog 102 #[.int .u8 ch.toNat, strv part] W fun e w' => ∃ g3, e = .returned (.tuple #[.slice (some ⟨g3, 0, none⟩) b.length b.length, .bool true]) ∧ Hp w0 w' (Blk g3 (.cells (b.map (Value.int .u8)).toArray 5 (0, 0)) :: R)) := Lib.hid (fun W R h => by have := rfield_c hkc part hpb h; rw [hfd] at this; exact this)
                have HR3 := Lib.hid hR2
                have HBL := Lib.hid hbl
                clear hR2 hfd hbl
                go_upto_region 12 with fail
                go_cut [10, 11] from 49 to 59 (fun s10 s11 wx => ∃ gf, s10 = .slice (some ⟨gf, 0, none⟩) b.length b.length ∧ s11 = .bool true ∧ Hid (Hp w0 wx (Blk gf (.cells (b.map (Value.int .u8)).toArray 5 (0, 0)) :: OwnB (.slice av bs.length c8) bs :: Blk g (.cells WORDS 9 (0, 0)) :: OwnSp (.slice (some ⟨B, 0, none⟩) (wl k :: pt).length cv) (wl k :: pt) :: Blk xb (.cells zS 61 (0, 0)) :: r)))
                case first =>
                  go_region_held3 (fun x => x.cell? ⟨B, p + 1, none⟩ = some (strv part)) (exact k0) (first | (go_at_call 102; (first | refine (FC.out _ _ hH.out.drew).mono ?_ | refine (FC.out _ _ hH.out).mono ?_); rintro e wf ⟨gf, rfl, HF⟩; have k0 := CB.out _ _ (HF.pull 3 rfl)))
                  all_goals go_wp2
                  all_goals go_meet
                  all_goals exact ⟨_, rfl, rfl, Lib.hid HF⟩
                case rest =>
                obtain ⟨gf, rfl, rfl, H7⟩ := hcut
                clear hH k0 FC
                go_wp2_with (at_builtin; refine wpList_append_hp rfl (.tmp 63) (.tmp 64) 22 rfl 5 i0 _ 1 1 Tryz.underlying22 hi hz0 hz1 hz2 rfl (by decide) (H7.out.pull 1 rfl) rfl ⟨gf, 0, none⟩ b.length b.length (b.map (Value.int .u8)) rfl (by simp) (blk_news (blk_get H7.out)) (by simp [Value.oneCell']) (by have := hB.out; have := HBL.out; have := HLT2.out; have := H33.out; omega) (by omega) ?_)
                intro v' w6 HA0
                have HA := Lib.hid (ob_snoc (zs := bs) (ys := b) HA0).up1.tail
                obtain ⟨a4, c4, rfl⟩ := own_slice HA0
                clear HA0 H7
                go_wp2
                go_roundw
                case rel => exact ⟨p + 1, bs ++ b, by have := HLT2.out; omega, by go_num, HR3, Lib.hid (by have := hB.out; have := HBL.out; simp; omega), HA⟩
                case measure => have := HLT2.out; simp [intOf]; omega
            · skip
              have hpe : p = (fl k).length := by omega
              subst hpe
              have hrs : rrd (fl k) pt = some bs := by rw [hR.out, List.drop_length]; simp [rrd]
              obtain ⟨hbl, hbr⟩ := rrd_len _ _ _ FK.out hrs
              have hb3 : bs.length ≤ 3 := by have := FT.out; omega
              have hB3 : By3 (g3 bs 0) (g3 bs 1) (g3 bs 2) := ⟨g3_lt hbr 0, g3_lt hbr 1, g3_lt hbr 2⟩
              have HRS := Lib.hid hrs
              have HB3 := Lib.hid hB3
              clear hrs hbl hbr hB3 hR hB hlt2
              obtain ⟨av, c8, rfl⟩ := own_slice hH.out
              have HH0 := Lib.hid hH.out
              clear hH
              go_wp2
              go_loopw [8] (fun s8 wx => ∃ zs : List Int, zs.length ≤ 3 ∧ Hid (∃ j, zs = bs ++ List.replicate j 0) ∧ Hid (Hp w0 wx (OwnB s8 zs :: Blk g (.cells WORDS 9 (0, 0)) :: OwnSp (.slice (some ⟨B, 0, none⟩) (wl k :: pt).length cv) (wl k :: pt) :: Blk xb (.cells zS 61 (0, 0)) :: r))) (fun s8 _ => 3 - slen s8)
              case atStart => exact ⟨bs, hb3, Lib.hid ⟨0, by simp⟩, HH0⟩
              case round =>
                obtain ⟨zs, hz, hj, hH⟩ := hrel
                clear HH0 hb3
                obtain ⟨av2, c9, rfl⟩ := own_slice hH.out
                by_cases h3 : zs.length < 3
                · have h3' : (zs.length : Int) < 3 := by omega
                  have HZ := Lib.hid h3
                  clear h3 hz
                  go_wp2_with (at_builtin; refine wpList_append_hp rfl (.tmp 69) (.tmp 70) 22 rfl 5 i0 _ 1 1 Tryz.underlying22 hi hz0 hz1 hz2 rfl (by decide) (hH.out.alloc _) rfl ⟨wr.heap.size, 0, none⟩ 1 1 [.int .u8 0] rfl rfl (cell_one_at _ _ _ _ rfl) (by simp [Value.oneCell']) (by have := HZ.out; simp; omega) (by omega) ?_)
                  intro v' w6 HA0
                  have HA := Lib.hid (ob_snoc (zs := zs) (ys := [0]) HA0)
                  obtain ⟨a4, c4, rfl⟩ := own_slice HA0
                  clear HA0 hH
                  go_wp2
                  go_roundw
                  case rel => exact ⟨zs ++ [0], by have := HZ.out; simp; omega, Lib.hid (by obtain ⟨j, rfl⟩ := hj.out; exact ⟨j + 1, by simp [List.replicate_succ']⟩), HA⟩
                  case measure => have := HZ.out; simp [slen]; omega
                · have h3' : ¬ (zs.length : Int) < 3 := by omega
                  obtain ⟨j, hjz⟩ := hj.out
                  have e : zs = [g3 bs 0, g3 bs 1, g3 bs 2] := by rw [hjz]; exact pad3 bs j (by have := congrArg List.length hjz; simp at this; omega)
                  clear hjz hj h3 h3' hz
                  subst e
                  obtain ⟨gb, cb, hv, -⟩ := own_cell hH.out 0 (.int .u8 (g3 bs 0)) rfl
                  injection hv with q1 q2 q3
                  subst q1
                  subst q3
                  clear q2
                  have k0 := own_cell_at hH.out 0 (.int .u8 (g3 bs 0)) rfl
                  have k1 := own_cell_at hH.out 1 (.int .u8 (g3 bs 1)) rfl
                  have k2 := own_cell_at hH.out 2 (.int .u8 (g3 bs 2)) rfl
                  go_upto_region 18 with fail
                  have ka0 : (wr.alloc (.cells #[.int .u8 0, .int .u8 0, .int .u8 0, .int .u8 0] 61)).cell? ⟨gb, 0, none⟩ = some (.int .u8 (g3 bs 0)) := cell_alloc_l' _ k0
                  have ka1 : (wr.alloc (.cells #[.int .u8 0, .int .u8 0, .int .u8 0, .int .u8 0] 61)).cell? ⟨gb, 1, none⟩ = some (.int .u8 (g3 bs 1)) := cell_alloc_l' _ k1
                  have ka2 : (wr.alloc (.cells #[.int .u8 0, .int .u8 0, .int .u8 0, .int .u8 0] 61)).cell? ⟨gb, 2, none⟩ = some (.int .u8 (g3 bs 2)) := cell_alloc_l' _ k2
                  go_region
                  have H7 : Hid (Hp w0 ((wr.alloc (.cells #[.int .u8 k, .int .u8 (g3 bs 0), .int .u8 (g3 bs 1), .int .u8 (g3 bs 2)] 61)).drew) (Blk wr.heap.size (.cells #[.int .u8 k, .int .u8 (g3 bs 0), .int .u8 (g3 bs 1), .int .u8 (g3 bs 2)] 61 (0, 0)) :: _)) := Lib.hid (Hp.drew (blk_new hH.out _))
                  clear k0 k1 k2 ka0 ka1 ka2 hH
                  generalize ((wr.alloc (.cells #[.int .u8 k, .int .u8 (g3 bs 0), .int .u8 (g3 bs 1), .int .u8 (g3 bs 2)] 61)).drew) = w7 at *
                  generalize wr.heap.size = tb at *
                  have bt := blk_get H7.out
                  have t0 : w7.cell? ⟨tb, 0, none⟩ = some (.int .u8 k) := cell_blk bt 0
                  have t1 : w7.cell? ⟨tb, 1, none⟩ = some (.int .u8 (g3 bs 0)) := cell_blk bt 1
                  have t2 : w7.cell? ⟨tb, 2, none⟩ = some (.int .u8 (g3 bs 1)) := cell_blk bt 2
                  have t3 : w7.cell? ⟨tb, 3, none⟩ = some (.int .u8 (g3 bs 2)) := cell_blk bt 3
                  have HC := Lib.hid (rcheck_c (op := k) H7.out HB3.out (by have := HK.out; omega))
                  clear bt
                  go_wp2_with fail
                  refine HC.out.mono ?_
                  clear HC t0 t1 t2 t3
                  cases hck : ck k (g3 bs 0) (g3 bs 1) (g3 bs 2) with
                  | true =>
                    have hrd : rd (fl k) pt = some bs := by rw [HRR.out, HRS.out]; simp [hck]
                    have hpr : prs s = some (k, bs) := HAt.out k bs (by have := HK.out; omega) hN.out (HPA.out.trans hrd)
                    obtain rfl : 0 = er := by have := HER.out; rw [hpr] at this; exact this
                    have HPR := Lib.hid hpr
                    rintro e w8 ⟨rfl, H8⟩
                    have H9 := Lib.hid H8
                    have bt := blk_get H8
                    have bz := blk_get (H8.pull 4 rfl)
                    clear hrd hpr hck H7 H8 HAt HNo HNk HX HPA HRR HRS HB3 hN
                    have t0 : w8.cell? ⟨tb, 0, none⟩ = some (.int .u8 k) := cell_blk bt 0
                    have t1 : w8.cell? ⟨tb, 1, none⟩ = some (.int .u8 (g3 bs 0)) := cell_blk bt 1
                    have t2 : w8.cell? ⟨tb, 2, none⟩ = some (.int .u8 (g3 bs 1)) := cell_blk bt 2
                    have t3 : w8.cell? ⟨tb, 3, none⟩ = some (.int .u8 (g3 bs 2)) := cell_blk bt 3
                    have z0 : w8.cell? ⟨xb, 0, none⟩ = some (.int .u8 0) := cell_blk bz 0
                    have e0 := free_blk bz 0
                    have z1 : w8.cell? ⟨xb, 1, none⟩ = some (.int .u8 0) := cell_blk bz 1
                    have e1 := free_blk bz 1
                    have z2 : w8.cell? ⟨xb, 2, none⟩ = some (.int .u8 0) := cell_blk bz 2
                    have e2 := free_blk bz 2
                    have z3 : w8.cell? ⟨xb, 3, none⟩ = some (.int .u8 0) := cell_blk bz 3
                    have e3 := free_blk bz 3
                    have HA := Lib.hid (set4 (v0 := undef) (v1 := undef) (v2 := undef) (v3 := undef) (H9.out.pull 4 rfl) (.int .u8 k) (.int .u8 (g3 bs 0)) (.int .u8 (g3 bs 1)) (.int .u8 (g3 bs 2)))
                    clear bt bz H9
                    go_wp2
                    exact bodyPost_ret (results_cell_tmp_row rfl _ _ xb _ _ _ _ rfl (blk_get HA.out) Tryz.underlying61 rfl ins_info) rfl ⟨by rw [HPR.out]; rfl, HA.out.tail.tail.tail.tail.tail⟩
                  | false =>
                    have hrd : rd (fl k) pt = none := by rw [HRR.out, HRS.out]; simp [hck]
                    have hpa := Lib.hid (HX.out (HPA.out.trans hrd))
                    rintro e w8 ⟨rfl, H8⟩
                    have H9 := Lib.hid H8.tail.tail
                    clear hrd hck H7 H8 HX HPA HRR HRS HB3 hN HAt HNo HNk
                    go_wp2
                    go_roundw
                    case rel => exact ⟨k + 1, by have := HK.out; omega, by go_num, hpa, H9⟩
                    case measure => have := HK.out; simp [intOf]; omega
        · have hne : ((pt.length : Int) + 1 != 1 + ((fl k).length : Int)) = true := by simp; omega
          have hpa := Lib.hid (HX.out (by unfold pat; rw [if_neg (by simp; omega)]))
          clear HX hN hl hcn
          go_quiet (fail)
          go_wp2
          go_roundw
          case rel => exact ⟨k + 1, by omega, by simp, hpa, Lib.hid (Hp.drewN H5.out _)⟩
          case measure => simp [intOf]; omega
      · have hb : (p0 == wl k) = false := by rw [beq_eq_false_iff_ne]; exact fun h => hw h.symm
        have hb2 : (wl k == p0) = false := by rw [beq_eq_false_iff_ne]; exact hw
        have hpa := Lib.hid (HX.out (by unfold pat; rw [if_neg (by simp [hw])]))
        clear HX hN hcn
        have HW := Lib.hid hw
        clear hw
        go_quiet (fail)
        go_wp2
        go_roundw
        case rel => exact ⟨k + 1, by omega, by simp, hpa, Lib.hid (Hp.drewN H5.out _)⟩
        case measure => simp [intOf]; omega
    · obtain rfl : k = 23 := by omega
      have hpr : prs s = none := HNo.out hN.out
      obtain rfl : 14 = er := by have := HER.out; rw [hpr] at this; exact this
      have HPR := Lib.hid hpr
      have bz := blk_get (hH.out.pull 2 rfl)
      have z0 : wr.cell? ⟨xb, 0, none⟩ = some (.int .u8 0) := cell_blk bz 0
      have e0 := free_blk bz 0
      have z1 : wr.cell? ⟨xb, 1, none⟩ = some (.int .u8 0) := cell_blk bz 1
      have e1 := free_blk bz 1
      have z2 : wr.cell? ⟨xb, 2, none⟩ = some (.int .u8 0) := cell_blk bz 2
      have e2 := free_blk bz 2
      have z3 : wr.cell? ⟨xb, 3, none⟩ = some (.int .u8 0) := cell_blk bz 3
      have e3 := free_blk bz 3
      have H5 := Lib.hid (set4 (v0 := undef) (v1 := undef) (v2 := undef) (v3 := undef) (hH.out.pull 2 rfl) (.int .u8 0) (.int .u8 0) (.int .u8 0) (.int .u8 0))
      clear hpr bz HAt HNo HNk hN hH HLN
      go_wp2
      exact bodyPost_ret (results_cell_tmp_row rfl _ _ xb _ _ _ _ rfl (blk_get H5.out) Tryz.underlying61 rfl ins_info) rfl ⟨by rw [HPR.out]; rfl, H5.out.tail.tail.tail⟩
end Go.Proofs.YtcfoljdpffonhaaGreatDoor
