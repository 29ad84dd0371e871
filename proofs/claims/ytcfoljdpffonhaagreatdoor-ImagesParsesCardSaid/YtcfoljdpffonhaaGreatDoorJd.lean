/- Instructions: read, Parse: the program's text. -/
import Derived.Test.YtcfoljdpffonhaaGreatDoorJc
import Derived.Deep.AppendLies
set_option linter.unusedVariables false
set_option linter.unusedSimpArgs false
namespace Go.Proofs.YtcfoljdpffonhaaGreatDoor
open Go.RowKit Go.Joins Go.Shelf
attribute [local go_sem] Oper.semAt_some

abbrev OwnB (v : Value) (zs : List Int) : Thing := Own 5 1 v zs.length (zs.map (Value.int .u8))
theorem ob_snoc {w0 w : World} {r : List Thing} {v : Value} {zs : List Int} {ys : List Int} (H : Hp w0 w (Own 5 1 v (zs.length + ys.length) (zs.map (Value.int .u8) ++ ys.map (Value.int .u8)) :: r)) : Hp w0 w (OwnB v (zs ++ ys) :: r) :=
  own_as H (by simp) (by simp)
theorem info_u8 : (Tryz.prog.info? 5).map (fun i => (i.zero, i.size, i.bytes)) = some (some (.int .u8 0), 1, 1) := by kernel_rfl
theorem ob_new {w0 w : World} {r : List Thing} (H : Hp w0 w r) (x : Int) (n : Nat) (e : n = w.heap.size) : Hp w0 (w.alloc (.cells #[.int .u8 x] 5)) (OwnB (.slice (some ⟨n, 0, none⟩) 1 1) [x] :: r) := by
  subst e
  exact own_new H ((Tch.refl _ _).alloc _) (World.ownsRow_lit w #[.int .u8 x] 1 (Nat.le_refl _) (by decide) rfl)
def rv (op : Nat) : Option (List Int) → Value
  | some bs => inS op (bs.getD 0 0) (bs.getD 1 0) (bs.getD 2 0)
  | none => .agg zS
theorem wrapu8 {n m : Int} (h : n % 256 = m % 256) (h0 : 0 ≤ m) (h1 : m < 256) : IntKind.u8.wrap n = m := by
  rw [IntKind.wrap_u8]; omega
theorem own_cell_at {w0 w : World} {r : List Thing} {e : TypeId} {size g n cap m : Nat} {cs : List Value} (h : Hp w0 w (Own e size (.slice (some ⟨g, 0, none⟩) n cap) m cs :: r)) (j : Nat) (u : Value) (hj : cs[j]? = some u) : w.cell? ⟨g, j, none⟩ = some u := by
  obtain ⟨g', cap', hv, hc⟩ := own_cell h j u hj
  injection hv with q
  injection q with q
  injection q with q
  subst q
  exact hc
theorem pad_get (bs : List Int) (k : Nat) (hk : k < 3) : (bs.map (Value.int .u8) ++ [.int .u8 0, .int .u8 0, .int .u8 0])[k]? = some (.int .u8 (bs.getD k 0)) := by
  match bs, k, hk with
  | [], 0, _ => rfl
  | [], 1, _ => rfl
  | [], 2, _ => rfl
  | [_], 0, _ => rfl
  | [_], 1, _ => rfl
  | [_], 2, _ => rfl
  | [_, _], 0, _ => rfl
  | [_, _], 1, _ => rfl
  | [_, _], 2, _ => rfl
  | _ :: _ :: _ :: _, 0, _ => rfl
  | _ :: _ :: _ :: _, 1, _ => rfl
  | _ :: _ :: _ :: _, 2, _ => rfl
set_option maxHeartbeats 8000000 in
set_option maxRecDepth 20000 in
theorem read_c {w0 w : World} {r : List Thing} (L : Lf w0) (op : Nat) (hop : op ≤ 22) (B o : Nat) (cs : Array Value) (ps : List (List UInt8)) (a : Option Addr) (hq : ps.length = (fl op).length) (ha : 0 < ps.length → a = some ⟨B, o, none⟩)
    (hcs : ∀ i (h : i < ps.length), cs[o + i]? = some (strv ps[i])) (hln : ∀ p ∈ ps, p.length ≤ 281474976710656) (H : Hp w0 w (Blk B (.cells cs 9 (0, 0)) :: r)) :
    Calls Tryz.prog 117 #[.int .u8 op, .agg #[.string (wd op), .string (fd op)], .slice a ps.length ps.length] w fun e w' => e = .returned (.tuple #[rv op (rd (fl op) ps), .bool (rd (fl op) ps).isSome]) ∧ Hp w0 w' (Blk B (.cells cs 9 (0, 0)) :: r) := by
  have H1 := blk_new H (.cells #[.string (wd op), .string (fd op)] 146)
  have H2 := blk_new_at H1 (.cells zS 61) (w.heap.size + 1) (size_alloc1 _ _)
  have H3 := Lib.hid (ob_new H2 op (w.heap.size + 1 + 1) (size_alloc2 _ _ _))
  have HA := Lib.hid ha
  have HCS := Lib.hid hcs
  have HLN := Lib.hid hln
  have HQ := Lib.hid hq
  obtain ⟨fk, ft⟩ := fl_ok op
  have FK := Lib.hid fk
  have FD := Lib.hid (fd_get op)
  have F3 : Hid ((fl op).length ≤ 3) := Lib.hid (fl_len op)
  obtain ⟨i0, hi, hz0, hz1, hz2⟩ := info_parts info_u8
  clear H H1 H2 ha hcs hln hq fk ft
  go_enter Tryz.func117, Tryz.ntmps117
  go_upto_region 2 with fail
  have f1 : (((w.alloc (.cells #[.string (wd op), .string (fd op)] 146)).alloc (.cells zS 61)).alloc (.cells #[.int .u8 op] 5)).cell? ⟨w.heap.size, 1, none⟩ = some (.string (fd op)) := cell_blk (blk_get (H3.out.pull 2 rfl)) 1
  generalize (((w.alloc (.cells #[.string (wd op), .string (fd op)] 146)).alloc (.cells zS 61)).alloc (.cells #[.int .u8 op] 5)) = w1 at *
  generalize w.heap.size = xb at *
  have H4 : Hid (Hp w0 (w1.iter (fd op) 0) (Blk w1.heap.size (.stringIter (fd op) 0) :: _)) := Lib.hid (blk_new H3.out _)
  go_wp2
  clear H3 f1
  generalize (w1.iter (fd op) 0) = w2 at *
  generalize w1.heap.size = ib at *
  go_loopw [8] (fun s8 wr => ∃ p bs, p ≤ (fl op).length ∧ bs.length ≤ 2 * p ∧ Hid (rd (fl op) ps = (rd ((fl op).drop p) (ps.drop p)).map (bs ++ ·)) ∧ Hid (Hp w0 wr (Blk ib (.stringIter (fd op) p) :: OwnB s8 ((op : Int) :: bs) :: Blk (xb + 1) (.cells zS 61 (0, 0)) :: Blk xb (.cells #[.string (wd op), .string (fd op)] 146 (0, 0)) :: Blk B (.cells cs 9 (0, 0)) :: r))) (fun _ wr => (fl op).length - wr.iterPos ib)
  case atStart => exact ⟨0, [], Nat.zero_le _, Nat.zero_le _, Lib.hid (by simp), H4⟩
  case round =>
    obtain ⟨p, bs, hp, hbl, hR, hH⟩ := hrel
    have hip : wr.iterPos ib = p := by unfold World.iterPos; rw [blk_get hH.out]
    have HIP := Lib.hid hip
    clear hip H4
    by_cases hlt : p < (fl op).length
    · obtain ⟨hl', hfc⟩ := FD.out p hlt
      have hkc := FK.out _ (List.getElem_mem hlt)
      have hnx : ∀ ty, (Instr.next (.pointer (some ⟨ib, 0, none⟩)) true ty).run Tryz.prog wr = _ := fun ty => Lib.run_next_ascii_at wr ib (fd op) p ty (blk_get hH.out) hl' (by rw [hfc]; exact isK_lt hkc)
      rw [hfc] at hnx
      have H6 := Lib.hid (hH.out.iter (p + 1))
      have hpl : p < ps.length := by rw [HQ.out]; exact hlt
      have hdr : (fl op).drop p = (fl op)[p] :: (fl op).drop (p + 1) := List.drop_eq_getElem_cons hlt
      have hdl : ps.drop p = ps[p] :: ps.drop (p + 1) := List.drop_eq_getElem_cons hpl
      obtain rfl := HA.out (by omega)
      have hcb := HCS.out p hpl
      have hpb := HLN.out _ (List.getElem_mem hpl)
      have hR2 : rd (fl op) ps = match pk (fl op)[p] ps[p] with | some n => if mayK (fl op)[p] n then (rd ((fl op).drop (p + 1)) (ps.drop (p + 1))).map ((bs ++ byt (fl op)[p] n) ++ ·) else none | none => none := by
        rw [hR.out, hdr, hdl]
        simp only [rd]
        cases pk (fl op)[p] ps[p] with
        | none => rfl
        | some n =>
          simp only
          split
          · cases rd ((fl op).drop (p + 1)) (ps.drop (p + 1)) <;> simp
          · rfl
      have hpl' : (p : Int) < (ps.length : Int) := by omega
      generalize (fl op)[p] = ch at *
      generalize ps[p] = part at *
      have HR := Lib.hid hR2
      have hen := enters_kfp ch
      clear hR2 hdr hdl hR hH hpl
      go_wp2_with fail
      refine (kinds_c H6.out).mono ?_; rintro e wk ⟨m, rfl, HK⟩
      obtain ⟨bb, hlk, hlo, hhi⟩ := kmap_look2 HK hkc
      clear hnx
      go_upto_region 6 with fail
      have H7 := Lib.hid (blk_new HK (.cells #[.int .i64 (kby ch), lamB bb, fn_ (kft ch), fn_ (kfp ch)] 152))
      have lo7 : (wk.alloc (.cells #[.int .i64 (kby ch), lamB bb, fn_ (kft ch), fn_ (kfp ch)] 152)).cell? ⟨bb, 0, none⟩ = some (.int .i64 (klo ch)) := cell_alloc_l' _ hlo
      have hi7 : (wk.alloc (.cells #[.int .i64 (kby ch), lamB bb, fn_ (kft ch), fn_ (kfp ch)] 152)).cell? ⟨bb + 1, 0, none⟩ = some (.int .i64 (khi ch)) := cell_alloc_l' _ hhi
      have k3 : (wk.alloc (.cells #[.int .i64 (kby ch), lamB bb, fn_ (kft ch), fn_ (kfp ch)] 152)).cell? ⟨wk.heap.size, 3, none⟩ = some (fn_ (kfp ch)) := cell_blk (blk_get H7.out) 3
      have cB : (wk.alloc (.cells #[.int .i64 (kby ch), lamB bb, fn_ (kft ch), fn_ (kfp ch)] 152)).cell? ⟨B, o + p, none⟩ = some (strv part) := (cell_blk (blk_get (H7.out.pull 6 rfl)) (o + p)).trans hcb
      clear hlk hlo hhi HK H6
      generalize (wk.alloc (.cells #[.int .i64 (kby ch), lamB bb, fn_ (kft ch), fn_ (kfp ch)] 152)) = w4 at *
      generalize wk.heap.size = kb at *
      obtain ⟨a2, c2, rfl⟩ := own_slice (H7.out.pull 3 rfl)
      have k0 : w4.cell? ⟨kb, 0, none⟩ = some (.int .i64 (kby ch)) := cell_blk (blk_get H7.out) 0
      have k1 : w4.cell? ⟨kb, 1, none⟩ = some (lamB bb) := cell_blk (blk_get H7.out) 1
      have PK := Lib.hid (parse_k (L.hp H7.out) ch part hpb (Hp.start w4).drew)
      go_region_held3 (fun x => x.cell? ⟨kb, 3, none⟩ = some (fn_ (kfp ch)) ∧ x.cell? ⟨B, o + p, none⟩ = some (strv part)) (first | exact ⟨k3, cB⟩ | exact ⟨k3', cB'⟩) (first | (go_at_fn (kfp ch); refine PK.out.mono ?_; rintro e w5 ⟨v, rfl, hv, HB⟩; have hB := HB.below; have k3' : w5.cell? ⟨kb, 3, none⟩ = some (fn_ (kfp ch)) := ((hB.cell (cell_lt k3)).trans k3); have cB' : w5.cell? ⟨B, o + p, none⟩ = some (strv part) := ((hB.cell (cell_lt cB)).trans cB)))
      have k0' := (hB.cell (cell_lt k0)).trans k0
      have k1' := (hB.cell (cell_lt k1)).trans k1
      have lo8 := (hB.cell (cell_lt lo7)).trans lo7
      have hi8 := (hB.cell (cell_lt hi7)).trans hi7
      have H8 := Lib.hid (H7.out.below_read hB)
      clear k0 k1 k3 k3' cB cB' lo7 hi7 H7 PK HB hB
      have bz := blk_get (H8.out.pull 4 rfl)
      have z0 : w5.cell? ⟨xb + 1, 0, none⟩ = some (.int .u8 0) := cell_blk bz 0
      have z1 : w5.cell? ⟨xb + 1, 1, none⟩ = some (.int .u8 0) := cell_blk bz 1
      have z2 : w5.cell? ⟨xb + 1, 2, none⟩ = some (.int .u8 0) := cell_blk bz 2
      have z3 : w5.cell? ⟨xb + 1, 3, none⟩ = some (.int .u8 0) := cell_blk bz 3
      have e0 := free_blk bz 0
      have e1 := free_blk bz 1
      have e2 := free_blk bz 2
      have e3 := free_blk bz 3
      have HV := Lib.hid hv
      clear bz hv
      cases hpk : pk ch part with
      | none =>
        have hrd : rd (fl op) ps = none := by rw [HR.out, hpk]
        have HRD := Lib.hid hrd
        have H5 := Lib.hid (set4 (v0 := undef) (v1 := undef) (v2 := undef) (v3 := undef) (H8.out.pull 4 rfl) (.int .u8 0) (.int .u8 0) (.int .u8 0) (.int .u8 0))
        clear hrd hpk HR HV H8 k0' k1' lo8 hi8
        go_wp2
        exact bodyPost_ret (results_cell_tmp_row rfl _ _ (xb + 1) _ _ _ _ rfl (blk_get H5.out) Tryz.underlying61 rfl ins_info) rfl ⟨by rw [HRD.out]; rfl, H5.out.tail.tail.tail.tail.tail.tail⟩
      | some n =>
        obtain rfl := HV.out n hpk
        have LC := Lib.hid (lam_c v (klo ch) (khi ch) bb w5 lo8 hi8)
        have hmm : (decide (klo ch ≤ v) && decide (v < khi ch)) = mayK ch v := rfl
        rw [hmm] at LC
        clear hmm lo8 hi8
        by_cases hm : mayK ch v = true
        · rw [hm] at LC
          have hR3 : rd (fl op) ps = (rd ((fl op).drop (p + 1)) (ps.drop (p + 1))).map ((bs ++ byt ch v) ++ ·) := by rw [HR.out, hpk]; simp [hm]
          have HR3 := Lib.hid hR3
          clear hpk HR HV hR3
          go_wp2_with fail
          refine LC.out.mono ?_; rintro e w6 ⟨rfl, rfl⟩
          have hbd := may_lt hm
          obtain ⟨a3, c3, hv3⟩ := own_slice (H8.out.pull 3 rfl)
          injection hv3 with q1 q2 q3
          clear q1 q2 q3
          have H9 := Lib.hid (H8.out.pull 3 rfl)
          have hpos : ∀ (W : World) (r' : List Thing), Hp w0 W (Blk ib (.stringIter (fd op) (p + 1)) :: r') → W.iterPos ib = p + 1 := fun W r' h => by unfold World.iterPos; rw [blk_get h]
          have HP := Lib.hid hpos
          clear hpos H8 LC k1'
          by_cases hk2 : kby ch = 2
          · have kk : w5.cell? ⟨kb, 0, none⟩ = some (.int .i64 2) := by rw [k0', hk2]; rfl
            have hby : byt ch v = [v / 256, v % 256] := by unfold byt; rw [if_pos hk2]
            rw [hby] at HR3
            obtain ⟨b0, b1, -⟩ := hbd
            clear k0' hm hk2 hby
            have hb6 : bs.length ≤ 6 := by have := F3.out; omega
            go_wp2_with (at_builtin; refine wpList_append_hp rfl (.tmp 49) (.tmp 53) 22 rfl 5 i0 _ 1 1 Tryz.underlying22 hi hz0 hz1 hz2 rfl (by decide) (H9.out.alloc _) rfl ⟨w5.heap.size, 0, none⟩ 1 1 [.int .u8 (v / 256)] rfl rfl (cell_one_at _ _ _ _ rfl) (by simp [Value.oneCell']) (by simp; omega) (by omega) ?_)
            intro v' w6 HA0
            have HA := Lib.hid (ob_snoc (zs := (op : Int) :: bs) (ys := [v / 256]) HA0)
            obtain ⟨a4, c4, rfl⟩ := own_slice HA0
            clear HA0 H9 kk
            go_wp2_with (at_builtin; refine wpList_append_hp rfl (.tmp 55) (.tmp 58) 22 rfl 5 i0 _ 1 1 Tryz.underlying22 hi hz0 hz1 hz2 rfl (by decide) (HA.out.alloc _) rfl ⟨w6.heap.size, 0, none⟩ 1 1 [.int .u8 (v % 256)] rfl rfl (cell_one_at _ _ _ _ rfl) (by simp [Value.oneCell']) (by simp; omega) (by omega) ?_)
            intro v' w7 HB0
            have HB : Hid (Hp w0 w7 (OwnB v' ((op : Int) :: (bs ++ [v / 256, v % 256])) :: _)) := Lib.hid (own_as HB0 (by simp) (by simp))
            obtain ⟨a5, c5, rfl⟩ := own_slice HB0
            clear HB0 HA
            have HF := Lib.hid HB.out.up1.tail.up1.tail.up1
            have hps := HP.out _ _ HF.out
            have HPS := Lib.hid hps
            clear HB hps
            go_wp2
            go_roundw
            case rel => exact ⟨p + 1, bs ++ [v / 256, v % 256], by omega, by simp; omega, HR3, HF⟩
            case measure => rw [HPS.out, HIP.out]; omega
          · have hk1 : kby ch = 1 := by unfold kby at hk2 ⊢; split at hk2 <;> simp_all
            have hv8 : v < 256 := by
              have := hm
              unfold mayK khi at this
              simp only [Bool.and_eq_true, decide_eq_true_eq] at this
              have h110 : ¬ (ch == 110) = true := by intro h; apply hk2; unfold kby; rw [if_pos h]
              have h2 := this.2
              rw [if_neg h110] at h2
              split at h2
              · omega
              · split at h2 <;> omega
            have kk : w5.cell? ⟨kb, 0, none⟩ = some (.int .i64 1) := by rw [k0', hk1]; rfl
            have hby : byt ch v = [v] := by unfold byt; rw [if_neg hk2]
            rw [hby] at HR3
            obtain ⟨b0, b1, -⟩ := hbd
            clear k0' hm hk2 hby hk1
            have hb6 : bs.length ≤ 6 := by have := F3.out; omega
            go_wp2_with (at_builtin; refine wpList_append_hp rfl (.tmp 55) (.tmp 58) 22 rfl 5 i0 _ 1 1 Tryz.underlying22 hi hz0 hz1 hz2 rfl (by decide) (H9.out.alloc _) rfl ⟨w5.heap.size, 0, none⟩ 1 1 [.int .u8 v] rfl rfl (cell_one_at _ _ _ _ rfl) (by simp [Value.oneCell']) (by simp; omega) (by omega) ?_)
            intro v' w7 HB0
            have HB : Hid (Hp w0 w7 (OwnB v' ((op : Int) :: (bs ++ [v])) :: _)) := Lib.hid (own_as HB0 (by simp) (by simp))
            obtain ⟨a5, c5, rfl⟩ := own_slice HB0
            clear HB0 H9 kk
            have HF := Lib.hid HB.out.up1.tail.up1.tail.up1
            have hps := HP.out _ _ HF.out
            have HPS := Lib.hid hps
            clear HB hps
            go_wp2
            go_roundw
            case rel => exact ⟨p + 1, bs ++ [v], by omega, by simp; omega, HR3, HF⟩
            case measure => rw [HPS.out, HIP.out]; omega
        · have hm' : mayK ch v = false := by simpa using hm
          rw [hm'] at LC
          have hrd : rd (fl op) ps = none := by rw [HR.out, hpk]; simp [hm']
          have HRD := Lib.hid hrd
          have H5 := Lib.hid (set4 (v0 := undef) (v1 := undef) (v2 := undef) (v3 := undef) (H8.out.pull 4 rfl) (.int .u8 0) (.int .u8 0) (.int .u8 0) (.int .u8 0))
          clear hrd hpk HR HV H8 k0' hm hm'
          go_wp2_with fail
          refine LC.out.mono ?_; rintro e w6 ⟨rfl, rfl⟩
          go_wp2
          exact bodyPost_ret (results_cell_tmp_row rfl _ _ (xb + 1) _ _ _ _ rfl (blk_get H5.out) Tryz.underlying61 rfl ins_info) rfl ⟨by rw [HRD.out]; rfl, H5.out.tail.tail.tail.tail.tail.tail⟩
    · have hpe : p = (fl op).length := by omega
      have hnx : ∀ ty, (Instr.next (.pointer (some ⟨ib, 0, none⟩)) true ty).run Tryz.prog wr = _ := fun ty => Lib.run_next_end_at wr ib (fd op) p ty (blk_get hH.out) (by show ¬ p < (fl op).length; exact hlt)
      have hR2 : rd (fl op) ps = some bs := by rw [hR.out, List.drop_of_length_le (show (fl op).length ≤ p by omega)]; simp [rd]
      have HR := Lib.hid hR2
      have hb6 : bs.length ≤ 6 := by have := F3.out; omega
      obtain ⟨a2, c2, rfl⟩ := own_slice (hH.out.pull 1 rfl)
      have H9 := Lib.hid (hH.out.pull 1 rfl)
      clear hR2 hR hH
      go_wp2_with (at_builtin; refine wpList_append_hp rfl (.tmp 60) (.tmp 61) 22 rfl 5 i0 _ 1 1 Tryz.underlying22 hi hz0 hz1 hz2 rfl (by decide) (H9.out.alloc _) rfl ⟨wr.heap.size, 0, none⟩ 3 3 [.int .u8 0, .int .u8 0, .int .u8 0] rfl rfl (World.news_of_block (heap_alloc_new wr _)) (by simp [Value.oneCell']) (by simp; omega) (by omega) ?_)
      intro v' w7 HB0
      obtain ⟨g, cap, rfl, y1⟩ := own_cell HB0 1 (.int .u8 (bs.getD 0 0)) (by simp only [List.getElem?_cons_succ]; exact pad_get bs 0 (by omega))
      have y2 := own_cell_at HB0 2 (.int .u8 (bs.getD 1 0)) (by simp only [List.getElem?_cons_succ]; exact pad_get bs 1 (by omega))
      have y3 := own_cell_at HB0 3 (.int .u8 (bs.getD 2 0)) (by simp only [List.getElem?_cons_succ]; exact pad_get bs 2 (by omega))
      have bz := blk_get (HB0.pull 2 rfl)
      have z0 : w7.cell? ⟨xb + 1, 0, none⟩ = some (.int .u8 0) := cell_blk bz 0
      have z1 : w7.cell? ⟨xb + 1, 1, none⟩ = some (.int .u8 0) := cell_blk bz 1
      have z2 : w7.cell? ⟨xb + 1, 2, none⟩ = some (.int .u8 0) := cell_blk bz 2
      have z3 : w7.cell? ⟨xb + 1, 3, none⟩ = some (.int .u8 0) := cell_blk bz 3
      have e0 := free_blk bz 0
      have e1 := free_blk bz 1
      have e2 := free_blk bz 2
      have e3 := free_blk bz 3
      have H5 := Lib.hid (set4 (v0 := undef) (v1 := undef) (v2 := undef) (v3 := undef) (HB0.pull 2 rfl) (.int .u8 op) (.int .u8 (bs.getD 0 0)) (.int .u8 (bs.getD 1 0)) (.int .u8 (bs.getD 2 0)))
      have u1 := own_cell_at (H5.out.pull 1 rfl) 1 (.int .u8 (bs.getD 0 0)) (by simp only [List.getElem?_cons_succ]; exact pad_get bs 0 (by omega))
      have u2 := own_cell_at (H5.out.pull 1 rfl) 2 (.int .u8 (bs.getD 1 0)) (by simp only [List.getElem?_cons_succ]; exact pad_get bs 1 (by omega))
      have u3 := own_cell_at (H5.out.pull 1 rfl) 3 (.int .u8 (bs.getD 2 0)) (by simp only [List.getElem?_cons_succ]; exact pad_get bs 2 (by omega))
      have U1 := Lib.hid u1
      have U2 := Lib.hid u2
      have U3 := Lib.hid u3
      have i1 : (1 : Int) < (bs.length : Int) + 1 + 3 := by omega
      have i2 : (2 : Int) < (bs.length : Int) + 1 + 3 := by omega
      have i3 : (3 : Int) < (bs.length : Int) + 1 + 3 := by omega
      clear u1 u2 u3
      have hrv : rv op (some bs) = .agg #[.int .u8 op, .int .u8 (bs.getD 0 0), .int .u8 (bs.getD 1 0), .int .u8 (bs.getD 2 0)] := rfl
      have HRV := Lib.hid hrv
      clear HB0 bz H9 hrv
      go_upto_region 13 with fail
      generalize bs.getD 0 0 = y1v at *
      generalize bs.getD 1 0 = y2v at *
      generalize bs.getD 2 0 = y3v at *
      go_region_held3 (fun x => x.cell? ⟨g, 1, none⟩ = some (.int .u8 y1v) ∧ x.cell? ⟨g, 2, none⟩ = some (.int .u8 y2v) ∧ x.cell? ⟨g, 3, none⟩ = some (.int .u8 y3v)) (first | exact ⟨y1, y2, y3⟩ | exact ⟨U1.out, U2.out, U3.out⟩ | go_keep) (fail)
      have HD := Lib.hid H5.out.drew
      clear y1 y2 y3 U1 U2 U3 H5
      go_wp2
      exact bodyPost_ret (results_cell_tmp_row rfl _ _ (xb + 1) _ _ _ _ rfl (blk_get HD.out) Tryz.underlying61 rfl ins_info) rfl ⟨by rw [HR.out, HRV.out]; rfl, HD.out.tail.tail.tail.tail⟩
end Go.Proofs.YtcfoljdpffonhaaGreatDoor
