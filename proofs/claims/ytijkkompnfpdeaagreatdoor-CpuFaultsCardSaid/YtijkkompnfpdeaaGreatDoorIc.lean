/- Instructions: split: an instruction's fields, if it may be. -/
import Derived.Test.YtijkkompnfpdeaaGreatDoorIb
import Derived.Deep.RegionWith
import Derived.Deep.RegionHeld3
import Derived.Deep.CutBlock
import Derived.Laws.RangeString
import Derived.Laws.RangeAny
set_option linter.unusedVariables false
set_option linter.unusedSimpArgs false
namespace Go.Proofs.YtijkkompnfpdeaaGreatDoor
open Go.RowKit Go.Lib
attribute [local go_sem] Oper.semAt_some

abbrev OwnI (v : Value) (zs : List Int) : Thing := Own 3 1 v zs.length (zs.map (Value.int .i64))
theorem oi_snoc {w0 w : World} {r : List Thing} {v : Value} {zs : List Int} {z : Int} (H : Hp w0 w (Own 3 1 v (zs.length + 1) (zs.map (Value.int .i64) ++ [.int .i64 z]) :: r)) : Hp w0 w (OwnI v (zs ++ [z]) :: r) :=
  own_as H (by simp) (by simp)
theorem info_int : (Tryz.prog.info? 3).map (fun i => (i.zero, i.size, i.bytes)) = some (some (.int .i64 0), 1, 8) := by kernel_rfl
theorem Hp.iter {w0 w : World} {b : Nat} {s : ByteArray} {p : Nat} {r : List Thing} (h : Hp w0 w (Blk b (.stringIter s p) :: r)) (p' : Nat) : Hp w0 (w.iterAt b s p') (Blk b (.stringIter s p') :: r) := blk_put h _

theorem field_form (x y : ByteArray) (w : World) : (Instr.field 185 (.agg #[.string x, .string y]) 1).run Tryz.prog w = .ok (.string y) w := by kernel_rfl
theorem und_i32 : Tryz.prog.underlying 21 = some (.int .i32) := Tryz.underlying21
theorem kmap_look {w0 w : World} {r : List Thing} {m : Nat} {c : UInt8} (H : Hp w0 w (Kmap m :: r)) (hc : isK c = true) :
    ∃ bb f3 f4, (Instr.lookup 182 (.map (some m)) (.int .i32 (c.toNat : Int)) false).run Tryz.prog w = .ok (.agg #[.int .i64 (kby c), lamB bb, fn_ f3, fn_ f4]) w ∧ w.cell? ⟨bb, 0, none⟩ = some (.int .i64 (klo c)) ∧ w.cell? ⟨bb + 1, 0, none⟩ = some (.int .i64 (khi c)) := by
  have h := H.unAlls
  have hm := blk_get h
  have bc : ∀ (k : Nat) (v : Int), w.heap[k]? = some (Ob v) → w.cell? ⟨k, 0, none⟩ = some (.int .i64 v) := fun k v hb => by rw [cell_blk hb]; rfl
  unfold isK at hc
  simp only [Bool.or_eq_true, beq_iff_eq] at hc
  rcases hc with (((rfl | rfl) | rfl) | rfl) | rfl
  · exact ⟨m + 1, _, _, run_lookup_there und_map und_i32 hm rfl rfl (i := 0), bc _ _ (blk_get (h.pull 9 rfl)), bc _ _ (blk_get (h.pull 10 rfl))⟩
  · exact ⟨m + 3, _, _, run_lookup_there und_map und_i32 hm rfl rfl (i := 1), bc _ _ (blk_get (h.pull 7 rfl)), bc _ _ (blk_get (h.pull 8 rfl))⟩
  · exact ⟨m + 5, _, _, run_lookup_there und_map und_i32 hm rfl rfl (i := 2), bc _ _ (blk_get (h.pull 5 rfl)), bc _ _ (blk_get (h.pull 6 rfl))⟩
  · exact ⟨m + 7, _, _, run_lookup_there und_map und_i32 hm rfl rfl (i := 3), bc _ _ (blk_get (h.pull 3 rfl)), bc _ _ (blk_get (h.pull 4 rfl))⟩
  · exact ⟨m + 9, _, _, run_lookup_there und_map und_i32 hm rfl rfl (i := 4), bc _ _ (blk_get (h.pull 1 rfl)), bc _ _ (blk_get (h.pull 2 rfl))⟩
theorem fd_get (op p : Nat) (h : p < (fl op).length) : ∃ h', (fd op)[p]'h' = (fl op)[p] := ⟨by simpa [fd, ByteArray.size] using h, rfl⟩
theorem isK_lt {c : UInt8} (h : isK c = true) : c.toNat < 128 := by
  unfold isK at h
  simp only [Bool.or_eq_true, beq_iff_eq] at h
  rcases h with (((rfl | rfl) | rfl) | rfl) | rfl <;> decide
theorem cell_alloc_l' {W : World} {a : Addr} {v : Value} (o : Obj) (h : W.cell? a = some v) : (W.alloc o).cell? a = some v := (World.cell?_alloc_some W a o (by rw [h]; rfl)).trans h
theorem q_cases {q : Nat} (h : q ≤ 3) (h0 : 0 < q) : q = 1 ∨ q = 2 ∨ q = 3 := by omega
theorem abc_get (a b c : Int) {q o : Nat} (hq : q ≤ 3) (ho : o + q = 3) (k : Nat) (hk : k < q) : (#[.int .u8 a, .int .u8 b, .int .u8 c] : Array Value)[o + k]? = some (.int .u8 (([a, b, c].drop (3 - q)).getD k 0)) := by
  obtain rfl : o = 3 - q := by omega
  rcases q_cases hq (by omega) with rfl | rfl | rfl
  · obtain rfl : k = 0 := by omega
    rfl
  · rcases (by omega : k = 0 ∨ k = 1) with rfl | rfl <;> rfl
  · rcases (by omega : k = 0 ∨ k = 1 ∨ k = 2) with rfl | rfl | rfl <;> rfl
theorem num_take (a b c : Int) {q : Nat} (hq : q ≤ 3) (h0 : 0 < q) : num (([a, b, c].drop (3 - q)).take 1) = ([a, b, c].drop (3 - q)).getD 0 0 ∧ (2 ≤ q → num (([a, b, c].drop (3 - q)).take 2) = ([a, b, c].drop (3 - q)).getD 0 0 * 256 + ([a, b, c].drop (3 - q)).getD 1 0) := by
  rcases q_cases hq h0 with rfl | rfl | rfl
  · exact ⟨rfl, fun h => by omega⟩
  · exact ⟨rfl, fun _ => rfl⟩
  · exact ⟨rfl, fun _ => rfl⟩
theorem abc_bd {a b c : Int} (ha : 0 ≤ a ∧ a < 256) (hb : 0 ≤ b ∧ b < 256) (hc : 0 ≤ c ∧ c < 256) (n k : Nat) : 0 ≤ ([a, b, c].drop n).getD k 0 ∧ ([a, b, c].drop n).getD k 0 < 256 := by
  have : ([a, b, c].drop n).getD k 0 = [a, b, c].getD (n + k) 0 := by simp [List.getElem?_drop]
  rw [this]
  match n + k with
  | 0 => exact ha
  | 1 => exact hb
  | 2 => exact hc
  | m + 3 => exact ⟨by simp, by simp⟩
theorem i64_or8 {x y : Int} (hx : 0 ≤ x) (hx1 : x < 9223372036854775808) (hm : x % 256 = 0) (h0 : 0 ≤ y) (h1 : y < 256) : bits .or .i64 x y = x + y :=
  bits_join .i64 63 (by decide) (fun n h0 h1 => by rw [IntKind.wrap_i64]; omega) 8 x y hx hm (by omega) h0 h1 (by omega)
/-- What is split. -/
def SplitPost (w0 : World) (r : List Thing) (o : Option (List Int)) (e : Ending) (w' : World) : Prop :=
  match o with
  | some l => ∃ v, e = .returned (.tuple #[v, .bool true]) ∧ Hp w0 w' (OwnI v l :: r)
  | none => e = .returned (.tuple #[.slice none 0 0, .bool false]) ∧ Hp w0 w' r
theorem split_none {w0 w' : World} {r : List Thing} {o : Option (List Int)} (h : o = none) (hp : Hp w0 w' r) : SplitPost w0 r o (.returned (.tuple #[.slice none 0 0, .bool false])) w' := by
  subst h; exact ⟨rfl, hp⟩
theorem split_some {w0 w' : World} {r : List Thing} {o : Option (List Int)} {l : List Int} {v : Value} (h : o = some l) (hp : Hp w0 w' (OwnI v l :: r)) : SplitPost w0 r o (.returned (.tuple #[v, .bool true])) w' := by
  subst h; exact ⟨v, rfl, hp⟩
theorem own_last {w0 w : World} {t b c d e : Thing} {r : List Thing} (h : Hp w0 w (t :: b :: c :: d :: e :: r)) : Hp w0 w (t :: r) := h.up1.tail.up1.tail.up1.tail.up1.tail
set_option maxHeartbeats 1000000 in
set_option maxRecDepth 20000 in
theorem split_bad {w0 w : World} {r : List Thing} (op : Nat) (a b c : Int) (H : Hp w0 w r) (h : 22 < op) :
    Calls Tryz.prog 126 #[.agg #[.int .u8 op, .int .u8 a, .int .u8 b, .int .u8 c]] w (SplitPost w0 r none) := by
  have HH := Lib.hid (H.alloc (.cells #[.int .u8 op, .int .u8 a, .int .u8 b, .int .u8 c] 26))
  have d0 : 22 < (op : Int) := by omega
  clear H h
  go_enter Tryz.func126, Tryz.ntmps126
  go_wp2
  go_ret2
  exact ⟨rfl, HH.out⟩
set_option maxHeartbeats 8000000 in
set_option maxRecDepth 20000 in
theorem split_ok {w0 w : World} {r : List Thing} (op : Nat) (a b c : Int) (H : Hp w0 w r) (h : op ≤ 22) (ha : 0 ≤ a ∧ a < 256) (hb : 0 ≤ b ∧ b < 256) (hc : 0 ≤ c ∧ c < 256) :
    Calls Tryz.prog 126 #[.agg #[.int .u8 op, .int .u8 a, .int .u8 b, .int .u8 c]] w (SplitPost w0 r (sp (fl op) [a, b, c])) := by
  have HH := Lib.hid (blk_new H (.cells #[.int .u8 op, .int .u8 a, .int .u8 b, .int .u8 c] 26))
  have d0 : ¬ 22 < (op : Int) := by omega
  have hix := index_forms op h
  have hfi := field_form
  clear H
  go_enter Tryz.func126, Tryz.ntmps126
  go_wp2_with fail
  refine (kinds_c HH.out).mono ?_; rintro e w1 ⟨m, rfl, H1⟩
  have hx := blk_get (H1.pull 1 rfl)
  have x0 : w1.cell? ⟨w.heap.size, 0, none⟩ = some (.int .u8 op) := by rw [cell_blk hx]; rfl
  have x1 : w1.cell? ⟨w.heap.size, 1, none⟩ = some (.int .u8 a) := by rw [cell_blk hx]; rfl
  have x2 : w1.cell? ⟨w.heap.size, 2, none⟩ = some (.int .u8 b) := by rw [cell_blk hx]; rfl
  have x3 : w1.cell? ⟨w.heap.size, 3, none⟩ = some (.int .u8 c) := by rw [cell_blk hx]; rfl
  have H2 := Lib.hid (blk_new H1 (.cells #[.int .u8 a, .int .u8 b, .int .u8 c] 5))
  clear H1 hx HH
  go_upto_region 5 with fail
  clear x1 x2 x3
  have y0 : (w1.alloc (.cells #[.int .u8 a, .int .u8 b, .int .u8 c] 5)).cell? ⟨w.heap.size, 0, none⟩ = some (.int .u8 op) := by rw [cell_blk (blk_get (H2.out.pull 2 rfl))]; rfl
  generalize (w1.alloc (.cells #[.int .u8 a, .int .u8 b, .int .u8 c] 5)) = w2 at *
  generalize w1.heap.size = g at *
  clear x0
  go_region_held3 (fun x => x.cell? ⟨w.heap.size, 0, none⟩ = some (.int .u8 op)) (first | exact y0 | exact y1) (first | (go_at_call 136; refine (forms_c _).mono ?_; rintro e wf ⟨rfl, hB⟩; have H3 := Lib.hid (H2.out.drew.below_read hB); have y0 : wf.cell? ⟨w.heap.size, 0, none⟩ = some (.int .u8 op) := (by rw [cell_blk (blk_get (H3.out.pull 2 rfl))]; rfl); have H4 : Hid (Hp w0 (wf.iter (fd op) 0) (Blk wf.heap.size (.stringIter (fd op) 0) :: _)) := Lib.hid (blk_new H3.out _); have y1 : (wf.iter (fd op) 0).cell? ⟨w.heap.size, 0, none⟩ = some (.int .u8 op) := (by rw [cell_blk (blk_get (H4.out.pull 3 rfl))]; rfl)))
  have H5 : Hid (Hp w0 (wf.iter (fd op) 0) (OwnI (.slice none 0 0) [] :: Blk wf.heap.size (.stringIter (fd op) 0) :: Blk g (.cells #[.int .u8 a, .int .u8 b, .int .u8 c] 5 (0, 0)) :: Kmap m :: Blk w.heap.size (.cells #[.int .u8 op, .int .u8 a, .int .u8 b, .int .u8 c] 26 (0, 0)) :: r)) := Lib.hid (own_nil H4.out _ _)
  clear H2 H3 H4 y0 y1 hB
  generalize (wf.iter (fd op) 0) = w3 at *
  generalize wf.heap.size = ib at *
  obtain ⟨fk, ft⟩ := fl_ok op
  have FK := Lib.hid fk
  have FD := Lib.hid (fd_get op)
  obtain ⟨i0, hi, hz0, hz1, hz2⟩ := info_parts info_int
  have hfs : (fd op).size = (fl op).length := rfl
  have HFS := Lib.hid hfs
  clear fk hfs hix hfi
  go_wp2
  go_loopw [2, 5] (fun s2 s5 wr => ∃ p q o acc, p ≤ (fl op).length ∧ q ≤ 3 ∧ (0 < q → o + q = 3) ∧ s5 = .slice (some ⟨g, o, none⟩) q q ∧ tby ((fl op).drop p) ≤ q ∧ acc.length ≤ 3 - q ∧ Hid (sp (fl op) [a, b, c] = (sp ((fl op).drop p) ([a, b, c].drop (3 - q))).map (acc ++ ·)) ∧ Hid (Hp w0 wr (OwnI s2 acc :: Blk ib (.stringIter (fd op) p) :: Blk g (.cells #[.int .u8 a, .int .u8 b, .int .u8 c] 5 (0, 0)) :: Kmap m :: Blk w.heap.size (.cells #[.int .u8 op, .int .u8 a, .int .u8 b, .int .u8 c] 26 (0, 0)) :: r))) (fun _ _ wr => (fl op).length - wr.iterPos ib)
  case atStart => exact ⟨0, 3, 0, [], Nat.zero_le _, Nat.le_refl _, fun _ => rfl, rfl, ft, Nat.zero_le _, Lib.hid (by simp), H5⟩
  case round =>
    obtain ⟨p, q, o, acc, hp, hq, ho, rfl, htb, hac, hsp, hH⟩ := hrel
    have hip : wr.iterPos ib = p := by unfold World.iterPos; rw [blk_get hH.out.up1]
    have HIP := Lib.hid hip
    clear hip
    clear H5 ft
    by_cases hlt : p < (fl op).length
    · obtain ⟨hl', hfc⟩ := FD.out p hlt
      have hkc := FK.out _ (List.getElem_mem hlt)
      have hnx : ∀ ty, (Instr.next (.pointer (some ⟨ib, 0, none⟩)) true ty).run Tryz.prog wr = _ := fun ty => run_next_ascii_at wr ib (fd op) p ty (blk_get hH.out.tail) hl' (by rw [hfc]; exact isK_lt hkc)
      rw [hfc] at hnx
      have H6 := Lib.hid ((hH.out.up1).iter (p + 1))
      obtain ⟨bb, f3, f4, hlk, hlo, hhi⟩ := kmap_look (H6.out.pull 3 rfl) hkc
      have hdr : (fl op).drop p = (fl op)[p] :: (fl op).drop (p + 1) := List.drop_eq_getElem_cons hlt
      rw [hdr] at hsp htb
      generalize (fl op)[p] = ch at *
      have HSP := Lib.hid hsp.out
      have hby : kby ch = 1 ∨ kby ch = 2 := by unfold kby; split <;> simp
      have htq : kby ch ≤ q := by simp [tby] at htb; omega
      clear hsp hdr hfc hkc hH
      go_upto_region 10 with fail
      have H7 := Lib.hid (blk_new H6.out (.cells #[.int .i64 (kby ch), lamB bb, fn_ f3, fn_ f4] 191))
      have lo7 : ((wr.iterAt ib (fd op) (p + 1)).alloc (.cells #[.int .i64 (kby ch), lamB bb, fn_ f3, fn_ f4] 191)).cell? ⟨bb, 0, none⟩ = some (.int .i64 (klo ch)) := cell_alloc_l' _ hlo
      have hi7 : ((wr.iterAt ib (fd op) (p + 1)).alloc (.cells #[.int .i64 (kby ch), lamB bb, fn_ f3, fn_ f4] 191)).cell? ⟨bb + 1, 0, none⟩ = some (.int .i64 (khi ch)) := cell_alloc_l' _ hhi
      clear hlk hlo hhi hnx H6
      generalize ((wr.iterAt ib (fd op) (p + 1)).alloc (.cells #[.int .i64 (kby ch), lamB bb, fn_ f3, fn_ f4] 191)) = w4 at *
      generalize (wr.iterAt ib (fd op) (p + 1)).heap.size = fb at *
      have fc := fun k => cell_blk (blk_get H7.out) k
      have f0 : w4.cell? ⟨fb, 0, none⟩ = some (.int .i64 (kby ch)) := fc 0
      have f1 : w4.cell? ⟨fb, 1, none⟩ = some (lamB bb) := fc 1
      have gc := fun k => cell_blk (blk_get (H7.out.pull 3 rfl)) k
      have GC := Lib.hid gc
      clear fc gc
      obtain ⟨B, hB⟩ : ∃ B, kby ch = B := ⟨_, rfl⟩
      have HB := Lib.hid hB
      rw [hB] at f0 hby htq H7 ⊢
      have hq0 : 0 < q := by omega
      have hoq := ho hq0
      have HOQ := Lib.hid hoq
      have cx : w4.cell? ⟨g, o, none⟩ = some (.int .u8 (([a, b, c].drop (3 - q)).getD 0 0)) := by have := GC.out (o + 0); rw [abc_get a b c hq hoq 0 (by omega)] at this; exact this
      have cy : B = 2 → w4.cell? ⟨g, o + 1, none⟩ = some (.int .u8 (([a, b, c].drop (3 - q)).getD 1 0)) := fun h2 => by have := GC.out (o + 1); rw [abc_get a b c hq hoq 1 (by omega)] at this; exact this
      obtain ⟨n1, n2⟩ := num_take a b c hq hq0
      have bX := abc_bd ha hb hc (3 - q) 0
      have bY := abc_bd ha hb hc (3 - q) 1
      have CY := Lib.hid cy
      have N1 := Lib.hid n1
      have N2 := Lib.hid n2
      generalize hX : ([a, b, c].drop (3 - q)).getD 0 0 = X at *
      generalize hY : ([a, b, c].drop (3 - q)).getD 1 0 = Y at *
      clear hB cy n1 n2 hX hY hoq ho
      go_upto_block 2 with fail
      go_cut [9] from 31 to 64 (fun s9 wx => s9 = .int .i64 (num (([a, b, c].drop (3 - q)).take B)) ∧ w4 = wx)
      case first =>
        rcases hby with rfl | rfl
        · go_wp2_with fail
          go_loop [9, 42] (fun n i => (i = .int .i64 0 ∧ n = .int .i64 0) ∨ (i = .int .i64 1 ∧ n = .int .i64 X)) (fun _ i => 2 - (intOf i).toNat)
          case atStart => exact Or.inl ⟨rfl, rfl⟩
          case round =>
            rcases hrel with ⟨rfl, rfl⟩ | ⟨rfl, rfl⟩
            · go_wp2
              go_round
              case rel => exact Or.inr ⟨rfl, by rw [i64_or8 (by omega) (by omega) (by omega) bX.1 bX.2, Int.zero_add]⟩
              case measure => simp [intOf]
            · go_wp2
              go_meet
              exact ⟨by rw [N1.out], rfl⟩
        · have cy := CY.out rfl
          go_wp2_with fail
          go_loop [9, 42] (fun n i => (i = .int .i64 0 ∧ n = .int .i64 0) ∨ (i = .int .i64 1 ∧ n = .int .i64 X) ∨ (i = .int .i64 2 ∧ n = .int .i64 (X * 256 + Y))) (fun _ i => 2 - (intOf i).toNat)
          case atStart => exact Or.inl ⟨rfl, rfl⟩
          case round =>
            rcases hrel with ⟨rfl, rfl⟩ | ⟨rfl, rfl⟩ | ⟨rfl, rfl⟩
            · go_wp2
              go_round
              case rel => exact Or.inr (Or.inl ⟨rfl, by rw [i64_or8 (by omega) (by omega) (by omega) bX.1 bX.2, Int.zero_add]⟩)
              case measure => simp [intOf]
            · go_wp2
              go_round
              case rel => exact Or.inr (Or.inr ⟨rfl, by rw [i64_or8 (by omega) (by omega) (by omega) bY.1 bY.2]⟩)
              case measure => simp [intOf]
            · go_wp2
              go_meet
              exact ⟨by rw [N2.out (by omega)], rfl⟩
      case rest =>
        obtain ⟨rfl, rfl⟩ := hcut
        have hcc : kby ch = B := HB.out
        have hsp : sp (fl op) [a, b, c] = if mayK ch (num (([a, b, c].drop (3 - q)).take B)) then (sp ((fl op).drop (p + 1)) ([a, b, c].drop (3 - (q - B)))).map (acc ++ [num (([a, b, c].drop (3 - q)).take B)] ++ ·) else none := by
          rw [HSP.out]
          simp only [sp, hcc]
          split
          · rw [List.drop_drop, show 3 - q + B = 3 - (q - B) by omega]
            cases sp ((fl op).drop (p + 1)) ([a, b, c].drop (3 - (q - B))) <;> simp
          · rfl
        have htb2 : tby ((fl op).drop (p + 1)) ≤ q - B := by simp [tby] at htb ⊢; omega
        clear HSP cx CY N1 N2 bX bY GC
        generalize num (([a, b, c].drop (3 - q)).take B) = nn at *
        have HS2 := Lib.hid hsp
        clear hsp hcc htb
        have LC := Lib.hid (lam_c nn (klo ch) (khi ch) bb w4 lo7 hi7)
        clear lo7 hi7
        by_cases hm : mayK ch nn = true
        · have hm2 := hm
          unfold mayK at hm2
          rw [hm2] at LC
          have h3 := HS2.out
          rw [if_pos hm] at h3
          have HS3 := Lib.hid h3
          clear h3 HS2 hm hm2
          go_wp2_with fail
          refine LC.out.mono ?_; rintro e w5 ⟨rfl, rfl⟩
          obtain ⟨a2, c2, rfl⟩ := own_slice (H7.out.pull 2 rfl)
          have H8 := Lib.hid (H7.out.pull 2 rfl)
          by_cases hqB : q = B
          · subst hqB
            go_wp2_with (at_builtin; refine wpList_append_hp rfl (.tmp 61) (.tmp 63) 120 rfl 3 i0 _ 1 8 Tryz.underlying120 hi hz0 hz1 hz2 rfl (by decide) (H8.out.alloc _) rfl ⟨w4.heap.size, 0, none⟩ 1 1 [.int .i64 nn] rfl rfl (cell_one_at _ _ _ _ rfl) (by simp [Value.oneCell']) (by omega) (by omega) ?_)
            intro v' w6 H9
            obtain ⟨a3, c3, rfl⟩ := own_slice H9
            have HA := Lib.hid ((oi_snoc H9).pull 1 rfl).tail
            have hpos : w6.iterPos ib = p + 1 := by unfold World.iterPos; rw [blk_get HA.out.up1]
            have HP := Lib.hid hpos
            clear H9 H8 H7 hpos LC
            go_wp2
            go_roundw
            case rel => first | exact ⟨p + 1, 0, o, acc ++ [nn], by omega, by omega, fun h => by omega, rfl, by omega, by simp; omega, Lib.hid (by have := HS3.out; rw [Nat.sub_self] at this; exact this), Lib.hid HA.out⟩ | ((repeat apply Exists.intro); exact ⟨⟨p + 1, 0, o, acc ++ [nn], by omega, by omega, fun h => by omega, rfl, by omega, by simp; omega, Lib.hid (by have := HS3.out; rw [Nat.sub_self] at this; exact this), Lib.hid HA.out⟩, rfl⟩)
            case measure => rw [HP.out, HIP.out]; omega
          · have hcc : ¬ q - B = 0 := by omega
            go_wp2_with (at_builtin; refine wpList_append_hp rfl (.tmp 61) (.tmp 63) 120 rfl 3 i0 _ 1 8 Tryz.underlying120 hi hz0 hz1 hz2 rfl (by decide) (H8.out.alloc _) rfl ⟨w4.heap.size, 0, none⟩ 1 1 [.int .i64 nn] rfl rfl (cell_one_at _ _ _ _ rfl) (by simp [Value.oneCell']) (by omega) (by omega) ?_)
            intro v' w6 H9
            obtain ⟨a3, c3, rfl⟩ := own_slice H9
            have HA := Lib.hid ((oi_snoc H9).pull 1 rfl).tail
            have hpos : w6.iterPos ib = p + 1 := by unfold World.iterPos; rw [blk_get HA.out.up1]
            have HP := Lib.hid hpos
            clear H9 H8 H7 hpos LC
            go_wp2
            go_roundw
            case rel => first | exact ⟨p + 1, q - B, o + B, acc ++ [nn], by omega, by omega, fun h => by have := HOQ.out; omega, rfl, htb2, by simp; omega, Lib.hid HS3.out, Lib.hid HA.out⟩ | ((repeat apply Exists.intro); exact ⟨⟨p + 1, q - B, o + B, acc ++ [nn], by omega, by omega, fun h => by have := HOQ.out; omega, rfl, htb2, by simp; omega, Lib.hid HS3.out, Lib.hid HA.out⟩, rfl⟩)
            case measure => rw [HP.out, HIP.out]; omega
        · have hm2 : mayK ch nn = false := by simpa using hm
          unfold mayK at hm2
          rw [hm2] at LC
          have h3 := HS2.out
          rw [if_neg hm] at h3
          have HS3 := Lib.hid h3
          clear h3 HS2 hm hm2
          go_wp2_with fail
          refine LC.out.mono ?_; rintro e w5 ⟨rfl, rfl⟩
          go_wp2
          go_ret2
          exact split_none HS3.out H7.out.tail.tail.tail.tail.tail.tail
    · have hpe : p = (fl op).length := by omega
      have hnx : ∀ ty, (Instr.next (.pointer (some ⟨ib, 0, none⟩)) true ty).run Tryz.prog wr = _ := fun ty => run_next_end_at wr ib (fd op) p ty (blk_get hH.out.tail) (by rw [HFS.out]; exact hlt)
      have hs3 := hsp.out
      rw [List.drop_of_length_le (by omega)] at hs3
      have HS3 := Lib.hid hs3
      have gc := fun k => cell_blk (blk_get (hH.out.pull 2 rfl)) k
      have GC : Hid (∀ k, k < q → wr.cell? ⟨g, o + k, none⟩ = some (.int .u8 (([a, b, c].drop (3 - q)).getD k 0))) := Lib.hid (fun k hk => by have := gc (o + k); rw [abc_get a b c hq (ho (by omega)) k hk] at this; exact this)
      have LL : Hid (([a, b, c].drop (3 - q)).length = q) := Lib.hid (by rw [List.length_drop]; simp; omega)
      clear hs3 hsp gc
      obtain ⟨a2, c2, rfl⟩ := own_slice hH.out
      generalize [a, b, c].drop (3 - q) = L at *
      go_wp2
      go_loop [2, 67] (fun s2 i => s2 = .slice a2 acc.length c2 ∧ ∃ k : Nat, k ≤ q ∧ i = .int .i64 k ∧ Hid (∀ j, j < k → L.getD j 0 = 0)) (fun _ i => q - (intOf i).toNat)
      case atStart => exact ⟨rfl, 0, Nat.zero_le _, rfl, Lib.hid (fun j h => by omega)⟩
      case round =>
        obtain ⟨rfl, k, hk, rfl, hz⟩ := hrel
        by_cases hkq : k < q
        · have cx := GC.out k hkq
          have c1 : (k : Int) < (q : Int) := by omega
          have hwk : IntKind.i64.wrap ((k : Int) + 1) = (k : Int) + 1 := by rw [IntKind.wrap_i64]; omega
          by_cases h0 : L.getD k 0 = 0
          · have hz2 : Hid (∀ j, j < k + 1 → L.getD j 0 = 0) := Lib.hid (fun j hj => by
              rcases Nat.lt_or_eq_of_le (Nat.le_of_lt_succ hj) with h | rfl
              · exact hz.out j h
              · exact h0)
            rw [h0] at cx
            clear h0
            go_wp2
            go_round
            case rel => exact ⟨rfl, k + 1, by omega, by go_num, hz2⟩
            case measure => simp [intOf]; omega
          · have hn : sp (fl op) [a, b, c] = none := by
              rw [HS3.out]
              have : ¬ L.all (· == 0) = true := by
                intro hc
                rw [List.all_eq_true] at hc
                have hl := LL.out
                have := hc (L[k]'(by omega)) (List.getElem_mem _)
                rw [List.getD_eq_getElem?_getD, List.getElem?_eq_getElem (by omega)] at h0
                simp at this h0
                exact h0 this
              simp [sp, this]
            have HN := Lib.hid hn
            have d1 : (L.getD k 0 != 0) = true := by simpa using h0
            clear hn h0
            generalize L.getD k 0 = z at *
            go_wp2
            go_ret2
            exact split_none HN.out hH.out.tail.tail.tail.tail.tail
        · have hke : k = q := by omega
          subst hke
          have hn : sp (fl op) [a, b, c] = some acc := by
            rw [HS3.out]
            have : L.all (· == 0) = true := by
              rw [List.all_eq_true]
              intro x hx
              obtain ⟨j, hj, rfl⟩ := List.getElem_of_mem hx
              have hl := LL.out
              have := hz.out j (by omega)
              rw [List.getD_eq_getElem?_getD, List.getElem?_eq_getElem hj] at this
              simpa using this
            simp [sp, this]
          have HN := Lib.hid hn
          have c1 : ¬ (k : Int) < (k : Int) := by omega
          clear hn
          go_wp2
          go_ret2
          exact split_some (v := .slice a2 acc.length c2) HN.out (own_last hH.out)
end Go.Proofs.YtijkkompnfpdeaaGreatDoor
