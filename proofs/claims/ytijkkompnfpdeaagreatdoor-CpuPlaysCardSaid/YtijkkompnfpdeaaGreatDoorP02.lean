/- Instructions: split: an instruction's fields, if it may be. Instructions: Check, Put, Get; the document's. Images: what lies in memory; whether one may be; whether bytes, instructions and images are the same: walked. Cores: what an instruction does, in plain words. No program in sight. -/
import Derived.Test.YtijkkompnfpdeaaGreatDoorP01
import Derived.Deep.RegionWith
import Derived.Deep.RegionHeld3
import Derived.Deep.CutBlock
import Derived.Laws.RangeString
import Derived.Laws.RangeAny
import Derived.Laws.ResultCell
import Derived.Test.YtijkkompnfpdeaaGreatDoorP00
import Derived.Lib.SmallJoins
import Derived.Shelf.Abstract
import Derived.Deep.QuietTactic
import Derived.BigQuiet
set_option linter.unusedVariables false
set_option linter.unusedSimpArgs false
namespace Go.Proofs.YtijkkompnfpdeaaGreatDoor
open Go.RowKit Go.Lib
attribute [local go_sem] Oper.semAt_some

abbrev OwnI (v : Value) (zs : List Int) : Thing := Own 3 1 v zs.length (zs.map (Value.int .i64))
theorem oi_snoc {w0 w : World} {r : List Thing} {v : Value} {zs : List Int} {z : Int} (H : Hp w0 w (Own 3 1 v (zs.length + 1) (zs.map (Value.int .i64) ++ [.int .i64 z]) :: r)) : Hp w0 w (OwnI v (zs ++ [z]) :: r) :=
  own_as H (by simp) (by simp)
theorem info_int : (Tryz.prog.info? 3).map (fun i => (i.zero, i.size, i.bytes)) = some (some (.int .i64 0), 1, 8) := by kernel_rfl
theorem Hp.iter {w0 w : World} {b : Nat} {s : ByteArray} {p : Nat} {r : List Thing} (h : Hp w0 w (Blk b (.stringIter s p) :: r)) (p' : Nat) : Hp w0 (w.iterAt b s p') (Blk b (.stringIter s p') :: r) := blk_put h _

theorem field_form (x y : ByteArray) (w : World) : (Instr.field 185 (.agg #[.string x, .string y]) 1).run Tryz.prog w = .ok (.string y) w := by kernel_rfl
theorem und_i32 : Tryz.prog.underlying 21 = some (.int .i32) := Tryz.underlying21
theorem kmap_look {w0 w : World} {r : List Thing} {m : Nat} {c : UInt8} (H : Hp w0 w (Kmap m :: r)) (hc : isK c = true) :
    ∃ bb f3 f4, (Instr.lookup 182 (.map (some m)) (.int .i32 (c.toNat : Int)) false).run Tryz.prog w = .ok (.agg #[.int .i64 (kby c), lamB bb, fn_ f3, fn_ f4]) w ∧ w.cell? ⟨bb, 0, none⟩ = some (.int .i64 (klo c)) ∧ w.cell? ⟨bb + 1, 0, none⟩ = some (.int .i64 (khi c)) := by
  have h := H.unAlls
  have hm := blk_get h
  have bc : ∀ (k : Nat) (v : Int), w.heap[k]? = some (Ob v) → w.cell? ⟨k, 0, none⟩ = some (.int .i64 v) := fun k v hb => by rw [cell_blk hb]; rfl
  unfold isK at hc
  simp only [Bool.or_eq_true, beq_iff_eq] at hc
  rcases hc with (((rfl | rfl) | rfl) | rfl) | rfl
  · exact ⟨m + 1, _, _, run_lookup_there und_map und_i32 hm rfl rfl (i := 0), bc _ _ (blk_get (h.pull 9 rfl)), bc _ _ (blk_get (h.pull 10 rfl))⟩
  · exact ⟨m + 3, _, _, run_lookup_there und_map und_i32 hm rfl rfl (i := 1), bc _ _ (blk_get (h.pull 7 rfl)), bc _ _ (blk_get (h.pull 8 rfl))⟩
  · exact ⟨m + 5, _, _, run_lookup_there und_map und_i32 hm rfl rfl (i := 2), bc _ _ (blk_get (h.pull 5 rfl)), bc _ _ (blk_get (h.pull 6 rfl))⟩
  · exact ⟨m + 7, _, _, run_lookup_there und_map und_i32 hm rfl rfl (i := 3), bc _ _ (blk_get (h.pull 3 rfl)), bc _ _ (blk_get (h.pull 4 rfl))⟩
  · exact ⟨m + 9, _, _, run_lookup_there und_map und_i32 hm rfl rfl (i := 4), bc _ _ (blk_get (h.pull 1 rfl)), bc _ _ (blk_get (h.pull 2 rfl))⟩
theorem fd_get (op p : Nat) (h : p < (fl op).length) : ∃ h', (fd op)[p]'h' = (fl op)[p] := ⟨by simpa [fd, ByteArray.size] using h, rfl⟩
theorem isK_lt {c : UInt8} (h : isK c = true) : c.toNat < 128 := by
  unfold isK at h
  simp only [Bool.or_eq_true, beq_iff_eq] at h
  rcases h with (((rfl | rfl) | rfl) | rfl) | rfl <;> decide
theorem cell_alloc_l' {W : World} {a : Addr} {v : Value} (o : Obj) (h : W.cell? a = some v) : (W.alloc o).cell? a = some v := (World.cell?_alloc_some W a o (by rw [h]; rfl)).trans h
theorem q_cases {q : Nat} (h : q ≤ 3) (h0 : 0 < q) : q = 1 ∨ q = 2 ∨ q = 3 := by omega
theorem abc_get (a b c : Int) {q o : Nat} (hq : q ≤ 3) (ho : o + q = 3) (k : Nat) (hk : k < q) : (#[.int .u8 a, .int .u8 b, .int .u8 c] : Array Value)[o + k]? = some (.int .u8 (([a, b, c].drop (3 - q)).getD k 0)) := by
  obtain rfl : o = 3 - q := by omega
  rcases q_cases hq (by omega) with rfl | rfl | rfl
  · obtain rfl : k = 0 := by omega
    rfl
  · rcases (by omega : k = 0 ∨ k = 1) with rfl | rfl <;> rfl
  · rcases (by omega : k = 0 ∨ k = 1 ∨ k = 2) with rfl | rfl | rfl <;> rfl
theorem num_take (a b c : Int) {q : Nat} (hq : q ≤ 3) (h0 : 0 < q) : num (([a, b, c].drop (3 - q)).take 1) = ([a, b, c].drop (3 - q)).getD 0 0 ∧ (2 ≤ q → num (([a, b, c].drop (3 - q)).take 2) = ([a, b, c].drop (3 - q)).getD 0 0 * 256 + ([a, b, c].drop (3 - q)).getD 1 0) := by
  rcases q_cases hq h0 with rfl | rfl | rfl
  · exact ⟨rfl, fun h => by omega⟩
  · exact ⟨rfl, fun _ => rfl⟩
  · exact ⟨rfl, fun _ => rfl⟩
theorem abc_bd {a b c : Int} (ha : 0 ≤ a ∧ a < 256) (hb : 0 ≤ b ∧ b < 256) (hc : 0 ≤ c ∧ c < 256) (n k : Nat) : 0 ≤ ([a, b, c].drop n).getD k 0 ∧ ([a, b, c].drop n).getD k 0 < 256 := by
  have : ([a, b, c].drop n).getD k 0 = [a, b, c].getD (n + k) 0 := by simp [List.getElem?_drop]
  rw [this]
  match n + k with
  | 0 => exact ha
  | 1 => exact hb
  | 2 => exact hc
  | m + 3 => exact ⟨by simp, by simp⟩
theorem i64_or8 {x y : Int} (hx : 0 ≤ x) (hx1 : x < 9223372036854775808) (hm : x % 256 = 0) (h0 : 0 ≤ y) (h1 : y < 256) : bits .or .i64 x y = x + y :=
  bits_join .i64 63 (by decide) (fun n h0 h1 => by rw [IntKind.wrap_i64]; omega) 8 x y hx hm (by omega) h0 h1 (by omega)
/-- What is split. -/
def SplitPost (w0 : World) (r : List Thing) (o : Option (List Int)) (e : Ending) (w' : World) : Prop :=
  match o with
  | some l => ∃ v, e = .returned (.tuple #[v, .bool true]) ∧ Hp w0 w' (OwnI v l :: r)
  | none => e = .returned (.tuple #[.slice none 0 0, .bool false]) ∧ Hp w0 w' r
theorem split_none {w0 w' : World} {r : List Thing} {o : Option (List Int)} (h : o = none) (hp : Hp w0 w' r) : SplitPost w0 r o (.returned (.tuple #[.slice none 0 0, .bool false])) w' := by
  subst h; exact ⟨rfl, hp⟩
theorem split_some {w0 w' : World} {r : List Thing} {o : Option (List Int)} {l : List Int} {v : Value} (h : o = some l) (hp : Hp w0 w' (OwnI v l :: r)) : SplitPost w0 r o (.returned (.tuple #[v, .bool true])) w' := by
  subst h; exact ⟨v, rfl, hp⟩
theorem own_last {w0 w : World} {t b c d e : Thing} {r : List Thing} (h : Hp w0 w (t :: b :: c :: d :: e :: r)) : Hp w0 w (t :: r) := h.up1.tail.up1.tail.up1.tail.up1.tail
set_option maxHeartbeats 1000000 in
set_option maxRecDepth 20000 in
theorem split_bad {w0 w : World} {r : List Thing} (op : Nat) (a b c : Int) (H : Hp w0 w r) (h : 22 < op) :
    Calls Tryz.prog 126 #[.agg #[.int .u8 op, .int .u8 a, .int .u8 b, .int .u8 c]] w (SplitPost w0 r none) := by
  have HH := Lib.hid (H.alloc (.cells #[.int .u8 op, .int .u8 a, .int .u8 b, .int .u8 c] 26))
  have d0 : 22 < (op : Int) := by omega
  clear H h
  go_enter Tryz.func126, Tryz.ntmps126
  go_wp2
  go_ret2
  exact ⟨rfl, HH.out⟩
set_option maxHeartbeats 8000000 in
set_option maxRecDepth 20000 in
theorem split_ok {w0 w : World} {r : List Thing} (op : Nat) (a b c : Int) (H : Hp w0 w r) (h : op ≤ 22) (ha : 0 ≤ a ∧ a < 256) (hb : 0 ≤ b ∧ b < 256) (hc : 0 ≤ c ∧ c < 256) :
    Calls Tryz.prog 126 #[.agg #[.int .u8 op, .int .u8 a, .int .u8 b, .int .u8 c]] w (SplitPost w0 r (sp (fl op) [a, b, c])) := by
  have HH := Lib.hid (blk_new H (.cells #[.int .u8 op, .int .u8 a, .int .u8 b, .int .u8 c] 26))
  have d0 : ¬ 22 < (op : Int) := by omega
  have hix := index_forms op h
  have hfi := field_form
  clear H
  go_enter Tryz.func126, Tryz.ntmps126
  go_wp2_with fail
  refine (kinds_c HH.out).mono ?_; rintro e w1 ⟨m, rfl, H1⟩
  have hx := blk_get (H1.pull 1 rfl)
  have x0 : w1.cell? ⟨w.heap.size, 0, none⟩ = some (.int .u8 op) := by rw [cell_blk hx]; rfl
  have x1 : w1.cell? ⟨w.heap.size, 1, none⟩ = some (.int .u8 a) := by rw [cell_blk hx]; rfl
  have x2 : w1.cell? ⟨w.heap.size, 2, none⟩ = some (.int .u8 b) := by rw [cell_blk hx]; rfl
  have x3 : w1.cell? ⟨w.heap.size, 3, none⟩ = some (.int .u8 c) := by rw [cell_blk hx]; rfl
  have H2 := Lib.hid (blk_new H1 (.cells #[.int .u8 a, .int .u8 b, .int .u8 c] 5))
  clear H1 hx HH
  go_upto_region 5 with fail
  clear x1 x2 x3
  have y0 : (w1.alloc (.cells #[.int .u8 a, .int .u8 b, .int .u8 c] 5)).cell? ⟨w.heap.size, 0, none⟩ = some (.int .u8 op) := by rw [cell_blk (blk_get (H2.out.pull 2 rfl))]; rfl
  generalize (w1.alloc (.cells #[.int .u8 a, .int .u8 b, .int .u8 c] 5)) = w2 at *
  generalize w1.heap.size = g at *
  clear x0
  go_region_held3 (fun x => x.cell? ⟨w.heap.size, 0, none⟩ = some (.int .u8 op)) (first | exact y0 | exact y1) (first | (go_at_call 136; refine (forms_c _).mono ?_; rintro e wf ⟨rfl, hB⟩; have H3 := Lib.hid (H2.out.drew.below_read hB); have y0 : wf.cell? ⟨w.heap.size, 0, none⟩ = some (.int .u8 op) := (by rw [cell_blk (blk_get (H3.out.pull 2 rfl))]; rfl); have H4 : Hid (Hp w0 (wf.iter (fd op) 0) (Blk wf.heap.size (.stringIter (fd op) 0) :: _)) := Lib.hid (blk_new H3.out _); have y1 : (wf.iter (fd op) 0).cell? ⟨w.heap.size, 0, none⟩ = some (.int .u8 op) := (by rw [cell_blk (blk_get (H4.out.pull 3 rfl))]; rfl)))
  have H5 : Hid (Hp w0 (wf.iter (fd op) 0) (OwnI (.slice none 0 0) [] :: Blk wf.heap.size (.stringIter (fd op) 0) :: Blk g (.cells #[.int .u8 a, .int .u8 b, .int .u8 c] 5 (0, 0)) :: Kmap m :: Blk w.heap.size (.cells #[.int .u8 op, .int .u8 a, .int .u8 b, .int .u8 c] 26 (0, 0)) :: r)) := Lib.hid (own_nil H4.out _ _)
  clear H2 H3 H4 y0 y1 hB
  generalize (wf.iter (fd op) 0) = w3 at *
  generalize wf.heap.size = ib at *
  obtain ⟨fk, ft⟩ := fl_ok op
  have FK := Lib.hid fk
  have FD := Lib.hid (fd_get op)
  obtain ⟨i0, hi, hz0, hz1, hz2⟩ := info_parts info_int
  have hfs : (fd op).size = (fl op).length := rfl
  have HFS := Lib.hid hfs
  clear fk hfs hix hfi
  go_wp2
  go_loopw [2, 5] (fun s2 s5 wr => ∃ p q o acc, p ≤ (fl op).length ∧ q ≤ 3 ∧ (0 < q → o + q = 3) ∧ s5 = .slice (some ⟨g, o, none⟩) q q ∧ tby ((fl op).drop p) ≤ q ∧ acc.length ≤ 3 - q ∧ Hid (sp (fl op) [a, b, c] = (sp ((fl op).drop p) ([a, b, c].drop (3 - q))).map (acc ++ ·)) ∧ Hid (Hp w0 wr (OwnI s2 acc :: Blk ib (.stringIter (fd op) p) :: Blk g (.cells #[.int .u8 a, .int .u8 b, .int .u8 c] 5 (0, 0)) :: Kmap m :: Blk w.heap.size (.cells #[.int .u8 op, .int .u8 a, .int .u8 b, .int .u8 c] 26 (0, 0)) :: r))) (fun _ _ wr => (fl op).length - wr.iterPos ib)
  case atStart => exact ⟨0, 3, 0, [], Nat.zero_le _, Nat.le_refl _, fun _ => rfl, rfl, ft, Nat.zero_le _, Lib.hid (by simp), H5⟩
  case round =>
    obtain ⟨p, q, o, acc, hp, hq, ho, rfl, htb, hac, hsp, hH⟩ := hrel
    have hip : wr.iterPos ib = p := by unfold World.iterPos; rw [blk_get hH.out.up1]
    have HIP := Lib.hid hip
    clear hip
    clear H5 ft
    by_cases hlt : p < (fl op).length
    · obtain ⟨hl', hfc⟩ := FD.out p hlt
      have hkc := FK.out _ (List.getElem_mem hlt)
      have hnx : ∀ ty, (Instr.next (.pointer (some ⟨ib, 0, none⟩)) true ty).run Tryz.prog wr = _ := fun ty => run_next_ascii_at wr ib (fd op) p ty (blk_get hH.out.tail) hl' (by rw [hfc]; exact isK_lt hkc)
      rw [hfc] at hnx
      have H6 := Lib.hid ((hH.out.up1).iter (p + 1))
      obtain ⟨bb, f3, f4, hlk, hlo, hhi⟩ := kmap_look (H6.out.pull 3 rfl) hkc
      have hdr : (fl op).drop p = (fl op)[p] :: (fl op).drop (p + 1) := List.drop_eq_getElem_cons hlt
      rw [hdr] at hsp htb
      generalize (fl op)[p] = ch at *
      have HSP := Lib.hid hsp.out
      have hby : kby ch = 1 ∨ kby ch = 2 := by unfold kby; split <;> simp
      have htq : kby ch ≤ q := by simp [tby] at htb; omega
      clear hsp hdr hfc hkc hH
      go_upto_region 10 with fail
      have H7 := Lib.hid (blk_new H6.out (.cells #[.int .i64 (kby ch), lamB bb, fn_ f3, fn_ f4] 191))
      have lo7 : ((wr.iterAt ib (fd op) (p + 1)).alloc (.cells #[.int .i64 (kby ch), lamB bb, fn_ f3, fn_ f4] 191)).cell? ⟨bb, 0, none⟩ = some (.int .i64 (klo ch)) := cell_alloc_l' _ hlo
      have hi7 : ((wr.iterAt ib (fd op) (p + 1)).alloc (.cells #[.int .i64 (kby ch), lamB bb, fn_ f3, fn_ f4] 191)).cell? ⟨bb + 1, 0, none⟩ = some (.int .i64 (khi ch)) := cell_alloc_l' _ hhi
      clear hlk hlo hhi hnx H6
      generalize ((wr.iterAt ib (fd op) (p + 1)).alloc (.cells #[.int .i64 (kby ch), lamB bb, fn_ f3, fn_ f4] 191)) = w4 at *
      generalize (wr.iterAt ib (fd op) (p + 1)).heap.size = fb at *
      have fc := fun k => cell_blk (blk_get H7.out) k
      have f0 : w4.cell? ⟨fb, 0, none⟩ = some (.int .i64 (kby ch)) := fc 0
      have f1 : w4.cell? ⟨fb, 1, none⟩ = some (lamB bb) := fc 1
      have gc := fun k => cell_blk (blk_get (H7.out.pull 3 rfl)) k
      have GC := Lib.hid gc
      clear fc gc
      obtain ⟨B, hB⟩ : ∃ B, kby ch = B := ⟨_, rfl⟩
      have HB := Lib.hid hB
      rw [hB] at f0 hby htq H7 ⊢
      have hq0 : 0 < q := by omega
      have hoq := ho hq0
      have HOQ := Lib.hid hoq
      have cx : w4.cell? ⟨g, o, none⟩ = some (.int .u8 (([a, b, c].drop (3 - q)).getD 0 0)) := by have := GC.out (o + 0); rw [abc_get a b c hq hoq 0 (by omega)] at this; exact this
      have cy : B = 2 → w4.cell? ⟨g, o + 1, none⟩ = some (.int .u8 (([a, b, c].drop (3 - q)).getD 1 0)) := fun h2 => by have := GC.out (o + 1); rw [abc_get a b c hq hoq 1 (by omega)] at this; exact this
      obtain ⟨n1, n2⟩ := num_take a b c hq hq0
      have bX := abc_bd ha hb hc (3 - q) 0
      have bY := abc_bd ha hb hc (3 - q) 1
      have CY := Lib.hid cy
      have N1 := Lib.hid n1
      have N2 := Lib.hid n2
      generalize hX : ([a, b, c].drop (3 - q)).getD 0 0 = X at *
      generalize hY : ([a, b, c].drop (3 - q)).getD 1 0 = Y at *
      clear hB cy n1 n2 hX hY hoq ho
      go_upto_block 2 with fail
      go_cut [9] from 31 to 64 (fun s9 wx => s9 = .int .i64 (num (([a, b, c].drop (3 - q)).take B)) ∧ w4 = wx)
      case first =>
        rcases hby with rfl | rfl
        · go_wp2_with fail
          go_loop [9, 42] (fun n i => (i = .int .i64 0 ∧ n = .int .i64 0) ∨ (i = .int .i64 1 ∧ n = .int .i64 X)) (fun _ i => 2 - (intOf i).toNat)
          case atStart => exact Or.inl ⟨rfl, rfl⟩
          case round =>
            rcases hrel with ⟨rfl, rfl⟩ | ⟨rfl, rfl⟩
            · go_wp2
              go_round
              case rel => exact Or.inr ⟨rfl, by rw [i64_or8 (by omega) (by omega) (by omega) bX.1 bX.2, Int.zero_add]⟩
              case measure => simp [intOf]
            · go_wp2
              go_meet
              exact ⟨by rw [N1.out], rfl⟩
        · have cy := CY.out rfl
          go_wp2_with fail
          go_loop [9, 42] (fun n i => (i = .int .i64 0 ∧ n = .int .i64 0) ∨ (i = .int .i64 1 ∧ n = .int .i64 X) ∨ (i = .int .i64 2 ∧ n = .int .i64 (X * 256 + Y))) (fun _ i => 2 - (intOf i).toNat)
          case atStart => exact Or.inl ⟨rfl, rfl⟩
          case round =>
            rcases hrel with ⟨rfl, rfl⟩ | ⟨rfl, rfl⟩ | ⟨rfl, rfl⟩
            · go_wp2
              go_round
              case rel => exact Or.inr (Or.inl ⟨rfl, by rw [i64_or8 (by omega) (by omega) (by omega) bX.1 bX.2, Int.zero_add]⟩)
              case measure => simp [intOf]
            · go_wp2
              go_round
              case rel => exact Or.inr (Or.inr ⟨rfl, by rw [i64_or8 (by omega) (by omega) (by omega) bY.1 bY.2]⟩)
              case measure => simp [intOf]
            · go_wp2
              go_meet
              exact ⟨by rw [N2.out (by omega)], rfl⟩
      case rest =>
        obtain ⟨rfl, rfl⟩ := hcut
        have hcc : kby ch = B := HB.out
        have hsp : sp (fl op) [a, b, c] = if mayK ch (num (([a, b, c].drop (3 - q)).take B)) then (sp ((fl op).drop (p + 1)) ([a, b, c].drop (3 - (q - B)))).map (acc ++ [num (([a, b, c].drop (3 - q)).take B)] ++ ·) else none := by
          rw [HSP.out]
          simp only [sp, hcc]
          split
          · rw [List.drop_drop, show 3 - q + B = 3 - (q - B) by omega]
            cases sp ((fl op).drop (p + 1)) ([a, b, c].drop (3 - (q - B))) <;> simp
          · rfl
        have htb2 : tby ((fl op).drop (p + 1)) ≤ q - B := by simp [tby] at htb ⊢; omega
        clear HSP cx CY N1 N2 bX bY GC
        generalize num (([a, b, c].drop (3 - q)).take B) = nn at *
        have HS2 := Lib.hid hsp
        clear hsp hcc htb
        have LC := Lib.hid (lam_c nn (klo ch) (khi ch) bb w4 lo7 hi7)
        clear lo7 hi7
        by_cases hm : mayK ch nn = true
        · have hm2 := hm
          unfold mayK at hm2
          rw [hm2] at LC
          have h3 := HS2.out
          rw [if_pos hm] at h3
          have HS3 := Lib.hid h3
          clear h3 HS2 hm hm2
          go_wp2_with fail
          refine LC.out.mono ?_; rintro e w5 ⟨rfl, rfl⟩
          obtain ⟨a2, c2, rfl⟩ := own_slice (H7.out.pull 2 rfl)
          have H8 := Lib.hid (H7.out.pull 2 rfl)
          by_cases hqB : q = B
          · subst hqB
            go_wp2_with (at_builtin; refine wpList_append_hp rfl (.tmp 61) (.tmp 63) 120 rfl 3 i0 _ 1 8 Tryz.underlying120 hi hz0 hz1 hz2 rfl (by decide) (H8.out.alloc _) rfl ⟨w4.heap.size, 0, none⟩ 1 1 [.int .i64 nn] rfl rfl (cell_one_at _ _ _ _ rfl) (by simp [Value.oneCell']) (by omega) (by omega) ?_)
            intro v' w6 H9
            obtain ⟨a3, c3, rfl⟩ := own_slice H9
            have HA := Lib.hid ((oi_snoc H9).pull 1 rfl).tail
            have hpos : w6.iterPos ib = p + 1 := by unfold World.iterPos; rw [blk_get HA.out.up1]
            have HP := Lib.hid hpos
            clear H9 H8 H7 hpos LC
            go_wp2
            go_roundw
            case rel => first | exact ⟨p + 1, 0, o, acc ++ [nn], by omega, by omega, fun h => by omega, rfl, by omega, by simp; omega, Lib.hid (by have := HS3.out; rw [Nat.sub_self] at this; exact this), Lib.hid HA.out⟩ | ((repeat apply Exists.intro); exact ⟨⟨p + 1, 0, o, acc ++ [nn], by omega, by omega, fun h => by omega, rfl, by omega, by simp; omega, Lib.hid (by have := HS3.out; rw [Nat.sub_self] at this; exact this), Lib.hid HA.out⟩, rfl⟩)
            case measure => rw [HP.out, HIP.out]; omega
          · have hcc : ¬ q - B = 0 := by omega
            go_wp2_with (at_builtin; refine wpList_append_hp rfl (.tmp 61) (.tmp 63) 120 rfl 3 i0 _ 1 8 Tryz.underlying120 hi hz0 hz1 hz2 rfl (by decide) (H8.out.alloc _) rfl ⟨w4.heap.size, 0, none⟩ 1 1 [.int .i64 nn] rfl rfl (cell_one_at _ _ _ _ rfl) (by simp [Value.oneCell']) (by omega) (by omega) ?_)
            intro v' w6 H9
            obtain ⟨a3, c3, rfl⟩ := own_slice H9
            have HA := Lib.hid ((oi_snoc H9).pull 1 rfl).tail
            have hpos : w6.iterPos ib = p + 1 := by unfold World.iterPos; rw [blk_get HA.out.up1]
            have HP := Lib.hid hpos
            clear H9 H8 H7 hpos LC
            go_wp2
            go_roundw
            case rel => first | exact ⟨p + 1, q - B, o + B, acc ++ [nn], by omega, by omega, fun h => by have := HOQ.out; omega, rfl, htb2, by simp; omega, Lib.hid HS3.out, Lib.hid HA.out⟩ | ((repeat apply Exists.intro); exact ⟨⟨p + 1, q - B, o + B, acc ++ [nn], by omega, by omega, fun h => by have := HOQ.out; omega, rfl, htb2, by simp; omega, Lib.hid HS3.out, Lib.hid HA.out⟩, rfl⟩)
            case measure => rw [HP.out, HIP.out]; omega
        · have hm2 : mayK ch nn = false := by simpa using hm
          unfold mayK at hm2
          rw [hm2] at LC
          have h3 := HS2.out
          rw [if_neg hm] at h3
          have HS3 := Lib.hid h3
          clear h3 HS2 hm hm2
          go_wp2_with fail
          refine LC.out.mono ?_; rintro e w5 ⟨rfl, rfl⟩
          go_wp2
          go_ret2
          exact split_none HS3.out H7.out.tail.tail.tail.tail.tail.tail
    · have hpe : p = (fl op).length := by omega
      have hnx : ∀ ty, (Instr.next (.pointer (some ⟨ib, 0, none⟩)) true ty).run Tryz.prog wr = _ := fun ty => run_next_end_at wr ib (fd op) p ty (blk_get hH.out.tail) (by rw [HFS.out]; exact hlt)
      have hs3 := hsp.out
      rw [List.drop_of_length_le (by omega)] at hs3
      have HS3 := Lib.hid hs3
      have gc := fun k => cell_blk (blk_get (hH.out.pull 2 rfl)) k
      have GC : Hid (∀ k, k < q → wr.cell? ⟨g, o + k, none⟩ = some (.int .u8 (([a, b, c].drop (3 - q)).getD k 0))) := Lib.hid (fun k hk => by have := gc (o + k); rw [abc_get a b c hq (ho (by omega)) k hk] at this; exact this)
      have LL : Hid (([a, b, c].drop (3 - q)).length = q) := Lib.hid (by rw [List.length_drop]; simp; omega)
      clear hs3 hsp gc
      obtain ⟨a2, c2, rfl⟩ := own_slice hH.out
      generalize [a, b, c].drop (3 - q) = L at *
      go_wp2
      go_loop [2, 67] (fun s2 i => s2 = .slice a2 acc.length c2 ∧ ∃ k : Nat, k ≤ q ∧ i = .int .i64 k ∧ Hid (∀ j, j < k → L.getD j 0 = 0)) (fun _ i => q - (intOf i).toNat)
      case atStart => exact ⟨rfl, 0, Nat.zero_le _, rfl, Lib.hid (fun j h => by omega)⟩
      case round =>
        obtain ⟨rfl, k, hk, rfl, hz⟩ := hrel
        by_cases hkq : k < q
        · have cx := GC.out k hkq
          have c1 : (k : Int) < (q : Int) := by omega
          have hwk : IntKind.i64.wrap ((k : Int) + 1) = (k : Int) + 1 := by rw [IntKind.wrap_i64]; omega
          by_cases h0 : L.getD k 0 = 0
          · have hz2 : Hid (∀ j, j < k + 1 → L.getD j 0 = 0) := Lib.hid (fun j hj => by
              rcases Nat.lt_or_eq_of_le (Nat.le_of_lt_succ hj) with h | rfl
              · exact hz.out j h
              · exact h0)
            rw [h0] at cx
            clear h0
            go_wp2
            go_round
            case rel => exact ⟨rfl, k + 1, by omega, by go_num, hz2⟩
            case measure => simp [intOf]; omega
          · have hn : sp (fl op) [a, b, c] = none := by
              rw [HS3.out]
              have : ¬ L.all (· == 0) = true := by
                intro hc
                rw [List.all_eq_true] at hc
                have hl := LL.out
                have := hc (L[k]'(by omega)) (List.getElem_mem _)
                rw [List.getD_eq_getElem?_getD, List.getElem?_eq_getElem (by omega)] at h0
                simp at this h0
                exact h0 this
              simp [sp, this]
            have HN := Lib.hid hn
            have d1 : (L.getD k 0 != 0) = true := by simpa using h0
            clear hn h0
            generalize L.getD k 0 = z at *
            go_wp2
            go_ret2
            exact split_none HN.out hH.out.tail.tail.tail.tail.tail
        · have hke : k = q := by omega
          subst hke
          have hn : sp (fl op) [a, b, c] = some acc := by
            rw [HS3.out]
            have : L.all (· == 0) = true := by
              rw [List.all_eq_true]
              intro x hx
              obtain ⟨j, hj, rfl⟩ := List.getElem_of_mem hx
              have hl := LL.out
              have := hz.out j (by omega)
              rw [List.getD_eq_getElem?_getD, List.getElem?_eq_getElem hj] at this
              simpa using this
            simp [sp, this]
          have HN := Lib.hid hn
          have c1 : ¬ (k : Int) < (k : Int) := by omega
          clear hn
          go_wp2
          go_ret2
          exact split_some (v := .slice a2 acc.length c2) HN.out (own_last hH.out)
end Go.Proofs.YtijkkompnfpdeaaGreatDoor
set_option linter.unusedVariables false
set_option linter.unusedSimpArgs false
namespace Go.Proofs.YtijkkompnfpdeaaGreatDoor
open Go.RowKit Go.Lib
attribute [local go_sem] Oper.semAt_some

abbrev inS (op : Nat) (a b c : Int) : Value := .agg #[.int .u8 op, .int .u8 a, .int .u8 b, .int .u8 c]
/-- Three bytes. -/
structure By3 (a b c : Int) : Prop where
  a : 0 ≤ a ∧ a < 256
  b : 0 ≤ b ∧ b < 256
  c : 0 ≤ c ∧ c < 256
theorem sp_ck {op : Nat} {a b c : Int} (h : op ≤ 22) (hb : By3 a b c) : (sp (fl op) [a, b, c]).isSome = ck op a b c := by
  obtain ⟨k1, k2⟩ := fl_ok op
  rw [sp_rck _ _ k1 (by simpa using k2) (by simp; exact ⟨hb.a, hb.b, hb.c⟩)]
  simp [ck, h]
/-- split: of whatever Op. -/
theorem split_yes {w0 w : World} {r : List Thing} {op : Nat} {a b c : Int} (H : Hp w0 w r) (hb : By3 a b c) (hk : ck op a b c = true) :
    ∃ l, sp (fl op) [a, b, c] = some l ∧ Calls Tryz.prog 126 #[inS op a b c] w fun e w' => ∃ v, e = .returned (.tuple #[v, .bool true]) ∧ Hp w0 w' (OwnI v l :: r) := by
  have h : op ≤ 22 := by unfold ck at hk; simp at hk; exact hk.1
  have h1 := sp_ck h hb
  rw [hk] at h1
  obtain ⟨l, hl⟩ := Option.isSome_iff_exists.1 h1
  have := split_ok op a b c H h hb.a hb.b hb.c
  rw [hl] at this
  exact ⟨l, hl, this⟩
theorem split_not {w0 w : World} {r : List Thing} {op : Nat} {a b c : Int} (H : Hp w0 w r) (hb : By3 a b c) (hk : ck op a b c = false) :
    Calls Tryz.prog 126 #[inS op a b c] w fun e w' => e = .returned (.tuple #[.slice none 0 0, .bool false]) ∧ Hp w0 w' r := by
  by_cases h : op ≤ 22
  · have h1 := sp_ck h hb
    rw [hk] at h1
    have h2 : sp (fl op) [a, b, c] = none := by simpa using h1
    have := split_ok op a b c H h hb.a hb.b hb.c
    rw [h2] at this
    exact this
  · exact split_bad op a b c H (by omega)

set_option maxHeartbeats 1000000 in
set_option maxRecDepth 20000 in
theorem check_c {w0 w : World} {r : List Thing} {op : Nat} {a b c : Int} (H : Hp w0 w r) (hb : By3 a b c) :
    Calls Tryz.prog 76 #[inS op a b c] w fun e w' => e = .returned (.bool (ck op a b c)) ∧ Hp w0 w' r := by
  have HX := Lib.hid (H.alloc (.cells #[.int .u8 op, .int .u8 a, .int .u8 b, .int .u8 c] 26))
  by_cases hk : ck op a b c = true
  · obtain ⟨l, hl, hc⟩ := split_yes HX.out hb hk
    have HC := Lib.hid hc
    rw [hk]
    clear hc hl H HX hk
    go_enter Tryz.func76, Tryz.ntmps76
    go_wp2_with fail
    refine HC.out.mono ?_; rintro e w1 ⟨v, rfl, H1⟩
    have H2 := Lib.hid H1.tail
    obtain ⟨av, cv, rfl⟩ := own_slice H1
    clear H1
    go_wp2
    go_ret
    exact ⟨rfl, H2.out⟩
  · have hk' : ck op a b c = false := by simpa using hk
    have HC := Lib.hid (split_not HX.out hb hk')
    rw [hk']
    clear H HX hk hk'
    go_enter Tryz.func76, Tryz.ntmps76
    go_wp2_with fail
    refine HC.out.mono ?_; rintro e w1 ⟨rfl, H1⟩
    have H2 := Lib.hid H1
    clear H1
    go_wp2
    go_ret
    exact ⟨rfl, H2.out⟩

theorem ins_info : (Tryz.prog.info? 26).map (·.size) = some 4 := by kernel_rfl
end Go.Proofs.YtijkkompnfpdeaaGreatDoor
set_option linter.unusedVariables false
set_option linter.unusedSimpArgs false
namespace Go.Proofs.YtijkkompnfpdeaaGreatDoor
open Go.RowKit Go.Joins Go.Shelf
attribute [local go_sem] Oper.semAt_some

/-- An instruction's bytes. -/
abbrev I4 := UInt8 × UInt8 × UInt8 × UInt8
abbrev bv (c : UInt8) : Value := .int .u8 (c.toNat : Int)
def i4c (x : I4) : List Value := [bv x.1, bv x.2.1, bv x.2.2.1, bv x.2.2.2]
def ics (l : List I4) : List Value := l.flatMap i4c
abbrev i4v (x : I4) : Value := inS x.1.toNat x.2.1.toNat x.2.2.1.toNat x.2.2.2.toNat
def ik (x : I4) : Bool := ck x.1.toNat x.2.1.toNat x.2.2.1.toNat x.2.2.2.toNat
theorem by4 (x : I4) : By3 (x.2.1.toNat : Int) x.2.2.1.toNat x.2.2.2.toNat := by
  have h1 := x.2.1.toNat_lt
  have h2 := x.2.2.1.toNat_lt
  have h3 := x.2.2.2.toNat_lt
  exact ⟨by omega, by omega, by omega⟩
theorem ics_len (l : List I4) : (ics l).length = l.length * 4 := by
  induction l with
  | nil => rfl
  | cons x l ih => simp [ics, i4c] at *; omega
theorem ics_get : ∀ (l : List I4) (k o : Nat) (h : k < l.length), o < 4 → (ics l)[k * 4 + o]? = (i4c l[k])[o]?
  | [], k, o, h, _ => by simp at h
  | x :: l, 0, o, h, ho => by
    have : (i4c x).length = 4 := rfl
    simp only [ics, List.flatMap_cons, Nat.zero_mul, Nat.zero_add, List.getElem_cons_zero]
    rw [List.getElem?_append_left (by omega)]
  | x :: l, k + 1, o, h, ho => by
    have ih := ics_get l k o (by simpa using h) ho
    have : (i4c x).length = 4 := rfl
    simp only [ics, List.flatMap_cons, List.getElem_cons_succ] at *
    rw [List.getElem?_append_right (by omega), this, show (k + 1) * 4 + o - 4 = k * 4 + o by omega]
    exact ih
/-- An instruction among others. -/
theorem ins_cells {w : World} {a : Option Addr} {c : List I4} (h : CellsIn w a (ics c)) {k : Nat} (hk : k < c.length) : ∃ g o, a = some ⟨g, o, none⟩ ∧ w.cell? ⟨g, o + k * 4, none⟩ = some (bv c[k].1) ∧ w.cell? ⟨g, o + k * 4 + 1, none⟩ = some (bv c[k].2.1) ∧ w.cell? ⟨g, o + k * 4 + 2, none⟩ = some (bv c[k].2.2.1) ∧ w.cell? ⟨g, o + k * 4 + 3, none⟩ = some (bv c[k].2.2.2) := by
  have hl := ics_len c
  have key : ∀ o, (ho : o < 4) → ∃ g b, a = some ⟨g, b, none⟩ ∧ w.cell? ⟨g, b + (k * 4 + o), none⟩ = (i4c c[k])[o]? := fun o ho => by
    obtain ⟨g, b, e, hc⟩ := h (k * 4 + o) (by omega)
    refine ⟨g, b, e, ?_⟩
    rw [hc, ← ics_get c k o hk ho, List.getElem?_eq_getElem (by omega)]
  obtain ⟨g, b, rfl, h0⟩ := key 0 (by omega)
  obtain ⟨g1, b1, e1, h1⟩ := key 1 (by omega)
  obtain ⟨g2, b2, e2, h2⟩ := key 2 (by omega)
  obtain ⟨g3, b3, e3, h3⟩ := key 3 (by omega)
  cases e1; cases e2; cases e3
  exact ⟨g, b, rfl, h0, by rw [Nat.add_assoc]; exact h1, by rw [Nat.add_assoc]; exact h2, by rw [Nat.add_assoc]; exact h3⟩
theorem byte_cell {w : World} {a : Option Addr} {d : List UInt8} (h : CellsIn w a (d.map bv)) {k : Nat} (hk : k < d.length) : ∃ g o, a = some ⟨g, o, none⟩ ∧ w.cell? ⟨g, o + k, none⟩ = some (bv d[k]) := by
  obtain ⟨g, o, e, hc⟩ := h k (by simpa using hk)
  exact ⟨g, o, e, by rw [hc]; simp⟩
set_option maxHeartbeats 2000000 in
set_option maxRecDepth 20000 in
theorem chk1_c (x : I4) (w : World) :
    Calls Tryz.prog 75 #[i4v x] w fun e w' => e = .returned (.bool (!ik x)) ∧ Below w.heap.size w w' := by
  have H1 := Lib.hid (blk_new (Hp.start w) (.cells #[.int .u8 x.1.toNat, .int .u8 x.2.1.toNat, .int .u8 x.2.2.1.toNat, .int .u8 x.2.2.2.toNat] 26))
  have C := Lib.hid (check_c (op := x.1.toNat) H1.out (by4 x))
  obtain ⟨o, a, b, c⟩ := x
  generalize hik : ik (o, a, b, c) = kk
  have HIK : Hid (ck o.toNat a.toNat b.toNat c.toNat = kk) := Lib.hid hik
  clear hik
  go_enter Tryz.func75, Tryz.ntmps75
  go_wp2_with fail
  refine C.out.mono ?_; rintro e w1 ⟨rfl, H2⟩
  have H3 := Lib.hid H2
  clear H2 C H1
  rw [HIK.out]
  cases kk
  all_goals
    go_wp2
    go_ret
    exact ⟨rfl, H3.out.below⟩
set_option maxHeartbeats 4000000 in
set_option maxRecDepth 20000 in
theorem ixf_c (a : Option Addr) (cc : Nat) (c : List I4) (w : World) (hc : CellsIn w a (ics c)) (hl : c.length < 1000000000) :
    Calls Tryz.prog 125 #[.slice a c.length cc, fn_ 75] w fun e w' => ∃ k : Int, e = .returned (.int .i64 k) ∧ (-1 ≤ k ∧ k < 1000000000 ∧ decide (0 ≤ k) = !c.all ik) ∧ Below w.heap.size w w' := by
  have HC := Lib.hid hc
  have H0 := Lib.hid (Hp.start w)
  have HL := Lib.hid hl
  clear hc hl
  go_enter Tryz.func125, Tryz.ntmps125
  go_wp2
  go_loopw [8] (fun s8 wr => ∃ k : Nat, k ≤ c.length ∧ s8 = .int .i64 k ∧ Hid (∀ j (h : j < c.length), j < k → ik c[j] = true) ∧ Hid (Hp w wr [])) (fun s8 _ => c.length - (intOf s8).toNat)
  case atStart => exact ⟨0, Nat.zero_le _, rfl, Lib.hid (fun j _ h => by omega), H0⟩
  case round =>
    obtain ⟨k, hk, rfl, hN, hH⟩ := hrel
    clear H0
    by_cases hlt : k < c.length
    · obtain ⟨g, o, rfl, c0, c1, c2, c3⟩ := ins_cells (HC.out.hp hH.out) hlt
      have hkw : IntKind.i64.wrap ((k : Int) + 1) = (k : Int) + 1 := by rw [IntKind.wrap_i64]; have := HL.out; omega
      have hN2 : Hid (ik c[k] = true → ∀ j (h : j < c.length), j < k + 1 → ik c[j] = true) := Lib.hid (fun h j hj hjk => by
        by_cases e : j = k
        · subst e; exact h
        · exact hN.out j hj (by omega))
      have hN3 : Hid (ik c[k] = false → c.all ik = false) := Lib.hid (fun h => by
        rw [Bool.eq_false_iff]
        intro h2
        have := List.all_eq_true.1 h2 c[k] (List.getElem_mem hlt)
        rw [h] at this; cases this)
      have CK := Lib.hid (fun W => chk1_c c[k] W)
      generalize c[k] = x at *
      cases hx : ik x with
      | true =>
        rw [hx] at CK
        have hn := Lib.hid (hN2.out hx)
        have HLT := Lib.hid hlt
        clear hN hN2 hN3 hx hlt
        go_wp2_with fail
        refine (CK.out _).mono ?_; rintro e w1 ⟨rfl, hb⟩
        have H2 := Lib.hid (hH.out.below_read hb)
        clear hb CK hH c0 c1 c2 c3
        go_wp2
        go_roundw
        case rel => exact ⟨k + 1, by have := HLT.out; omega, by go_num, hn, H2⟩
        case measure => have := HLT.out; simp [intOf]; omega
      | false =>
        rw [hx] at CK
        have hn := Lib.hid (hN3.out hx)
        have HLT := Lib.hid hlt
        clear hN hN2 hN3 hx hlt
        go_wp2_with fail
        refine (CK.out _).mono ?_; rintro e w1 ⟨rfl, hb⟩
        have H2 := Lib.hid (hH.out.below_read hb)
        clear hb CK hH c0 c1 c2 c3
        go_wp2
        go_ret
        exact ⟨_, rfl, ⟨by omega, by have := HL.out; have := HLT.out; omega, by rw [hn.out]; simp⟩, H2.out.below⟩
    · have hall : c.all ik = true := List.all_eq_true.2 (fun x hx => by
        obtain ⟨j, hj, rfl⟩ := List.getElem_of_mem hx
        exact hN.out j hj (by omega))
      have HALL := Lib.hid hall
      clear hall hN
      go_wp2
      go_ret
      exact ⟨-1, rfl, ⟨by omega, by omega, by rw [HALL.out]; rfl⟩, hH.out.below⟩
set_option maxHeartbeats 2000000 in
theorem ctf_c (a : Option Addr) (cc : Nat) (c : List I4) (w : World) (hc : CellsIn w a (ics c)) (hl : c.length < 1000000000) :
    Calls Tryz.prog 74 #[.slice a c.length cc, fn_ 75] w fun e w' => e = .returned (.bool (!c.all ik)) ∧ Below w.heap.size w w' := by
  have C := Lib.hid (ixf_c a cc c w hc hl)
  generalize (!c.all ik) = kk at *
  clear hc hl
  go_enter Tryz.func74, Tryz.ntmps74
  go_wp2_with fail
  refine C.out.mono ?_; rintro e w1 ⟨k, rfl, ⟨h1, h2, h3⟩, hb⟩
  have HB := Lib.hid hb
  have H3 := Lib.hid h3
  clear C hb h3
  go_wp2
  go_ret
  exact ⟨by rw [← H3.out]; rfl, HB.out⟩
/-- An image, as a value. -/
abbrev imV (n : Int) (ad : Option Addr) (dl dc : Nat) (ac : Option Addr) (cl cc : Nat) : Value := .agg #[.int .i64 n, .slice ad dl dc, .slice ac cl cc]
/-- May it be? -/
def imck (n : Int) (d : List UInt8) (c : List I4) : Bool := decide (0 ≤ n ∧ n ≤ 4096 ∧ (d.length : Int) ≤ n ∧ c.length ≤ 1024) && c.all ik
set_option maxHeartbeats 4000000 in
set_option maxRecDepth 20000 in
theorem imcheck_c (n : Int) (ad ac : Option Addr) (dc cc : Nat) (d : List UInt8) (c : List I4) (w : World) (hc : CellsIn w ac (ics c)) :
    Calls Tryz.prog 29 #[imV n ad d.length dc ac c.length cc] w fun e w' => e = .returned (.bool (imck n d c)) ∧ Below w.heap.size w w' := by
  have H1 := Lib.hid (blk_new (Hp.start w) (.cells #[.int .i64 n, .slice ad d.length dc, .slice ac c.length cc] 29))
  have HC : Hid (c.length ≤ 1024 → Calls Tryz.prog 74 #[.slice ac c.length cc, fn_ 75] (w.alloc (.cells #[.int .i64 n, .slice ad d.length dc, .slice ac c.length cc] 29)) fun e w' => e = .returned (.bool (!c.all ik)) ∧ Below (w.alloc (.cells #[.int .i64 n, .slice ad d.length dc, .slice ac c.length cc] 29)).heap.size (w.alloc (.cells #[.int .i64 n, .slice ad d.length dc, .slice ac c.length cc] 29)) w') :=
    Lib.hid (fun h => ctf_c ac cc c _ (hc.hp H1.out) (by omega))
  generalize hm : imck n d c = m
  have HM := Lib.hid hm
  unfold imck at hm
  clear hc
  go_enter Tryz.func29, Tryz.ntmps29
  by_cases h0 : n < 0
  · have hm2 : m = false := by rw [← hm]; have : ¬ (0 ≤ n ∧ n ≤ 4096 ∧ (d.length : Int) ≤ n ∧ c.length ≤ 1024) := by omega
                               simp [this]
    subst hm2
    clear hm HM
    go_wp2
    go_ret
    exact ⟨rfl, H1.out.below⟩
  by_cases h1 : 4096 < n
  · have hm2 : m = false := by rw [← hm]; have : ¬ (0 ≤ n ∧ n ≤ 4096 ∧ (d.length : Int) ≤ n ∧ c.length ≤ 1024) := by omega
                               simp [this]
    subst hm2
    clear hm HM
    go_wp2
    go_ret
    exact ⟨rfl, H1.out.below⟩
  by_cases h2 : n < (d.length : Int)
  · have hm2 : m = false := by rw [← hm]; have : ¬ (0 ≤ n ∧ n ≤ 4096 ∧ (d.length : Int) ≤ n ∧ c.length ≤ 1024) := by omega
                               simp [this]
    subst hm2
    clear hm HM
    go_wp2
    go_ret
    exact ⟨rfl, H1.out.below⟩
  by_cases h3 : (1024 : Int) < (c.length : Int)
  · have hm2 : m = false := by rw [← hm]; have : ¬ (0 ≤ n ∧ n ≤ 4096 ∧ (d.length : Int) ≤ n ∧ c.length ≤ 1024) := by omega
                               simp [this]
    subst hm2
    clear hm HM
    go_wp2
    go_ret
    exact ⟨rfl, H1.out.below⟩
  have hm2 : m = c.all ik := by
    rw [← hm]; have : (0 ≤ n ∧ n ≤ 4096 ∧ (d.length : Int) ≤ n ∧ c.length ≤ 1024) := by omega
    simp [this]
  have HM2 := Lib.hid hm2
  have C := Lib.hid (HC.out (by omega))
  clear hm HM hm2 HC
  go_wp2_with fail
  refine C.out.mono ?_; rintro e w1 ⟨rfl, hb⟩
  have H4 := Lib.hid (H1.out.below_read hb)
  rw [← HM2.out]
  clear hb C H1
  cases m
  all_goals
    go_wp2
    go_ret
    exact ⟨rfl, H4.out.below⟩
end Go.Proofs.YtijkkompnfpdeaaGreatDoor
set_option linter.unusedVariables false
set_option linter.unusedSimpArgs false
namespace Go.Proofs.YtijkkompnfpdeaaGreatDoor
open Go.RowKit

/-- A word of 32 bits, as a value. -/
abbrev wv (u : UInt32) : Value := .int .u32 (u.toNat : Int)
/-- What a core has. -/
structure Cs where
  r : List UInt32
  at_ : Int
  mem : List UInt8
  says : List UInt8
  asked : Bool
/-- With a sign. -/
def sg (a : UInt32) : Int := if a.toNat < 2147483648 then (a.toNat : Int) else (a.toNat : Int) - 4294967296
def doP (o : Nat) (a b : UInt32) : UInt32 :=
  match o with
  | 3 => a + b
  | 4 => a - b
  | 5 => a * b
  | 6 => a &&& b
  | 7 => a ||| b
  | 8 => a ^^^ b
  | 9 => a <<< (b &&& 31)
  | _ => a >>> (b &&& 31)
def holdsP (o : Nat) (a b : UInt32) : Bool :=
  match o with
  | 15 => a == b
  | 16 => a != b
  | 17 => decide (sg a < sg b)
  | _ => decide (a.toNat < b.toNat)
/-- A byte with a sign. -/
def s8 (c : UInt8) : Int := if c.toNat < 128 then (c.toNat : Int) else (c.toNat : Int) - 256
def rg (s : Cs) (k : UInt8) : UInt32 := s.r.getD k.toNat 0
/-- A register is written. -/
def wrg (s : Cs) (k : UInt8) (v : UInt32) : Cs := { s with r := s.r.set k.toNat v }
/-- A word of bytes, the highest one first. -/
def ld4 (m : List UInt8) (k : Nat) : UInt32 := UInt32.ofNat ((((m.getD k 0).toNat * 256 + (m.getD (k + 1) 0).toNat) * 256 + (m.getD (k + 2) 0).toNat) * 256 + (m.getD (k + 3) 0).toNat)
/-- Its bytes. -/
def w4 (v : UInt32) : List UInt8 := [UInt8.ofNat (v.toNat / 16777216), UInt8.ofNat (v.toNat / 65536), UInt8.ofNat (v.toNat / 256), UInt8.ofNat v.toNat]
/-- Bytes laid from a place on. -/
def layB (m : List UInt8) (k : Nat) : List UInt8 → List UInt8
  | [] => m
  | x :: l => layB (m.set k x) (k + 1) l
/-- Where. -/
def plc (s : Cs) (x : I4) : UInt32 := rg s x.2.2.1 + UInt32.ofNat x.2.2.2.toNat
/-- What an instruction that asks nothing does, and how far it goes on beside the next one; none: it is at fault. -/
def doesC (x : I4) (s : Cs) : Option (Cs × Int) :=
  match x.1.toNat with
  | 0 => some (s, 0)
  | 1 => some (wrg s x.2.1 (UInt32.ofNat (x.2.2.1.toNat * 256 + x.2.2.2.toNat)), 0)
  | 2 => some (wrg s x.2.1 (rg s x.2.2.1), 0)
  | 11 => if (plc s x).toNat + 4 ≤ s.mem.length then some (wrg s x.2.1 (ld4 s.mem (plc s x).toNat), 0) else none
  | 12 => if (plc s x).toNat + 4 ≤ s.mem.length then some ({ s with mem := layB s.mem (plc s x).toNat (w4 (rg s x.2.1)) }, 0) else none
  | 13 => if (plc s x).toNat + 1 ≤ s.mem.length then some (wrg s x.2.1 (UInt32.ofNat (s.mem.getD (plc s x).toNat 0).toNat), 0) else none
  | 14 => if (plc s x).toNat + 1 ≤ s.mem.length then some ({ s with mem := s.mem.set (plc s x).toNat (UInt8.ofNat (rg s x.2.1).toNat) }, 0) else none
  | 15 | 16 | 17 | 18 => some (s, if holdsP x.1.toNat (rg s x.2.1) (rg s x.2.2.1) then s8 x.2.2.2 else 0)
  | 19 => some (s, (x.2.1.toNat * 256 + x.2.2.1.toNat : Nat) - s.at_ - 1)
  | 20 => some ({ s with says := s.says ++ [UInt8.ofNat (rg s x.2.1).toNat] }, 0)
  | o => some (wrg s x.2.1 (doP o (rg s x.2.2.1) (rg s x.2.2.2)), 0)
/-- What is asked. -/
structure Ak where
  what : UInt8
  h : UInt32
  v : UInt32
  m : UInt32
  wait : Int
def ak0 : Ak := ⟨0, 0, 0, 0, 0⟩
/-- What is asked by an instruction that asks. -/
def askC (x : I4) (s : Cs) : Ak := if x.1.toNat = 22 then { ak0 with what := 20 } else ⟨x.2.1, s.r.getD 0 0, s.r.getD 1 0, s.r.getD 2 0, sg (s.r.getD 3 0)⟩
/-- A step: what it has, whether it asks, what, and the error. -/
def stepC (c : List I4) (s : Cs) : Cs × Bool × Ak × Int :=
  if s.asked then (s, false, ak0, 7)
  else if h : 0 ≤ s.at_ ∧ s.at_ < c.length then
    let x := c[s.at_.toNat]'(by omega)
    if 21 ≤ x.1.toNat then ({ s with asked := true, at_ := s.at_ + 1 }, true, askC x s, 0)
    else match doesC x s with
      | some (t, d) => ({ t with at_ := t.at_ + (1 + d) }, false, ak0, 0)
      | none => (s, false, ak0, 15)
  else (s, false, ak0, 15)
/-- An answer. -/
def answC (s : Cs) (e : Int) (v : UInt32) : Cs × Int :=
  if s.asked then ({ s with asked := false, r := (s.r.set 0 (UInt32.ofNat (e % 4294967296).toNat)).set 1 v }, 0) else (s, 7)
/-- At first. -/
def firstC (n : Nat) (d : List UInt8) : Cs := ⟨List.replicate 8 0, 0, d ++ List.replicate (n - d.length) 0, [], false⟩

theorem layB_len : ∀ (l m : List UInt8) (k : Nat), (layB m k l).length = m.length
  | [], _, _ => rfl
  | x :: l, m, k => by rw [layB, layB_len l, List.length_set]
theorem doesC_mem {x : I4} {s t : Cs} {d : Int} (h : doesC x s = some (t, d)) : t.mem.length = s.mem.length ∧ t.r.length = s.r.length ∧ t.at_ = s.at_ ∧ t.asked = s.asked ∧ t.says.length ≤ s.says.length + 1 ∧ s.says.length ≤ t.says.length := by
  unfold doesC at h
  split at h <;> (try split at h) <;> first | (cases h; done) | (obtain ⟨rfl, rfl⟩ := Prod.mk.inj (Option.some.inj h); simp [wrg, layB_len])
theorem firstC_mem {n : Nat} {d : List UInt8} (h : d.length ≤ n) : (firstC n d).mem.length = n := by simp [firstC]; omega
end Go.Proofs.YtijkkompnfpdeaaGreatDoor
