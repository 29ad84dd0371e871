/- A copy of bytes in memory of its own, with a mark behind it: walked. Images: the document's Check and Put: walked. The document's core: made: walked. -/
import Derived.Test.YtijkkompnfpdeaaGreatDoorP12
import Derived.Test.YtijkkompnfpdeaaGreatDoorP21
set_option linter.unusedVariables false
set_option linter.unusedSimpArgs false
namespace Go.Proofs.YtijkkompnfpdeaaGreatDoor
open Go.RowKit Go.Joins Go.Shelf
attribute [local go_sem] Oper.semAt_some

abbrev OwnU (v : Value) (bs : List UInt8) : Thing := Own 5 1 v bs.length (bs.map bv)
abbrev OwnN (v : Value) (l : List I4) : Thing := Own 26 4 v l.length (ics l)
theorem info_u8 : (Tryz.prog.info? 5).map (fun i => (i.zero, i.size, i.bytes)) = some (some (.int .u8 0), 1, 1) := by kernel_rfl
theorem info_ins : (Tryz.prog.info? 26).map (fun i => (i.zero, i.size, i.bytes)) = some (some (.agg #[.int .u8 0, .int .u8 0, .int .u8 0, .int .u8 0]), 4, 4) := by kernel_rfl
abbrev IM (b : Nat) (n : Int) (u v : Value) : Thing := Blk b (.cells #[.int .i64 n, u, v] 29 (0, 0))
theorem im_cells {w0 w : World} {r : List Thing} {b : Nat} {n : Int} {u v : Value} (H : Hp w0 w (Blk b (.cells #[.int .i64 n, u, v] 29 (0, 0)) :: r)) : w.cell? ⟨b, 0, none⟩ = some (.int .i64 n) ∧ w.cell? ⟨b, 1, none⟩ = some u ∧ w.cell? ⟨b, 2, none⟩ = some v :=
  ⟨cell_blk (blk_get H) 0, cell_blk (blk_get H) 1, cell_blk (blk_get H) 2⟩
theorem blk_newsU {w : World} {g : Nat} {l : List Value} {t : TypeId} {f : Nat × Nat} (h : w.heap[g]? = some (.cells l.toArray t f)) : ∀ j u, l[j]? = some u → w.cell? ((⟨g, 0, none⟩ : Addr).add j) = some u := by
  intro j u hj
  rw [show (⟨g, 0, none⟩ : Addr).add j = ⟨g, 0 + j, none⟩ from Addr.add_lit g 0 j, cell_blk h, Nat.zero_add]
  simpa using hj
abbrev zI : Array Value := #[.int .i64 0, .slice none 0 0, .slice none 0 0]
theorem set3 {w0 w : World} {r : List Thing} {g : Nat} {t : TypeId} {v0 v1 v2 : Value} (H : Hp w0 w (Blk g (.cells #[v0, v1, v2] t (0, 0)) :: r)) (u0 u1 u2 : Value) :
    Hp w0 (((w.setCell ⟨g, 0, none⟩ u0).setCell ⟨g, 1, none⟩ u1).setCell ⟨g, 2, none⟩ u2) (Blk g (.cells #[u0, u1, u2] t (0, 0)) :: r) :=
  blk_set (blk_set (blk_set H 0 u0) 1 u1) 2 u2
theorem im_info : (Tryz.prog.info? 29).map (·.size) = some 3 := by kernel_rfl
theorem wpList_make_hp {P : Program} {w0 w : World} {ops : Array Oper} {rest : List Oper} {o : Oper} {a : Act} {Q : Exit → Act → World → Prop} (hgd : o.guard = none) (l c : Operand) (t : TypeId) (ho : o.op = Op.makeSlice t l c)
    (e : TypeId) (i : TypeInfo) (z : Value) (size bytes : Nat) (ht : P.underlying t = some (.slice e)) (hi : P.info? e = some i) (hz : i.zero = some z) (hsize : i.size = size) (hby : i.bytes = bytes)
    {r : List Thing} (H : Hp w0 w r) (kl kc : IntKind) (C : Int) (n : Nat) (hl : a.eval l = .int kl 0) (hc : a.eval c = .int kc C) (hC : C = (n : Int)) (hn : n ≤ 4000000) (hb : bytes ≤ 1000)
    (h : ∀ w', Hp w0 w' (Own e size (.slice (some ⟨w.heap.size, 0, none⟩) 0 n) 0 [] :: r) → wpList P ops Q rest (a.put o.dst (.slice (some ⟨w.heap.size, 0, none⟩) 0 n)) w') :
    wpList P ops Q (o :: rest) a w := by
  refine wpList_make_own w hgd l c t ho w.heap.size e i z size ht hi hz hsize kl kc C n hl hc hC ?_ (by unfold maxLen; omega) (Nat.le_refl _) ?_
  · rw [hby]
    have : bytes * n ≤ 1000 * 4000000 := Nat.mul_le_mul hb hn
    omega
  · intro w' h1 h2
    exact h w' (own_new H ((Tch.refl Nil w).grown h2 (fun k hk => by cases hk)) h1)
/-- Only the first ones of a row. -/
theorem own_cut {w0 w : World} {r : List Thing} {e : TypeId} {size n c : Nat} {g : Nat} {cs : List Value} (m : Nat) (hm : m ≤ n) (H : Hp w0 w (Own e size (.slice (some ⟨g, 0, none⟩) n c) n cs :: r)) : Hp w0 w (Own e size (.slice (some ⟨g, 0, none⟩) m c) m (cs.take (m * size)) :: r) := by
  obtain ⟨S, ⟨h1, rfl⟩, h2, h3⟩ := H.lay
  refine ⟨H.below, _, ⟨?_, rfl⟩, h2, h3⟩
  have hms : m * size ≤ n * size := Nat.mul_le_mul_right _ hm
  rcases h1 with ⟨h0, ⟨hq, _⟩ | ⟨g', cap, cur, hq, a1, a2, a3, a4, a5, a6⟩⟩
  · cases hq
  · injection hq with b1 b2 b3
    cases b1
    subst b3
    refine ⟨by rw [List.length_take, h0]; omega, Or.inr ⟨g, c, cur, rfl, a1, a2, by omega, a4, a5, ?_⟩⟩
    rw [← a6, List.take_take, Nat.min_eq_left hms]
abbrev OwnT (g cap : Nat) (xs : List UInt8) : Thing := Own 5 1 (.slice (some ⟨g, 0, none⟩) (xs.length + 1) cap) (xs.length + 1) (xs.map bv ++ [.int .u8 77])
theorem ownT_cut {w0 w : World} {r : List Thing} {g cap : Nat} {xs : List UInt8} (H : Hp w0 w (OwnT g cap xs :: r)) : Hp w0 w (OwnU (.slice (some ⟨g, 0, none⟩) xs.length cap) xs :: r) := by
  have := own_cut xs.length (Nat.le_succ _) H
  rw [Nat.mul_one, List.take_append_of_le_length (by simp), List.take_of_length_le (by simp)] at this
  exact this
theorem own_capn {w0 w : World} {r : List Thing} {e : TypeId} {size n c : Nat} {a : Option Addr} {cs : List Value} (H : Hp w0 w (Own e size (.slice a n c) n cs :: r)) : n ≤ c := by
  rcases (own_get H).2 with ⟨h1, h2⟩ | ⟨_, _, _, hq, _, _, hq2, _⟩
  · injection h1 with _ h4 h3; omega
  · injection hq with _ _ h3; omega
set_option maxHeartbeats 4000000 in
set_option maxRecDepth 20000 in
theorem twin_bytes (a : Option Addr) (c : Nat) (xs : List UInt8) (w : World) (hx : CellsIn w a (xs.map bv)) (hl : xs.length < 900000) :
    Calls Tryz.prog 38 #[.slice a xs.length c] w fun e w' => ∃ g cap, e = .returned (.slice (some ⟨g, 0, none⟩) xs.length cap) ∧ Hp w w' [OwnT g cap xs] := by
  have H0 := Lib.hid (Hp.start w)
  have HX := Lib.hid hx
  have HL := Lib.hid hl
  obtain ⟨i0, hi, hz0, hz1, hz2⟩ := info_parts info_u8
  have hw1 : IntKind.i64.wrap ((xs.length : Int) + 1) = (xs.length : Int) + 1 := by rw [IntKind.wrap_i64]; omega
  clear hx
  go_enter Tryz.func38, Tryz.ntmps38
  go_wp2_with (refine wpList_make_hp rfl _ (.tmp 7) 22 rfl 5 i0 _ 1 1 Tryz.underlying22 hi hz0 hz1 hz2 H0.out .i64 .i64 _ (xs.length + 1) rfl rfl (by omega) (by omega) (by omega) ?_; intro w1 H1'; have H1 := Lib.hid H1'; clear H1' H0)
  clear hw1 hl
  go_loopw [3, 4] (fun s3 s4 wr => ∃ k : Nat, k ≤ xs.length ∧ s4 = .int .i64 k ∧ Hid (Hp w wr [Own 5 1 s3 k ((xs.take k).map bv)])) (fun _ s4 _ => xs.length - (intOf s4).toNat)
  case atStart => exact ⟨0, Nat.zero_le _, rfl, H1⟩
  case round =>
    obtain ⟨k, hk, rfl, hH⟩ := hrel
    clear H1
    obtain ⟨a3, c3, rfl⟩ := own_slice hH.out
    by_cases hlt : k < xs.length
    · obtain ⟨g, o, rfl, c0⟩ := byte_cell (HX.out.hp hH.out) hlt
      have hkw : IntKind.i64.wrap ((k : Int) + 1) = (k : Int) + 1 := by rw [IntKind.wrap_i64]; have := HL.out; omega
      have hst := Lib.hid (show ((xs.take k).map bv ++ [bv xs[k]] : List Value) = (xs.take (k + 1)).map bv by rw [List.take_succ_eq_append_getElem hlt, List.map_append]; rfl)
      have HLT := Lib.hid hlt
      generalize xs[k] = x at *
      go_wp2_with (at_builtin; refine wpList_append_hp rfl (.tmp 15) (.tmp 20) 22 rfl 5 i0 _ 1 1 Tryz.underlying22 hi hz0 hz1 hz2 rfl (by decide) (hH.out.alloc _) rfl ⟨wr.heap.size, 0, none⟩ 1 1 [bv x] rfl rfl (cell_one_new _ _ _) (by simp [Value.oneCell', bv]) (by have := HLT.out; have := HL.out; omega) (by omega) ?_; intro v' w2 HA0)
      have HA : Hid (Hp w w2 [Own 5 1 v' (k + 1) ((xs.take (k + 1)).map bv)]) := Lib.hid (by rw [← hst.out]; exact HA0)
      obtain ⟨a4, c4, rfl⟩ := own_slice HA0
      clear HA0 hH c0
      go_wp2
      go_roundw
      case rel => exact ⟨k + 1, by have := HLT.out; omega, by go_num, HA⟩
      case measure => have := HLT.out; simp [intOf]; omega
    · obtain rfl : k = xs.length := by omega
      have hH2 : Hid (Hp w wr [Own 5 1 (.slice a3 xs.length c3) xs.length (xs.map bv)]) := Lib.hid (by have := hH.out; rwa [List.take_length] at this)
      clear hH
      go_wp2_with (at_builtin; refine wpList_append_hp rfl (.tmp 22) (.tmp 23) 22 rfl 5 i0 _ 1 1 Tryz.underlying22 hi hz0 hz1 hz2 rfl (by decide) (hH2.out.alloc _) rfl ⟨wr.heap.size, 0, none⟩ 1 1 [.int .u8 77] rfl rfl (cell_one_new _ _ _) (by simp [Value.oneCell']) (by have := HL.out; omega) (by omega) ?_; intro v' w2 HA0; obtain ⟨g, cap, rfl⟩ := Go.Joins.ownsRow_form (own_get HA0) (by omega); have hcap := own_capn HA0; have hc2 : (xs.length : Int) ≤ (cap : Int) := by omega)
      have HA := Lib.hid HA0
      clear HA0 hH2
      go_wp2
      go_ret
      exact ⟨g, cap, rfl, HA.out⟩
end Go.Proofs.YtijkkompnfpdeaaGreatDoor
set_option linter.unusedVariables false
set_option linter.unusedSimpArgs false
namespace Go.Proofs.YtijkkompnfpdeaaGreatDoor
open Go.RowKit Go.Joins Go.Shelf
attribute [local go_sem] Oper.semAt_some

set_option maxHeartbeats 4000000 in
set_option maxRecDepth 20000 in
theorem rimck_c (n : Int) (ad ac : Option Addr) (dc cc : Nat) (d : List UInt8) (c : List I4) (w : World) (hc : CellsIn w ac (ics c)) :
    Calls Tryz.prog 40 #[imV n ad d.length dc ac c.length cc] w fun e w' => e = .returned (.bool (imck n d c)) ∧ Below w.heap.size w w' := by
  have H1 := Lib.hid (blk_new (Hp.start w) (.cells #[.int .i64 n, .slice ad d.length dc, .slice ac c.length cc] 29))
  have HC := Lib.hid hc
  generalize hm : imck n d c = m
  unfold imck at hm
  clear hc
  by_cases h1 : n < 0
  · have d1 : decide (n < 0) = true := by simpa using h1
    obtain rfl : m = false := by rw [← hm]; have : ¬ (0 ≤ n ∧ n ≤ 4096 ∧ (d.length : Int) ≤ n ∧ c.length ≤ 1024) := by omega
                                 simp [this]
    clear hm HC h1
    go_enter Tryz.func40, Tryz.ntmps40
    go_wp2
    go_ret
    exact ⟨rfl, H1.out.below⟩
  have d1 : decide (n < 0) = false := by simpa using h1
  by_cases h2 : 4096 < n
  · have d2 : decide (4096 < n) = true := by simpa using h2
    obtain rfl : m = false := by rw [← hm]; have : ¬ (0 ≤ n ∧ n ≤ 4096 ∧ (d.length : Int) ≤ n ∧ c.length ≤ 1024) := by omega
                                 simp [this]
    clear hm HC h1 h2
    go_enter Tryz.func40, Tryz.ntmps40
    go_wp2
    go_ret
    exact ⟨rfl, H1.out.below⟩
  have d2 : decide (4096 < n) = false := by simpa using h2
  by_cases h3 : n < (d.length : Int)
  · have d3 : decide (n < (d.length : Int)) = true := by simpa using h3
    obtain rfl : m = false := by rw [← hm]; have : ¬ (0 ≤ n ∧ n ≤ 4096 ∧ (d.length : Int) ≤ n ∧ c.length ≤ 1024) := by omega
                                 simp [this]
    clear hm HC h1 h2 h3
    go_enter Tryz.func40, Tryz.ntmps40
    go_wp2
    go_ret
    exact ⟨rfl, H1.out.below⟩
  have d3 : decide (n < (d.length : Int)) = false := by simpa using h3
  by_cases h4 : 1024 < c.length
  · have d4 : decide ((1024 : Int) < (c.length : Int)) = true := by simp; omega
    obtain rfl : m = false := by rw [← hm]; have : ¬ (0 ≤ n ∧ n ≤ 4096 ∧ (d.length : Int) ≤ n ∧ c.length ≤ 1024) := by omega
                                 simp [this]
    clear hm HC h1 h2 h3 h4
    go_enter Tryz.func40, Tryz.ntmps40
    go_wp2
    go_ret
    exact ⟨rfl, H1.out.below⟩
  have d4 : decide ((1024 : Int) < (c.length : Int)) = false := by simp; omega
  have hm2 : c.all ik = m := by rw [← hm]; have : (0 ≤ n ∧ n ≤ 4096 ∧ (d.length : Int) ≤ n ∧ c.length ≤ 1024) := by omega
                                simp [this]
  have HM := Lib.hid hm2
  have HL := Lib.hid h4
  clear hm hm2 h1 h2 h3 h4
  go_enter Tryz.func40, Tryz.ntmps40
  go_wp2
  clear d1 d2 d3 d4
  generalize (w.alloc (.cells #[.int .i64 n, .slice ad d.length dc, .slice ac c.length cc] 29)) = w1 at *
  generalize w.heap.size = xb at *
  go_loopw [3] (fun s3 wr => ∃ k : Nat, k ≤ c.length ∧ s3 = .int .i64 k ∧ Hid (∀ j (h : j < c.length), j < k → ik c[j] = true) ∧ Hid (Hp w wr [IM xb n (.slice ad d.length dc) (.slice ac c.length cc)])) (fun s3 _ => c.length - (intOf s3).toNat)
  case atStart => exact ⟨0, Nat.zero_le _, rfl, Lib.hid (fun j _ h => by omega), H1⟩
  case round =>
    obtain ⟨k, hk, rfl, hN, hH⟩ := hrel
    clear H1
    obtain ⟨x0, x1, x2⟩ := im_cells hH.out
    by_cases hlt : k < c.length
    · obtain ⟨g, o, rfl, c0, c1, c2, c3⟩ := ins_cells (HC.out.hp hH.out) hlt
      have hkw : IntKind.i64.wrap ((k : Int) + 1) = (k : Int) + 1 := by rw [IntKind.wrap_i64]; have := HL.out; omega
      have hN2 : Hid (ik c[k] = true → ∀ j (h : j < c.length), j < k + 1 → ik c[j] = true) := Lib.hid (fun h j hj hjk => by
        by_cases e : j = k
        · subst e; exact h
        · exact hN.out j hj (by omega))
      have hN3 : Hid (ik c[k] = false → m = false) := Lib.hid (fun h => by
        rw [← HM.out, Bool.eq_false_iff]
        intro h2
        have := List.all_eq_true.1 h2 c[k] (List.getElem_mem hlt)
        rw [h] at this; cases this)
      have CK := Lib.hid (rcheck_c (op := c[k].1.toNat) hH.out (by4 c[k]) c[k].1.toNat_lt)
      have hik : ck c[k].1.toNat c[k].2.1.toNat c[k].2.2.1.toNat c[k].2.2.2.toNat = ik c[k] := rfl
      rw [hik] at CK
      clear hik
      generalize ik c[k] = ikx at *
      generalize c[k] = x at *
      have j1 : (k : Int) < (c.length : Int) := by omega
      cases ikx with
      | true =>
        have hn := Lib.hid (hN2.out rfl)
        have HLT := Lib.hid hlt
        clear hN hN2 hN3 hlt hk
        go_wp2_with fail
        refine CK.out.mono ?_; rintro e w1 ⟨rfl, K⟩
        have H2 := Lib.hid K
        clear K CK hH c0 c1 c2 c3 x0 x1 x2
        go_wp2
        go_roundw
        case rel => exact ⟨k + 1, by have := HLT.out; omega, by go_num, hn, H2⟩
        case measure => have := HLT.out; simp [intOf]; omega
      | false =>
        obtain rfl := hN3.out rfl
        clear hN hN2 hN3 hlt hk
        go_wp2_with fail
        refine CK.out.mono ?_; rintro e w1 ⟨rfl, K⟩
        have H2 := Lib.hid K
        clear K CK hH c0 c1 c2 c3 x0 x1 x2
        go_wp2
        go_ret
        exact ⟨rfl, H2.out.below⟩
    · have hall : c.all ik = true := List.all_eq_true.2 (fun x hx => by
        obtain ⟨j, hj, rfl⟩ := List.getElem_of_mem hx
        exact hN.out j hj (by omega))
      obtain rfl : m = true := by rw [← HM.out]; exact hall
      have j1 : ¬ (k : Int) < (c.length : Int) := by omega
      clear hall hN hlt hk
      go_wp2
      go_ret
      exact ⟨rfl, hH.out.below⟩
end Go.Proofs.YtijkkompnfpdeaaGreatDoor
set_option linter.unusedVariables false
set_option linter.unusedSimpArgs false
namespace Go.Proofs.YtijkkompnfpdeaaGreatDoor
open Go.RowKit Go.Joins Go.Shelf
attribute [local go_sem] Oper.semAt_some

theorem mk_b (n : Nat) (hn : n ≤ 100000) (W : World) : (Instr.makeSlice 22 (.int .i64 (n : Int)) (.int .i64 (n : Int))).run Tryz.prog W = .ok (.slice (some ⟨W.heap.size, 0, none⟩) n n) (W.alloc (.cells (Array.replicate n (bv 0)) 5)) := by
  obtain ⟨i0, hi, hz0, hz1, hz2⟩ := info_parts info_b8
  have := run_make (P := Tryz.prog) W 22 5 i0 _ Tryz.underlying22 hi hz0 .i64 .i64 (n : Int) (n : Int) (by omega) (Int.le_refl _) (by rw [hz2]; omega) (by omega)
  rw [hz1] at this
  rw [show Array.replicate n (bv 0) = ((List.replicate n (0 : UInt8)).map bv).toArray by simp, ← made_bytes n]
  simpa [Value.cells] using this
theorem blk_zeros {w0 w : World} {r : List Thing} (H : Hp w0 w r) (n : Nat) : Hp w0 (w.alloc (.cells (Array.replicate n (bv 0)) 5)) (MB w.heap.size (List.replicate n 0) :: r) := by
  have h := blk_new H (.cells ((List.replicate n (0 : UInt8)).map bv).toArray 5)
  have e : w.alloc (.cells ((List.replicate n (0 : UInt8)).map bv).toArray 5) = w.alloc (.cells (Array.replicate n (bv 0)) 5) := by simp
  rw [e] at h
  exact h
/-- Bytes, laid as far as that. -/
def mK (n : Nat) (d : List UInt8) (k : Nat) : List UInt8 := d.take k ++ List.replicate (n - k) 0
theorem mK_0 (n : Nat) (d : List UInt8) : mK n d 0 = List.replicate n 0 := by simp [mK]
theorem mK_len (n : Nat) (d : List UInt8) (k : Nat) (h : k ≤ d.length) (h2 : d.length ≤ n) : (mK n d k).length = n := by simp [mK]; omega
theorem mK_set (n : Nat) (d : List UInt8) (k : Nat) (h : k < d.length) (h2 : d.length ≤ n) : (mK n d k).set k d[k] = mK n d (k + 1) := by
  unfold mK
  rw [List.set_append_right _ _ (by simp; omega), List.length_take, Nat.min_eq_left (by omega), Nat.sub_self, show n - k = (n - (k + 1)) + 1 by omega, List.replicate_succ, List.set_cons_zero, List.take_succ_eq_append_getElem h, List.append_assoc]
  rfl
theorem mK_end (n : Nat) (d : List UInt8) : mK n d d.length = (firstC n d).mem := by simp [mK, firstC]
theorem mb_set {w0 w : World} {r : List Thing} {mb : Nat} {m : List UInt8} (H : Hp w0 w (MB mb m :: r)) (k : Nat) (x : UInt8) : Hp w0 (w.setCell ⟨mb, k, none⟩ (bv x)) (MB mb (m.set k x) :: r) := by
  have h := blk_set H k (bv x)
  have e : (m.map bv).toArray.setIfInBounds k (bv x) = ((m.set k x).map bv).toArray := by rw [List.setIfInBounds_toArray, List.map_set]
  rw [e] at h
  exact h
theorem coreR_first (n : Nat) (d : List UInt8) (hd : d.length ≤ n) (mb : Nat) (vc : Value) : #[Value.int .u32 0, .int .u32 0, .int .u32 0, .int .u32 0, .int .u32 0, .int .u32 0, .int .u32 0, .int .u32 0, .int .i64 0, .slice (some ⟨mb, 0, none⟩) n n, vc, .string ⟨#[]⟩, .bool false] = (coreR (firstC n d) mb vc).toArray := by
  unfold coreR
  rw [firstC_mem hd]
  rfl
/-- append(nil, ..) of cells that lie somewhere. -/
theorem step_app_nil {P : Program} {w0 w : World} {ops : Array Oper} {o : Oper} {a : Act} {K : Act → World → Prop} {Q : Exit → Act → World → Prop} {E : Prop} (hgd : o.guard = none) (s x : Operand) (t : TypeId)
    (ho : o.op = .call { callee := .builtin .append, args := #[s, x], argTypes := #[t, t] })
    (e : TypeId) (i : TypeInfo) (z : Value) (size bytes : Nat) (ht : P.underlying t = some (.slice e)) (hi : P.info? e = some i) (hz : i.zero = some z)
    (hsize : i.size = size) (hby : i.bytes = bytes) (hzs : z.cells.size = size) (hsz : 0 < size)
    {r : List Thing} (H : Hp w0 w r) (hs : a.eval s = .slice none 0 0)
    (ac : Option Addr) (m c : Nat) (news : List Value) (hx : a.eval x = .slice ac m c) (hl : news.length = m * size) (hc : CellsIn w ac news) (h1 : ∀ u ∈ news, u.oneCell' = true)
    (h63 : m ≤ 1000000) (hb : bytes ≤ 1000000)
    (h : ∀ v' w', Hp w0 w' (Own e size v' m news :: r) → K (a.put o.dst v') w') :
    if Region.wanted o (yielded ops a.tmps) = true then Oper.wp P o a w K Q else E := by
  cases ac with
  | some ad =>
    refine step_append_hq hgd s x t ho e i z size bytes ht hi hz hsize hby hzs hsz (own_nil H e size) hs ad m c news hx hl (fun j u hj => ?_) h1 (by omega) hb (fun v' w' H' => h v' w' (own_as H' (Nat.zero_add m) (List.nil_append news)))
    obtain ⟨hlt, e1⟩ := List.getElem?_eq_some_iff.1 hj
    obtain ⟨g, o', e2, h3⟩ := hc j hlt
    cases e2
    rw [Addr.add_lit, h3, e1]
  | none =>
    have hn : news = [] := by
      cases news with
      | nil => rfl
      | cons u l => obtain ⟨g, o', e2, _⟩ := hc 0 (by simp); cases e2
    subst hn
    have hm : m = 0 := by
      have h0 : m * size = 0 := by simpa using hl.symm
      rcases Nat.mul_eq_zero.1 h0 with h0 | h0
      · exact h0
      · omega
    subst hm
    have hw : Region.wanted o (yielded ops a.tmps) = true := by simp [Region.wanted, hgd]
    rw [if_pos hw]
    have hr : (Builtin.append_ #[t, t] o.type #[.slice none 0 0, .slice none 0 c]).run P w = .ok (.slice none 0 0) w := by
      simp [Builtin.append_, run_underlying ht, sizeOf, typeInfo, hi, Builtin.lenOf, Builtin.firstCells]
    unfold Oper.wp execOp
    simp only [ho, resolve, invoke, builtin, Sem.run_bind, Sem.run_pure, Result.andThen_ok, List.map_toArray, List.map_cons, List.map_nil, hs, hx, hr]
    exact h _ _ (own_nil H e size)
def RNewC (w0 : World) (r : List Thing) (c : List I4) (s : Cs) (e : Ending) (w' : World) : Prop := ∃ b, e = .returned (.tuple #[.pointer (some ⟨b, 0, none⟩), .int .i64 0]) ∧ Hp w0 w' (DR b c s :: r)
theorem RNewC.mk' {w0 : World} {r : List Thing} {c : List I4} {s : Cs} {e : Ending} {w' : World} (b : Nat) (h1 : e = .returned (.tuple #[.pointer (some ⟨b, 0, none⟩), .int .i64 0])) (h2 : Hp w0 w' (DR b c s :: r)) : RNewC w0 r c s e w' := ⟨b, h1, h2⟩
set_option maxHeartbeats 8000000 in
set_option maxRecDepth 20000 in
theorem rnew_y {w0 w : World} {r : List Thing} (n : Nat) (ad ac : Option Addr) (dc cc : Nat) (d : List UInt8) (c : List I4) (hk : imck n d c = true) (hd : CellsIn w0 ad (d.map bv)) (hc : CellsIn w0 ac (ics c)) (H : Hp w0 w r) :
    Calls Tryz.prog 16 #[imV n ad d.length dc ac c.length cc] w (RNewC w0 r c (firstC n d)) := by
  have hb := hk
  unfold imck at hb
  simp only [Bool.and_eq_true, decide_eq_true_eq] at hb
  obtain ⟨⟨b1, b2, b3, b4⟩, _⟩ := hb
  have H1 := blk_new H (.cells #[.int .i64 (n : Int), .slice ad d.length dc, .slice ac c.length cc] 29)
  have CK := Lib.hid (rimck_c (n : Int) ad ac dc cc d c _ (hc.hp H1))
  rw [hk] at CK
  have HD := Lib.hid hd
  have HC := Lib.hid hc
  have HB := Lib.hid (show n ≤ 4096 ∧ d.length ≤ n ∧ c.length ≤ 1024 from ⟨by omega, by omega, b4⟩)
  have HH := Lib.hid H1
  obtain ⟨i0, hi, hz0, hz1, hz2⟩ := info_parts info_i4
  clear b1 b2 b3 b4 hk hd hc H H1
  go_enter Tryz.func16, Tryz.ntmps16
  go_upto_region 1 with fail
  generalize w.heap.size = xb at *
  generalize (w.alloc _) = w1 at *
  have x0 : w1.cell? ⟨xb, 0, none⟩ = _ := cell_blk (blk_get HH.out) 0
  have x1 : w1.cell? ⟨xb, 1, none⟩ = _ := cell_blk (blk_get HH.out) 1
  have x2 : w1.cell? ⟨xb, 2, none⟩ = _ := cell_blk (blk_get HH.out) 2
  go_wp2_with fail
  refine CK.out.mono ?_; rintro e w2 ⟨rfl, hb⟩
  have H2 := Lib.hid (HH.out.below_read hb)
  clear hb CK HH x0 x1 x2
  go_upto_region 3 with fail
  refine wp_region_Tn 9 8 (fun W => W.cell? ⟨xb, 0, none⟩ = some (.int .i64 (n : Int)) ∧ W.cell? ⟨xb, 2, none⟩ = some (.slice ac c.length cc)) (by as_aux_lemma => kernel_rfl) (by rfl) ?_
  have hSS : (fun (W : World) => W.cell? ⟨xb, 0, none⟩ = some (.int .i64 (n : Int)) ∧ W.cell? ⟨xb, 2, none⟩ = some (.slice ac c.length cc)) w2.drew := ⟨cell_blk (blk_get H2.out) 0, cell_blk (blk_get H2.out) 2⟩
  have MK := fun W => mk_b n (by have := HB.out; omega) W
  iterate 2
    refine wpT_sq 9 (by as_aux_lemma => kernel_rfl) (by intro c a d v w h; cases d <;> exact h) hSS (fun oi hoi => ?_)
    simp only [Nat.reduceAdd, Nat.reduceSub, List.getElem?_toArray, List.getElem?_cons_zero, List.getElem?_cons_succ, Option.some.injEq] at hoi
    subst hoi
    refine ⟨?_, by rfl, fun wx hSx => ?_, ?_⟩
    rotate_left
    · obtain ⟨s0, s1⟩ := hSx
      go_simp
      try with_reducible rfl
    try simp only [Nat.reduceAdd, Nat.reduceSub, Act.put, List.setIfInBounds_toArray, List.set_cons_zero, List.set_cons_succ]
  refine wpT_tk (i := 3) (by as_aux_lemma => kernel_rfl) (by intro c a d v w h; cases d <;> exact h) hSS (fun oi hoi => ?_)
  simp only [List.getElem?_toArray, List.getElem?_cons_zero, List.getElem?_cons_succ, Option.some.injEq] at hoi; subst hoi
  refine ⟨?_, by rfl, fun wx hSx => ?_, ?_⟩
  rotate_left
  · obtain ⟨s0, s1⟩ := hSx
    go_simp
    try with_reducible rfl
  try simp only [Act.put, List.setIfInBounds_toArray, List.set_cons_zero, List.set_cons_succ]
  refine wpT_tk (i := 4) (by as_aux_lemma => kernel_rfl) (by intro c a d v w h; cases d <;> exact h) hSS (fun oi hoi => ?_)
  simp only [List.getElem?_toArray, List.getElem?_cons_zero, List.getElem?_cons_succ, Option.some.injEq] at hoi; subst hoi
  refine ⟨?_, by rfl, fun wx hSx => ?_, ?_⟩
  rotate_left
  · obtain ⟨s0, s1⟩ := hSx
    go_simp
    try with_reducible rfl
  try simp only [Act.put, List.setIfInBounds_toArray, List.set_cons_zero, List.set_cons_succ]
  refine wpT_two (i := 2) (k := 5) (by as_aux_lemma => kernel_rfl) ?_ ?_
  · intro oi hoi K hK
    simp only [List.getElem?_toArray, List.getElem?_cons_zero, List.getElem?_cons_succ, Option.some.injEq] at hoi; subst hoi
    go_simp
    have HQ := Lib.hid (blk_zeros H2.out n).drew
    have hS2 : _ ∧ _ := ⟨cell_blk (blk_get (HQ.out.pull 1 rfl)) 0, cell_blk (blk_get (HQ.out.pull 1 rfl)) 2⟩
    refine hK.out _ _ (fun _ => hS2) ?_
    clear hK K
    try simp only [Act.put, List.setIfInBounds_toArray, List.set_cons_zero, List.set_cons_succ]
    refine wpT_one (i := 5) (by as_aux_lemma => kernel_rfl) ?_
    intro oi hoi K hK
    simp only [List.getElem?_toArray, List.getElem?_cons_zero, List.getElem?_cons_succ, Option.some.injEq] at hoi; subst hoi
    refine step_app_nil (by rfl) _ _ 27 (by rfl) 26 i0 _ 4 4 Tryz.underlying27 hi hz0 hz1 hz2 rfl (by decide) HQ.out (by rfl) ac c.length cc (ics c) (by rfl) (ics_len c) (HC.out.hp HQ.out) (oneCell_ics c) (by have := HB.out; omega) (by omega) ?_
    intro v W5 HA0
    have HA := Lib.hid HA0
    have hS3 : _ ∧ _ := ⟨cell_blk (blk_get (HA0.pull 2 rfl)) 0, cell_blk (blk_get (HA0.pull 2 rfl)) 2⟩
    obtain ⟨av, cv, rfl⟩ := own_slice HA0
    generalize w2.heap.size = mb at *
    refine hK.out _ _ (fun _ => hS3) ?_
    clear hK K HA0 HQ hS2
    try simp only [Act.put, List.setIfInBounds_toArray, List.set_cons_zero, List.set_cons_succ]
    clear H2 MK
    refine wpT_tk (i := 6) (by as_aux_lemma => kernel_rfl) (by intro c a d v w h; cases d <;> exact h) hS3 (fun oi hoi => ?_)
    simp only [List.getElem?_toArray, List.getElem?_cons_zero, List.getElem?_cons_succ, Option.some.injEq] at hoi; subst hoi
    refine ⟨?_, by rfl, fun wx hSx => ?_, ?_⟩
    rotate_left
    · obtain ⟨s0, s1⟩ := hSx
      go_simp
      try with_reducible rfl
    try simp only [Act.put, List.setIfInBounds_toArray, List.set_cons_zero, List.set_cons_succ]
    refine wpT_one (i := 7) (by as_aux_lemma => kernel_rfl) ?_
    intro oi hoi K hK
    simp only [List.getElem?_toArray, List.getElem?_cons_zero, List.getElem?_cons_succ, Option.some.injEq] at hoi; subst hoi
    go_simp
    have HR0 := blk_new HA.out (.cells #[Value.int .u32 0, .int .u32 0, .int .u32 0, .int .u32 0, .int .u32 0, .int .u32 0, .int .u32 0, .int .u32 0, .int .i64 0, .slice (some ⟨mb, 0, none⟩) n n, .slice av c.length cv, .string ⟨#[]⟩, .bool false] 56)
    have eb : Blk W5.heap.size (.cells #[Value.int .u32 0, .int .u32 0, .int .u32 0, .int .u32 0, .int .u32 0, .int .u32 0, .int .u32 0, .int .u32 0, .int .i64 0, .slice (some ⟨mb, 0, none⟩) n n, .slice av c.length cv, .string ⟨#[]⟩, .bool false] 56 (0, 0)) = DB W5.heap.size mb (firstC n d) (.slice av c.length cv) := by rw [coreR_first n d HB.out.2.1 mb (.slice av c.length cv)]
    rw [eb] at HR0
    have HW : Hid (Hp w0 (W5.alloc (.cells #[Value.int .u32 0, .int .u32 0, .int .u32 0, .int .u32 0, .int .u32 0, .int .u32 0, .int .u32 0, .int .u32 0, .int .i64 0, .slice (some ⟨mb, 0, none⟩) n n, .slice av c.length cv, .string ⟨#[]⟩, .bool false] 56)) (DB W5.heap.size mb (firstC n d) (.slice av c.length cv) :: MB mb (mK n d 0) :: OwnI4 (.slice av c.length cv) c :: IM xb (n : Int) (.slice ad d.length dc) (.slice ac c.length cc) :: r)) := Lib.hid (by rw [mK_0]; exact (HR0.pull 2 rfl).up1)
    clear HR0 eb HA
    generalize (W5.alloc _) = W6 at *
    generalize W5.heap.size = b at *
    have hS6 : _ ∧ _ := ⟨cell_blk (blk_get (HW.out.pull 3 rfl)) 0, cell_blk (blk_get (HW.out.pull 3 rfl)) 2⟩
    refine hK.out _ _ (fun _ => hS6) ?_
    clear hK K hS3
    try simp only [Act.put, List.setIfInBounds_toArray, List.set_cons_zero, List.set_cons_succ]
    refine wpT_one (i := 8) (by as_aux_lemma => kernel_rfl) ?_
    intro oi hoi K hK
    simp only [List.getElem?_toArray, List.getElem?_cons_zero, List.getElem?_cons_succ, Option.some.injEq] at hoi; subst hoi
    go_simp
    refine hK.out _ _ (fun h => absurd h (by decide)) ?_
    clear hK K hS6
    try simp only [Act.put, List.setIfInBounds_toArray, List.set_cons_zero, List.set_cons_succ]
    refine wpT_done (by as_aux_lemma => kernel_rfl) ?_ _
    go_wp2
    go_loopw [5] (fun s5 wr => ∃ k : Nat, k ≤ d.length ∧ s5 = .int .i64 k ∧ Hid (Hp w0 wr (DB b mb (firstC n d) (.slice av c.length cv) :: MB mb (mK n d k) :: OwnI4 (.slice av c.length cv) c :: IM xb (n : Int) (.slice ad d.length dc) (.slice ac c.length cc) :: r))) (fun s5 _ => d.length - (intOf s5).toNat)
    case atStart => exact ⟨0, Nat.zero_le _, rfl, HW⟩
    case round =>
      obtain ⟨k, hk, rfl, hH⟩ := hrel
      clear HW
      obtain ⟨x0, x1, x2⟩ := im_cells (hH.out.pull 3 rfl)
      by_cases hlt : k < d.length
      · obtain ⟨g, o, rfl, y0⟩ := (HD.out.hp hH.out) k (by simpa using hlt)
        have y1 : wr.cell? ⟨g, o + k, none⟩ = some (bv d[k]) := by rw [y0]; simp
        have m0 : wr.cell? ⟨b, 9, none⟩ = some (.slice (some ⟨mb, 0, none⟩) (firstC n d).mem.length (firstC n d).mem.length) := db_cell hH.out rfl 1
        rw [firstC_mem HB.out.2.1] at m0
        have m1 : ∃ v, wr.cell? ⟨mb, k, none⟩ = some v := by
          have h := mb_cell hH.out.tail (k := k) (by rw [mK_len n d k hk HB.out.2.1]; have := HB.out; omega)
          exact ⟨_, h⟩
        obtain ⟨vm, m1⟩ := m1
        have m2 := free_blk (blk_get hH.out.tail) k
        have hkw : IntKind.i64.wrap ((k : Int) + 1) = (k : Int) + 1 := by rw [IntKind.wrap_i64]; have := HB.out; omega
        have HN : Hid (Hp w0 (wr.setCell ⟨mb, k, none⟩ (bv d[k])) (DB b mb (firstC n d) (.slice av c.length cv) :: MB mb (mK n d (k + 1)) :: OwnI4 (.slice av c.length cv) c :: IM xb (n : Int) (.slice (some ⟨g, o, none⟩) d.length dc) (.slice ac c.length cc) :: r)) := Lib.hid (by rw [← mK_set n d k hlt HB.out.2.1]; exact (mb_set hH.out.up1 k d[k]).up1)
        generalize d[k] = x at *
        have j1 : (k : Int) < (d.length : Int) := by omega
        have j2 : (k : Int) < (n : Int) := by have := HB.out; omega
        have HLT := Lib.hid hlt
        clear hlt hk hH y0
        go_wp2
        go_region
        go_wp2
        go_roundw
        case rel => exact ⟨k + 1, by have := HLT.out; omega, by go_num, Lib.hid HN.out.drew⟩
        case measure => have := HLT.out; simp [intOf]; omega
      · obtain rfl : k = d.length := by omega
        have hZ : Hid (Hp w0 wr (DR b c (firstC n d) :: r)) := Lib.hid (((dr_shut (s := firstC n d) rfl (by rw [firstC_mem HB.out.2.1]; have := HB.out; omega) (by rw [← mK_end]; exact hH.out)).up1).tail)
        have j1 : ¬ (d.length : Int) < (d.length : Int) := by omega
        clear hlt hk hH
        go_wp2
        go_ret2
        exact RNewC.mk' _ rfl hZ.out
  · intro oi hoi K hK
    simp only [List.getElem?_toArray, List.getElem?_cons_zero, List.getElem?_cons_succ, Option.some.injEq] at hoi; subst hoi
    have HQ := Lib.hid H2.out.drew
    refine step_app_nil (by rfl) _ _ 27 (by rfl) 26 i0 _ 4 4 Tryz.underlying27 hi hz0 hz1 hz2 rfl (by decide) HQ.out (by rfl) ac c.length cc (ics c) (by rfl) (ics_len c) (HC.out.hp HQ.out) (oneCell_ics c) (by have := HB.out; omega) (by omega) ?_
    intro v W4 HA0
    have hS3 : _ ∧ _ := ⟨cell_blk (blk_get (HA0.pull 1 rfl)) 0, cell_blk (blk_get (HA0.pull 1 rfl)) 2⟩
    obtain ⟨av, cv, rfl⟩ := own_slice HA0
    have HQ4 := Lib.hid HA0
    refine hK.out _ _ (fun _ => hS3) ?_
    clear hK K HA0 HQ
    try simp only [Act.put, List.setIfInBounds_toArray, List.set_cons_zero, List.set_cons_succ]
    refine wpT_one (i := 2) (by as_aux_lemma => kernel_rfl) ?_
    intro oi hoi K hK
    simp only [List.getElem?_toArray, List.getElem?_cons_zero, List.getElem?_cons_succ, Option.some.injEq] at hoi; subst hoi
    go_simp
    have HA := Lib.hid ((blk_zeros HQ4.out n).up1)
    have hS5 : _ ∧ _ := ⟨cell_blk (blk_get (HA.out.pull 2 rfl)) 0, cell_blk (blk_get (HA.out.pull 2 rfl)) 2⟩
    generalize W4.heap.size = mb at *
    generalize (W4.alloc (.cells (Array.replicate n (bv 0)) 5)) = W5 at *
    refine hK.out _ _ (fun _ => hS5) ?_
    clear hK K HQ4 hS3
    have hS3 := hS5
    clear hS5
    try simp only [Act.put, List.setIfInBounds_toArray, List.set_cons_zero, List.set_cons_succ]
    clear H2 MK
    refine wpT_tk (i := 6) (by as_aux_lemma => kernel_rfl) (by intro c a d v w h; cases d <;> exact h) hS3 (fun oi hoi => ?_)
    simp only [List.getElem?_toArray, List.getElem?_cons_zero, List.getElem?_cons_succ, Option.some.injEq] at hoi; subst hoi
    refine ⟨?_, by rfl, fun wx hSx => ?_, ?_⟩
    rotate_left
    · obtain ⟨s0, s1⟩ := hSx
      go_simp
      try with_reducible rfl
    try simp only [Act.put, List.setIfInBounds_toArray, List.set_cons_zero, List.set_cons_succ]
    refine wpT_one (i := 7) (by as_aux_lemma => kernel_rfl) ?_
    intro oi hoi K hK
    simp only [List.getElem?_toArray, List.getElem?_cons_zero, List.getElem?_cons_succ, Option.some.injEq] at hoi; subst hoi
    go_simp
    have HR0 := blk_new HA.out (.cells #[Value.int .u32 0, .int .u32 0, .int .u32 0, .int .u32 0, .int .u32 0, .int .u32 0, .int .u32 0, .int .u32 0, .int .i64 0, .slice (some ⟨mb, 0, none⟩) n n, .slice av c.length cv, .string ⟨#[]⟩, .bool false] 56)
    have eb : Blk W5.heap.size (.cells #[Value.int .u32 0, .int .u32 0, .int .u32 0, .int .u32 0, .int .u32 0, .int .u32 0, .int .u32 0, .int .u32 0, .int .i64 0, .slice (some ⟨mb, 0, none⟩) n n, .slice av c.length cv, .string ⟨#[]⟩, .bool false] 56 (0, 0)) = DB W5.heap.size mb (firstC n d) (.slice av c.length cv) := by rw [coreR_first n d HB.out.2.1 mb (.slice av c.length cv)]
    rw [eb] at HR0
    have HW : Hid (Hp w0 (W5.alloc (.cells #[Value.int .u32 0, .int .u32 0, .int .u32 0, .int .u32 0, .int .u32 0, .int .u32 0, .int .u32 0, .int .u32 0, .int .i64 0, .slice (some ⟨mb, 0, none⟩) n n, .slice av c.length cv, .string ⟨#[]⟩, .bool false] 56)) (DB W5.heap.size mb (firstC n d) (.slice av c.length cv) :: MB mb (mK n d 0) :: OwnI4 (.slice av c.length cv) c :: IM xb (n : Int) (.slice ad d.length dc) (.slice ac c.length cc) :: r)) := Lib.hid (by rw [mK_0]; exact (HR0.pull 2 rfl).up1)
    clear HR0 eb HA
    generalize (W5.alloc _) = W6 at *
    generalize W5.heap.size = b at *
    have hS6 : _ ∧ _ := ⟨cell_blk (blk_get (HW.out.pull 3 rfl)) 0, cell_blk (blk_get (HW.out.pull 3 rfl)) 2⟩
    refine hK.out _ _ (fun _ => hS6) ?_
    clear hK K hS3
    try simp only [Act.put, List.setIfInBounds_toArray, List.set_cons_zero, List.set_cons_succ]
    refine wpT_one (i := 8) (by as_aux_lemma => kernel_rfl) ?_
    intro oi hoi K hK
    simp only [List.getElem?_toArray, List.getElem?_cons_zero, List.getElem?_cons_succ, Option.some.injEq] at hoi; subst hoi
    go_simp
    refine hK.out _ _ (fun h => absurd h (by decide)) ?_
    clear hK K hS6
    try simp only [Act.put, List.setIfInBounds_toArray, List.set_cons_zero, List.set_cons_succ]
    refine wpT_done (by as_aux_lemma => kernel_rfl) ?_ _
    go_wp2
    go_loopw [5] (fun s5 wr => ∃ k : Nat, k ≤ d.length ∧ s5 = .int .i64 k ∧ Hid (Hp w0 wr (DB b mb (firstC n d) (.slice av c.length cv) :: MB mb (mK n d k) :: OwnI4 (.slice av c.length cv) c :: IM xb (n : Int) (.slice ad d.length dc) (.slice ac c.length cc) :: r))) (fun s5 _ => d.length - (intOf s5).toNat)
    case atStart => exact ⟨0, Nat.zero_le _, rfl, HW⟩
    case round =>
      obtain ⟨k, hk, rfl, hH⟩ := hrel
      clear HW
      obtain ⟨x0, x1, x2⟩ := im_cells (hH.out.pull 3 rfl)
      by_cases hlt : k < d.length
      · obtain ⟨g, o, rfl, y0⟩ := (HD.out.hp hH.out) k (by simpa using hlt)
        have y1 : wr.cell? ⟨g, o + k, none⟩ = some (bv d[k]) := by rw [y0]; simp
        have m0 : wr.cell? ⟨b, 9, none⟩ = some (.slice (some ⟨mb, 0, none⟩) (firstC n d).mem.length (firstC n d).mem.length) := db_cell hH.out rfl 1
        rw [firstC_mem HB.out.2.1] at m0
        have m1 : ∃ v, wr.cell? ⟨mb, k, none⟩ = some v := by
          have h := mb_cell hH.out.tail (k := k) (by rw [mK_len n d k hk HB.out.2.1]; have := HB.out; omega)
          exact ⟨_, h⟩
        obtain ⟨vm, m1⟩ := m1
        have m2 := free_blk (blk_get hH.out.tail) k
        have hkw : IntKind.i64.wrap ((k : Int) + 1) = (k : Int) + 1 := by rw [IntKind.wrap_i64]; have := HB.out; omega
        have HN : Hid (Hp w0 (wr.setCell ⟨mb, k, none⟩ (bv d[k])) (DB b mb (firstC n d) (.slice av c.length cv) :: MB mb (mK n d (k + 1)) :: OwnI4 (.slice av c.length cv) c :: IM xb (n : Int) (.slice (some ⟨g, o, none⟩) d.length dc) (.slice ac c.length cc) :: r)) := Lib.hid (by rw [← mK_set n d k hlt HB.out.2.1]; exact (mb_set hH.out.up1 k d[k]).up1)
        generalize d[k] = x at *
        have j1 : (k : Int) < (d.length : Int) := by omega
        have j2 : (k : Int) < (n : Int) := by have := HB.out; omega
        have HLT := Lib.hid hlt
        clear hlt hk hH y0
        go_wp2
        go_region
        go_wp2
        go_roundw
        case rel => exact ⟨k + 1, by have := HLT.out; omega, by go_num, Lib.hid HN.out.drew⟩
        case measure => have := HLT.out; simp [intOf]; omega
      · obtain rfl : k = d.length := by omega
        have hZ : Hid (Hp w0 wr (DR b c (firstC n d) :: r)) := Lib.hid (((dr_shut (s := firstC n d) rfl (by rw [firstC_mem HB.out.2.1]; have := HB.out; omega) (by rw [← mK_end]; exact hH.out)).up1).tail)
        have j1 : ¬ (d.length : Int) < (d.length : Int) := by omega
        clear hlt hk hH
        go_wp2
        go_ret2
        exact RNewC.mk' _ rfl hZ.out
set_option maxHeartbeats 4000000 in
set_option maxRecDepth 20000 in
theorem rnew_n (n : Int) (ad ac : Option Addr) (dc cc : Nat) (d : List UInt8) (c : List I4) (w : World) (hk : imck n d c = false) (hc : CellsIn w ac (ics c)) :
    Calls Tryz.prog 16 #[imV n ad d.length dc ac c.length cc] w fun e w' => e = .returned (.tuple #[.pointer none, .int .i64 1]) ∧ Below w.heap.size w w' := by
  have H1 := Lib.hid (blk_new (Hp.start w) (.cells #[.int .i64 n, .slice ad d.length dc, .slice ac c.length cc] 29))
  have CK := rimck_c n ad ac dc cc d c _ (hc.hp H1.out)
  rw [hk] at CK
  have C := Lib.hid CK
  clear CK hk hc
  go_enter Tryz.func16, Tryz.ntmps16
  go_upto_region 1 with fail
  obtain ⟨x0, x1, x2⟩ := im_cells H1.out
  generalize (w.alloc (.cells #[.int .i64 n, .slice ad d.length dc, .slice ac c.length cc] 29)) = w1 at *
  go_wp2_with fail
  refine C.out.mono ?_; rintro e w2 ⟨rfl, hb⟩
  have H2 := Lib.hid (H1.out.below_read hb)
  clear hb C H1 x0 x1 x2
  go_wp2
  go_ret2
  exact ⟨rfl, H2.out.below⟩
end Go.Proofs.YtijkkompnfpdeaaGreatDoor
