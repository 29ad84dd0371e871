/- Instructions: numbers and fields, as they are written and read: the program's text. -/
import Derived.Test.YtcfoljdpffonhaaGreatDoorJa
import Derived.Test.YtcfoljdpffonhaaGreatDoorIc
import Derived.Test.YtcfoljdpffonhaaGreatDoorShelf
import Derived.Lib.SmallJoins
import Derived.Laws.Concat
import Derived.Lib.AppendIntMem
import Derived.Lib.AtoiErrMem
import Derived.Lib.ItoaLen
set_option linter.unusedVariables false
set_option linter.unusedSimpArgs false
namespace Go.Proofs.YtcfoljdpffonhaaGreatDoor
open Go.RowKit Go.Joins Go.Shelf
attribute [local go_sem] Oper.semAt_some

abbrev strv (l : List UInt8) : Value := .string ⟨l.toArray⟩
/-- What the library's variables hold. -/
structure Lf (w : World) : Prop where
  tab : Lib.TabIs Tryz.prog w "internal/strconv.uint64pow10" .u64 Lib.pow10Tab
  syn : ∃ t p, w.var? Tryz.prog "strconv.ErrSyntax" = some #[.iface t p]
  rng : ∃ t p, w.var? Tryz.prog "strconv.ErrRange" = some #[.iface t p]
  max : ∃ m, w.cell? ⟨0, 0, none⟩ = some (.int .i64 m)
theorem cell_lt {w : World} {a : Addr} {v : Value} (h : w.cell? a = some v) : a.block < w.heap.size := by
  rcases Nat.lt_or_ge a.block w.heap.size with h' | h'
  · exact h'
  · unfold World.cell? at h
    rw [Array.getElem?_eq_none h'] at h
    cases h
theorem Lf.on {w0 w : World} (L : Lf w0) (hb : Below w0.heap.size w0 w) : Lf w := by
  obtain ⟨t1, p1, h1⟩ := L.syn
  obtain ⟨t2, p2, h2⟩ := L.rng
  obtain ⟨m, h3⟩ := L.max
  exact ⟨tab_stays (g := 5) (by kernel_rfl) L.tab hb (Nat.le_refl _), ⟨t1, p1, var_stays (g := 3) (by kernel_rfl) h1 hb (Nat.le_refl _)⟩, ⟨t2, p2, var_stays (g := 4) (by kernel_rfl) h2 hb (Nat.le_refl _)⟩, m, (hb.cell (cell_lt h3)).trans h3⟩
theorem Lf.hp {w0 w : World} {r : List Thing} (L : Lf w0) (H : Hp w0 w r) : Lf w := L.on H.below
theorem ba_ext (s : ByteArray) : s = ⟨s.data.toList.toArray⟩ := by cases s; simp
theorem itoa_c {w0 w : World} {r : List Thing} (L : Lf w0) (n : Int) (h0 : -9223372036854775808 ≤ n) (h1 : n ≤ 9223372036854775807) (H : Hp w0 w r) :
    Calls Tryz.prog 113 #[.int .i64 n] w fun e w' => e = .returned (strv (Lib.itoa n)) ∧ Hp w0 w' r := by
  refine (Tryz.strconv_Itoa n h0 h1 w (L.hp H).tab).mono ?_
  rintro e w' ⟨rfl, k, os, rfl⟩
  exact ⟨rfl, H.below_read (Lib.below_grow _ w (Nat.le_refl _) k os)⟩
theorem atoi_c {w0 w : World} {r : List Thing} (L : Lf w0) (s : ByteArray) (hs : s.size ≤ 281474976710656) (H : Hp w0 w r) :
    Calls Tryz.prog 112 #[.string s] w fun e w' => (∃ t p, (∀ v, Lib.atoiAll s.data.toList ≠ .ok v) ∧ e = .returned (.tuple #[.int .i64 (nV s.data.toList), .iface t p]) ∨ Lib.atoiAll s.data.toList = .ok (nV s.data.toList) ∧ e = .returned (.tuple #[.int .i64 (nV s.data.toList), .nilIface])) ∧ Hp w0 w' r := by
  have L' := L.hp H
  rcases h : Lib.atoiAll s.data.toList with v | _ | _
  · have hv : nV s.data.toList = v := by unfold nV; rw [h]
    refine (Tryz.strconv_Atoi_ok s (by omega) v h w).mono ?_
    rintro e w' ⟨rfl, hw⟩
    refine ⟨⟨0, .nilIface, Or.inr ⟨by rw [hv], by rw [hv]⟩⟩, ?_⟩
    rcases hw with rfl | ⟨t, rfl⟩
    · exact H
    · exact H.below_read (Lib.bytesWorld_below w _ t)
  · have hv : nV s.data.toList = 0 := by unfold nV; rw [h]
    obtain ⟨t, p, hp⟩ := L'.syn
    refine (Tryz.strconv_Atoi_syntax_var s hs h t p w hp).mono ?_
    rintro e w' ⟨N, rfl, _, _, hb⟩
    exact ⟨⟨_, _, Or.inl ⟨fun v hv => (by cases hv), by rw [hv]⟩⟩, H.below_read hb⟩
  · have hv : nV s.data.toList = Lib.atoiSat s.data.toList := by unfold nV; rw [h]
    obtain ⟨t, p, hp⟩ := L'.rng
    refine (Tryz.strconv_Atoi_range_var s hs h t p w hp).mono ?_
    rintro e w' ⟨N, rfl, _, _, hb⟩
    exact ⟨⟨_, _, Or.inl ⟨fun v hv => (by cases hv), by rw [hv]⟩⟩, H.below_read hb⟩
theorem nB_ok {s : List UInt8} (h : Lib.atoiAll s = .ok (nV s)) (h0 : 0 ≤ nV s) : nB s = decide (Lib.itoa (nV s) = s) := by
  unfold nB nS
  rw [h]
  by_cases he : Lib.itoa (nV s) = s <;> simp [he, h0]
theorem nB_neg {s : List UInt8} (h : Lib.atoiAll s = .ok (nV s)) (h0 : ¬ 0 ≤ nV s) : nB s = false := by
  unfold nB nS
  rw [h]
  simp [h0]
theorem nB_no {s : List UInt8} (h : ∀ v, Lib.atoiAll s ≠ .ok v) : nB s = false := by
  unfold nB nS
  split
  · rename_i v hv; exact absurd hv (h v)
  · rfl
theorem ba_eq (l : List UInt8) (s : ByteArray) : ((⟨l.toArray⟩ : ByteArray) = s) ↔ l = s.data.toList := by
  constructor
  · rintro rfl; simp
  · intro h; subst h; exact (ba_ext s).symm
theorem l_beq (a b : List UInt8) : (a == b) = decide (a = b) := by rw [Bool.eq_iff_iff]; simp
set_option maxHeartbeats 2000000 in
set_option maxRecDepth 20000 in
theorem number_c {w0 w : World} {r : List Thing} (L : Lf w0) (s : List UInt8) (hs : s.length ≤ 281474976710656) (H : Hp w0 w r) :
    Calls Tryz.prog 121 #[strv s] w fun e w' => e = .returned (.tuple #[.int .i64 (nV s), .bool (nB s)]) ∧ Hp w0 w' r := by
  have C := Lib.hid (atoi_c L ⟨s.toArray⟩ hs H)
  have b := nV_lt s
  have hN := fun h h0 => nB_ok (s := s) h h0
  have hN2 := fun h h0 => nB_neg (s := s) h h0
  have hN3 := fun h => nB_no (s := s) h
  generalize nV s = n at *
  generalize nB s = bb at *
  generalize hA : Lib.atoiAll s = A at *
  have HN := Lib.hid hN
  have HN2 := Lib.hid hN2
  have HN3 := Lib.hid hN3
  have HB := Lib.hid b
  clear hN hN2 hN3 hA H b
  go_enter Tryz.func121, Tryz.ntmps121
  go_wp2_with fail
  refine C.out.mono ?_; rintro e w1 ⟨⟨t, p, ⟨hno, rfl⟩ | ⟨hok, rfl⟩⟩, H1⟩
  · have H1' := Lib.hid H1
    have hbb := HN3.out hno
    subst hbb
    clear H1 hno
    go_wp2
    go_ret2
    exact ⟨rfl, H1'.out⟩
  · by_cases h0 : 0 ≤ n
    · have hbb := HN.out hok h0
      have H1' := Lib.hid (itoa_c L n (by omega) HB.out.2 H1)
      have HBB := Lib.hid hbb
      clear H1 hok hbb
      go_wp2_with fail
      refine H1'.out.mono ?_; rintro e w2 ⟨rfl, H2⟩
      have H2' := Lib.hid H2
      clear H2
      go_wp2
      go_ret2
      refine ⟨?_, H2'.out⟩
      rw [HBB.out, ← l_beq]; rfl
    · have hbb := HN2.out hok (by omega)
      subst hbb
      have H1' := Lib.hid H1
      clear H1 hok
      go_wp2
      go_ret2
      exact ⟨rfl, H1'.out⟩
theorem str_app (c : UInt8) (l : List UInt8) : (⟨#[c]⟩ : ByteArray) ++ ⟨l.toArray⟩ = ⟨(c :: l).toArray⟩ := ByteArray.mk_append_mk [c] l
set_option maxHeartbeats 2000000 in
set_option maxRecDepth 20000 in
theorem text_r {w0 w : World} {r : List Thing} (L : Lf w0) (n : Int) (h0 : 0 ≤ n) (h1 : n < 65536) (H : Hp w0 w r) :
    Calls Tryz.prog 119 #[.int .i64 n] w fun e w' => e = .returned (strv (tx 114 n)) ∧ Hp w0 w' r := by
  have C := Lib.hid (itoa_c L n (by omega) (by omega) H)
  have hl : ¬ 9223372036854775807 < 1 + (Lib.itoa n).length := by have := Lib.itoa_length_le n (by omega) (by omega); omega
  clear H
  go_enter Tryz.func119, Tryz.ntmps119
  go_wp2_with fail
  refine C.out.mono ?_; rintro e w1 ⟨rfl, H1⟩
  have H1' := Lib.hid H1
  clear H1
  go_wp2
  go_ret
  exact ⟨by rw [str_app]; rfl, H1'.out⟩
theorem wrap8 {n m : Int} (h : n % 256 = m % 256) (h0 : -128 ≤ m) (h1 : m < 128) : IntKind.i8.wrap n = m := by
  simp only [IntKind.wrap, IntKind.bits, IntKind.signed]
  simp
  split <;> omega
set_option maxHeartbeats 2000000 in
set_option maxRecDepth 20000 in
theorem text_s {w0 w : World} {r : List Thing} (L : Lf w0) (n : Int) (h0 : 0 ≤ n) (h1 : n < 256) (H : Hp w0 w r) :
    Calls Tryz.prog 122 #[.int .i64 n] w fun e w' => e = .returned (strv (tx 115 n)) ∧ Hp w0 w' r := by
  obtain ⟨m, hm, hm0, hm1, hx⟩ : ∃ m, IntKind.i8.wrap n = m ∧ -128 ≤ m ∧ m < 128 ∧ tx 115 n = Lib.itoa m := by
    by_cases h : n < 128
    · exact ⟨n, wrap8 rfl (by omega) h, by omega, h, by simp [tx, h]⟩
    · exact ⟨n - 256, wrap8 (by omega) (by omega) (by omega), by omega, by omega, by simp [tx, h]⟩
  have C := Lib.hid (itoa_c L m (by omega) (by omega) H)
  rw [hx]
  clear H h0 h1 hx
  go_enter Tryz.func122, Tryz.ntmps122
  go_wp2_with fail
  refine C.out.mono ?_; rintro e w1 ⟨rfl, H1⟩
  have H1' := Lib.hid H1
  clear H1 C
  go_wp2
  go_ret
  exact ⟨rfl, H1'.out⟩
theorem trim_le (s p : List UInt8) : (Lib.trimPrefix s p).length ≤ s.length := by
  unfold Lib.trimPrefix
  split <;> simp
theorem pk_r (s : List UInt8) : (pk 114 s).isSome = (Lib.hasPrefix s [114] && nB (Lib.trimPrefix s [114])) ∧ ∀ n, pk 114 s = some n → nV (Lib.trimPrefix s [114]) = n := by
  unfold pk nB
  simp only [beq_self_eq_true, if_true]
  cases Lib.hasPrefix s [114] <;> simp
  exact fun n h => nV_of h
theorem pk_s (s : List UInt8) : (pk 115 s).isSome = (nB (Lib.trimPrefix s [45]) && if Lib.hasPrefix s [45] then decide (1 ≤ nV (Lib.trimPrefix s [45])) && decide (nV (Lib.trimPrefix s [45]) ≤ 128) else decide (nV (Lib.trimPrefix s [45]) < 128)) ∧ ∀ n, pk 115 s = some n → (if Lib.hasPrefix s [45] then 256 - nV (Lib.trimPrefix s [45]) else nV (Lib.trimPrefix s [45])) = n ∧ 0 ≤ nV (Lib.trimPrefix s [45]) := by
  have e : pk 115 s = pkS (nS (Lib.trimPrefix s [45])) (Lib.hasPrefix s [45]) := rfl
  rw [e, nS_vb]
  have h0 := fun h => nS_some (s := Lib.trimPrefix s [45]) (n := nV (Lib.trimPrefix s [45])) h
  rw [nS_vb] at h0
  generalize nV (Lib.trimPrefix s [45]) = v at *
  generalize nB (Lib.trimPrefix s [45]) = b at *
  unfold pkS
  cases b
  · simp
  · have h0 := (h0 (by simp)).1
    cases Lib.hasPrefix s [45]
    · by_cases h : v < 128 <;> simp [h, h0]
    · by_cases h : 1 ≤ v ∧ v ≤ 128 <;> simp [h, h0]
      omega
theorem cutp_c (s : List UInt8) (c : UInt8) (w : World) : Calls Tryz.prog 62 #[strv s, strv [c]] w fun e w' => e = .returned (.tuple #[strv (Lib.trimPrefix s [c]), .bool (Lib.hasPrefix s [c])]) ∧ w' = w := Tryz.strings_CutPrefix ⟨s.toArray⟩ ⟨[c].toArray⟩ w
set_option maxHeartbeats 2000000 in
set_option maxRecDepth 20000 in
/-- What a field's reader tells. -/
theorem parse_r {w0 w : World} {r : List Thing} (L : Lf w0) (s : List UInt8) (hs : s.length ≤ 281474976710656) (H : Hp w0 w r) :
    Calls Tryz.prog 120 #[strv s] w fun e w' => ∃ v, e = .returned (.tuple #[.int .i64 v, .bool (pk 114 s).isSome]) ∧ (∀ n, pk 114 s = some n → v = n) ∧ Hp w0 w' r := by
  obtain ⟨p1, p2⟩ := pk_r s
  have C := Lib.hid (number_c L (Lib.trimPrefix s [114]) (by have := trim_le s [114]; omega) H)
  have P := Lib.hid (cutp_c s 114 w)
  generalize (pk 114 s).isSome = q at *
  generalize Lib.trimPrefix s [114] = t at *
  generalize nV t = n at *
  generalize nB t = k at *
  generalize Lib.hasPrefix s [114] = g at *
  have P1 := Lib.hid p1
  have P2 := Lib.hid p2
  clear p1 p2 H hs
  go_enter Tryz.func120, Tryz.ntmps120
  go_wp2_with fail
  refine P.out.mono ?_; rintro e w1 ⟨rfl, rfl⟩
  clear P
  go_wp2_with fail
  refine C.out.mono ?_; rintro e w1 ⟨rfl, H1⟩
  have H1' := Lib.hid H1
  clear H1 C
  cases g
  · obtain rfl : q = false := P1.out
    clear P1
    go_wp2
    go_ret2
    exact ⟨n, rfl, P2.out, H1'.out⟩
  · obtain rfl : q = k := P1.out
    clear P1
    go_wp2
    go_ret2
    exact ⟨n, rfl, P2.out, H1'.out⟩
set_option maxHeartbeats 2000000 in
set_option maxRecDepth 20000 in
theorem parse_s {w0 w : World} {r : List Thing} (L : Lf w0) (s : List UInt8) (hs : s.length ≤ 281474976710656) (H : Hp w0 w r) :
    Calls Tryz.prog 123 #[strv s] w fun e w' => ∃ v, e = .returned (.tuple #[.int .i64 v, .bool (pk 115 s).isSome]) ∧ (∀ n, pk 115 s = some n → v = n) ∧ Hp w0 w' r := by
  obtain ⟨p1, p2⟩ := pk_s s
  have C := Lib.hid (number_c L (Lib.trimPrefix s [45]) (by have := trim_le s [45]; omega) H)
  have P := Lib.hid (cutp_c s 45 w)
  have b := nV_lt (Lib.trimPrefix s [45])
  generalize (pk 115 s).isSome = q at *
  generalize Lib.trimPrefix s [45] = t at *
  generalize nV t = n at *
  generalize nB t = k at *
  generalize Lib.hasPrefix s [45] = g at *
  have P1 := Lib.hid p1
  have P2 := Lib.hid p2
  clear p1 p2 H hs
  go_enter Tryz.func123, Tryz.ntmps123
  go_wp2_with fail
  refine P.out.mono ?_; rintro e w1 ⟨rfl, rfl⟩
  clear P
  go_wp2_with fail
  refine C.out.mono ?_; rintro e w1 ⟨rfl, H1⟩
  have H1' := Lib.hid H1
  clear H1 C
  cases g
  · have P3 : Hid (∀ m, pk 115 s = some m → n = m) := Lib.hid (fun m h => (P2.out m h).1)
    clear P2
    cases k
    · obtain rfl : q = false := P1.out
      clear P1
      go_wp2
      go_ret2
      exact ⟨n, rfl, P3.out, H1'.out⟩
    · obtain rfl : q = decide (n < 128) := P1.out
      clear P1
      by_cases h : n < 128
      · have d : decide (n < 128) = true := by simp [h]
        go_wp2
        go_ret2
        exact ⟨n, by simp [d], P3.out, H1'.out⟩
      · have d : decide (n < 128) = false := by simp [h]
        go_wp2
        go_ret2
        exact ⟨n, by simp [d], P3.out, H1'.out⟩
  · have P3 : Hid (∀ m, pk 115 s = some m → 256 - n = m ∧ 0 ≤ n) := Lib.hid (fun m h => P2.out m h)
    clear P2
    by_cases h0 : 0 ≤ n
    · have P4 : Hid (∀ x, pk 115 s = some x → 256 - n = x) := Lib.hid (fun x h => (P3.out x h).1)
      clear P3
      cases k
      · obtain rfl : q = false := P1.out
        clear P1
        go_wp2
        go_ret2
        exact ⟨256 - n, rfl, P4.out, H1'.out⟩
      · have hq : q = (decide (1 ≤ n) && decide (n ≤ 128)) := P1.out
        clear P1
        by_cases h : 1 ≤ n
        · by_cases h2 : n ≤ 128
          · have d : (decide (1 ≤ n) && decide (n ≤ 128)) = true := by simp [h, h2]
            obtain rfl := hq.trans d
            clear hq d
            go_wp2
            go_ret2
            exact ⟨256 - n, rfl, P4.out, H1'.out⟩
          · have d : (decide (1 ≤ n) && decide (n ≤ 128)) = false := by simp [h, h2]
            obtain rfl := hq.trans d
            have e : decide (n ≤ 128) = false := by simp [h2]
            clear hq d
            go_wp2
            go_ret2
            exact ⟨256 - n, by simp [e], P4.out, H1'.out⟩
        · have d : (decide (1 ≤ n) && decide (n ≤ 128)) = false := by simp [h]
          obtain rfl := hq.trans d
          obtain rfl : n = 0 := by omega
          clear hq d h h0
          go_wp2
          go_ret2
          exact ⟨256, rfl, P4.out, H1'.out⟩
    · have hq : q = false := by
        cases q
        · rfl
        · exfalso
          have := P1.out
          cases k
          · cases this
          · have : true = (decide (1 ≤ n) && decide (n ≤ 128)) := this
            have h1 : ¬ 1 ≤ n := by omega
            simp [h1] at this
      subst hq
      have P4 : Hid (∀ m x, pk 115 s = some x → m = x) := Lib.hid (fun m x h => absurd (P3.out x h).2 h0)
      clear P3 P1
      cases k
      · go_wp2
        go_ret2
        exact ⟨_, rfl, P4.out _, H1'.out⟩
      · go_wp2
        go_ret2
        exact ⟨_, rfl, P4.out _, H1'.out⟩
end Go.Proofs.YtcfoljdpffonhaaGreatDoor
