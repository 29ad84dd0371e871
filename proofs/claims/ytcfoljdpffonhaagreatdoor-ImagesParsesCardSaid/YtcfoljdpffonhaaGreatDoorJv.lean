/- Instructions: the document's fields and parts, walked. -/
import Derived.Test.YtcfoljdpffonhaaGreatDoorJu
set_option linter.unusedVariables false
set_option linter.unusedSimpArgs false
namespace Go.Proofs.YtcfoljdpffonhaaGreatDoor
open Go.RowKit Go.Joins Go.Shelf
attribute [local go_sem] Oper.semAt_some

/-- What a field tells. -/
def FieldPost (w0 : World) (r : List Thing) (o : Option (List Int)) (e : Ending) (w' : World) : Prop :=
  match o with
  | some b => ∃ g, e = .returned (.tuple #[.slice (some ⟨g, 0, none⟩) b.length b.length, .bool true]) ∧ Hp w0 w' (Blk g (.cells (b.map (Value.int .u8)).toArray 5 (0, 0)) :: r)
  | none => ∃ v, e = .returned (.tuple #[v, .bool false]) ∧ Hp w0 w' r
theorem field_no {w0 w' : World} {r : List Thing} {o : Option (List Int)} {v : Value} (h : o = none) (H : Hp w0 w' r) : FieldPost w0 r o (.returned (.tuple #[v, .bool false])) w' := by subst h; exact ⟨v, rfl, H⟩
theorem field_one {w0 w' : World} {r : List Thing} {o : Option (List Int)} {x : Int} {g : Nat} (h : o = some [x]) (H : Hp w0 w' (Blk g (.cells #[.int .u8 x] 5 (0, 0)) :: r)) : FieldPost w0 r o (.returned (.tuple #[.slice (some ⟨g, 0, none⟩) 1 1, .bool true])) w' := by subst h; exact ⟨g, rfl, H⟩
theorem field_two {w0 w' : World} {r : List Thing} {o : Option (List Int)} {x y : Int} {g : Nat} (h : o = some [x, y]) (H : Hp w0 w' (Blk g (.cells #[.int .u8 x, .int .u8 y] 5 (0, 0)) :: r)) : FieldPost w0 r o (.returned (.tuple #[.slice (some ⟨g, 0, none⟩) 2 2, .bool true])) w' := by subst h; exact ⟨g, rfl, H⟩
theorem ext_tail (a : UInt8) (t : List UInt8) : (⟨(a :: t).toArray⟩ : ByteArray).extract 1 (t.length + 1) = ⟨t.toArray⟩ := by
  apply ByteArray.ext
  simp
theorem u8m1 : IntKind.u8.wrap (-1) = 255 := by rw [IntKind.wrap_u8]; rfl
set_option maxHeartbeats 4000000 in
set_option maxRecDepth 20000 in
theorem rfield_r {w0 w : World} {r : List Thing} (s : List UInt8) (hs : s.length < 9223372036854775807) (H : Hp w0 w r) :
    Calls Tryz.prog 102 #[.int .u8 114, strv s] w (FieldPost w0 r (rfd 114 s)) := by
  have HH := Lib.hid H
  clear H
  cases s with
  | nil =>
    have hf : rfd 114 [] = none := rfl
    go_enter Tryz.func102, Tryz.ntmps102
    go_wp2
    go_ret2
    exact field_no rfl HH.out
  | cons a t =>
    have n1 : ((a :: t) == []) = false := rfl
    obtain ⟨hx0, hx⟩ := idx_str (s := a :: t) (k := 0) (by simp)
    simp only [List.getElem_cons_zero] at hx
    have hex := ext_tail a t
    have hl : t.length < 9223372036854775807 := by simp at hs; omega
    have hfd : rfd 114 (a :: t) = if a = 114 then (if 0 ≤ rnum t 7 then some [rnum t 7] else none) else none := rfl
    by_cases ha : a = 114
    · subst ha
      have HF : rfd 114 (114 :: t) = if 0 ≤ rnum t 7 then some [rnum t 7] else none := by rw [hfd, if_pos rfl]
      generalize rfd 114 (114 :: t) = res at *
      have nb := rnum_le t 7 (by omega)
      have C := Lib.hid (rnumber_c t 7 hl (by omega) (by omega))
      clear hfd hs hl
      have HFD := Lib.hid HF
      clear HF
      go_enter Tryz.func102, Tryz.ntmps102
      go_wp2_with fail
      refine (C.out _).mono ?_; rintro e w1 ⟨rfl, rfl⟩
      have HF := HFD.out
      clear C hex hx n1 HFD
      generalize hN : rnum t 7 = N at *
      have HF2 := Lib.hid HF
      have NB := Lib.hid nb
      clear HF nb hN
      by_cases h0 : 0 ≤ N
      · have hw8 : IntKind.u8.wrap N = N := by rw [IntKind.wrap_u8]; have := NB.out; omega
        have b1 : N ≤ 7 := NB.out.2
        go_wp2
        go_ret2
        exact field_one (by rw [HF2.out, if_pos h0]) (blk_new HH.out _)
      · obtain rfl : N = -1 := by have := NB.out; omega
        have hw8 := u8m1
        go_wp2
        go_ret2
        exact field_no (by rw [HF2.out]; rfl) (HH.out.alloc _)
    · have HF : rfd 114 (a :: t) = none := by rw [hfd, if_neg ha]
      have h' : ¬ ((a.toNat : Nat) : Int) = 114 := by intro h; apply ha; rw [← UInt8.toNat_inj]; show a.toNat = 114; omega
      have h'' : (((a.toNat : Nat) : Int) == 114) = false := by rw [beq_eq_false_iff_ne]; exact h'
      generalize rfd 114 (a :: t) = res at *
      have HFD := Lib.hid HF
      clear HF hfd hex hs hl ha
      go_enter Tryz.func102, Tryz.ntmps102
      go_wp2
      go_ret2
      exact field_no HFD.out HH.out
set_option maxHeartbeats 4000000 in
set_option maxRecDepth 20000 in
theorem rfield_n {w0 w : World} {r : List Thing} (s : List UInt8) (hs : s.length < 9223372036854775807) (H : Hp w0 w r) :
    Calls Tryz.prog 102 #[.int .u8 110, strv s] w (FieldPost w0 r (rfd 110 s)) := by
  have HH := Lib.hid H
  clear H
  have HF : rfd 110 s = if 0 ≤ rnum s 65535 then some [rnum s 65535 / 256, rnum s 65535 % 256] else none := rfl
  have HFD := Lib.hid HF
  have nb := Lib.hid (rnum_le s 65535 (by omega))
  have C := Lib.hid (rnumber_c s 65535 hs (by omega) (by omega))
  clear HF hs
  go_enter Tryz.func102, Tryz.ntmps102
  go_wp2_with fail
  refine (C.out _).mono ?_; rintro e w1 ⟨rfl, rfl⟩
  clear C
  generalize rfd 110 s = res at *
  generalize rnum s 65535 = N at *
  by_cases h0 : 0 ≤ N
  · have b1 : N < 65536 := by have := nb.out; omega
    clear nb
    go_wp2
    go_ret2
    exact field_two (by rw [HFD.out, if_pos h0]) (blk_new HH.out _)
  · obtain rfl : N = -1 := by have := nb.out; omega
    have hw8 := u8m1
    clear nb
    go_wp2
    go_ret2
    exact field_no (by rw [HFD.out]; rfl) (HH.out.alloc _)
set_option maxHeartbeats 4000000 in
set_option maxRecDepth 20000 in
theorem rfield_b {w0 w : World} {r : List Thing} (s : List UInt8) (hs : s.length < 9223372036854775807) (H : Hp w0 w r) :
    Calls Tryz.prog 102 #[.int .u8 98, strv s] w (FieldPost w0 r (rfd 98 s)) := by
  have HH := Lib.hid H
  clear H
  have HF : rfd 98 s = if 0 ≤ rnum s 255 then some [rnum s 255] else none := rfl
  have HFD := Lib.hid HF
  have nb := rnum_le s 255 (by omega)
  have NB0 := Lib.hid nb
  have C := Lib.hid (rnumber_c s 255 hs (by omega) (by omega))
  clear HF hs nb
  go_enter Tryz.func102, Tryz.ntmps102
  go_wp2_with fail
  refine (C.out _).mono ?_; rintro e w1 ⟨rfl, rfl⟩
  clear C
  generalize rfd 98 s = res at *
  have HF := HFD.out
  have nb := NB0.out
  clear HFD NB0
  generalize hN : rnum s 255 = N at *
  have HF2 := Lib.hid HF
  have NB := Lib.hid nb
  clear HF nb hN
  by_cases h0 : 0 ≤ N
  · have hw8 : IntKind.u8.wrap N = N := by rw [IntKind.wrap_u8]; have := NB.out; omega
    have b1 : N ≤ 255 := NB.out.2
    go_wp2
    go_ret2
    exact field_one (by rw [HF2.out, if_pos h0]) (blk_new HH.out _)
  · obtain rfl : N = -1 := by have := NB.out; omega
    have hw8 := u8m1
    go_wp2
    go_ret2
    exact field_no (by rw [HF2.out]; rfl) (HH.out.alloc _)
set_option maxHeartbeats 4000000 in
set_option maxRecDepth 20000 in
theorem rfield_w {w0 w : World} {r : List Thing} (s : List UInt8) (hs : s.length < 9223372036854775807) (H : Hp w0 w r) :
    Calls Tryz.prog 102 #[.int .u8 119, strv s] w (FieldPost w0 r (rfd 119 s)) := by
  have HH := Lib.hid H
  clear H
  have HF : rfd 119 s = if 0 ≤ rnum s 255 then some [rnum s 255] else none := rfl
  have HFD := Lib.hid HF
  have nb := rnum_le s 255 (by omega)
  have NB0 := Lib.hid nb
  have C := Lib.hid (rnumber_c s 255 hs (by omega) (by omega))
  clear HF hs nb
  go_enter Tryz.func102, Tryz.ntmps102
  go_wp2_with fail
  refine (C.out _).mono ?_; rintro e w1 ⟨rfl, rfl⟩
  clear C
  generalize rfd 119 s = res at *
  have HF := HFD.out
  have nb := NB0.out
  clear HFD NB0
  generalize hN : rnum s 255 = N at *
  have HF2 := Lib.hid HF
  have NB := Lib.hid nb
  clear HF nb hN
  by_cases h0 : 0 ≤ N
  · have hw8 : IntKind.u8.wrap N = N := by rw [IntKind.wrap_u8]; have := NB.out; omega
    have b1 : N ≤ 255 := NB.out.2
    go_wp2
    go_ret2
    exact field_one (by rw [HF2.out, if_pos h0]) (blk_new HH.out _)
  · obtain rfl : N = -1 := by have := NB.out; omega
    have hw8 := u8m1
    go_wp2
    go_ret2
    exact field_no (by rw [HF2.out]; rfl) (HH.out.alloc _)
set_option maxHeartbeats 4000000 in
set_option maxRecDepth 20000 in
theorem rfield_s {w0 w : World} {r : List Thing} (s : List UInt8) (hs : s.length < 9223372036854775807) (H : Hp w0 w r) :
    Calls Tryz.prog 102 #[.int .u8 115, strv s] w (FieldPost w0 r (rfd 115 s)) := by
  have HH := Lib.hid H
  clear H
  cases s with
  | nil =>
    have C := Lib.hid (rnumber_c [] 127 (by simp) (by omega) (by omega))
    have hr : rnum [] 127 = -1 := rfl
    have hw8 := u8m1
    rw [hr] at C
    go_enter Tryz.func102, Tryz.ntmps102
    go_wp2_with fail
    refine (C.out _).mono ?_; rintro e w1 ⟨rfl, rfl⟩
    clear C
    go_wp2
    go_ret2
    exact field_no rfl (HH.out.alloc _)
  | cons a t =>
    have n1 : ((a :: t) == []) = false := rfl
    obtain ⟨hx0, hx⟩ := idx_str (s := a :: t) (k := 0) (by simp)
    simp only [List.getElem_cons_zero] at hx
    have hex := ext_tail a t
    have hl : t.length < 9223372036854775807 := by simp at hs; omega
    have hfd : rfd 115 (a :: t) = if a = 45 then (if 1 ≤ rnum t 128 then some [256 - rnum t 128] else none) else (if 0 ≤ rnum (a :: t) 127 then some [rnum (a :: t) 127] else none) := rfl
    by_cases ha : a = 45
    · subst ha
      have HF : rfd 115 (45 :: t) = if 1 ≤ rnum t 128 then some [256 - rnum t 128] else none := by rw [hfd, if_pos rfl]
      generalize rfd 115 (45 :: t) = res at *
      have nb := rnum_le t 128 (by omega)
      have NB := Lib.hid nb
      have C := Lib.hid (rnumber_c t 128 hl (by omega) (by omega))
      clear hfd hs hl nb
      have HFD := Lib.hid HF
      clear HF
      go_enter Tryz.func102, Tryz.ntmps102
      go_wp2_with fail
      refine (C.out _).mono ?_; rintro e w1 ⟨rfl, rfl⟩
      clear C hex hx n1
      generalize rnum t 128 = N at *
      by_cases h0 : 1 ≤ N
      · have g1 : ¬ N ≤ 0 := by omega
        have b1 : N ≤ 128 := NB.out.2
        have hw : IntKind.i64.wrap (256 - N) = 256 - N := by rw [IntKind.wrap_i64]; omega
        have hw8 : IntKind.u8.wrap (256 - N) = 256 - N := by rw [IntKind.wrap_u8]; omega
        have g2 : 0 ≤ 256 - N := by omega
        have g3 : N ≤ 256 := by omega
        go_wp2
        go_ret2
        exact field_one (by rw [HFD.out, if_pos h0]) (blk_new HH.out _)
      · have g1 : N ≤ 0 := by omega
        go_wp2
        go_ret2
        exact field_no (by rw [HFD.out, if_neg (show ¬ 1 ≤ N by omega)]) HH.out
    · have HF : rfd 115 (a :: t) = if 0 ≤ rnum (a :: t) 127 then some [rnum (a :: t) 127] else none := by rw [hfd, if_neg ha]
      have h' : ¬ ((a.toNat : Nat) : Int) = 45 := by intro h; apply ha; rw [← UInt8.toNat_inj]; show a.toNat = 45; omega
      have h'' : (((a.toNat : Nat) : Int) == 45) = false := by rw [beq_eq_false_iff_ne]; exact h'
      have nb := rnum_le (a :: t) 127 (by omega)
      have NB0 := Lib.hid nb
      have C := Lib.hid (rnumber_c (a :: t) 127 hs (by omega) (by omega))
      generalize rfd 115 (a :: t) = res at *
      have HFD := Lib.hid HF
      clear HF hfd hex hs hl ha nb
      go_enter Tryz.func102, Tryz.ntmps102
      go_wp2_with fail
      refine (C.out _).mono ?_; rintro e w1 ⟨rfl, rfl⟩
      have HF := HFD.out
      have nb := NB0.out
      clear C HFD NB0
      generalize hN : rnum (a :: t) 127 = N at *
      have HF2 := Lib.hid HF
      have NB := Lib.hid nb
      clear HF nb hN
      by_cases h0 : 0 ≤ N
      · have hw8 : IntKind.u8.wrap N = N := by rw [IntKind.wrap_u8]; have := NB.out; omega
        have b1 : N ≤ 127 := NB.out.2
        go_wp2
        go_ret2
        exact field_one (by rw [HF2.out, if_pos h0]) (blk_new HH.out _)
      · obtain rfl : N = -1 := by have := NB.out; omega
        have hw8 := u8m1
        go_wp2
        go_ret2
        exact field_no (by rw [HF2.out]; rfl) (HH.out.alloc _)
theorem rfield_c {w0 w : World} {r : List Thing} {c : UInt8} (hc : isK c = true) (s : List UInt8) (hs : s.length < 9223372036854775807) (H : Hp w0 w r) :
    Calls Tryz.prog 102 #[.int .u8 c.toNat, strv s] w (FieldPost w0 r (rfd c s)) := by
  unfold isK at hc
  simp only [Bool.or_eq_true, beq_iff_eq] at hc
  rcases hc with (((rfl | rfl) | rfl) | rfl) | rfl
  · exact rfield_r s hs H
  · exact rfield_n s hs H
  · exact rfield_b s hs H
  · exact rfield_w s hs H
  · exact rfield_s s hs H

/-! ### Parts. -/
theorem wpList_append_big {P : Program} {w0 w : World} {ops : Array Oper} {rest : List Oper} {o : Oper} {a : Act} {Q : Exit → Act → World → Prop} (hgd : o.guard = none) (s x : Operand) (t : TypeId)
    (ho : o.op = .call { callee := .builtin .append, args := #[s, x], argTypes := #[t, t] })
    (e : TypeId) (i : TypeInfo) (z : Value) (size bytes : Nat) (ht : P.underlying t = some (.slice e)) (hi : P.info? e = some i) (hz : i.zero = some z)
    (hsize : i.size = size) (hby : i.bytes = bytes) (hzs : z.cells.size = size) (hsz : 0 < size)
    {v : Value} {n : Nat} {xs : List Value} {r : List Thing} (H : Hp w0 w (Own e size v n xs :: r)) (hs : a.eval s = v)
    (ad : Addr) (m c : Nat) (news : List Value) (hx : a.eval x = .slice (some ad) m c) (hl : news.length = m * size) (hnews : ∀ j u, news[j]? = some u → w.cell? (ad.add j) = some u) (h1 : ∀ u ∈ news, u.oneCell' = true)
    (h63 : n + m ≤ 4000000) (hb : bytes ≤ 1000)
    (h : ∀ v' w', Hp w0 w' (Own e size v' (n + m) (xs ++ news) :: r) → wpList P ops Q rest (a.put o.dst v') w') :
    wpList P ops Q (o :: rest) a w := by
  refine wpList_append_own_at w hgd s x t ho 0 e i z size bytes ht hi hz hsize hby hzs hsz v n xs hs (own_get H) ad m c news hx hl hnews h1 (by unfold maxLen; omega) ?_ (Nat.zero_le _) ?_
  · have : (n + m) * bytes ≤ 4000000 * 1000 := Nat.mul_le_mul h63 hb
    omega
  · intro v' w' h2 h3 _ h5
    exact h v' w' (own_turn H h3 h2 h5)
abbrev OwnSp (v : Value) (zs : List (List UInt8)) : Thing := Own 9 1 v zs.length (zs.map strv)
theorem os_snoc {w0 w : World} {r : List Thing} {v : Value} {zs : List (List UInt8)} {z : List UInt8} (H : Hp w0 w (Own 9 1 v (zs.length + 1) (zs.map strv ++ [strv z]) :: r)) : Hp w0 w (OwnSp v (zs ++ [z]) :: r) :=
  own_as H (by simp) (by simp)
theorem info_strp : (Tryz.prog.info? 9).map (fun i => (i.zero, i.size, i.bytes)) = some (some (strv []), 1, 16) := by kernel_rfl
/-- Parts so far: l, and what is left behind place f, of which none up to k is a blank. -/
structure PartsAt (s : List UInt8) (k f : Nat) (l : List (List UInt8)) : Prop where
  fk : f ≤ k
  kl : k ≤ s.length
  nb : (32 : UInt8) ∉ (s.take k).drop f
  eq : spl s = l ++ spl (s.drop f)
  len : l.length ≤ f
theorem parts_zero (s : List UInt8) : PartsAt s 0 0 [] := ⟨Nat.le_refl _, Nat.zero_le _, by simp, by simp, Nat.le_refl _⟩
theorem drop_cut {s : List UInt8} {k f : Nat} (hf : f ≤ k) (hk : k < s.length) : s.drop f = (s.take k).drop f ++ s[k] :: s.drop (k + 1) := by
  rw [← List.drop_eq_getElem_cons hk]
  conv => lhs; rw [← List.take_append_drop k s]
  rw [List.drop_append_of_le_length (by rw [List.length_take]; omega)]
theorem parts_blank {s : List UInt8} {k f : Nat} {l : List (List UInt8)} (h : PartsAt s k f l) (hk : k < s.length) (hc : s[k] = 32) : PartsAt s (k + 1) (k + 1) (l ++ [(s.take k).drop f]) := by
  refine ⟨Nat.le_refl _, hk, by rw [List.drop_of_length_le (by rw [List.length_take]; omega)]; simp, ?_, by have := h.len; have := h.fk; simp; omega⟩
  rw [h.eq, drop_cut h.fk hk, hc, spl_word _ _ h.nb]
  simp
theorem parts_step {s : List UInt8} {k f : Nat} {l : List (List UInt8)} (h : PartsAt s k f l) (hk : k < s.length) (hc : s[k] ≠ 32) : PartsAt s (k + 1) f l := by
  refine ⟨by have := h.fk; omega, hk, ?_, h.eq, h.len⟩
  rw [List.take_succ_eq_append_getElem hk, List.drop_append_of_le_length (by rw [List.length_take]; have := h.fk; omega)]
  simp
  exact ⟨h.nb, fun e => hc e.symm⟩
theorem parts_end {s : List UInt8} {f : Nat} {l : List (List UInt8)} (h : PartsAt s s.length f l) : spl s = l ++ [(s.take s.length).drop f] := by
  have := h.nb
  rw [h.eq, List.take_length]
  rw [List.take_length] at this
  rw [spl_one _ this]
theorem ext_mid (s : List UInt8) (f k : Nat) (hf : f ≤ k) (hk : k ≤ s.length) : (⟨s.toArray⟩ : ByteArray).extract f k = ⟨((s.take k).drop f).toArray⟩ := by
  apply ByteArray.ext
  simp
  rw [List.drop_take]
end Go.Proofs.YtcfoljdpffonhaaGreatDoor
