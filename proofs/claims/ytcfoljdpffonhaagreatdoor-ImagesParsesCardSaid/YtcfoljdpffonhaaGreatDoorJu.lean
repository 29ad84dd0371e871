/- Instructions: the document's digits, numbers and fields, walked. -/
import Derived.Test.YtcfoljdpffonhaaGreatDoorJn
import Derived.Test.YtcfoljdpffonhaaGreatDoorIe
import Derived.Lib.ItoaNum
import Derived.Lib.ItoaLen
import Derived.Deep.QuietTactic
import Derived.BigQuiet
set_option linter.unusedVariables false
set_option linter.unusedSimpArgs false
namespace Go.Proofs.YtcfoljdpffonhaaGreatDoor
open Go.RowKit Go.Joins Go.Shelf
attribute [local go_sem] Oper.semAt_some

theorem rdig_ext {r : Nat} (h : r < 10) : (⟨#[48, 49, 50, 51, 52, 53, 54, 55, 56, 57]⟩ : ByteArray).extract r (r + 1) = ⟨[UInt8.ofNat (48 + r)].toArray⟩ :=
  match r, h with
  | 0, _ => by rfl
  | 1, _ => by rfl
  | 2, _ => by rfl
  | 3, _ => by rfl
  | 4, _ => by rfl
  | 5, _ => by rfl
  | 6, _ => by rfl
  | 7, _ => by rfl
  | 8, _ => by rfl
  | 9, _ => by rfl
theorem rcat_dig {r : Nat} (h : r < 10) (l : List UInt8) : (⟨l.toArray⟩ : ByteArray) ++ (⟨#[48, 49, 50, 51, 52, 53, 54, 55, 56, 57]⟩ : ByteArray).extract r (r + 1) = ⟨(l ++ [UInt8.ofNat (48 + r)]).toArray⟩ := by
  rw [rdig_ext h, str_app2]
theorem rdec_len (n : Nat) (h : n < 2147483648) : (Lib.decDigits n).length ≤ 20 := by rw [Lib.decDigits_length]; exact Lib.nDigits_le20 n (by omega)
theorem odd_cases {s : List UInt8} (h : oddN s = true) : s = [] ∨ (s ≠ [] ∧ 10 < s.length) ∨ (s ≠ [] ∧ s.length ≤ 10 ∧ 1 < s.length ∧ ∃ h0 : 0 < s.length, s[0] = 48) := by
  unfold oddN at h
  simp only [Bool.or_eq_true, Bool.and_eq_true, decide_eq_true_eq, beq_iff_eq, List.isEmpty_iff] at h
  by_cases hn : s = []
  · exact Or.inl hn
  · by_cases hl : 10 < s.length
    · exact Or.inr (Or.inl ⟨hn, hl⟩)
    · rcases h with (h | h) | ⟨h, h'⟩
      · exact absurd h hn
      · omega
      · refine Or.inr (Or.inr ⟨hn, by omega, h, by omega, ?_⟩)
        cases s with
        | nil => exact absurd rfl hn
        | cons a r => simpa using h'
theorem even_cases {s : List UInt8} (h : oddN s = false) : s ≠ [] ∧ s.length ≤ 10 ∧ ∃ h0 : 0 < s.length, (s.length = 1 ∨ (1 < s.length ∧ s[0] ≠ 48)) := by
  unfold oddN at h
  simp only [Bool.or_eq_false_iff, Bool.and_eq_false_iff, decide_eq_false_iff_not] at h
  obtain ⟨⟨h1, h2⟩, h3⟩ := h
  have hne : s ≠ [] := by rintro rfl; simp at h1
  have h0 : 0 < s.length := List.length_pos_iff.2 hne
  refine ⟨hne, by omega, h0, ?_⟩
  rcases h3 with h3 | h3
  · left; omega
  · by_cases h4 : s.length = 1
    · exact Or.inl h4
    · refine Or.inr ⟨by omega, ?_⟩
      cases s with
      | nil => exact absurd rfl hne
      | cons a r => simpa using h3
theorem accD_step {s : List UInt8} {k n : Nat} (hk : k < s.length) (h : accD 0 s = accD n (s.drop k)) : accD 0 s = if 48 ≤ s[k].toNat ∧ s[k].toNat ≤ 57 then accD (10 * n + (s[k].toNat - 48)) (s.drop (k + 1)) else none := by
  rw [h, List.drop_eq_getElem_cons hk, accD]
theorem pow_le10 {k : Nat} (h : k ≤ 10) : 10 ^ k ≤ 10000000000 := Nat.pow_le_pow_right (n := 10) (by decide) h
theorem idx_str {s : List UInt8} {k : Nat} (h : k < s.length) : ∃ h', (⟨s.toArray⟩ : ByteArray)[k]'h' = s[k] := ⟨by simpa [ByteArray.size] using h, rfl⟩
set_option maxHeartbeats 4000000 in
set_option maxRecDepth 20000 in
theorem rnumber_c (s : List UInt8) (most : Int) (hs : s.length < 9223372036854775807) (h0 : 0 ≤ most) (hm : most < 10000000000) (w : World) : Calls Tryz.prog 69 #[strv s, .int .i64 most] w fun e w' => e = .returned (.int .i64 (rnum s most)) ∧ w' = w := by
  cases ho : oddN s with
  | true =>
    rw [rnum_odd ho hm]
    rcases odd_cases ho with rfl | ⟨hn, h⟩ | ⟨hn, h1, h2, h3, h4⟩
    · clear ho hs
      go_enter Tryz.func69, Tryz.ntmps69
      go_wp2
      go_ret
      exact ⟨rfl, rfl⟩
    · have n1 : (s == []) = false := by rw [beq_eq_false_iff_ne]; exact hn
      have n3 : s.isEmpty = false := by cases s; exact absurd rfl hn; rfl
      have h' : (10 : Int) < (s.length : Int) := by omega
      clear ho
      go_enter Tryz.func69, Tryz.ntmps69
      go_wp2
      go_ret
      exact ⟨rfl, rfl⟩
    · have n1 : (s == []) = false := by rw [beq_eq_false_iff_ne]; exact hn
      have n3 : s.isEmpty = false := by cases s; exact absurd rfl hn; rfl
      have h' : ¬ (10 : Int) < (s.length : Int) := by omega
      have h2' : (1 : Int) < (s.length : Int) := by omega
      obtain ⟨hx, hy⟩ := idx_str h3
      rw [h4] at hy
      clear ho
      go_enter Tryz.func69, Tryz.ntmps69
      go_wp2
      go_ret
      exact ⟨rfl, rfl⟩
  | false =>
    have hacc := rnum_acc (most := most) ho
    obtain ⟨hn, hl, h3, hc⟩ := even_cases ho
    have n1 : (s == []) = false := by rw [beq_eq_false_iff_ne]; exact hn
    have n3 : s.isEmpty = false := by cases s; exact absurd rfl hn; rfl
    have h' : ¬ (10 : Int) < (s.length : Int) := by omega
    have n2 : ¬ s = [] := hn
    generalize rnum s most = res at *
    have HACC := Lib.hid hacc
    have HL := Lib.hid hl
    have hsz : (⟨s.toArray⟩ : ByteArray).size = s.length := by simp [ByteArray.size]
    have HSZ := Lib.hid hsz
    clear hacc ho hs hsz
    have key : ∀ (b : Bool), True := fun _ => trivial
    rcases hc with h1 | ⟨h1, h2⟩
    case' inl =>
      have g1 : decide ((1 : Int) < (s.length : Int)) = false := by simp; omega
      have g2 : ¬ (1 : Int) < (s.length : Int) := by omega
      have hx : True := trivial
      have hxx : True := trivial
      have H1 := Lib.hid h1
      clear h1
    case' inr =>
      have g1 : decide ((1 : Int) < (s.length : Int)) = true := by simp; omega
      have g2 : (1 : Int) < (s.length : Int) := by omega
      obtain ⟨hx0, hxx⟩ := idx_str h3
      have hx : (((s[0].toNat : Nat) : Int) == 48) = false := by
        rw [beq_eq_false_iff_ne]; intro h; apply h2; rw [← UInt8.toNat_inj]; show s[0].toNat = 48; omega
      have hx' : ¬ ((s[0].toNat : Nat) : Int) = 48 := by intro h; apply h2; rw [← UInt8.toNat_inj]; show s[0].toNat = 48; omega
      generalize s[0] = c0 at *
      have H1 := Lib.hid h1
      clear h1 h2
    all_goals
      clear key
      go_enter Tryz.func69, Tryz.ntmps69
      go_wp2
      go_loop [5, 6] (fun s5 s6 => ∃ k n : Nat, k ≤ s.length ∧ s6 = .int .i64 k ∧ s5 = .int .i64 n ∧ Hid (n < 10 ^ k) ∧ Hid (accD 0 s = accD n (s.drop k))) (fun _ s6 => s.length - (intOf s6).toNat)
      case atStart => exact ⟨0, 0, Nat.zero_le _, rfl, rfl, Lib.hid (by decide), Lib.hid rfl⟩
      case round =>
        obtain ⟨k, n, hk, rfl, rfl, hnp, hA⟩ := hrel
        clear g1 g2 hx hxx n1 n2 n3 h'
        try clear hx'
        have hp := pow_le10 (show k ≤ 10 by have := HL.out; omega)
        have hn10 : n < 10000000000 := Nat.lt_of_lt_of_le hnp.out hp
        by_cases hlt : k < s.length
        · obtain ⟨hz, hy⟩ := idx_str hlt
          have hst := accD_step hlt hA.out
          have hpn : 10 * n + 9 < 10 ^ (k + 1) := by have := hnp.out; rw [Nat.pow_succ]; omega
          have hk10 : k < 10 := by have := HL.out; omega
          generalize s[k] = c at *
          have w4 : IntKind.i64.wrap ((k : Int) + 1) = (k : Int) + 1 := by rw [IntKind.wrap_i64]; omega
          have w2 : IntKind.i64.wrap (10 * (n : Int)) = 10 * (n : Int) := by rw [IntKind.wrap_i64]; omega
          by_cases hd : 48 ≤ c.toNat ∧ c.toNat ≤ 57
          · rw [if_pos hd] at hst
            obtain ⟨e1, e2⟩ := hd
            have d1 : ¬ ((c.toNat : Nat) : Int) < 48 := by omega
            have d2 : ¬ (57 : Int) < ((c.toNat : Nat) : Int) := by omega
            have w1 : IntKind.u8.wrap (((c.toNat : Nat) : Int) - 48) = ((c.toNat : Nat) : Int) - 48 := by rw [IntKind.wrap_u8]; omega
            have w3 : IntKind.i64.wrap (10 * (n : Int) + (((c.toNat : Nat) : Int) - 48)) = 10 * (n : Int) + (((c.toNat : Nat) : Int) - 48) := by rw [IntKind.wrap_i64]; omega
            have w5 : (10 * (n : Int) + (((c.toNat : Nat) : Int) - 48)) = ((10 * n + (c.toNat - 48) : Nat) : Int) := by omega
            have HST := Lib.hid hst
            have HPN : Hid (10 * n + (c.toNat - 48) < 10 ^ (k + 1)) := Lib.hid (by omega)
            have W5 := Lib.hid w5
            clear hst hpn hp w5 hnp hA
            go_wp2
            go_round
            case rel => exact ⟨k + 1, 10 * n + (c.toNat - 48), by omega, by go_num, by rw [← W5.out], HPN, HST⟩
            case measure => simp [intOf]; omega
          · rw [if_neg hd] at hst
            have hres : res = -1 := by rw [HACC.out, hst]
            have HRES := Lib.hid hres
            have hd2 : c.toNat < 48 ∨ (48 ≤ c.toNat ∧ 57 < c.toNat) := by omega
            clear hst hpn hp hd hnp hA hres
            rcases hd2 with hd | ⟨hd, hd'⟩
            · have d1 : ((c.toNat : Nat) : Int) < 48 := by omega
              clear hd
              go_wp2
              go_ret
              exact ⟨by rw [HRES.out]; rfl, rfl⟩
            · have d1 : ¬ ((c.toNat : Nat) : Int) < 48 := by omega
              have d2 : (57 : Int) < ((c.toNat : Nat) : Int) := by omega
              clear hd hd'
              go_wp2
              go_ret
              exact ⟨by rw [HRES.out]; rfl, rfl⟩
        · have hke : k = s.length := by omega
          subst hke
          have hA2 := hA.out
          rw [List.drop_length] at hA2
          have hres : res = if (n : Int) ≤ most then (n : Int) else -1 := by rw [HACC.out, hA2]; rfl
          have HRES := Lib.hid hres
          clear hA2 hres hp hnp hA
          by_cases hmo : (n : Int) ≤ most
          · have hm2 : ¬ most < (n : Int) := by omega
            go_wp2
            go_ret
            exact ⟨by rw [HRES.out, if_pos (show (n : Int) ≤ most by omega)]; rfl, rfl⟩
          · have hm2 : most < (n : Int) := by omega
            go_wp2
            go_ret
            exact ⟨by rw [HRES.out, if_neg (show ¬ (n : Int) ≤ most by omega)]; rfl, rfl⟩

/-! ### Fields. -/
def rfd (c : UInt8) (s : List UInt8) : Option (List Int) :=
  if c = 114 then (match s with
    | [] => none
    | a :: t => if a = 114 then (if 0 ≤ rnum t 7 then some [rnum t 7] else none) else none)
  else if c = 110 then (if 0 ≤ rnum s 65535 then some [rnum s 65535 / 256, rnum s 65535 % 256] else none)
  else if c = 115 then (match s with
    | [] => none
    | a :: t => if a = 45 then (if 1 ≤ rnum t 128 then some [256 - rnum t 128] else none) else (if 0 ≤ rnum s 127 then some [rnum s 127] else none))
  else if 0 ≤ rnum s 255 then some [rnum s 255] else none
theorem rnum_le (s : List UInt8) (m : Int) (h : 0 ≤ m) : -1 ≤ rnum s m ∧ rnum s m ≤ m := by
  unfold rnum
  split
  · rename_i n hn
    have := (nS_some hn).1
    split <;> omega
  · omega
theorem rnum_some {s : List UInt8} {m : Int} (h : 0 ≤ rnum s m) : nS s = some (rnum s m) := by
  unfold rnum at h ⊢
  cases hn : nS s with
  | none => rw [hn] at h; simp at h
  | some n =>
    rw [hn] at h
    simp only at h ⊢
    split at h
    · rename_i hle; rw [if_pos hle]
    · omega
theorem rnum_of {s : List UInt8} {n m : Int} (h : nS s = some n) (hm : n ≤ m) : rnum s m = n := by
  unfold rnum; rw [h]; simp only; rw [if_pos hm]
theorem rnum_neg {s : List UInt8} {m : Int} (h : nS s = none) : rnum s m = -1 := by
  unfold rnum; rw [h]
theorem rnum_gt {s : List UInt8} {n m : Int} (h : nS s = some n) (hm : ¬ n ≤ m) : rnum s m = -1 := by
  unfold rnum; rw [h]; simp only; rw [if_neg hm]
/-- What a field's number may be, as the document reads it. -/
def mayF (c : UInt8) (n : Int) : Bool := if c = 119 then decide (n < 256) else mayK c n
theorem nS_nil : nS [] = none := rfl
theorem hp_cons (a c : UInt8) (t : List UInt8) : Lib.hasPrefix (a :: t) [c] = (c == a) := by simp [Lib.hasPrefix, List.isPrefixOf]
theorem rfd_pk {c : UInt8} (hc : isK c = true) (s : List UInt8) : rfd c s = match pk c s with | some n => if mayF c n then some (byt c n) else none | none => none := by
  unfold isK at hc
  simp only [Bool.or_eq_true, beq_iff_eq] at hc
  have one : ∀ (m : Int) (c : UInt8), (∀ n, byt c n = [n]) → (∀ n, 0 ≤ n → mayF c n = decide (n ≤ m)) → (if 0 ≤ rnum s m then some [rnum s m] else none) = match nS s with | some n => if mayF c n then some (byt c n) else none | none => none := by
    intro m c hb hm
    cases hn : nS s with
    | none => rw [rnum_neg hn]; simp
    | some n =>
      have h0 := (nS_some hn).1
      by_cases hle : n ≤ m
      · rw [rnum_of hn hle, if_pos h0]; simp [hm n h0, hle, hb]
      · rw [rnum_gt hn hle]; simp [hm n h0, hle]
  rcases hc with (((rfl | rfl) | rfl) | rfl) | rfl
  · cases s with
    | nil => rfl
    | cons a t =>
      have e : pk 114 (a :: t) = if Lib.hasPrefix (a :: t) [114] = true then nS (Lib.trimPrefix (a :: t) [114]) else none := rfl
      rw [e]
      show (if a = 114 then (if 0 ≤ rnum t 7 then some [rnum t 7] else none) else none) = _
      by_cases ha : a = 114
      · subst ha
        rw [if_pos rfl, (pre_cons 114 t).1, (pre_cons 114 t).2, if_pos rfl]
        cases hn : nS t with
        | none => rw [rnum_neg hn]; simp
        | some n =>
          have h0 := (nS_some hn).1
          have hm : mayF 114 n = decide (n ≤ 7) := by
            unfold mayF mayK klo khi; simp; first | omega | (rw [Bool.eq_iff_iff]; simp; omega)
          have hb : byt 114 n = [n] := rfl
          by_cases hle : n ≤ 7
          · rw [rnum_of hn hle, if_pos h0]; simp [hm, hle, hb]
          · rw [rnum_gt hn hle]; simp [hm, hle]
      · rw [if_neg ha, hp_cons, if_neg (by simpa using fun h => ha h.symm)]
  · have e : pk 110 s = nS s := rfl
    rw [e]
    show (if 0 ≤ rnum s 65535 then some [rnum s 65535 / 256, rnum s 65535 % 256] else none) = _
    cases hn : nS s with
    | none => rw [rnum_neg hn]; simp
    | some n =>
      have h0 := (nS_some hn).1
      have hm : mayF 110 n = decide (n ≤ 65535) := by
        unfold mayF mayK klo khi; simp; first | omega | (rw [Bool.eq_iff_iff]; simp; omega)
      have hb : byt 110 n = [n / 256, n % 256] := rfl
      by_cases hle : n ≤ 65535
      · rw [rnum_of hn hle, if_pos h0]; simp [hm, hle, hb]
      · rw [rnum_gt hn hle]; simp [hm, hle]
  · exact one 255 98 (fun n => rfl) (fun n h0 => by unfold mayF mayK klo khi; simp; first | omega | (rw [Bool.eq_iff_iff]; simp; omega))
  · exact one 255 119 (fun n => rfl) (fun n h0 => by unfold mayF; simp; first | omega | (rw [Bool.eq_iff_iff]; simp; omega))
  · cases s with
    | nil => rfl
    | cons a t =>
      have e : pk 115 (a :: t) = pkS (nS (Lib.trimPrefix (a :: t) [45])) (Lib.hasPrefix (a :: t) [45]) := rfl
      rw [e]
      show (if a = 45 then (if 1 ≤ rnum t 128 then some [256 - rnum t 128] else none) else (if 0 ≤ rnum (a :: t) 127 then some [rnum (a :: t) 127] else none)) = _
      by_cases ha : a = 45
      · subst ha
        rw [if_pos rfl, (pre_cons 45 t).1, (pre_cons 45 t).2]
        cases hn : nS t with
        | none => rw [rnum_neg hn]; simp [pkS]
        | some n =>
          have h0 := (nS_some hn).1
          by_cases hle : n ≤ 128
          · rw [rnum_of hn hle]
            by_cases h1 : 1 ≤ n
            · have hm : mayF 115 (256 - n) = true := by unfold mayF mayK klo khi; simp; omega
              have hb : byt 115 (256 - n) = [256 - n] := rfl
              simp [pkS, h1, hle, hm, hb]
            · simp [pkS, h1]
          · rw [rnum_gt hn hle]
            have : ¬ (1 ≤ n ∧ n ≤ 128) := by omega
            simp [pkS, this]
      · have hp : Lib.hasPrefix (a :: t) [45] = false := by rw [hp_cons]; simpa using fun h => ha h.symm
        rw [if_neg ha, hp, pre_none hp]
        cases hn : nS (a :: t) with
        | none => rw [rnum_neg hn]; simp [pkS]
        | some n =>
          have h0 := (nS_some hn).1
          by_cases hle : n ≤ 127
          · have hm : mayF 115 n = true := by unfold mayF mayK klo khi; simp; omega
            have hb : byt 115 n = [n] := rfl
            have h2 : n < 128 := by omega
            rw [rnum_of hn hle, if_pos h0]
            simp [pkS, h2, hm, hb]
          · have h2 : ¬ n < 128 := by omega
            rw [rnum_gt hn hle]
            simp [pkS, h2]
end Go.Proofs.YtcfoljdpffonhaaGreatDoor
