/- InstrsNumbers: the law's text. -/
import Derived.Test.YtceienodijgllaaDoorJg
import Derived.Test.YtceienodijgllaaDoorJn
import Derived.Lib.ItoaNum
import Derived.Lib.ItoaLen
set_option linter.unusedVariables false
set_option linter.unusedSimpArgs false
namespace Go.Proofs.YtceienodijgllaaDoor
open Go.RowKit Go.Joins Go.Shelf
attribute [local go_sem] Oper.semAt_some

theorem nS_dec (n : Nat) (h : n < 4294967296) : nS (Lib.decDigits n) = some (n : Int) := by
  have := nS_itoa (n := (n : Int)) (by omega) (by omega)
  rwa [itoa_nat (by omega), Int.toNat_natCast] at this
theorem dec_sp (n : Nat) : (32 : UInt8) ∉ Lib.decDigits n := fun h => by have := dec_digits n 32 h; simp at this
theorem spl_dec (n : Nat) : spl (Lib.decDigits n) = [Lib.decDigits n] := spl_one _ (dec_sp n)
theorem dec_pre45 (n : Nat) : Lib.hasPrefix (Lib.decDigits n) [45] = false := dec_pre n
theorem i1d {n : Nat} (h : n < 10) : nS [UInt8.ofNat (48 + n)] = some (n : Int) := by
  have := nS_dec n (by omega)
  rwa [Lib.decDigits, dif_pos h] at this
theorem mayK_n (n : Nat) : mayK 110 n = decide (n < 65536) := by unfold mayK klo khi; simp; omega
theorem mayK_b (n : Nat) : mayK 98 n = decide (n < 256) := by unfold mayK klo khi; simp; omega
theorem mayK_s (n : Int) (h : 0 ≤ n) : mayK 115 n = decide (n < 256) := by unfold mayK klo khi; simp; omega
theorem pk_r1 {n : Nat} (h : n < 10) : pk 114 [114, UInt8.ofNat (48 + n)] = some (n : Int) := by
  show nS [UInt8.ofNat (48 + n)] = _
  exact i1d h
theorem prs_word' {s : List UInt8} {op : Nat} {ps : List (List UInt8)} (h22 : op ≤ 22) (hs : spl s = wl op :: ps) (hl : ps.length = (fl op).length) : prs s = (rd (fl op) ps).map (fun b => (op, b)) := by
  rw [prs_word h22 hs, if_pos hl]
theorem set_n (n : Nat) (h : n < 4294967296) : prs ([115, 101, 116, 32, 114, 51, 32] ++ Lib.decDigits n) = if n < 65536 then some (1, [3, (n : Int) / 256, (n : Int) % 256]) else none := by
  have hs : spl ([115, 101, 116, 32, 114, 51, 32] ++ Lib.decDigits n) = wl 1 :: [[114, 51], Lib.decDigits n] := by
    have : ([115, 101, 116, 32, 114, 51, 32] ++ Lib.decDigits n : List UInt8) = [115, 101, 116] ++ 32 :: ([114, 51] ++ 32 :: Lib.decDigits n) := rfl
    rw [this, spl_app, spl_app, spl_dec]; rfl
  rw [prs_word' (by omega) hs rfl]
  have e1 : pk 114 [114, 51] = some 3 := pk_r1 (n := 3) (by omega)
  have e2 : pk 110 (Lib.decDigits n) = some (n : Int) := nS_dec n h
  show (rd [114, 110] [[114, 51], Lib.decDigits n]).map _ = _
  simp only [rd, e1, e2, mayK_n]
  by_cases hn : n < 65536 <;> simp [hn, byt, kby, mayK, klo, khi]
theorem go_n (n : Nat) (h : n < 4294967296) : prs ([103, 111, 32] ++ Lib.decDigits n) = if n < 65536 then some (19, [(n : Int) / 256, (n : Int) % 256]) else none := by
  have hs : spl ([103, 111, 32] ++ Lib.decDigits n) = wl 19 :: [Lib.decDigits n] := by
    have : ([103, 111, 32] ++ Lib.decDigits n : List UInt8) = [103, 111] ++ 32 :: Lib.decDigits n := rfl
    rw [this, spl_app, spl_dec]; rfl
  rw [prs_word' (by omega) hs rfl]
  have e2 : pk 110 (Lib.decDigits n) = some (n : Int) := nS_dec n h
  show (rd [110] [Lib.decDigits n]).map _ = _
  simp only [rd, e2, mayK_n]
  by_cases hn : n < 65536 <;> simp [hn, byt, kby, mayK, klo, khi]
theorem put_n (n : Nat) (h : n < 4294967296) : prs ([112, 117, 116, 32, 114, 49, 32, 114, 50, 32] ++ Lib.decDigits n) = if n < 256 then some (14, [1, 2, (n : Int)]) else none := by
  have hs : spl ([112, 117, 116, 32, 114, 49, 32, 114, 50, 32] ++ Lib.decDigits n) = wl 14 :: [[114, 49], [114, 50], Lib.decDigits n] := by
    have : ([112, 117, 116, 32, 114, 49, 32, 114, 50, 32] ++ Lib.decDigits n : List UInt8) = [112, 117, 116] ++ 32 :: ([114, 49] ++ 32 :: ([114, 50] ++ 32 :: Lib.decDigits n)) := rfl
    rw [this, spl_app, spl_app, spl_app, spl_dec]; rfl
  rw [prs_word' (by omega) hs rfl]
  have e1 : pk 114 [114, 49] = some 1 := pk_r1 (n := 1) (by omega)
  have e3 : pk 114 [114, 50] = some 2 := pk_r1 (n := 2) (by omega)
  have e2 : pk 98 (Lib.decDigits n) = some (n : Int) := nS_dec n h
  show (rd [114, 114, 98] [[114, 49], [114, 50], Lib.decDigits n]).map _ = _
  simp only [rd, e1, e2, e3, mayK_b]
  by_cases hn : n < 256 <;> simp [hn, byt, kby, mayK, klo, khi]
theorem less_n (n : Nat) (h : n < 4294967296) : prs ([108, 101, 115, 115, 32, 114, 49, 32, 114, 50, 32] ++ Lib.decDigits n) = if n < 128 then some (17, [1, 2, (n : Int)]) else none := by
  have hs : spl ([108, 101, 115, 115, 32, 114, 49, 32, 114, 50, 32] ++ Lib.decDigits n) = wl 17 :: [[114, 49], [114, 50], Lib.decDigits n] := by
    have : ([108, 101, 115, 115, 32, 114, 49, 32, 114, 50, 32] ++ Lib.decDigits n : List UInt8) = [108, 101, 115, 115] ++ 32 :: ([114, 49] ++ 32 :: ([114, 50] ++ 32 :: Lib.decDigits n)) := rfl
    rw [this, spl_app, spl_app, spl_app, spl_dec]; rfl
  rw [prs_word' (by omega) hs rfl]
  have e1 : pk 114 [114, 49] = some 1 := pk_r1 (n := 1) (by omega)
  have e3 : pk 114 [114, 50] = some 2 := pk_r1 (n := 2) (by omega)
  have e2 : pk 115 (Lib.decDigits n) = if n < 128 then some (n : Int) else none := by
    show pkS (nS (Lib.trimPrefix (Lib.decDigits n) [45])) (Lib.hasPrefix (Lib.decDigits n) [45]) = _
    rw [dec_pre45, pre_none (dec_pre45 n), nS_dec n h]
    simp only [pkS, Option.bind_some, Bool.false_eq_true, if_false]
    by_cases hn : n < 128
    · rw [if_pos (by omega), if_pos hn]
    · rw [if_neg (by omega), if_neg hn]
  show (rd [114, 114, 115] [[114, 49], [114, 50], Lib.decDigits n]).map _ = _
  simp only [rd, e1, e2, e3]
  by_cases hn : n < 128
  · have : mayK 115 (n : Int) = true := by rw [mayK_s _ (by omega)]; simp; omega
    simp [hn, this, byt, kby, mayK, klo, khi]; omega
  · simp [hn, mayK, klo, khi]
theorem neg_n (n : Nat) (h : n < 4294967296) : prs ([108, 101, 115, 115, 32, 114, 49, 32, 114, 50, 32, 45] ++ Lib.decDigits n) = if 1 ≤ n ∧ n ≤ 128 then some (17, [1, 2, 256 - (n : Int)]) else none := by
  have hd : (32 : UInt8) ∉ (45 :: Lib.decDigits n) := by
    intro h; simp at h; exact dec_sp n h
  have hs : spl ([108, 101, 115, 115, 32, 114, 49, 32, 114, 50, 32, 45] ++ Lib.decDigits n) = wl 17 :: [[114, 49], [114, 50], 45 :: Lib.decDigits n] := by
    have : ([108, 101, 115, 115, 32, 114, 49, 32, 114, 50, 32, 45] ++ Lib.decDigits n : List UInt8) = [108, 101, 115, 115] ++ 32 :: ([114, 49] ++ 32 :: ([114, 50] ++ 32 :: (45 :: Lib.decDigits n))) := rfl
    rw [this, spl_app, spl_app, spl_app, spl_one _ hd]; rfl
  rw [prs_word' (by omega) hs rfl]
  have e1 : pk 114 [114, 49] = some 1 := pk_r1 (n := 1) (by omega)
  have e3 : pk 114 [114, 50] = some 2 := pk_r1 (n := 2) (by omega)
  have e2 : pk 115 (45 :: Lib.decDigits n) = if 1 ≤ n ∧ n ≤ 128 then some (256 - (n : Int)) else none := by
    show pkS (nS (Lib.trimPrefix (45 :: Lib.decDigits n) [45])) (Lib.hasPrefix (45 :: Lib.decDigits n) [45]) = _
    rw [(pre_cons 45 (Lib.decDigits n)).1, (pre_cons 45 (Lib.decDigits n)).2, nS_dec n h]
    show (if 1 ≤ (n : Int) ∧ (n : Int) ≤ 128 then some (256 - (n : Int)) else none) = _
    by_cases hn : 1 ≤ n ∧ n ≤ 128
    · rw [if_pos (by omega), if_pos hn]
    · rw [if_neg (by omega), if_neg hn]
  show (rd [114, 114, 115] [[114, 49], [114, 50], 45 :: Lib.decDigits n]).map _ = _
  simp only [rd, e1, e2, e3]
  by_cases hn : 1 ≤ n ∧ n ≤ 128
  · have : mayK 115 (256 - (n : Int)) = true := by rw [mayK_s _ (by omega)]; simp; omega
    simp [hn, this, byt, kby, mayK, klo, khi]; omega
  · simp [hn, mayK, klo, khi]
theorem dig_ext {r : Nat} (h : r < 10) : (⟨#[48, 49, 50, 51, 52, 53, 54, 55, 56, 57]⟩ : ByteArray).extract r (r + 1) = ⟨[UInt8.ofNat (48 + r)].toArray⟩ :=
  match r, h with
  | 0, _ => by rfl
  | 1, _ => by rfl
  | 2, _ => by rfl
  | 3, _ => by rfl
  | 4, _ => by rfl
  | 5, _ => by rfl
  | 6, _ => by rfl
  | 7, _ => by rfl
  | 8, _ => by rfl
  | 9, _ => by rfl
theorem cat_dig {r : Nat} (h : r < 10) (l : List UInt8) : (⟨#[48, 49, 50, 51, 52, 53, 54, 55, 56, 57]⟩ : ByteArray).extract r (r + 1) ++ ⟨l.toArray⟩ = ⟨(UInt8.ofNat (48 + r) :: l).toArray⟩ := by
  rw [dig_ext h, str_app2]; rfl
/-- Digits so far, and what is left of the number. -/
def DecAt (n m : Nat) (l : List UInt8) : Prop := (m = n ∧ l = []) ∨ (l ≠ [] ∧ ((m = 0 ∧ Lib.decDigits n = l) ∨ (0 < m ∧ Lib.decDigits n = Lib.decDigits m ++ l)))
theorem decAt_step {n m : Nat} {l : List UInt8} (h : DecAt n m l) (hm : 0 < m ∨ l = []) : DecAt n (m / 10) (UInt8.ofNat (48 + m % 10) :: l) := by
  have key : Lib.decDigits n = Lib.decDigits m ++ l := by
    rcases h with ⟨rfl, rfl⟩ | ⟨h1, ⟨rfl, h2⟩ | ⟨h2, h3⟩⟩
    · simp
    · rcases hm with hm | hm
      · omega
      · exact absurd hm h1
    · exact h3
  refine Or.inr ⟨by simp, ?_⟩
  rw [key]
  by_cases h10 : m < 10
  · refine Or.inl ⟨by omega, ?_⟩
    rw [Lib.decDigits, dif_pos h10, Nat.mod_eq_of_lt h10]; rfl
  · refine Or.inr ⟨by omega, ?_⟩
    rw [Lib.decDigits, dif_neg h10]
    simp
theorem decAt_end {n : Nat} {l : List UInt8} (h : DecAt n 0 l) (hl : l ≠ []) : l = Lib.decDigits n := by
  rcases h with ⟨_, h⟩ | ⟨_, ⟨_, h⟩ | ⟨h, _⟩⟩
  · exact absurd h hl
  · exact h.symm
  · omega
theorem decAt_len {n m : Nat} {l : List UInt8} (h : DecAt n m l) (hn : n < 4294967296) : l.length ≤ 20 := by
  have h1 : (Lib.decDigits n).length ≤ 20 := by rw [Lib.decDigits_length]; exact Lib.nDigits_le20 n (by omega)
  rcases h with ⟨_, rfl⟩ | ⟨_, ⟨_, h⟩ | ⟨_, h⟩⟩
  · simp
  · rw [← h]; exact h1
  · rw [h, List.length_append] at h1; omega
theorem pvv_agg (o : Option (Nat × List Int)) : ∃ u0 u1 u2 u3 : Int, pvv o = .agg #[.int .u8 u0, .int .u8 u1, .int .u8 u2, .int .u8 u3] := by
  cases o with
  | none => exact ⟨0, 0, 0, 0, rfl⟩
  | some ob => obtain ⟨o, bs⟩ := ob; exact ⟨_, _, _, _, rfl⟩
abbrev BI (b : Nat) (op : Nat) (x y z : Int) : Thing := Blk b (.cells #[.int .u8 op, .int .u8 x, .int .u8 y, .int .u8 z] 24 (0, 0))
theorem bi_cells {w0 w : World} {r : List Thing} {op x y z : Int} {k : Nat} (H : Hp w0 w (Blk k (.cells #[.int .u8 op, .int .u8 x, .int .u8 y, .int .u8 z] 24 (0, 0)) :: r)) :
    w.cell? ⟨k, 0, none⟩ = some (.int .u8 op) ∧ w.cell? ⟨k, 1, none⟩ = some (.int .u8 x) ∧ w.cell? ⟨k, 2, none⟩ = some (.int .u8 y) ∧ w.cell? ⟨k, 3, none⟩ = some (.int .u8 z) :=
  ⟨cell_blk (blk_get H) 0, cell_blk (blk_get H) 1, cell_blk (blk_get H) 2, cell_blk (blk_get H) 3⟩
def emp : Value → Nat
  | .string b => if b.size = 0 then 1 else 0
  | _ => 0
theorem emp_nil : emp (strv []) = 1 := rfl
theorem emp_cons (c : UInt8) (l : List UInt8) : emp (strv (c :: l)) = 0 := by
  show (if (⟨(c :: l).toArray⟩ : ByteArray).size = 0 then 1 else 0) = 0
  rw [if_neg]; simp [ByteArray.size]
set_option maxHeartbeats 8000000 in
set_option maxRecDepth 100000 in
theorem numbers_c (w : World) (L : Lf w) (n : Nat) (hn : n < 4294967296) :
    Calls Tryd.prog 6 #[.int .u32 n] w fun e w' => e = .returned (.bool true) ∧ Below w.heap.size w w' := by
  have H0 := Lib.hid (Hp.start w)
  have HAL : Hid (∀ (W : World) (r : List Thing), Hp w W r → Calls Tryd.prog 18 #[] W fun e w' => e = .returned (.bool true) ∧ Hp w w' r) := Lib.hid (fun W r h => alive_c L h)
  have HPA : Hid (∀ (W : World) (r : List Thing) (t : List UInt8), t.length < 4294967281 → Hp w W r → Calls Tryd.prog 16 #[strv t] W fun e w' => e = .returned (.tuple #[pvv (prs t), .int .i64 (if (prs t).isSome then 0 else 14)]) ∧ Hp w w' r) := Lib.hid (fun W r t ht h => parse_c L t ht h)
  have HN := Lib.hid hn
  clear L hn
  go_enter Tryd.func6, Tryd.ntmps6
  go_wp2
  go_loop [3, 4] (fun s3 s4 => ∃ (m : Nat) (l : List UInt8), s4 = .int .u32 m ∧ s3 = strv l ∧ m ≤ n ∧ Hid (DecAt n m l)) (fun s3 s4 => 2 * (intOf s4).toNat + emp s3)
  case atStart => exact ⟨n, [], rfl, rfl, Nat.le_refl _, Lib.hid (Or.inl ⟨rfl, rfl⟩)⟩
  case round =>
    obtain ⟨m, l, rfl, rfl, hmn, hD⟩ := hrel
    have hll := decAt_len hD.out HN.out
    by_cases h00 : m = 0 ∧ l = []
    · obtain ⟨rfl, rfl⟩ := h00
      have hst : Hid (DecAt n 0 [48]) := Lib.hid (decAt_step hD.out (Or.inr rfl))
      have kx : (⟨#[48, 49, 50, 51, 52, 53, 54, 55, 56, 57]⟩ : ByteArray).extract 0 1 ++ ⟨#[]⟩ = ⟨[48].toArray⟩ := by rfl
      have HMN := Lib.hid hmn
      clear hD hmn hll
      go_wp2
      go_round
      case rel => exact ⟨0, [48], by go_num, rfl, Nat.zero_le _, hst⟩
      case measure => rw [show emp (Value.string ⟨#[48]⟩) = 0 from rfl, emp_nil]; simp [intOf]
    by_cases h0 : 0 < m
    · have hgo : 0 < m ∨ l = [] := Or.inl h0
      have hst := Lib.hid (decAt_step hD.out hgo)
      obtain ⟨r, hr, hr10⟩ : ∃ r : Nat, r = m % 10 ∧ r < 10 := ⟨_, rfl, Nat.mod_lt _ (by omega)⟩
      obtain ⟨q, hq, hq2, hq3⟩ : ∃ q : Nat, q = m / 10 ∧ q ≤ m ∧ (0 < m → q < m) := ⟨_, rfl, by omega, by omega⟩
      rw [← hr, ← hq] at hst
      have hm32 : m < 4294967296 := by have := HN.out; omega
      have c1 : (m : Int).tmod 10 = r := by rw [show (10 : Int) = ((10 : Nat) : Int) by rfl, ← Int.ofNat_tmod, hr]
      have c1' : (m : Int) % 10 = r := by omega
      have c2 : (m : Int).tdiv 10 = q := by rw [show (10 : Int) = ((10 : Nat) : Int) by rfl, ← Int.ofNat_tdiv, hq]
      have c2' : (m : Int) / 10 = q := by omega
      have c3 : IntKind.u32.wrap (r : Int) = r := by rw [IntKind.wrap_u32]; omega
      have c4 : IntKind.u32.wrap ((r : Int) + 1) = (r : Int) + 1 := by rw [IntKind.wrap_u32]; omega
      have c5 : IntKind.u32.wrap (q : Int) = q := by rw [IntKind.wrap_u32]; omega
      have c6 : ¬ 9223372036854775807 < min (r + 1) 10 - r + l.length := by omega
      have HQ := Lib.hid hq2
      have HQ3 := Lib.hid hq3
      have HMN := Lib.hid hmn
      clear hq hr hq2 hq3 hm32 hD hmn h00
      have g0 : (0 : Int) < (m : Int) := by omega
      have HGO := Lib.hid h0
      clear hgo h0
      go_wp2
      go_round
      case rel => exact ⟨q, _, by go_num, by rw [cat_dig hr10], by have := HQ.out; have := HMN.out; omega, hst⟩
      case measure => have := HQ3.out HGO.out; rw [cat_dig hr10, emp_cons]; simp [intOf]; omega
    · obtain rfl : m = 0 := by omega
      have hne : l ≠ [] := fun h => h00 ⟨rfl, h⟩
      have hl := decAt_end hD.out hne
      have HLL := Lib.hid hll
      have n1 : (l == []) = false := by rw [beq_eq_false_iff_ne]; exact hne
      have n2 : ¬ l = [] := hne
      have n3 : l.isEmpty = false := by cases l; exact absurd rfl hne; rfl
      have V1 := Lib.hid (set_n n HN.out)
      have V2 := Lib.hid (go_n n HN.out)
      have V3 := Lib.hid (put_n n HN.out)
      have V4 := Lib.hid (less_n n HN.out)
      have V5 := Lib.hid (neg_n n HN.out)
      rw [← hl] at V1 V2 V3 V4 V5
      have l1 : ¬ 9223372036854775807 < 7 + l.length := by omega
      have l2 : ¬ 9223372036854775807 < 3 + l.length := by omega
      have l3 : ¬ 9223372036854775807 < 10 + l.length := by omega
      have l4 : ¬ 9223372036854775807 < 11 + l.length := by omega
      have l5 : ¬ 9223372036854775807 < 12 + l.length := by omega
      clear hl hne h00 h0 hD hll hmn
      have hr : (n = 0) ∨ (1 ≤ n ∧ n < 128) ∨ (n = 128) ∨ (128 < n ∧ n < 256) ∨ (256 ≤ n ∧ n < 65536) ∨ (65536 ≤ n) := by omega
      have hag : ∀ o : Option (Nat × List Int), ∃ u0 u1 u2 u3 e : Int, pvv o = .agg #[.int .u8 u0, .int .u8 u1, .int .u8 u2, .int .u8 u3] ∧ (if o.isSome = true then (0 : Int) else 14) = e := fun o => by
        obtain ⟨u0, u1, u2, u3, h⟩ := pvv_agg o
        exact ⟨u0, u1, u2, u3, _, h, rfl⟩
      have HAG := Lib.hid hag
      clear hag
      have HR := Lib.hid hr
      clear hr
      go_wp2_with fail
      rw [show (⟨#[115, 101, 116, 32, 114, 51, 32]⟩ : ByteArray) ++ ⟨l.toArray⟩ = ⟨([115, 101, 116, 32, 114, 51, 32] ++ l).toArray⟩ from str_app2 [115, 101, 116, 32, 114, 51, 32] l]
      have P := HPA.out _ _ ([115, 101, 116, 32, 114, 51, 32] ++ l) (by simp; have := HLL.out; omega) H0.out
      obtain ⟨u00, u01, u02, u03, e0, hu, he⟩ := HAG.out (prs ([115, 101, 116, 32, 114, 51, 32] ++ l))
      rw [hu, he] at P
      rw [V1.out] at hu he
      have HU0 := Lib.hid hu
      have HE0 := Lib.hid he
      clear hu he
      refine P.mono ?_; rintro e w1 ⟨rfl, HH⟩
      have G1 := Lib.hid (blk_new HH (.cells #[.int .u8 u00, .int .u8 u01, .int .u8 u02, .int .u8 u03] 24))
      clear P HH V1 H0
      go_wp2_with fail
      rw [show (⟨#[103, 111, 32]⟩ : ByteArray) ++ ⟨l.toArray⟩ = ⟨([103, 111, 32] ++ l).toArray⟩ from str_app2 [103, 111, 32] l]
      have P := HPA.out _ _ ([103, 111, 32] ++ l) (by simp; have := HLL.out; omega) G1.out
      obtain ⟨u10, u11, u12, u13, e1, hu, he⟩ := HAG.out (prs ([103, 111, 32] ++ l))
      rw [hu, he] at P
      rw [V2.out] at hu he
      have HU1 := Lib.hid hu
      have HE1 := Lib.hid he
      clear hu he
      refine P.mono ?_; rintro e w2 ⟨rfl, HH⟩
      have G2 := Lib.hid (blk_new HH (.cells #[.int .u8 u10, .int .u8 u11, .int .u8 u12, .int .u8 u13] 24))
      clear P HH V2 G1
      go_wp2_with fail
      rw [show (⟨#[112, 117, 116, 32, 114, 49, 32, 114, 50, 32]⟩ : ByteArray) ++ ⟨l.toArray⟩ = ⟨([112, 117, 116, 32, 114, 49, 32, 114, 50, 32] ++ l).toArray⟩ from str_app2 [112, 117, 116, 32, 114, 49, 32, 114, 50, 32] l]
      have P := HPA.out _ _ ([112, 117, 116, 32, 114, 49, 32, 114, 50, 32] ++ l) (by simp; have := HLL.out; omega) G2.out
      obtain ⟨u20, u21, u22, u23, e2, hu, he⟩ := HAG.out (prs ([112, 117, 116, 32, 114, 49, 32, 114, 50, 32] ++ l))
      rw [hu, he] at P
      rw [V3.out] at hu he
      have HU2 := Lib.hid hu
      have HE2 := Lib.hid he
      clear hu he
      refine P.mono ?_; rintro e w3 ⟨rfl, HH⟩
      have G3 := Lib.hid (blk_new HH (.cells #[.int .u8 u20, .int .u8 u21, .int .u8 u22, .int .u8 u23] 24))
      clear P HH V3 G2
      go_wp2_with fail
      rw [show (⟨#[108, 101, 115, 115, 32, 114, 49, 32, 114, 50, 32]⟩ : ByteArray) ++ ⟨l.toArray⟩ = ⟨([108, 101, 115, 115, 32, 114, 49, 32, 114, 50, 32] ++ l).toArray⟩ from str_app2 [108, 101, 115, 115, 32, 114, 49, 32, 114, 50, 32] l]
      have P := HPA.out _ _ ([108, 101, 115, 115, 32, 114, 49, 32, 114, 50, 32] ++ l) (by simp; have := HLL.out; omega) G3.out
      obtain ⟨u30, u31, u32, u33, e3, hu, he⟩ := HAG.out (prs ([108, 101, 115, 115, 32, 114, 49, 32, 114, 50, 32] ++ l))
      rw [hu, he] at P
      rw [V4.out] at hu he
      have HU3 := Lib.hid hu
      have HE3 := Lib.hid he
      clear hu he
      refine P.mono ?_; rintro e w4 ⟨rfl, HH⟩
      have G4 := Lib.hid (blk_new HH (.cells #[.int .u8 u30, .int .u8 u31, .int .u8 u32, .int .u8 u33] 24))
      clear P HH V4 G3
      go_wp2_with fail
      rw [show (⟨#[108, 101, 115, 115, 32, 114, 49, 32, 114, 50, 32, 45]⟩ : ByteArray) ++ ⟨l.toArray⟩ = ⟨([108, 101, 115, 115, 32, 114, 49, 32, 114, 50, 32, 45] ++ l).toArray⟩ from str_app2 [108, 101, 115, 115, 32, 114, 49, 32, 114, 50, 32, 45] l]
      have P := HPA.out _ _ ([108, 101, 115, 115, 32, 114, 49, 32, 114, 50, 32, 45] ++ l) (by simp; have := HLL.out; omega) G4.out
      obtain ⟨u40, u41, u42, u43, e4, hu, he⟩ := HAG.out (prs ([108, 101, 115, 115, 32, 114, 49, 32, 114, 50, 32, 45] ++ l))
      rw [hu, he] at P
      rw [V5.out] at hu he
      have HU4 := Lib.hid hu
      have HE4 := Lib.hid he
      clear hu he
      refine P.mono ?_; rintro e w5 ⟨rfl, HH⟩
      have G5 := Lib.hid (blk_new HH (.cells #[.int .u8 u40, .int .u8 u41, .int .u8 u42, .int .u8 u43] 24))
      clear P HH V5 G4
      clear l1 l2 l3 l4 l5 HPA HAG n1 n2 n3 HLL
      have hw8 : IntKind.u8.wrap (n : Int) = (n : Int) % 256 := by rw [IntKind.wrap_u8]
      have HW8 := Lib.hid hw8
      clear hw8
      rcases HR.out with rfl | ⟨h1, h2⟩ | rfl | ⟨h1, h2⟩ | ⟨h1, h2⟩ | h1
      · clear HR
        have hu0 := HU0.out
        have he0 := HE0.out
        rw [if_pos (show 0 < 65536 by omega)] at hu0 he0
        simp [pvv, rv] at hu0 he0
        obtain ⟨rfl, rfl, rfl, rfl⟩ := hu0
        subst he0
        have hu1 := HU1.out
        have he1 := HE1.out
        rw [if_pos (show 0 < 65536 by omega)] at hu1 he1
        simp [pvv, rv] at hu1 he1
        obtain ⟨rfl, rfl, rfl, rfl⟩ := hu1
        subst he1
        have hu2 := HU2.out
        have he2 := HE2.out
        rw [if_pos (show 0 < 256 by omega)] at hu2 he2
        simp [pvv, rv] at hu2 he2
        obtain ⟨rfl, rfl, rfl, rfl⟩ := hu2
        subst he2
        have hu3 := HU3.out
        have he3 := HE3.out
        rw [if_pos (show 0 < 128 by omega)] at hu3 he3
        simp [pvv, rv] at hu3 he3
        obtain ⟨rfl, rfl, rfl, rfl⟩ := hu3
        subst he3
        have hu4 := HU4.out
        have he4 := HE4.out
        rw [if_neg (show ¬ (1 ≤ 0 ∧ 0 ≤ 128) by omega)] at hu4 he4
        simp [pvv, rv] at hu4 he4
        obtain ⟨rfl, rfl, rfl, rfl⟩ := hu4
        subst he4
        clear HU0 HU1 HU2 HU3 HU4 HE0 HE1 HE2 HE3 HE4
        go_wp2_with fail
        refine (HAL.out _ _ G5.out).mono ?_; rintro e w6 ⟨rfl, HH⟩
        have G6 := Lib.hid HH
        clear HH G5 HAL
        obtain ⟨z0, z1, z2, z3⟩ := bi_cells G6.out
        obtain ⟨y0, y1, y2, y3⟩ := bi_cells (G6.out.pull 1 rfl)
        obtain ⟨x0, x1, x2, x3⟩ := bi_cells (G6.out.pull 2 rfl)
        obtain ⟨v0, v1, v2, v3⟩ := bi_cells (G6.out.pull 3 rfl)
        obtain ⟨t0, t1, t2, t3⟩ := bi_cells (G6.out.pull 4 rfl)
        try clear k0 k1 k2 k3 k4
        clear HN
        go_wp2
        go_ret
        exact ⟨by first | rfl | simp, G6.out.below⟩
      · clear HR
        have hu0 := HU0.out
        have he0 := HE0.out
        rw [if_pos (show n < 65536 by omega)] at hu0 he0
        simp [pvv, rv] at hu0 he0
        obtain ⟨rfl, rfl, rfl, rfl⟩ := hu0
        subst he0
        have hu1 := HU1.out
        have he1 := HE1.out
        rw [if_pos (show n < 65536 by omega)] at hu1 he1
        simp [pvv, rv] at hu1 he1
        obtain ⟨rfl, rfl, rfl, rfl⟩ := hu1
        subst he1
        have hu2 := HU2.out
        have he2 := HE2.out
        rw [if_pos (show n < 256 by omega)] at hu2 he2
        simp [pvv, rv] at hu2 he2
        obtain ⟨rfl, rfl, rfl, rfl⟩ := hu2
        subst he2
        have hu3 := HU3.out
        have he3 := HE3.out
        rw [if_pos (show n < 128 by omega)] at hu3 he3
        simp [pvv, rv] at hu3 he3
        obtain ⟨rfl, rfl, rfl, rfl⟩ := hu3
        subst he3
        have hu4 := HU4.out
        have he4 := HE4.out
        rw [if_pos (show 1 ≤ n ∧ n ≤ 128 by omega)] at hu4 he4
        simp [pvv, rv] at hu4 he4
        obtain ⟨rfl, rfl, rfl, rfl⟩ := hu4
        subst he4
        clear HU0 HU1 HU2 HU3 HU4 HE0 HE1 HE2 HE3 HE4
        have k0 : decide ((n : Int) < 65536) = true := by simp; omega
        have k1 : decide ((n : Int) < 256) = true := by simp; omega
        have k2 : decide ((n : Int) < 128) = true := by simp; omega
        have k3 : decide ((1 : Int) ≤ (n : Int)) = true := by simp; omega
        have k4 : decide ((n : Int) ≤ 128) = true := by simp; omega
        clear h1 h2
        have b0 : 0 ≤ (n : Int) := by omega
        have b1 : (n : Int) < 256 := by simp at k1; omega
        have m1 : (n : Int) % 256 = n := by omega
        have m2 : (n : Int) / 256 = 0 := by omega
        have m3 : IntKind.u8.wrap (-(n : Int)) = 256 - n := by rw [IntKind.wrap_u8]; simp at k3; omega
        have BB := Lib.hid b0
        clear b0
        have B1 := Lib.hid b1
        have M1 := Lib.hid m1
        have M2 := Lib.hid m2
        have M3 := Lib.hid m3
        clear b1 m1 m2 m3
        go_wp2_with fail
        refine (HAL.out _ _ G5.out).mono ?_; rintro e w6 ⟨rfl, HH⟩
        have G6 := Lib.hid HH
        clear HH G5 HAL
        obtain ⟨z0, z1, z2, z3⟩ := bi_cells G6.out
        obtain ⟨y0, y1, y2, y3⟩ := bi_cells (G6.out.pull 1 rfl)
        obtain ⟨x0, x1, x2, x3⟩ := bi_cells (G6.out.pull 2 rfl)
        obtain ⟨v0, v1, v2, v3⟩ := bi_cells (G6.out.pull 3 rfl)
        obtain ⟨t0, t1, t2, t3⟩ := bi_cells (G6.out.pull 4 rfl)
        try clear k0 k1 k2 k3 k4
        clear HN
        have b0 := BB.out
        clear BB
        have b1 := B1.out
        have m1 := M1.out
        have m2 := M2.out
        have m3 := M3.out
        clear B1 M1 M2 M3
        go_wp2
        go_ret
        exact ⟨by first | rfl | simp, G6.out.below⟩
      · clear HR
        have hu0 := HU0.out
        have he0 := HE0.out
        rw [if_pos (show 128 < 65536 by omega)] at hu0 he0
        simp [pvv, rv] at hu0 he0
        obtain ⟨rfl, rfl, rfl, rfl⟩ := hu0
        subst he0
        have hu1 := HU1.out
        have he1 := HE1.out
        rw [if_pos (show 128 < 65536 by omega)] at hu1 he1
        simp [pvv, rv] at hu1 he1
        obtain ⟨rfl, rfl, rfl, rfl⟩ := hu1
        subst he1
        have hu2 := HU2.out
        have he2 := HE2.out
        rw [if_pos (show 128 < 256 by omega)] at hu2 he2
        simp [pvv, rv] at hu2 he2
        obtain ⟨rfl, rfl, rfl, rfl⟩ := hu2
        subst he2
        have hu3 := HU3.out
        have he3 := HE3.out
        rw [if_neg (show ¬ (128 < 128) by omega)] at hu3 he3
        simp [pvv, rv] at hu3 he3
        obtain ⟨rfl, rfl, rfl, rfl⟩ := hu3
        subst he3
        have hu4 := HU4.out
        have he4 := HE4.out
        rw [if_pos (show 1 ≤ 128 ∧ 128 ≤ 128 by omega)] at hu4 he4
        simp [pvv, rv] at hu4 he4
        obtain ⟨rfl, rfl, rfl, rfl⟩ := hu4
        subst he4
        clear HU0 HU1 HU2 HU3 HU4 HE0 HE1 HE2 HE3 HE4
        go_wp2_with fail
        refine (HAL.out _ _ G5.out).mono ?_; rintro e w6 ⟨rfl, HH⟩
        have G6 := Lib.hid HH
        clear HH G5 HAL
        obtain ⟨z0, z1, z2, z3⟩ := bi_cells G6.out
        obtain ⟨y0, y1, y2, y3⟩ := bi_cells (G6.out.pull 1 rfl)
        obtain ⟨x0, x1, x2, x3⟩ := bi_cells (G6.out.pull 2 rfl)
        obtain ⟨v0, v1, v2, v3⟩ := bi_cells (G6.out.pull 3 rfl)
        obtain ⟨t0, t1, t2, t3⟩ := bi_cells (G6.out.pull 4 rfl)
        try clear k0 k1 k2 k3 k4
        clear HN
        go_wp2
        go_ret
        exact ⟨by first | rfl | simp, G6.out.below⟩
      · clear HR
        have hu0 := HU0.out
        have he0 := HE0.out
        rw [if_pos (show n < 65536 by omega)] at hu0 he0
        simp [pvv, rv] at hu0 he0
        obtain ⟨rfl, rfl, rfl, rfl⟩ := hu0
        subst he0
        have hu1 := HU1.out
        have he1 := HE1.out
        rw [if_pos (show n < 65536 by omega)] at hu1 he1
        simp [pvv, rv] at hu1 he1
        obtain ⟨rfl, rfl, rfl, rfl⟩ := hu1
        subst he1
        have hu2 := HU2.out
        have he2 := HE2.out
        rw [if_pos (show n < 256 by omega)] at hu2 he2
        simp [pvv, rv] at hu2 he2
        obtain ⟨rfl, rfl, rfl, rfl⟩ := hu2
        subst he2
        have hu3 := HU3.out
        have he3 := HE3.out
        rw [if_neg (show ¬ (n < 128) by omega)] at hu3 he3
        simp [pvv, rv] at hu3 he3
        obtain ⟨rfl, rfl, rfl, rfl⟩ := hu3
        subst he3
        have hu4 := HU4.out
        have he4 := HE4.out
        rw [if_neg (show ¬ (1 ≤ n ∧ n ≤ 128) by omega)] at hu4 he4
        simp [pvv, rv] at hu4 he4
        obtain ⟨rfl, rfl, rfl, rfl⟩ := hu4
        subst he4
        clear HU0 HU1 HU2 HU3 HU4 HE0 HE1 HE2 HE3 HE4
        have k0 : decide ((n : Int) < 65536) = true := by simp; omega
        have k1 : decide ((n : Int) < 256) = true := by simp; omega
        have k2 : decide ((n : Int) < 128) = false := by simp; omega
        have k3 : decide ((1 : Int) ≤ (n : Int)) = true := by simp; omega
        have k4 : decide ((n : Int) ≤ 128) = false := by simp; omega
        clear h1 h2
        have b0 : 0 ≤ (n : Int) := by omega
        have b1 : (n : Int) < 256 := by simp at k1; omega
        have m1 : (n : Int) % 256 = n := by omega
        have m2 : (n : Int) / 256 = 0 := by omega
        have m3 : IntKind.u8.wrap (-(n : Int)) = 256 - n := by rw [IntKind.wrap_u8]; simp at k3; omega
        have BB := Lib.hid b0
        clear b0
        have B1 := Lib.hid b1
        have M1 := Lib.hid m1
        have M2 := Lib.hid m2
        have M3 := Lib.hid m3
        clear b1 m1 m2 m3
        go_wp2_with fail
        refine (HAL.out _ _ G5.out).mono ?_; rintro e w6 ⟨rfl, HH⟩
        have G6 := Lib.hid HH
        clear HH G5 HAL
        obtain ⟨z0, z1, z2, z3⟩ := bi_cells G6.out
        obtain ⟨y0, y1, y2, y3⟩ := bi_cells (G6.out.pull 1 rfl)
        obtain ⟨x0, x1, x2, x3⟩ := bi_cells (G6.out.pull 2 rfl)
        obtain ⟨v0, v1, v2, v3⟩ := bi_cells (G6.out.pull 3 rfl)
        obtain ⟨t0, t1, t2, t3⟩ := bi_cells (G6.out.pull 4 rfl)
        try clear k0 k1 k2 k3 k4
        clear HN
        have b0 := BB.out
        clear BB
        have b1 := B1.out
        have m1 := M1.out
        have m2 := M2.out
        have m3 := M3.out
        clear B1 M1 M2 M3
        go_wp2
        go_ret
        exact ⟨by first | rfl | simp, G6.out.below⟩
      · clear HR
        have hu0 := HU0.out
        have he0 := HE0.out
        rw [if_pos (show n < 65536 by omega)] at hu0 he0
        simp [pvv, rv] at hu0 he0
        obtain ⟨rfl, rfl, rfl, rfl⟩ := hu0
        subst he0
        have hu1 := HU1.out
        have he1 := HE1.out
        rw [if_pos (show n < 65536 by omega)] at hu1 he1
        simp [pvv, rv] at hu1 he1
        obtain ⟨rfl, rfl, rfl, rfl⟩ := hu1
        subst he1
        have hu2 := HU2.out
        have he2 := HE2.out
        rw [if_neg (show ¬ (n < 256) by omega)] at hu2 he2
        simp [pvv, rv] at hu2 he2
        obtain ⟨rfl, rfl, rfl, rfl⟩ := hu2
        subst he2
        have hu3 := HU3.out
        have he3 := HE3.out
        rw [if_neg (show ¬ (n < 128) by omega)] at hu3 he3
        simp [pvv, rv] at hu3 he3
        obtain ⟨rfl, rfl, rfl, rfl⟩ := hu3
        subst he3
        have hu4 := HU4.out
        have he4 := HE4.out
        rw [if_neg (show ¬ (1 ≤ n ∧ n ≤ 128) by omega)] at hu4 he4
        simp [pvv, rv] at hu4 he4
        obtain ⟨rfl, rfl, rfl, rfl⟩ := hu4
        subst he4
        clear HU0 HU1 HU2 HU3 HU4 HE0 HE1 HE2 HE3 HE4
        have k0 : decide ((n : Int) < 65536) = true := by simp; omega
        have k1 : decide ((n : Int) < 256) = false := by simp; omega
        have k2 : decide ((n : Int) < 128) = false := by simp; omega
        have k3 : decide ((1 : Int) ≤ (n : Int)) = true := by simp; omega
        have k4 : decide ((n : Int) ≤ 128) = false := by simp; omega
        clear h1 h2
        have b0 : 0 ≤ (n : Int) := by omega
        have b1 : (n : Int) < 65536 := by simp at k0; omega
        have BB := Lib.hid b0
        clear b0
        have B1 := Lib.hid b1
        clear b1
        go_wp2_with fail
        refine (HAL.out _ _ G5.out).mono ?_; rintro e w6 ⟨rfl, HH⟩
        have G6 := Lib.hid HH
        clear HH G5 HAL
        obtain ⟨z0, z1, z2, z3⟩ := bi_cells G6.out
        obtain ⟨y0, y1, y2, y3⟩ := bi_cells (G6.out.pull 1 rfl)
        obtain ⟨x0, x1, x2, x3⟩ := bi_cells (G6.out.pull 2 rfl)
        obtain ⟨v0, v1, v2, v3⟩ := bi_cells (G6.out.pull 3 rfl)
        obtain ⟨t0, t1, t2, t3⟩ := bi_cells (G6.out.pull 4 rfl)
        try clear k0 k1 k2 k3 k4
        clear HN
        have b0 := BB.out
        clear BB
        have b1 := B1.out
        clear B1
        go_wp2
        go_ret
        exact ⟨by first | rfl | simp, G6.out.below⟩
      · clear HR
        have hu0 := HU0.out
        have he0 := HE0.out
        rw [if_neg (show ¬ (n < 65536) by omega)] at hu0 he0
        simp [pvv, rv] at hu0 he0
        obtain ⟨rfl, rfl, rfl, rfl⟩ := hu0
        subst he0
        have hu1 := HU1.out
        have he1 := HE1.out
        rw [if_neg (show ¬ (n < 65536) by omega)] at hu1 he1
        simp [pvv, rv] at hu1 he1
        obtain ⟨rfl, rfl, rfl, rfl⟩ := hu1
        subst he1
        have hu2 := HU2.out
        have he2 := HE2.out
        rw [if_neg (show ¬ (n < 256) by omega)] at hu2 he2
        simp [pvv, rv] at hu2 he2
        obtain ⟨rfl, rfl, rfl, rfl⟩ := hu2
        subst he2
        have hu3 := HU3.out
        have he3 := HE3.out
        rw [if_neg (show ¬ (n < 128) by omega)] at hu3 he3
        simp [pvv, rv] at hu3 he3
        obtain ⟨rfl, rfl, rfl, rfl⟩ := hu3
        subst he3
        have hu4 := HU4.out
        have he4 := HE4.out
        rw [if_neg (show ¬ (1 ≤ n ∧ n ≤ 128) by omega)] at hu4 he4
        simp [pvv, rv] at hu4 he4
        obtain ⟨rfl, rfl, rfl, rfl⟩ := hu4
        subst he4
        clear HU0 HU1 HU2 HU3 HU4 HE0 HE1 HE2 HE3 HE4
        have k0 : decide ((n : Int) < 65536) = false := by simp; omega
        have k1 : decide ((n : Int) < 256) = false := by simp; omega
        have k2 : decide ((n : Int) < 128) = false := by simp; omega
        have k3 : decide ((1 : Int) ≤ (n : Int)) = true := by simp; omega
        have k4 : decide ((n : Int) ≤ 128) = false := by simp; omega
        clear h1
        have b0 : 0 ≤ (n : Int) := by omega
        have BB := Lib.hid b0
        clear b0
        go_wp2_with fail
        refine (HAL.out _ _ G5.out).mono ?_; rintro e w6 ⟨rfl, HH⟩
        have G6 := Lib.hid HH
        clear HH G5 HAL
        obtain ⟨z0, z1, z2, z3⟩ := bi_cells G6.out
        obtain ⟨y0, y1, y2, y3⟩ := bi_cells (G6.out.pull 1 rfl)
        obtain ⟨x0, x1, x2, x3⟩ := bi_cells (G6.out.pull 2 rfl)
        obtain ⟨v0, v1, v2, v3⟩ := bi_cells (G6.out.pull 3 rfl)
        obtain ⟨t0, t1, t2, t3⟩ := bi_cells (G6.out.pull 4 rfl)
        try clear k0 k1 k2 k3 k4
        clear HN
        have b0 := BB.out
        clear BB
        go_wp2
        go_ret
        exact ⟨by first | rfl | simp, G6.out.below⟩
end Go.Proofs.YtceienodijgllaaDoor
