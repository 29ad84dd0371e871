/- Images: what lines of an image are read as; lines that are none: plain. -/
import Derived.Test.YtcfoljdpffonhaaGreatDoorMc
import Derived.Test.YtcfoljdpffonhaaGreatDoorJm
set_option linter.unusedVariables false
set_option linter.unusedSimpArgs false
namespace Go.Proofs.YtcfoljdpffonhaaGreatDoor
open Go.RowKit Go.Joins Go.Shelf

theorem cut_word {w r : List UInt8} (h : (32 : UInt8) ∉ w) : Lib.cut (w ++ 32 :: r) [32] = (w, r, true) := by
  have hi : Lib.index (w ++ 32 :: r) [32] = (w.length : Int) := by
    rcases index_one (w ++ 32 :: r) with ⟨_, hn⟩ | ⟨w', r', e, h', hi⟩
    · exact absurd (by simp) hn
    · have e1 := spl_word w r h
      rw [e, spl_word w' r' h'] at e1
      injection e1 with e1 _
      rw [hi, e1]
  unfold Lib.cut
  rw [hi, if_pos (by omega)]
  simp
theorem cut_none {s : List UInt8} (h : (32 : UInt8) ∉ s) : Lib.cut s [32] = (s, [], false) := by
  have hi : Lib.index s [32] = -1 := by
    rcases index_one s with ⟨h1, _⟩ | ⟨w', r', e, h', hi⟩
    · exact h1
    · exact absurd (by rw [e]; simp) h
  unfold Lib.cut
  rw [hi, if_neg (by omega)]
theorem cut_fst (s : List UInt8) : ∃ t, spl s = (Lib.cut s [32]).1 :: t := by
  rcases index_one s with ⟨_, h⟩ | ⟨w, r, e, h, _⟩
  · rw [cut_none h, spl_one s h]; exact ⟨_, rfl⟩
  · rw [e, cut_word h, spl_word w r h]; exact ⟨_, rfl⟩
theorem dec_no (n : Nat) (x : UInt8) (h : x.toNat < 48) : x ∉ Lib.decDigits n := fun hx => by have := dec_digits n x hx; omega
theorem itoa_ten (n : Int) : (10 : UInt8) ∉ Lib.itoa n := by
  unfold Lib.itoa
  have h := fun u (h : (10 : UInt8) ∈ Lib.decDigits u) => dec_digits u 10 h
  split
  · intro hc
    simp at hc
    have := h _ hc; simp at this
  · intro hc
    have := h _ hc; simp at this
theorem tx_ten (c : UInt8) (n : Int) : (10 : UInt8) ∉ tx c n := by
  unfold tx
  split
  · simp; exact itoa_ten n
  · split <;> exact itoa_ten _
theorem txs_ten : ∀ (cs : List UInt8) (l : List Int), ∀ p ∈ txs cs l, (10 : UInt8) ∉ p
  | c :: cs, n :: ns, p, h => by
    rw [txs, List.mem_cons] at h
    rcases h with rfl | h
    · exact tx_ten c n
    · exact txs_ten cs ns p h
  | [], _, p, h => by simp [txs] at h
  | _ :: _, [], p, h => by simp [txs] at h
theorem wl_ten (o : Nat) (h : o ≤ 22) : (10 : UInt8) ∉ wl o := by
  have key : ∀ n : Nat, n ≤ 22 → (10 : UInt8) ∉ wl n := by decide
  exact key o h
theorem wl_head (o : Nat) (h : o ≤ 22) : ∃ x r, wl o = x :: r ∧ (x == 35) = false := by
  have key : ∀ n : Nat, n ≤ 22 → ((wl n).headD 35 == 35) = false := by decide
  have h1 := wl_ne o h
  have h2 := key o h
  cases he : wl o with
  | nil => exact absurd he h1
  | cons x r => rw [he] at h2; exact ⟨x, r, rfl, h2⟩
theorem wl_first (o : Nat) (h : o ≤ 22) : wl o ≠ [115, 105, 122, 101] ∧ wl o ≠ [100, 97, 116, 97] := by
  have key : ∀ n : Nat, n ≤ 22 → wl n ≠ [115, 105, 122, 101] ∧ wl n ≠ [100, 97, 116, 97] := by decide
  exact key o h

/-- A line that is read so. -/
structure LineOk (t : Rs) (l : List UInt8) (t' : Rs) : Prop where
  skip : skip l = false
  line : lineP t l = (t', true)
  ten : (10 : UInt8) ∉ l
theorem size_ok (t : Rs) (n : Nat) (hn : n ≤ 4096) (hz : t.z = false) : LineOk t (siz n) { t with n := n, z := true } := by
  have e : siz n = [115, 105, 122, 101] ++ 32 :: Lib.decDigits n := rfl
  obtain ⟨h1, h2⟩ := num_of (n := n) (s := Lib.decDigits n) (itoa_lit n) (by omega)
  refine ⟨rfl, ?_, ?_⟩
  · rw [e, line_size (re := Lib.decDigits n) (cut_word (by decide)), h1]
    unfold szok
    rw [h1, h2, hz]
    have : decide ((n : Int) ≤ 2147483647) = true := by simp; omega
    rw [this]; rfl
  · rw [e]
    intro h
    rcases List.mem_append.1 h with h | h
    · revert h; decide
    · rcases List.mem_cons.1 h with h | h
      · revert h; decide
      · exact dec_no n 10 (by decide) h
theorem hexd_in : ∀ r, r < 16 → hexd.contains (hexd.getD r 0) = true ∧ hexd.getD r 0 ≠ 10 := by decide
theorem hb_hex : ∀ a, a < 16 → ∀ b, b < 16 → hb (hexd.getD a 0) (hexd.getD b 0) = UInt8.ofNat (a * 16 + b) := by decide
theorem hxs_ok (x : UInt8) : hxs x = [hexd.getD (x.toNat / 16) 0, hexd.getD (x.toNat % 16) 0] ∧ x.toNat / 16 < 16 ∧ x.toNat % 16 < 16 := by
  have := x.toNat_lt
  exact ⟨rfl, by omega, by omega⟩
theorem hbs_hxl : ∀ l : List UInt8, hbs (hxl l) = l
  | [] => rfl
  | x :: l => by
    obtain ⟨e, h1, h2⟩ := hxs_ok x
    have : hxl (x :: l) = hexd.getD (x.toNat / 16) 0 :: hexd.getD (x.toNat % 16) 0 :: hxl l := by show hxs x ++ hxl l = _; rw [e]; rfl
    rw [this, hbs, hbs_hxl l, hb_hex _ h1 _ h2]
    congr 1
    have h3 : x.toNat / 16 * 16 + x.toNat % 16 = x.toNat := by omega
    rw [h3]; simp
theorem hxl_all (l : List UInt8) : (hxl l).all (hexd.contains ·) = true ∧ (10 : UInt8) ∉ hxl l := by
  have key : ∀ y ∈ hxl l, hexd.contains y = true ∧ y ≠ 10 := by
    intro y hy
    unfold hxl at hy
    obtain ⟨x, hx, hy⟩ := List.mem_flatMap.1 hy
    obtain ⟨e, h1, h2⟩ := hxs_ok x
    rw [e] at hy
    simp only [List.mem_cons, List.not_mem_nil, or_false] at hy
    rcases hy with rfl | rfl
    · exact hexd_in _ h1
    · exact hexd_in _ h2
  exact ⟨List.all_eq_true.2 (fun y hy => (key y hy).1), fun h => (key 10 h).2 rfl⟩
theorem data_ok (t : Rs) (x : List UInt8) (hx : x ≠ []) : LineOk t ([100, 97, 116, 97, 32] ++ hxl x) { t with d := t.d ++ x } := by
  have e : ([100, 97, 116, 97, 32] ++ hxl x : List UInt8) = [100, 97, 116, 97] ++ 32 :: hxl x := rfl
  obtain ⟨h1, h2⟩ := hxl_all x
  have hk : dok (hxl x) = true := by
    unfold dok
    rw [h1, hxl_len]
    have : (hxl x).isEmpty = false := by
      cases x with
      | nil => exact absurd rfl hx
      | cons y l => rfl
    rw [this]
    simp
  refine ⟨rfl, ?_, ?_⟩
  · rw [e, line_data (re := hxl x) (cut_word (by decide)) hk, hbs_hxl]
  · rw [e]
    intro h
    rcases List.mem_append.1 h with h | h
    · revert h; decide
    · rcases List.mem_cons.1 h with h | h
      · revert h; decide
      · exact h2 h
theorem code_ok (t : Rs) (x : I4) (hx : ik x = true) : LineOk t (til x) { t with c := t.c ++ [x] } := by
  have hb := by4 x
  obtain ⟨h22, l, _, ht, hs, _⟩ := txo_spl hb hx
  have hi := inst_txo hb hx
  obtain ⟨y, r, hw, hy⟩ := wl_head _ h22
  have e : til x = wl x.1.toNat ++ (txs (fl x.1.toNat) l).flatMap (32 :: ·) := ht
  refine ⟨?_, ?_, ?_⟩
  · unfold skip
    rw [e, hw]
    exact hy
  · obtain ⟨t', h1⟩ := cut_fst (til x)
    have h2 : spl (til x) = wl x.1.toNat :: txs (fl x.1.toNat) l := hs
    rw [h2] at h1
    injection h1 with h1 _
    have h3 := wl_first _ h22
    rw [h1] at h3
    refine line_inst h3.1 h3.2 ?_
    rw [show inst (til x) = _ from hi]
    simp
  · rw [e]
    intro h
    rw [List.mem_append, List.mem_flatMap] at h
    rcases h with h | ⟨p, hp, h⟩
    · exact wl_ten _ h22 h
    · rw [List.mem_cons] at h
      rcases h with h | h
      · revert h; decide
      · exact txs_ten _ _ p hp h

/-! ### Many lines. -/
inductive Runs : Rs → List (List UInt8) → Rs → Prop
  | nil (t : Rs) : Runs t [] t
  | cons {t t1 t2 : Rs} {l : List UInt8} {ls : List (List UInt8)} : LineOk t l t1 → Runs t1 ls t2 → Runs t (l :: ls) t2
theorem Runs.app {t t1 t2 : Rs} {a b : List (List UInt8)} (h : Runs t a t1) (h' : Runs t1 b t2) : Runs t (a ++ b) t2 := by
  induction h with
  | nil => exact h'
  | cons hl _ ih => exact .cons hl (ih h')
theorem Runs.one {t t1 : Rs} {l : List UInt8} (h : LineOk t l t1) : Runs t [l] t1 := .cons h (.nil _)
theorem Runs.take {t t1 : Rs} {ls : List (List UInt8)} (h : Runs t ls t1) : ∀ k, ∃ t2, Runs t (ls.take k) t2 := by
  induction h with
  | nil => intro k; exact ⟨_, by simpa using Runs.nil _⟩
  | cons hl _ ih =>
    intro k
    cases k with
    | zero => exact ⟨_, by simpa using Runs.nil _⟩
    | succ k => obtain ⟨t2, h2⟩ := ih k; exact ⟨t2, by rw [List.take_succ_cons]; exact .cons hl h2⟩
theorem Runs.ten {t t1 : Rs} {ls : List (List UInt8)} (h : Runs t ls t1) : ∀ l ∈ ls, (10 : UInt8) ∉ l := by
  induction h with
  | nil => intro l hl; simp at hl
  | cons hl _ ih =>
    intro l h
    rw [List.mem_cons] at h
    rcases h with rfl | h
    · exact hl.ten
    · exact ih l h
theorem Runs.parse {t t1 : Rs} {ls : List (List UInt8)} (h : Runs t ls t1) : ∀ (rest : List (List UInt8)) (i : Nat), parseL t (ls ++ rest) i = parseL t1 rest (i + ls.length) := by
  induction h with
  | nil => intro rest i; rfl
  | cons hl _ ih =>
    intro rest i
    rw [List.cons_append, pl_line hl.skip hl.line, ih rest (i + 1), List.length_cons]
    congr 1
    omega
theorem data_runs (n : Int) (z : Bool) (m : Nat) (d d0 : List UInt8) : ∀ q : Nat, (∀ j, j < q → j * m < d.length) → 1 ≤ m → Runs ⟨n, d0, [], z⟩ ((List.range q).map (datl m d)) ⟨n, d0 ++ d.take (q * m), [], z⟩
  | 0, _, _ => by simpa using Runs.nil _
  | q + 1, h, hm => by
    have ih := data_runs n z m d d0 q (fun j hj => h j (by omega)) hm
    rw [List.range_succ, List.map_append]
    refine ih.app (Runs.one ?_)
    have hq := h q (by omega)
    have hne : (d.drop (q * m)).take m ≠ [] := by
      intro he
      have := congrArg List.length he
      rw [List.length_take, List.length_drop, List.length_nil] at this
      omega
    have := data_ok ⟨n, d0 ++ d.take (q * m), [], z⟩ _ hne
    rw [show (q + 1) * m = q * m + m from Nat.succ_mul _ _, List.take_add, ← List.append_assoc]
    exact this
theorem code_runs (n : Int) (z : Bool) (d : List UInt8) : ∀ (c c0 : List I4), c.all ik = true → Runs ⟨n, d, c0, z⟩ (c.map til) ⟨n, d, c0 ++ c, z⟩
  | [], c0, _ => by simpa using Runs.nil _
  | x :: c, c0, h => by
    rw [List.all_cons, Bool.and_eq_true] at h
    have ih := code_runs n z d c (c0 ++ [x]) h.2
    rw [List.map_cons]
    refine .cons (code_ok _ x h.1) ?_
    simpa using ih
theorem parts_lt {n m : Nat} (hm : 1 ≤ m) : (∀ j, j < partsN n m → j * m < n) ∧ n ≤ partsN n m * m := by
  unfold partsN
  constructor
  · intro j hj
    have h1 := (Nat.le_div_iff_mul_le (by omega : 0 < m)).1 (show j + 1 ≤ (n + m - 1) / m from hj)
    rw [Nat.succ_mul] at h1
    omega
  · have h1 := Nat.lt_div_mul_add (a := n + m - 1) (b := m) (by omega)
    omega
theorem mid_runs {n : Nat} {d : List UInt8} {c : List I4} (m : Nat) (hm : 1 ≤ m) (z : Bool) (nn : Int) (hall : c.all ik = true) : Runs ⟨nn, [], [], z⟩ ((List.range (partsN d.length m)).map (datl m d) ++ c.map til) ⟨nn, d, c, z⟩ := by
  obtain ⟨h1, h2⟩ := parts_lt (n := d.length) (m := m) hm
  have a := data_runs nn z m d [] (partsN d.length m) h1 hm
  rw [List.nil_append, List.take_of_length_le h2] at a
  exact a.app (code_runs nn z d c [] hall)
/-- An image's lines are read as it. -/
theorem lines_runs {n : Nat} {d : List UInt8} {c : List I4} (m : Nat) (hm : 1 ≤ m) (hk : imck n d c = true) : Runs rs0 (linesL n d c m) ⟨n, d, c, true⟩ := by
  obtain ⟨_, h2, _, _, hall⟩ := imck_bounds hk
  exact .cons (size_ok rs0 n (by omega) rfl) (mid_runs (n := n) m hm true n hall)
theorem lines_last {n : Nat} {d : List UInt8} {c : List I4} (m : Nat) (hm : 1 ≤ m) (hk : imck n d c = true) : Runs rs0 ((linesL n d c m).tail ++ [siz n]) ⟨n, d, c, true⟩ := by
  obtain ⟨_, h2, _, _, hall⟩ := imck_bounds hk
  exact (mid_runs (n := n) m hm false 0 hall).app (Runs.one (size_ok ⟨0, d, c, false⟩ n (by omega) rfl))

/-! ### Texts. -/
def nls (ls : List (List UInt8)) : List UInt8 := ls.flatMap (· ++ [10])
theorem lns_nls (r : List UInt8) : ∀ ls : List (List UInt8), (∀ l ∈ ls, (10 : UInt8) ∉ l) → lns (nls ls ++ r) = ls ++ lns r
  | [], _ => rfl
  | l :: ls, h => by
    have : nls (l :: ls) ++ r = l ++ 10 :: (nls ls ++ r) := by simp [nls]
    rw [this, lns_word l _ (h l (by simp)), lns_nls r ls (fun x hx => h x (by simp [hx]))]
    rfl
theorem pl_none {t : Rs} {l : List UInt8} {ls : List (List UInt8)} {i : Nat} (h : skip l = false) (h2 : (lineP t l).2 = false) : parseL t (l :: ls) i = .inr i := by rw [parseL, if_neg (by simp [h]), if_neg (by simp [h2])]
end Go.Proofs.YtcfoljdpffonhaaGreatDoor
