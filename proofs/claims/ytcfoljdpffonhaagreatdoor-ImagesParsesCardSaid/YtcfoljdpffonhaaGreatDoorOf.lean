/- Images: ImagesParses, walked: the document's Lines, bytes and Parse, and the law. -/
import Derived.Test.YtcfoljdpffonhaaGreatDoorJy
import Derived.Test.YtcfoljdpffonhaaGreatDoorMd
import Derived.Test.YtcfoljdpffonhaaGreatDoorNc
import Derived.Test.YtcfoljdpffonhaaGreatDoorPd
import Derived.Outline
set_option linter.unusedVariables false
set_option linter.unusedSimpArgs false
namespace Go.Proofs.YtcfoljdpffonhaaGreatDoor
open Go.RowKit Go.Joins Go.Shelf
attribute [local go_sem] Oper.semAt_some
theorem step_append_hp {P : Program} {w0 w : World} {ops : Array Oper} {o : Oper} {a : Act} {K : Act → World → Prop} {Q : Exit → Act → World → Prop} {E : Prop} (hgd : o.guard = none) (s x : Operand) (t : TypeId)
    (ho : o.op = .call { callee := .builtin .append, args := #[s, x], argTypes := #[t, t] })
    (e : TypeId) (i : TypeInfo) (z : Value) (size bytes : Nat) (ht : P.underlying t = some (.slice e)) (hi : P.info? e = some i) (hz : i.zero = some z)
    (hsize : i.size = size) (hby : i.bytes = bytes) (hzs : z.cells.size = size) (hsz : 0 < size)
    {v : Value} {n : Nat} {xs : List Value} {r : List Thing} (H : Hp w0 w (Own e size v n xs :: r)) (hs : a.eval s = v)
    (ad : Addr) (m c : Nat) (news : List Value) (hx : a.eval x = .slice (some ad) m c) (hl : news.length = m * size) (hnews : ∀ j u, news[j]? = some u → w.cell? (ad.add j) = some u) (h1 : ∀ u ∈ news, u.oneCell' = true)
    (h63 : n + m ≤ 1000000) (hb : bytes ≤ 1000000)
    (h : ∀ v' w', Hp w0 w' (Own e size v' (n + m) (xs ++ news) :: r) → K (a.put o.dst v') w') :
    if Region.wanted o (yielded ops a.tmps) = true then Oper.wp P o a w K Q else E := by
  have hw : Region.wanted o (yielded ops a.tmps) = true := by simp [Region.wanted, hgd]
  rw [if_pos hw]
  have hbb : (n + m) * bytes ≤ 1000000 * 1000000 := Nat.mul_le_mul h63 hb
  obtain ⟨v', w', hr, h2, h3, _, h5⟩ := run_append_own_at (P := P) w 0 t o.type e i z size bytes ht hi hz hsize hby hzs hsz v n xs (own_get H) ad m c news hl hnews h1 (by unfold maxLen; omega) (by omega) (Nat.zero_le _)
  unfold Oper.wp execOp
  simp only [ho, resolve, invoke, builtin, Sem.run_bind, Sem.run_pure, Result.andThen_ok, List.map_toArray, List.map_cons, List.map_nil, hs, hx, hr]
  exact h v' w' (own_turn H h3 h2 h5)

/-- Lines so far: l, and what is left behind place f, of which none up to k is a newline. -/
structure LinesAt (s : List UInt8) (k f : Nat) (l : List (List UInt8)) : Prop where
  fk : f ≤ k
  kl : k ≤ s.length
  nb : (10 : UInt8) ∉ (s.take k).drop f
  eq : lns s = l ++ lns (s.drop f)
  len : l.length ≤ f
theorem linesAt_zero (s : List UInt8) : LinesAt s 0 0 [] := ⟨Nat.le_refl _, Nat.zero_le _, by simp, by simp, Nat.le_refl _⟩
theorem linesAt_cut {s : List UInt8} {k f : Nat} {l : List (List UInt8)} (h : LinesAt s k f l) (hk : k < s.length) (hc : s[k] = 10) : LinesAt s (k + 1) (k + 1) (l ++ [(s.take k).drop f]) := by
  refine ⟨Nat.le_refl _, hk, by rw [List.drop_of_length_le (by rw [List.length_take]; omega)]; simp, ?_, by have := h.len; have := h.fk; simp; omega⟩
  rw [h.eq, drop_cut h.fk hk, hc, lns_word _ _ h.nb]
  simp
theorem linesAt_step {s : List UInt8} {k f : Nat} {l : List (List UInt8)} (h : LinesAt s k f l) (hk : k < s.length) (hc : s[k] ≠ 10) : LinesAt s (k + 1) f l := by
  refine ⟨by have := h.fk; omega, hk, ?_, h.eq, h.len⟩
  rw [List.take_succ_eq_append_getElem hk, List.drop_append_of_le_length (by rw [List.length_take]; have := h.fk; omega)]
  simp
  exact ⟨h.nb, fun e => hc e.symm⟩
theorem linesAt_end {s : List UInt8} {f : Nat} {l : List (List UInt8)} (h : LinesAt s s.length f l) : lns s = l ++ [(s.take s.length).drop f] := by
  have := h.nb
  rw [h.eq, List.take_length]
  rw [List.take_length] at this
  rw [lns_one _ this]
/-- What Lines tells. -/
def RLines (w0 : World) (r : List Thing) (s : List UInt8) (e : Ending) (w' : World) : Prop := ∃ a c L, e = .returned (.slice a (L : List (List UInt8)).length c) ∧ (lns s = L ∨ lns s = L ++ [[]]) ∧ Hp w0 w' (OwnSp (.slice a L.length c) L :: r)
theorem rl_of {w0 w' : World} {r : List Thing} {s : List UInt8} {L : List (List UInt8)} {a : Option Addr} {n c : Nat} (h : lns s = L ∨ lns s = L ++ [[]]) (hn : n = L.length) (H : Hp w0 w' (OwnSp (.slice a n c) L :: r)) : RLines w0 r s (.returned (.slice a n c)) w' := by subst hn; exact ⟨a, c, L, rfl, h, H⟩
set_option maxHeartbeats 4000000 in
set_option maxRecDepth 20000 in
theorem rlines_c {w0 w : World} {r : List Thing} (s : List UInt8) (hs : s.length ≤ 1048576) (H : Hp w0 w r) :
    Calls Tryz.prog 68 #[strv s] w (RLines w0 r s) := by
  have H0 : Hid (Hp w0 w (OwnSp (.slice none 0 0) [] :: r)) := Lib.hid (own_nil H _ _)
  obtain ⟨i0, hi, hz0, hz1, hz2⟩ := info_parts info_strp
  have HS := Lib.hid hs
  clear H hs
  go_enter Tryz.func68, Tryz.ntmps68
  go_wp2
  go_loopw [3, 4, 5] (fun s3 s4 s5 wr => ∃ (k f : Nat) (l : List (List UInt8)), s5 = .int .i64 k ∧ s4 = .int .i64 f ∧ Hid (Hp w0 wr (OwnSp s3 l :: r)) ∧ Hid (LinesAt s k f l)) (fun _ _ s5 _ => s.length - (intOf s5).toNat)
  case atStart => exact ⟨0, 0, [], rfl, rfl, H0, Lib.hid (linesAt_zero s)⟩
  case round =>
    obtain ⟨k, f, l, rfl, rfl, hH, hP⟩ := hrel
    clear H0
    have hpa := hP.out
    have hk := hpa.kl
    have hfk := hpa.fk
    have hll := hpa.len
    have hext := ext_mid s f k hfk hk
    have hwk : IntKind.i64.wrap ((k : Int) + 1) = (k : Int) + 1 := by rw [IntKind.wrap_i64]; have := HS.out; omega
    have hfk2 : (f : Int) ≤ (k : Int) := by omega
    have hkl2 : (k : Int) ≤ (s.length : Int) := by omega
    obtain ⟨av, cv, rfl⟩ := own_slice hH.out
    by_cases hlt : k < s.length
    · obtain ⟨hx', hx⟩ := idx_str hlt
      have c1 : (k : Int) < (s.length : Int) := by omega
      by_cases hc : s[k] = 10
      · have hp2 := Lib.hid (linesAt_cut hpa hlt hc)
        have hc' : ((s[k].toNat : Nat) : Int) = 10 := by rw [hc]; rfl
        generalize s[k] = ch at *
        generalize hpt : (s.take k).drop f = pt at *
        have HFK := Lib.hid hfk
        have HLL := Lib.hid hll
        have HLT := Lib.hid hlt
        clear hpa hc hP hpt hfk hll hk
        have hc2 : (((ch.toNat : Nat) : Int) == 10) = true := by simpa using hc'
        clear hlt
        go_wp2_with (at_builtin; refine wpList_append_big rfl (.tmp 16) (.tmp 21) 53 rfl 9 i0 _ 1 16 Tryz.underlying53 hi hz0 hz1 hz2 rfl (by decide) (hH.out.alloc _) rfl ⟨wr.heap.size, 0, none⟩ 1 1 [strv pt] rfl rfl (cell_one_at _ _ _ _ rfl) (by simp [Value.oneCell']) (by have := HS.out; have := HLL.out; have := HFK.out; have := HLT.out; simp; omega) (by omega) ?_)
        intro v' w6 HA0
        have HA := Lib.hid (os_snoc HA0)
        obtain ⟨a4, c4, rfl⟩ := own_slice HA0
        clear HA0 hH
        go_wp2
        go_roundw
        case rel => exact ⟨k + 1, k + 1, _, by go_num, by go_num, HA, Lib.hid hp2.out⟩
        case measure => have := HLT.out; simp [intOf]; omega
      · have hp2 := Lib.hid (linesAt_step hpa hlt hc)
        have hc' : ¬ ((s[k].toNat : Nat) : Int) = 10 := by intro h; apply hc; rw [← UInt8.toNat_inj]; show s[k].toNat = 10; omega
        have hc2 : (((s[k].toNat : Nat) : Int) == 10) = false := by rw [beq_eq_false_iff_ne]; exact hc'
        generalize s[k] = ch at *
        have HLT := Lib.hid hlt
        clear hpa hc hP hfk hll hk hext hlt
        go_wp2
        go_roundw
        case rel => exact ⟨k + 1, f, l, by go_num, rfl, hH, Lib.hid hp2.out⟩
        case measure => have := HLT.out; simp [intOf]; omega
    · obtain rfl : k = s.length := by omega
      have hp2 := linesAt_end hpa
      have c1 : ¬ (s.length : Int) < (s.length : Int) := by omega
      by_cases hf : f < s.length
      · have hf2 : (f : Int) < (s.length : Int) := by omega
        generalize hpt : (s.take s.length).drop f = pt at *
        have HP2 := Lib.hid hp2
        have HFK := Lib.hid hfk
        have HLL := Lib.hid hll
        clear hpa hP hpt hfk hll hk hlt hp2 hkl2 hf
        go_wp2_with (at_builtin; refine wpList_append_big rfl (.tmp 29) (.tmp 33) 53 rfl 9 i0 _ 1 16 Tryz.underlying53 hi hz0 hz1 hz2 rfl (by decide) (hH.out.alloc _) rfl ⟨wr.heap.size, 0, none⟩ 1 1 [strv pt] rfl rfl (cell_one_at _ _ _ _ rfl) (by simp [Value.oneCell']) (by have := HS.out; have := HLL.out; have := HFK.out; simp; omega) (by omega) ?_)
        intro v' w6 HA0
        have HA := Lib.hid (os_snoc HA0)
        obtain ⟨a4, c4, rfl⟩ := own_slice HA0
        clear HA0 hH
        go_wp2
        go_ret
        exact rl_of (Or.inl HP2.out) (by simp) HA.out
      · obtain rfl : f = s.length := by omega
        have he : lns s = l ++ [[]] := by rw [hp2, List.take_length, List.drop_length]
        have HE := Lib.hid he
        clear hpa hP hfk hll hk hlt hp2 hkl2 hf he hext
        go_wp2
        go_ret
        exact rl_of (Or.inr HE.out) rfl hH.out
/-- The lines without a last one that is empty are read alike. -/
theorem parseL_trail : ∀ (ls : List (List UInt8)) (t : Rs) (i : Nat), parseL t (ls ++ [[]]) i = parseL t ls i
  | [], t, i => by simp [parseL, skip]
  | l :: ls, t, i => by
    simp only [List.cons_append, parseL]
    rw [parseL_trail ls, parseL_trail ls]

def dgN (n : Int) : Int := if 48 ≤ n ∧ n ≤ 57 then n - 48 else if 97 ≤ n ∧ n ≤ 102 then n - 87 else -1
set_option maxHeartbeats 2000000 in
theorem digit_n (n : Int) (h0 : 0 ≤ n) (h1 : n < 256) (w : World) :
    Calls Tryz.prog 100 #[.int .u8 n] w fun e w' => e = .returned (.int .i64 (dgN n)) ∧ w' = w := by
  by_cases a1 : 48 ≤ n
  · by_cases a2 : n ≤ 57
    · have hd : dgN n = n - 48 := by unfold dgN; rw [if_pos ⟨a1, a2⟩]
      have q1 : IntKind.u8.wrap (n - 48) = n - 48 := by rw [IntKind.wrap_u8]; omega
      have q2 : IntKind.i64.wrap (n - 48) = n - 48 := by rw [IntKind.wrap_i64]; omega
      rw [hd]
      clear hd
      go_enter Tryz.func100, Tryz.ntmps100
      go_wp2
      go_ret
      exact ⟨rfl, rfl⟩
    · by_cases a3 : 97 ≤ n
      · by_cases a4 : n ≤ 102
        · have hd : dgN n = n - 97 + 10 := by unfold dgN; rw [if_neg (by omega), if_pos ⟨a3, a4⟩]; omega
          have q1 : IntKind.u8.wrap (n - 97) = n - 97 := by rw [IntKind.wrap_u8]; omega
          have q2 : IntKind.i64.wrap (n - 97) = n - 97 := by rw [IntKind.wrap_i64]; omega
          have q3 : IntKind.i64.wrap (n - 97 + 10) = n - 97 + 10 := by rw [IntKind.wrap_i64]; omega
          rw [hd]
          clear hd
          go_enter Tryz.func100, Tryz.ntmps100
          go_wp2
          go_ret
          exact ⟨rfl, rfl⟩
        · have hd : dgN n = -1 := by unfold dgN; rw [if_neg (by omega), if_neg (by omega)]
          rw [hd]
          clear hd
          go_enter Tryz.func100, Tryz.ntmps100
          go_wp2
          go_ret
          exact ⟨rfl, rfl⟩
      · have hd : dgN n = -1 := by unfold dgN; rw [if_neg (by omega), if_neg (by omega)]
        rw [hd]
        clear hd
        go_enter Tryz.func100, Tryz.ntmps100
        go_wp2
        go_ret
        exact ⟨rfl, rfl⟩
  · have a3 : ¬ 97 ≤ n := by omega
    have hd : dgN n = -1 := by unfold dgN; rw [if_neg (by omega), if_neg (by omega)]
    rw [hd]
    clear hd
    go_enter Tryz.func100, Tryz.ntmps100
    go_wp2
    go_ret
    exact ⟨rfl, rfl⟩
theorem hexd_iff (c : UInt8) : hexd.contains c = true ↔ (48 ≤ c.toNat ∧ c.toNat ≤ 57) ∨ (97 ≤ c.toNat ∧ c.toNat ≤ 102) := by
  constructor
  · intro h
    have key : ∀ x ∈ hexd, (48 ≤ x.toNat ∧ x.toNat ≤ 57) ∨ (97 ≤ x.toNat ∧ x.toNat ≤ 102) := by decide
    exact key c (by simpa using h)
  · intro h
    have key : ∀ n : Nat, n ≤ 102 → ((48 ≤ n ∧ n ≤ 57) ∨ (97 ≤ n ∧ n ≤ 102)) → hexd.contains (UInt8.ofNat n) = true := by decide
    have := key c.toNat (by omega) h
    rwa [UInt8.ofNat_toNat] at this
theorem dg_yes {c : UInt8} (h : hexd.contains c = true) : dgN (c.toNat : Int) = (hx c : Int) ∧ hx c < 16 := by
  have key : ∀ x ∈ hexd, dgN (x.toNat : Int) = (hx x : Int) ∧ hx x < 16 := by decide
  exact key c (by simpa using h)
theorem dg_no {c : UInt8} (h : hexd.contains c = false) : dgN (c.toNat : Int) = -1 := by
  have h2 : ¬ ((48 ≤ c.toNat ∧ c.toNat ≤ 57) ∨ (97 ≤ c.toNat ∧ c.toNat ≤ 102)) := fun hh => by rw [(hexd_iff c).2 hh] at h; cases h
  unfold dgN
  rw [if_neg (by omega), if_neg (by omega)]
theorem digit_c (c : UInt8) (w : World) : Calls Tryz.prog 100 #[bv c] w fun e w' => e = .returned (.int .i64 (dgN (c.toNat : Int))) ∧ w' = w :=
  digit_n _ (by omega) (by have := c.toNat_lt; omega) w
/-- What bytes tells. -/
def RBytes (w0 : World) (r : List Thing) (s : List UInt8) (dk : Bool) (e : Ending) (w' : World) : Prop := ∃ v l, e = .returned (.tuple #[v, .bool dk]) ∧ (dk = true → l = hbs s) ∧ Hp w0 w' (OwnU v l :: r)
theorem rb_of {w0 w' : World} {r : List Thing} {s : List UInt8} {dk : Bool} {v : Value} {l : List UInt8} (h : dk = true → l = hbs s) (H : Hp w0 w' (OwnU v l :: r)) : RBytes w0 r s dk (.returned (.tuple #[v, .bool dk])) w' := ⟨v, l, rfl, h, H⟩
set_option maxHeartbeats 16000000 in
set_option maxRecDepth 20000 in
theorem rbytes_c {w0 w : World} {r : List Thing} (s : List UInt8) (hs : s.length ≤ 1000000) (H : Hp w0 w r) :
    Calls Tryz.prog 70 #[strv s] w (RBytes w0 r s (dok s)) := by
  have H0 : Hid (Hp w0 w (OwnU (.slice none 0 0) [] :: r)) := Lib.hid (own_nil H _ _)
  obtain ⟨i0, hi, hz0, hz1, hz2⟩ := info_parts info_u8
  have HS := Lib.hid hs
  have hdk : dok s = (!s.isEmpty && s.length % 2 == 0 && s.all (hexd.contains ·)) := rfl
  have HDK := Lib.hid hdk
  have DC := Lib.hid digit_c
  generalize dok s = dk at *
  clear H hs hdk
  go_enter Tryz.func70, Tryz.ntmps70
  go_wp2
  go_loopw [4, 5] (fun s4 s5 wr => ∃ (p : Nat) (l : List UInt8), s5 = .int .i64 p ∧ p ≤ s.length ∧ Hid (p % 2 = 0 ∧ l = hbs (s.take p) ∧ (s.take p).all (hexd.contains ·) = true) ∧ Hid (Hp w0 wr (OwnU s4 l :: r))) (fun _ s5 _ => s.length - (intOf s5).toNat)
  case atStart => exact ⟨0, [], rfl, Nat.zero_le _, Lib.hid ⟨rfl, by simp [hbs], by simp⟩, H0⟩
  case round =>
    obtain ⟨p, l, rfl, hp, hN, hH⟩ := hrel
    clear H0
    obtain ⟨av, cv, rfl⟩ := own_slice hH.out
    have hw1 : IntKind.i64.wrap ((p : Int) + 1) = (p : Int) + 1 := by rw [IntKind.wrap_i64]; have := HS.out; omega
    by_cases hlt : p + 1 < s.length
    · obtain ⟨hx0, ha⟩ := idx_str (show p < s.length by omega)
      obtain ⟨hx1, hb'⟩ := idx_str hlt
      have g0 : s[p]? = some s[p] := List.getElem?_eq_getElem (by omega)
      have g1 : s[p + 1]? = some s[p + 1] := List.getElem?_eq_getElem hlt
      have htk := Lib.hid (take_two g0 g1)
      have ma : s[p] ∈ s := List.getElem_mem _
      have mb : s[p + 1] ∈ s := List.getElem_mem _
      have hno : ∀ c ∈ s, hexd.contains c = false → dk = false := fun c hc h => by
        rw [HDK.out]
        have : s.all (hexd.contains ·) = false := List.all_eq_false.2 ⟨c, hc, by rw [h]; simp⟩
        rw [this]; simp
      have c1 : (p : Int) + 1 < (s.length : Int) := by omega
      have c2 : (p : Int) < (s.length : Int) := by omega
      have c3 : 0 ≤ (p : Int) + 1 := by omega
      have c4 : ((p : Int) + 1).toNat = p + 1 := by omega
      have HA1 := Lib.hid (hno _ ma)
      have HB1 := Lib.hid (hno _ mb)
      have HLT := Lib.hid hlt
      generalize s[p] = a at *
      generalize s[p + 1] = b at *
      clear g0 g1 ma mb hno hlt hp
      cases h1 : hexd.contains a with
      | false =>
        have hdk := HA1.out h1
        subst hdk
        have DA := Lib.hid (digit_c a wr)
        rw [dg_no h1] at DA
        clear h1 HA1 HB1
        go_wp2_with fail
        refine DA.out.mono ?_; rintro e w2 ⟨rfl, rfl⟩
        clear DA
        go_wp2
        go_ret2
        exact rb_of (l := []) (fun h => (by cases h)) (own_nil hH.out.tail _ _)
      | true =>
        obtain ⟨d1, d2⟩ := dg_yes h1
        cases h2 : hexd.contains b with
        | false =>
          have hdk := HB1.out h2
          subst hdk
          have DA := Lib.hid (digit_c a wr)
          have DB := Lib.hid (digit_c b wr)
          rw [d1] at DA
          rw [dg_no h2] at DB
          have n1 : ¬ ((hx a : Int) < 0) := by omega
          clear h1 h2 HA1 HB1 d1 d2
          go_wp2_with fail
          refine DA.out.mono ?_; rintro e w2 ⟨rfl, rfl⟩
          clear DA
          go_wp2_with fail
          refine DB.out.mono ?_; rintro e w2 ⟨rfl, rfl⟩
          clear DB
          go_wp2
          go_ret2
          exact rb_of (l := []) (fun h => (by cases h)) (own_nil hH.out.tail _ _)
        | true =>
          obtain ⟨d3, d4⟩ := dg_yes h2
          have DA : Hid (∀ W, Calls Tryz.prog 100 #[bv a] W fun e w' => e = .returned (.int .i64 (hx a : Int)) ∧ W = w') := Lib.hid (fun W => (digit_c a W).mono (fun e' w' h => ⟨by rw [← d1]; exact h.1, h.2.symm⟩))
          have DB : Hid (∀ W, Calls Tryz.prog 100 #[bv b] W fun e w' => e = .returned (.int .i64 (hx b : Int)) ∧ W = w') := Lib.hid (fun W => (digit_c b W).mono (fun e' w' h => ⟨by rw [← d3]; exact h.1, h.2.symm⟩))
          have n1 : ¬ ((hx a : Int) < 0) := by omega
          have n2 : ¬ ((hx b : Int) < 0) := by omega
          have k1 : IntKind.i64.wrap (16 * (hx a : Int)) = 16 * (hx a : Int) := by rw [IntKind.wrap_i64]; omega
          have k2 : IntKind.i64.wrap (16 * (hx a : Int) + (hx b : Int)) = 16 * (hx a : Int) + (hx b : Int) := by rw [IntKind.wrap_i64]; omega
          have k3 : IntKind.u8.wrap (16 * (hx a : Int) + (hx b : Int)) = ((hb a b).toNat : Int) := by
            unfold hb
            rw [IntKind.wrap_u8]
            simp
            omega
          have HL1 : Hid (l.length ≤ p) := Lib.hid (by have := hbs_le (s.take p); rw [← hN.out.2.1, List.length_take] at this; omega)
          have HALL : Hid ((s.take (p + 2)).all (hexd.contains ·) = true ∧ l ++ [hb a b] = hbs (s.take (p + 2)) ∧ l.length ≤ s.length) := Lib.hid (by
            rw [htk.out]
            refine ⟨by rw [List.all_append, hN.out.2.2]; simp [h1, h2]; exact ⟨by simpa using h1, by simpa using h2⟩, ?_, ?_⟩
            · rw [hbs_two (s.take p) a b (p / 2) (by rw [List.length_take]; have := HLT.out; have := hN.out.1; omega), ← hN.out.2.1]
            · have := hbs_le (s.take p); rw [← hN.out.2.1, List.length_take] at this; omega)
          generalize hb a b = ab at *
          generalize hx a = da at *
          generalize hx b = db at *
          clear h1 h2 HA1 HB1 d1 d2 d3 d4 htk
          go_wp2_with fail
          refine (DA.out _).mono ?_; rintro e w2 ⟨rfl, rfl⟩
          go_wp2_with fail
          refine (DB.out _).mono ?_; rintro e w2 ⟨rfl, rfl⟩
          go_upto_region 7 with fail
          refine wp_region_S 15 (fun (x : World) => True) (by kernel_rfl) ?_
          refine wpAnyS_take (i := 0) (by as_aux_lemma => kernel_rfl) (by as_aux_lemma => kernel_rfl) (by as_aux_lemma => kernel_rfl) (by as_aux_lemma => kernel_rfl) (by as_aux_lemma => kernel_rfl) (by as_aux_lemma => kernel_rfl) (by as_aux_lemma => kernel_rfl) (by as_aux_lemma => kernel_rfl) (by intro c a d v w h; cases d <;> exact h) trivial (fun oi hoi => ?_)
          simp only [List.getElem?_toArray, List.getElem?_cons_zero, List.getElem?_cons_succ, Option.some.injEq] at hoi; subst hoi
          refine ⟨?_, by rfl, fun wx hSx => ?_, ?_⟩
          rotate_left
          · go_simp
            try with_reducible rfl
          try simp only [Act.put, List.setIfInBounds_toArray, List.set_cons_zero, List.set_cons_succ]
          refine wpAnyS_take (i := 1) (by as_aux_lemma => kernel_rfl) (by as_aux_lemma => kernel_rfl) (by as_aux_lemma => kernel_rfl) (by as_aux_lemma => kernel_rfl) (by as_aux_lemma => kernel_rfl) (by as_aux_lemma => kernel_rfl) (by as_aux_lemma => kernel_rfl) (by as_aux_lemma => kernel_rfl) (by intro c a d v w h; cases d <;> exact h) trivial (fun oi hoi => ?_)
          simp only [List.getElem?_toArray, List.getElem?_cons_zero, List.getElem?_cons_succ, Option.some.injEq] at hoi; subst hoi
          refine ⟨?_, by rfl, fun wx hSx => ?_, ?_⟩
          rotate_left
          · go_simp
            try with_reducible rfl
          try simp only [Act.put, List.setIfInBounds_toArray, List.set_cons_zero, List.set_cons_succ]
          refine wpAnyS_take (i := 2) (by as_aux_lemma => kernel_rfl) (by as_aux_lemma => kernel_rfl) (by as_aux_lemma => kernel_rfl) (by as_aux_lemma => kernel_rfl) (by as_aux_lemma => kernel_rfl) (by as_aux_lemma => kernel_rfl) (by as_aux_lemma => kernel_rfl) (by as_aux_lemma => kernel_rfl) (by intro c a d v w h; cases d <;> exact h) trivial (fun oi hoi => ?_)
          simp only [List.getElem?_toArray, List.getElem?_cons_zero, List.getElem?_cons_succ, Option.some.injEq] at hoi; subst hoi
          refine ⟨?_, by rfl, fun wx hSx => ?_, ?_⟩
          rotate_left
          · go_simp
            try with_reducible rfl
          try simp only [Act.put, List.setIfInBounds_toArray, List.set_cons_zero, List.set_cons_succ]
          refine wpAnyS_take (i := 3) (by as_aux_lemma => kernel_rfl) (by as_aux_lemma => kernel_rfl) (by as_aux_lemma => kernel_rfl) (by as_aux_lemma => kernel_rfl) (by as_aux_lemma => kernel_rfl) (by as_aux_lemma => kernel_rfl) (by as_aux_lemma => kernel_rfl) (by as_aux_lemma => kernel_rfl) (by intro c a d v w h; cases d <;> exact h) trivial (fun oi hoi => ?_)
          simp only [List.getElem?_toArray, List.getElem?_cons_zero, List.getElem?_cons_succ, Option.some.injEq] at hoi; subst hoi
          refine ⟨?_, by rfl, fun wx hSx => ?_, ?_⟩
          rotate_left
          · go_simp
            try with_reducible rfl
          try simp only [Act.put, List.setIfInBounds_toArray, List.set_cons_zero, List.set_cons_succ]
          refine wpAnyS_take (i := 6) (by as_aux_lemma => kernel_rfl) (by as_aux_lemma => kernel_rfl) (by as_aux_lemma => kernel_rfl) (by as_aux_lemma => kernel_rfl) (by as_aux_lemma => kernel_rfl) (by as_aux_lemma => kernel_rfl) (by as_aux_lemma => kernel_rfl) (by as_aux_lemma => kernel_rfl) (by intro c a d v w h; cases d <;> exact h) trivial (fun oi hoi => ?_)
          simp only [List.getElem?_toArray, List.getElem?_cons_zero, List.getElem?_cons_succ, Option.some.injEq] at hoi; subst hoi
          refine ⟨?_, by rfl, fun wx hSx => ?_, ?_⟩
          rotate_left
          · go_simp
            try with_reducible rfl
          try simp only [Act.put, List.setIfInBounds_toArray, List.set_cons_zero, List.set_cons_succ]
          refine wpAnyS_take (i := 7) (by as_aux_lemma => kernel_rfl) (by as_aux_lemma => kernel_rfl) (by as_aux_lemma => kernel_rfl) (by as_aux_lemma => kernel_rfl) (by as_aux_lemma => kernel_rfl) (by as_aux_lemma => kernel_rfl) (by as_aux_lemma => kernel_rfl) (by as_aux_lemma => kernel_rfl) (by intro c a d v w h; cases d <;> exact h) trivial (fun oi hoi => ?_)
          simp only [List.getElem?_toArray, List.getElem?_cons_zero, List.getElem?_cons_succ, Option.some.injEq] at hoi; subst hoi
          refine ⟨?_, by rfl, fun wx hSx => ?_, ?_⟩
          rotate_left
          · go_simp
            try with_reducible rfl
          try simp only [Act.put, List.setIfInBounds_toArray, List.set_cons_zero, List.set_cons_succ]
          refine wpAnyS_take (i := 8) (by as_aux_lemma => kernel_rfl) (by as_aux_lemma => kernel_rfl) (by as_aux_lemma => kernel_rfl) (by as_aux_lemma => kernel_rfl) (by as_aux_lemma => kernel_rfl) (by as_aux_lemma => kernel_rfl) (by as_aux_lemma => kernel_rfl) (by as_aux_lemma => kernel_rfl) (by intro c a d v w h; cases d <;> exact h) trivial (fun oi hoi => ?_)
          simp only [List.getElem?_toArray, List.getElem?_cons_zero, List.getElem?_cons_succ, Option.some.injEq] at hoi; subst hoi
          refine ⟨?_, by rfl, fun wx hSx => ?_, ?_⟩
          rotate_left
          · go_simp
            try with_reducible rfl
          try simp only [Act.put, List.setIfInBounds_toArray, List.set_cons_zero, List.set_cons_succ]
          refine wpAnyS_take (i := 9) (by as_aux_lemma => kernel_rfl) (by as_aux_lemma => kernel_rfl) (by as_aux_lemma => kernel_rfl) (by as_aux_lemma => kernel_rfl) (by as_aux_lemma => kernel_rfl) (by as_aux_lemma => kernel_rfl) (by as_aux_lemma => kernel_rfl) (by as_aux_lemma => kernel_rfl) (by intro c a d v w h; cases d <;> exact h) trivial (fun oi hoi => ?_)
          simp only [List.getElem?_toArray, List.getElem?_cons_zero, List.getElem?_cons_succ, Option.some.injEq] at hoi; subst hoi
          refine ⟨?_, by rfl, fun wx hSx => ?_, ?_⟩
          rotate_left
          · go_simp
            try with_reducible rfl
          try simp only [Act.put, List.setIfInBounds_toArray, List.set_cons_zero, List.set_cons_succ]
          refine wpAnyS_one (i := 4) (by as_aux_lemma => kernel_rfl) ?_
          intro oi hoi K hK
          simp only [List.getElem?_toArray, List.getElem?_cons_zero, List.getElem?_cons_succ, Option.some.injEq] at hoi; subst hoi
          go_simp
          go_at_call 100
          refine (DA.out _).mono ?_; rintro e w2 ⟨rfl, rfl⟩
          refine hK.out _ _ (fun _ => trivial) ?_
          clear hK K
          try simp only [Act.put, List.setIfInBounds_toArray, List.set_cons_zero, List.set_cons_succ]
          refine wpAnyS_take (i := 5) (by as_aux_lemma => kernel_rfl) (by as_aux_lemma => kernel_rfl) (by as_aux_lemma => kernel_rfl) (by as_aux_lemma => kernel_rfl) (by as_aux_lemma => kernel_rfl) (by as_aux_lemma => kernel_rfl) (by as_aux_lemma => kernel_rfl) (by as_aux_lemma => kernel_rfl) (by intro c a d v w h; cases d <;> exact h) trivial (fun oi hoi => ?_)
          simp only [List.getElem?_toArray, List.getElem?_cons_zero, List.getElem?_cons_succ, Option.some.injEq] at hoi; subst hoi
          refine ⟨?_, by rfl, fun wx hSx => ?_, ?_⟩
          rotate_left
          · go_simp
            try with_reducible rfl
          try simp only [Act.put, List.setIfInBounds_toArray, List.set_cons_zero, List.set_cons_succ]
          refine wpAnyS_one (i := 10) (by as_aux_lemma => kernel_rfl) ?_
          intro oi hoi K hK
          simp only [List.getElem?_toArray, List.getElem?_cons_zero, List.getElem?_cons_succ, Option.some.injEq] at hoi; subst hoi
          go_simp
          go_at_call 100
          refine (DB.out _).mono ?_; rintro e w2 ⟨rfl, rfl⟩
          refine hK.out _ _ (fun _ => trivial) ?_
          clear hK K
          try simp only [Act.put, List.setIfInBounds_toArray, List.set_cons_zero, List.set_cons_succ]
          refine wpAnyS_take (i := 11) (by as_aux_lemma => kernel_rfl) (by as_aux_lemma => kernel_rfl) (by as_aux_lemma => kernel_rfl) (by as_aux_lemma => kernel_rfl) (by as_aux_lemma => kernel_rfl) (by as_aux_lemma => kernel_rfl) (by as_aux_lemma => kernel_rfl) (by as_aux_lemma => kernel_rfl) (by intro c a d v w h; cases d <;> exact h) trivial (fun oi hoi => ?_)
          simp only [List.getElem?_toArray, List.getElem?_cons_zero, List.getElem?_cons_succ, Option.some.injEq] at hoi; subst hoi
          refine ⟨?_, by rfl, fun wx hSx => ?_, ?_⟩
          rotate_left
          · go_simp
            try with_reducible rfl
          try simp only [Act.put, List.setIfInBounds_toArray, List.set_cons_zero, List.set_cons_succ]
          refine wpAnyS_take (i := 12) (by as_aux_lemma => kernel_rfl) (by as_aux_lemma => kernel_rfl) (by as_aux_lemma => kernel_rfl) (by as_aux_lemma => kernel_rfl) (by as_aux_lemma => kernel_rfl) (by as_aux_lemma => kernel_rfl) (by as_aux_lemma => kernel_rfl) (by as_aux_lemma => kernel_rfl) (by intro c a d v w h; cases d <;> exact h) trivial (fun oi hoi => ?_)
          simp only [List.getElem?_toArray, List.getElem?_cons_zero, List.getElem?_cons_succ, Option.some.injEq] at hoi; subst hoi
          refine ⟨?_, by rfl, fun wx hSx => ?_, ?_⟩
          rotate_left
          · go_simp
            try with_reducible rfl
          try simp only [Act.put, List.setIfInBounds_toArray, List.set_cons_zero, List.set_cons_succ]
          refine wpAnyS_one (i := 13) (by as_aux_lemma => kernel_rfl) ?_
          intro oi hoi K hK
          simp only [List.getElem?_toArray, List.getElem?_cons_zero, List.getElem?_cons_succ, Option.some.injEq] at hoi; subst hoi
          go_simp
          refine hK.out _ _ (fun _ => trivial) ?_
          clear hK K
          try simp only [Act.put, List.setIfInBounds_toArray, List.set_cons_zero, List.set_cons_succ]
          refine wpAnyS_one (i := 14) (by as_aux_lemma => kernel_rfl) ?_
          intro oi hoi K hK
          simp only [List.getElem?_toArray, List.getElem?_cons_zero, List.getElem?_cons_succ, Option.some.injEq] at hoi; subst hoi
          refine step_append_hp (by rfl) _ _ 22 (by rfl) 5 i0 _ 1 1 Tryz.underlying22 hi hz0 hz1 hz2 rfl (by decide) (Hp.alloc hH.out.drew _) (by rfl) ⟨wr.heap.size, 0, none⟩ 1 1 [bv ab] (by rfl) (by rfl) (World.news_of_block (cs := #[bv ab]) (t := 5) (fr := (0, 0)) (blk_alloc_new _ _)) (by simp [Value.oneCell', bv]) (by have := HALL.out.2.2; have := HS.out; have := HL1.out; omega) (by omega) ?_
          intro v5 w5 HA0
          have HA := Lib.hid (ou_snoc (ys := [ab]) HA0 rfl rfl)
          obtain ⟨a5, c5, rfl⟩ := own_slice HA0
          refine hK.out _ _ (fun _ => trivial) ?_
          clear hK K HA0
          try simp only [Act.put, List.setIfInBounds_toArray, List.set_cons_zero, List.set_cons_succ]
          refine wpAnyS_one (i := 15) (by as_aux_lemma => kernel_rfl) ?_
          intro oi hoi K hK
          simp only [List.getElem?_toArray, List.getElem?_cons_zero, List.getElem?_cons_succ, Option.some.injEq] at hoi; subst hoi
          go_simp
          refine hK.out _ _ (fun h => absurd h (by decide)) ?_
          clear hK K
          try simp only [Act.put, List.setIfInBounds_toArray, List.set_cons_zero, List.set_cons_succ]
          refine wpAnyS_done (by as_aux_lemma => kernel_rfl) ?_ _
          clear DA DB hH n1 n2 k1 k2 k3 ha hb'
          have q5 : IntKind.i64.wrap ((p : Int) + 2) = (p : Int) + 2 := by rw [IntKind.wrap_i64]; have := HS.out; have := HLT.out; omega
          go_wp2
          go_roundw
          case rel => exact ⟨p + 2, l ++ [ab], by go_num, by have := HLT.out; omega, Lib.hid ⟨by have := hN.out.1; omega, HALL.out.2.1, HALL.out.1⟩, HA⟩
          case measure => have := HLT.out; simp [intOf]; omega
    · have c1 : ¬ ((p : Int) + 1 < (s.length : Int)) := by omega
      have hpar := hN.out.1
      by_cases he : s.length % 2 = 0
      · obtain rfl : p = s.length := by omega
        by_cases h0 : s.length = 0
        · have hs0 : s = [] := List.eq_nil_of_length_eq_zero h0
          have hdk : dk = false := by rw [HDK.out, hs0]; rfl
          subst hdk
          have g1 : ¬ (0 : Int) < (s.length : Int) := by omega
          clear hs0 h0 he hpar hlt hp
          go_wp2
          go_ret2
          exact rb_of (fun h => (by cases h)) hH.out
        · have hall := hN.out.2.2
          rw [List.take_length] at hall
          have hdk : dk = true := by
            rw [HDK.out, hall]
            have : s ≠ [] := fun h => h0 (by rw [h]; rfl)
            simp [this, he]
          subst hdk
          have hl : l = hbs s := by have := hN.out.2.1; rwa [List.take_length] at this
          have HL := Lib.hid hl
          have g1 : (0 : Int) < (s.length : Int) := by omega
          have g2 : (s.length : Int) % 2 = 0 := by omega
          clear hall hl h0 he hpar hlt hp
          go_wp2
          go_ret2
          exact rb_of (fun _ => HL.out) hH.out
      · have hdk : dk = false := by
          rw [HDK.out]
          have : (s.length % 2 == 0) = false := by simpa using he
          rw [this]; simp
        subst hdk
        have g1 : (0 : Int) < (s.length : Int) := by omega
        have g2 : (s.length : Int) % 2 = 1 := by omega
        clear he hpar hlt hp
        go_wp2
        go_ret2
        exact rb_of (fun h => (by cases h)) hH.out

theorem szok_rnum (z : Bool) (s : List UInt8) : szok z s = (decide (0 ≤ rnum s 2147483647) && !z) ∧ (0 ≤ rnum s 2147483647 → nV s = rnum s 2147483647) := by
  unfold szok nB rnum
  cases h : nS s with
  | none => simp
  | some n =>
    have h0 := (nS_some h).1
    have hv := nV_of h
    rw [hv]
    by_cases hn : n ≤ 2147483647
    · simp [hn, h0]
    · simp [hn]
theorem lr_size (t : Rs) (rest : List UInt8) : lineP t ([115, 105, 122, 101, 32] ++ rest) = ({ t with n := nV rest, z := true }, szok t.z rest) := by
  have hc : Lib.cut ([115, 105, 122, 101, 32] ++ rest) [32] = ([115, 105, 122, 101], rest, true) := cut_word (w := [115, 105, 122, 101]) (by decide)
  unfold lineP
  rw [hc]
  rfl
theorem lr_data (t : Rs) (rest : List UInt8) : lineP t ([100, 97, 116, 97, 32] ++ rest) = ({ t with d := if dok rest then t.d ++ hbs rest else t.d }, dok rest) := by
  have hc : Lib.cut ([100, 97, 116, 97, 32] ++ rest) [32] = ([100, 97, 116, 97], rest, true) := cut_word (w := [100, 97, 116, 97]) (by decide)
  unfold lineP
  rw [hc]
  rfl
theorem prs_word_no {s w : List UInt8} {ps : List (List UInt8)} (hs : spl s = w :: ps) (hw : ∀ o : Nat, o ≤ 22 → wl o ≠ w) : prs s = none :=
  prs_none (fun o ho => by
    rw [hs]
    unfold pat
    rw [if_neg]
    rintro ⟨h, _⟩
    exact hw o (by omega) h)
theorem size_no : ∀ o : Nat, o ≤ 22 → wl o ≠ [115, 105, 122, 101] := by decide
theorem data_no : ∀ o : Nat, o ≤ 22 → wl o ≠ [100, 97, 116, 97] := by decide
theorem szok_nil (z : Bool) : szok z [] = false := by unfold szok nB; rw [nS_nil]; rfl
theorem dok_nil : dok [] = false := rfl
/-- A line that is of neither row. -/
theorem lr_ins (t : Rs) (s : List UInt8) (h1 : ∀ rest, rest ≠ [] → s ≠ [115, 105, 122, 101, 32] ++ rest) (h2 : ∀ rest, rest ≠ [] → s ≠ [100, 97, 116, 97, 32] ++ rest) :
    (lineP t s).2 = (inst s).isSome ∧ ((inst s).isSome = true → (lineP t s).1 = { t with c := t.c ++ [(inst s).getD (0, 0, 0, 0)] }) := by
  rcases index_one s with ⟨_, h⟩ | ⟨w, r, rfl, h, _⟩
  · have hc := cut_none h
    have hsp := spl_one s h
    unfold lineP
    rw [hc]
    by_cases e1 : s = [115, 105, 122, 101]
    · have : inst s = none := inst_none (prs_word_no hsp (by rw [e1]; exact size_no))
      simp [e1] at this ⊢
      simp [this]
    · by_cases e2 : s = [100, 97, 116, 97]
      · have : inst s = none := inst_none (prs_word_no hsp (by rw [e2]; exact data_no))
        simp [e2] at this ⊢
        simp [this]
      · simp [e1, e2]
  · have hc := cut_word (r := r) h
    have hsp := spl_word w r h
    unfold lineP
    rw [hc]
    by_cases e1 : w = [115, 105, 122, 101]
    · have hi : inst (w ++ 32 :: r) = none := inst_none (prs_word_no hsp (by rw [e1]; exact size_no))
      have hr : r = [] := by
        cases r with
        | nil => rfl
        | cons x r => exact absurd (by rw [e1]; rfl) (h1 (x :: r) (by simp))
      rw [hi, hr]
      simp [e1, szok_nil]
    · by_cases e2 : w = [100, 97, 116, 97]
      · have hi : inst (w ++ 32 :: r) = none := inst_none (prs_word_no hsp (by rw [e2]; exact data_no))
        have hr : r = [] := by
          cases r with
          | nil => rfl
          | cons x r => exact absurd (by rw [e2]; rfl) (h2 (x :: r) (by simp))
        rw [hi, hr]
        simp [e2, dok_nil]
      · simp [e1, e2]
/-- What the document's Parse gives, as numbers. -/
theorem pvv_inst (s : List UInt8) : ∃ x : I4, pvv (prs s) = i4v x ∧ x = (inst s).getD (0, 0, 0, 0) ∧ (prs s).isSome = (inst s).isSome := by
  cases hp : prs s with
  | none => exact ⟨(0, 0, 0, 0), rfl, by rw [inst_none hp]; rfl, by rw [inst_none hp]; rfl⟩
  | some p =>
    obtain ⟨o, bs⟩ := p
    obtain ⟨x, h1, _, h3⟩ := inst_some hp
    exact ⟨x, h3, by rw [h1]; rfl, by rw [h1]; rfl⟩
/-- Which row a line is of. -/
theorem head_five (s : List UInt8) (w : List UInt8) (hw : w.length = 5) : (∃ rest, rest ≠ [] ∧ s = w ++ rest) ∨ ((∀ rest, rest ≠ [] → s ≠ w ++ rest) ∧ (5 < s.length → s.take 5 ≠ w)) := by
  by_cases h : 5 < s.length ∧ s.take 5 = w
  · left
    refine ⟨s.drop 5, fun h0 => ?_, by rw [← h.2, List.take_append_drop]⟩
    have := congrArg List.length h0
    simp at this; omega
  · right
    refine ⟨fun rest hr e => h ⟨?_, ?_⟩, fun h1 h2 => h ⟨h1, h2⟩⟩
    · have : rest.length ≠ 0 := fun h0 => hr (List.eq_nil_of_length_eq_zero h0)
      rw [e, List.length_append, hw]; omega
    · rw [e, List.take_append_of_le_length (by omega), List.take_of_length_le (by omega)]

theorem hbs_pos {s : List UInt8} (h : dok s = true) : 0 < (hbs s).length := by
  match s, h with
  | [], h => simp [dok] at h
  | [x], h => simp [dok] at h
  | a :: b :: r, _ => simp [hbs]
set_option maxHeartbeats 16000000 in
set_option maxRecDepth 20000 in
theorem rimparse_c {w0 w : World} {r : List Thing} (s : List UInt8) (hs : s.length ≤ 100000) (H : Hp w0 w r) :
    Calls Tryz.prog 24 #[strv s] w (ParsePost w0 r (parseL rs0 (lns s) 0)) := by
  have H1 := Lib.hid (blk_new_at (blk_new H (.cells zI 25)) (.cells zI 25) (w.heap.size + 1) (size_alloc1 _ _))
  have LC := Lib.hid (rlines_c s (by omega) H1.out)
  have hsum := lns_sum s
  have hlen := lns_len s
  generalize hq : parseL rs0 (lns s) 0 = q
  obtain ⟨i0, hi, hz0, hz1, hz2⟩ := info_parts info_u8
  obtain ⟨i1, hi', hz0', hz1', hz2'⟩ := info_parts info_ins
  have HS := Lib.hid hs
  have HQ := Lib.hid hq
  have HSM := Lib.hid hsum
  have HLE := Lib.hid hlen
  clear H hq hsum hlen hs
  go_enter Tryz.func24, Tryz.ntmps24
  go_wp2_with fail
  refine LC.out.mono ?_; rintro e w1 ⟨aL, cL, L, rfl, hL, H2⟩
  have HQ0 : Hid (parseL rs0 (L.drop 0) 0 = q) := Lib.hid (by
    rcases hL with h | h
    · rw [← HQ.out, h]; rfl
    · rw [← HQ.out, h, parseL_trail]; rfl)
  have HSU : Hid ((L.map List.length).sum ≤ s.length ∧ L.length ≤ s.length + 1 ∧ s.length ≤ 100000) := Lib.hid (by
    have h1 := HSM.out
    rcases hL with h | h
    · rw [h] at h1; exact ⟨h1.1, h1.2, HS.out⟩
    · rw [h] at h1; simp at h1; exact ⟨h1.1, by omega, HS.out⟩)
  have HLN : Hid (∀ (k : Nat) (l : List UInt8), L[k]? = some l → l.length ≤ 100000) := Lib.hid (fun k l h => by
    have h2 : l ∈ lns s := by rcases hL with h' | h' <;> (rw [h']; simp [List.mem_of_getElem? h])
    have := HLE.out l h2; have := HS.out; omega)
  have H2' : Hid (Hp w0 w1 (OwnU (.slice none 0 0) rs0.d :: OwnN (.slice none 0 0) rs0.c :: OwnSp (.slice aL L.length cL) L :: IM (w.heap.size + 1) rs0.n (.slice none 0 0) (.slice none 0 0) :: Blk w.heap.size (.cells zI 25 (0, 0)) :: r)) := Lib.hid (own_nil (own_nil H2 61 4) 5 1)
  clear LC H2 H1 HQ HSM HLE hL
  go_wp2
  generalize w.heap.size = xb at *
  go_loopw [6, 8] (fun s6 s8 wr => ∃ (k : Nat) (n : Int) (d : List UInt8) (c : List I4) (z : Bool) (dv cv : Value), s8 = .int .i64 k ∧ s6 = .bool z ∧ k ≤ L.length ∧ Hid (parseL ⟨n, d, c, z⟩ (L.drop k) k = q ∧ d.length + ((L.drop k).map List.length).sum ≤ s.length ∧ c.length ≤ k) ∧ Hid (Hp w0 wr (OwnU dv d :: OwnN cv c :: OwnSp (.slice aL L.length cL) L :: IM (xb + 1) n dv cv :: Blk xb (.cells zI 25 (0, 0)) :: r))) (fun _ s8 _ => L.length - (intOf s8).toNat)
  case atStart => exact ⟨0, 0, [], [], false, _, _, rfl, rfl, Nat.zero_le _, Lib.hid ⟨HQ0.out, by have := HSU.out.1; simpa using this, Nat.le_refl _⟩, H2'⟩
  case round =>
    obtain ⟨k, n, d, c, z, dv, cv, rfl, rfl, hk, hN, hH⟩ := hrel
    clear H2' HQ0
    obtain ⟨ad, dc, rfl⟩ := own_slice hH.out
    obtain ⟨ac, cc, rfl⟩ := own_slice hH.out.tail
    by_cases hlt : k < L.length
    · obtain ⟨l, hl⟩ : ∃ l, L[k]? = some l := ⟨_, List.getElem?_eq_getElem hlt⟩
      obtain ⟨hs1, hs2, hs3⟩ := parseL_step hl hN.out.1
      have HS1 := Lib.hid hs1
      have HS2 := Lib.hid hs2
      have HS3 := Lib.hid hs3
      have HSUM := Lib.hid (sum_at hl)
      have HLL := Lib.hid (HLN.out k l hl)
      obtain ⟨g, cap, e1, b0⟩ := own_cell (hH.out.pull 2 rfl) k (strv l) (by rw [List.getElem?_map, hl]; rfl)
      obtain ⟨rfl, -, rfl⟩ := Value.slice.inj e1
      have q1 : IntKind.i64.wrap ((k : Int) + 1) = (k : Int) + 1 := by rw [IntKind.wrap_i64]; have := HSU.out; omega
      have q2 : (k : Int) < (L.length : Int) := by omega
      clear hs1 hs2 hs3 hl e1
      by_cases hsk : skip l = true
      · match l with
        | [] =>
          go_wp2
          go_roundw
          case rel => exact ⟨k + 1, n, d, c, z, _, _, by go_num, rfl, by omega, Lib.hid ⟨HS1.out hsk, by have := HSUM.out; have := hN.out.2.1; omega, by have := hN.out.2.2; omega⟩, hH⟩
          case measure => simp [intOf]; omega
        | c0 :: l =>
          have hc0 : c0 = 35 := by unfold skip at hsk; simpa using hsk
          subst hc0
          go_wp2
          go_roundw
          case rel => exact ⟨k + 1, n, d, c, z, _, _, by go_num, rfl, by omega, Lib.hid ⟨HS1.out hsk, by have := HSUM.out; have := hN.out.2.1; omega, by have := hN.out.2.2; omega⟩, hH⟩
          case measure => simp [intOf]; omega
      · have hsf : skip l = false := by simpa using hsk
        obtain ⟨c0, l', hln⟩ : ∃ c0 l', l = c0 :: l' := by
          cases l with
          | nil => exact absurd rfl hsk
          | cons c0 l' => exact ⟨c0, l', rfl⟩
        have hc : c0 ≠ 35 := fun h => hsk (by rw [hln, h]; rfl)
        have hpos : 0 < l.length := by rw [hln]; simp
        obtain ⟨hx0, hxe⟩ := idx_str hpos
        have hxc : l[0] = c0 := by simp [hln]
        rw [hxc] at hxe
        have c1 : ¬ ((c0.toNat : Int) = 35) := by intro h; apply hc; exact UInt8.toNat_inj.1 (show c0.toNat = 35 by omega)
        have c2 : ((c0.toNat : Int) == 35) = false := by simpa using c1
        have c3 : (0 : Int) < (l.length : Int) := by omega
        have c4 : (l == []) = false := by rw [hln]; rfl
        clear hxc hln hc hsk hpos c1
        generalize l = ln at *
        rcases head_five ln [115, 105, 122, 101, 32] rfl with ⟨rest, hr, hw⟩ | ⟨hn1, hn2⟩
        · have hr0 : rest.length ≠ 0 := fun h => hr (List.eq_nil_of_length_eq_zero h)
          have c5 : (5 : Int) < (ln.length : Int) := by have := hr0; rw [hw]; simp; omega
          have x5 : (⟨ln.toArray⟩ : ByteArray).extract 0 5 = ⟨[115, 105, 122, 101, 32].toArray⟩ := by rw [hw]; apply ByteArray.ext; simp
          have xr : (⟨ln.toArray⟩ : ByteArray).extract 5 ln.length = ⟨rest.toArray⟩ := by rw [hw]; apply ByteArray.ext; simp
          have hlp := lr_size ⟨n, d, c, z⟩ rest
          rw [← hw] at hlp
          obtain ⟨hsz1, hsz2⟩ := szok_rnum z rest
          have NC : Hid (∀ W, Calls Tryz.prog 69 #[strv rest, .int .i64 2147483647] W fun e w' => e = .returned (.int .i64 (rnum rest 2147483647)) ∧ W = w') := Lib.hid (fun W => (rnumber_c rest 2147483647 (by have := HLL.out; rw [hw] at this; simp at this; omega) (by decide) (by decide) W).mono (fun e' w' h => ⟨h.1, h.2.symm⟩))
          generalize rnum rest 2147483647 = nn at *
          by_cases h0 : 0 ≤ nn
          · cases z with
            | false =>
              have hp2 : Hid (parseL ⟨nn, d, c, true⟩ (L.drop (k + 1)) (k + 1) = q) := Lib.hid (by
                have := HS2.out hsf (by rw [hlp]; show szok false rest = true; rw [hsz1]; simp [h0])
                rw [hlp] at this
                simp only [hsz2 h0] at this
                exact this)
              have n1 : ¬ nn < 0 := by omega
              have m0 : wr.cell? ⟨xb + 1, 0, none⟩ = some (.int .i64 n) := (im_cells (hH.out.pull 3 rfl)).1
              have f0 := free_blk (blk_get (hH.out.pull 3 rfl)) 0
              have H5 : Hid (Hp w0 (wr.setCell ⟨xb + 1, 0, none⟩ (.int .i64 nn)) (OwnU (.slice ad d.length dc) d :: OwnN (.slice ac c.length cc) c :: OwnSp (.slice (some ⟨g, 0, none⟩) L.length cL) L :: IM (xb + 1) nn (.slice ad d.length dc) (.slice ac c.length cc) :: Blk xb (.cells zI 25 (0, 0)) :: r)) := Lib.hid ((((blk_set (hH.out.pull 3 rfl) 0 (.int .i64 nn)).pull 3 rfl).pull 3 rfl).pull 3 rfl)
              clear hlp hsz1 hsz2 hw hr HS1 HS2 HS3 hsf h0 hr0
              go_wp2_with fail
              refine (NC.out _).mono ?_; rintro e w2 ⟨rfl, rfl⟩
              clear NC
              go_wp2
              go_roundw
              case rel => exact ⟨k + 1, nn, d, c, true, _, _, by go_num, rfl, by omega, Lib.hid ⟨hp2.out, by have := HSUM.out; have := hN.out.2.1; omega, by have := hN.out.2.2; omega⟩, H5⟩
              case measure => simp [intOf]; omega
            | true =>
              have hqi : Hid (q = .inr k) := Lib.hid (HS3.out hsf (by rw [hlp]; show szok true rest = false; rw [hsz1]; simp))
              have n1 : ¬ nn < 0 := by omega
              clear hlp hsz1 hsz2 hw hr HS1 HS2 HS3 hsf h0 hr0
              go_wp2_with fail
              refine (NC.out _).mono ?_; rintro e w2 ⟨rfl, rfl⟩
              clear NC
              have bz := blk_get (hH.out.pull 4 rfl)
              have z0 : wr.cell? ⟨xb, 0, none⟩ = some (.int .i64 0) := cell_blk bz 0
              have e0 := free_blk bz 0
              have z1 : wr.cell? ⟨xb, 1, none⟩ = some (.slice none 0 0) := cell_blk bz 1
              have e1 := free_blk bz 1
              have z2 : wr.cell? ⟨xb, 2, none⟩ = some (.slice none 0 0) := cell_blk bz 2
              have e2 := free_blk bz 2
              have H5 := Lib.hid (set3 (hH.out.pull 4 rfl) (.int .i64 0) (.slice none 0 0) (.slice none 0 0))
              clear bz
              go_wp2
              refine bodyPost_ret (results_cell_tmp2_row rfl _ _ xb _ _ _ _ rfl (blk_get H5.out) Tryz.underlying25 rfl im_info) rfl ?_
              exact parse_none hqi.out H5.out.tail.tail.tail.tail.tail
          · have hqi : Hid (q = .inr k) := Lib.hid (HS3.out hsf (by rw [hlp]; show szok z rest = false; rw [hsz1]; simp [h0]))
            have n1 : nn < 0 := by omega
            clear hlp hsz1 hsz2 hw hr HS1 HS2 HS3 hsf h0 hr0
            go_wp2_with fail
            refine (NC.out _).mono ?_; rintro e w2 ⟨rfl, rfl⟩
            clear NC
            have bz := blk_get (hH.out.pull 4 rfl)
            have z0 : wr.cell? ⟨xb, 0, none⟩ = some (.int .i64 0) := cell_blk bz 0
            have e0 := free_blk bz 0
            have z1 : wr.cell? ⟨xb, 1, none⟩ = some (.slice none 0 0) := cell_blk bz 1
            have e1 := free_blk bz 1
            have z2 : wr.cell? ⟨xb, 2, none⟩ = some (.slice none 0 0) := cell_blk bz 2
            have e2 := free_blk bz 2
            have H5 := Lib.hid (set3 (hH.out.pull 4 rfl) (.int .i64 0) (.slice none 0 0) (.slice none 0 0))
            clear bz
            go_wp2
            refine bodyPost_ret (results_cell_tmp2_row rfl _ _ xb _ _ _ _ rfl (blk_get H5.out) Tryz.underlying25 rfl im_info) rfl ?_
            exact parse_none hqi.out H5.out.tail.tail.tail.tail.tail
        · rcases head_five ln [100, 97, 116, 97, 32] rfl with ⟨rest, hr, hw⟩ | ⟨hm1, hm2⟩
          · have hr0 : rest.length ≠ 0 := fun h => hr (List.eq_nil_of_length_eq_zero h)
            have c5 : (5 : Int) < (ln.length : Int) := by have := hr0; rw [hw]; simp; omega
            have x5 : (⟨ln.toArray⟩ : ByteArray).extract 0 5 = ⟨[100, 97, 116, 97, 32].toArray⟩ := by rw [hw]; apply ByteArray.ext; simp
            have xr : (⟨ln.toArray⟩ : ByteArray).extract 5 ln.length = ⟨rest.toArray⟩ := by rw [hw]; apply ByteArray.ext; simp
            have hlp := lr_data ⟨n, d, c, z⟩ rest
            rw [← hw] at hlp
            have hlr : ln.length = rest.length + 5 := by rw [hw]; simp
            have HLR := Lib.hid hlr
            have RB := Lib.hid (rbytes_c rest (by have := HLL.out; omega) hH.out)
            cases hdk : dok rest with
            | false =>
              rw [hdk] at RB
              have hqi : Hid (q = .inr k) := Lib.hid (HS3.out hsf (by rw [hlp]; exact hdk))
              clear hlp hw hr HS1 HS2 HS3 hsf hdk hn1 hn2 hlr hr0
              go_wp2_with fail
              refine RB.out.mono ?_; rintro e w2 ⟨v, lb, rfl, hlb, H3⟩
              obtain ⟨ab, cb, rfl⟩ := own_slice H3
              have HX := Lib.hid H3.tail
              clear RB H3 hH hlb
              have bz := blk_get (HX.out.pull 4 rfl)
              have z0 : w2.cell? ⟨xb, 0, none⟩ = some (.int .i64 0) := cell_blk bz 0
              have e0 := free_blk bz 0
              have z1 : w2.cell? ⟨xb, 1, none⟩ = some (.slice none 0 0) := cell_blk bz 1
              have e1 := free_blk bz 1
              have z2 : w2.cell? ⟨xb, 2, none⟩ = some (.slice none 0 0) := cell_blk bz 2
              have e2 := free_blk bz 2
              have H5 := Lib.hid (set3 (HX.out.pull 4 rfl) (.int .i64 0) (.slice none 0 0) (.slice none 0 0))
              clear bz
              go_wp2
              refine bodyPost_ret (results_cell_tmp2_row rfl _ _ xb _ _ _ _ rfl (blk_get H5.out) Tryz.underlying25 rfl im_info) rfl ?_
              exact parse_none hqi.out H5.out.tail.tail.tail.tail.tail
            | true =>
              rw [hdk] at RB
              have hp2 : Hid (parseL ⟨n, d ++ hbs rest, c, z⟩ (L.drop (k + 1)) (k + 1) = q) := Lib.hid (by
                have := HS2.out hsf (by rw [hlp]; exact hdk)
                rw [hlp] at this
                simp only [hdk, if_true] at this
                exact this)
              have hbp : Hid (0 < (hbs rest).length ∧ (hbs rest).length ≤ rest.length) := Lib.hid ⟨hbs_pos hdk, hbs_le rest⟩
              clear hlp hw hr HS1 HS2 HS3 hsf hdk hn1 hn2 hlr hr0
              go_wp2_with fail
              refine RB.out.mono ?_; rintro e w2 ⟨v, lb, rfl, hlb, H3⟩
              have hlb' := hlb rfl
              subst hlb'
              obtain ⟨g4, c4, rfl⟩ := Go.Joins.ownsRow_form (own_get H3) hbp.out.1
              have H4 := Lib.hid (H3.pull 1 rfl)
              have HCS := Lib.hid ((own_get H3).cells (g := g4) rfl)
              generalize hbs rest = lb at *
              clear RB H3 hH hlb b0
              have m1 : w2.cell? ⟨xb + 1, 1, none⟩ = some (.slice ad d.length dc) := (im_cells (H4.out.pull 4 rfl)).2.1
              go_wp2_with (at_builtin; refine wpList_append_hp rfl (.tmp 92) (.tmp 93) 22 rfl 5 i0 _ 1 1 Tryz.underlying22 hi hz0 hz1 hz2 rfl (by decide) H4.out rfl ⟨g4, 0, none⟩ lb.length c4 (lb.map bv) rfl (by simp) HCS.out (by simp [Value.oneCell', bv]) (by have := hbp.out; have := HLL.out; have := HLR.out; have := hN.out.2.1; have := HSU.out.2.2; omega) (by omega) ?_)
              intro v' w6 HA0
              have HA := ou_snoc (zs := d) (ys := lb) HA0 rfl rfl
              obtain ⟨a6, c6, rfl⟩ := own_slice HA
              have HB := Lib.hid HA.up1.tail
              clear HA0 HA H4 m1 HCS
              have m1 : w6.cell? ⟨xb + 1, 1, none⟩ = some (.slice ad d.length dc) := (im_cells (HB.out.pull 3 rfl)).2.1
              have f1 := free_blk (blk_get (HB.out.pull 3 rfl)) 1
              have H5 : Hid (Hp w0 (w6.setCell ⟨xb + 1, 1, none⟩ (.slice a6 (d ++ lb).length c6)) (OwnU (.slice a6 (d ++ lb).length c6) (d ++ lb) :: OwnN (.slice ac c.length cc) c :: OwnSp (.slice (some ⟨g, 0, none⟩) L.length cL) L :: IM (xb + 1) n (.slice a6 (d ++ lb).length c6) (.slice ac c.length cc) :: Blk xb (.cells zI 25 (0, 0)) :: r)) := Lib.hid ((((blk_set (HB.out.pull 3 rfl) 1 (.slice a6 (d ++ lb).length c6)).pull 3 rfl).pull 3 rfl).pull 3 rfl)
              clear HB
              generalize hdd : d ++ lb = d2 at *
              have HDD : Hid (d2.length = d.length + lb.length) := Lib.hid (by rw [← hdd]; simp)
              clear hdd
              go_wp2
              go_roundw
              case rel => exact ⟨k + 1, n, d2, c, z, _, _, by go_num, rfl, by omega, Lib.hid ⟨hp2.out, by have := HSUM.out; have := hN.out.2.1; have := HDD.out; have := hbp.out; have := HLR.out; omega, by have := hN.out.2.2; omega⟩, H5⟩
              case measure => simp [intOf]; omega
          · by_cases h5 : 5 < ln.length
            · have c5 : (5 : Int) < (ln.length : Int) := by omega
              have x5 := ext_take ln 5
              have t1 : (ln.take 5 == [115, 105, 122, 101, 32]) = false := by simpa using hn2 h5
              have t2 : (ln.take 5 == [100, 97, 116, 97, 32]) = false := by simpa using hm2 h5
              generalize ln.take 5 = t5 at *
              obtain ⟨x, hx1, hx2, hx3⟩ := pvv_inst ln
              have RP0 := rparse_c ln (by have := HLL.out; omega) hH.out
              rw [hx1, hx3] at RP0
              obtain ⟨hl1, hl2⟩ := lr_ins ⟨n, d, c, z⟩ ln hn1 hm1
              obtain ⟨x0, x1, x2, x3⟩ := x
              cases hii : inst ln with
              | none =>
                rw [hii] at RP0 hl1
                have RP : Hid (Calls Tryz.prog 71 #[strv ln] wr fun e w' => e = .returned (.tuple #[i4v (x0, x1, x2, x3), .int .i64 14]) ∧ Hp w0 w' _) := Lib.hid RP0
                have hqi : Hid (q = .inr k) := Lib.hid (HS3.out hsf hl1)
                clear RP0 hl1 hl2 hx1 hx2 hx3 hii HS1 HS2 HS3 hsf hn1 hn2 hm1 hm2
                go_wp2_with fail
                refine RP.out.mono ?_; rintro e w2 ⟨rfl, H3⟩
                have H4 := Lib.hid (blk_new H3 (.cells #[bv x0, bv x1, bv x2, bv x3] 61))
                clear RP H3 hH b0
                go_upto_region 21 with fail
                have HX := Lib.hid H4.out.tail
                generalize (w2.alloc (.cells #[bv x0, bv x1, bv x2, bv x3] 61)) = w3 at *
                clear H4
                have bz := blk_get (HX.out.pull 4 rfl)
                have z0 : w3.cell? ⟨xb, 0, none⟩ = some (.int .i64 0) := cell_blk bz 0
                have e0 := free_blk bz 0
                have z1 : w3.cell? ⟨xb, 1, none⟩ = some (.slice none 0 0) := cell_blk bz 1
                have e1 := free_blk bz 1
                have z2 : w3.cell? ⟨xb, 2, none⟩ = some (.slice none 0 0) := cell_blk bz 2
                have e2 := free_blk bz 2
                have H5 := Lib.hid (set3 (HX.out.pull 4 rfl) (.int .i64 0) (.slice none 0 0) (.slice none 0 0))
                clear bz
                go_wp2
                refine bodyPost_ret (results_cell_tmp2_row rfl _ _ xb _ _ _ _ rfl (blk_get H5.out) Tryz.underlying25 rfl im_info) rfl ?_
                exact parse_none hqi.out H5.out.tail.tail.tail.tail.tail
              | some y =>
                rw [hii] at RP0 hl1 hl2 hx2
                have RP : Hid (Calls Tryz.prog 71 #[strv ln] wr fun e w' => e = .returned (.tuple #[i4v (x0, x1, x2, x3), .int .i64 0]) ∧ Hp w0 w' _) := Lib.hid RP0
                have hp2 : Hid (parseL ⟨n, d, c ++ [(x0, x1, x2, x3)], z⟩ (L.drop (k + 1)) (k + 1) = q) := Lib.hid (by
                  have := HS2.out hsf hl1
                  rw [hl2 rfl] at this
                  rw [hx2]
                  exact this)
                clear RP0 hl1 hl2 hx1 hx2 hx3 hii HS1 HS2 HS3 hsf hn1 hn2 hm1 hm2
                go_wp2_with fail
                refine RP.out.mono ?_; rintro e w2 ⟨rfl, H3⟩
                have H4 := Lib.hid (blk_new H3 (.cells #[bv x0, bv x1, bv x2, bv x3] 61))
                clear RP H3 hH b0
                go_upto_region 22 with fail
                generalize (w2.alloc (.cells #[bv x0, bv x1, bv x2, bv x3] 61)) = w3 at *
                generalize w2.heap.size = yb at *
                have m2 : w3.cell? ⟨xb + 1, 2, none⟩ = some (.slice ac c.length cc) := (im_cells (H4.out.pull 4 rfl)).2.2
                have by0 := blk_get H4.out
                have y0 : w3.cell? ⟨yb, 0, none⟩ = some (bv x0) := cell_blk by0 0
                have y1 : w3.cell? ⟨yb, 1, none⟩ = some (bv x1) := cell_blk by0 1
                have y2 : w3.cell? ⟨yb, 2, none⟩ = some (bv x2) := cell_blk by0 2
                have y3 : w3.cell? ⟨yb, 3, none⟩ = some (bv x3) := cell_blk by0 3
                clear by0
                have HP := Lib.hid (Hp.alloc (H4.out.pull 2 rfl) (.cells #[bv x0, bv x1, bv x2, bv x3] 61))
                go_wp2_with (at_builtin; refine wpList_append_hp rfl (.tmp 109) (.tmp 111) 23 rfl 61 i1 _ 4 4 Tryz.underlying23 hi' hz0' hz1' hz2' rfl (by decide) HP.out rfl ⟨w3.heap.size, 0, none⟩ 1 1 (i4c (x0, x1, x2, x3)) rfl rfl (blk_newsU (l := i4c (x0, x1, x2, x3)) (blk_alloc_new w3 _)) (by simp [Value.oneCell', bv, i4c]) (by have := hN.out.2.2; have := HSU.out; omega) (by omega) ?_)
                intro v' w9 HA0
                have HA := on_snoc HA0
                obtain ⟨a6, c6, rfl⟩ := own_slice HA
                have HB := Lib.hid HA.up1.tail
                clear HA0 HA H4 HP m2 y0 y1 y2 y3
                have m3 : w9.cell? ⟨xb + 1, 2, none⟩ = some (.slice ac c.length cc) := (im_cells (HB.out.pull 3 rfl)).2.2
                have f3 := free_blk (blk_get (HB.out.pull 3 rfl)) 2
                have H5 : Hid (Hp w0 (w9.setCell ⟨xb + 1, 2, none⟩ (.slice a6 (c ++ [(x0, x1, x2, x3)]).length c6)) (OwnU (.slice ad d.length dc) d :: OwnN (.slice a6 (c ++ [(x0, x1, x2, x3)]).length c6) (c ++ [(x0, x1, x2, x3)]) :: OwnSp (.slice (some ⟨g, 0, none⟩) L.length cL) L :: IM (xb + 1) n (.slice ad d.length dc) (.slice a6 (c ++ [(x0, x1, x2, x3)]).length c6) :: Blk xb (.cells zI 25 (0, 0)) :: r)) := Lib.hid ((((blk_set (HB.out.pull 3 rfl) 2 (.slice a6 (c ++ [(x0, x1, x2, x3)]).length c6)).pull 3 rfl).pull 2 rfl).pull 3 rfl)
                clear HB
                generalize hdd : c ++ [(x0, x1, x2, x3)] = c2 at *
                have HDD : Hid (c2.length = c.length + 1) := Lib.hid (by rw [← hdd]; simp)
                clear hdd
                go_wp2
                go_roundw
                case rel => exact ⟨k + 1, n, d, c2, z, _, _, by go_num, rfl, by omega, Lib.hid ⟨hp2.out, by have := HSUM.out; have := hN.out.2.1; omega, by have := hN.out.2.2; have := HDD.out; omega⟩, H5⟩
                case measure => simp [intOf]; omega
            · have c5 : ¬ (5 : Int) < (ln.length : Int) := by omega
              obtain ⟨x, hx1, hx2, hx3⟩ := pvv_inst ln
              have RP0 := rparse_c ln (by have := HLL.out; omega) hH.out
              rw [hx1, hx3] at RP0
              obtain ⟨hl1, hl2⟩ := lr_ins ⟨n, d, c, z⟩ ln hn1 hm1
              obtain ⟨x0, x1, x2, x3⟩ := x
              cases hii : inst ln with
              | none =>
                rw [hii] at RP0 hl1
                have RP : Hid (Calls Tryz.prog 71 #[strv ln] wr fun e w' => e = .returned (.tuple #[i4v (x0, x1, x2, x3), .int .i64 14]) ∧ Hp w0 w' _) := Lib.hid RP0
                have hqi : Hid (q = .inr k) := Lib.hid (HS3.out hsf hl1)
                clear RP0 hl1 hl2 hx1 hx2 hx3 hii HS1 HS2 HS3 hsf hn1 hn2 hm1 hm2
                go_wp2_with fail
                refine RP.out.mono ?_; rintro e w2 ⟨rfl, H3⟩
                have H4 := Lib.hid (blk_new H3 (.cells #[bv x0, bv x1, bv x2, bv x3] 61))
                clear RP H3 hH b0
                go_upto_region 21 with fail
                have HX := Lib.hid H4.out.tail
                generalize (w2.alloc (.cells #[bv x0, bv x1, bv x2, bv x3] 61)) = w3 at *
                clear H4
                have bz := blk_get (HX.out.pull 4 rfl)
                have z0 : w3.cell? ⟨xb, 0, none⟩ = some (.int .i64 0) := cell_blk bz 0
                have e0 := free_blk bz 0
                have z1 : w3.cell? ⟨xb, 1, none⟩ = some (.slice none 0 0) := cell_blk bz 1
                have e1 := free_blk bz 1
                have z2 : w3.cell? ⟨xb, 2, none⟩ = some (.slice none 0 0) := cell_blk bz 2
                have e2 := free_blk bz 2
                have H5 := Lib.hid (set3 (HX.out.pull 4 rfl) (.int .i64 0) (.slice none 0 0) (.slice none 0 0))
                clear bz
                go_wp2
                refine bodyPost_ret (results_cell_tmp2_row rfl _ _ xb _ _ _ _ rfl (blk_get H5.out) Tryz.underlying25 rfl im_info) rfl ?_
                exact parse_none hqi.out H5.out.tail.tail.tail.tail.tail
              | some y =>
                rw [hii] at RP0 hl1 hl2 hx2
                have RP : Hid (Calls Tryz.prog 71 #[strv ln] wr fun e w' => e = .returned (.tuple #[i4v (x0, x1, x2, x3), .int .i64 0]) ∧ Hp w0 w' _) := Lib.hid RP0
                have hp2 : Hid (parseL ⟨n, d, c ++ [(x0, x1, x2, x3)], z⟩ (L.drop (k + 1)) (k + 1) = q) := Lib.hid (by
                  have := HS2.out hsf hl1
                  rw [hl2 rfl] at this
                  rw [hx2]
                  exact this)
                clear RP0 hl1 hl2 hx1 hx2 hx3 hii HS1 HS2 HS3 hsf hn1 hn2 hm1 hm2
                go_wp2_with fail
                refine RP.out.mono ?_; rintro e w2 ⟨rfl, H3⟩
                have H4 := Lib.hid (blk_new H3 (.cells #[bv x0, bv x1, bv x2, bv x3] 61))
                clear RP H3 hH b0
                go_upto_region 22 with fail
                generalize (w2.alloc (.cells #[bv x0, bv x1, bv x2, bv x3] 61)) = w3 at *
                generalize w2.heap.size = yb at *
                have m2 : w3.cell? ⟨xb + 1, 2, none⟩ = some (.slice ac c.length cc) := (im_cells (H4.out.pull 4 rfl)).2.2
                have by0 := blk_get H4.out
                have y0 : w3.cell? ⟨yb, 0, none⟩ = some (bv x0) := cell_blk by0 0
                have y1 : w3.cell? ⟨yb, 1, none⟩ = some (bv x1) := cell_blk by0 1
                have y2 : w3.cell? ⟨yb, 2, none⟩ = some (bv x2) := cell_blk by0 2
                have y3 : w3.cell? ⟨yb, 3, none⟩ = some (bv x3) := cell_blk by0 3
                clear by0
                have HP := Lib.hid (Hp.alloc (H4.out.pull 2 rfl) (.cells #[bv x0, bv x1, bv x2, bv x3] 61))
                go_wp2_with (at_builtin; refine wpList_append_hp rfl (.tmp 109) (.tmp 111) 23 rfl 61 i1 _ 4 4 Tryz.underlying23 hi' hz0' hz1' hz2' rfl (by decide) HP.out rfl ⟨w3.heap.size, 0, none⟩ 1 1 (i4c (x0, x1, x2, x3)) rfl rfl (blk_newsU (l := i4c (x0, x1, x2, x3)) (blk_alloc_new w3 _)) (by simp [Value.oneCell', bv, i4c]) (by have := hN.out.2.2; have := HSU.out; omega) (by omega) ?_)
                intro v' w9 HA0
                have HA := on_snoc HA0
                obtain ⟨a6, c6, rfl⟩ := own_slice HA
                have HB := Lib.hid HA.up1.tail
                clear HA0 HA H4 HP m2 y0 y1 y2 y3
                have m3 : w9.cell? ⟨xb + 1, 2, none⟩ = some (.slice ac c.length cc) := (im_cells (HB.out.pull 3 rfl)).2.2
                have f3 := free_blk (blk_get (HB.out.pull 3 rfl)) 2
                have H5 : Hid (Hp w0 (w9.setCell ⟨xb + 1, 2, none⟩ (.slice a6 (c ++ [(x0, x1, x2, x3)]).length c6)) (OwnU (.slice ad d.length dc) d :: OwnN (.slice a6 (c ++ [(x0, x1, x2, x3)]).length c6) (c ++ [(x0, x1, x2, x3)]) :: OwnSp (.slice (some ⟨g, 0, none⟩) L.length cL) L :: IM (xb + 1) n (.slice ad d.length dc) (.slice a6 (c ++ [(x0, x1, x2, x3)]).length c6) :: Blk xb (.cells zI 25 (0, 0)) :: r)) := Lib.hid ((((blk_set (HB.out.pull 3 rfl) 2 (.slice a6 (c ++ [(x0, x1, x2, x3)]).length c6)).pull 3 rfl).pull 2 rfl).pull 3 rfl)
                clear HB
                generalize hdd : c ++ [(x0, x1, x2, x3)] = c2 at *
                have HDD : Hid (c2.length = c.length + 1) := Lib.hid (by rw [← hdd]; simp)
                clear hdd
                go_wp2
                go_roundw
                case rel => exact ⟨k + 1, n, d, c2, z, _, _, by go_num, rfl, by omega, Lib.hid ⟨hp2.out, by have := HSUM.out; have := hN.out.2.1; omega, by have := hN.out.2.2; have := HDD.out; omega⟩, H5⟩
                case measure => simp [intOf]; omega
    · obtain rfl : k = L.length := by omega
      have hq : q = .inl ⟨n, d, c, z⟩ := by have := hN.out.1; rw [List.drop_length] at this; exact this.symm
      have HQ := Lib.hid hq
      have IC := Lib.hid (rimck_c n ad ac dc cc d c wr (CellsIn.own hH.out.tail))
      obtain ⟨s0, s1, s2⟩ := im_cells (hH.out.pull 3 rfl)
      clear hN hq hlt hk
      cases hck : imck n d c with
      | true =>
        rw [hck] at IC
        have HCK := Lib.hid hck
        clear hck
        go_wp2_with fail
        refine IC.out.mono ?_; rintro e w2 ⟨rfl, hb⟩
        have H2 := Lib.hid (hH.out.below_read hb)
        clear hb IC hH s0 s1 s2
        obtain ⟨r0, r1, r2⟩ := im_cells (H2.out.pull 3 rfl)
        have bz := blk_get (H2.out.pull 4 rfl)
        have z0 : w2.cell? ⟨xb, 0, none⟩ = some (.int .i64 0) := cell_blk bz 0
        have e0 := free_blk bz 0
        have z1 : w2.cell? ⟨xb, 1, none⟩ = some (.slice none 0 0) := cell_blk bz 1
        have e1 := free_blk bz 1
        have z2 : w2.cell? ⟨xb, 2, none⟩ = some (.slice none 0 0) := cell_blk bz 2
        have e2 := free_blk bz 2
        have H5 := Lib.hid (set3 (H2.out.pull 4 rfl) (.int .i64 n) (.slice ad d.length dc) (.slice ac c.length cc))
        clear bz H2
        go_wp2
        refine bodyPost_ret (results_cell_tmp2_row rfl _ _ xb _ _ _ _ rfl (blk_get H5.out) Tryz.underlying25 rfl im_info) rfl ?_
        exact parse_some (t := ⟨n, d, c, z⟩) HQ.out HCK.out (((((H5.out.pull 4 rfl).tail.pull 3 rfl).tail.pull 0 rfl).tail))
      | false =>
        rw [hck] at IC
        have HCK := Lib.hid hck
        clear hck
        go_wp2_with fail
        refine IC.out.mono ?_; rintro e w2 ⟨rfl, hb⟩
        have H2 := Lib.hid (hH.out.below_read hb)
        clear hb IC hH s0 s1 s2
        have bz := blk_get (H2.out.pull 4 rfl)
        have z0 : w2.cell? ⟨xb, 0, none⟩ = some (.int .i64 0) := cell_blk bz 0
        have e0 := free_blk bz 0
        have z1 : w2.cell? ⟨xb, 1, none⟩ = some (.slice none 0 0) := cell_blk bz 1
        have e1 := free_blk bz 1
        have z2 : w2.cell? ⟨xb, 2, none⟩ = some (.slice none 0 0) := cell_blk bz 2
        have e2 := free_blk bz 2
        have H5 := Lib.hid (set3 (H2.out.pull 4 rfl) (.int .i64 0) (.slice none 0 0) (.slice none 0 0))
        clear bz H2
        go_wp2
        refine bodyPost_ret (results_cell_tmp2_row rfl _ _ xb _ _ _ _ rfl (blk_get H5.out) Tryz.underlying25 rfl im_info) rfl ?_
        exact parse_not (t := ⟨n, d, c, z⟩) HQ.out HCK.out H5.out.tail.tail.tail.tail.tail

def pN (q : Rs ⊕ Nat) : Int := match q with | .inl t => if imck t.n t.d t.c then t.n else 0 | .inr _ => 0
def pD (q : Rs ⊕ Nat) : List UInt8 := match q with | .inl t => if imck t.n t.d t.c then t.d else [] | .inr _ => []
def pC (q : Rs ⊕ Nat) : List I4 := match q with | .inl t => if imck t.n t.d t.c then t.c else [] | .inr _ => []
def pI (q : Rs ⊕ Nat) : Int := match q with | .inl _ => 0 | .inr i => (i : Int)
def pE (q : Rs ⊕ Nat) : Int := match q with | .inl t => if imck t.n t.d t.c then 0 else 1 | .inr _ => 14
theorem ba_exts (s : ByteArray) : Value.string s = strv s.data.toList := by
  show Value.string s = Value.string ⟨s.data.toList.toArray⟩
  simp
theorem parse_open {w0 w' : World} {r : List Thing} {q : Rs ⊕ Nat} {e : Ending} (h : ParsePost w0 r q e w') : ∃ ad dc ac cc, e = .returned (.tuple #[imV (pN q) ad (pD q).length dc ac (pC q).length cc, .int .i64 (pI q), .int .i64 (pE q)]) ∧ Hp w0 w' (OwnU (.slice ad (pD q).length dc) (pD q) :: OwnN (.slice ac (pC q).length cc) (pC q) :: r) := by
  match q, h with
  | .inl t, h =>
    change (if imck t.n t.d t.c = true then _ else _) at h
    cases hk : imck t.n t.d t.c with
    | true =>
      rw [hk] at h
      obtain ⟨dv, cv, rfl, H⟩ := h
      obtain ⟨ad, dc, rfl⟩ := own_slice H
      obtain ⟨ac, cc, rfl⟩ := own_slice H.tail
      have e1 : pN (.inl t) = t.n := by unfold pN; simp [hk]
      have e2 : pD (.inl t) = t.d := by unfold pD; simp [hk]
      have e3 : pC (.inl t) = t.c := by unfold pC; simp [hk]
      have e4 : pE (.inl t) = 0 := by unfold pE; simp [hk]
      rw [e1, e2, e3, e4]
      exact ⟨ad, dc, ac, cc, rfl, H⟩
    | false =>
      rw [hk] at h
      obtain ⟨rfl, H⟩ := h
      have e1 : pN (.inl t) = 0 := by unfold pN; simp [hk]
      have e2 : pD (.inl t) = [] := by unfold pD; simp [hk]
      have e3 : pC (.inl t) = [] := by unfold pC; simp [hk]
      have e4 : pE (.inl t) = 1 := by unfold pE; simp [hk]
      rw [e1, e2, e3, e4]
      exact ⟨none, 0, none, 0, rfl, own_nil (own_nil H 61 4) 5 1⟩
  | .inr i, h =>
    obtain ⟨rfl, H⟩ := h
    exact ⟨none, 0, none, 0, rfl, own_nil (own_nil H 61 4) 5 1⟩
theorem parses_len (s : List UInt8) : (pD (parseL rs0 (lns s) 0)).length ≤ 5000 ∧ (pC (parseL rs0 (lns s) 0)).length ≤ 5000 := by
  generalize parseL rs0 (lns s) 0 = q
  match q with
  | .inr i => simp [pD, pC]
  | .inl t =>
    unfold pD pC
    simp only
    cases hk : imck t.n t.d t.c with
    | false => simp
    | true =>
      obtain ⟨b1, b2, b3, b4, b5⟩ := imck_bounds hk
      simp
      omega
theorem u_keep {w0 w : World} {r : List Thing} {v : Value} {bs : List UInt8} (H : Hp w0 w (OwnU v bs :: r)) : Hp w0 w (BkB.OwnX v bs.length :: r) := (ownm_of H).as fun S h => ⟨bs.map (fun x => (x.toNat : Int)), by simp, by
  have e : (bs.map (fun x => (x.toNat : Int))).map (Value.int .u8) = bs.map bv := by rw [List.map_map]; rfl
  show (OwnM 5 1 v (bs.map (fun x => (x.toNat : Int))).length ((bs.map (fun x => (x.toNat : Int))).map (Value.int .u8))).at_ w S
  rw [e, List.length_map]; exact h⟩
set_option maxHeartbeats 16000000 in
set_option maxRecDepth 20000 in
theorem parses_c (w : World) (L : Lf w) (s : List UInt8) :
    Calls Tryz.prog 5 #[strv s] w fun e w' => e = .returned (.bool true) ∧ Below w.heap.size w w' := by
  by_cases hbl : 50000 < s.length
  · have j1 : (50000 : Int) < (s.length : Int) := by omega
    go_enter Tryz.func5, Tryz.ntmps5
    go_wp2
    go_ret
    exact ⟨rfl, Below.refl _ _⟩
  have j1 : ¬ (50000 : Int) < (s.length : Int) := by omega
  have H0 := Lib.hid (Hp.start w)
  have P1 := Lib.hid (fun (W : World) (r : List Thing) (HW : Hp w W r) => imparse_c L s (by omega) HW)
  have P3 := Lib.hid (fun (W : World) (r : List Thing) (HW : Hp w W r) => rimparse_c s (by omega) HW)
  have hln := parses_len s
  generalize parseL rs0 (lns s) 0 = q at *
  have HLN := Lib.hid hln
  have GO : Hid (∀ (wb : World) (r : List Thing) (e : Ending), ParsePost w r q e wb → _) := Lib.hid (fun wb r e h => parse_open h)
  have hee : (pE q != pE q) = false := by simp
  have hff : (pI q != pI q) = false := by simp
  clear hln hbl
  generalize pE q = er at *
  generalize pI q = li at *
  generalize pN q = n at *
  generalize pD q = d at *
  generalize pC q = c at *
  go_enter Tryz.func5, Tryz.ntmps5
  go_wp2_with fail
  refine (P1.out _ _ H0.out).mono ?_; intro e2 w2 h
  obtain ⟨a1, c1, a2, c2, rfl, K⟩ := GO.out _ _ _ h
  have H2 := Lib.hid (blk_new K (.cells #[.int .i64 n, .slice a1 d.length c1, .slice a2 c.length c2] 25))
  clear K h H0
  go_upto_region 4 with fail
  generalize (w2.alloc (.cells #[.int .i64 n, .slice a1 d.length c1, .slice a2 c.length c2] 25)) = w3 at *
  generalize w2.heap.size = t1 at *
  have H3 : Hid (Hp w w3 [IM t1 n (.slice a1 d.length c1) (.slice a2 c.length c2), OwnU (.slice a1 d.length c1) d, OwnN (.slice a2 c.length c2) c]) := H2
  clear H2
  go_wp2_with fail
  refine (P1.out _ _ H3.out).mono ?_; intro e3 w4 h
  obtain ⟨b1, f1, b2, f2, rfl, K⟩ := GO.out _ _ _ h
  have H4 := Lib.hid (blk_new K (.cells #[.int .i64 n, .slice b1 d.length f1, .slice b2 c.length f2] 25))
  clear K h P1 H3
  go_upto_region 5 with fail
  generalize (w4.alloc (.cells #[.int .i64 n, .slice b1 d.length f1, .slice b2 c.length f2] 25)) = w5 at *
  generalize w4.heap.size = t2 at *
  have H5 : Hid (Hp w w5 [IM t2 n (.slice b1 d.length f1) (.slice b2 c.length f2), OwnU (.slice b1 d.length f1) d, OwnN (.slice b2 c.length f2) c, IM t1 n (.slice a1 d.length c1) (.slice a2 c.length c2), OwnU (.slice a1 d.length c1) d, OwnN (.slice a2 c.length c2) c]) := H4
  clear H4
  go_wp2_with fail
  refine (P3.out _ _ H5.out).mono ?_; intro e4 w6 h
  obtain ⟨r1, s1, r2, s2, rfl, K⟩ := GO.out _ _ _ h
  have H6 := Lib.hid (blk_new K (.cells #[.int .i64 n, .slice r1 d.length s1, .slice r2 c.length s2] 25))
  clear K h P3 H5 GO
  go_upto_region 6 with fail
  generalize (w6.alloc (.cells #[.int .i64 n, .slice r1 d.length s1, .slice r2 c.length s2] 25)) = w7 at *
  generalize w6.heap.size = t3 at *
  have H7 : Hid (Hp w w7 [IM t3 n (.slice r1 d.length s1) (.slice r2 c.length s2), OwnU (.slice r1 d.length s1) d, OwnN (.slice r2 c.length s2) c, IM t2 n (.slice b1 d.length f1) (.slice b2 c.length f2), OwnU (.slice b1 d.length f1) d, OwnN (.slice b2 c.length f2) c, IM t1 n (.slice a1 d.length c1) (.slice a2 c.length c2), OwnU (.slice a1 d.length c1) d, OwnN (.slice a2 c.length c2) c]) := H6
  clear H6
  have hdl : d.length < 1000000000 := by have := HLN.out; omega
  have hcl : c.length < 1000000000 := by have := HLN.out; omega
  have S1 := Lib.hid (same_image n n a1 r1 a2 r2 c1 s1 c2 s2 d d c c w7 (CellsIn.own (H7.out.pull 7 rfl)) (CellsIn.own (H7.out.pull 1 rfl)) (CellsIn.own (H7.out.pull 8 rfl)) (CellsIn.own (H7.out.pull 2 rfl)) hdl hdl hcl hcl)
  have S2 := Lib.hid (fun (W : World) (HW : Hp w W [IM t3 n (.slice r1 d.length s1) (.slice r2 c.length s2), OwnU (.slice r1 d.length s1) d, OwnN (.slice r2 c.length s2) c, IM t2 n (.slice b1 d.length f1) (.slice b2 c.length f2), OwnU (.slice b1 d.length f1) d, OwnN (.slice b2 c.length f2) c, IM t1 n (.slice a1 d.length c1) (.slice a2 c.length c2), OwnU (.slice a1 d.length c1) d, OwnN (.slice a2 c.length c2) c]) => same_image n n b1 r1 b2 r2 f1 s1 f2 s2 d d c c W (CellsIn.own (HW.pull 4 rfl)) (CellsIn.own (HW.pull 1 rfl)) (CellsIn.own (HW.pull 5 rfl)) (CellsIn.own (HW.pull 2 rfl)) hdl hdl hcl hcl)
  have htt : (decide (n = n) && decide (d = d) && decide (c = c)) = true := by simp
  rw [htt] at S1 S2
  clear hdl hcl htt
  obtain ⟨x0, x1, x2⟩ := im_cells (H7.out.pull 6 rfl)
  obtain ⟨y0, y1, y2⟩ := im_cells H7.out
  go_wp2_with fail
  refine S1.out.mono ?_; rintro e5 w8 ⟨rfl, hbb⟩
  have H8 := Lib.hid (H7.out.below_read hbb)
  clear S1 hbb H7 x0 x1 x2 y0 y1 y2
  obtain ⟨x0, x1, x2⟩ := im_cells (H8.out.pull 3 rfl)
  obtain ⟨y0, y1, y2⟩ := im_cells H8.out
  go_wp2_with fail
  refine (S2.out _ H8.out).mono ?_; rintro e6 wz ⟨rfl, hbb⟩
  have HKK := Lib.hid (H8.out.below_read hbb)
  clear S2 hbb H8 x0 x1 x2 y0 y1 y2
  go_upto_region 9 with fail
  have HB1 := Lib.hid (own_nil (own_nil (blk_new HKK.out (.cells (BkB.bk (.slice none 0 0) 0 (.slice none 0 0)) 42)) 105 3) 92 3)
  have HB2 := Lib.hid (HB1.out.pull 2 rfl)
  clear HB1
  have HB3 : Hid (Hp w (wz.alloc (.cells #[.int .i64 0, .slice none 0 0, .slice none 0 0, .slice none 0 0, .slice none 0 0, .slice none 0 0, .slice none 0 0, .slice none 0 0, .slice none 0 0] 42)) (BkB.Bkt (.slice none 0 0) wz.heap.size 0 (.slice none 0 0) :: BkB.Rows_ (.slice none 0 0) [] :: BkI.Rows_ (.slice none 0 0) [] :: [IM t3 n (.slice r1 d.length s1) (.slice r2 c.length s2), OwnU (.slice r1 d.length s1) d, OwnN (.slice r2 c.length s2) c, IM t2 n (.slice b1 d.length f1) (.slice b2 c.length f2), OwnU (.slice b1 d.length f1) d, OwnN (.slice b2 c.length f2) c, IM t1 n (.slice a1 d.length c1) (.slice a2 c.length c2), OwnU (.slice a1 d.length c1) d, OwnN (.slice a2 c.length c2) c])) := HB2
  clear HB2 HKK
  generalize (wz.alloc (.cells #[.int .i64 0, .slice none 0 0, .slice none 0 0, .slice none 0 0, .slice none 0 0, .slice none 0 0, .slice none 0 0, .slice none 0 0, .slice none 0 0] 42)) = wb at *
  generalize wz.heap.size = kb at *
  have K1 := Lib.hid (kimage_c n a1 a2 d.length c1 c.length c2 HB3.out (by omega) (by simp) (by simp))
  obtain ⟨x0, x1, x2⟩ := im_cells (HB3.out.pull 9 rfl)
  go_wp2_with fail
  refine K1.out.mono ?_; rintro ea wk2 ⟨rfl, vb2, vi2, K⟩
  have HB5 := Lib.hid K
  clear K K1 HB3 x0 x1 x2
  have K3 := Lib.hid (kimage_c n b1 b2 d.length f1 c.length f2 HB5.out (by omega) (by simp) (by simp))
  obtain ⟨x0, x1, x2⟩ := im_cells (HB5.out.pull 6 rfl)
  go_wp2_with fail
  refine K3.out.mono ?_; rintro ec wk3 ⟨rfl, vb3, vi3, K⟩
  have L1 := BkI.ownx_of (K.pull 8 rfl)
  have L2 := BkI.ownx_of (L1.pull 11 rfl)
  have L3 := L2.pull 4 rfl
  have L4 := u_keep (L3.pull 9 rfl)
  have L5 := u_keep (L4.pull 11 rfl)
  have L7 := (L5.pull 6 rfl).pull 6 rfl
  have HX := Lib.hid L7
  clear K K3 HB5 L1 L2 L3 L4 L5 L7 x0 x1 x2
  have AP := Lib.hid (apart_c (xs := [⟨(.slice a1 d.length c1), d.length, 0 + 1⟩, ⟨(.slice b1 d.length f1), d.length, 0 + 1 + 1 + 1⟩]) (ys := [⟨(.slice a2 c.length c2), c.length, 0 + 1 + 1⟩, ⟨(.slice b2 c.length f2), c.length, 0 + 1 + 1 + 1 + 1⟩]) HX.out (by have := HLN.out; intro h hh; simp only [List.mem_cons, List.not_mem_nil, or_false] at hh; rcases hh with rfl | rfl <;> (dsimp only; omega)) (by simp) (by have := HLN.out; intro h hh; simp only [List.mem_cons, List.not_mem_nil, or_false] at hh; rcases hh with rfl | rfl <;> (dsimp only; omega)) (by simp))
  go_wp2_with fail
  refine AP.out.mono ?_; rintro ed wk4 ⟨rfl, hbb⟩
  have HZ := Lib.hid hbb
  clear hbb AP HX
  go_wp2
  go_ret
  exact ⟨rfl, HZ.out⟩
end Go.Proofs.YtcfoljdpffonhaaGreatDoor
