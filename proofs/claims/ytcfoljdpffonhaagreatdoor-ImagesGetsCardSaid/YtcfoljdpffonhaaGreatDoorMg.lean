/- Images: ImagesLines, walked. -/
import Derived.Test.YtcfoljdpffonhaaGreatDoorMf
import Derived.Test.YtcfoljdpffonhaaGreatDoorNa
import Derived.Deep.RegionLaw
import Derived.Outline
set_option linter.unusedVariables false
set_option linter.unusedSimpArgs false
namespace Go.Proofs.YtcfoljdpffonhaaGreatDoor
open Go.RowKit Go.Joins Go.Shelf
attribute [local go_sem] Oper.semAt_some

theorem step_append_hp {P : Program} {w0 w : World} {ops : Array Oper} {o : Oper} {a : Act} {K : Act → World → Prop} {Q : Exit → Act → World → Prop} {E : Prop} (hgd : o.guard = none) (s x : Operand) (t : TypeId)
    (ho : o.op = .call { callee := .builtin .append, args := #[s, x], argTypes := #[t, t] })
    (e : TypeId) (i : TypeInfo) (z : Value) (size bytes : Nat) (ht : P.underlying t = some (.slice e)) (hi : P.info? e = some i) (hz : i.zero = some z)
    (hsize : i.size = size) (hby : i.bytes = bytes) (hzs : z.cells.size = size) (hsz : 0 < size)
    {v : Value} {n : Nat} {xs : List Value} {r : List Thing} (H : Hp w0 w (Own e size v n xs :: r)) (hs : a.eval s = v)
    (ad : Addr) (m c : Nat) (news : List Value) (hx : a.eval x = .slice (some ad) m c) (hl : news.length = m * size) (hnews : ∀ j u, news[j]? = some u → w.cell? (ad.add j) = some u) (h1 : ∀ u ∈ news, u.oneCell' = true)
    (h63 : n + m ≤ 1000000) (hb : bytes ≤ 1000000)
    (h : ∀ v' w', Hp w0 w' (Own e size v' (n + m) (xs ++ news) :: r) → K (a.put o.dst v') w') :
    if Region.wanted o (yielded ops a.tmps) = true then Oper.wp P o a w K Q else E := by
  have hw : Region.wanted o (yielded ops a.tmps) = true := by simp [Region.wanted, hgd]
  rw [if_pos hw]
  have hbb : (n + m) * bytes ≤ 1000000 * 1000000 := Nat.mul_le_mul h63 hb
  obtain ⟨v', w', hr, h2, h3, _, h5⟩ := run_append_own_at (P := P) w 0 t o.type e i z size bytes ht hi hz hsize hby hzs hsz v n xs (own_get H) ad m c news hl hnews h1 (by unfold maxLen; omega) (by omega) (Nat.zero_le _)
  unfold Oper.wp execOp
  simp only [ho, resolve, invoke, builtin, Sem.run_bind, Sem.run_pure, Result.andThen_ok, List.map_toArray, List.map_cons, List.map_nil, hs, hx, hr]
  exact h v' w' (own_turn H h3 h2 h5)
def bx (x : List UInt8) : List (List UInt8) := [[35, 32] ++ x, [], x]
def bl (ls : List (List UInt8)) : List (List UInt8) := ls.flatMap bx
theorem lns_snoc : ∀ s : List UInt8, lns (s ++ [10]) = lns s ++ [[]]
  | [] => rfl
  | c :: s => by
    obtain ⟨h, t, e⟩ := lns_ne s
    have ih := lns_snoc s
    rw [List.cons_append, lns, lns, ih, e]
    split <;> rfl
theorem bl_ten {ls : List (List UInt8)} (h : ∀ l ∈ ls, (10 : UInt8) ∉ l) : ∀ l ∈ bl ls, (10 : UInt8) ∉ l := by
  intro l hl
  obtain ⟨x, hx, hl⟩ := List.mem_flatMap.1 hl
  have := h x hx
  simp only [bx, List.mem_cons, List.not_mem_nil, or_false] at hl
  rcases hl with rfl | rfl | rfl
  · intro h2
    rcases List.mem_append.1 h2 with h2 | h2
    · revert h2; decide
    · exact this h2
  · simp
  · exact this
theorem runs_bl {t t1 : Rs} {ls : List (List UInt8)} (h : Runs t ls t1) : ∀ (i : Nat), parseL t (bl ls) i = .inl t1 := by
  induction h with
  | nil => intro i; rfl
  | @cons t t1 t2 l ls hl _ ih =>
    intro i
    have e : bl (l :: ls) = ([35, 32] ++ l) :: [] :: l :: bl ls := rfl
    rw [e, pl_skip (l := [35, 32] ++ l) rfl, pl_skip (l := []) rfl, pl_line hl.skip hl.line, ih]
theorem parse_a {t1 : Rs} {ls : List (List UInt8)} (h : Runs rs0 ls t1) : parseL rs0 (lns (nls ls)) 0 = .inl t1 := by
  have e := lns_nls [] ls h.ten
  rw [List.append_nil] at e
  rw [e, h.parse, show lns [] = [[]] from rfl, pl_skip rfl]; rfl
theorem parse_b {t1 : Rs} {ls : List (List UInt8)} {s : List UInt8} (h : Runs rs0 ls t1) (hs : s ++ [10] = nls (bl ls)) : parseL rs0 (lns s) 0 = .inl t1 := by
  have e := lns_nls [] (bl ls) (bl_ten h.ten)
  rw [List.append_nil, ← hs, lns_snoc, show lns [] = [[]] from rfl] at e
  have e2 : lns s = bl ls := List.append_cancel_right e
  rw [e2, runs_bl h]
theorem nls_bx (x : List UInt8) : nls (bx x) = ([35, 32] ++ x ++ [10, 10] ++ x) ++ [10] := by simp [nls, bx]
theorem bl_take {ls : List (List UInt8)} {i : Nat} (h : i < ls.length) : nls (bl (ls.take (i + 1))) = nls (bl (ls.take i)) ++ ([35, 32] ++ ls[i] ++ [10, 10] ++ ls[i]) ++ [10] := by
  have e : bl (ls.take (i + 1)) = bl (ls.take i) ++ bx ls[i] := by
    unfold bl
    rw [List.take_succ_eq_append_getElem h, List.flatMap_append]
    simp only [List.flatMap_cons, List.flatMap_nil, List.append_nil]
  rw [e, nls_app, nls_bx]; simp
theorem nls_take {ls : List (List UInt8)} {i : Nat} (h : i < ls.length) : nls (ls.take (i + 1)) = nls (ls.take i) ++ ls[i] ++ [10] := by
  rw [List.take_succ_eq_append_getElem h, nls_app]; simp [nls]
theorem tail_short {ls : List (List UInt8)} (h : ∀ l ∈ ls, l.length ≤ 300) {x : List UInt8} (hx : x.length ≤ 300) : ∀ l ∈ ls.tail ++ [x], l.length ≤ 300 := by
  intro l hl
  rcases List.mem_append.1 hl with hl | hl
  · exact h l (List.mem_of_mem_tail hl)
  · rw [List.mem_singleton] at hl; subst hl; exact hx
theorem lines_len {n m : Nat} {d : List UInt8} {c : List I4} : (linesL n d c m).length = 1 + partsN d.length m + c.length := by
  unfold linesL
  simp only [List.length_cons, List.length_append, List.length_map, List.length_range]
  omega
theorem slice_tail (W : World) (g n c : Nat) (hn : 1 ≤ n) (hc : n ≤ c) : ∃ o1, (if c = 1 then some (⟨g, 0, none⟩ : Addr) else some ⟨g, 1, none⟩) = some ⟨g, o1, none⟩ ∧ ∀ cs : List Value, CellsIn W (some ⟨g, 0, none⟩) cs → cs.length = n → ∀ j u, cs.tail[j]? = some u → W.cell? ((⟨g, o1, none⟩ : Addr).add j) = some u := by
  by_cases h1 : c = 1
  · refine ⟨0, by rw [if_pos h1], fun cs hcs hl j u hj => ?_⟩
    have : cs.tail = [] := by
      cases cs with
      | nil => rfl
      | cons x r => simp at hl; simp; exact List.eq_nil_of_length_eq_zero (by omega)
    rw [this] at hj; simp at hj
  · refine ⟨1, by rw [if_neg h1], fun cs hcs hl j u hj => ?_⟩
    cases cs with
    | nil => simp at hj
    | cons x r =>
      simp only [List.tail_cons] at hj
      obtain ⟨hlt, e⟩ := List.getElem?_eq_some_iff.1 hj
      obtain ⟨g', o', e', hcell⟩ := hcs (j + 1) (by simp; omega)
      cases e'
      rw [show (⟨g, 1, none⟩ : Addr).add j = ⟨g, 1 + j, none⟩ from Addr.add_lit g 1 j]
      have : 1 + j = 0 + (j + 1) := by omega
      rw [this, hcell]
      simp [e]
set_option maxHeartbeats 16000000 in
set_option maxRecDepth 20000 in
theorem lineslaw_c (w : World) (L : Lf w) (n : Int) (ad ac : Option Addr) (dc cc : Nat) (d : List UInt8) (c : List I4) (mn : Nat) (last : Bool) (hmn : mn < 256) (hd : CellsIn w ad (d.map bv)) (hc : CellsIn w ac (ics c)) :
    Calls Tryz.prog 6 #[imV n ad d.length dc ac c.length cc, .int .u8 mn, .bool last] w fun e w' => e = .returned (.bool true) ∧ Below w.heap.size w w' := by
  have H0 := Lib.hid (blk_new (Hp.start w) (.cells #[.int .i64 n, .slice ad d.length dc, .slice ac c.length cc] 25))
  have HD := Lib.hid hd
  have HC := Lib.hid hc
  clear hd hc
  have AC := Lib.hid (fun (w' : World) (r : List Thing) (H : Hp w w' r) => alive_c L H)
  have AB := Lib.hid (alive_c L H0.out)
  go_enter Tryz.func6, Tryz.ntmps6
  go_wp2_with fail
  refine AB.out.mono ?_; rintro e1 w1 ⟨rfl, H1'⟩
  have H1 := Lib.hid H1'
  clear AB H1' H0
  generalize w.heap.size = xb at *
  obtain ⟨x0, x1, x2⟩ := im_cells H1.out
  by_cases hg1 : 300 < d.length
  · have g1 : decide ((300 : Int) < (d.length : Int)) = true := by simp; omega
    go_wp2_with fail
    refine (AC.out _ _ H1.out).mono ?_; rintro e3 wz ⟨rfl, H4⟩
    have HZ := Lib.hid H4
    clear H4
    go_wp2
    go_ret
    exact ⟨rfl, HZ.out.below⟩
  by_cases hg2 : 100 < c.length
  · have g1 : decide ((300 : Int) < (d.length : Int)) = false := by simp; omega
    have g2 : decide ((100 : Int) < (c.length : Int)) = true := by simp; omega
    go_wp2_with fail
    refine (AC.out _ _ H1.out).mono ?_; rintro e3 wz ⟨rfl, H4⟩
    have HZ := Lib.hid H4
    clear H4
    go_wp2
    go_ret
    exact ⟨rfl, HZ.out.below⟩
  have g1 : decide ((300 : Int) < (d.length : Int)) = false := by simp; omega
  have g2 : decide ((100 : Int) < (c.length : Int)) = false := by simp; omega
  have HDL : Hid (d.length ≤ 300 ∧ c.length ≤ 100) := Lib.hid ⟨by omega, by omega⟩
  have G := Lib.hid (imcheck_c n ad ac dc cc d c w1 (HC.out.hp H1.out))
  cases hg3 : imck n d c with
  | false =>
    rw [hg3] at G
    clear hg3
    go_wp2_with fail
    refine G.out.mono ?_; rintro e2 w3 ⟨rfl, hb⟩
    have H3 := Lib.hid (H1.out.below_read hb)
    clear hb G H1 x0 x1 x2
    go_wp2_with fail
    refine (AC.out _ _ H3.out).mono ?_; rintro e3 wz ⟨rfl, H4⟩
    have HZ := Lib.hid H4
    clear H4
    go_wp2
    go_ret
    exact ⟨rfl, HZ.out.below⟩
  | true =>
    rw [hg3] at G
    have HK := Lib.hid hg3
    clear hg3
    obtain ⟨N, rfl⟩ := Int.eq_ofNat_of_zero_le (imck_bounds HK.out).1
    go_wp2_with fail
    refine G.out.mono ?_; rintro e2 w3 ⟨rfl, hb⟩
    have H3 := Lib.hid (H1.out.below_read hb)
    clear hb G H1 x0 x1 x2 g1 g2 hg1 hg2
    obtain ⟨x0, x1, x2⟩ := im_cells H3.out
    have HN : Hid (N ≤ 4096) := Lib.hid (by have := (imck_bounds HK.out).2.1; omega)
    obtain ⟨m, hm⟩ : ∃ m, m = 1 + mn % 40 := ⟨_, rfl⟩
    have hmi : (m : Int) = 1 + (mn : Int) % 40 := by omega
    have HM : Hid (1 ≤ m ∧ m ≤ 40) := Lib.hid ⟨by omega, by omega⟩
    have HDV : Hid (((d.length : Int) + (mn : Int) % 40) / (1 + (mn : Int) % 40) = (partsN d.length m : Int)) := Lib.hid (by
      unfold partsN
      rw [← hmi, show (d.length : Int) + (mn : Int) % 40 = ((d.length + m - 1 : Nat) : Int) by omega, ← Int.natCast_ediv])
    have LN := Lib.hid (ilines_c L N m ad ac dc cc d c HM.out.1 HM.out.2 HN.out HDL.out.1 HDL.out.2 HD.out HC.out H3.out)
    rw [hmi] at LN
    have HR := Lib.hid (lines_runs m HM.out.1 HK.out)
    have HRL := Lib.hid (lines_last m HM.out.1 HK.out)
    have HLL0 := Lib.hid (lines_short (m := m) (n := N) (d := d) (c := c) HM.out.2 HN.out (imck_bounds HK.out).2.2.2.2)
    have HLM := Lib.hid (lines_many (m := m) (n := N) (d := d) (c := c) HM.out.1)
    have HLE := Lib.hid (lines_len (m := m) (n := N) (d := d) (c := c))
    have hl0 : (0 : Int) ≤ (mn : Int) % 40 := by omega
    have hl1 : (mn : Int) % 40 < 40 := by omega
    have hl2 : (0 : Int) ≤ (mn : Int) := by omega
    clear hm hmi
    go_wp2_with fail
    refine LN.out.mono ?_; rintro e4 w4 ⟨v4, rfl, K4⟩
    clear LN H3 x0 x1 x2 hl0 hl1 hl2
    obtain ⟨lh, hlh, htl⟩ : ∃ lt, linesL N d c m = siz N :: lt ∧ (linesL N d c m).tail = lt := ⟨_, rfl, rfl⟩
    cases last with
    | false =>
      obtain ⟨l2, hl2⟩ : ∃ l2, l2 = linesL N d c m := ⟨_, rfl⟩
      rw [← hl2] at K4 HR HLL0 HLM HLE
      have HR2 := HR
      have HLL := HLL0
      have HL2 : Hid (0 < l2.length ∧ l2.length ≤ 401) := Lib.hid ⟨by rw [HLE.out]; omega, by have := HLM.out; have := HDL.out; omega⟩
      have HLN : Hid (l2.length ≤ 1 + partsN d.length m + c.length ∧ 1 + partsN d.length m + c.length ≤ l2.length) := Lib.hid ⟨by rw [HLE.out]; omega, by rw [HLE.out]; omega⟩
      have HLN3 : Hid (partsN d.length m ≤ 400) := Lib.hid (by have := HLN.out; have := HL2.out; omega)
      have H6 := Lib.hid K4
      obtain ⟨a2, c2, rfl⟩ := own_slice K4
      clear K4 hl2 hlh htl HR HRL HLM HLE HLL0
      go_wp2
      go_loopw [8, 9, 10] (fun s8 s9 s10 wr => ∃ (i : Nat) (s t : List UInt8), i ≤ l2.length ∧ s10 = .int .i64 i ∧ s8 = strv s ∧ s9 = strv t ∧ s.length ≤ 1000 * i ∧ t.length ≤ 1000 * i ∧ Hid (s = nls (l2.take i)) ∧ Hid ((i < l2.length → t = nls (bl (l2.take i))) ∧ (i = l2.length → t ++ [10] = nls (bl l2))) ∧ Hid (Hp w wr [OwnS (.slice a2 l2.length c2) l2, IM xb (N : Int) (.slice ad d.length dc) (.slice ac c.length cc)])) (fun _ _ s10 _ => l2.length - (intOf s10).toNat)
      case atStart => exact ⟨0, [], [], Nat.zero_le _, rfl, rfl, rfl, by simp, by simp, Lib.hid (by simp [nls]), Lib.hid ⟨fun _ => by simp [nls, bl], fun h => by have := HL2.out.1; omega⟩, H6⟩
      case round =>
        obtain ⟨i, s, t, hle, rfl, rfl, rfl, hsl, htl, hs, ht, hH⟩ := hrel
        clear H6
        have hlen : l2.length ≤ 401 := by have := HL2.out.2; omega
        by_cases hi : i < l2.length
        · have c1 : (i : Int) < (l2.length : Int) := by omega
          obtain ⟨g4, cap4, e4, ci⟩ := own_cell hH.out i (strv l2[i]) (by rw [List.getElem?_map, List.getElem?_eq_getElem hi]; rfl)
          cases e4
          have hx : l2[i].length ≤ 300 := HLL.out _ (List.getElem_mem hi)
          have hst := Lib.hid (nls_take hi)
          have hbt := Lib.hid (bl_take hi)
          generalize l2[i] = x at *
          have k1 : (⟨s.toArray⟩ ++ ⟨x.toArray⟩ ++ ⟨#[10]⟩ : ByteArray) = ⟨(s ++ x ++ [10]).toArray⟩ := by rw [str_app2]; exact str_app2 _ [10]
          obtain ⟨s2, hs2⟩ : ∃ s2, s2 = s ++ x ++ [10] := ⟨_, rfl⟩
          rw [← hs2] at k1
          have k2 : (⟨t.toArray⟩ ++ ⟨#[35, 32]⟩ ++ ⟨x.toArray⟩ ++ ⟨#[10, 10]⟩ ++ ⟨x.toArray⟩ : ByteArray) = ⟨(t ++ ([35, 32] ++ x ++ [10, 10] ++ x)).toArray⟩ := by
            rw [show (⟨#[35, 32]⟩ : ByteArray) = ⟨[35, 32].toArray⟩ from rfl, show (⟨#[10, 10]⟩ : ByteArray) = ⟨[10, 10].toArray⟩ from rfl, str_app2, str_app2, str_app2, str_app2]
            simp
          obtain ⟨t2, ht2⟩ : ∃ t2, t2 = t ++ ([35, 32] ++ x ++ [10, 10] ++ x) := ⟨_, rfl⟩
          rw [← ht2] at k2
          have hsl2 : s2.length ≤ s.length + 301 := by rw [hs2]; simp; omega
          have htl2 : t2.length ≤ t.length + 604 := by rw [ht2]; simp; omega
          have l1 : ¬ 9223372036854775807 < s.length + x.length := by omega
          have l2' : ¬ 9223372036854775807 < s.length + x.length + 1 := by omega
          have l3 : ¬ 9223372036854775807 < t.length + 2 := by omega
          have l4 : ¬ 9223372036854775807 < t.length + 2 + x.length := by omega
          have l5 : ¬ 9223372036854775807 < t.length + 2 + x.length + 2 := by omega
          have l6 : ¬ 9223372036854775807 < t.length + 2 + x.length + 2 + x.length := by omega
          have hsn : Hid (s2 = nls (l2.take (i + 1))) := Lib.hid (by rw [hst.out, ← hs.out, hs2])
          have htn : Hid (t2 ++ [10] = nls (bl (l2.take (i + 1)))) := Lib.hid (by rw [hbt.out, ← ht.out.1 hi, ht2])
          have hkw : IntKind.i64.wrap ((i : Int) + 1) = (i : Int) + 1 := by rw [IntKind.wrap_i64]; omega
          have hw0 : (0 : Int) ≤ (i : Int) := by omega
          have HI := Lib.hid hi
          have HB := Lib.hid (And.intro hsl htl)
          have HB2 := Lib.hid (And.intro hsl2 htl2)
          by_cases hj : i + 1 < l2.length
          · have c2 : (i : Int) + 1 < (l2.length : Int) := by omega
            have k3 : (⟨t2.toArray⟩ ++ ⟨#[10]⟩ : ByteArray) = ⟨(t2 ++ [10]).toArray⟩ := str_app2 _ [10]
            obtain ⟨t3, ht3⟩ : ∃ t3, t3 = t2 ++ [10] := ⟨_, rfl⟩
            rw [← ht3] at k3 htn
            have htl3 : Hid (t3.length ≤ t2.length + 1) := Lib.hid (by rw [ht3]; simp)
            have l7 : ¬ 9223372036854775807 < t2.length + 1 := by omega
            have HJ := Lib.hid hj
            clear hs ht hst hbt hs2 ht2 ht3 hle hsl htl hsl2 htl2 hlen hi hx hj
            go_upto_region 12 with fail
            go_quiet (fail)
            go_wp2
            go_roundw
            case rel => exact ⟨i + 1, s2, t3, by have := HI.out; omega, by go_num, rfl, rfl, by have := HB.out; have := HB2.out; omega, by have := HB.out; have := HB2.out; have := htl3.out; omega, hsn, Lib.hid ⟨fun _ => htn.out, fun h => by have := HJ.out; omega⟩, Lib.hid (hH.out.drewN _)⟩
            case measure => have := HI.out; simp [intOf]; omega
          · have c2 : ¬ (i : Int) + 1 < (l2.length : Int) := by omega
            have htk : l2.take (i + 1) = l2 := List.take_of_length_le (by omega)
            rw [htk] at htn
            have HJ := Lib.hid hj
            clear hs ht hst hbt hs2 ht2 hle hsl htl hsl2 htl2 hlen hi hx hj htk
            go_upto_region 12 with fail
            go_quiet (fail)
            go_wp2
            go_roundw
            case rel => exact ⟨i + 1, s2, t2, by have := HI.out; omega, by go_num, rfl, rfl, by have := HB.out; have := HB2.out; omega, by have := HB.out; have := HB2.out; omega, hsn, Lib.hid ⟨fun h => by have := HJ.out; omega, fun _ => htn.out⟩, Lib.hid (hH.out.drewN _)⟩
            case measure => have := HI.out; simp [intOf]; omega
        · obtain rfl : i = l2.length := by omega
          have hpb := parse_b HR2.out (ht.out.2 rfl)
          have hpa := parse_a HR2.out
          rw [List.take_length] at hs
          rw [← hs.out] at hpa
          have PA := Lib.hid (imparse_c L s (by omega) hH.out)
          rw [hpa] at PA
          have HTL : Hid (t.length < 4294967281) := Lib.hid (by omega)
          have HPB := Lib.hid hpb
          have c1 : ¬ (l2.length : Int) < (l2.length : Int) := by omega
          clear hpa hpb hs ht hsl htl hle hi hlen hH
          go_wp2_with fail
          refine PA.out.mono ?_; intro e7 w7 h7
          obtain ⟨xa, xc, ya, yc, rfl, H7'⟩ := parse_yes HK.out h7
          have H7 := Lib.hid (blk_new H7' (.cells #[.int .i64 (N : Int), .slice xa d.length xc, .slice ya c.length yc] 25))
          clear PA h7 H7'
          have PB := Lib.hid (imparse_c L t HTL.out H7.out)
          rw [HPB.out] at PB
          go_wp2_with fail
          refine PB.out.mono ?_; intro e8 w8 h8
          obtain ⟨xa2, xc2, ya2, yc2, rfl, H8'⟩ := parse_yes HK.out h8
          have H8 := Lib.hid (blk_new H8' (.cells #[.int .i64 (N : Int), .slice xa2 d.length xc2, .slice ya2 c.length yc2] 25))
          clear PB h8 H8' H7
          go_upto_region 17 with fail
          generalize (w8.alloc (.cells #[.int .i64 (N : Int), .slice xa2 d.length xc2, .slice ya2 c.length yc2] 25)) = w9 at *
          generalize w8.heap.size = gy at *
          generalize w7.heap.size = gx at *
          obtain ⟨x0, x1, x2⟩ := im_cells (H8.out.pull 7 rfl)
          obtain ⟨y0, y1, y2⟩ := im_cells (H8.out.pull 3 rfl)
          obtain ⟨z0, z1, z2⟩ := im_cells H8.out
          have hdl := HDL.out.1
          have hq1 : (0 : Int) ≤ (mn : Int) % 40 := by omega
          have hq2 : (mn : Int) % 40 < 40 := by omega
          go_upto_region 18 with fail
          have hdv : ((d.length : Int) + (mn : Int) % 40) / (1 + (mn : Int) % 40) = (partsN d.length m : Int) := HDV.out
          generalize ((d.length : Int) + (mn : Int) % 40) / (1 + (mn : Int) % 40) = dv at *
          subst hdv
          have hb := imck_bounds HK.out
          have SA := Lib.hid (same_image N N xa ad ya ac xc dc yc cc d d c c w9 (CellsIn.own (H8.out.pull 4 rfl)) (HD.out.hp H8.out) (CellsIn.own (H8.out.pull 5 rfl)) (HC.out.hp H8.out) (by omega) (by omega) (by omega) (by omega))
          have e1 := HLN.out.1
          have e2 := HLN.out.2
          have hcl := HDL.out.2
          have hpn := HLN3.out
          clear hb hq1 hq2
          go_wp2_with fail
          refine SA.out.mono ?_; rintro e9 wa ⟨rfl, hb⟩
          have H9 := Lib.hid (H8.out.below_read hb)
          clear SA H8 hb x0 x1 x2 y0 y1 y2 z0 z1 z2
          obtain ⟨x0, x1, x2⟩ := im_cells (H9.out.pull 7 rfl)
          obtain ⟨z0, z1, z2⟩ := im_cells H9.out
          have SB := Lib.hid (same_image N N xa2 ad ya2 ac xc2 dc yc2 cc d d c c wa (CellsIn.own (H9.out.pull 1 rfl)) (HD.out.hp H9.out) (CellsIn.own (H9.out.pull 2 rfl)) (HC.out.hp H9.out) (by omega) (by omega) (by omega) (by omega))
          go_wp2_with fail
          refine SB.out.mono ?_; rintro e10 wb ⟨rfl, hb⟩
          have H10 := Lib.hid (H9.out.below_read hb)
          clear SB H9 hb x0 x1 x2 z0 z1 z2
          obtain ⟨x0, x1, x2⟩ := im_cells (H10.out.pull 7 rfl)
          go_wp2
          go_ret
          exact ⟨by simp; omega, H10.out.below⟩
    | true =>
      obtain ⟨ls, hls⟩ : ∃ ls, ls = linesL N d c m := ⟨_, rfl⟩
      rw [← hls] at K4 HR HLL0 HLM HLE HRL hlh htl
      have HLS : Hid (0 < ls.length ∧ ls.length ≤ 401) := Lib.hid ⟨by rw [HLE.out]; omega, by have := HLM.out; have := HDL.out; omega⟩
      obtain ⟨l2, hl2⟩ : ∃ l2, l2 = ls.tail ++ [siz N] := ⟨_, rfl⟩
      have hl2l : l2.length = ls.length := by rw [hl2, List.length_append, List.length_tail, List.length_singleton]; have := HLS.out; omega
      have HR2 : Hid (Runs rs0 l2 ⟨N, d, c, true⟩) := Lib.hid (by rw [hl2]; exact HRL.out)
      have HLL : Hid (∀ l ∈ l2, l.length ≤ 300) := Lib.hid (by rw [hl2]; exact tail_short HLL0.out (by have := siz_len HN.out; omega))
      have HL2 : Hid (0 < l2.length ∧ l2.length ≤ 401) := Lib.hid (by rw [hl2l]; exact HLS.out)
      have HLN : Hid (l2.length ≤ 1 + partsN d.length m + c.length ∧ 1 + partsN d.length m + c.length ≤ l2.length) := Lib.hid (by rw [hl2l]; exact ⟨by rw [HLE.out]; omega, by rw [HLE.out]; omega⟩)
      have HLN3 : Hid (partsN d.length m ≤ 400) := Lib.hid (by have := HLN.out; have := HL2.out; omega)
      have H4 := Lib.hid K4
      obtain ⟨a4, c4, rfl⟩ := own_slice K4
      have H4' := Lib.hid H4.out
      obtain ⟨g, cp, hgc⟩ := Go.Joins.ownsRow_form (own_get K4) HLS.out.1
      injection hgc with hg1 _ hg3
      subst hg1
      clear hg3
      have hcap := own_capn K4
      obtain ⟨o1, ho1, hta⟩ := slice_tail w4 g ls.length c4 (by have := HLS.out; omega) hcap
      have htb := hta _ (CellsIn.own K4) (by simp)
      have c0 : w4.cell? ⟨g, 0, none⟩ = some (strv (siz N)) := by
        obtain ⟨g', cap', e', hc⟩ := own_cell K4 0 (strv (siz N)) (by rw [hlh]; rfl)
        cases e'; exact hc
      have HT0 : Hid ((ls.map strv).tail = ls.tail.map strv) := Lib.hid (by simp)
      obtain ⟨i0, hi, hz0, hz1, hz2⟩ := info_parts info_str
      clear K4
      have HTB : Hid (∀ W, Below w4.heap.size w4 W → ∀ j u, (ls.tail.map strv)[j]? = some u → W.cell? ((⟨g, o1, none⟩ : Addr).add j) = some u) := Lib.hid (fun W hb j u hj => by
        have := htb j u (by rw [HT0.out]; exact hj)
        exact (hb.cell (World.block_lt_of_cell? _ _ this)).trans this)
      have HCO : Hid (∀ (W : World) (r : List Thing), Hp w W (OwnS (.slice (some ⟨g, 0, none⟩) ls.length c4) ls :: r) → W.cell? ⟨g, 0, none⟩ = some (strv (siz N))) := Lib.hid (fun W r HW => by
        obtain ⟨g', cap', e', hc⟩ := own_cell HW 0 (strv (siz N)) (by rw [hlh]; rfl)
        cases e'; exact hc)
      have HL2E : Hid (ls.tail.map strv ++ [strv (siz N)] = l2.map strv ∧ ls.length - 1 + 1 = l2.length) := Lib.hid ⟨by rw [hl2]; simp, by rw [hl2l]; have := HLS.out; omega⟩
      have HNil := Lib.hid (own_nil H4.out 9 1)
      have b1 : (1 : Int) ≤ (ls.length : Int) := by have := HLS.out; omega
      have b2 : 0 < ls.length := HLS.out.1
      have HLB : Hid (ls.length ≤ 401) := Lib.hid HLS.out.2
      clear hlh htl hta htb HT0 hl2 hl2l HRL HLM HLE HLL0 HR hcap hls H4' HLS
      go_upto_region 5 with fail
      go_region_law (first | (refine step_append_hp (w0 := w) (r := [OwnS (.slice (some ⟨g, 0, none⟩) ls.length c4) ls, IM xb (N : Int) (.slice ad d.length dc) (.slice ac c.length cc)]) (by rfl) (.const (Value.slice none 0 0)) (.tmp 46) 53 (by rfl) 9 i0 _ 1 16 Tryz.underlying53 hi hz0 hz1 hz2 rfl (by decide) (v := .slice none 0 0) (n := 0) (xs := []) (by first | exact HNil.out | exact HNil.out.drew) (by rfl) ⟨g, o1, none⟩ (ls.length - 1) (c4 - 1) (ls.tail.map strv) (by rfl) (by simp) (by first | exact HTB.out _ (Below.refl _ _) | exact HTB.out _ (Below.refl _ _).drew) (fun u hu => by obtain ⟨x, _, rfl⟩ := List.mem_map.1 hu; rfl) (by have := HLB.out; omega) (by omega) ?_; intro v1 w1 HA0; rw [Nat.zero_add, List.nil_append] at HA0; have c0 := HCO.out _ _ (HA0.pull 1 rfl); have HA := Lib.hid HA0; clear HA0) | (refine step_append_hp (w0 := w) (r := Blk w4.heap.size (.cells #[strv (siz N)] 9 (0, 0)) :: [OwnS (.slice (some ⟨g, 0, none⟩) ls.length c4) ls, IM xb (N : Int) (.slice ad d.length dc) (.slice ac c.length cc)]) (by rfl) (.const (Value.slice none 0 0)) (.tmp 46) 53 (by rfl) 9 i0 _ 1 16 Tryz.underlying53 hi hz0 hz1 hz2 rfl (by decide) (v := .slice none 0 0) (n := 0) (xs := []) (by first | exact (blk_new HNil.out _).up1 | exact (blk_new HNil.out _).up1.drew | exact (blk_new HNil.out.drew _).up1) (by rfl) ⟨g, o1, none⟩ (ls.length - 1) (c4 - 1) (ls.tail.map strv) (by rfl) (by simp) (by first | exact HTB.out _ ((Below.refl _ _).alloc (Nat.le_refl _) _) | exact HTB.out _ ((Below.refl _ _).alloc (Nat.le_refl _) _).drew | exact HTB.out _ ((Below.refl _ _).drew.alloc (Nat.le_refl _) _)) (fun u hu => by obtain ⟨x, _, rfl⟩ := List.mem_map.1 hu; rfl) (by have := HLB.out; omega) (by omega) ?_; intro v1 w1 HA0; rw [Nat.zero_add, List.nil_append] at HA0; have HAB := Lib.hid HA0; clear HA0) | (refine step_append_hp (w0 := w) (r := [OwnS (.slice (some ⟨g, 0, none⟩) ls.length c4) ls, IM xb (N : Int) (.slice ad d.length dc) (.slice ac c.length cc)]) (by rfl) (.tmp 47) (.tmp 51) 53 (by rfl) 9 i0 _ 1 16 Tryz.underlying53 hi hz0 hz1 hz2 rfl (by decide) (v := v1) (n := ls.length - 1) (xs := ls.tail.map strv) (by first | exact HA.out.alloc _ | exact (HA.out.alloc _).drew | exact HA.out.drew.alloc _) (by rfl) ⟨w1.heap.size, 0, none⟩ 1 1 [strv (siz N)] (by rfl) (by rfl) (by first | exact cell_one_new _ _ _) (by simp [Value.oneCell']) (by have := HLB.out; omega) (by omega) ?_; intro v2 w2 HB0; have HD2 := Lib.hid (Hp.tail (Hp.up1 (own_as HB0 HL2E.out.2 HL2E.out.1))); clear HB0 HA) | (refine step_append_hp (w0 := w) (r := Blk w4.heap.size (.cells #[strv (siz N)] 9 (0, 0)) :: [OwnS (.slice (some ⟨g, 0, none⟩) ls.length c4) ls, IM xb (N : Int) (.slice ad d.length dc) (.slice ac c.length cc)]) (by rfl) (.tmp 47) (.tmp 51) 53 (by rfl) 9 i0 _ 1 16 Tryz.underlying53 hi hz0 hz1 hz2 rfl (by decide) (v := v1) (n := ls.length - 1) (xs := ls.tail.map strv) (by first | exact HAB.out | exact HAB.out.drew) (by rfl) ⟨w4.heap.size, 0, none⟩ 1 1 [strv (siz N)] (by rfl) (by rfl) (blk_newsU (l := [strv (siz N)]) (blk_get (HAB.out.pull 1 rfl))) (by simp [Value.oneCell']) (by have := HLB.out; omega) (by omega) ?_; intro v2 w2 HB0; have HD2 := Lib.hid (Hp.tail (Hp.up1 (Hp.tail (Hp.up1 (own_as HB0 HL2E.out.2 HL2E.out.1))))); clear HB0 HAB))
      all_goals
        have H6 := Lib.hid (HD2.out)
        clear HD2 c0
        obtain ⟨a2, c2, rfl⟩ := own_slice H6.out
        go_wp2
        go_loopw [8, 9, 10] (fun s8 s9 s10 wr => ∃ (i : Nat) (s t : List UInt8), i ≤ l2.length ∧ s10 = .int .i64 i ∧ s8 = strv s ∧ s9 = strv t ∧ s.length ≤ 1000 * i ∧ t.length ≤ 1000 * i ∧ Hid (s = nls (l2.take i)) ∧ Hid ((i < l2.length → t = nls (bl (l2.take i))) ∧ (i = l2.length → t ++ [10] = nls (bl l2))) ∧ Hid (Hp w wr [OwnS (.slice a2 l2.length c2) l2, IM xb (N : Int) (.slice ad d.length dc) (.slice ac c.length cc)])) (fun _ _ s10 _ => l2.length - (intOf s10).toNat)
        case atStart => exact ⟨0, [], [], Nat.zero_le _, rfl, rfl, rfl, by simp, by simp, Lib.hid (by simp [nls]), Lib.hid ⟨fun _ => by simp [nls, bl], fun h => by have := HL2.out.1; omega⟩, H6⟩
        case round =>
          obtain ⟨i, s, t, hle, rfl, rfl, rfl, hsl, htl, hs, ht, hH⟩ := hrel
          clear H6
          have hlen : l2.length ≤ 401 := by have := HL2.out.2; omega
          by_cases hi : i < l2.length
          · have c1 : (i : Int) < (l2.length : Int) := by omega
            obtain ⟨g4, cap4, e4, ci⟩ := own_cell hH.out i (strv l2[i]) (by rw [List.getElem?_map, List.getElem?_eq_getElem hi]; rfl)
            cases e4
            have hx : l2[i].length ≤ 300 := HLL.out _ (List.getElem_mem hi)
            have hst := Lib.hid (nls_take hi)
            have hbt := Lib.hid (bl_take hi)
            generalize l2[i] = x at *
            have k1 : (⟨s.toArray⟩ ++ ⟨x.toArray⟩ ++ ⟨#[10]⟩ : ByteArray) = ⟨(s ++ x ++ [10]).toArray⟩ := by rw [str_app2]; exact str_app2 _ [10]
            obtain ⟨s2, hs2⟩ : ∃ s2, s2 = s ++ x ++ [10] := ⟨_, rfl⟩
            rw [← hs2] at k1
            have k2 : (⟨t.toArray⟩ ++ ⟨#[35, 32]⟩ ++ ⟨x.toArray⟩ ++ ⟨#[10, 10]⟩ ++ ⟨x.toArray⟩ : ByteArray) = ⟨(t ++ ([35, 32] ++ x ++ [10, 10] ++ x)).toArray⟩ := by
              rw [show (⟨#[35, 32]⟩ : ByteArray) = ⟨[35, 32].toArray⟩ from rfl, show (⟨#[10, 10]⟩ : ByteArray) = ⟨[10, 10].toArray⟩ from rfl, str_app2, str_app2, str_app2, str_app2]
              simp
            obtain ⟨t2, ht2⟩ : ∃ t2, t2 = t ++ ([35, 32] ++ x ++ [10, 10] ++ x) := ⟨_, rfl⟩
            rw [← ht2] at k2
            have hsl2 : s2.length ≤ s.length + 301 := by rw [hs2]; simp; omega
            have htl2 : t2.length ≤ t.length + 604 := by rw [ht2]; simp; omega
            have l1 : ¬ 9223372036854775807 < s.length + x.length := by omega
            have l2' : ¬ 9223372036854775807 < s.length + x.length + 1 := by omega
            have l3 : ¬ 9223372036854775807 < t.length + 2 := by omega
            have l4 : ¬ 9223372036854775807 < t.length + 2 + x.length := by omega
            have l5 : ¬ 9223372036854775807 < t.length + 2 + x.length + 2 := by omega
            have l6 : ¬ 9223372036854775807 < t.length + 2 + x.length + 2 + x.length := by omega
            have hsn : Hid (s2 = nls (l2.take (i + 1))) := Lib.hid (by rw [hst.out, ← hs.out, hs2])
            have htn : Hid (t2 ++ [10] = nls (bl (l2.take (i + 1)))) := Lib.hid (by rw [hbt.out, ← ht.out.1 hi, ht2])
            have hkw : IntKind.i64.wrap ((i : Int) + 1) = (i : Int) + 1 := by rw [IntKind.wrap_i64]; omega
            have hw0 : (0 : Int) ≤ (i : Int) := by omega
            have HI := Lib.hid hi
            have HB := Lib.hid (And.intro hsl htl)
            have HB2 := Lib.hid (And.intro hsl2 htl2)
            by_cases hj : i + 1 < l2.length
            · have c2 : (i : Int) + 1 < (l2.length : Int) := by omega
              have k3 : (⟨t2.toArray⟩ ++ ⟨#[10]⟩ : ByteArray) = ⟨(t2 ++ [10]).toArray⟩ := str_app2 _ [10]
              obtain ⟨t3, ht3⟩ : ∃ t3, t3 = t2 ++ [10] := ⟨_, rfl⟩
              rw [← ht3] at k3 htn
              have htl3 : Hid (t3.length ≤ t2.length + 1) := Lib.hid (by rw [ht3]; simp)
              have l7 : ¬ 9223372036854775807 < t2.length + 1 := by omega
              have HJ := Lib.hid hj
              clear hs ht hst hbt hs2 ht2 ht3 hle hsl htl hsl2 htl2 hlen hi hx hj
              go_upto_region 12 with fail
              go_quiet (fail)
              go_wp2
              go_roundw
              case rel => exact ⟨i + 1, s2, t3, by have := HI.out; omega, by go_num, rfl, rfl, by have := HB.out; have := HB2.out; omega, by have := HB.out; have := HB2.out; have := htl3.out; omega, hsn, Lib.hid ⟨fun _ => htn.out, fun h => by have := HJ.out; omega⟩, Lib.hid (hH.out.drewN _)⟩
              case measure => have := HI.out; simp [intOf]; omega
            · have c2 : ¬ (i : Int) + 1 < (l2.length : Int) := by omega
              have htk : l2.take (i + 1) = l2 := List.take_of_length_le (by omega)
              rw [htk] at htn
              have HJ := Lib.hid hj
              clear hs ht hst hbt hs2 ht2 hle hsl htl hsl2 htl2 hlen hi hx hj htk
              go_upto_region 12 with fail
              go_quiet (fail)
              go_wp2
              go_roundw
              case rel => exact ⟨i + 1, s2, t2, by have := HI.out; omega, by go_num, rfl, rfl, by have := HB.out; have := HB2.out; omega, by have := HB.out; have := HB2.out; omega, hsn, Lib.hid ⟨fun h => by have := HJ.out; omega, fun _ => htn.out⟩, Lib.hid (hH.out.drewN _)⟩
              case measure => have := HI.out; simp [intOf]; omega
          · obtain rfl : i = l2.length := by omega
            have hpb := parse_b HR2.out (ht.out.2 rfl)
            have hpa := parse_a HR2.out
            rw [List.take_length] at hs
            rw [← hs.out] at hpa
            have PA := Lib.hid (imparse_c L s (by omega) hH.out)
            rw [hpa] at PA
            have HTL : Hid (t.length < 4294967281) := Lib.hid (by omega)
            have HPB := Lib.hid hpb
            have c1 : ¬ (l2.length : Int) < (l2.length : Int) := by omega
            clear hpa hpb hs ht hsl htl hle hi hlen hH
            go_wp2_with fail
            refine PA.out.mono ?_; intro e7 w7 h7
            obtain ⟨xa, xc, ya, yc, rfl, H7'⟩ := parse_yes HK.out h7
            have H7 := Lib.hid (blk_new H7' (.cells #[.int .i64 (N : Int), .slice xa d.length xc, .slice ya c.length yc] 25))
            clear PA h7 H7'
            have PB := Lib.hid (imparse_c L t HTL.out H7.out)
            rw [HPB.out] at PB
            go_wp2_with fail
            refine PB.out.mono ?_; intro e8 w8 h8
            obtain ⟨xa2, xc2, ya2, yc2, rfl, H8'⟩ := parse_yes HK.out h8
            have H8 := Lib.hid (blk_new H8' (.cells #[.int .i64 (N : Int), .slice xa2 d.length xc2, .slice ya2 c.length yc2] 25))
            clear PB h8 H8' H7
            go_upto_region 17 with fail
            generalize (w8.alloc (.cells #[.int .i64 (N : Int), .slice xa2 d.length xc2, .slice ya2 c.length yc2] 25)) = w9 at *
            generalize w8.heap.size = gy at *
            generalize w7.heap.size = gx at *
            obtain ⟨x0, x1, x2⟩ := im_cells (H8.out.pull 7 rfl)
            obtain ⟨y0, y1, y2⟩ := im_cells (H8.out.pull 3 rfl)
            obtain ⟨z0, z1, z2⟩ := im_cells H8.out
            have hdl := HDL.out.1
            have hq1 : (0 : Int) ≤ (mn : Int) % 40 := by omega
            have hq2 : (mn : Int) % 40 < 40 := by omega
            go_upto_region 18 with fail
            have hdv : ((d.length : Int) + (mn : Int) % 40) / (1 + (mn : Int) % 40) = (partsN d.length m : Int) := HDV.out
            generalize ((d.length : Int) + (mn : Int) % 40) / (1 + (mn : Int) % 40) = dv at *
            subst hdv
            have hb := imck_bounds HK.out
            have SA := Lib.hid (same_image N N xa ad ya ac xc dc yc cc d d c c w9 (CellsIn.own (H8.out.pull 4 rfl)) (HD.out.hp H8.out) (CellsIn.own (H8.out.pull 5 rfl)) (HC.out.hp H8.out) (by omega) (by omega) (by omega) (by omega))
            have e1 := HLN.out.1
            have e2 := HLN.out.2
            have hcl := HDL.out.2
            have hpn := HLN3.out
            clear hb hq1 hq2
            go_wp2_with fail
            refine SA.out.mono ?_; rintro e9 wa ⟨rfl, hb⟩
            have H9 := Lib.hid (H8.out.below_read hb)
            clear SA H8 hb x0 x1 x2 y0 y1 y2 z0 z1 z2
            obtain ⟨x0, x1, x2⟩ := im_cells (H9.out.pull 7 rfl)
            obtain ⟨z0, z1, z2⟩ := im_cells H9.out
            have SB := Lib.hid (same_image N N xa2 ad ya2 ac xc2 dc yc2 cc d d c c wa (CellsIn.own (H9.out.pull 1 rfl)) (HD.out.hp H9.out) (CellsIn.own (H9.out.pull 2 rfl)) (HC.out.hp H9.out) (by omega) (by omega) (by omega) (by omega))
            go_wp2_with fail
            refine SB.out.mono ?_; rintro e10 wb ⟨rfl, hb⟩
            have H10 := Lib.hid (H9.out.below_read hb)
            clear SB H9 hb x0 x1 x2 z0 z1 z2
            obtain ⟨x0, x1, x2⟩ := im_cells (H10.out.pull 7 rfl)
            go_wp2
            go_ret
            exact ⟨by simp; omega, H10.out.below⟩
end Go.Proofs.YtcfoljdpffonhaaGreatDoor
