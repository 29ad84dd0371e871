/- Instructions: the document's Check and Get (timekeeperref02). -/
import Derived.Test.YtcfoljdpffonhaaGreatDoorId
set_option linter.unusedVariables false
set_option linter.unusedSimpArgs false
namespace Go.Proofs.YtcfoljdpffonhaaGreatDoor
open Go.RowKit Go.Lib
attribute [local go_sem] Oper.semAt_some

abbrev FIELDS : Array Value := #[.string ⟨#[]⟩, .string ⟨#[114, 110]⟩, .string ⟨#[114, 114]⟩, .string ⟨#[114, 114, 114]⟩, .string ⟨#[114, 114, 114]⟩, .string ⟨#[114, 114, 114]⟩, .string ⟨#[114, 114, 114]⟩, .string ⟨#[114, 114, 114]⟩, .string ⟨#[114, 114, 114]⟩, .string ⟨#[114, 114, 114]⟩, .string ⟨#[114, 114, 114]⟩, .string ⟨#[114, 114, 98]⟩, .string ⟨#[114, 114, 98]⟩, .string ⟨#[114, 114, 98]⟩, .string ⟨#[114, 114, 98]⟩, .string ⟨#[114, 114, 115]⟩, .string ⟨#[114, 114, 115]⟩, .string ⟨#[114, 114, 115]⟩, .string ⟨#[114, 114, 115]⟩, .string ⟨#[110]⟩, .string ⟨#[114]⟩, .string ⟨#[119]⟩, .string ⟨#[]⟩]
abbrev WORDS : Array Value := #[.string ⟨#[110, 111, 112]⟩, .string ⟨#[115, 101, 116]⟩, .string ⟨#[109, 111, 118, 101]⟩, .string ⟨#[97, 100, 100]⟩, .string ⟨#[115, 117, 98]⟩, .string ⟨#[109, 117, 108]⟩, .string ⟨#[97, 110, 100]⟩, .string ⟨#[111, 114]⟩, .string ⟨#[120, 111, 114]⟩, .string ⟨#[108, 101, 102, 116]⟩, .string ⟨#[114, 105, 103, 104, 116]⟩, .string ⟨#[108, 111, 97, 100]⟩, .string ⟨#[115, 116, 111, 114, 101]⟩, .string ⟨#[98, 121, 116, 101]⟩, .string ⟨#[112, 117, 116]⟩, .string ⟨#[115, 97, 109, 101]⟩, .string ⟨#[111, 116, 104, 101, 114]⟩, .string ⟨#[108, 101, 115, 115]⟩, .string ⟨#[98, 101, 108, 111, 119]⟩, .string ⟨#[103, 111]⟩, .string ⟨#[116, 101, 108, 108]⟩, .string ⟨#[97, 115, 107]⟩, .string ⟨#[101, 110, 100]⟩]
theorem fields_get (op : Nat) (h : op ≤ 22) : FIELDS[op]? = some (.string (fd op)) := by
  exact match op, h with
  | 0, _ => rfl
  | 1, _ => rfl
  | 2, _ => rfl
  | 3, _ => rfl
  | 4, _ => rfl
  | 5, _ => rfl
  | 6, _ => rfl
  | 7, _ => rfl
  | 8, _ => rfl
  | 9, _ => rfl
  | 10, _ => rfl
  | 11, _ => rfl
  | 12, _ => rfl
  | 13, _ => rfl
  | 14, _ => rfl
  | 15, _ => rfl
  | 16, _ => rfl
  | 17, _ => rfl
  | 18, _ => rfl
  | 19, _ => rfl
  | 20, _ => rfl
  | 21, _ => rfl
  | 22, _ => rfl
  | n + 23, h => absurd h (by omega)
theorem words_get (op : Nat) (h : op ≤ 22) : WORDS[op]? = some (.string (wd op)) := by
  exact match op, h with
  | 0, _ => rfl
  | 1, _ => rfl
  | 2, _ => rfl
  | 3, _ => rfl
  | 4, _ => rfl
  | 5, _ => rfl
  | 6, _ => rfl
  | 7, _ => rfl
  | 8, _ => rfl
  | 9, _ => rfl
  | 10, _ => rfl
  | 11, _ => rfl
  | 12, _ => rfl
  | 13, _ => rfl
  | 14, _ => rfl
  | 15, _ => rfl
  | 16, _ => rfl
  | 17, _ => rfl
  | 18, _ => rfl
  | 19, _ => rfl
  | 20, _ => rfl
  | 21, _ => rfl
  | 22, _ => rfl
  | n + 23, h => absurd h (by omega)
set_option maxHeartbeats 1000000 in
set_option maxRecDepth 20000 in
theorem fields_c {w0 w : World} {r : List Thing} (H : Hp w0 w r) :
    Calls Tryz.prog 77 #[] w fun e w' => ∃ g, e = .returned (.slice (some ⟨g, 0, none⟩) 23 23) ∧ Hp w0 w' (Blk g (.cells FIELDS 9 (0, 0)) :: r) := by
  have H1 := Lib.hid (blk_new H (.cells FIELDS 9))
  clear H
  go_enter Tryz.func77, Tryz.ntmps77
  go_wp2
  go_ret
  exact ⟨_, rfl, H1.out⟩
set_option maxHeartbeats 1000000 in
set_option maxRecDepth 20000 in
theorem words_c {w0 w : World} {r : List Thing} (H : Hp w0 w r) :
    Calls Tryz.prog 76 #[] w fun e w' => ∃ g, e = .returned (.slice (some ⟨g, 0, none⟩) 23 23) ∧ Hp w0 w' (Blk g (.cells WORDS 9 (0, 0)) :: r) := by
  have H1 := Lib.hid (blk_new H (.cells WORDS 9))
  clear H
  go_enter Tryz.func76, Tryz.ntmps76
  go_wp2
  go_ret
  exact ⟨_, rfl, H1.out⟩

theorem tby_cons (c : UInt8) (cs : List UInt8) : tby (c :: cs) = kby c + tby cs := by simp [tby]
theorem kby_pos (c : UInt8) : 1 ≤ kby c := by unfold kby; split <;> omega
theorem len_tby : ∀ l : List UInt8, l.length ≤ tby l
  | [] => Nat.zero_le _
  | c :: cs => by
    have := len_tby cs
    rw [tby_cons, List.length_cons]
    have : 1 ≤ kby c := by unfold kby; split <;> omega
    omega
theorem rck_cons {ch : UInt8} {cs : List UInt8} {L : List Int} {q : Nat} (hk : isK ch = true) (hl : L.length = q) (hq : kby ch ≤ q) :
    rck (ch :: cs) L = ((if ch = 114 then decide (L.getD 0 0 ≤ 7) else if ch = 119 then decide (1 ≤ L.getD 0 0) && decide (L.getD 0 0 ≤ 20) else true) && rck cs (L.drop (kby ch))) := by
  have e : L.headD 0 = L.getD 0 0 := by cases L <;> rfl
  unfold isK at hk
  simp only [Bool.or_eq_true, beq_iff_eq] at hk
  rcases hk with (((rfl | rfl) | rfl) | rfl) | rfl <;> simp [rck, e, kby, List.head?_eq_getElem?]

set_option maxHeartbeats 8000000 in
set_option maxRecDepth 20000 in
theorem rcheck_c {w0 w : World} {r : List Thing} {op : Nat} {a b c : Int} (H : Hp w0 w r) (hb : By3 a b c) (hop : op < 256) :
    Calls Tryz.prog 34 #[inS op a b c] w fun e w' => e = .returned (.bool (ck op a b c)) ∧ Hp w0 w' r := by
  have HX := Lib.hid (blk_new H (.cells #[.int .u8 op, .int .u8 a, .int .u8 b, .int .u8 c] 61))
  clear H
  have hwop : IntKind.i64.wrap (op : Int) = op := by rw [IntKind.wrap_i64]; omega
  go_enter Tryz.func34, Tryz.ntmps34
  by_cases h22 : op ≤ 22
  · have c1 : ¬ 23 ≤ (op : Int) := by omega
    have c12 : decide (23 ≤ (op : Int)) = false := by simpa using c1
    go_upto_region 1 with fail
    have x0 : (w.alloc (.cells #[.int .u8 op, .int .u8 a, .int .u8 b, .int .u8 c] 61)).cell? ⟨w.heap.size, 0, none⟩ = some (.int .u8 op) := cell_blk (blk_get HX.out) 0
    generalize (w.alloc (.cells #[.int .u8 op, .int .u8 a, .int .u8 b, .int .u8 c] 61)) = w1 at *
    generalize w.heap.size = xb at *
    go_region_held3 (fun x => x.cell? ⟨xb, 0, none⟩ = some (.int .u8 op)) (first | exact x0) (first | (go_at_call 76; refine (words_c HX.out.drew).mono ?_; rintro e wf ⟨g1, rfl, H1⟩; have x0 : wf.cell? ⟨xb, 0, none⟩ = some (.int .u8 op) := (cell_blk (blk_get (H1.pull 1 rfl)) 0)))
    have H2 := Lib.hid H1.tail
    have x1 : wf.cell? ⟨xb, 1, none⟩ = some (.int .u8 a) := cell_blk (blk_get H2.out) 1
    have x2 : wf.cell? ⟨xb, 2, none⟩ = some (.int .u8 b) := cell_blk (blk_get H2.out) 2
    have x3 : wf.cell? ⟨xb, 3, none⟩ = some (.int .u8 c) := cell_blk (blk_get H2.out) 3
    clear H1 HX
    have hck : ck op a b c = rck (fl op) [a, b, c] := by simp [ck, h22]
    have H3 := Lib.hid (blk_new H2.out (.cells #[.int .u8 a, .int .u8 b, .int .u8 c] 5))
    have HCK := Lib.hid hck
    clear hck H2
    go_upto_region 4 with fail
    have y0 : (wf.alloc (.cells #[.int .u8 a, .int .u8 b, .int .u8 c] 5)).cell? ⟨xb, 0, none⟩ = some (.int .u8 op) := cell_blk (blk_get (H3.out.pull 1 rfl)) 0
    clear x0 x1 x2 x3
    generalize (wf.alloc (.cells #[.int .u8 a, .int .u8 b, .int .u8 c] 5)) = w2 at *
    generalize wf.heap.size = g at *
    go_cut [4] from 20 to 24 (fun s4 wx => s4 = .string (fd op) ∧ Hid (Hp w0 wx (Blk g (.cells #[.int .u8 a, .int .u8 b, .int .u8 c] 5 (0, 0)) :: Blk xb (.cells #[.int .u8 op, .int .u8 a, .int .u8 b, .int .u8 c] 61 (0, 0)) :: r)))
    case first =>
      go_region_with (go_at_call 77; refine (fields_c H3.out.drew).mono ?_; rintro e wq ⟨g2, rfl, H4⟩; have y2 : wq.cell? ⟨xb, 0, none⟩ = some (.int .u8 op) := (cell_blk (blk_get (H4.pull 2 rfl)) 0); have y1 : wq.cell? ⟨g2, op, none⟩ = some (.string (fd op)) := ((cell_blk (blk_get H4) op).trans (fields_get op h22)))
      all_goals go_wp2
      all_goals
        go_meet
        exact ⟨rfl, Lib.hid H4.tail⟩
    case rest =>
    obtain ⟨rfl, H5⟩ := hcut
    clear y0 H3
    obtain ⟨fk, ft⟩ := fl_ok op
    have FK := Lib.hid fk
    have FD := Lib.hid (fd_get op)
    have hfs : (fd op).size = (fl op).length := rfl
    have hH5 := blk_get H5.out
    have GC : Hid (∀ q u k, q ≤ 3 → u + q = 3 → k < q → wc.cell? ⟨g, u + k, none⟩ = some (.int .u8 (([a, b, c].drop (3 - q)).getD k 0))) := Lib.hid (fun q u k h1 h2 h3 => (cell_blk hH5 (u + k)).trans (abc_get a b c h1 h2 k h3))
    clear hH5 fk
    go_wp2
    go_loop [5, 6] (fun s5 s6 => ∃ p q u : Nat, p ≤ (fl op).length ∧ q ≤ 3 ∧ u + q = 3 ∧ s5 = .int .i64 u ∧ s6 = .int .i64 p ∧ tby ((fl op).drop p) ≤ q ∧ Hid (rck (fl op) [a, b, c] = rck ((fl op).drop p) ([a, b, c].drop (3 - q)))) (fun _ s6 => (fl op).length - (intOf s6).toNat)
    case atStart => exact ⟨0, 3, 0, Nat.zero_le _, Nat.le_refl _, rfl, rfl, rfl, ft, Lib.hid (by simp)⟩
    case round =>
      obtain ⟨p, q, u, hp, hq, huq, rfl, rfl, htb, hr⟩ := hrel
      by_cases hlt : p < (fl op).length
      · obtain ⟨hl', hfc⟩ := FD.out p hlt
        have hkc := FK.out _ (List.getElem_mem hlt)
        have hdr : (fl op).drop p = (fl op)[p] :: (fl op).drop (p + 1) := List.drop_eq_getElem_cons hlt
        rw [hdr] at hr htb
        have htb' : kby (fl op)[p] + tby ((fl op).drop (p + 1)) ≤ q := by rw [tby_cons] at htb; exact htb
        have hr2 := hr.out
        rw [rck_cons (q := q) hkc (by rw [List.length_drop, List.length_cons, List.length_cons, List.length_cons, List.length_nil]; omega) (by omega), List.drop_drop] at hr2
        have huq1 : u ≤ 3 := by omega
        have hpl := len_tby (fl op)
        have HUQ := Lib.hid huq
        have bX := abc_bd hb.a hb.b hb.c (3 - q) 0
        have hwp : IntKind.i64.wrap ((p : Int) + 1) = (p : Int) + 1 := by rw [IntKind.wrap_i64]; omega
        have hwu : IntKind.i64.wrap ((u : Int) + 1) = (u : Int) + 1 := by rw [IntKind.wrap_i64]; omega
        have hwu2 : IntKind.i64.wrap ((u : Int) + 1 + 1) = (u : Int) + 1 + 1 := by rw [IntKind.wrap_i64]; omega
        have c1 : (p : Int) < ((fl op).length : Int) := by omega
        have h1k := kby_pos (fl op)[p]
        have h1q : 1 ≤ q := by omega
        have cx := GC.out q u 0 hq huq (by omega)
        rw [Nat.add_zero] at cx
        have c2 : (u : Int) < 3 := by omega
        have HFD := Lib.hid hfc
        have HKC := hkc
        unfold isK at HKC
        simp only [Bool.or_eq_true, beq_iff_eq] at HKC
        have HR := Lib.hid hr2
        have hkq : kby (fl op)[p] ≤ q := by omega
        have htb2 : tby ((fl op).drop (p + 1)) ≤ q - kby (fl op)[p] := by omega
        generalize hX : ([a, b, c].drop (3 - q)).getD 0 0 = X at *
        clear hr hr2 hdr htb huq hfc hX htb' hkc h1k
        rcases HKC with (((hc | hc) | hc) | hc) | hc
        · have h3 := HR.out
          rw [hc] at h3 htb2 hkq
          have hd := HFD.out.trans hc
          simp only [if_true, show kby 114 = 1 from rfl] at h3 htb2
          by_cases hx : X ≤ 7
          · have h4 : rck (fl op) [a, b, c] = rck ((fl op).drop (p + 1)) ([a, b, c].drop (3 - (q - 1))) := by
              rw [h3, show 3 - q + 1 = 3 - (q - 1) by omega]; simp [hx]
            have H6 := Lib.hid h4
            have d1 : ¬ 7 < X := by omega
            clear h3 h4 HR
            go_wp2
            go_round
            case rel => exact ⟨p + 1, q - 1, u + 1, by omega, by omega, by have := HUQ.out; omega, rfl, by go_num, by omega, Lib.hid H6.out⟩
            case measure => simp [intOf]; omega
          · have h4 : ck op a b c = false := by rw [HCK.out, h3]; simp [hx]
            have H6 := Lib.hid h4
            have d1 : 7 < X := by omega
            clear h3 h4 HR
            go_wp2
            go_ret
            exact ⟨by rw [H6.out]; rfl, H5.out.tail.tail⟩
        · have h3 := HR.out
          rw [hc] at h3 htb2 hkq
          have hd := HFD.out.trans hc
          simp only [show kby 110 = 2 from rfl] at h3 htb2
          have hq2 : 2 ≤ q := hkq
          have h4 : rck (fl op) [a, b, c] = rck ((fl op).drop (p + 1)) ([a, b, c].drop (3 - (q - 2))) := by
            rw [h3, show 3 - q + 2 = 3 - (q - 2) by omega]; simp
          have H6 := Lib.hid h4
          clear h3 h4 HR
          go_wp2
          go_round
          case rel => exact ⟨p + 1, q - 2, u + 2, by omega, by omega, by have := HUQ.out; omega, rfl, by go_num, by omega, Lib.hid H6.out⟩
          case measure => simp [intOf]; omega
        · have h3 := HR.out
          rw [hc] at h3 htb2 hkq
          have hd := HFD.out.trans hc
          simp only [show kby 98 = 1 from rfl] at h3 htb2
          have h4 : rck (fl op) [a, b, c] = rck ((fl op).drop (p + 1)) ([a, b, c].drop (3 - (q - 1))) := by
            rw [h3, show 3 - q + 1 = 3 - (q - 1) by omega]; simp
          have H6 := Lib.hid h4
          clear h3 h4 HR
          go_wp2
          go_round
          case rel => exact ⟨p + 1, q - 1, u + 1, by omega, by omega, by have := HUQ.out; omega, rfl, by go_num, by omega, Lib.hid H6.out⟩
          case measure => simp [intOf]; omega
        · have h3 := HR.out
          rw [hc] at h3 htb2 hkq
          have hd := HFD.out.trans hc
          simp only [show kby 119 = 1 from rfl] at h3 htb2
          by_cases hx1 : X < 1
          · have h4 : ck op a b c = false := by rw [HCK.out, h3]; simp; omega
            have H6 := Lib.hid h4
            clear h3 h4 HR
            go_wp2
            go_ret
            exact ⟨by rw [H6.out]; rfl, H5.out.tail.tail⟩
          · by_cases hx2 : 20 < X
            · have h4 : ck op a b c = false := by rw [HCK.out, h3]; simp; omega
              have H6 := Lib.hid h4
              clear h3 h4 HR
              go_wp2
              go_ret
              exact ⟨by rw [H6.out]; rfl, H5.out.tail.tail⟩
            · have h4 : rck (fl op) [a, b, c] = rck ((fl op).drop (p + 1)) ([a, b, c].drop (3 - (q - 1))) := by
                have e : (decide (1 ≤ X) && decide (X ≤ 20)) = true := by simp; omega
                rw [h3, show 3 - q + 1 = 3 - (q - 1) by omega]; simp [e]
              have H6 := Lib.hid h4
              clear h3 h4 HR
              go_wp2
              go_round
              case rel => exact ⟨p + 1, q - 1, u + 1, by omega, by omega, by have := HUQ.out; omega, rfl, by go_num, by omega, Lib.hid H6.out⟩
              case measure => simp [intOf]; omega
        · have h3 := HR.out
          rw [hc] at h3 htb2 hkq
          have hd := HFD.out.trans hc
          simp only [show kby 115 = 1 from rfl] at h3 htb2
          have h4 : rck (fl op) [a, b, c] = rck ((fl op).drop (p + 1)) ([a, b, c].drop (3 - (q - 1))) := by
            rw [h3, show 3 - q + 1 = 3 - (q - 1) by omega]; simp
          have H6 := Lib.hid h4
          clear h3 h4 HR
          go_wp2
          go_round
          case rel => exact ⟨p + 1, q - 1, u + 1, by omega, by omega, by have := HUQ.out; omega, rfl, by go_num, by omega, Lib.hid H6.out⟩
          case measure => simp [intOf]; omega
      · have hpe : p = (fl op).length := by omega
        have h3 := hr.out
        rw [List.drop_of_length_le (by omega)] at h3
        have HR := Lib.hid h3
        have c1 : ¬ (p : Int) < ((fl op).length : Int) := by omega
        have LL : Hid (([a, b, c].drop (3 - q)).length = q) := Lib.hid (by rw [List.length_drop]; simp; omega)
        have HCX := Lib.hid (fun k (h : k < q) => GC.out q u k hq huq h)
        clear hr h3 GC
        generalize [a, b, c].drop (3 - q) = L at *
        go_wp2
        go_loop [5] (fun s5 => ∃ k : Nat, k ≤ q ∧ s5 = .int .i64 ((u + k : Nat) : Int) ∧ Hid (∀ j, j < k → L.getD j 0 = 0)) (fun s5 => 3 - (intOf s5).toNat)
        case atStart => exact ⟨0, Nat.zero_le _, rfl, Lib.hid (fun j h => by omega)⟩
        case round =>
          obtain ⟨k, hk, rfl, hz⟩ := hrel
          have HUQ := Lib.hid huq
          by_cases hkq : k < q
          · have cx := HCX.out k hkq
            have c1 : ((u + k : Nat) : Int) < 3 := by omega
            have hwk : IntKind.i64.wrap (((u + k : Nat) : Int) + 1) = ((u + k : Nat) : Int) + 1 := by rw [IntKind.wrap_i64]; omega
            clear huq
            generalize huk : u + k = uk at *
            have HUK := Lib.hid huk
            clear huk
            by_cases h0 : L.getD k 0 = 0
            · have hz2 : Hid (∀ j, j < k + 1 → L.getD j 0 = 0) := Lib.hid (fun j hj => by
                rcases Nat.lt_or_eq_of_le (Nat.le_of_lt_succ hj) with h | rfl
                · exact hz.out j h
                · exact h0)
              rw [h0] at cx
              clear h0
              go_wp2
              go_round
              case rel => exact ⟨k + 1, by omega, by have := HUK.out; rw [← Nat.add_assoc, this]; go_num, hz2⟩
              case measure => simp [intOf]; omega
            · have hn : ck op a b c = false := by
                rw [HCK.out, HR.out]
                have hl := LL.out
                unfold rck
                rw [Bool.eq_false_iff]
                intro hc
                rw [List.all_eq_true] at hc
                have := hc (L[k]'(by omega)) (List.getElem_mem _)
                rw [List.getD_eq_getElem?_getD, List.getElem?_eq_getElem (by omega)] at h0
                simp at this h0
                exact h0 this
              have HN := Lib.hid hn
              have d1 : (L.getD k 0 != 0) = true := by simpa using h0
              clear hn h0
              generalize L.getD k 0 = z at *
              go_wp2
              go_ret
              exact ⟨by rw [HN.out]; rfl, H5.out.tail.tail⟩
          · have hke : k = q := by omega
            subst hke
            have hn : ck op a b c = true := by
              rw [HCK.out, HR.out]
              have hl := LL.out
              unfold rck
              rw [List.all_eq_true]
              intro x hx
              obtain ⟨j, hj, rfl⟩ := List.getElem_of_mem hx
              have := hz.out j (by omega)
              rw [List.getD_eq_getElem?_getD, List.getElem?_eq_getElem hj] at this
              simpa using this
            have HN := Lib.hid hn
            rw [huq]
            clear hn huq
            go_wp2
            go_ret
            exact ⟨by rw [HN.out]; rfl, H5.out.tail.tail⟩
  · have c1 : 23 ≤ (op : Int) := by omega
    have c12 : decide (23 ≤ (op : Int)) = true := by simpa using c1
    have hck : ck op a b c = false := by simp [ck]; intro h; omega
    have HCK := Lib.hid hck
    clear hck
    go_upto_region 1 with fail
    have x0 : (w.alloc (.cells #[.int .u8 op, .int .u8 a, .int .u8 b, .int .u8 c] 61)).cell? ⟨w.heap.size, 0, none⟩ = some (.int .u8 op) := cell_blk (blk_get HX.out) 0
    generalize (w.alloc (.cells #[.int .u8 op, .int .u8 a, .int .u8 b, .int .u8 c] 61)) = w1 at *
    generalize w.heap.size = xb at *
    go_region_held3 (fun x => x.cell? ⟨xb, 0, none⟩ = some (.int .u8 op)) (first | exact x0) (first | (go_at_call 76; refine (words_c HX.out.drew).mono ?_; rintro e wf ⟨g1, rfl, H1⟩; have x0 : wf.cell? ⟨xb, 0, none⟩ = some (.int .u8 op) := (cell_blk (blk_get (H1.pull 1 rfl)) 0)))
    have H2 := Lib.hid H1.tail
    have x1 : wf.cell? ⟨xb, 1, none⟩ = some (.int .u8 a) := cell_blk (blk_get H2.out) 1
    have x2 : wf.cell? ⟨xb, 2, none⟩ = some (.int .u8 b) := cell_blk (blk_get H2.out) 2
    have x3 : wf.cell? ⟨xb, 3, none⟩ = some (.int .u8 c) := cell_blk (blk_get H2.out) 3
    clear H1 HX
    go_wp2
    go_ret
    exact ⟨by rw [HCK.out]; rfl, H2.out.tail⟩
end Go.Proofs.YtcfoljdpffonhaaGreatDoor
