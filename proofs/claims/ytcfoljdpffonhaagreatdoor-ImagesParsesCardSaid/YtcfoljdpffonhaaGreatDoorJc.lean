/- Instructions: Text: the program's text. -/
import Derived.Test.YtcfoljdpffonhaaGreatDoorJb
import Derived.Test.YtcfoljdpffonhaaGreatDoorId
import Derived.Shelf.Abstract
set_option linter.unusedVariables false
set_option linter.unusedSimpArgs false
namespace Go.Proofs.YtcfoljdpffonhaaGreatDoor
open Go.RowKit Go.Joins Go.Shelf
attribute [local go_sem] Oper.semAt_some

/-- The functions of a kind of field. -/
def kft (c : UInt8) : FuncId := if c == 114 then 119 else if c == 115 then 122 else 113
def kfp (c : UInt8) : FuncId := if c == 114 then 120 else if c == 115 then 123 else 121
theorem kmap_look2 {w0 w : World} {r : List Thing} {m : Nat} {c : UInt8} (H : Hp w0 w (Kmap m :: r)) (hc : isK c = true) :
    ∃ bb, (Instr.lookup 153 (.map (some m)) (.int .i32 (c.toNat : Int)) false).run Tryz.prog w = .ok (.agg #[.int .i64 (kby c), lamB bb, fn_ (kft c), fn_ (kfp c)]) w ∧ w.cell? ⟨bb, 0, none⟩ = some (.int .i64 (klo c)) ∧ w.cell? ⟨bb + 1, 0, none⟩ = some (.int .i64 (khi c)) := by
  have h := H.unAlls
  have hm := blk_get h
  have bc : ∀ (k : Nat) (v : Int), w.heap[k]? = some (Ob v) → w.cell? ⟨k, 0, none⟩ = some (.int .i64 v) := fun k v hb => by rw [cell_blk hb]; rfl
  unfold isK at hc
  simp only [Bool.or_eq_true, beq_iff_eq] at hc
  rcases hc with (((rfl | rfl) | rfl) | rfl) | rfl
  · exact ⟨m + 1, run_lookup_there und_map und_i32 hm rfl rfl (i := 0), bc _ _ (blk_get (h.pull 9 rfl)), bc _ _ (blk_get (h.pull 10 rfl))⟩
  · exact ⟨m + 3, run_lookup_there und_map und_i32 hm rfl rfl (i := 1), bc _ _ (blk_get (h.pull 7 rfl)), bc _ _ (blk_get (h.pull 8 rfl))⟩
  · exact ⟨m + 5, run_lookup_there und_map und_i32 hm rfl rfl (i := 2), bc _ _ (blk_get (h.pull 5 rfl)), bc _ _ (blk_get (h.pull 6 rfl))⟩
  · exact ⟨m + 7, run_lookup_there und_map und_i32 hm rfl rfl (i := 3), bc _ _ (blk_get (h.pull 3 rfl)), bc _ _ (blk_get (h.pull 4 rfl))⟩
  · exact ⟨m + 9, run_lookup_there und_map und_i32 hm rfl rfl (i := 4), bc _ _ (blk_get (h.pull 1 rfl)), bc _ _ (blk_get (h.pull 2 rfl))⟩
theorem field_kind (k : Int) (b : Nat) (f g : FuncId) (w : World) : (Instr.field 152 (.agg #[.int .i64 k, lamB b, fn_ f, fn_ g]) 2).run Tryz.prog w = .ok (fn_ f) w := by kernel_rfl
theorem may_lt {c : UInt8} {n : Int} (hm : mayK c n = true) : 0 ≤ n ∧ n < 65536 ∧ (c == 115 → n < 256) := by
  unfold mayK klo khi at hm
  simp only [Bool.and_eq_true, decide_eq_true_eq] at hm
  refine ⟨?_, ?_, ?_⟩
  · have := hm.1; split at this <;> omega
  · have := hm.2; (repeat split at this) <;> omega
  · intro hc
    have hc' : c = 115 := by simpa using hc
    subst hc'
    have := hm.2
    simp at this; exact this
theorem enters_kft (c : UInt8) : ∀ args w, (callFunc (kft c) args).run Tryz.prog w = .ok (.enter (kft c) args) w := by
  unfold kft
  split
  · exact enters_of Tryz.func119 (by kernel_rfl) rfl
  · split
    · exact enters_of Tryz.func122 (by kernel_rfl) rfl
    · exact enters_of Tryz.func113 (by kernel_rfl) rfl
theorem enters_kfp (c : UInt8) : ∀ args w, (callFunc (kfp c) args).run Tryz.prog w = .ok (.enter (kfp c) args) w := by
  unfold kfp
  split
  · exact enters_of Tryz.func120 (by kernel_rfl) rfl
  · split
    · exact enters_of Tryz.func123 (by kernel_rfl) rfl
    · exact enters_of Tryz.func121 (by kernel_rfl) rfl
theorem text_k {w0 w : World} {r : List Thing} (L : Lf w0) {c : UInt8} {n : Int} (hm : mayK c n = true) (H : Hp w0 w r) :
    Calls Tryz.prog (kft c) #[.int .i64 n] w fun e w' => e = .returned (strv (tx c n)) ∧ Hp w0 w' r := by
  obtain ⟨h0, h1, h2⟩ := may_lt hm
  unfold kft
  split
  · rename_i hc
    have hc' : c = 114 := by simpa using hc
    subst hc'
    exact text_r L n h0 h1 H
  · rename_i hc
    split
    · rename_i hs
      have hc' : c = 115 := by simpa using hs
      subst hc'
      exact text_s L n h0 (h2 hs) H
    · rename_i hs
      have e : tx c n = Lib.itoa n := by unfold tx; rw [if_neg hc, if_neg hs]
      rw [e]
      exact itoa_c L n (by omega) (by omega) H
theorem parse_k {w0 w : World} {r : List Thing} (L : Lf w0) (c : UInt8) (s : List UInt8) (hs : s.length ≤ 281474976710656) (H : Hp w0 w r) :
    Calls Tryz.prog (kfp c) #[strv s] w fun e w' => ∃ v, e = .returned (.tuple #[.int .i64 v, .bool (pk c s).isSome]) ∧ (∀ n, pk c s = some n → v = n) ∧ Hp w0 w' r := by
  unfold kfp
  split
  · rename_i hc
    have hc' : c = 114 := by simpa using hc
    subst hc'
    exact parse_r L s hs H
  · rename_i hc
    split
    · rename_i h2
      have hc' : c = 115 := by simpa using h2
      subst hc'
      exact parse_s L s hs H
    · rename_i h2
      have e : pk c s = nS s := by unfold pk; rw [if_neg hc, if_neg h2]
      rw [e]
      refine (number_c L s hs H).mono ?_
      rintro e w' ⟨rfl, H'⟩
      exact ⟨_, rfl, fun n h => nV_of h, H'⟩
theorem tx_len {c : UInt8} {n : Int} (hm : mayK c n = true) : (tx c n).length ≤ 30 := by
  obtain ⟨h0, h1, h2⟩ := may_lt hm
  unfold tx
  split
  · have := Lib.itoa_length_le n (by omega) (by omega)
    simp; omega
  · split
    · have := Lib.itoa_length_le (if n < 128 then n else n - 256) (by split <;> omega) (by split <;> omega)
      omega
    · have := Lib.itoa_length_le n (by omega) (by omega)
      omega
/-- Fields that may be. -/
def mays : List UInt8 → List Int → Prop
  | c :: cs, n :: ns => mayK c n = true ∧ mays cs ns
  | [], [] => True
  | _, _ => False
theorem sp_mays : ∀ (cs : List UInt8) (rest l : List Int), sp cs rest = some l → mays cs l
  | [], rest, l, h => by
    unfold sp at h; split at h
    · cases h; trivial
    · cases h
  | c :: cs, rest, l, h => by
    unfold sp at h
    split at h
    · rename_i hm
      rw [Option.map_eq_some_iff] at h
      obtain ⟨l', hl, rfl⟩ := h
      exact ⟨hm, sp_mays cs _ l' hl⟩
    · cases h
theorem mays_len : ∀ (cs : List UInt8) (l : List Int), mays cs l → l.length = cs.length
  | [], [], _ => rfl
  | c :: cs, n :: ns, h => by simp [mays_len cs ns h.2]
  | [], _ :: _, h => h.elim
  | _ :: _, [], h => h.elim
theorem mays_drop : ∀ (cs : List UInt8) (l : List Int) (p : Nat), mays cs l → mays (cs.drop p) (l.drop p)
  | cs, l, 0, h => h
  | [], [], p + 1, h => by simp [mays]
  | c :: cs, n :: ns, p + 1, h => mays_drop cs ns p h.2
  | [], _ :: _, _ + 1, h => h.elim
  | _ :: _, [], _ + 1, h => h.elim
theorem wl_len (op : Nat) : (wl op).length ≤ 8 := by
  have key : ∀ n : Nat, n ≤ 22 → (wl n).length ≤ 8 := by decide
  by_cases h : op ≤ 22
  · exact key op h
  · have : wl op = [] := by
      match op, h with
      | n + 23, _ => rfl
    simp [this]
theorem fl_len (op : Nat) : (fl op).length ≤ 3 := by
  have key : ∀ n : Nat, n ≤ 22 → (fl n).length ≤ 3 := by decide
  by_cases h : op ≤ 22
  · exact key op h
  · have : fl op = [] := by
      match op, h with
      | n + 23, _ => rfl
    simp [this]
theorem str_app2 (a b : List UInt8) : (⟨a.toArray⟩ : ByteArray) ++ ⟨b.toArray⟩ = ⟨(a ++ b).toArray⟩ := ByteArray.mk_append_mk a b
theorem forms_h {w0 w : World} {r : List Thing} (H : Hp w0 w r) :
    Calls Tryz.prog 103 #[] w fun e w' => e = .returned (.agg FORMS) ∧ Hp w0 w' r := by
  refine (forms_c w).mono ?_
  rintro e w' ⟨rfl, h⟩
  exact ⟨rfl, H.below_read h⟩
set_option maxHeartbeats 8000000 in
set_option maxRecDepth 20000 in
theorem text_yes {w0 w : World} {r : List Thing} (L : Lf w0) {op : Nat} {a b c : Int} (H : Hp w0 w r) (hb : By3 a b c) (hk : ck op a b c = true) :
    ∃ l, sp (fl op) [a, b, c] = some l ∧ Calls Tryz.prog 73 #[inS op a b c] w fun e w' => e = .returned (.tuple #[strv (txt op l), .int .i64 0]) ∧ Hp w0 w' r := by
  have HX := Lib.hid (blk_new H (.cells #[.int .u8 op, .int .u8 a, .int .u8 b, .int .u8 c] 61))
  obtain ⟨l, hl, hc⟩ := split_yes HX.out hb hk
  have hop : op ≤ 22 := by unfold ck at hk; simp at hk; exact hk.1
  refine ⟨l, hl, ?_⟩
  have HC := Lib.hid hc
  have HM := Lib.hid (sp_mays _ _ _ hl)
  have hix := index_forms op hop
  have hfk := field_kind
  have HL := Lib.hid (mays_len _ _ (sp_mays _ _ _ hl))
  clear hc hl H hk
  go_enter Tryz.func73, Tryz.ntmps73
  go_wp2_with fail
  refine HC.out.mono ?_; rintro e w1 ⟨v, rfl, H1⟩
  have H2 := Lib.hid H1
  obtain ⟨av, cv, rfl⟩ := own_slice H1
  clear H1 HC HX
  go_upto_region 4 with fail
  have x0 : w1.cell? ⟨w.heap.size, 0, none⟩ = some (.int .u8 op) := by rw [cell_blk (blk_get (H2.out.pull 1 rfl))]; rfl
  generalize w.heap.size = xb at *
  go_cut [6] from 17 to 20 (fun s6 wx => ∃ fb, s6 = .pointer (some ⟨fb, 0, none⟩) ∧ Hid (Hp w0 wx (Blk fb (.cells #[.string (wd op), .string (fd op)] 146 (0, 0)) :: OwnI (.slice av l.length cv) l :: Blk xb (.cells #[.int .u8 op, .int .u8 a, .int .u8 b, .int .u8 c] 61 (0, 0)) :: r)))
  case first =>
    go_region_held3 (fun x => x.cell? ⟨xb, 0, none⟩ = some (.int .u8 op)) (first | exact x0 | exact cell_alloc_l' _ x0 | exact cell_blk (blk_get ((blk_set (blk_set HF 0 (.string (wd op))) 1 (.string (fd op))).pull 2 rfl)) 0 | go_keep) (first | (go_at_call 103; (first | (refine (forms_h H2.out.drew).mono ?_; rintro e wf ⟨rfl, HF⟩; have x0 : wf.cell? ⟨xb, 0, none⟩ = some (.int .u8 op) := (cell_blk (blk_get (HF.pull 1 rfl)) 0)) | (refine (forms_h (blk_new H2.out.drew _)).mono ?_; rintro e wf ⟨rfl, HF⟩; have x0 : wf.cell? ⟨xb, 0, none⟩ = some (.int .u8 op) := (cell_blk (blk_get (HF.pull 2 rfl)) 0); have z0 : wf.cell? ⟨w1.heap.size, 0, none⟩ = some (.string ⟨#[]⟩) := (cell_blk (blk_get HF) 0); have z1 : wf.cell? ⟨w1.heap.size, 1, none⟩ = some (.string ⟨#[]⟩) := (cell_blk (blk_get HF) 1); have z2 : wf.frozen? ⟨w1.heap.size, 0, none⟩ = false := (free_blk (blk_get HF) 0); have z3 : wf.frozen? ⟨w1.heap.size, 1, none⟩ = false := (free_blk (blk_get HF) 1)))))
    all_goals go_wp2
    all_goals go_meet
    all_goals first | exact ⟨_, rfl, Lib.hid (blk_new HF _)⟩ | exact ⟨_, rfl, Lib.hid (blk_set (blk_set HF 0 _) 1 _)⟩
  case rest =>
  obtain ⟨fb, rfl, H3⟩ := hcut
  clear x0 hix H2
  have f0 : wc.cell? ⟨fb, 0, none⟩ = some (.string (wd op)) := cell_blk (blk_get H3.out) 0
  have f1 : wc.cell? ⟨fb, 1, none⟩ = some (.string (fd op)) := cell_blk (blk_get H3.out) 1
  have H4 : Hid (Hp w0 (wc.iter (fd op) 0) (Blk wc.heap.size (.stringIter (fd op) 0) :: _)) := Lib.hid (blk_new H3.out _)
  obtain ⟨fk, ft⟩ := fl_ok op
  have FK := Lib.hid fk
  have FD := Lib.hid (fd_get op)
  have hfs : (fd op).size = (fl op).length := rfl
  have WL := Lib.hid (wl_len op)
  have F3 : Hid ((fl op).length ≤ 3) := Lib.hid (fl_len op)
  clear fk ft
  go_wp2
  generalize (wc.iter (fd op) 0) = w2 at *
  generalize wc.heap.size = ib at *
  go_loopw [7] (fun s7 wr => ∃ p acc, p ≤ (fl op).length ∧ s7 = strv acc ∧ acc.length ≤ 8 + 31 * p ∧ Hid (txt op l = acc ++ ((txs ((fl op).drop p) (l.drop p)).flatMap (32 :: ·))) ∧ Hid (Hp w0 wr (Blk ib (.stringIter (fd op) p) :: Blk fb (.cells #[.string (wd op), .string (fd op)] 146 (0, 0)) :: OwnI (.slice av l.length cv) l :: Blk xb (.cells #[.int .u8 op, .int .u8 a, .int .u8 b, .int .u8 c] 61 (0, 0)) :: r))) (fun _ wr => (fl op).length - wr.iterPos ib)
  case atStart => exact ⟨0, wl op, Nat.zero_le _, rfl, WL.out, Lib.hid rfl, H4⟩
  case round =>
    obtain ⟨p, acc, hp, rfl, hac, hT, hH⟩ := hrel
    have hip : wr.iterPos ib = p := by unfold World.iterPos; rw [blk_get hH.out]
    have HIP := Lib.hid hip
    clear hip H4 f0 f1
    by_cases hlt : p < (fl op).length
    · obtain ⟨hl', hfc⟩ := FD.out p hlt
      have hkc := FK.out _ (List.getElem_mem hlt)
      have hnx : ∀ ty, (Instr.next (.pointer (some ⟨ib, 0, none⟩)) true ty).run Tryz.prog wr = _ := fun ty => Lib.run_next_ascii_at wr ib (fd op) p ty (blk_get hH.out) hl' (by rw [hfc]; exact isK_lt hkc)
      rw [hfc] at hnx
      have H6 := Lib.hid (hH.out.iter (p + 1))
      have hpl : p < l.length := by rw [HL.out]; exact hlt
      have hdr : (fl op).drop p = (fl op)[p] :: (fl op).drop (p + 1) := List.drop_eq_getElem_cons hlt
      have hdl : l.drop p = l[p] :: l.drop (p + 1) := List.drop_eq_getElem_cons hpl
      have hmy : mayK (fl op)[p] l[p] = true := by have := mays_drop _ _ p HM.out; rw [hdr, hdl] at this; exact this.1
      have hTT : txt op l = (acc ++ 32 :: tx (fl op)[p] l[p]) ++ ((txs ((fl op).drop (p + 1)) (l.drop (p + 1))).flatMap (32 :: ·)) := by rw [hT.out, hdr, hdl]; simp [txs]
      obtain ⟨g, cap, hv, hcl⟩ := own_cell (H6.out.pull 2 rfl) p (.int .i64 l[p]) (by simp [hpl])
      injection hv with h1 h2 h3
      subst h1
      subst h3
      have hp3 : p < 3 := by have := F3.out; omega
      have HPL := Lib.hid hpl
      have hpl' : (p : Int) < (l.length : Int) := by omega
      generalize (fl op)[p] = ch at *
      generalize hn : l[p] = n at *
      have HTT := Lib.hid hTT
      have HMY := Lib.hid hmy
      have tl := tx_len hmy
      have hl1 : ¬ 9223372036854775807 < 1 + (tx ch n).length := by omega
      have hl2 : ¬ 9223372036854775807 < acc.length + (1 + (tx ch n).length) := by omega
      have hen := enters_kft ch
      have TL : Hid ((acc ++ 32 :: tx ch n).length ≤ 8 + 31 * (p + 1)) := Lib.hid (by simp; omega)
      have HGC : Hid (∀ (W : World) (r' : List Thing), Hp w0 W (OwnI (.slice (some ⟨g, 0, none⟩) l.length cv) l :: r') → W.cell? ⟨g, p, none⟩ = some (.int .i64 n)) := Lib.hid (fun W r' h => by
        obtain ⟨g', cap', hv', hc'⟩ := own_cell h p (.int .i64 n) (by simp [hpl]; exact hn)
        injection hv' with e1 e2 e3
        injection e1 with e1
        injection e1 with e1
        subst e1
        exact hc')
      clear hTT hmy hdr hdl hT hH hn h2 hpl tl
      go_upto_region 9 with fail
      generalize (wr.iterAt ib (fd op) (p + 1)) = w3 at *
      clear hnx
      go_region_held3 (fun x => x.cell? ⟨g, p, none⟩ = some (.int .i64 n)) (first | exact hcl | exact hc2 | exact hc3) (first | (go_at_call 104; refine (kinds_c H6.out.drew).mono ?_; rintro e wk ⟨m, rfl, HK⟩; obtain ⟨bb, hlk, _, _⟩ := kmap_look2 HK hkc; have HTX := Lib.hid (text_k L HMY.out HK); have hc2 := HGC.out _ _ (HK.pull 3 rfl)) | (go_at_fn (kft ch); refine HTX.out.mono ?_; rintro e wt ⟨rfl, HT⟩; have hc3 := HGC.out _ _ (HT.pull 3 rfl)))
      have hpos : wt.iterPos ib = p + 1 := by unfold World.iterPos; rw [blk_get (HT.pull 1 rfl)]
      have HP := Lib.hid hpos
      have H9 := Lib.hid HT.tail
      clear HK HT HTX H6 hc2 hc3 hcl hlk hpos
      go_roundw
      case rel => (repeat apply Exists.intro); exact ⟨⟨p + 1, acc ++ 32 :: tx ch n, by omega, by rw [str_app, str_app2], TL.out, HTT, H9⟩, rfl⟩
      case measure => rw [HP.out, HIP.out]; omega
    · have hpe : p = (fl op).length := by omega
      have hnx : ∀ ty, (Instr.next (.pointer (some ⟨ib, 0, none⟩)) true ty).run Tryz.prog wr = _ := fun ty => Lib.run_next_end_at wr ib (fd op) p ty (blk_get hH.out) (by show ¬ p < (fl op).length; exact hlt)
      have hT2 : txt op l = acc := by rw [hT.out, List.drop_of_length_le (by omega)]; simp [txs]
      have HT2 := Lib.hid hT2
      clear hT hT2
      go_wp2
      go_ret2
      exact ⟨by rw [HT2.out]; rfl, hH.out.tail.tail.tail.tail⟩
theorem text_no_w {w0 w : World} {r : List Thing} (L : Lf w0) {op : Nat} {a b c : Int} (H : Hp w0 w r) (hb : By3 a b c) (hk : ck op a b c = false) :
    Calls Tryz.prog 73 #[inS op a b c] w fun e w' => e = .returned (.tuple #[strv [], .int .i64 1]) ∧ Hp w0 w' r := by
  have HX := Lib.hid (H.alloc (.cells #[.int .u8 op, .int .u8 a, .int .u8 b, .int .u8 c] 61))
  have HC := Lib.hid (split_not HX.out hb hk)
  clear H HX hk
  go_enter Tryz.func73, Tryz.ntmps73
  go_wp2_with fail
  refine HC.out.mono ?_; rintro e w1 ⟨rfl, H1⟩
  have H2 := Lib.hid H1
  clear H1
  go_wp2
  go_ret2
  exact ⟨rfl, H2.out⟩
/-- An instruction's fields. -/
def flds (op : Nat) (a b c : Int) : Option (List Int) := if op ≤ 22 then sp (fl op) [a, b, c] else none
theorem flds_ck {op : Nat} {a b c : Int} (hb : By3 a b c) : (flds op a b c).isSome = ck op a b c := by
  unfold flds
  split
  · rename_i h; exact sp_ck h hb
  · rename_i h; simp [ck, h]
/-- An instruction as it is written. -/
def txo (op : Nat) (a b c : Int) : List UInt8 := match flds op a b c with | some l => txt op l | none => []
theorem text_c {w0 w : World} {r : List Thing} (L : Lf w0) {op : Nat} {a b c : Int} (H : Hp w0 w r) (hb : By3 a b c) :
    Calls Tryz.prog 73 #[inS op a b c] w fun e w' => e = .returned (.tuple #[strv (txo op a b c), .int .i64 (if ck op a b c then 0 else 1)]) ∧ Hp w0 w' r := by
  cases hk : ck op a b c with
  | true =>
    obtain ⟨l, hl, hc⟩ := text_yes L H hb hk
    have h22 : op ≤ 22 := by unfold ck at hk; simp at hk; exact hk.1
    have : txo op a b c = txt op l := by unfold txo flds; rw [if_pos h22, hl]
    rw [this]
    exact hc
  | false =>
    have h2 : flds op a b c = none := by have := flds_ck (op := op) hb; rw [hk] at this; simpa using this
    have : txo op a b c = [] := by unfold txo; rw [h2]
    rw [this]
    exact text_no_w L H hb hk
end Go.Proofs.YtcfoljdpffonhaaGreatDoor
