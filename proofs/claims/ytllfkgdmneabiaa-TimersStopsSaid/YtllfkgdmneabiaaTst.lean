/- TimersStops of timekeeperlaw19: the plain law and the walk. -/
import Derived.Test.YtllfkgdmneabiaaTpe
import Derived.Test.YtllfkgdmneabiaaTlv
import Derived.Test.YtllfkgdmneabiaaWf
set_option linter.unusedVariables false
set_option linter.unusedSimpArgs false
namespace Go.Proofs.Ytllfkgdmneabiaa
open Go.RowKit Go.Shelf Go.Maps
attribute [local go_sem] Oper.semAt_some

/-- To start one, whatever is asked. -/
def okS (id n e : Int) : Prop := 0 ≤ id ∧ 1 ≤ n ∧ n ≤ 1073741824 ∧ 0 ≤ e ∧ e ≤ 1073741824
instance (id n e : Int) : Decidable (okS id n e) := by unfold okS; infer_instance
def stl (l : List (Int × Int)) (id n e : Int) : List (Int × Int) := if okS id n e then ins (but l id) id n else l
def stf (f : Int → Int) (id n e : Int) : Int → Int := if okS id n e then upd f id e else f
theorem start_det {w0 w : World} {r : List Thing} {b lb mb m : Nat} {l : List (Int × Int)} {f : Int → Int} (id n e : Int) (h : Hp w0 w (Als b lb mb :: Slp lb l :: Mp mb m f :: r)) (ha : Al l f) (hl : l.length < 9999) (hm : m < 99999) (hw : (Lit.int .i64 id).wf = true) :
    Calls Try.prog 7 #[.pointer (some ⟨b, 0, none⟩), .int .i64 id, .int .i64 n, .int .i64 e] w fun x w' => ∃ c m', x = .returned (.int .i64 c) ∧ Hp w0 w' (Als b lb mb :: Slp lb (stl l id n e) :: Mp mb m' (stf f id n e) :: r) ∧ m' ≤ m + 1 := by
  unfold stl stf
  by_cases hk : okS id n e
  · rw [if_pos hk, if_pos hk]
    unfold okS at hk
    exact (start_ok id n e h ha hl hm (by omega) hw (by omega) (by omega) (by omega) (by omega)).mono fun x w' ⟨h1, h2⟩ => ⟨_, _, h1, h2, by omega⟩
  · rw [if_neg hk, if_neg hk]
    unfold okS at hk
    by_cases h0 : 0 ≤ id
    · exact (start_range id n e h h0 (by unfold badS; omega)).mono fun x w' ⟨h1, h2⟩ => ⟨_, _, h1, h2, by omega⟩
    · exact (start_arg id n e h (by omega)).mono fun x w' ⟨h1, h2⟩ => ⟨_, _, h1, h2, by omega⟩
theorem al_st {l : List (Int × Int)} {f : Int → Int} (h : Al l f) {id n e : Int} (hw : (Lit.int .i64 id).wf = true) : Al (stl l id n e) (stf f id n e) := by
  unfold stl stf
  by_cases hk : okS id n e
  · rw [if_pos hk, if_pos hk]
    unfold okS at hk
    exact al_start h ⟨by omega, hw⟩ (by omega) (by omega) (by omega) (by omega)
  · rw [if_neg hk, if_neg hk]; exact h
theorem stl_len (l : List (Int × Int)) (id n e : Int) : (stl l id n e).length ≤ l.length + 1 := by
  unfold stl
  split
  · rw [ins_len]; have := but_le l id; omega
  · omega

/-- Alarms without one. -/
def Sans (La : List (Int × Int)) (Fa : Int → Int) (Lb : List (Int × Int)) (F : Int → Int) (id : Int) : Prop := La = but Lb id ∧ (Fa = upd F id 0 ∨ (Fa = F ∧ id ∉ Lb.map Prod.fst))
theorem sans_tk {La Lb : List (Int × Int)} {Fa F : Int → Int} {id : Int} (h : Sans La Fa Lb F id) (hb : Al Lb F) : wake La = (wake Lb).filter (fun x => x != id) ∧ Sans (tk Fa La) Fa (tk F Lb) F id := by
  obtain ⟨rfl, h⟩ := h
  refine ⟨wake_but _ _, ?_, ?_⟩
  · rcases h with rfl | ⟨rfl, hn⟩
    · exact tk_but hb id
    · rw [but_id hn, but_id ((tk_other hb id).2.2.2 hn)]
  · rcases h with rfl | ⟨rfl, hn⟩
    · exact Or.inl rfl
    · exact Or.inr ⟨rfl, (tk_other hb id).2.2.2 hn⟩
/-- How many of the first ones are others. -/
def fn (ws : List Int) (id : Int) (k : Nat) : Nat := ((ws.take k).filter (fun x => x != id)).length
theorem fn_succ (ws : List Int) (id : Int) (k : Nat) (hk : k < ws.length) : fn ws id (k + 1) = if ws[k] = id then fn ws id k else fn ws id k + 1 := by
  unfold fn
  rw [List.take_succ_eq_append_getElem hk, List.filter_append, List.length_append]
  by_cases h : ws[k] = id
  · rw [if_pos h, List.filter_cons, if_neg (by simp [h])]; rfl
  · rw [if_neg h, List.filter_cons, if_pos (by simpa using h)]; rfl
theorem fn_le (ws : List Int) (id : Int) (k : Nat) : fn ws id k ≤ k := by
  unfold fn; exact Nat.le_trans (List.length_filter_le _ _) (by rw [List.length_take]; omega)
theorem fn_get (ws : List Int) (id : Int) (k : Nat) (hk : k < ws.length) (h : ws[k] ≠ id) : (ws.filter (fun x => x != id))[fn ws id k]? = some ws[k] := by
  have e : ws.filter (fun x => x != id) = (ws.take k).filter (fun x => x != id) ++ (ws[k] :: (ws.drop (k + 1)).filter (fun x => x != id)) := by
    rw [show ws[k] :: (ws.drop (k + 1)).filter (fun x => x != id) = (ws[k] :: ws.drop (k + 1)).filter (fun x => x != id) by rw [List.filter_cons, if_pos (by simpa using h)], ← List.drop_eq_getElem_cons hk, ← List.filter_append, List.take_append_drop]
  rw [e]
  unfold fn
  rw [List.getElem?_append_right (Nat.le_refl _), Nat.sub_self]
  rfl
theorem fn_all (ws : List Int) (id : Int) : fn ws id ws.length = (ws.filter (fun x => x != id)).length := by unfold fn; rw [List.take_length]
theorem ints_get {w0 w : World} {r : List Thing} {v : Value} {zs : List Int} (h : Hp w0 w (Ints v zs :: r)) (j : Nat) (x : Int) (hj : zs[j]? = some x) : ∃ g off c, v = .slice (some ⟨g, off, none⟩) zs.length c ∧ w.cell? ⟨g, off + j, none⟩ = some (.int .i64 x) := by
  obtain ⟨hl, e⟩ := List.getElem?_eq_some_iff.1 hj
  obtain ⟨g, off, c, e1, e2⟩ := ints_cell h j hl
  exact ⟨g, off, c, e1, by rw [e2, e]⟩

/-- The first three go behind the next three. -/
theorem Hp.to3 {w0 w : World} {a b c d e f : Thing} {r : List Thing} (h : Hp w0 w (a :: b :: c :: d :: e :: f :: r)) : Hp w0 w (d :: e :: f :: a :: b :: c :: r) := h.pull 5 rfl |>.pull 5 rfl |>.pull 5 rfl

set_option maxHeartbeats 8000000 in
set_option maxRecDepth 20000 in
theorem stops_law (a : Option Addr) (c : Nat) (xs : List Ac) (id : Int) (g : Nat) (hid : (Lit.int .i64 id).wf = true) (hg : g < 256) (w : World) (hb : ActsIn w a xs) (hwf : ∀ z ∈ xs, AcWf z) :
    Calls Try.prog 4 #[.slice a xs.length c, .int .i64 id, .int .u8 g] w fun e w' => e = .returned (.bool true) ∧ Below w.heap.size w w' := by
  have hgw : IntKind.i64.wrap (g : Int) = g := by rw [IntKind.wrap_i64]; omega
  have HID := Lib.hid hid
  clear hid
  go_enter Try.func4, Try.ntmps4
  by_cases hn : 200 < (xs.length : Int)
  · go_wp2_with fail
    refine (lives_c _).mono ?_; rintro e w1 ⟨rfl, hb1⟩
    go_wp2
    go_ret
    exact ⟨rfl, ((Hp.start w).below_read hb1).below⟩
  · go_wp2_with fail
    refine (new_al (Hp.start w)).mono ?_; rintro e w1 ⟨b1, l1, m1, rfl, H1⟩
    go_wp2_with fail
    refine (new_al H1).mono ?_; rintro e w2 ⟨b2, l2, m2, rfl, H2⟩
    go_wp2_with fail
    go_loopw [9] (fun i wr => ∃ k : Nat, k ≤ xs.length ∧ i = .int .i64 k ∧ ∃ L F n1 n2, n1 ≤ k ∧ n2 ≤ k ∧ L.length ≤ k ∧ Al L F ∧ Hp w wr [Als b1 l1 m1, Slp l1 L, Mp m1 n1 F, Als b2 l2 m2, Slp l2 L, Mp m2 n2 F]) (fun i _ => xs.length - (intOf i).toNat)
    case atStart => exact ⟨0, Nat.zero_le _, rfl, [], _, _, _, Nat.zero_le _, Nat.zero_le _, by simp, al_nil, H2.to3⟩
    case round =>
      obtain ⟨k, hk, rfl, L, F, n1, n2, hn1, hn2, hL, ha, H⟩ := hrel
      clear H1 H2
      by_cases hkn : k < xs.length
      · obtain ⟨ga, offa, rfl, d0, d1, d2, d3⟩ := acts_cell H hb k hkn
        have c2 : (k : Int) < (xs.length : Int) := by omega
        have hx := hwf _ (List.getElem_mem hkn)
        have b5 : IntKind.i64.wrap ((k : Int) + 1) = (k : Int) + 1 := by rw [IntKind.wrap_i64]; omega
        generalize xs[k] = x at *
        obtain ⟨xk, xi, xn, xe⟩ := x
        obtain ⟨x1, x2, x3, x4⟩ := hx
        simp only at d0 d1 d2 d3 x1 x2
        have X2 := Lib.hid x2
        have x5 := wf_u8 x1
        obtain ⟨kd, rfl⟩ : ∃ n : Nat, xk = (n : Int) := ⟨xk.toNat, by omega⟩
        obtain ⟨ρ, hmod, hρ⟩ : ∃ ρ : Nat, (kd : Int).tmod 6 = (ρ : Int) ∧ ρ < 6 := ⟨kd % 6, by rw [show (6 : Int) = ((6 : Nat) : Int) by rfl, Int.ofNat_tmod], Nat.mod_lt _ (by omega)⟩
        have b6 : IntKind.u8.wrap (ρ : Int) = ρ := by rw [IntKind.wrap_u8]; omega
        clear x1 x2 x3 x4
        by_cases hr : (ρ : Int) < 2
        · have HX := (blk_new H (.cells #[.int .u8 kd, .int .i64 xi, .int .i64 xn, .int .i64 xe] 31)).to1
          go_wp2_with fail
          refine (start_det xi xn xe HX ha (by omega) (by omega) X2.out).mono ?_; rintro e w3 ⟨c3, n3, rfl, H3, hn3⟩
          have hx := blk_get (H3.pull 3 rfl)
          have k1 : w3.cell? ⟨wr.heap.size, 1, none⟩ = some (.int .i64 xi) := by rw [cell_blk hx]; rfl
          have k2 : w3.cell? ⟨wr.heap.size, 2, none⟩ = some (.int .i64 xn) := by rw [cell_blk hx]; rfl
          have k3 : w3.cell? ⟨wr.heap.size, 3, none⟩ = some (.int .i64 xe) := by rw [cell_blk hx]; rfl
          clear hx
          go_wp2_with fail
          refine (start_det xi xn xe (H3.pull 6 rfl |>.pull 6 rfl |>.pull 6 rfl) ha (by omega) (by omega) X2.out).mono ?_; rintro e w4 ⟨c4, n4, rfl, H4, hn4⟩
          have H5 := ((H4.pull 6 rfl).tail).to3
          have ha5 := al_st ha (n := xn) (e := xe) X2.out
          have hl5 := stl_len L xi xn xe
          clear H3 H4 HX k1 k2 k3
          go_wp2
          go_roundw
          case rel => exact ⟨k + 1, by omega, by go_num, _, _, n3, n4, by omega, by omega, by omega, ha5, H5⟩
          case measure => simp [intOf]; omega
        · go_wp2_with fail
          refine (tick_al (H.alloc _) ha (by omega)).mono ?_; rintro e w3 ⟨v, rfl, H3, _⟩
          go_wp2_with fail
          refine (tick_al H3.tail.to3 ha (by omega)).mono ?_; rintro e w4 ⟨v', rfl, H4, _⟩
          have H5 := H4.tail.to3
          have ha5 := al_tk ha
          have hl5 := tk_len F L
          clear H3 H4
          go_wp2
          go_roundw
          case rel => exact ⟨k + 1, by omega, by go_num, _, _, n1, n2, by omega, by omega, by omega, ha5, H5⟩
          case measure => simp [intOf]; omega
      · obtain rfl : k = xs.length := by omega
        have c2 : ¬ (xs.length : Int) < (xs.length : Int) := by omega
        obtain ⟨La, Fa, left, code, hS, haA, hlA, hleft, hcode, hc2⟩ : ∃ La Fa left code, Sans La Fa L F id ∧ Al La Fa ∧ La.length ≤ L.length ∧ left = (lf L id).1 ∧ ((id ∈ L.map Prod.fst ∧ code = 0 ∧ 0 < left ∧ La = but L id ∧ Fa = upd F id 0) ∨ (id ∉ L.map Prod.fst ∧ code = 7 ∧ left = 0 ∧ La = L ∧ Fa = F)) ∧ id ∉ La.map Prod.fst := by
          by_cases hi : id ∈ L.map Prod.fst
          · obtain ⟨⟨y1, y2⟩, hy, rfl⟩ := List.mem_map.1 hi
            have e := lf_in ha.ok hy
            have hb1 := ha.ok.bd _ hy
            simp only at e hb1
            exact ⟨but L y1, upd F y1 0, _, 0, ⟨rfl, Or.inl rfl⟩, al_stop ha _, but_le _ _, rfl, Or.inl ⟨hi, rfl, by rw [e]; exact hb1.1, rfl, rfl⟩, but_notin _ _⟩
          · exact ⟨L, F, _, 7, ⟨(but_id hi).symm, Or.inr ⟨rfl, hi⟩⟩, ha, Nat.le_refl _, rfl, Or.inr ⟨hi, rfl, by rw [lf_out hi], rfl, rfl⟩, hi⟩
        have stp : ∀ w5, Hp w w5 [Als b1 l1 m1, Slp l1 L, Mp m1 n1 F, Als b2 l2 m2, Slp l2 L, Mp m2 n2 F] → Calls Try.prog 8 #[.pointer (some ⟨b1, 0, none⟩), .int .i64 id] w5 fun x w' => x = .returned (.int .i64 code) ∧ Hp w w' [Als b1 l1 m1, Slp l1 La, Mp m1 n1 Fa, Als b2 l2 m2, Slp l2 L, Mp m2 n2 F] := by
          intro w5 h
          rcases hcode with ⟨h1, rfl, _, rfl, rfl⟩ | ⟨h1, rfl, _, rfl, rfl⟩
          · exact stop_ok id h ha (by omega) HID.out h1
          · exact stop_state id h (by omega) h1
        have hz : (lf La id).1 = 0 := by rw [lf_out hc2]
        go_wp2_with fail
        refine (left_al id H ha.ok (by omega)).mono ?_; rintro e w3 ⟨rfl, H3⟩
        rw [← hleft]
        clear hleft
        go_wp2_with fail
        refine (stp _ H3).mono ?_; rintro e w4 ⟨rfl, H4⟩
        have stt : (code = 0 ∧ 0 < left) ∨ (code = 7 ∧ ¬ 0 < left) := by
          rcases hcode with ⟨_, h1, h2, _⟩ | ⟨_, h1, h2, _⟩
          · exact Or.inl ⟨h1, h2⟩
          · exact Or.inr ⟨h1, by omega⟩
        clear hcode stp H3 H
        rcases stt with ⟨rfl, hlp⟩ | ⟨rfl, hlp⟩
        · go_wp2_with fail
          refine (left_al id H4 haA.ok (by omega)).mono ?_; rintro e w5 ⟨rfl, H5⟩
          rw [hz]
          go_wp2_with fail
          refine (stop_state id H5 (by omega) hc2).mono ?_; rintro e w6 ⟨rfl, H6⟩
          go_wp2_with fail
          go_loopw [13] (fun i wr => ∃ t : Nat, t ≤ g ∧ i = .int .i64 t ∧ ∃ La Lb, Sans La Fa Lb F id ∧ Al La Fa ∧ Al Lb F ∧ La.length ≤ 300 ∧ Lb.length ≤ 300 ∧ Hp w wr [Als b1 l1 m1, Slp l1 La, Mp m1 n1 Fa, Als b2 l2 m2, Slp l2 Lb, Mp m2 n2 F]) (fun i _ => g - (intOf i).toNat)
          case atStart => exact ⟨0, Nat.zero_le _, rfl, La, L, hS, haA, ha, by omega, by omega, H6⟩
          case round =>
            clear H4 H5 H6 hS haA ha hlA hc2 hz hL
            obtain ⟨t, ht, rfl, Lc, Ld, hS, haA, haB, hlc, hld, H⟩ := hrel
            obtain ⟨wo, rfl⟩ : ∃ x, x = wr := ⟨_, rfl⟩
            by_cases hlt : t < g
            · have c3 : (t : Int) < (g : Int) := by omega
              have b7 : IntKind.i64.wrap ((t : Int) + 1) = (t : Int) + 1 := by rw [IntKind.wrap_i64]; omega
              obtain ⟨s1, s2⟩ := sans_tk hS haB
              go_wp2_with fail
              refine (tick_al H haA (by omega)).mono ?_; rintro e w7 ⟨v1, rfl, H7, _⟩
              rw [s1] at H7
              go_wp2_with fail
              refine (tick_al (H7.pull 6 rfl |>.pull 6 rfl |>.pull 6 rfl) haB (by omega)).mono ?_; rintro e w8 ⟨v2, rfl, H8, _⟩
              have hl1 := tk_len Fa Lc
              have hl2 := tk_len F Ld
              have hw1 := wl_len Ld
              have a1 := al_tk haA
              have a2 := al_tk haB
              have fin : ∀ w', Hp w w' [Ints v2 (wake Ld), Als b2 l2 m2, Slp l2 (tk F Ld), Mp m2 n2 F, Ints v1 ((wake Ld).filter (fun x => x != id)), Als b1 l1 m1, Slp l1 (tk Fa Lc), Mp m1 n1 Fa] → ∃ La Lb, Sans La Fa Lb F id ∧ Al La Fa ∧ Al Lb F ∧ La.length ≤ 300 ∧ Lb.length ≤ 300 ∧ Hp w w' [Als b1 l1 m1, Slp l1 La, Mp m1 n1 Fa, Als b2 l2 m2, Slp l2 Lb, Mp m2 n2 F] :=
                fun w' h => ⟨_, _, s2, a1, a2, by omega, by omega, ((h.tail.pull 3 rfl).tail).to3⟩
              have FIN := Lib.hid fin
              have hwl : (wake Ld).length ≤ 300 := by omega
              have hfl : ((wake Ld).filter (fun x => x != id)).length ≤ 300 := Nat.le_trans (List.length_filter_le _ _) hwl
              have hfa := fn_all (wake Ld) id
              clear fin s1 s2 hS a1 a2 haA haB H H7
              generalize hws : wake Ld = ws at *
              clear hws
              obtain ⟨wf, hwf⟩ : ∃ wf, wf = ws.filter (fun x => x != id) := ⟨_, rfl⟩
              have hget : ∀ k (hk : k < ws.length), ws[k] ≠ id → wf[fn ws id k]? = some ws[k] := by rw [hwf]; exact fn_get ws id
              rw [← hwf] at H8 hfl hfa FIN
              clear hwf
              have GET := Lib.hid hget
              have HFA := Lib.hid hfa
              clear hget hfa
              generalize tk F Ld = L7 at *
              generalize tk Fa Lc = L8 at *
              obtain ⟨av, cv, rfl⟩ := ints_slice H8
              obtain ⟨av', cv', rfl⟩ := ints_slice (H8.pull 4 rfl)
              go_wp2_with fail
              go_loopw [16, 17] (fun n k wv => ∃ i : Nat, i ≤ ws.length ∧ k = .int .i64 i ∧ n = .int .i64 (fn ws id i) ∧ Hp w wv [Ints (.slice av ws.length cv) ws, Als b2 l2 m2, Slp l2 L7, Mp m2 n2 F, Ints (.slice av' wf.length cv') wf, Als b1 l1 m1, Slp l1 L8, Mp m1 n1 Fa]) (fun _ k _ => ws.length - (intOf k).toNat)
              case atStart => exact ⟨0, Nat.zero_le _, rfl, rfl, H8⟩
              case round =>
                obtain ⟨i, hi, rfl, rfl, H9⟩ := hrel
                clear H8
                by_cases hil : i < ws.length
                · obtain ⟨g1, off1, e1, e2, e3⟩ := ints_cell H9 i hil
                  cases e2
                  have hfs := fn_succ ws id i hil
                  have hfe := fn_le ws id i
                  have hge := GET.out i hil
                  have d1 : (i : Int) < (ws.length : Int) := by omega
                  have d2 : IntKind.i64.wrap ((i : Int) + 1) = (i : Int) + 1 := by rw [IntKind.wrap_i64]; omega
                  generalize ws[i] = z at *
                  by_cases hz : z = id
                  · rw [if_pos hz] at hfs
                    have HS := Lib.hid hfs
                    clear hfs hge
                    subst hz
                    go_wp2
                    go_roundw
                    case rel => exact ⟨i + 1, by omega, by go_num, by rw [HS.out], H9⟩
                    case measure => simp [intOf]; omega
                  · rw [if_neg hz] at hfs
                    have HS := Lib.hid hfs
                    have hge := hge hz
                    obtain ⟨hg1, _⟩ := List.getElem?_eq_some_iff.1 hge
                    obtain ⟨g2, off2, e4, e5, e6⟩ := ints_get (H9.pull 4 rfl) _ _ hge
                    cases e5
                    clear hfs hge
                    have hz' : (z == id) = false := by simpa using hz
                    have d3 : ¬ (wf.length : Int) ≤ (fn ws id i : Int) := by omega
                    have d4 : IntKind.i64.wrap ((fn ws id i : Int) + 1) = (fn ws id i : Int) + 1 := by rw [IntKind.wrap_i64]; omega
                    generalize fn ws id i = q at *
                    go_wp2
                    go_quiet (fail)
                    go_wp2
                    go_roundw
                    case rel => exact ⟨i + 1, by omega, by go_num, by rw [HS.out]; go_num, H9.drewN _⟩
                    case measure => simp [intOf]; omega
                · obtain rfl : i = ws.length := by omega
                  have d1 : ¬ (ws.length : Int) < (ws.length : Int) := by omega
                  rw [HFA.out]
                  have H10 := FIN.out _ H9
                  go_wp2
                  go_roundw
                  case rel => exact ⟨t + 1, by omega, by go_num, H10⟩
                  case measure => simp [intOf]; omega
            · have c3 : ¬ (t : Int) < (g : Int) := by omega
              go_wp2_with fail
              refine (lives_c _).mono ?_; rintro e w7 ⟨rfl, hb7⟩
              go_wp2
              go_ret
              exact ⟨rfl, (H.below_read hb7).below⟩
        · go_wp2_with fail
          refine (left_al id H4 haA.ok (by omega)).mono ?_; rintro e w5 ⟨rfl, H5⟩
          rw [hz]
          go_wp2_with fail
          refine (stop_state id H5 (by omega) hc2).mono ?_; rintro e w6 ⟨rfl, H6⟩
          go_wp2_with fail
          go_loopw [13] (fun i wr => ∃ t : Nat, t ≤ g ∧ i = .int .i64 t ∧ ∃ La Lb, Sans La Fa Lb F id ∧ Al La Fa ∧ Al Lb F ∧ La.length ≤ 300 ∧ Lb.length ≤ 300 ∧ Hp w wr [Als b1 l1 m1, Slp l1 La, Mp m1 n1 Fa, Als b2 l2 m2, Slp l2 Lb, Mp m2 n2 F]) (fun i _ => g - (intOf i).toNat)
          case atStart => exact ⟨0, Nat.zero_le _, rfl, La, L, hS, haA, ha, by omega, by omega, H6⟩
          case round =>
            clear H4 H5 H6 hS haA ha hlA hc2 hz hL
            obtain ⟨t, ht, rfl, Lc, Ld, hS, haA, haB, hlc, hld, H⟩ := hrel
            obtain ⟨wo, rfl⟩ : ∃ x, x = wr := ⟨_, rfl⟩
            by_cases hlt : t < g
            · have c3 : (t : Int) < (g : Int) := by omega
              have b7 : IntKind.i64.wrap ((t : Int) + 1) = (t : Int) + 1 := by rw [IntKind.wrap_i64]; omega
              obtain ⟨s1, s2⟩ := sans_tk hS haB
              go_wp2_with fail
              refine (tick_al H haA (by omega)).mono ?_; rintro e w7 ⟨v1, rfl, H7, _⟩
              rw [s1] at H7
              go_wp2_with fail
              refine (tick_al (H7.pull 6 rfl |>.pull 6 rfl |>.pull 6 rfl) haB (by omega)).mono ?_; rintro e w8 ⟨v2, rfl, H8, _⟩
              have hl1 := tk_len Fa Lc
              have hl2 := tk_len F Ld
              have hw1 := wl_len Ld
              have a1 := al_tk haA
              have a2 := al_tk haB
              have fin : ∀ w', Hp w w' [Ints v2 (wake Ld), Als b2 l2 m2, Slp l2 (tk F Ld), Mp m2 n2 F, Ints v1 ((wake Ld).filter (fun x => x != id)), Als b1 l1 m1, Slp l1 (tk Fa Lc), Mp m1 n1 Fa] → ∃ La Lb, Sans La Fa Lb F id ∧ Al La Fa ∧ Al Lb F ∧ La.length ≤ 300 ∧ Lb.length ≤ 300 ∧ Hp w w' [Als b1 l1 m1, Slp l1 La, Mp m1 n1 Fa, Als b2 l2 m2, Slp l2 Lb, Mp m2 n2 F] :=
                fun w' h => ⟨_, _, s2, a1, a2, by omega, by omega, ((h.tail.pull 3 rfl).tail).to3⟩
              have FIN := Lib.hid fin
              have hwl : (wake Ld).length ≤ 300 := by omega
              have hfl : ((wake Ld).filter (fun x => x != id)).length ≤ 300 := Nat.le_trans (List.length_filter_le _ _) hwl
              have hfa := fn_all (wake Ld) id
              clear fin s1 s2 hS a1 a2 haA haB H H7
              generalize hws : wake Ld = ws at *
              clear hws
              obtain ⟨wf, hwf⟩ : ∃ wf, wf = ws.filter (fun x => x != id) := ⟨_, rfl⟩
              have hget : ∀ k (hk : k < ws.length), ws[k] ≠ id → wf[fn ws id k]? = some ws[k] := by rw [hwf]; exact fn_get ws id
              rw [← hwf] at H8 hfl hfa FIN
              clear hwf
              have GET := Lib.hid hget
              have HFA := Lib.hid hfa
              clear hget hfa
              generalize tk F Ld = L7 at *
              generalize tk Fa Lc = L8 at *
              obtain ⟨av, cv, rfl⟩ := ints_slice H8
              obtain ⟨av', cv', rfl⟩ := ints_slice (H8.pull 4 rfl)
              go_wp2_with fail
              go_loopw [16, 17] (fun n k wv => ∃ i : Nat, i ≤ ws.length ∧ k = .int .i64 i ∧ n = .int .i64 (fn ws id i) ∧ Hp w wv [Ints (.slice av ws.length cv) ws, Als b2 l2 m2, Slp l2 L7, Mp m2 n2 F, Ints (.slice av' wf.length cv') wf, Als b1 l1 m1, Slp l1 L8, Mp m1 n1 Fa]) (fun _ k _ => ws.length - (intOf k).toNat)
              case atStart => exact ⟨0, Nat.zero_le _, rfl, rfl, H8⟩
              case round =>
                obtain ⟨i, hi, rfl, rfl, H9⟩ := hrel
                clear H8
                by_cases hil : i < ws.length
                · obtain ⟨g1, off1, e1, e2, e3⟩ := ints_cell H9 i hil
                  cases e2
                  have hfs := fn_succ ws id i hil
                  have hfe := fn_le ws id i
                  have hge := GET.out i hil
                  have d1 : (i : Int) < (ws.length : Int) := by omega
                  have d2 : IntKind.i64.wrap ((i : Int) + 1) = (i : Int) + 1 := by rw [IntKind.wrap_i64]; omega
                  generalize ws[i] = z at *
                  by_cases hz : z = id
                  · rw [if_pos hz] at hfs
                    have HS := Lib.hid hfs
                    clear hfs hge
                    subst hz
                    go_wp2
                    go_roundw
                    case rel => exact ⟨i + 1, by omega, by go_num, by rw [HS.out], H9⟩
                    case measure => simp [intOf]; omega
                  · rw [if_neg hz] at hfs
                    have HS := Lib.hid hfs
                    have hge := hge hz
                    obtain ⟨hg1, _⟩ := List.getElem?_eq_some_iff.1 hge
                    obtain ⟨g2, off2, e4, e5, e6⟩ := ints_get (H9.pull 4 rfl) _ _ hge
                    cases e5
                    clear hfs hge
                    have hz' : (z == id) = false := by simpa using hz
                    have d3 : ¬ (wf.length : Int) ≤ (fn ws id i : Int) := by omega
                    have d4 : IntKind.i64.wrap ((fn ws id i : Int) + 1) = (fn ws id i : Int) + 1 := by rw [IntKind.wrap_i64]; omega
                    generalize fn ws id i = q at *
                    go_wp2
                    go_quiet (fail)
                    go_wp2
                    go_roundw
                    case rel => exact ⟨i + 1, by omega, by go_num, by rw [HS.out]; go_num, H9.drewN _⟩
                    case measure => simp [intOf]; omega
                · obtain rfl : i = ws.length := by omega
                  have d1 : ¬ (ws.length : Int) < (ws.length : Int) := by omega
                  rw [HFA.out]
                  have H10 := FIN.out _ H9
                  go_wp2
                  go_roundw
                  case rel => exact ⟨t + 1, by omega, by go_num, H10⟩
                  case measure => simp [intOf]; omega
            · have c3 : ¬ (t : Int) < (g : Int) := by omega
              go_wp2_with fail
              refine (lives_c _).mono ?_; rintro e w7 ⟨rfl, hb7⟩
              go_wp2
              go_ret
              exact ⟨rfl, (H.below_read hb7).below⟩
end Go.Proofs.Ytllfkgdmneabiaa
