/- Images: Put: walked. -/
import Derived.Test.YtcfoljdpffonhaaGreatDoorLc
import Derived.Deep.AppendSrc
import Derived.Lib.SmallJoins
set_option linter.unusedVariables false
set_option linter.unusedSimpArgs false
namespace Go.Proofs.YtcfoljdpffonhaaGreatDoor
open Go.RowKit Go.Joins Go.Shelf
attribute [local go_sem] Oper.semAt_some

/-! ### Appends. -/
theorem wpList_append_run {P : Program} (w : World) {ops : Array Oper} {rest : List Oper} {o : Oper} {a : Act} {Q : Exit → Act → World → Prop} (hgd : o.guard = none) (d s : Operand) (t t' : TypeId)
    (ho : o.op = .call { callee := .builtin .append, args := #[d, s], argTypes := #[t, t'] }) (v u : Value) (hd : a.eval d = v) (hs : a.eval s = u) {v' : Value} {w' : World}
    (hr : (Builtin.append_ #[t, t'] o.type #[v, u]).run P w = .ok v' w') (h : wpList P ops Q rest (a.put o.dst v') w') : wpList P ops Q (o :: rest) a w :=
  wpList_plain hgd fun _ hK => by
    unfold Oper.wp execOp
    simp only [ho, resolve, invoke, builtin, Sem.run_bind, Sem.run_pure, Result.andThen_ok, List.map_toArray, List.map_cons, List.map_nil, hd, hs, hr]
    exact hK _ _ h
/-- Behind a row that has no room: a new one. -/
theorem wpList_append_full {P : Program} {w0 w : World} {ops : Array Oper} {rest : List Oper} {o : Oper} {a : Act} {Q : Exit → Act → World → Prop} (hgd : o.guard = none) (s x : Operand) (t : TypeId)
    (ho : o.op = .call { callee := .builtin .append, args := #[s, x], argTypes := #[t, t] })
    (e : TypeId) (i : TypeInfo) (z : Value) (size bytes : Nat) (ht : P.underlying t = some (.slice e)) (hi : P.info? e = some i) (hz : i.zero = some z)
    (hsize : i.size = size) (hby : i.bytes = bytes) (hzs : z.cells.size = size)
    {r : List Thing} (H : Hp w0 w r) (g n : Nat) (olds : List Value) (hs : a.eval s = .slice (some ⟨g, 0, none⟩) n n) (hlo : olds.length = n * size) (holds : ∀ j u, olds[j]? = some u → w.cell? ((⟨g, 0, none⟩ : Addr).add j) = some u)
    (ad : Addr) (m c : Nat) (news : List Value) (hx : a.eval x = .slice (some ad) m c) (hl : news.length = m * size) (hnews : ∀ j u, news[j]? = some u → w.cell? (ad.add j) = some u)
    (hm : 0 < m) (h63 : n + m ≤ 4000000) (hb : bytes ≤ 1000)
    (h : ∀ v' w', Hp w0 w' (Own e size v' (n + m) (olds ++ news) :: r) → wpList P ops Q rest (a.put o.dst v') w') :
    wpList P ops Q (o :: rest) a w := by
  subst hsize
  subst hby
  have hbb : (n + m) * i.bytes ≤ 4000000 * 1000 := Nat.mul_le_mul h63 hb
  have hr := run_append_grow (P := P) w t o.type e i z ht hi hz ⟨g, 0, none⟩ n n olds hlo holds ad m c news hl hnews (by omega) (by omega) (growslice_fits (by omega) (by omega))
  have hge := grownCap_ge w (n + m) n e
  have hcm : grownCap w (n + m) n e ≤ maxLen := grownCap_le_maxLen w (n + m) n e (by unfold maxLen; omega)
  refine wpList_append_run w hgd s x t t ho _ _ hs hx hr (h _ _ ?_)
  refine own_new H (Tch.alloc (Tch.drew (Tch.refl _ _)) _) ⟨by rw [List.length_append, hlo, hl, Nat.add_mul], .inr ⟨w.heap.size, _, _, rfl, Nat.le_refl _, heap_alloc_new w.drew _, hge, hcm, ?_, ?_⟩⟩
  · simp only [Array.size_append, List.size_toArray, size_zeroCells, hzs, hlo, hl, ← Nat.add_mul]
    congr 1
    omega
  · simp only [Array.toList_append, List.append_assoc]
    rw [← List.append_assoc, show (n + m) * i.size = (olds ++ news).length by rw [List.length_append, hlo, hl, Nat.add_mul]]
    exact List.take_left
/-- What lies anywhere, nothing among it, behind a row of one's own. -/
theorem wpList_append_in {P : Program} {w0 w : World} {ops : Array Oper} {rest : List Oper} {o : Oper} {a : Act} {Q : Exit → Act → World → Prop} (hgd : o.guard = none) (s x : Operand) (t : TypeId)
    (ho : o.op = .call { callee := .builtin .append, args := #[s, x], argTypes := #[t, t] })
    (e : TypeId) (i : TypeInfo) (z : Value) (size bytes : Nat) (ht : P.underlying t = some (.slice e)) (hi : P.info? e = some i) (hz : i.zero = some z)
    (hsize : i.size = size) (hby : i.bytes = bytes) (hzs : z.cells.size = size) (hsz : 0 < size)
    {v : Value} {n : Nat} {xs : List Value} {r : List Thing} (H : Hp w0 w (Own e size v n xs :: r)) (hs : a.eval s = v) (hn : 0 < n)
    (ad : Option Addr) (m c : Nat) (news : List Value) (hx : a.eval x = .slice ad m c) (hl : news.length = m * size) (hnews : CellsIn w ad news) (h1 : ∀ u ∈ news, u.oneCell' = true)
    (h63 : n + m ≤ 4000000) (hb : bytes ≤ 1000)
    (h : ∀ v' w', Hp w0 w' (Own e size v' (n + m) (xs ++ news) :: r) → wpList P ops Q rest (a.put o.dst v') w') :
    wpList P ops Q (o :: rest) a w := by
  have small : ∀ ad' : Addr, (∀ j u, news[j]? = some u → w.cell? (ad'.add j) = some u) → a.eval x = .slice (some ad') m c → wpList P ops Q (o :: rest) a w := fun ad' hc hx' => by
    refine wpList_append_own_at w hgd s x t ho 0 e i z size bytes ht hi hz hsize hby hzs hsz v n xs hs (own_get H) ad' m c news hx' hl hc h1 (by unfold maxLen; omega) ?_ (Nat.zero_le _) ?_
    · have : (n + m) * bytes ≤ 4000000 * 1000 := Nat.mul_le_mul h63 hb
      omega
    · intro v' w' h2 h3 _ h5
      exact h v' w' (own_turn H h3 h2 h5)
  cases ad with
  | some ad =>
    refine small ad (fun j u hj => ?_) hx
    obtain ⟨hlt, hju⟩ := List.getElem?_eq_some_iff.1 hj
    obtain ⟨g, b, hg, hcl⟩ := hnews j hlt
    cases hg
    rw [show (⟨g, b, none⟩ : Addr).add j = ⟨g, b + j, none⟩ from Addr.add_lit g b j, hcl, hju]
  | none =>
    have hn0 : news = [] := by
      cases news with
      | nil => rfl
      | cons u l =>
        obtain ⟨g, b, hg, _⟩ := hnews 0 (by simp)
        cases hg
    subst hn0
    have hm0 : m = 0 := by
      rcases Nat.eq_zero_or_pos m with h | h
      · exact h
      · have := Nat.mul_pos h hsz; simp at hl; omega
    subst hm0
    obtain ⟨g, cap, rfl⟩ := Go.Joins.ownsRow_form (own_get H) hn
    have hcap : n ≤ cap := by
      rcases (own_get H).2 with ⟨hq, _⟩ | ⟨_, _, _, hq, _, _, hq2, _⟩
      · cases hq
      · injection hq with _ _ h3; omega
    have hr := run_append_room_src (P := P) w t t o.type e i ht hi g 0 n cap (.slice none 0 c) 0 [] (Src.ofNil w ht c) (by omega) (fun j hj => by simp at hj) (fun j hj => by simp at hj)
    refine wpList_append_run w hgd s x t t ho _ _ hs hx hr (h _ _ ?_)
    show Hp w0 w _
    rw [List.append_nil]
    exact H
abbrev OwnU (v : Value) (bs : List UInt8) : Thing := Own 5 1 v bs.length (bs.map bv)
theorem ou_snoc {w0 w : World} {r : List Thing} {v : Value} {n : Nat} {zs ys : List UInt8} {us : List Value} (H : Hp w0 w (Own 5 1 v n (zs.map bv ++ us) :: r)) (h : us = ys.map bv) (hn : n = zs.length + ys.length) : Hp w0 w (OwnU v (zs ++ ys) :: r) := by
  subst h; subst hn
  exact own_as H (by simp) (by simp)

/-! ### An image's bytes. -/
def i4b (x : I4) : List UInt8 := [x.1, x.2.1, x.2.2.1, x.2.2.2]
def ibs (l : List I4) : List UInt8 := l.flatMap i4b
def two (n : Nat) : List UInt8 := [UInt8.ofNat (n / 256), UInt8.ofNat (n % 256)]
def imput (n : Nat) (d : List UInt8) (c : List I4) : List UInt8 := [116, 107, 49] ++ two n ++ two d.length ++ two c.length ++ d ++ ibs c
theorem ibs_len (l : List I4) : (ibs l).length = l.length * 4 := by
  induction l with
  | nil => rfl
  | cons x l ih => simp [ibs, i4b] at *; omega
theorem ibs_take (c : List I4) (k : Nat) (h : k < c.length) : ibs (c.take (k + 1)) = ibs (c.take k) ++ i4b c[k] := by
  unfold ibs
  rw [List.take_succ_eq_append_getElem h, List.flatMap_append]; simp
theorem bv_two {m : Nat} (h : m < 65536) : [Value.int .u8 ((m : Int) / 256), Value.int .u8 ((m : Int) % 256)] = (two m).map bv := by
  have e1 : (UInt8.ofNat (m / 256)).toNat = m / 256 := by simp; omega
  have e2 : (UInt8.ofNat (m % 256)).toNat = m % 256 := by simp
  simp only [two, List.map_cons, List.map_nil, bv, e1, e2]
  rfl
theorem ints3_cell {w : World} {g : Nat} {a b c : Int} {t : TypeId} (h : w.heap[g]? = some (.cells #[.int .i64 a, .int .i64 b, .int .i64 c] t (0, 0))) {k : Nat} (hk : k < 3) : w.cell? ⟨g, k, none⟩ = some (.int .i64 ([a, b, c].getD k 0)) := by
  rw [cell_blk h]
  match k, hk with
  | 0, _ => rfl
  | 1, _ => rfl
  | 2, _ => rfl
theorem blk_newsU {w : World} {g : Nat} {l : List Value} {t : TypeId} {f : Nat × Nat} (h : w.heap[g]? = some (.cells l.toArray t f)) : ∀ j u, l[j]? = some u → w.cell? ((⟨g, 0, none⟩ : Addr).add j) = some u := by
  intro j u hj
  rw [show (⟨g, 0, none⟩ : Addr).add j = ⟨g, 0 + j, none⟩ from Addr.add_lit g 0 j, cell_blk h, Nat.zero_add]
  simpa using hj
theorem imck_bounds {n : Int} {d : List UInt8} {c : List I4} (h : imck n d c = true) : 0 ≤ n ∧ n ≤ 4096 ∧ (d.length : Int) ≤ n ∧ c.length ≤ 1024 ∧ c.all ik = true := by
  unfold imck at h
  simp only [Bool.and_eq_true, decide_eq_true_eq] at h
  exact ⟨h.1.1, h.1.2.1, h.1.2.2.1, h.1.2.2.2, h.2⟩
/-- The numbers ahead. -/
def pre3 (N D C : Nat) (k : Nat) : List UInt8 := [116, 107, 49] ++ (([N, D, C].take k).flatMap two)
theorem pre3_step {N D C k : Nat} (hk : k < 3) : pre3 N D C (k + 1) = pre3 N D C k ++ two ([N, D, C].getD k 0) := by
  match k, hk with
  | 0, _ => simp [pre3]
  | 1, _ => simp [pre3]
  | 2, _ => simp [pre3]
theorem pre3_len (N D C k : Nat) (hk : k ≤ 3) : (pre3 N D C k).length = 3 + 2 * k := by
  match k, hk with
  | 0, _ => rfl
  | 1, _ => rfl
  | 2, _ => rfl
  | 3, _ => rfl
theorem imput_eq (n : Nat) (d : List UInt8) (c : List I4) : imput n d c = pre3 n d.length c.length 3 ++ d ++ ibs c := by
  simp [imput, pre3]
set_option maxHeartbeats 16000000 in
set_option maxRecDepth 20000 in
theorem imput_c (n : Nat) (ad ac : Option Addr) (dc cc : Nat) (d : List UInt8) (c : List I4) (w : World) (hd : CellsIn w ad (d.map bv)) (hc : CellsIn w ac (ics c)) (hk : imck n d c = true) :
    Calls Tryz.prog 9 #[imV n ad d.length dc ac c.length cc] w fun e w' => ∃ v, e = .returned (.tuple #[v, .int .i64 0]) ∧ Hp w w' [OwnU v (imput n d c)] := by
  have H1 := Lib.hid (blk_new (Hp.start w) (.cells #[.int .i64 n, .slice ad d.length dc, .slice ac c.length cc] 25))
  have CK := imcheck_c n ad ac dc cc d c _ (hc.hp H1.out)
  rw [hk] at CK
  have C := Lib.hid CK
  obtain ⟨b1, b2, b3, b4, b5⟩ := imck_bounds hk
  have HB : Hid (n ≤ 4096 ∧ d.length ≤ 4096 ∧ c.length ≤ 1024) := Lib.hid ⟨by omega, by omega, b4⟩
  have HD := Lib.hid hd
  have HCC := Lib.hid hc
  obtain ⟨i0, hi, hz0, hz1, hz2⟩ := info_parts info_u8
  clear CK hk b1 b2 b3 b4 b5 hd hc
  go_enter Tryz.func9, Tryz.ntmps9
  go_upto_region 1 with fail
  obtain ⟨x0, x1, x2⟩ := im_cells H1.out
  generalize (w.alloc (.cells #[.int .i64 n, .slice ad d.length dc, .slice ac c.length cc] 25)) = w1 at *
  generalize hxb : w.heap.size = xb at *
  clear hxb
  go_wp2_with fail
  refine C.out.mono ?_; rintro e w2 ⟨rfl, hb⟩
  have H2 := Lib.hid (H1.out.below_read hb)
  clear hb C H1 x0 x1 x2
  have kc := run_convert_bytes_const_at (P := Tryz.prog) w2 22 5 #[.int .u8 116, .int .u8 107, .int .u8 49] 3 3 w2.heap.size rfl Tryz.underlying22 Tryz.underlying5
  go_upto_region 4 with fail
  have H3 := Lib.hid (blk_new H2.out (.cells #[.int .u8 116, .int .u8 107, .int .u8 49] 5 (3, 4)))
  clear kc H2
  generalize (w2.alloc (.cells #[.int .u8 116, .int .u8 107, .int .u8 49] 5 (3, 4))) = w3 at *
  generalize w2.heap.size = gs at *
  obtain ⟨x0, x1, x2⟩ := im_cells (H3.out.pull 1 rfl)
  have H4 := Lib.hid (blk_new H3.out (.cells #[.int .i64 n, .int .i64 d.length, .int .i64 c.length] 3))
  clear H3
  go_wp2
  clear x0 x1 x2
  generalize (w3.alloc (.cells #[.int .i64 n, .int .i64 d.length, .int .i64 c.length] 3)) = w4 at *
  generalize w3.heap.size = gi at *
  go_loopw [25, 4] (fun s25 s4 wr => ∃ k : Nat, k ≤ 3 ∧ s25 = .int .i64 k ∧ ((k = 0 ∧ s4 = .slice (some ⟨gs, 0, none⟩) 3 3 ∧ Hid (Hp w wr [Blk gi (.cells #[.int .i64 n, .int .i64 d.length, .int .i64 c.length] 3 (0, 0)), Blk gs (.cells #[.int .u8 116, .int .u8 107, .int .u8 49] 5 (3, 4)), Blk xb (.cells #[.int .i64 n, .slice ad d.length dc, .slice ac c.length cc] 25 (0, 0))])) ∨
    (0 < k ∧ Hid (Hp w wr [OwnU s4 (pre3 n d.length c.length k), Blk gi (.cells #[.int .i64 n, .int .i64 d.length, .int .i64 c.length] 3 (0, 0)), Blk gs (.cells #[.int .u8 116, .int .u8 107, .int .u8 49] 5 (3, 4)), Blk xb (.cells #[.int .i64 n, .slice ad d.length dc, .slice ac c.length cc] 25 (0, 0))])))) (fun s25 _ _ => 3 - (intOf s25).toNat)
  case atStart => exact ⟨0, by omega, rfl, Or.inl ⟨rfl, rfl, H4⟩⟩
  case round =>
    obtain ⟨k, hk, rfl, hcs⟩ := hrel
    clear H4
    by_cases hlt : k < 3
    · obtain ⟨m, hm, hml⟩ : ∃ m : Nat, [n, d.length, c.length].getD k 0 = m ∧ m < 65536 := ⟨_, rfl, by
        have := HB.out
        match k, hlt with
        | 0, _ => show n < 65536; omega
        | 1, _ => show d.length < 65536; omega
        | 2, _ => show c.length < 65536; omega⟩
      have hmi : [(n : Int), (d.length : Int), (c.length : Int)].getD k 0 = (m : Int) := by
        rw [← hm]
        match k, hlt with
        | 0, _ => rfl
        | 1, _ => rfl
        | 2, _ => rfl
      have hst := pre3_step (N := n) (D := d.length) (C := c.length) hlt
      have hpl := pre3_len n d.length c.length k (by omega)
      rw [hm] at hst
      have HST := Lib.hid hst
      have HPL := Lib.hid hpl
      have hbv := Lib.hid (bv_two hml)
      have hm0 : (0 : Int) ≤ (m : Int) := by omega
      have hm1 : (m : Int) < 65536 := by omega
      have HLT := Lib.hid hlt
      have h3i : (k : Int) < 3 := by omega
      have hkw : IntKind.i64.wrap ((k : Int) + 1) = (k : Int) + 1 := by rw [IntKind.wrap_i64]; omega
      clear hst hpl hm hml hk
      rcases hcs with ⟨rfl, rfl, hH⟩ | ⟨hk0, hH⟩
      · have ki := ints3_cell (blk_get hH.out) HLT.out
        rw [hmi] at ki
        clear hmi hlt
        have H5 := Lib.hid hH.out
        go_wp2_with (at_builtin; refine wpList_append_full rfl (.tmp 29) (.tmp 35) 22 rfl 5 i0 _ 1 1 Tryz.underlying22 hi hz0 hz1 hz2 rfl (H5.out.alloc _) gs 3 [.int .u8 116, .int .u8 107, .int .u8 49] rfl rfl (blk_newsU (blk_get ((H5.out.alloc _).pull 1 rfl))) ⟨wr.heap.size, 0, none⟩ 2 2 [.int .u8 ((m : Int) / 256), .int .u8 ((m : Int) % 256)] rfl rfl (blk_newsU (blk_alloc_new wr _)) (by omega) (by omega) (by omega) ?_)
        intro v' w6 HA0
        have HA : Hid (Hp w w6 (OwnU v' (pre3 n d.length c.length 1) :: _)) := Lib.hid (by
          have := ou_snoc (zs := [116, 107, 49]) (ys := two m) HA0 hbv.out rfl
          rw [show [116, 107, 49] ++ two m = pre3 n d.length c.length 1 from HST.out.symm] at this
          exact this)
        obtain ⟨a4, c4, rfl⟩ := own_slice HA0
        clear HA0 hH H5 ki
        go_wp2
        go_roundw
        case rel => exact ⟨1, by omega, by go_num, Or.inr ⟨by omega, HA⟩⟩
        case measure => simp [intOf]
      · have ki := ints3_cell (blk_get (hH.out.pull 1 rfl)) hlt
        rw [hmi] at ki
        obtain ⟨a4, c4, rfl⟩ := own_slice hH.out
        clear hmi hlt
        have HK0 := Lib.hid hk0
        clear hk0
        go_wp2_with (at_builtin; refine wpList_append_hp rfl (.tmp 29) (.tmp 35) 22 rfl 5 i0 _ 1 1 Tryz.underlying22 hi hz0 hz1 hz2 rfl (by decide) (hH.out.alloc _) rfl ⟨wr.heap.size, 0, none⟩ 2 2 [.int .u8 ((m : Int) / 256), .int .u8 ((m : Int) % 256)] rfl rfl (blk_newsU (blk_alloc_new wr _)) (by simp [Value.oneCell']) (by have := HPL.out; have := HLT.out; omega) (by omega) ?_)
        intro v' w6 HA0
        have HA : Hid (Hp w w6 (OwnU v' (pre3 n d.length c.length (k + 1)) :: _)) := Lib.hid (by
          have := ou_snoc (zs := pre3 n d.length c.length k) (ys := two m) HA0 hbv.out rfl
          rw [← HST.out] at this
          exact this)
        obtain ⟨a5, c5, rfl⟩ := own_slice HA0
        clear HA0 hH ki
        go_wp2
        go_roundw
        case rel => exact ⟨k + 1, by have := HLT.out; omega, by go_num, Or.inr ⟨by omega, HA⟩⟩
        case measure => have := HLT.out; simp [intOf]; omega
    · obtain rfl : k = 3 := by omega
      obtain ⟨-, hH⟩ : 0 < 3 ∧ Hid (Hp w wr _) := by
        rcases hcs with ⟨h, _⟩ | h
        · omega
        · exact h
      have hpl := Lib.hid (pre3_len n d.length c.length 3 (by omega))
      obtain ⟨a4, c4, rfl⟩ := own_slice hH.out
      have H5 := Lib.hid (hH.out.up1.tail.up1.tail)
      obtain ⟨x0, x1, x2⟩ := im_cells (H5.out.pull 1 rfl)
      generalize hpp : pre3 n d.length c.length 3 = pp at *
      have HPP := Lib.hid hpp
      have hd2 := Lib.hid (HD.out.hp H5.out)
      clear hcs hlt hk hH hpp
      go_wp2_with (at_builtin; refine wpList_append_in rfl (.tmp 38) (.tmp 40) 22 rfl 5 i0 _ 1 1 Tryz.underlying22 hi hz0 hz1 hz2 rfl (by decide) H5.out rfl (by have := hpl.out; omega) ad d.length dc (d.map bv) rfl (by simp) hd2.out (by simp [Value.oneCell', bv]) (by have := hpl.out; have := HB.out; omega) (by omega) ?_)
      intro v' w6 HA0
      have HA := Lib.hid (ou_snoc (zs := pp) (ys := d) HA0 rfl rfl)
      obtain ⟨a5, c5, rfl⟩ := own_slice HA0
      clear HA0 H5 x0 x1 x2 hd2
      obtain ⟨x0, x1, x2⟩ := im_cells (HA.out.pull 1 rfl)
      go_wp2
      clear x0 x1 x2
      go_loopw [45, 4] (fun s45 s4 wr => ∃ (k : Nat) (bs : List UInt8), k ≤ c.length ∧ s45 = .int .i64 k ∧ Hid (bs = pp ++ d ++ ibs (c.take k)) ∧ Hid (Hp w wr [OwnU s4 bs, Blk xb (.cells #[.int .i64 n, .slice ad d.length dc, .slice ac c.length cc] 25 (0, 0))])) (fun s45 _ _ => c.length - (intOf s45).toNat)
      case atStart => exact ⟨0, pp ++ d, Nat.zero_le _, rfl, Lib.hid (by simp [ibs]), HA⟩
      case round =>
        obtain ⟨k, bs, hk, rfl, hbs, hH⟩ := hrel
        clear HA
        have hbl : bs.length = pp.length + d.length + k * 4 := by
          have := congrArg List.length hbs.out
          have h2 := ibs_len (c.take k)
          rw [List.length_take] at h2
          simp at this
          rw [this, h2]
          omega
        have HBL := Lib.hid hbl
        clear hbl
        by_cases hlt : k < c.length
        · obtain ⟨gc, oc, rfl, c0, c1, c2, c3⟩ := ins_cells (HCC.out.hp hH.out) hlt
          have hkw : IntKind.i64.wrap ((k : Int) + 1) = (k : Int) + 1 := by rw [IntKind.wrap_i64]; have := HB.out; omega
          have hst := Lib.hid (ibs_take c k hlt)
          have HLT := Lib.hid hlt
          generalize c[k] = x at *
          obtain ⟨yo, ya, yb, yc⟩ := x
          simp only at c0 c1 c2 c3
          obtain ⟨g4, c4, rfl⟩ := Go.Joins.ownsRow_form (own_get hH.out) (by have := HBL.out; have := hpl.out; omega)
          have H5 := Lib.hid (blk_new hH.out (.cells #[bv yo, bv ya, bv yb, bv yc] 61))
          have HPC := Lib.hid (put_c (op := yo.toNat) (a := ya.toNat) (b := yb.toNat) (c := yc.toNat) H5.out)
          clear hk hlt
          go_wp2_with fail
          refine HPC.out.mono ?_; rintro e w7 ⟨rfl, H7⟩
          have H8 := Lib.hid (blk_new H7 (.cells #[bv yo, bv ya, bv yb, bv yc] 62))
          have H9 := Lib.hid (H8.out.pull 2 rfl)
          clear HPC H5 H7 hH c0 c1 c2 c3
          go_wp2_with (at_builtin; refine wpList_append_hp rfl (.tmp 51) (.tmp 52) 22 rfl 5 i0 _ 1 1 Tryz.underlying22 hi hz0 hz1 hz2 rfl (by decide) H9.out rfl ⟨w7.heap.size, 0, none⟩ 4 4 [bv yo, bv ya, bv yb, bv yc] rfl rfl (blk_newsU (blk_get H8.out)) (by simp [Value.oneCell', bv]) (by have := HBL.out; have := hpl.out; have := HB.out; have := HLT.out; omega) (by omega) ?_)
          intro v' w8 HA0
          have HA : Hid (Hp w w8 (OwnU v' (bs ++ i4b (yo, ya, yb, yc)) :: _)) := Lib.hid (ou_snoc (zs := bs) (ys := i4b (yo, ya, yb, yc)) HA0 rfl rfl)
          have HB2 := Lib.hid HA.out.up1.tail.up1.tail
          obtain ⟨a5, c5, rfl⟩ := own_slice HA0
          clear HA0 HA H8 H9
          go_wp2
          go_roundw
          case rel => exact ⟨k + 1, bs ++ i4b (yo, ya, yb, yc), by have := HLT.out; omega, by go_num, Lib.hid (by rw [hbs.out, hst.out]; simp), HB2⟩
          case measure => have := HLT.out; simp [intOf]; omega
        · obtain rfl : k = c.length := by omega
          have he : bs = imput n d c := by rw [imput_eq, hbs.out, ← HPP.out, List.take_length]
          have HE := Lib.hid he
          clear hbs HBL he
          obtain ⟨a4, c4, rfl⟩ := own_slice hH.out
          clear hk hlt
          go_wp2
          go_ret2
          exact ⟨.slice a4 bs.length c4, rfl, by rw [← HE.out]; exact hH.out.up1.tail⟩
set_option maxHeartbeats 4000000 in
set_option maxRecDepth 20000 in
theorem imput_no (n : Int) (ad ac : Option Addr) (dc cc : Nat) (d : List UInt8) (c : List I4) (w : World) (hc : CellsIn w ac (ics c)) (hk : imck n d c = false) :
    Calls Tryz.prog 9 #[imV n ad d.length dc ac c.length cc] w fun e w' => e = .returned (.tuple #[.slice none 0 0, .int .i64 1]) ∧ Below w.heap.size w w' := by
  have H1 := Lib.hid (blk_new (Hp.start w) (.cells #[.int .i64 n, .slice ad d.length dc, .slice ac c.length cc] 25))
  have CK := imcheck_c n ad ac dc cc d c _ (hc.hp H1.out)
  rw [hk] at CK
  have C := Lib.hid CK
  clear CK hk hc
  go_enter Tryz.func9, Tryz.ntmps9
  go_upto_region 1 with fail
  obtain ⟨x0, x1, x2⟩ := im_cells H1.out
  generalize (w.alloc (.cells #[.int .i64 n, .slice ad d.length dc, .slice ac c.length cc] 25)) = w1 at *
  go_wp2_with fail
  refine C.out.mono ?_; rintro e w2 ⟨rfl, hb⟩
  have H2 := Lib.hid (H1.out.below_read hb)
  clear hb C H1 x0 x1 x2
  go_wp2
  go_ret2
  exact ⟨rfl, H2.out.below⟩
end Go.Proofs.YtcfoljdpffonhaaGreatDoor
