/- The book of lists that were answered: what lies in memory, and what an append leaves. -/
import Derived.Test.YtllfkgdmneabiaaDoorHpw
import Derived.Deep.AppendLies
import Derived.Deep.DeepAppendRoom
set_option linter.unusedVariables false
set_option linter.unusedSimpArgs false
namespace Go.Proofs.YtllfkgdmneabiaaDoor
open Go.RowKit Go.Shelf

/-- An append to a row that grows leaves the old row as it was. -/
theorem run_append_keep {P : Program} (w : World) (base : Nat) (t ty e : TypeId) (i : TypeInfo) (z : Value) (size bytes : Nat) (ht : P.underlying t = some (.slice e)) (hi : P.info? e = some i) (hz : i.zero = some z)
    (hsize : i.size = size) (hby : i.bytes = bytes) (hzs : z.cells.size = size) (hsz : 0 < size)
    (v : Value) (n : Nat) (xs : List Value) (hown : w.ownsRow base e size v n xs)
    (a : Addr) (m c : Nat) (news : List Value) (hl : news.length = m * size) (hnews : ∀ j u, news[j]? = some u → w.cell? (a.add j) = some u) (h1 : ∀ u ∈ news, u.oneCell' = true)
    (h63 : n + m ≤ maxLen) (hbytes : (n + m) * bytes ≤ 140737488355328) (hbase : base ≤ w.heap.size) :
    ∃ v' w', (Builtin.append_ #[t, t] ty #[v, .slice (some a) m c]).run P w = .ok v' w' ∧ w'.ownsRow base e size v' (n + m) (xs ++ news) ∧ w.grownBy w' v.ownBlock ∧
      (v'.ownBlock = v.ownBlock ∨ (v'.ownBlock = some w.heap.size ∧ w.grownBy w' none)) := by
  obtain ⟨v', w', hr, h2, h3, h4, h5⟩ := run_append_own_at (P := P) w base t ty e i z size bytes ht hi hz hsize hby hzs hsz v n xs hown a m c news hl hnews h1 h63 hbytes hbase
  refine ⟨v', w', hr, h2, h3, ?_⟩
  rcases h5 with h5 | h5
  · exact Or.inl h5
  · rcases hown.2 with ⟨rfl, rfl⟩ | ⟨g, cap, cur, rfl, hbg, hg, hnc, hcm, hcs, htake⟩
    · exact Or.inr ⟨h5, h3⟩
    · by_cases hroom : n + m ≤ cap
      · obtain ⟨w2, hr2, h22, h23⟩ := run_append_own_spare (P := P) w base t ty e i size ht hi hsize g n cap xs hown a m c news hl hnews h1 hroom
        rw [hr] at hr2
        injection hr2 with e1 e2
        subst e1
        exact Or.inl rfl
      · subst hsize
        subst hby
        have hsmall : n + m ≤ 9223372036854775807 := by simp only [maxLen] at h63; omega
        have holds : ∀ j u, xs[j]? = some u → w.cell? ((⟨g, 0, none⟩ : Addr).add j) = some u := hown.cells (g := g) rfl
        have hr2 := run_append_grow (P := P) w t ty e i z ht hi hz ⟨g, 0, none⟩ n cap xs hown.1 holds a m c news hl hnews (by omega) (by omega) (growslice_fits (by omega) hbytes)
        rw [hr] at hr2
        injection hr2 with e1 e2
        subst e2
        exact Or.inr ⟨h5, rfl, rfl, rfl, by simp, fun k hk _ => Below.heap_alloc w.drew _ k hk⟩

theorem wpList_append_keep {P : Program} (w : World) {ops : Array Oper} {rest : List Oper} {o : Oper} {a : Act} {Q : Exit → Act → World → Prop} (hgd : o.guard = none) (s x : Operand) (t : TypeId)
    (ho : o.op = .call { callee := .builtin .append, args := #[s, x], argTypes := #[t, t] })
    (base : Nat) (e : TypeId) (i : TypeInfo) (z : Value) (size bytes : Nat) (ht : P.underlying t = some (.slice e)) (hi : P.info? e = some i) (hz : i.zero = some z)
    (hsize : i.size = size) (hby : i.bytes = bytes) (hzs : z.cells.size = size) (hsz : 0 < size)
    (v : Value) (n : Nat) (xs : List Value) (hs : a.eval s = v) (hown : w.ownsRow base e size v n xs)
    (ad : Addr) (m c : Nat) (news : List Value) (hx : a.eval x = .slice (some ad) m c) (hl : news.length = m * size) (hnews : ∀ j u, news[j]? = some u → w.cell? (ad.add j) = some u) (h1 : ∀ u ∈ news, u.oneCell' = true)
    (h63 : n + m ≤ maxLen) (hbytes : (n + m) * bytes ≤ 140737488355328) (hbase : base ≤ w.heap.size)
    (h : ∀ v' w', w'.ownsRow base e size v' (n + m) (xs ++ news) → w.grownBy w' v.ownBlock → (v'.ownBlock = v.ownBlock ∨ (v'.ownBlock = some w.heap.size ∧ w.grownBy w' none)) → wpList P ops Q rest (a.put o.dst v') w') :
    wpList P ops Q (o :: rest) a w := by
  refine wpList_plain hgd fun K hK => ?_
  obtain ⟨v', w', hr, h2, h3, h4⟩ := run_append_keep (P := P) w base t o.type e i z size bytes ht hi hz hsize hby hzs hsz v n xs hown ad m c news hl hnews h1 h63 hbytes hbase
  unfold Oper.wp execOp
  simp only [ho, resolve, invoke, builtin, Sem.run_bind, Sem.run_pure, Result.andThen_ok, List.map_toArray, List.map_cons, List.map_nil, hs, hx, hr]
  exact hK _ _ (h v' w' h2 h3 h4)

/-- The first thing, told otherwise. -/
theorem Hp.as {w0 w : World} {t t' : Thing} {r : List Thing} (h : Hp w0 w (t :: r)) (e : ∀ S, t.at_ w S → t'.at_ w S) : Hp w0 w (t' :: r) := by
  obtain ⟨S, h1, h2, h3⟩ := h.lay
  exact ⟨h.below, S, e S h1, h2, h3⟩

/-- A list of the book: the slice, how long it is, its number. -/
structure Hl where
  v : Value
  n : Nat
  q : Int
/-- Its mark. -/
def mk (q : Int) : Int := -1000 - q
/-- A row of ints, whichever. -/
def OwnX (v : Value) (n : Nat) : Thing where
  at_ w S := ∃ zs : List Int, zs.length = n ∧ (OwnI v zs).at_ w S
  lt := by rintro w S ⟨zs, _, h⟩; exact (OwnI v zs).lt h
  keeps := by rintro w w' S T ⟨zs, e, h⟩ ht hn; exact ⟨zs, e, (OwnI v zs).keeps h ht hn⟩
theorem ownx_of {w0 w : World} {v : Value} {zs : List Int} {r : List Thing} (h : Hp w0 w (OwnI v zs :: r)) : Hp w0 w (OwnX v zs.length :: r) := h.as fun S h => ⟨zs, rfl, h⟩
theorem ownx_get {w0 w : World} {v : Value} {n : Nat} {r : List Thing} (h : Hp w0 w (OwnX v n :: r)) : ∃ zs : List Int, zs.length = n ∧ Hp w0 w (OwnI v zs :: r) := by
  obtain ⟨S, ⟨zs, e, h1⟩, h2, h3⟩ := h.lay
  exact ⟨zs, e, h.below, S, h1, h2, h3⟩
abbrev Kp (h : Hl) : Thing := OwnX h.v h.n
/-- All marked. -/
abbrev Mk (h : Hl) : Thing := OwnI h.v (List.replicate h.n (mk h.q))
/-- Grown: all marks, the list and the long one. -/
def Gp (h : Hl) (long : Value) (m : Nat) : Thing where
  at_ w S := w.ownsRow 0 3 1 long m ((List.replicate m (mk h.q)).map (Value.int .i64)) ∧
    ((h.v = .slice none 0 0 ∧ h.n = 0) ∨ ∃ g c o, h.v = .slice (some ⟨g, 0, none⟩) h.n c ∧ w.heap[g]? = some o ∧ ∀ j, j < h.n → w.cell? ⟨g, j, none⟩ = some (.int .i64 (mk h.q))) ∧
    S = fun k => h.v.ownBlock = some k ∨ long.ownBlock = some k
  lt := by
    rintro w S ⟨h1, h2, rfl⟩ k (hk | hk)
    · rcases h2 with ⟨e, _⟩ | ⟨g, c, o, e, hg, _⟩
      · rw [e] at hk; cases hk
      · rw [e] at hk; injection hk with hk; subst hk; exact blk_lt hg
    · exact (h1.lt k hk).2
  keeps := by
    rintro w w' S T ⟨h1, h2, rfl⟩ ht hn
    refine ⟨?_, ?_, rfl⟩
    · exact ((Own 3 1 long m _).keeps (S := fun k => long.ownBlock = some k) ⟨h1, rfl⟩ ht (fun k hk => hn k (Or.inr hk))).1
    · rcases h2 with e | ⟨g, c, o, e, hg, hc⟩
      · exact Or.inl e
      · have hb := ht.block g (blk_lt hg) (hn g (Or.inl (by rw [e]; rfl)))
        exact Or.inr ⟨g, c, o, e, hb.trans hg, fun j hj => (World.cell?_of_block (a := ⟨g, j, none⟩) hb).trans (hc j hj)⟩
theorem gp_of {w0 w : World} {h : Hl} {r : List Thing} (H : Hp w0 w (Mk h :: r)) : Hp w0 w (Gp h h.v h.n :: r) := H.as fun S h1 => by
  obtain ⟨h1, rfl⟩ := h1
  have h1' : w.ownsRow 0 3 1 h.v h.n ((List.replicate h.n (mk h.q)).map (Value.int .i64)) := by simpa using h1
  refine ⟨h1', ?_, ?_⟩
  · rcases h1'.2 with h3 | ⟨g, cap, cur, e, h2, h3, h4⟩
    · exact Or.inl h3
    · refine Or.inr ⟨g, cap, _, e, h3, fun j hj => ?_⟩
      have := h1'.cells (g := g) (by rw [e]; rfl) j (.int .i64 (mk h.q)) (by simp [hj])
      rwa [show (⟨g, 0, none⟩ : Addr).add j = ⟨g, 0 + j, none⟩ from Addr.add_lit g 0 j, Nat.zero_add] at this
  · funext k; simp
theorem gp_own {w0 w : World} {h : Hl} {long : Value} {m : Nat} {r : List Thing} (H : Hp w0 w (Gp h long m :: r)) : w.ownsRow 0 3 1 long m ((List.replicate m (mk h.q)).map (Value.int .i64)) := by
  obtain ⟨S, ⟨h1, _⟩, _⟩ := H.lay
  exact h1
theorem gp_cells {w0 w : World} {h : Hl} {long : Value} {m : Nat} {r : List Thing} (H : Hp w0 w (Gp h long m :: r)) : (h.v = .slice none 0 0 ∧ h.n = 0) ∨ ∃ g c, h.v = .slice (some ⟨g, 0, none⟩) h.n c ∧ ∀ j, j < h.n → w.cell? ⟨g, j, none⟩ = some (.int .i64 (mk h.q)) := by
  obtain ⟨S, ⟨_, h1, _⟩, _⟩ := H.lay
  rcases h1 with h1 | ⟨g, c, o, e, _, h2⟩
  · exact Or.inl h1
  · exact Or.inr ⟨g, c, e, h2⟩
theorem gp_turn {w0 w w' : World} {h : Hl} {long long' : Value} {m : Nat} {r : List Thing} (H : Hp w0 w (Gp h long m :: r)) (hm : h.n ≤ m) (hg : w.grownBy w' long.ownBlock)
    (ho : w'.ownsRow 0 3 1 long' (m + 1) ((List.replicate m (mk h.q)).map (Value.int .i64) ++ [.int .i64 (mk h.q)])) (hl : long'.ownBlock = long.ownBlock ∨ (long'.ownBlock = some w.heap.size ∧ w.grownBy w' none)) : Hp w0 w' (Gp h long' (m + 1) :: r) := by
  obtain ⟨S, ⟨h1, h2, rfl⟩, h3, h4⟩ := H.lay
  have ho' : w'.ownsRow 0 3 1 long' (m + 1) ((List.replicate (m + 1) (mk h.q)).map (Value.int .i64)) := by
    rw [List.replicate_succ', List.map_append]; exact ho
  refine Hp.step (t' := Gp h long' (m + 1)) (S := fun k => h.v.ownBlock = some k ∨ long.ownBlock = some k) (S' := fun k => h.v.ownBlock = some k ∨ long'.ownBlock = some k) H.below (fun k hk => (h3 k hk).1) h4
    ⟨hg.os, hg.tape, hg.output, hg.size, fun k hk hn => hg.block k hk (fun e => hn (Or.inr e.symm))⟩ ⟨ho', ?_, rfl⟩ (fun k hk => ?_)
  · rcases h2 with h2 | ⟨g, c, o, e, hb, hc⟩
    · exact Or.inl h2
    · have keep : w'.heap[g]? = w.heap[g]? → (h.v = .slice none 0 0 ∧ h.n = 0) ∨ ∃ g c o, h.v = .slice (some ⟨g, 0, none⟩) h.n c ∧ w'.heap[g]? = some o ∧ ∀ j, j < h.n → w'.cell? ⟨g, j, none⟩ = some (.int .i64 (mk h.q)) := fun hk =>
        Or.inr ⟨g, c, o, e, hk.trans hb, fun j hj => (World.cell?_of_block (a := ⟨g, j, none⟩) hk).trans (hc j hj)⟩
      by_cases hs : long.ownBlock = some g
      · rcases hl with hl | ⟨_, hl⟩
        · have hlg : long'.ownBlock = some g := hl.trans hs
          rcases ho'.2 with ⟨e1, _⟩ | ⟨g', cap, cur, e1, _, hg', _⟩
          · rw [e1] at hlg; cases hlg
          · rw [e1] at hlg
            injection hlg with hlg
            simp only at hlg
            subst hlg
            refine Or.inr ⟨g', c, _, e, hg', fun j hj => ?_⟩
            have := ho'.cells (g := g') (by rw [e1]; rfl) j (.int .i64 (mk h.q)) (by rw [List.getElem?_map, List.getElem?_replicate, if_pos (by omega)]; rfl)
            rwa [show (⟨g', 0, none⟩ : Addr).add j = ⟨g', 0 + j, none⟩ from Addr.add_lit g' 0 j, Nat.zero_add] at this
        · exact keep (hl.block g (blk_lt hb) (by simp))
      · exact keep (hg.block g (blk_lt hb) (fun e => hs e.symm))
  · rcases hk with hk | hk
    · exact Or.inl (Or.inl hk)
    · rcases hl with hl | ⟨hl, _⟩
      · exact Or.inl (Or.inr (by rw [← hl]; exact hk))
      · rw [hl] at hk; injection hk with hk; exact Or.inr (by omega)

/-- The book's own cells. -/
def bk (n : Int) (vb : Value) : Array Value := #[.int .i64 n, .slice none 0 0, .slice none 0 0, vb, .slice none 0 0, .slice none 0 0, .slice none 0 0, .slice none 0 0, .slice none 0 0]
/-- A row of the book: the list, the long one, the number. -/
structure Hr where
  l : Hl
  long : Value
def hrc (x : Hr) : List Value := [x.l.v, x.long, .int .i64 x.l.q]
def hc (xs : List Hr) : List Value := xs.flatMap hrc
theorem hc_len (xs : List Hr) : (hc xs).length = xs.length * 3 := by
  induction xs with
  | nil => rfl
  | cons x r ih => simp only [hc, List.flatMap_cons, List.length_append, List.length_cons] at ih ⊢; rw [ih]; simp [hrc]; omega
theorem hc_app (xs ys : List Hr) : hc (xs ++ ys) = hc xs ++ hc ys := by simp [hc]
theorem hc_at (A B : List Hr) (x : Hr) (i : Nat) (h : A.length = i) (o : Nat) (ho : o < 3) : (hc (A ++ x :: B))[i * 3 + o]? = (hrc x)[o]? := by
  rw [hc_app, List.getElem?_append_right (by rw [hc_len, h]; omega), hc_len, h]
  rw [show i * 3 + o - i * 3 = o by omega]
  show (hc (x :: B))[o]? = _
  have : hc (x :: B) = hrc x ++ hc B := rfl
  rw [this, List.getElem?_append_left (by simp [hrc]; omega)]
theorem hc_set (A B : List Hr) (x : Hr) (i : Nat) (h : A.length = i) (v : Value) : (hc (A ++ x :: B)).set (i * 3 + 1) v = hc (A ++ ⟨x.l, v⟩ :: B) := by
  rw [hc_app, hc_app, List.set_append_right _ _ (by rw [hc_len, h]; omega), hc_len, h, show i * 3 + 1 - i * 3 = 1 by omega]
  rfl
end Go.Proofs.YtllfkgdmneabiaaDoor
