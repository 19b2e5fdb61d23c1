/- ElfReads: the law's walk. By an AI agent. -/
import Derived.Test.YtdklggmeigogcaaDoorERead
import Derived.Test.YtdklggmeigogcaaDoorSame
set_option linter.unusedVariables false
set_option linter.unusedSimpArgs false
namespace Go.Proofs.YtdklggmeigogcaaDoor
open Go.RowKit
theorem eread_all (A : Option Addr) (n c : Nat) (L : List Nat) (w : World) (hn : n = L.length) (hm : n ≤ 140737488351232) (hnc : n ≤ c) (hc : c ≤ 9223372036854775807) (hL : ∀ i, L.getD i 0 < 256) (hT : TabR w) (h : Byt w w.heap.size A L) :
    Calls Tryd.prog 10 #[.slice A n c] w (EPost L w) := by
  by_cases hs : 262144 < n ∨ n < 64
  · exact eread_small A n c L w hn hm hs
  · obtain ⟨g, o, rfl, hg, hc2⟩ := h (by omega)
    exact eread_any g o n c L w hn hnc hc (by omega) (by omega) hL hT hc2
theorem rread_all (A : Option Addr) (n c : Nat) (L : List Nat) (w : World) (hn : n = L.length) (hm : n ≤ 140737488351232) (hL : ∀ i, L.getD i 0 < 256) (h : Byt w w.heap.size A L) :
    Calls Tryd.prog 11 #[.slice A n c] w (RPost L w) := by
  by_cases hs : 262144 < n ∨ n < 64
  · exact rread_small A n c L w hn hm hs
  · obtain ⟨g, o, rfl, hg, hc2⟩ := h (by omega)
    exact rread_any g o n c L w hn (by omega) (by omega) hL hc2
theorem FltIs.form {fv : Value} {p c : Int} {w : World} (h : FltIs fv p c w) : ∃ (A : Option Addr) (n cap : Nat) (cd : Int), fv = .agg #[.slice A n cap, .int .i64 cd] := by
  rcases h with ⟨h1, h2⟩ | ⟨h1, d, n, h2, _⟩
  · exact ⟨none, 0, 0, 0, h2⟩
  · exact ⟨_, 1, n, c, h2⟩
/-- A list whose last byte is turned. -/
def xl (L : List Nat) : List Nat := L.set (L.length - 1) (L.getD (L.length - 1) 0 ^^^ 255)
theorem xl_length (L : List Nat) : (xl L).length = L.length := by simp [xl]
theorem xl_small {L : List Nat} (h : ∀ i, L.getD i 0 < 256) : ∀ i, (xl L).getD i 0 < 256 := by
  intro i
  unfold xl
  by_cases hi : i = L.length - 1 ∧ i < L.length
  · obtain ⟨rfl, h2⟩ := hi
    have h3 : L.getD (L.length - 1) 0 ^^^ 255 < 2 ^ 8 := Nat.xor_lt_two_pow (h _) (by decide)
    simpa [h2] using h3
  · by_cases h2 : i < L.length
    · have h3 : L.length - 1 ≠ i := fun e => hi ⟨e.symm, h2⟩
      have := h i
      simpa [List.getElem?_set_ne h3] using this
    · have h4 : (xl L).length ≤ i := by rw [xl_length]; omega
      have h5 : (xl L).getD i 0 = 0 := by simp [List.getElem?_eq_none h4]
      unfold xl at h5
      rw [h5]; decide
theorem xl_at (L : List Nat) (i : Nat) (hi : i ≠ L.length - 1) : (xl L).getD i 0 = L.getD i 0 := by
  unfold xl; simp [List.getElem?_set_ne (Ne.symm hi)]
theorem xl_last (L : List Nat) (h : 0 < L.length) : (xl L).getD (L.length - 1) 0 = L.getD (L.length - 1) 0 ^^^ 255 := by
  have h2 : L.length - 1 < L.length := by omega
  unfold xl; simp [h2]
theorem xor_val (x : Nat) (h : x < 256) : bits .xor .u8 (x : Int) 255 = ((x ^^^ 255 : Nat) : Int) := u8_xor_nat x 255 h (by decide)
theorem readS_ends (L : List Nat) : (readS L).length ≤ 8 := by
  unfold readS; split
  · exact run_few _ _ _
  · simp
theorem run_dats (L : List Nat) (f : Nat) : ∀ k, ∀ i, i < (run L f k).2.2.length → ((run L f k).2.2.getD i PSeg.z).dat.length ≤ L.length := by
  intro k
  induction k with
  | zero => intro i hi; simp [run] at hi
  | succ k ih =>
    by_cases h0 : (run L f k).1 = 0
    · by_cases h1 : fld L (f + 56 * k) 4 = 1
      · by_cases h2 : segC L (f + 56 * k) (run L f k).2.2 = 0
        · rw [run_more L f k h0 h1 h2]
          intro i hi
          simp only [List.length_append, List.length_singleton] at hi
          by_cases e : i < (run L f k).2.2.length
          · have := ih i e
            simpa [List.getElem?_append_left e] using this
          · have e2 : i = (run L f k).2.2.length := by omega
            obtain ⟨_, _, hs, _⟩ := segC_zero h2
            subst e2
            have : fld L (f + 56 * k + 32) 8 ≤ L.length := by
              rcases Nat.eq_zero_or_pos (fld L (f + 56 * k + 32) 8) with h | h
              · omega
              · have := hs h; omega
            simpa [segOf] using this
        · rw [run_bad L f k h0 h1 h2]; intro i hi; simp at hi
      · rw [run_skip L f k h0 h1]; exact ih
    · rw [run_stay L f k h0 (k + 1) (by omega)]; exact ih
theorem readS_dats (L : List Nat) : ∀ i, i < (readS L).length → ((readS L).getD i PSeg.z).dat.length ≤ L.length := by
  unfold readS; split
  · exact run_dats _ _ _
  · intro i hi; simp at hi
theorem is_two {er fv : Value} {p c : Int} {B : Nat} {w : World} {o1 o2 : Obj} (he : ErrIs er p c B w) (hf : FltIs fv p c w) : Calls Tryd.prog 12 #[er, fv] ((w.alloc o1).alloc o2) fun e w' => e = .returned (.bool true) ∧ Below w.heap.size w w' ∧ w'.heap[w.heap.size]? = some o1 ∧ w.heap.size < w'.heap.size := by
  have hb : Below w.heap.size w ((w.alloc o1).alloc o2) := ((Below.refl _ _).alloc (Nat.le_refl _) _).alloc (by simp) _
  refine (is_true (he.after hb) (hf.after hb)).mono ?_
  rintro e w' ⟨rfl, h⟩
  have hs : ((w.alloc o1).alloc o2).heap.size = w.heap.size + 1 + 1 := by simp
  refine ⟨rfl, hb.trans (h.mono hb.size), ?_, ?_⟩
  · rw [h.block _ (by omega)]
    exact (((Below.refl _ (w.alloc o1)).alloc (Nat.le_refl _) o2).block _ (by simp)).trans (heap_alloc_new w o1)
  · have := h.size; omega
theorem same_v (en : Nat) (Ap Aq : Option Addr) (np cp nq cq Bp Bq m : Nat) (l : List PSeg) (w : World) (hl : l.length ≤ 8) (hd : ∀ i, i < l.length → (l.getD i PSeg.z).dat.length ≤ m) (hm : m ≤ 400000) (h1 : SegsOwn w Bp (.slice Ap np cp) l) (h2 : SegsOwn w Bq (.slice Aq nq cq) l) :
    Calls Tryd.prog 13 #[.agg #[.int .u64 (en : Int), .slice Ap np cp], .agg #[.int .u64 (en : Int), .slice Aq nq cq]] w fun e w' => e = .returned (.bool true) ∧ Below w.heap.size w w' := by
  obtain ⟨e1, k1⟩ := h1.at_
  obtain ⟨e2, k2⟩ := h2.at_
  subst e1 e2
  exact same_true en l.length cp cq Ap Aq l w rfl (by omega) (fun i hi => by have := hd i hi; omega) k1 k2
def TruePost (w : World) (e : Ending) (w' : World) : Prop := e = .returned (.bool true) ∧ Below w.heap.size w w'
theorem eread_v (en : Nat) (c0 p0 : Int) (l : List PSeg) (A : Option Addr) (n c : Nat) (L : List Nat) (w : World) (h1 : readE L = en) (h2 : readC L = (c0, p0)) (h3 : readS L = l) (hn : n = L.length) (hm : n ≤ 140737488351232) (hnc : n ≤ c) (hc : c ≤ 9223372036854775807) (hL : ∀ i, L.getD i 0 < 256) (hT : TabR w) (h : Byt w w.heap.size A L) :
    Calls Tryd.prog 10 #[.slice A n c] w fun e w' => ∃ (A : Option Addr) (n c : Nat) (er : Value), e = .returned (.tuple #[.agg #[.int .u64 (en : Int), .slice A n c], er]) ∧ ErrIs er p0 c0 w.heap.size w' ∧ SegsOwn w' w.heap.size (.slice A n c) l ∧ Below w.heap.size w w' := by
  refine (eread_all A n c L w hn hm hnc hc hL hT h).mono ?_
  rintro e w' ⟨A', n', c', er, k1, k2, k3, k4⟩
  rw [h2] at k2
  subst h1 h3
  exact ⟨A', n', c', er, k1, k2, k3, k4⟩
theorem rread_v (en : Nat) (c0 p0 : Int) (l : List PSeg) (A : Option Addr) (n c : Nat) (L : List Nat) (w : World) (h1 : readE L = en) (h2 : readC L = (c0, p0)) (h3 : readS L = l) (hn : n = L.length) (hm : n ≤ 140737488351232) (hL : ∀ i, L.getD i 0 < 256) (h : Byt w w.heap.size A L) :
    Calls Tryd.prog 11 #[.slice A n c] w fun e w' => ∃ (A : Option Addr) (n c : Nat) (fa : Option Addr) (fn fc : Nat) (fd : Int), e = .returned (.tuple #[.agg #[.int .u64 (en : Int), .slice A n c], .agg #[.slice fa fn fc, .int .i64 fd]]) ∧ FltIs (.agg #[.slice fa fn fc, .int .i64 fd]) p0 c0 w' ∧ SegsOwn w' w.heap.size (.slice A n c) l ∧ Below w.heap.size w w' := by
  refine (rread_all A n c L w hn hm hL h).mono ?_
  rintro e w' ⟨A', n', c', fv, k1, k2, k3, k4⟩
  obtain ⟨fa, fn, fc, fd, rfl⟩ := k2.form
  rw [h2] at k2
  subst h1 h3
  exact ⟨A', n', c', fa, fn, fc, fd, k1, k2, k3, k4⟩
/-- Two programs in variables, the same. -/
structure Two (w : World) (qp qq en : Nat) (vp vq : Value) (Bp Bq : Nat) (l : List PSeg) : Prop where
  p : w.heap[qp]? = some (.cells #[.int .u64 (en : Int), vp] 27)
  q : w.heap[qq]? = some (.cells #[.int .u64 (en : Int), vq] 27)
  sp : SegsOwn w Bp vp l
  sq : SegsOwn w Bq vq l
  pl : qp < w.heap.size
  ql : qq < w.heap.size
theorem Two.after {w w' : World} {qp qq en : Nat} {vp vq : Value} {Bp Bq : Nat} {l : List PSeg} (h : Two w qp qq en vp vq Bp Bq l) (hb : Below w.heap.size w w') : Two w' qp qq en vp vq Bp Bq l :=
  ⟨(hb.block _ h.pl).trans h.p, (hb.block _ h.ql).trans h.q, h.sp.keep hb, h.sq.keep hb, Nat.lt_of_lt_of_le h.pl hb.size, Nat.lt_of_lt_of_le h.ql hb.size⟩
theorem Two.cells {w : World} {qp qq en : Nat} {vp vq : Value} {Bp Bq : Nat} {l : List PSeg} (h : Two w qp qq en vp vq Bp Bq l) : w.cell? ⟨qp, 0, none⟩ = some (.int .u64 (en : Int)) ∧ w.cell? ⟨qp, 1, none⟩ = some vp ∧ w.cell? ⟨qq, 0, none⟩ = some (.int .u64 (en : Int)) ∧ w.cell? ⟨qq, 1, none⟩ = some vq := by
  simp [World.cell?, h.p, h.q]
theorem byt_far {w : World} {g2 g i B : Nat} {u : Value} {L : List Nat} (h : Byt w B (some ⟨g2, 0, none⟩) L) (hne : g2 ≠ g) : Byt (w.setCell ⟨g, i, none⟩ u) B (some ⟨g2, 0, none⟩) L := by
  intro h0
  obtain ⟨ga, oa, ea, hb, ha⟩ := h h0
  cases ea
  exact ⟨g2, 0, rfl, hb, fun j hj => by rw [World.cell?_setCell_other _ _ _ _ (by intro e; cases e; exact hne rfl)]; exact ha j hj⟩
def LentF (w : World) (g cap : Nat) (L : List Nat) : Prop := LentAt w g cap L ∧ ∀ i, w.frozen? ⟨g, i, none⟩ = false
theorem LentF.after {w w' : World} {g cap : Nat} {L : List Nat} (h : LentF w g cap L) (hb : Below w.heap.size w w') : LentF w' g cap L :=
  ⟨h.1.after hb, fun i => by rw [hb.frozen (p := ⟨g, i, none⟩) h.1.lt]; exact h.2 i⟩
theorem copied {w : World} {B g2 n : Nat} {L : List Nat} (h : Byt w B (some ⟨g2, 0, none⟩) L) (hn : n = L.length) (h0 : 0 < n) : w.cell? ⟨g2, n - 1, none⟩ = some (.int .u8 ((L.getD (n - 1) 0 : Nat) : Int)) := by
  obtain ⟨g, o, e, _, h2⟩ := h (by omega)
  cases e
  have := h2 (n - 1) (by omega)
  rwa [Nat.zero_add] at this
theorem lent_last {w : World} {g cap n : Nat} {L : List Nat} (h : LentAt w g cap L) (hn : n = L.length) (h0 : 0 < n) : w.cell? ⟨g, n - 1, none⟩ = some (.int .u8 ((L.getD (n - 1) 0 : Nat) : Int)) := by
  have := h.2 (n - 1) (by omega)
  rwa [show (L ++ marks).getD (n - 1) 0 = L.getD (n - 1) 0 by simp [List.getElem?_append_left (show n - 1 < L.length by omega)]] at this
theorem Two.set {w : World} {qp qq en : Nat} {vp vq : Value} {Bp Bq : Nat} {l : List PSeg} (h : Two w qp qq en vp vq Bp Bq l) (g i : Nat) (u : Value) (h1 : g < Bp) (h2 : g < Bq) (h3 : qp ≠ g) (h4 : qq ≠ g) : Two (w.setCell ⟨g, i, none⟩ u) qp qq en vp vq Bp Bq l :=
  ⟨(Below.heap_setCell w ⟨g, i, none⟩ u qp h3).trans h.p, (Below.heap_setCell w ⟨g, i, none⟩ u qq h4).trans h.q, h.sp.far (grown_set w ⟨g, i, none⟩ u) h1, h.sq.far (grown_set w ⟨g, i, none⟩ u) h2, by simpa using h.pl, by simpa using h.ql⟩
theorem byt_xl {w : World} {g n x : Nat} {L : List Nat} (h : ∀ i, i < n → w.cell? ⟨g, i, none⟩ = some (.int .u8 ((L.getD i 0 : Nat) : Int))) (hn : n = L.length) (hx : L.getD (n - 1) 0 = x) (hg : g < w.heap.size) (B : Nat) (hB : g < B) : Byt (w.setCell ⟨g, n - 1, none⟩ (.int .u8 ((x ^^^ 255 : Nat) : Int))) B (some ⟨g, 0, none⟩) (xl L) := by
  intro h0
  rw [xl_length] at h0
  refine ⟨g, 0, rfl, hB, fun i hi => ?_⟩
  rw [xl_length] at hi
  rw [Nat.zero_add]
  by_cases e : i = n - 1
  · subst e
    rw [World.cell?_setCell_same w _ _ (h _ (by omega)), hn, xl_last L h0, ← hn, hx]
  · rw [World.cell?_setCell_other _ _ _ _ (by intro e2; cases e2; exact e rfl), xl_at L i (by omega)]
    exact h i (by omega)
set_option maxRecDepth 100000 in
set_option maxHeartbeats 4000000 in
theorem law_reads (A : Option Addr) (n c : Nat) (L : List Nat) (w : World) (hn : n = L.length) (hm : n ≤ maxLen) (hL : ∀ i, L.getD i 0 < 256) (hT : TabR w) (h : Byt w w.heap.size A L) :
    Calls Tryd.prog 3 #[.slice A n c] w (TruePost w) := by
  have hm2 : n ≤ 9223372036854775807 := hm
  by_cases hbig : 400000 < n
  · go_enter Tryd.func3, Tryd.ntmps3
    go_wp2_with fail
    go_ret
    exact ⟨rfl, Below.refl _ _⟩
  · obtain ⟨en, hen⟩ : ∃ x, readE L = x := ⟨_, rfl⟩
    obtain ⟨⟨c0, p0⟩, hcp⟩ : ∃ x, readC L = x := ⟨_, rfl⟩
    obtain ⟨l, hl⟩ : ∃ x, readS L = x := ⟨_, rfl⟩
    have HR := Lib.hid (And.intro hen (And.intro hcp hl))
    have HL8 := Lib.hid (show l.length ≤ 8 by rw [← hl]; exact readS_ends L)
    have HDM := Lib.hid (show ∀ i, i < l.length → (l.getD i PSeg.z).dat.length ≤ n by rw [← hl, hn]; exact readS_dats L)
    obtain ⟨en', hen'⟩ : ∃ x, readE (xl L) = x := ⟨_, rfl⟩
    obtain ⟨⟨c1, p1⟩, hcp'⟩ : ∃ x, readC (xl L) = x := ⟨_, rfl⟩
    obtain ⟨l', hl'⟩ : ∃ x, readS (xl L) = x := ⟨_, rfl⟩
    have HR' := Lib.hid (And.intro hen' (And.intro hcp' hl'))
    have HL8' := Lib.hid (show l'.length ≤ 8 by rw [← hl']; exact readS_ends (xl L))
    have HDM' := Lib.hid (show ∀ i, i < l'.length → (l'.getD i PSeg.z).dat.length ≤ n by rw [← hl', hn, ← xl_length L]; exact readS_dats (xl L))
    clear hen' hcp' hl'
    have HN := Lib.hid hn
    have HL := Lib.hid hL
    have HT := Lib.hid hT
    have H := Lib.hid h
    clear hn hL hT h hen hcp hl
    go_enter Tryd.func3, Tryd.ntmps3
    go_wp2_with fail
    refine (lend_any A c n L _ HN.out (by omega) H.out).mono ?_
    rintro e w1 ⟨g, cap, rfl, hg, hcap, hown, hb1⟩
    have HLA := Lib.hid (show LentF w1 g cap L from ⟨LentAt.of_own hown, fun i => hown.frozenAt i⟩)
    have hcm : cap ≤ 9223372036854775807 := (own_cap hown).2
    have HB1 := Lib.hid hb1
    rw [← HN.out] at hcap ⊢
    clear hown hb1
    go_wp2_with fail
    refine (eread_v en c0 p0 l (some ⟨g, 0, none⟩) n cap L _ HR.out.1 HR.out.2.1 HR.out.2.2 HN.out (by omega) (by omega) hcm HL.out (HT.out.after HB1.out) HLA.out.1.byt).mono ?_
    rintro e w2 ⟨Ap, np, cp, er, rfl, he, hso, hb2⟩
    have HB2 := Lib.hid (HB1.out.trans (hb2.mono HB1.out.size))
    have hb3q := hb2.size
    have HLA2 := Lib.hid (HLA.out.after hb2)
    have HE2 := Lib.hid he
    have HS2 := Lib.hid hso
    clear he hso hb2
    go_wp2_with fail
    have HB3 := Lib.hid (HB2.out.alloc HB2.out.size (.cells #[.int .u64 (en : Int), .slice Ap np cp] 27))
    have P3 := Lib.hid (heap_alloc_new w2 (.cells #[.int .u64 (en : Int), .slice Ap np cp] 27))
    have hb3 : Below w2.heap.size w2 (w2.alloc (.cells #[.int .u64 (en : Int), .slice Ap np cp] 27)) := (Below.refl _ _).alloc (Nat.le_refl _) _
    have HLA3 := Lib.hid (HLA2.out.after hb3)
    have HE3 := Lib.hid (HE2.out.after hb3)
    have HS3 := Lib.hid (HS2.out.keep hb3)
    have qlt3 : w2.heap.size < (w2.alloc (.cells #[.int .u64 (en : Int), .slice Ap np cp] 27)).heap.size := by simp
    clear HLA2 HE2 HS2 hb3
    have HW3 := Lib.hid (show w1.heap.size < (w2.alloc (.cells #[.int .u64 (en : Int), .slice Ap np cp] 27)).heap.size by simp; omega)
    have HQ := Lib.hid (show w1.heap.size ≤ w2.heap.size from hb3q)
    generalize w2.alloc (.cells #[.int .u64 (en : Int), .slice Ap np cp] 27) = w3 at *
    generalize w2.heap.size = qp at *
    clear HB2
    refine (rread_v en c0 p0 l A n c L _ HR.out.1 HR.out.2.1 HR.out.2.2 HN.out (by omega) HL.out ((H.out.after HB3.out).mono HB3.out.size)).mono ?_
    rintro e w4 ⟨Aq, nq, cq, fa, fn, fc, fd, rfl, hf, hsq, hb4⟩
    have HB4 := Lib.hid (HB3.out.trans (hb4.mono HB3.out.size))
    have HLA4 := Lib.hid (HLA3.out.after hb4)
    have HE4 := Lib.hid (HE3.out.after hb4)
    have HS4 := Lib.hid (HS3.out.keep hb4)
    have P4 := Lib.hid ((hb4.block _ qlt3).trans P3.out)
    have qlt4 : qp < w4.heap.size := Nat.lt_of_lt_of_le qlt3 hb4.size
    have HF4 := Lib.hid hf
    have HQ4 := Lib.hid hsq
    clear hf hsq hb4 HLA3 HE3 HS3 P3 qlt3 HB3
    go_wp2_with fail
    refine (is_two HE4.out HF4.out).mono ?_
    rintro e w5 ⟨rfl, hb5, q5, ql5⟩
    have HB5 := Lib.hid (HB4.out.trans (hb5.mono HB4.out.size))
    have HLA5 := Lib.hid (HLA4.out.after hb5)
    have HX5 := Lib.hid (Two.mk (Bp := w1.heap.size) (Bq := w3.heap.size) (l := l) ((hb5.block _ qlt4).trans P4.out) q5 (HS4.out.keep hb5) (HQ4.out.keep hb5) (Nat.lt_of_lt_of_le qlt4 hb5.size) ql5)
    clear hb5 HE4 HF4 HS4 HQ4 P4 HLA4 q5 HB4
    generalize w4.heap.size = qq at *
    obtain ⟨k1, k2, k3, k4⟩ := HX5.out.cells
    go_wp2_with fail
    refine (same_v en Ap Aq np cp nq cq _ _ n l _ HL8.out HDM.out (by omega) HX5.out.sp HX5.out.sq).mono ?_
    rintro e w6 ⟨rfl, hb6⟩
    have HB6 := Lib.hid (HB5.out.trans (hb6.mono HB5.out.size))
    have HLA6 := Lib.hid (HLA5.out.after hb6)
    have HX6 := Lib.hid (HX5.out.after hb6)
    clear hb6 k1 k2 k3 k4 HB5 HLA5 HX5 ql5
    go_wp2_with fail
    refine (kept_any A c n g cap L _ HN.out (by omega) HLA6.out.1 ((H.out.after HB6.out).mono HB6.out.size)).mono ?_
    rintro e w7 ⟨rfl, hb7⟩
    have HB7 := Lib.hid (HB6.out.trans (hb7.mono HB6.out.size))
    have HLA7 := Lib.hid (HLA6.out.after hb7)
    have HX7 := Lib.hid (HX6.out.after hb7)
    clear hb7 HB6 HLA6 HX6
    go_wp2_with fail
    · go_ret
      exact ⟨rfl, HB7.out⟩
    have hnz : 0 < n := by
      rcases Nat.eq_zero_or_pos n with h | h
      · have hh : ((n : Int) == 0) = false := by assumption
        rw [h] at hh; exact absurd hh (by decide)
      · exact h
    refine (copy_any A c n L _ HN.out (by omega) ((H.out.after HB7.out).mono HB7.out.size)).mono ?_
    rintro e w8 ⟨v8, rfl, ho8, hb8⟩
    obtain ⟨g2, c2, hv2, hg2, hlt2⟩ := World.ownsRow.form ho8 (by rw [← HN.out]; exact hnz)
    subst hv2
    have HO8 := Lib.hid (Byt.of_own ho8)
    have HB8 := Lib.hid (HB7.out.trans (hb8.mono HB7.out.size))
    have HLA8 := Lib.hid (HLA7.out.after hb8)
    have HX8 := Lib.hid (HX7.out.after hb8)
    have g7 := HB7.out.size
    have g8 := hb8.size
    rw [← HN.out]
    have gs : g < w1.heap.size := HLA.out.1.lt
    have ngg : g2 ≠ g := by have := HX7.out.pl; omega
    have Q1 := HX7.out.ql
    have Q2 := HX7.out.pl
    have HX9 := Lib.hid (fun u => HX7.out.after (hb8.setCell (p := ⟨g2, n - 1, none⟩) hg2 u))
    have HLA9 := Lib.hid (fun u => HLA7.out.after (hb8.setCell (p := ⟨g2, n - 1, none⟩) hg2 u))
    clear HX7 HLA7 HB7
    obtain ⟨x, hx⟩ : ∃ x, L.getD (n - 1) 0 = x := ⟨_, rfl⟩
    have HXX := Lib.hid hx
    have hx8 : x < 256 := by rw [← hx]; exact HL.out _
    have z1 : w8.frozen? ⟨g2, n - 1, none⟩ = false := ho8.frozenAt _
    have z2 : w8.frozen? ⟨g, n - 1, none⟩ = false := HLA8.out.2 _
    have d1 : w8.cell? ⟨g2, n - 1, none⟩ = some (.int .u8 (x : Int)) := by rw [← hx]; exact copied HO8.out.1 HN.out hnz
    have d2 : w8.cell? ⟨g, n - 1, none⟩ = some (.int .u8 (x : Int)) := by rw [← hx]; exact lent_last HLA8.out.1 HN.out hnz
    clear hx ho8
    go_wp2_with fail
    have exo : bits .xor .u8 (x : Int) 255 = ((x ^^^ 255 : Nat) : Int) := xor_val x hx8
    rw [exo]
    have szw : ((w8.setCell ⟨g2, n - 1, none⟩ (.int .u8 ((x ^^^ 255 : Nat) : Int))).setCell ⟨g, n - 1, none⟩ (.int .u8 ((x ^^^ 255 : Nat) : Int))).heap.size = w8.heap.size := by simp
    have HA := Lib.hid (byt_xl (n := n) (x := x) (L := L) (fun i hi => by
      have := ((HLA9.out (.int .u8 ((x ^^^ 255 : Nat) : Int))).1.byt) (by have := HN.out; omega)
      obtain ⟨ga, oa, ea, _, ha⟩ := this
      cases ea
      have := ha i (by have := HN.out; omega)
      rwa [Nat.zero_add] at this) HN.out HXX.out (by simp; omega) w8.heap.size (by omega))
    have HD := Lib.hid (byt_far (i := n - 1) (u := .int .u8 ((x ^^^ 255 : Nat) : Int)) (byt_xl (w := w8) (g := g2) (n := n) (x := x) (L := L) (fun i hi => by
      obtain ⟨ga, oa, ea, _, ha⟩ := HO8.out.1 (by have := HN.out; omega)
      cases ea
      have := ha i (by have := HN.out; omega)
      rwa [Nat.zero_add] at this) HN.out HXX.out hlt2 w8.heap.size hlt2) ngg)
    have HX10 := Lib.hid ((HX9.out (.int .u8 ((x ^^^ 255 : Nat) : Int))).set g (n - 1) (.int .u8 ((x ^^^ 255 : Nat) : Int)) gs (by have := HW3.out; omega) (by omega) (by omega))
    have HB10 := Lib.hid ((HB8.out.setCell (p := ⟨g2, n - 1, none⟩) (by show w.heap.size ≤ g2; omega) (.int .u8 ((x ^^^ 255 : Nat) : Int))).setCell (p := ⟨g, n - 1, none⟩) hg (.int .u8 ((x ^^^ 255 : Nat) : Int)))
    clear HX9 HLA9 HX8 HLA8 HB8 exo
    generalize (w8.setCell ⟨g2, n - 1, none⟩ (.int .u8 ((x ^^^ 255 : Nat) : Int))).setCell ⟨g, n - 1, none⟩ (.int .u8 ((x ^^^ 255 : Nat) : Int)) = w10 at *
    rw [← szw] at HA HD
    have HN' := Lib.hid (show n = (xl L).length by rw [xl_length]; exact HN.out)
    have HL' := Lib.hid (xl_small HL.out)
    refine (eread_v en' c1 p1 l' (some ⟨g, 0, none⟩) n cap (xl L) _ HR'.out.1 HR'.out.2.1 HR'.out.2.2 HN'.out (by omega) (by omega) hcm HL'.out (HT.out.after HB10.out) HA.out).mono ?_
    rintro e w11 ⟨Ar, nr, cr, er2, rfl, he, hso, hb11⟩
    have HB11 := Lib.hid (HB10.out.trans (hb11.mono HB10.out.size))
    have HD11 := Lib.hid ((HD.out.after hb11).mono hb11.size)
    have HX11 := Lib.hid (HX10.out.after hb11)
    have HE11 := Lib.hid he
    have HS11 := Lib.hid hso
    clear he hso hb11 HA HD HX10 HB10 d1 d2 z1 z2
    go_wp2_with fail
    have HB12 := Lib.hid (HB11.out.alloc HB11.out.size (.cells #[.int .u64 (en' : Int), .slice Ar nr cr] 27))
    have P12 := Lib.hid (heap_alloc_new w11 (.cells #[.int .u64 (en' : Int), .slice Ar nr cr] 27))
    have hb12 : Below w11.heap.size w11 (w11.alloc (.cells #[.int .u64 (en' : Int), .slice Ar nr cr] 27)) := (Below.refl _ _).alloc (Nat.le_refl _) _
    have HE12 := Lib.hid (HE11.out.after hb12)
    have HS12 := Lib.hid (HS11.out.keep hb12)
    have HX12 := Lib.hid (HX11.out.after hb12)
    have HD12 := Lib.hid ((HD11.out.after hb12).mono hb12.size)
    have qlt12 : w11.heap.size < (w11.alloc (.cells #[.int .u64 (en' : Int), .slice Ar nr cr] 27)).heap.size := by simp
    clear HE11 HS11 HX11 HD11 hb12
    generalize w11.alloc (.cells #[.int .u64 (en' : Int), .slice Ar nr cr] 27) = w12 at *
    generalize w11.heap.size = qr at *
    clear HB11
    refine (rread_v en' c1 p1 l' (some ⟨g2, 0, none⟩) n c2 (xl L) _ HR'.out.1 HR'.out.2.1 HR'.out.2.2 HN'.out (by omega) HL'.out HD12.out).mono ?_
    rintro e w13 ⟨As, ns, cs, ga, gn, gc, gd, rfl, hf, hsq, hb13⟩
    have HB13 := Lib.hid (HB12.out.trans (hb13.mono HB12.out.size))
    have HE13 := Lib.hid (HE12.out.after hb13)
    have HS13 := Lib.hid (HS12.out.keep hb13)
    have HX13 := Lib.hid (HX12.out.after hb13)
    have P13 := Lib.hid ((hb13.block _ qlt12).trans P12.out)
    have qlt13 : qr < w13.heap.size := Nat.lt_of_lt_of_le qlt12 hb13.size
    have HF13 := Lib.hid hf
    have HQ13 := Lib.hid hsq
    clear hf hsq hb13 HE12 HS12 HX12 P12 qlt12 HB12 HD12
    go_wp2_with fail
    refine (is_two HE13.out HF13.out).mono ?_
    rintro e w14 ⟨rfl, hb14, q14, ql14⟩
    have HB14 := Lib.hid (HB13.out.trans (hb14.mono HB13.out.size))
    have HX14 := Lib.hid (HX13.out.after hb14)
    have HY14 := Lib.hid (Two.mk (l := l') ((hb14.block _ qlt13).trans P13.out) q14 (HS13.out.keep hb14) (HQ13.out.keep hb14) (Nat.lt_of_lt_of_le qlt13 hb14.size) ql14)
    clear hb14 HE13 HF13 HS13 HQ13 P13 q14 HB13 HX13
    generalize w13.heap.size = qs at *
    obtain ⟨k1, k2, k3, k4⟩ := HX14.out.cells
    obtain ⟨m1, m2, m3, m4⟩ := HY14.out.cells
    go_wp2_with fail
    refine (same_v en' Ar As nr cr ns cs _ _ n l' _ HL8'.out HDM'.out (by omega) HY14.out.sp HY14.out.sq).mono ?_
    rintro e w15 ⟨rfl, hb15⟩
    have HB15 := Lib.hid (HB14.out.trans (hb15.mono HB14.out.size))
    have HX15 := Lib.hid (HX14.out.after hb15)
    clear hb15 k1 k2 k3 k4 m1 m2 m3 m4 HB14 HX14 HY14 ql14
    obtain ⟨k1, k2, k3, k4⟩ := HX15.out.cells
    go_wp2_with fail
    refine (same_v en Ap Aq np cp nq cq _ _ n l _ HL8.out HDM.out (by omega) HX15.out.sp HX15.out.sq).mono ?_
    rintro e w16 ⟨rfl, hb16⟩
    have HB16 := Lib.hid (HB15.out.trans (hb16.mono HB15.out.size))
    clear hb16 k1 k2 k3 k4
    go_wp2_with fail
    go_ret
    exact ⟨rfl, HB16.out⟩
end Go.Proofs.YtdklggmeigogcaaDoor
