/- The statement ValueIn is proved: In, Between and Order return what the chapter says, or the error, for any values; for every input, under the row's own condition alone (the listed package-level variables hold what the program's text lays; the card ties them). -/
import Derived.Test.YtpmfpfkahanlaaaGreatDoorHW
import Derived.Test.YtpmfpfkahanlaaaGreatDoorHM
import Derived.Test.YtpmfpfkahanlaaaGreatDoorHX
import Derived.Test.YtpmfpfkahanlaaaGreatDoorHG
import Derived.Laws.AppendOwnNone
import Derived.Test.YtpmfpfkahanlaaaGreatDoorHR
namespace Go.Proofs.YtpmfpfkahanlaaaGreatDoor
open Go.RowKit
set_option linter.unusedSimpArgs false
set_option linter.unusedVariables false
attribute [local go_sem] Later.cell Later.lt veq_self
attribute [local go_sem high] run_eqV run_neV

theorem BW.grown {w0 w w' : World} {l : List (Nat × V)} {g : Nat} (hE0 : Env w0) (h : BW w0 w l) (hg : w.grownBy w' (some g)) (hne : ∀ p ∈ l, p.1 ≠ g) (hb : w0.heap.size ≤ g) : BW w0 w' l := by
  have B : Below w0.heap.size w0 w' := h.b.grown hg h.b.size (by rintro k hk; cases hk; exact hb)
  exact ⟨fun p hp => blk_grown (h.all p hp) hg (fun e => hne p hp (Option.some.inj e)), hE0.later B, B⟩
theorem flat_cells (w : World) (b : Nat) : ∀ (l : List V) (off : Nat), (∀ j (h : j < l.length), w.cell? ⟨b, off + j * 3, none⟩ = some (.int .i64 l[j].k) ∧ w.cell? ⟨b, off + j * 3 + 1, none⟩ = some (.int .i64 l[j].n) ∧ w.cell? ⟨b, off + j * 3 + 2, none⟩ = some (.string ⟨l[j].t.toArray⟩)) →
    ∀ j u, (l.flatMap encL)[j]? = some u → w.cell? ⟨b, off + j, none⟩ = some u
  | [], _, _, j, u, h => by simp at h
  | x :: r, off, hc, j, u, h => by
    obtain ⟨c0, c1, c2⟩ := hc 0 (by simp)
    have ih := flat_cells w b r (off + 3) (fun j hj => by
      obtain ⟨d0, d1, d2⟩ := hc (j + 1) (by simp; omega)
      simp only [List.getElem_cons_succ] at d0 d1 d2
      rw [show off + 3 + j * 3 = off + (j + 1) * 3 by omega]
      exact ⟨d0, d1, d2⟩)
    match j, h with
    | 0, h => simp only [List.flatMap_cons, encL, List.cons_append, List.getElem?_cons_zero, Option.some.injEq] at h; rw [← h]; simpa using c0
    | 1, h => simp only [List.flatMap_cons, encL, List.cons_append, List.getElem?_cons_succ, List.getElem?_cons_zero, Option.some.injEq] at h; rw [← h]; simpa using c1
    | 2, h => simp only [List.flatMap_cons, encL, List.cons_append, List.getElem?_cons_succ, List.getElem?_cons_zero, Option.some.injEq] at h; rw [← h]; simpa using c2
    | j + 3, h =>
      simp only [List.flatMap_cons, encL, List.cons_append, List.nil_append, List.getElem?_cons_succ] at h
      rw [show off + (j + 3) = off + 3 + j by omega]
      exact ih j u h
theorem flat_one (l : List V) : ∀ u ∈ l.flatMap encL, u.oneCell' = true := by
  intro u hu
  simp only [List.mem_flatMap, encL, List.mem_cons, List.not_mem_nil, or_false] at hu
  obtain ⟨x, _, rfl | rfl | rfl⟩ := hu <;> rfl
theorem Sl.cells {w : World} {b off n : Nat} {l : List V} (h : Sl w (some ⟨b, off, none⟩) n l) : ∀ j u, (l.flatMap encL)[j]? = some u → w.cell? ((⟨b, off, none⟩ : Addr).add j) = some u := by
  intro j u hu
  by_cases h0 : 0 < n
  case neg =>
    have : l = [] := List.eq_nil_of_length_eq_zero (by have := h.len; omega)
    subst this
    simp at hu
  obtain ⟨b', off', e, hb, hc⟩ := h.at_ h0
  cases e
  have h := flat_cells w b l off hc j u hu
  by_cases hj : j = 0
  · subst hj; rw [show (⟨b, off, none⟩ : Addr).add 0 = ⟨b, off, none⟩ from by simp [Addr.add]]; simpa using h
  · simpa [Addr.add, hj] using h
theorem kin {x r : V} {e : Int} {A : Option Addr} {n c : Nat} {l : List V} (h : vIn x l = (r, e)) (w : World) (hE : Env w) (hS : Sl w A n l) :
    Calls Tryz.prog 29 #[(.agg #[.int .i64 (x).k, .int .i64 (x).n, .string ⟨List.toArray (x).t⟩]), .slice A n c] w fun f w' => f = .returned (.tuple #[(.agg #[.int .i64 (r).k, .int .i64 (r).n, .string ⟨List.toArray (r).t⟩]), .int .i64 e]) ∧ Below w.heap.size w w' := by
  have := in_any x A n c l w hE.nul hS
  rw [h] at this
  exact this
theorem krin {x r : V} {e : Int} {A : Option Addr} {n c : Nat} {l : List V} (h : rIn x l = (r, e)) (w : World) (hE : Env w) (hS : Sl w A n l) (tx : x.t.length ≤ 140737488355328) (tl : ∀ v ∈ l, v.t.length ≤ 140737488355328) :
    Calls Tryz.prog 30 #[(.agg #[.int .i64 (x).k, .int .i64 (x).n, .string ⟨List.toArray (x).t⟩]), .slice A n c] w fun f w' => f = .returned (.tuple #[(.agg #[.int .i64 (r).k, .int .i64 (r).n, .string ⟨List.toArray (r).t⟩]), .int .i64 e]) ∧ Below w.heap.size w w' := by
  have := rIn_any x A n c l w hE hS tx tl
  rw [h] at this
  exact this
theorem kbet {a b c r : V} {e : Int} (h : vBetween a b c = (r, e)) (w : World) (hE : Env w) :
    Calls Tryz.prog 31 #[(.agg #[.int .i64 (a).k, .int .i64 (a).n, .string ⟨List.toArray (a).t⟩]), (.agg #[.int .i64 (b).k, .int .i64 (b).n, .string ⟨List.toArray (b).t⟩]), (.agg #[.int .i64 (c).k, .int .i64 (c).n, .string ⟨List.toArray (c).t⟩])] w fun f w' => f = .returned (.tuple #[(.agg #[.int .i64 (r).k, .int .i64 (r).n, .string ⟨List.toArray (r).t⟩]), .int .i64 e]) ∧ Below w.heap.size w w' := by
  have := between_any a b c w hE.nul
  rw [h] at this
  exact this
theorem krbet {a b c r : V} {e : Int} (h : rBetween a b c = (r, e)) (w : World) (hE : Env w) (ta : a.t.length ≤ 140737488355328) (tb : b.t.length ≤ 140737488355328) (tc : c.t.length ≤ 140737488355328) :
    Calls Tryz.prog 32 #[(.agg #[.int .i64 (a).k, .int .i64 (a).n, .string ⟨List.toArray (a).t⟩]), (.agg #[.int .i64 (b).k, .int .i64 (b).n, .string ⟨List.toArray (b).t⟩]), (.agg #[.int .i64 (c).k, .int .i64 (c).n, .string ⟨List.toArray (c).t⟩])] w fun f w' => f = .returned (.tuple #[(.agg #[.int .i64 (r).k, .int .i64 (r).n, .string ⟨List.toArray (r).t⟩]), .int .i64 e]) ∧ Below w.heap.size w w' := by
  have := rBetween_any a b c w hE ta tb tc
  rw [h] at this
  exact this
theorem krord {a b : V} {n x : Int} (h : rOrder a b = (n, x)) (w : World) (ta : a.t.length ≤ 140737488355328) (tb : b.t.length ≤ 140737488355328) :
    Calls Tryz.prog 34 #[(.agg #[.int .i64 (a).k, .int .i64 (a).n, .string ⟨List.toArray (a).t⟩]), (.agg #[.int .i64 (b).k, .int .i64 (b).n, .string ⟨List.toArray (b).t⟩])] w fun e w' => e = .returned (.tuple #[.int .i64 n, .int .i64 x]) ∧ Below w.heap.size w w' := by
  have := rOrder_any a b w ta tb
  rw [h] at this
  exact this
def row2 (a c : V) : List Value := [.int .i64 a.k, .int .i64 a.n, .string ⟨a.t.toArray⟩, .int .i64 c.k, .int .i64 c.n, .string ⟨c.t.toArray⟩]
theorem own_two (a c : V) (W : World) (B g : Nat) (hg : g = W.heap.size) (hB : B ≤ g) : (W.alloc (.cells #[.int .i64 a.k, .int .i64 a.n, .string ⟨a.t.toArray⟩, .int .i64 c.k, .int .i64 c.n, .string ⟨c.t.toArray⟩] 27)).ownsRow B 27 3 (.slice (some ⟨g, 0, none⟩) 2 2) 2 (row2 a c) := by
  subst hg
  exact ⟨rfl, .inr ⟨_, 2, #[.int .i64 a.k, .int .i64 a.n, .string ⟨a.t.toArray⟩, .int .i64 c.k, .int .i64 c.n, .string ⟨c.t.toArray⟩], rfl, hB, by show (W.heap.push _)[W.heap.size]? = _; simp, Nat.le_refl _, by decide, rfl, rfl⟩⟩
theorem wpList_append_l {ops : Array Oper} {rest : List Oper} {o : Oper} {a : Act} {w : World} {Q : Exit → Act → World → Prop} (hgd : o.guard = none) (s x : Operand)
    (ho : o.op = .call { callee := .builtin .append, args := #[s, x], argTypes := #[22, 22] }) (base : Nat) (v : Value) (m : Nat) (xs : List Value) (hs : a.eval s = v) (hown : w.ownsRow base 27 3 v m xs)
    (A : Option Addr) (n c : Nat) (l : List V) (hx : a.eval x = .slice A n c) (hS : Sl w A n l) (hA : A = none → n = 0 ∧ c = 0)
    (h63 : m + n ≤ 4398046511104) (hbase : base ≤ w.heap.size)
    (h : ∀ v' w', w'.ownsRow base 27 3 v' (m + n) (xs ++ l.flatMap encL) → w.grownBy w' v.ownBlock → wpList Tryz.prog ops Q rest (a.put o.dst v') w') : wpList Tryz.prog ops Q (o :: rest) a w := by
  obtain ⟨i0, hi, hz0, hz1, hz2⟩ := info_parts info27
  cases A with
  | none =>
    obtain ⟨rfl, rfl⟩ := hA rfl
    obtain rfl : l = [] := List.eq_nil_of_length_eq_zero hS.len
    exact wpList_append_own_none hgd s x 22 ho base 27 i0 3 Tryz.underlying22 hi v m xs hs hown hx (h v w (by simpa using hown) ⟨rfl, rfl, rfl, Nat.le_refl _, fun _ _ _ => rfl⟩)
  | some ad =>
    have hl : (l.flatMap encL).length = n * 3 := by rw [flat_length, hS.len]
    refine wpList_append_own w hgd s x 22 ho base 27 i0 (.agg #[.int .i64 0, .int .i64 0, .string ⟨#[]⟩]) 3 32 Tryz.underlying22 hi hz0 hz1 hz2 rfl (by decide) v m xs hs hown ad n c (l.flatMap encL) hx hl ?_ (flat_one l) (by unfold maxLen; omega) (by omega) hbase fun v' w' h1 h2 _ => h v' w' h1 h2
    intro j u hu
    by_cases hn : 0 < n
    · obtain ⟨b, off, e, _, _⟩ := hS.at_ hn
      cases e
      exact hS.cells j u hu
    · obtain rfl : l = [] := List.eq_nil_of_length_eq_zero (by have := hS.len; omega)
      simp at hu
theorem BW.perm {w0 w : World} {l l' : List (Nat × V)} (h : BW w0 w l) (hs : ∀ p ∈ l', p ∈ l) : BW w0 w l' := ⟨fun p hp => h.all p (hs p hp), h.env, h.b⟩
set_option maxRecDepth 100000 in
set_option maxHeartbeats 16000000 in
theorem law_in (a : V) (A : Option Addr) (n cp : Nat) (l : List V) (c : V) (w : World) (hE : Env w) (ta : a.t.length ≤ 140737488355328) (hS : Sl w A n l) (hA : A = none → n = 0 ∧ cp = 0) (h63 : n ≤ 4398046510976) (tl : ∀ v ∈ l, v.t.length ≤ 140737488355328) (tc : c.t.length ≤ 140737488355328) :
    Calls Tryz.prog 5 #[(.agg #[.int .i64 (a).k, .int .i64 (a).n, .string ⟨List.toArray (a).t⟩]), .slice A n cp, (.agg #[.int .i64 (c).k, .int .i64 (c).n, .string ⟨List.toArray (c).t⟩])] w fun e w' => e = .returned (.bool true) ∧ Below w.heap.size w w' := by
  have N0 := Lib.hid (((BW.start hE).push a (g := w.heap.size) rfl).push c (g := w.heap.size + 1) (by simp))
  have HE := Lib.hid hE
  have HS := Lib.hid hS
  have TL := Lib.hid tl
  have hlen := hS.len
  clear hE hS tl
  go_enter Tryz.func5, Tryz.ntmps5
  have HSa := Lib.hid (((HS.out.alloc (.cells (cellsV a) 27)).alloc (.cells (cellsV c) 27)).alloc (.cells (row2 a c).toArray 27))
  have hown0 := own_two a c ((w.alloc (.cells (cellsV a) 27)).alloc (.cells (cellsV c) 27)) w.heap.size (w.heap.size + 1 + 1) (by simp) (by omega)
  have HO0 := Lib.hid hown0
  clear hown0
  go_wp2_with (at_builtin; refine wpList_append_l rfl _ _ rfl w.heap.size _ 2 (row2 a c) rfl HO0.out A n cp l rfl HSa.out hA (by omega) (by simp; omega) ?_)
  intro v1 w1 hown hgrow
  have HG := Lib.hid (BW.grown (g := w.heap.size + 1 + 1) HE.out (N0.out.alloc (.cells (row2 a c).toArray 27)) hgrow (by intro p hp; simp only [List.mem_cons, List.not_mem_nil, or_false] at hp; rcases hp with rfl | rfl <;> simp <;> omega) (by omega))
  have hT : w1.ownsRow w.heap.size 27 3 v1 (2 + n) ((a :: c :: l).flatMap encL) := hown
  obtain ⟨A1, c1, rfl, S1⟩ := sl_of_owns hT (by omega)
  have HS1 := Lib.hid S1
  clear hT S1 hown hgrow HO0 HSa N0
  obtain ⟨⟨f0a, f0b, f0c⟩, f0z⟩ := HG.out.at_ (List.Mem.head _)
  obtain ⟨⟨f1a, f1b, f1c⟩, f1z⟩ := HG.out.at_ (List.Mem.tail _ (List.Mem.head _))
  have T1 : Hid (∀ v ∈ a :: c :: l, v.t.length ≤ 140737488355328) := Lib.hid fun v hv => by
    simp only [List.mem_cons] at hv
    rcases hv with rfl | rfl | hv
    · exact ta
    · exact tc
    · exact TL.out v hv
  go_wp2_with fail
  refine (few_any A1 (2 + n) c1 (a :: c :: l) _ HS1.out T1.out).mono ?_; rintro e w1 ⟨q, rfl, hb1, -⟩
  have N1 := Lib.hid (HG.out.later hb1)
  clear f0a f0b f0c f0z f1a f1b f1c f1z
  clear hb1 HG
  obtain ⟨⟨f0a, f0b, f0c⟩, f0z⟩ := N1.out.at_ (List.Mem.head _)
  obtain ⟨⟨f1a, f1b, f1c⟩, f1z⟩ := N1.out.at_ (List.Mem.tail _ (List.Mem.head _))
  clear HS1 T1
  cases q with
  | false =>
    go_wp2_with fail
    refine (awake_any _ N1.out.env).mono ?_; rintro e w2 ⟨rfl, hb2⟩
    have N2 := Lib.hid (N1.out.later hb2)
    clear f0a f0b f0c f0z f1a f1b f1c f1z
    clear hb2 N1
    obtain ⟨⟨f0a, f0b, f0c⟩, f0z⟩ := N2.out.at_ (List.Mem.head _)
    obtain ⟨⟨f1a, f1b, f1c⟩, f1z⟩ := N2.out.at_ (List.Mem.tail _ (List.Mem.head _))
    go_wp2_with fail
    go_ret
    exact ⟨rfl, N2.out.b⟩
  | true =>
    obtain ⟨x, e, h1⟩ : ∃ x e, vIn a l = (x, e) := ⟨_, _, rfl⟩
    have H1 := Lib.hid h1
    rw [in_eq] at h1
    have H2 := Lib.hid h1
    clear h1
    go_wp2_with fail
    refine (kin H1.out _ N1.out.env (HS.out.later N1.out.b)).mono ?_; rintro e w3 ⟨rfl, hb3⟩
    have N3 := Lib.hid (N1.out.later hb3)
    clear f0a f0b f0c f0z f1a f1b f1c f1z
    clear hb3 N1
    obtain ⟨⟨f0a, f0b, f0c⟩, f0z⟩ := N3.out.at_ (List.Mem.head _)
    obtain ⟨⟨f1a, f1b, f1c⟩, f1z⟩ := N3.out.at_ (List.Mem.tail _ (List.Mem.head _))
    have Zw3 : w.heap.size + 1 < w3.heap.size := f0z
    go_wp2_with fail
    refine (krin H2.out _ (N3.out.push x (by first | rfl | simp)).env (HS.out.later (N3.out.push x (by first | rfl | simp)).b) ta TL.out).mono ?_; rintro e w4 ⟨rfl, hb4⟩
    have N4 := Lib.hid ((N3.out.push x (by first | rfl | simp)).later hb4)
    clear f0a f0b f0c f0z f1a f1b f1c f1z
    clear hb4 N3
    obtain ⟨⟨f0a, f0b, f0c⟩, f0z⟩ := N4.out.at_ (List.Mem.head _)
    obtain ⟨⟨f1a, f1b, f1c⟩, f1z⟩ := N4.out.at_ (List.Mem.tail _ (List.Mem.head _))
    obtain ⟨⟨f2a, f2b, f2c⟩, f2z⟩ := N4.out.at_ (List.Mem.tail _ (List.Mem.tail _ (List.Mem.head _)))
    go_wp2_with fail
    have zgy : w3.heap.size < w4.heap.size := f0z
    have zgx : w.heap.size + 1 < w3.heap.size := Zw3
    have P0 := Lib.hid (N4.out.push x (g := w4.heap.size) rfl)
    clear f0z f0a f0b f0c f1z f1a f1b f1c f2z f2a f2b f2c
    go_loopw [47] (fun q wr => ∃ (j : Nat) (x y : V), j ≤ n ∧ q = .int .i64 j ∧ Hid (BW w wr [(w4.heap.size, y), (w3.heap.size, x), (w.heap.size + 1, c), (w.heap.size, a)])) (fun q wr => n - (intOf q).toNat)
    case atStart => exact ⟨0, x, x, Nat.zero_le _, rfl, P0⟩
    case round =>
      clear H1 H2 P0
      obtain ⟨j, x, y, hj, rfl, PL⟩ := hrel
      by_cases hlt : j < n
      case neg =>
        obtain rfl : j = n := by omega
        go_wp2_with fail
        refine (awake_any _ PL.out.env).mono ?_; rintro e w9 ⟨rfl, hb9⟩
        have N9 := Lib.hid (PL.out.later hb9)
        go_wp2_with fail
        go_ret
        exact ⟨rfl, N9.out.b⟩
      have hnn : 0 < n := by omega
      obtain ⟨b, off, rfl, hbl, hc⟩ := (HS.out.later PL.out.b).at_ hnn
      have hl : j < l.length := by omega
      obtain ⟨c0, c1, c2⟩ := hc j hl
      clear hc
      have tv := TL.out _ (List.getElem_mem hl)
      generalize l[j] = v at c0 c1 c2 tv
      have zgb : w4.heap.size < wr.heap.size := (PL.out.at_ (List.Mem.head _)).2
      obtain ⟨x1, e1, h1⟩ : ∃ x e, vBetween a v c = (x, e) := ⟨_, _, rfl⟩
      obtain ⟨n1, g1, h3⟩ : ∃ x e, vOrder a v = (x, e) := ⟨_, _, rfl⟩
      have H1 := Lib.hid h1
      have H3 := Lib.hid h3
      rw [between_eq _ _ _ trivial] at h1
      rw [order_eq] at h3
      have H2 := Lib.hid h1
      have H4 := Lib.hid h3
      clear h1 h3
      obtain ⟨⟨f0a, f0b, f0c⟩, f0z⟩ := PL.out.at_ (List.Mem.head _)
      obtain ⟨⟨f1a, f1b, f1c⟩, f1z⟩ := PL.out.at_ (List.Mem.tail _ (List.Mem.head _))
      obtain ⟨⟨f2a, f2b, f2c⟩, f2z⟩ := PL.out.at_ (List.Mem.tail _ (List.Mem.tail _ (List.Mem.head _)))
      obtain ⟨⟨f3a, f3b, f3c⟩, f3z⟩ := PL.out.at_ (List.Mem.tail _ (List.Mem.tail _ (List.Mem.tail _ (List.Mem.head _))))
      go_wp2_with fail
      refine (kbet H1.out _ (PL.out.push v (by first | rfl | simp)).env).mono ?_; rintro e w5 ⟨rfl, hb5⟩
      have N5 := Lib.hid ((PL.out.push v (by first | rfl | simp)).later hb5)
      clear hb5 c0 c1 c2 hbl PL
      clear f0a f0b f0c f0z f1a f1b f1c f1z f2a f2b f2c f2z f3a f3b f3c f3z
      obtain ⟨⟨f0a, f0b, f0c⟩, f0z⟩ := N5.out.at_ (List.Mem.head _)
      obtain ⟨⟨f1a, f1b, f1c⟩, f1z⟩ := N5.out.at_ (List.Mem.tail _ (List.Mem.head _))
      obtain ⟨⟨f2a, f2b, f2c⟩, f2z⟩ := N5.out.at_ (List.Mem.tail _ (List.Mem.tail _ (List.Mem.head _)))
      obtain ⟨⟨f3a, f3b, f3c⟩, f3z⟩ := N5.out.at_ (List.Mem.tail _ (List.Mem.tail _ (List.Mem.tail _ (List.Mem.head _))))
      obtain ⟨⟨f4a, f4b, f4c⟩, f4z⟩ := N5.out.at_ (List.Mem.tail _ (List.Mem.tail _ (List.Mem.tail _ (List.Mem.tail _ (List.Mem.head _)))))
      have frx : ∀ i, w5.frozen? ⟨w3.heap.size, i, none⟩ = false := fun i => blk_frozen (N5.out.all _ (List.Mem.tail _ (List.Mem.tail _ (List.Mem.head _)))) i
      have P5 := Lib.hid (BW.put HE.out (N5.out.perm (l' := [(w3.heap.size, x), (wr.heap.size, v), (w4.heap.size, y), (w.heap.size + 1, c), (w.heap.size, a)]) (by intro p hp; simp only [List.mem_cons, List.not_mem_nil, or_false] at hp ⊢; rcases hp with rfl | rfl | rfl | rfl | rfl <;> simp)) (by intro p hp; simp only [List.mem_cons, List.not_mem_nil, or_false] at hp; rcases hp with rfl | rfl | rfl | rfl <;> (dsimp only; omega)) (by omega) x1)
      go_wp2_with fail
      refine (krbet H2.out _ P5.out.env ta tv tc).mono ?_; rintro e w6 ⟨rfl, hb6⟩
      have N6 := Lib.hid (P5.out.later hb6)
      clear hb6 N5 P5
      clear f0a f0b f0c f0z f1a f1b f1c f1z f2a f2b f2c f2z f3a f3b f3c f3z f4a f4b f4c f4z frx
      obtain ⟨⟨f0a, f0b, f0c⟩, f0z⟩ := N6.out.at_ (List.Mem.head _)
      obtain ⟨⟨f1a, f1b, f1c⟩, f1z⟩ := N6.out.at_ (List.Mem.tail _ (List.Mem.head _))
      obtain ⟨⟨f2a, f2b, f2c⟩, f2z⟩ := N6.out.at_ (List.Mem.tail _ (List.Mem.tail _ (List.Mem.head _)))
      obtain ⟨⟨f3a, f3b, f3c⟩, f3z⟩ := N6.out.at_ (List.Mem.tail _ (List.Mem.tail _ (List.Mem.tail _ (List.Mem.head _))))
      obtain ⟨⟨f4a, f4b, f4c⟩, f4z⟩ := N6.out.at_ (List.Mem.tail _ (List.Mem.tail _ (List.Mem.tail _ (List.Mem.tail _ (List.Mem.head _)))))
      have fry : ∀ i, w6.frozen? ⟨w4.heap.size, i, none⟩ = false := fun i => blk_frozen (N6.out.all _ (List.Mem.tail _ (List.Mem.tail _ (List.Mem.head _)))) i
      have P6 := Lib.hid (BW.put HE.out (N6.out.perm (l' := [(w4.heap.size, y), (w3.heap.size, x1), (wr.heap.size, v), (w.heap.size + 1, c), (w.heap.size, a)]) (by intro p hp; simp only [List.mem_cons, List.not_mem_nil, or_false] at hp ⊢; rcases hp with rfl | rfl | rfl | rfl | rfl <;> simp)) (by intro p hp; simp only [List.mem_cons, List.not_mem_nil, or_false] at hp; rcases hp with rfl | rfl | rfl | rfl <;> (dsimp only; omega)) (by omega) x1)
      go_wp2_with fail
      refine (kord H3.out _ P6.out.env).mono ?_; rintro e w7 ⟨rfl, hb7⟩
      have N7 := Lib.hid (P6.out.later hb7)
      clear hb7 N6 P6
      clear f0a f0b f0c f0z f1a f1b f1c f1z f2a f2b f2c f2z f3a f3b f3c f3z f4a f4b f4c f4z fry
      obtain ⟨⟨f0a, f0b, f0c⟩, f0z⟩ := N7.out.at_ (List.Mem.head _)
      obtain ⟨⟨f1a, f1b, f1c⟩, f1z⟩ := N7.out.at_ (List.Mem.tail _ (List.Mem.head _))
      obtain ⟨⟨f2a, f2b, f2c⟩, f2z⟩ := N7.out.at_ (List.Mem.tail _ (List.Mem.tail _ (List.Mem.head _)))
      obtain ⟨⟨f3a, f3b, f3c⟩, f3z⟩ := N7.out.at_ (List.Mem.tail _ (List.Mem.tail _ (List.Mem.tail _ (List.Mem.head _))))
      obtain ⟨⟨f4a, f4b, f4c⟩, f4z⟩ := N7.out.at_ (List.Mem.tail _ (List.Mem.tail _ (List.Mem.tail _ (List.Mem.tail _ (List.Mem.head _)))))
      go_wp2_with fail
      refine (krord H4.out _ ta tv).mono ?_; rintro e w8 ⟨rfl, hb8⟩
      have N8 := Lib.hid (N7.out.later hb8)
      clear hb8 N7
      clear f0a f0b f0c f0z f1a f1b f1c f1z f2a f2b f2c f2z f3a f3b f3c f3z f4a f4b f4c f4z
      obtain ⟨⟨f0a, f0b, f0c⟩, f0z⟩ := N8.out.at_ (List.Mem.head _)
      obtain ⟨⟨f1a, f1b, f1c⟩, f1z⟩ := N8.out.at_ (List.Mem.tail _ (List.Mem.head _))
      obtain ⟨⟨f2a, f2b, f2c⟩, f2z⟩ := N8.out.at_ (List.Mem.tail _ (List.Mem.tail _ (List.Mem.head _)))
      obtain ⟨⟨f3a, f3b, f3c⟩, f3z⟩ := N8.out.at_ (List.Mem.tail _ (List.Mem.tail _ (List.Mem.tail _ (List.Mem.head _))))
      obtain ⟨⟨f4a, f4b, f4c⟩, f4z⟩ := N8.out.at_ (List.Mem.tail _ (List.Mem.tail _ (List.Mem.tail _ (List.Mem.tail _ (List.Mem.head _)))))
      go_wp2_with fail
      exact ⟨⟨j + 1, x1, x1, by omega, by go_num, Lib.hid (N8.out.perm (by intro p hp; simp only [List.mem_cons, List.not_mem_nil, or_false] at hp ⊢; rcases hp with rfl | rfl | rfl | rfl <;> simp))⟩, by simp [intOf]; omega⟩
end Go.Proofs.YtpmfpfkahanlaaaGreatDoor

/- The statement ValueIn is proved: In, Between and Order return what the chapter says, or the error, for any values; for every input, under the row's own condition alone (the listed package-level variables hold what the program's text lays; the card ties them). -/
namespace Go.Proofs.YtpmfpfkahanlaaaGreatDoor
open Go.ChangeShapes Go.Joins Go.Deep Go.WideShapes Go.ChangeAt Go.RowKit
open Go.ChangeMaps (open_string shut_string)
set_option linter.unusedVariables false

theorem big_ok {H : Type} {enc : TypeId × Value → H} {W : World} {sp : Nat → Bool} {held : Bool} {A : Option Addr} {n c : Nat} {d : DataW H} {p : List MemPlace} {ts : List TypeId} {ds : List (DataW H)} {j : Nat} (hsz : (DataW.weightsEach Tryz.prog ts ds).all (· ≤ reachBytes) = true) (ht : ts[j]? = some 22) (hd : ds[j]? = some d)
    (h : DataW.Trod enc Tryz.prog W 0 sp held 22 (.slice A n c) d p) : n ≤ 4398046510976 ∧ (A = none → n = 0 ∧ c = 0) := by
  obtain ⟨fuel, hf⟩ := h
  have hB : Tryz.prog.bytesOf 27 = 32 := by kernel_rfl
  rcases open_slice Tryz.underlying22 hf with ⟨hcs, _⟩ | ⟨x, l, c', m, q, D, Pl, hcs, _, hl, hm, hmm, hx, _⟩
  · simp [Value.cells] at hcs
    obtain ⟨rfl, rfl, rfl⟩ := hcs
    exact ⟨by omega, fun _ => ⟨rfl, rfl⟩⟩
  · simp [Value.cells] at hcs
    obtain ⟨rfl, rfl, rfl⟩ := hcs
    obtain ⟨hx, _⟩ := Prod.mk.inj hx
    subst hx
    have hle : n ≤ m := by rw [hmm]; split <;> omega
    have z := sized_slice hsz ht hd Tryz.underlying22
    rw [hB, List.length_map, List.length_range] at z
    exact ⟨by unfold reachBytes at z; omega, fun h => by cases h⟩
set_option maxRecDepth 100000 in
set_option maxHeartbeats 4000000 in
theorem valueIn_lifted (os : Os) (started : os.Started) (H : Type) (enc : TypeId × Value → H) :
    ReturnsInHanded {} Tryz.checked os 5 .any (fun w args => (Rows.valueInSpec.pre enc Tryz.prog Tryz.f5 [] false w args ∧ laidMetH Tryz.prog laid w) ∧ sizedMet enc Tryz.prog Tryz.f5 (OpenSpec.ofChange Rows.valueInSpec) false w args)
      (Rows.valueInSpec.post enc Tryz.prog Tryz.f5 false true false false) := by
  refine returns_listed (C := Tryz.checked) (X := fun w _ => laidMetH Tryz.prog laid w) (fun _ _ _ hh h => h.of_heap hh) own started (by kernel_rfl) Tryz.func5
    (ChangeSpec.witness_shaped (enc := enc) (C := Tryz.checked) (os := os) (X := fun w _ => laidMetH Tryz.prog laid w) false (World.laidAll Tryz.prog os laid) #[.agg #[.int .i64 0, .int .i64 0, .string ByteArray.empty], .slice none 0 0, .agg #[.int .i64 0, .int .i64 0, .string ByteArray.empty]] 8 (World.laidAll_os _ _ _)
      (World.shaped_of_ZipB (by kernel_rfl) (by kernel_rfl)) (by kernel_rfl) (by kernel_rfl) (by kernel_rfl)
      (by rw [MakeChecks.laidMetH_plain _ _ _ (by kernel_rfl)]; exact laidMet_laidAll _ (by kernel_rfl) (by kernel_rfl))) ?_
  intro W base args ds gs before hval0 hW hcnd hsz0 hL hsh _
  have hsz : (DataW.weightsEach Tryz.prog (Tryz.f5.params.toList ++ Rows.valueInSpec.plain.varTypes Tryz.prog) (ds ++ gs)).all (· ≤ reachBytes) = true := hsz0
  have hval : ∀ (j : Nat) t v, Tryz.f5.params[j]? = some t → args[j]? = some v → Value.okWide Tryz.prog W .any base t v := hval0
  have hW' := hW
  obtain ⟨p, q, hA0, hV, rfl, hfz, hnd⟩ := hW
  have hA : DataW.TrodAll enc Tryz.prog W 0 (fun _ => true) true Tryz.f5.params.toList args.toList ds p := hA0
  rw [Tryz.params5] at hA hval hsz
  obtain ⟨v0, vs0, d0, ds0, p0, q0, hargs, rfl, rfl, h0, r0⟩ := trodAll_cons hA
  obtain ⟨v1, vs1, d1, ds1, p1, q1, rfl, rfl, rfl, h1, r1⟩ := trodAll_cons r0
  obtain ⟨v2, vs2, d2, ds2, p2, q2, rfl, rfl, rfl, h2, r2⟩ := trodAll_cons r1
  obtain ⟨rfl, rfl, rfl⟩ := trodAll_nil r2
  obtain rfl : args = #[v0, v1, v2] := by cases args; simp_all
  obtain ⟨rfl, rfl⟩ := trodVars_none hV
  have hEnv := env_of_laid hL hsh
  have k0 := h0
  have lt0 : ∀ x ∈ p0, x.block < W.heap.size := by obtain ⟨m, hm⟩ := k0; exact DataW.trod_lt m _ _ _ hm
  obtain ⟨x0, rfl, e0, _⟩ := open_value (hval 0 27 v0 rfl rfl) h0
  have T0 : x0.t.length ≤ 140737488351232 := sized_v hsz (j := 0) (x := x0) rfl (by rw [← e0]; rfl)
  have k1 := h1
  have lt1 : ∀ x ∈ p1, x.block < W.heap.size := by obtain ⟨m, hm⟩ := k1; exact DataW.trod_lt m _ _ _ hm
  obtain ⟨A1, n1, c1, l1, rfl, S1, T1⟩ := open_values hsz (j := 1) rfl rfl (hval 1 22 v1 rfl rfl) h1
  obtain ⟨B1, O1⟩ := big_ok hsz (j := 1) rfl rfl k1
  have k2 := h2
  have lt2 : ∀ x ∈ p2, x.block < W.heap.size := by obtain ⟨m, hm⟩ := k2; exact DataW.trod_lt m _ _ _ hm
  obtain ⟨x2, rfl, e2, _⟩ := open_value (hval 2 27 v2 rfl rfl) h2
  have T2 : x2.t.length ≤ 140737488351232 := sized_v hsz (j := 2) (x := x2) rfl (by rw [← e2]; rfl)
  clear hA0 hval0 hsz0 hsz
  refine (law_in x0 A1 n1 c1 l1 x2 W hEnv (Nat.le_trans T0 (by decide)) S1 O1 B1 (fun x hx => Nat.le_trans (T1 x hx) (by decide)) (Nat.le_trans T2 (by decide))).mono fun e W' ⟨he, bel⟩ => ?_
  subst he
  exact ⟨_, rfl, _, _, _, [], _, [], hW', trodAll_mk1 (shut_bool Tryz.underlying4 _), (trodAll_cons_mk (Below.trod laidOut (by kernel_rfl) (of_decide_eq_true (by kernel_rfl)) k0 bel lt0) (trodAll_cons_mk (Below.trod laidOut (by kernel_rfl) (of_decide_eq_true (by kernel_rfl)) k1 bel lt1) (trodAll_cons_mk (Below.trod laidOut (by kernel_rfl) (of_decide_eq_true (by kernel_rfl)) k2 bel lt2) trodAll_mk0))), rfl, bel.frame _, fun h => by cases h⟩
theorem valueIn_row : Rows.ValueInSaid :=
  OpenClaim.holds_of_wide 5 Tryz.f5 rfl rfl rfl rfl rfl rfl rfl ⟨rfl, rfl, rfl, rfl, rfl⟩ rfl rfl rfl rfl rfl (by kernel_rfl) Tryz.func5 (by kernel_rfl)
    (of_decide_eq_true (by kernel_rfl)) (by unfold Func.isWrapper; first | (rw [if_pos (by decide +kernel)]; kernel_rfl) | (rw [if_neg (by decide +kernel)]; exact ⟨rfl, rfl⟩))
    (fun os started H enc _ => valueIn_lifted os started H enc)
theorem valueIn_card : Rows.ValueInCardSaid :=
  Claim7.holds_tied_plain_at .later [] [.data, .data, .data, .data, .sentinel, .sentinel, .listed, .data, .data, .pinned, .pinned] true (true, "2df1776b52db89be618cb2cc9767f232203ddef2cbc80537f057adf05aab1a8a") true
    valueIn_row (fun _ h => by cases h) (by kernel_rfl) (fun _ h => by cases h) valueIn_row_tie rfl ⟨rfl, rfl⟩ (by kernel_rfl) rfl
    (fun f fn hf hfn => by
      obtain rfl : f = 5 := Option.some.inj ((show Tryz.prog.funcNamed "justiciar/justiciarlaw01.ValueIn" = some 5 by kernel_rfl).symm.trans hf) |>.symm
      obtain rfl : fn = Tryz.f5 := (Option.some.inj (Tryz.func5.symm.trans hfn)).symm
      exact ⟨by kernel_rfl, fun j t ht => by
        rw [Tryz.params5] at ht
        have hm : t ∈ [27, 22, 27] := by simpa using Array.mem_of_getElem? ht
        have hall : ([27, 22, 27].all fun u => !Tryz.prog.wantsStandIn u) = true := by kernel_rfl
        exact (show Tryz.prog.wantsStandIn t = false by simpa using List.all_eq_true.1 hall t hm)⟩)
    (by kernel_rfl)
#print axioms valueIn_card
end Go.Proofs.YtpmfpfkahanlaaaGreatDoor
