/- The statement ValueSums is proved: the laws of aggregates: no order of values counts, and two lists put together give that of both; for every input, under the row's own condition alone (the listed package-level variables hold what the program's text lays; the card ties them). -/
import Derived.Test.YtpmfpfkahanlaaaGreatDoorHW
import Derived.Test.YtpmfpfkahanlaaaGreatDoorHG
import Derived.Test.YtpmfpfkahanlaaaGreatDoorHF
import Derived.Test.YtpmfpfkahanlaaaGreatDoorHM
import Derived.Test.YtpmfpfkahanlaaaGreatDoorHB
import Derived.Test.YtpmfpfkahanlaaaGreatDoorHD
import Derived.Test.YtpmfpfkahanlaaaGreatDoorHE
import Derived.Deep.RegionLaw
import Derived.Test.YtpmfpfkahanlaaaGreatDoorHR
namespace Go.Proofs.YtpmfpfkahanlaaaGreatDoor
open Go.RowKit
set_option linter.unusedSimpArgs false
set_option linter.unusedVariables false
attribute [local go_sem] Later.cell Later.lt veq_self
attribute [local go_sem high] run_eqV run_neV
theorem flat_cells (w : World) (b : Nat) : ∀ (l : List V) (off : Nat), (∀ j (h : j < l.length), w.cell? ⟨b, off + j * 3, none⟩ = some (.int .i64 l[j].k) ∧ w.cell? ⟨b, off + j * 3 + 1, none⟩ = some (.int .i64 l[j].n) ∧ w.cell? ⟨b, off + j * 3 + 2, none⟩ = some (.string ⟨l[j].t.toArray⟩)) →
    ∀ j u, (l.flatMap encL)[j]? = some u → w.cell? ⟨b, off + j, none⟩ = some u
  | [], _, _, j, u, h => by simp at h
  | x :: r, off, hc, j, u, h => by
    obtain ⟨c0, c1, c2⟩ := hc 0 (by simp)
    have ih := flat_cells w b r (off + 3) (fun j hj => by
      obtain ⟨d0, d1, d2⟩ := hc (j + 1) (by simp; omega)
      simp only [List.getElem_cons_succ] at d0 d1 d2
      rw [show off + 3 + j * 3 = off + (j + 1) * 3 by omega]
      exact ⟨d0, d1, d2⟩)
    match j, h with
    | 0, h => simp only [List.flatMap_cons, encL, List.cons_append, List.getElem?_cons_zero, Option.some.injEq] at h; rw [← h]; simpa using c0
    | 1, h => simp only [List.flatMap_cons, encL, List.cons_append, List.getElem?_cons_succ, List.getElem?_cons_zero, Option.some.injEq] at h; rw [← h]; simpa using c1
    | 2, h => simp only [List.flatMap_cons, encL, List.cons_append, List.getElem?_cons_succ, List.getElem?_cons_zero, Option.some.injEq] at h; rw [← h]; simpa using c2
    | j + 3, h =>
      simp only [List.flatMap_cons, encL, List.cons_append, List.nil_append, List.getElem?_cons_succ] at h
      rw [show off + (j + 3) = off + 3 + j by omega]
      exact ih j u h
theorem flat_one (l : List V) : ∀ u ∈ l.flatMap encL, u.oneCell' = true := by
  intro u hu
  simp only [List.mem_flatMap, encL, List.mem_cons, List.not_mem_nil, or_false] at hu
  obtain ⟨x, _, rfl | rfl | rfl⟩ := hu <;> rfl
theorem Sl.take {w : World} {b off n : Nat} {l : List V} (h : Sl w (some ⟨b, off, none⟩) n l) {k : Nat} (hk : k ≤ n) : Sl w (some ⟨b, off, none⟩) k (l.take k) := by
  refine ⟨by rw [List.length_take, h.len]; omega, by have := h.big; omega, fun h0 => ?_⟩
  obtain ⟨b', off', e, hb, hc⟩ := h.at_ (by omega)
  cases e
  refine ⟨b, off, rfl, hb, fun j hj => ?_⟩
  rw [List.length_take, h.len] at hj
  simpa using hc j (by rw [h.len]; omega)
theorem Sl.drop {w : World} {b off n : Nat} {l : List V} (h : Sl w (some ⟨b, off, none⟩) n l) {k : Nat} (hk : k ≤ n) : Sl w (some ⟨b, off + k * 3, none⟩) (n - k) (l.drop k) := by
  refine ⟨by rw [List.length_drop, h.len], by have := h.big; omega, fun h0 => ?_⟩
  obtain ⟨b', off', e, hb, hc⟩ := h.at_ (by omega)
  cases e
  refine ⟨b, off + k * 3, rfl, hb, fun j hj => ?_⟩
  rw [List.length_drop, h.len] at hj
  have := hc (k + j) (by rw [h.len]; omega)
  rw [show off + (k + j) * 3 = off + k * 3 + j * 3 by omega] at this
  simpa using this
theorem Sl.cells {w : World} {b off n : Nat} {l : List V} (h : Sl w (some ⟨b, off, none⟩) n l) : ∀ j u, (l.flatMap encL)[j]? = some u → w.cell? ((⟨b, off, none⟩ : Addr).add j) = some u := by
  intro j u hu
  by_cases h0 : 0 < n
  case neg =>
    have : l = [] := List.eq_nil_of_length_eq_zero (by have := h.len; omega)
    subst this
    simp at hu
  obtain ⟨b', off', e, hb, hc⟩ := h.at_ h0
  cases e
  have h := flat_cells w b l off hc j u hu
  by_cases hj : j = 0
  · subst hj; rw [show (⟨b, off, none⟩ : Addr).add 0 = ⟨b, off, none⟩ from by simp [Addr.add]]; simpa using h
  · simpa [Addr.add, hj] using h
theorem step_append_own {P : Program} {ops : Array Oper} {o : Oper} {a : Act} {w : World} {K : Act → World → Prop} {Q : Exit → Act → World → Prop} {E : Prop} (hgd : o.guard = none) (s x : Operand) (t : TypeId)
    (ho : o.op = .call { callee := .builtin .append, args := #[s, x], argTypes := #[t, t] })
    (base : Nat) (e : TypeId) (i : TypeInfo) (z : Value) (size bytes : Nat) (ht : P.underlying t = some (.slice e)) (hi : P.info? e = some i) (hz : i.zero = some z)
    (hsize : i.size = size) (hby : i.bytes = bytes) (hzs : z.cells.size = size) (hsz : 0 < size)
    (v : Value) (n : Nat) (xs : List Value) (hs : a.eval s = v) (hown : w.ownsRow base e size v n xs)
    (ad : Addr) (m c : Nat) (news : List Value) (hx : a.eval x = .slice (some ad) m c) (hl : news.length = m * size) (hnews : ∀ j u, news[j]? = some u → w.cell? (ad.add j) = some u) (h1 : ∀ u ∈ news, u.oneCell' = true)
    (h63 : n + m ≤ maxLen) (hbytes : (n + m) * bytes ≤ 140737488355328) (hbase : base ≤ w.heap.size)
    (h : ∀ v' w', w'.ownsRow base e size v' (n + m) (xs ++ news) → w.grownBy w' v.ownBlock → K (a.put o.dst v') w') :
    if Region.wanted o (yielded ops a.tmps) = true then Oper.wp P o a w K Q else E := by
  rw [if_pos (by simp [Region.wanted, hgd])]
  exact wp_append_own w s x t ho base e i z size bytes ht hi hz hsize hby hzs hsz v n xs hs hown ad m c news hx hl hnews h1 h63 hbytes hbase fun v' w' h2 h3 _ => h v' w' h2 h3
theorem own_new {w : World} {B : Nat} (h : B = w.heap.size) : (w.alloc (.cells #[] 27)).drew.ownsRow B 27 3 (.slice (some ⟨B, 0, none⟩) 0 0) 0 [] := by
  subst h
  exact ⟨rfl, .inr ⟨_, 0, #[], rfl, Nat.le_refl _, by show (w.heap.push _)[w.heap.size]? = _; simp, Nat.le_refl _, by decide, rfl, rfl⟩⟩
theorem sv_short {v : V} (h : sValid v = true) : v.t.length ≤ 200 := by
  rcases sv_cases h with rfl | ⟨n, rfl, _⟩ | ⟨t, rfl, h⟩ | ⟨x, rfl⟩
  · simp [vN]
  · simp [vI]
  · exact (sValid_str (a := vS t) (by assumption) rfl).1
  · simp [vB]
/-- Two slices and values in blocks of the call's own. -/
structure QS (w0 w : World) (lst : List (Nat × V)) (b off n : Nat) (l : List V) (A2 : Option Addr) (l2 : List V) : Prop where
  bw : BW w0 w lst
  s1 : Sl w (some ⟨b, off, none⟩) n l
  s2 : Sl w A2 n l2
structure QW (w0 w : World) (lst : List (Nat × V)) (b off n : Nat) (l : List V) (A2 : Option Addr) (l2 : List V) (g : Nat) (t : TypeId) (cs : Array Value) : Prop where
  bw : BW w0 w lst
  s1 : Sl w (some ⟨b, off, none⟩) n l
  s2 : Sl w A2 n l2
  bk : Blk w g t cs
section
variable {w0 w w' : World} {lst : List (Nat × V)} {b off n : Nat} {l : List V} {A2 : Option Addr} {l2 : List V} {g : Nat} {t : TypeId} {cs : Array Value}
theorem QW.later (h : QW w0 w lst b off n l A2 l2 g t cs) (hb : Below w.heap.size w w') : QW w0 w' lst b off n l A2 l2 g t cs := ⟨h.bw.later hb, h.s1.later hb, h.s2.later hb, blk_later h.bk hb⟩
theorem QW.alloc (h : QW w0 w lst b off n l A2 l2 g t cs) (o : Obj) : QW w0 (w.alloc o) lst b off n l A2 l2 g t cs := ⟨h.bw.alloc o, h.s1.alloc o, h.s2.alloc o, blk_alloc h.bk o⟩
theorem QW.push (h : QW w0 w lst b off n l A2 l2 g t cs) (v : V) {k : Nat} (hk : k = w.heap.size) : QW w0 (w.alloc (.cells (cellsV v) 27)) ((k, v) :: lst) b off n l A2 l2 g t cs := ⟨h.bw.push v hk, h.s1.alloc _, h.s2.alloc _, blk_alloc h.bk _⟩
theorem QW.at_ (h : QW w0 w lst b off n l A2 l2 g t cs) {k : Nat} {v : V} (hm : (k, v) ∈ lst) : (w.cell? ⟨k, 0, none⟩ = some (.int .i64 v.k) ∧ w.cell? ⟨k, 1, none⟩ = some (.int .i64 v.n) ∧ w.cell? ⟨k, 2, none⟩ = some (.string ⟨v.t.toArray⟩)) ∧ k < w.heap.size := h.bw.at_ hm
theorem QW.env (h : QW w0 w lst b off n l A2 l2 g t cs) : Env w := h.bw.env
end
theorem QW.b {w0 w : World} {lst : List (Nat × V)} {b off n : Nat} {l : List V} {A2 : Option Addr} {l2 : List V} {g : Nat} {t : TypeId} {cs : Array Value} (h : QW w0 w lst b off n l A2 l2 g t cs) : Below w0.heap.size w0 w := h.bw.b
theorem QW.drop {w0 w : World} {x : Nat × V} {lst : List (Nat × V)} {b off n : Nat} {l : List V} {A2 : Option Addr} {l2 : List V} {g : Nat} {t : TypeId} {cs : Array Value} (h : QW w0 w (x :: lst) b off n l A2 l2 g t cs) : QW w0 w lst b off n l A2 l2 g t cs := ⟨h.bw.drop, h.s1, h.s2, h.bk⟩
theorem kagg {op : List UInt8} {A : Option Addr} {n c : Nat} {l : List V} {r : V} {x : Int} (h : vAgg op l = (r, x)) (w : World) (hE : Env w) (hS : Sl w A n l) :
    Calls Tryz.prog 37 #[.string ⟨op.toArray⟩, .slice A n c] w fun e w' => e = .returned (.tuple #[(.agg #[.int .i64 (r).k, .int .i64 (r).n, .string ⟨List.toArray (r).t⟩]), .int .i64 x]) ∧ Below w.heap.size w w' := by
  have := agg_any op A n c l w hE hS
  rw [h] at this
  exact this
theorem k2call {op : List UInt8} {a b r : V} {x : Int} (h : vCall op [a, b] = (r, x)) (w : World) (hE : Env (w.alloc (.cells #[.int .i64 a.k, .int .i64 a.n, .string ⟨a.t.toArray⟩, .int .i64 b.k, .int .i64 b.n, .string ⟨b.t.toArray⟩] 27))) (g : Nat) (hg : g = w.heap.size) :
    Calls Tryz.prog 35 #[.string ⟨op.toArray⟩, .slice (some ⟨g, 0, none⟩) 2 2] (w.alloc (.cells #[.int .i64 a.k, .int .i64 a.n, .string ⟨a.t.toArray⟩, .int .i64 b.k, .int .i64 b.n, .string ⟨b.t.toArray⟩] 27)) fun e w' => e = .returned (.tuple #[(.agg #[.int .i64 (r).k, .int .i64 (r).n, .string ⟨List.toArray (r).t⟩]), .int .i64 x]) ∧ Below (w.alloc (.cells #[.int .i64 a.k, .int .i64 a.n, .string ⟨a.t.toArray⟩, .int .i64 b.k, .int .i64 b.n, .string ⟨b.t.toArray⟩] 27)).heap.size (w.alloc (.cells #[.int .i64 a.k, .int .i64 a.n, .string ⟨a.t.toArray⟩, .int .i64 b.k, .int .i64 b.n, .string ⟨b.t.toArray⟩] 27)) w' := by
  subst hg
  have := call_any op _ 2 2 [a, b] _ hE (sl_new w [a, b] 27 (by simp))
  rw [h] at this
  exact this
theorem kboth {op : List UInt8} (h : op ∈ aggL) (w : World) :
    Calls Tryz.prog 52 #[.string ⟨op.toArray⟩] w fun e w' => e = .returned (.string ⟨(bothOp op).toArray⟩) ∧ Below w.heap.size w w' := by
  simp only [aggL, List.mem_cons, List.not_mem_nil, or_false] at h
  rcases h with rfl | rfl | rfl | rfl
  all_goals
    go_enter Tryz.func52, Tryz.ntmps52
    go_wp2
    go_ret
    exact ⟨rfl, Below.refl _ _⟩
theorem strs_cell {w : World} {g : Nat} {l : List (List UInt8)} (h : Blk w g 9 (l.map fun x => Value.string ⟨x.toArray⟩).toArray) (j : Nat) (hj : j < l.length) : w.cell? ⟨g, j, none⟩ = some (.string ⟨l[j].toArray⟩) := by
  rw [blk_cell h j]
  simp [List.getElem?_eq_getElem hj]
set_option maxRecDepth 100000 in
set_option maxHeartbeats 16000000 in
theorem law_sums0 (A : Option Addr) (n c : Nat) (l : List V) (cut : Int) (w : World) (hE : Env w) (hS : Sl w A n l) (hnc : n ≤ c) (h0 : 0 ≤ cut) (h1 : cut < 65536) (ht : ∀ v ∈ l, v.t.length ≤ 140737488355328) :
    Calls Tryz.prog 11 #[.slice A n c, .int .u16 cut] w fun e w' => e = .returned (.bool true) ∧ Below w.heap.size w w' := by
  have N0 := Lib.hid (And.intro (BW.start hE) hS)
  have HT := Lib.hid ht
  clear hE hS ht
  go_enter Tryz.func11, Tryz.ntmps11
  go_wp2_with fail
  refine (few_any A n c l _ N0.out.2 HT.out).mono ?_; rintro e w1 ⟨q, rfl, hb1, hf⟩
  have HF := Lib.hid hf
  have N1 := Lib.hid (And.intro (N0.out.1.later hb1) (N0.out.2.later hb1))
  clear hf hb1 N0
  cases q with
  | false =>
    go_wp2_with fail
    refine (awake_any _ N1.out.1.env).mono ?_; rintro e w2 ⟨rfl, hb2⟩
    have N2 := Lib.hid (N1.out.1.later hb2)
    go_wp2_with fail
    go_ret
    exact ⟨rfl, N2.out.b⟩
  | true =>
    go_wp2_with fail
    refine (rAll_any A n c l _ N1.out.2 HT.out).mono ?_; rintro e w2 ⟨rfl, hb2⟩
    have N2 := Lib.hid (And.intro (N1.out.1.later hb2) (N1.out.2.later hb2))
    clear hb2 N1
    cases hv : l.all sValid with
    | false =>
      go_wp2_with fail
      refine (awake_any _ N2.out.1.env).mono ?_; rintro e w3 ⟨rfl, hb3⟩
      have N3 := Lib.hid (N2.out.1.later hb3)
      go_wp2_with fail
      go_ret
      exact ⟨rfl, N3.out.b⟩
    | true =>
      have HV := Lib.hid hv
      clear hv
      by_cases hn : n = 0
      · subst hn
        go_wp2_with fail
        refine (awake_any _ N2.out.1.env).mono ?_; rintro e w3 ⟨rfl, hb3⟩
        have N3 := Lib.hid (N2.out.1.later hb3)
        go_wp2_with fail
        go_ret
        exact ⟨rfl, N3.out.b⟩
      · have hn1 : ((n : Int) == 0) = false := by simp; omega
        have hpos : 0 < n := by omega
        obtain ⟨b, off, rfl, hbl, hc⟩ := N2.out.2.at_ hpos
        have h600 : n ≤ 600 := by
          exact HF.out trivial fun v hv => sv_short (List.all_eq_true.1 HV.out v hv)
        clear hc
        go_upto_region 4 with fail
        obtain ⟨k, hk, hkn⟩ : ∃ k : Nat, cut % (n : Int) = (k : Int) ∧ k < n := by
          have z1 := Int.emod_nonneg cut (show (n : Int) ≠ 0 by omega)
          have z2 := Int.emod_lt_of_pos cut (show (0 : Int) < n by omega)
          exact ⟨(cut % (n : Int)).toNat, by omega, by omega⟩
        rw [hk]
        clear hk h0 h1 hn hn1
        have kc : k ≤ c := by omega
        have i1 : (0 : Int) ≤ (k : Int) := by omega
        have i2 : (k : Int) ≤ (n : Int) := by omega
        have i3 : (k : Int) ≤ (c : Int) := by omega
        have hck : c ≠ k := by omega
        obtain ⟨i0, hi, hz0, hz1, hz2⟩ := info_parts info27
        have hB0 : Below w2.heap.size w2 (w2.alloc (.cells #[] 27)).drew := ((Below.refl _ _).alloc (Nat.le_refl _) _).drew
        have S1 := Lib.hid ((N2.out.2.later hB0).drop (Nat.le_of_lt hkn))
        have HB0 := Lib.hid hB0
        clear hB0
        have l1 : ((l.drop k).flatMap encL).length = (n - k) * 3 := by rw [flat_length, S1.out.len]
        have l2 : ((l.take k).flatMap encL).length = k * 3 := by rw [flat_length, (N2.out.2.take (Nat.le_of_lt hkn)).len]
        have z0 : w2.heap.size ≤ (w2.alloc (.cells #[] 27)).drew.heap.size := HB0.out.size
        have m1 : 0 + (n - k) ≤ maxLen := by unfold maxLen; omega
        have m2 : 0 + (n - k) + k ≤ maxLen := by unfold maxLen; omega
        go_region_law (first
          | (refine step_append_own rfl (.tmp 39) (.tmp 42) 22 rfl w2.heap.size 27 i0 (.agg #[.int .i64 0, .int .i64 0, .string ⟨#[]⟩]) 3 32 Tryz.underlying22 hi hz0 hz1 hz2 rfl (by decide) (.slice (some ⟨w2.heap.size, 0, none⟩) 0 0) 0 [] rfl (own_new rfl) ⟨b, off + k * 3, none⟩ (n - k) (c - k) ((l.drop k).flatMap encL) rfl l1 S1.out.cells (flat_one _) m1 (by omega) z0 ?_; intro v3 w3 hown hgrow; have HO := Lib.hid hown; have HB := Lib.hid (HB0.out.grown hgrow z0 (fun k hk => own_block (own_new rfl) k hk)); clear hown hgrow)
          | (have S2 := Lib.hid ((N2.out.2.later HB.out).take (Nat.le_of_lt hkn)); refine step_append_own rfl (.tmp 43) (.tmp 46) 22 rfl w2.heap.size 27 i0 (.agg #[.int .i64 0, .int .i64 0, .string ⟨#[]⟩]) 3 32 Tryz.underlying22 hi hz0 hz1 hz2 rfl (by decide) v3 (0 + (n - k)) _ rfl HO.out ⟨b, off, none⟩ k c ((l.take k).flatMap encL) rfl l2 S2.out.cells (flat_one _) m2 (by omega) (HB.out.size) ?_; intro v4 w4 hown hgrow; have HO2 := Lib.hid hown; have HB2 := Lib.hid (HB.out.grown hgrow HB.out.size (fun k hk => own_block HO.out k hk)); clear hown hgrow))
        have hT := HO2.out
        rw [show 0 + (n - k) + k = n by omega, List.nil_append, ← List.flatMap_append] at hT
        obtain ⟨A2, c2, rfl, S3⟩ := sl_of_owns hT (by omega)
        have N3 : Hid (QS w w4 [] b off n l A2 (l.drop k ++ l.take k)) := Lib.hid ⟨N2.out.1.later HB2.out, N2.out.2.later HB2.out, S3⟩
        clear hT S3 HB2 HO2 HB HO S1 S2 HB0 l1 l2 z0 m1 m2 N2 hi hz0 hz1 hz2
        go_simp
        go_wp2_with fail
        go_loopw [50] (fun i wr => ∃ j : Nat, j ≤ 4 ∧ i = .int .i64 j ∧ Hid (QW w wr [] b off n l A2 (l.drop k ++ l.take k) w4.heap.size 9 (aggL.map fun x => Value.string ⟨x.toArray⟩).toArray)) (fun i wr => 4 - (intOf i).toNat)
        case atStart => exact ⟨0, by omega, rfl, Lib.hid ⟨N3.out.bw.alloc _, N3.out.s1.alloc _, N3.out.s2.alloc _, blk_new _ 9 _⟩⟩
        case round =>
          obtain ⟨j, hj, rfl, LA⟩ := hrel
          clear N3
          by_cases hlt : j < 4
          case neg =>
            obtain rfl : j = 4 := by omega
            go_wp2_with fail
            refine (awake_any _ LA.out.env).mono ?_; rintro e w11 ⟨rfl, hb11⟩
            have N11 := Lib.hid (LA.out.later hb11)
            clear hb11 LA
            go_wp2_with fail
            go_ret
            exact ⟨rfl, N11.out.b⟩
          have LR : Hid (QW wr wr [] b off n l A2 (l.drop k ++ l.take k) w4.heap.size 9 (aggL.map fun x => Value.string ⟨x.toArray⟩).toArray) := Lib.hid ⟨BW.start LA.out.env, LA.out.s1, LA.out.s2, LA.out.bk⟩
          have hl : j < aggL.length := hlt
          have cs := strs_cell LA.out.bk j hl
          have zs : w4.heap.size < wr.heap.size := blk_lt LA.out.bk
          have hop := List.getElem_mem hl
          generalize aggL[j] = op at cs hop
          obtain ⟨x, e, h1⟩ : ∃ x e, vAgg op l = (x, e) := ⟨_, _, rfl⟩
          obtain ⟨p, g, h2⟩ : ∃ x e, vAgg op (l.take k) = (x, e) := ⟨_, _, rfl⟩
          obtain ⟨q, h, h3⟩ : ∃ x e, vAgg op (l.drop k) = (x, e) := ⟨_, _, rfl⟩
          have hv1 : (l.take k).all sValid = true := List.all_eq_true.2 fun v hv => List.all_eq_true.1 HV.out v (List.mem_of_mem_take hv)
          have hv2 : (l.drop k).all sValid = true := List.all_eq_true.2 fun v hv => List.all_eq_true.1 HV.out v (List.mem_of_mem_drop hv)
          have h4 : vAgg op (l.drop k ++ l.take k) = (x, e) := by rw [agg_turn op _ _ hv2 hv1, List.take_append_drop]; exact h1
          have h5 : e = 0 → g = 0 → h = 0 → joined op p q = (x, 0) := fun e1 e2 e3 => by
            have := agg_both hop (l.take k) (l.drop k) hv1 hv2 (by rw [List.take_append_drop, h1]; exact e1) (by rw [h2]; exact e2) (by rw [h3]; exact e3)
            rwa [List.take_append_drop, h1, h2, h3] at this
          have HOP := Lib.hid hop
          have H1 := Lib.hid h1
          have H2 := Lib.hid h2
          have H3 := Lib.hid h3
          have H4 := Lib.hid h4
          have H5 := Lib.hid h5
          clear h1 h2 h3 h4 h5 hop hv1 hv2
          go_wp2_with fail
          refine (kagg H1.out _ LR.out.env LR.out.s1).mono ?_; rintro e w12 ⟨rfl, hb12⟩
          have N12 := Lib.hid (LR.out.later hb12)
          clear hb12 LR
          go_wp2_with fail
          refine (kagg H4.out _ (N12.out.push x (by first | rfl | simp)).env (N12.out.push x (by first | rfl | simp)).s2).mono ?_; rintro e w13 ⟨rfl, hb13⟩
          have N13 := Lib.hid ((N12.out.push x (by first | rfl | simp)).later hb13)
          clear hb13 N12
          obtain ⟨⟨f0a, f0b, f0c⟩, f0z⟩ := N13.out.at_ (List.Mem.head _)
          go_wp2_with fail
          refine (kagg H2.out _ (N13.out.push x (by first | rfl | simp)).env ((N13.out.push x (by first | rfl | simp)).s1.take (Nat.le_of_lt hkn))).mono ?_; rintro e w14 ⟨rfl, hb14⟩
          have N14 := Lib.hid ((N13.out.push x (by first | rfl | simp)).later hb14)
          clear f0a f0b f0c f0z
          clear hb14 N13
          obtain ⟨⟨f0a, f0b, f0c⟩, f0z⟩ := N14.out.at_ (List.Mem.head _)
          obtain ⟨⟨f1a, f1b, f1c⟩, f1z⟩ := N14.out.at_ (List.Mem.tail _ (List.Mem.head _))
          go_wp2_with fail
          refine (kagg H3.out _ (N14.out.push p (by first | rfl | simp)).env ((N14.out.push p (by first | rfl | simp)).s1.drop (Nat.le_of_lt hkn))).mono ?_; rintro e w15 ⟨rfl, hb15⟩
          have N15 := Lib.hid ((N14.out.push p (by first | rfl | simp)).later hb15)
          clear f0a f0b f0c f0z f1a f1b f1c f1z
          clear hb15 N14
          obtain ⟨⟨f0a, f0b, f0c⟩, f0z⟩ := N15.out.at_ (List.Mem.head _)
          obtain ⟨⟨f1a, f1b, f1c⟩, f1z⟩ := N15.out.at_ (List.Mem.tail _ (List.Mem.head _))
          obtain ⟨⟨f2a, f2b, f2c⟩, f2z⟩ := N15.out.at_ (List.Mem.tail _ (List.Mem.tail _ (List.Mem.head _)))
          by_cases ze : e = 0
          case neg =>
            have ye : (e == 0) = false := by simpa using ze
            go_wp2_with fail
            exact ⟨⟨j + 1, by omega, by go_num, Lib.hid (LA.out.later (N15.out.push q (by first | rfl | simp)).b)⟩, by simp [intOf]; omega⟩
          subst ze
          by_cases zg : g = 0
          case neg =>
            have yg : (g == 0) = false := by simpa using zg
            go_wp2_with fail
            exact ⟨⟨j + 1, by omega, by go_num, Lib.hid (LA.out.later (N15.out.push q (by first | rfl | simp)).b)⟩, by simp [intOf]; omega⟩
          subst zg
          by_cases zh : h = 0
          case neg =>
            have yh : (h == 0) = false := by simpa using zh
            go_wp2_with fail
            exact ⟨⟨j + 1, by omega, by go_num, Lib.hid (LA.out.later (N15.out.push q (by first | rfl | simp)).b)⟩, by simp [intOf]; omega⟩
          subst zh
          go_wp2_with fail
          refine (kboth HOP.out _).mono ?_; rintro e w16 ⟨rfl, hb16⟩
          have N16 := Lib.hid ((N15.out.push q (by first | rfl | simp)).later hb16)
          clear f0a f0b f0c f0z f1a f1b f1c f1z f2a f2b f2c f2z
          clear hb16 N15
          obtain ⟨⟨f0a, f0b, f0c⟩, f0z⟩ := N16.out.at_ (List.Mem.head _)
          obtain ⟨⟨f1a, f1b, f1c⟩, f1z⟩ := N16.out.at_ (List.Mem.tail _ (List.Mem.head _))
          obtain ⟨⟨f2a, f2b, f2c⟩, f2z⟩ := N16.out.at_ (List.Mem.tail _ (List.Mem.tail _ (List.Mem.head _)))
          obtain ⟨⟨f3a, f3b, f3c⟩, f3z⟩ := N16.out.at_ (List.Mem.tail _ (List.Mem.tail _ (List.Mem.tail _ (List.Mem.head _))))
          have hj5 := H5.out trivial trivial trivial
          unfold joined at hj5
          have hb3 : bothOp op = [43] ∨ bothOp op = [108, 101, 97, 115, 116] ∨ bothOp op = [103, 114, 101, 97, 116, 101, 115, 116] := by
            have := HOP.out
            simp only [aggL, List.mem_cons, List.not_mem_nil, or_false] at this
            rcases this with rfl | rfl | rfl | rfl <;> simp [bothOp]
          generalize bothOp op = bo at hj5 hb3 ⊢
          clear H5 HOP
          by_cases pk : p.k = 0
          case pos =>
            have pk1 : (p.k == 0) = true := by simpa using pk
            rw [if_pos pk1] at hj5
            obtain rfl : q = x := (Prod.mk.inj hj5).1
            go_wp2_with fail
            exact ⟨⟨j + 1, by omega, by go_num, Lib.hid (LA.out.later (N16.out.push q (by first | rfl | simp)).b)⟩, by simp [intOf]; omega⟩
          have pk1 : (p.k == 0) = false := by simpa using pk
          rw [if_neg (by rw [pk1]; decide)] at hj5
          by_cases qk : q.k = 0
          case pos =>
            have qk1 : (q.k == 0) = true := by simpa using qk
            rw [if_pos qk1] at hj5
            obtain rfl : p = x := (Prod.mk.inj hj5).1
            go_wp2_with fail
            exact ⟨⟨j + 1, by omega, by go_num, Lib.hid (LA.out.later (N16.out.push p (by first | rfl | simp)).b)⟩, by simp [intOf]; omega⟩
          have qk1 : (q.k == 0) = false := by simpa using qk
          rw [if_neg (by rw [qk1]; decide)] at hj5
          clear pk qk
          have zx := f3z
          have z16 : wr.heap.size ≤ w16.heap.size := N16.out.b.size
          rcases hb3 with rfl | hb3
          · rw [if_pos (by decide)] at hj5
            have HJ := Lib.hid hj5
            clear hj5
            go_wp2_with fail
            refine (kbin HJ.out _ (N16.out.push ⟨0, 0, []⟩ (by first | rfl | simp)).env).mono ?_; rintro e w17 ⟨rfl, hb17⟩
            have N17 := Lib.hid ((N16.out.push ⟨0, 0, []⟩ (by first | rfl | simp)).later hb17)
            clear f0a f0b f0c f0z f1a f1b f1c f1z f2a f2b f2c f2z f3a f3b f3c f3z
            clear hb17 N16
            obtain ⟨⟨f0a, f0b, f0c⟩, f0z⟩ := N17.out.at_ (List.Mem.head _)
            obtain ⟨⟨f1a, f1b, f1c⟩, f1z⟩ := N17.out.at_ (List.Mem.tail _ (List.Mem.head _))
            obtain ⟨⟨f2a, f2b, f2c⟩, f2z⟩ := N17.out.at_ (List.Mem.tail _ (List.Mem.tail _ (List.Mem.head _)))
            obtain ⟨⟨f3a, f3b, f3c⟩, f3z⟩ := N17.out.at_ (List.Mem.tail _ (List.Mem.tail _ (List.Mem.tail _ (List.Mem.head _))))
            obtain ⟨⟨f4a, f4b, f4c⟩, f4z⟩ := N17.out.at_ (List.Mem.tail _ (List.Mem.tail _ (List.Mem.tail _ (List.Mem.tail _ (List.Mem.head _)))))
            have fr0 : w17.frozen? ⟨w16.heap.size, 0, none⟩ = false := blk_frozen (N17.out.bw.all _ (List.Mem.head _)) 0
            have fr1 : w17.frozen? ⟨w16.heap.size, 1, none⟩ = false := blk_frozen (N17.out.bw.all _ (List.Mem.head _)) 1
            have fr2 : w17.frozen? ⟨w16.heap.size, 2, none⟩ = false := blk_frozen (N17.out.bw.all _ (List.Mem.head _)) 2
            go_wp2_with fail
            exact ⟨⟨j + 1, by omega, by go_num, Lib.hid (LA.out.later (((N17.out.b.setCell z16 _).setCell z16 _).setCell z16 _))⟩, by simp [intOf]; omega⟩
          rcases hb3 with rfl | rfl
          · rw [if_neg (by decide)] at hj5
            have HJ := Lib.hid hj5
            clear hj5
            go_wp2_with fail
            refine (k2call HJ.out _ ((N16.out.push ⟨0, 0, []⟩ (by first | rfl | simp)).alloc (.cells #[.int .i64 p.k, .int .i64 p.n, .string ⟨p.t.toArray⟩, .int .i64 q.k, .int .i64 q.n, .string ⟨q.t.toArray⟩] 27)).env _ (by simp)).mono ?_; rintro e w18 ⟨rfl, hb18⟩
            have N18 := Lib.hid (((N16.out.push ⟨0, 0, []⟩ (by first | rfl | simp)).alloc (.cells #[.int .i64 p.k, .int .i64 p.n, .string ⟨p.t.toArray⟩, .int .i64 q.k, .int .i64 q.n, .string ⟨q.t.toArray⟩] 27)).later hb18)
            clear f0a f0b f0c f0z f1a f1b f1c f1z f2a f2b f2c f2z f3a f3b f3c f3z
            clear hb18 N16
            obtain ⟨⟨f0a, f0b, f0c⟩, f0z⟩ := N18.out.at_ (List.Mem.head _)
            obtain ⟨⟨f1a, f1b, f1c⟩, f1z⟩ := N18.out.at_ (List.Mem.tail _ (List.Mem.head _))
            obtain ⟨⟨f2a, f2b, f2c⟩, f2z⟩ := N18.out.at_ (List.Mem.tail _ (List.Mem.tail _ (List.Mem.head _)))
            obtain ⟨⟨f3a, f3b, f3c⟩, f3z⟩ := N18.out.at_ (List.Mem.tail _ (List.Mem.tail _ (List.Mem.tail _ (List.Mem.head _))))
            obtain ⟨⟨f4a, f4b, f4c⟩, f4z⟩ := N18.out.at_ (List.Mem.tail _ (List.Mem.tail _ (List.Mem.tail _ (List.Mem.tail _ (List.Mem.head _)))))
            have fr0 : w18.frozen? ⟨w16.heap.size, 0, none⟩ = false := blk_frozen (N18.out.bw.all _ (List.Mem.head _)) 0
            have fr1 : w18.frozen? ⟨w16.heap.size, 1, none⟩ = false := blk_frozen (N18.out.bw.all _ (List.Mem.head _)) 1
            have fr2 : w18.frozen? ⟨w16.heap.size, 2, none⟩ = false := blk_frozen (N18.out.bw.all _ (List.Mem.head _)) 2
            go_wp2_with fail
            exact ⟨⟨j + 1, by omega, by go_num, Lib.hid (LA.out.later (((N18.out.b.setCell z16 _).setCell z16 _).setCell z16 _))⟩, by simp [intOf]; omega⟩
          · rw [if_neg (by decide)] at hj5
            have HJ := Lib.hid hj5
            clear hj5
            go_wp2_with fail
            refine (k2call HJ.out _ ((N16.out.push ⟨0, 0, []⟩ (by first | rfl | simp)).alloc (.cells #[.int .i64 p.k, .int .i64 p.n, .string ⟨p.t.toArray⟩, .int .i64 q.k, .int .i64 q.n, .string ⟨q.t.toArray⟩] 27)).env _ (by simp)).mono ?_; rintro e w19 ⟨rfl, hb19⟩
            have N19 := Lib.hid (((N16.out.push ⟨0, 0, []⟩ (by first | rfl | simp)).alloc (.cells #[.int .i64 p.k, .int .i64 p.n, .string ⟨p.t.toArray⟩, .int .i64 q.k, .int .i64 q.n, .string ⟨q.t.toArray⟩] 27)).later hb19)
            clear f0a f0b f0c f0z f1a f1b f1c f1z f2a f2b f2c f2z f3a f3b f3c f3z
            clear hb19 N16
            obtain ⟨⟨f0a, f0b, f0c⟩, f0z⟩ := N19.out.at_ (List.Mem.head _)
            obtain ⟨⟨f1a, f1b, f1c⟩, f1z⟩ := N19.out.at_ (List.Mem.tail _ (List.Mem.head _))
            obtain ⟨⟨f2a, f2b, f2c⟩, f2z⟩ := N19.out.at_ (List.Mem.tail _ (List.Mem.tail _ (List.Mem.head _)))
            obtain ⟨⟨f3a, f3b, f3c⟩, f3z⟩ := N19.out.at_ (List.Mem.tail _ (List.Mem.tail _ (List.Mem.tail _ (List.Mem.head _))))
            obtain ⟨⟨f4a, f4b, f4c⟩, f4z⟩ := N19.out.at_ (List.Mem.tail _ (List.Mem.tail _ (List.Mem.tail _ (List.Mem.tail _ (List.Mem.head _)))))
            have fr0 : w19.frozen? ⟨w16.heap.size, 0, none⟩ = false := blk_frozen (N19.out.bw.all _ (List.Mem.head _)) 0
            have fr1 : w19.frozen? ⟨w16.heap.size, 1, none⟩ = false := blk_frozen (N19.out.bw.all _ (List.Mem.head _)) 1
            have fr2 : w19.frozen? ⟨w16.heap.size, 2, none⟩ = false := blk_frozen (N19.out.bw.all _ (List.Mem.head _)) 2
            go_wp2_with fail
            exact ⟨⟨j + 1, by omega, by go_num, Lib.hid (LA.out.later (((N19.out.b.setCell z16 _).setCell z16 _).setCell z16 _))⟩, by simp [intOf]; omega⟩
theorem law_sums (A : Option Addr) (n c : Nat) (l : List V) (cut : Int) (w : World) (hE : Env w) (hS : Sl w A n l) (hnc : n ≤ c) (ht : ∀ v ∈ l, v.t.length ≤ 140737488355328) (hT : 0 ≤ cut ∧ cut ≤ 65535) :
    Calls Tryz.prog 11 #[.slice A n c, .int .u16 cut] w fun e w' => e = .returned (.bool true) ∧ Below w.heap.size w w' :=
  law_sums0 A n c l cut w hE hS hnc hT.1 (Int.lt_of_le_of_lt hT.2 (by decide)) ht
end Go.Proofs.YtpmfpfkahanlaaaGreatDoor

/- The statement ValueSums is proved: the laws of aggregates: no order of values counts, and two lists put together give that of both; for every input, under the row's own condition alone (the listed package-level variables hold what the program's text lays; the card ties them). -/
namespace Go.Proofs.YtpmfpfkahanlaaaGreatDoor
open Go.ChangeShapes Go.Joins Go.Deep Go.WideShapes Go.ChangeAt Go.RowKit
open Go.ChangeMaps (open_string shut_string)
set_option linter.unusedVariables false

theorem cap_ok {H : Type} {enc : TypeId × Value → H} {W : World} {sp : Nat → Bool} {held : Bool} {A : Option Addr} {n c : Nat} {d : DataW H} {p : List MemPlace} (h : DataW.Trod enc Tryz.prog W 0 sp held 22 (.slice A n c) d p) : n ≤ c := by
  obtain ⟨fuel, hf⟩ := h
  rcases open_slice Tryz.underlying22 hf with ⟨hcs, _⟩ | ⟨x, l, c', m, q, D, Pl, hcs, _, hl, _⟩
  · simp [Value.cells] at hcs
    obtain ⟨rfl, rfl, rfl⟩ := hcs
    exact Nat.le_refl _
  · simp [Value.cells] at hcs
    obtain ⟨rfl, rfl, rfl⟩ := hcs
    omega
set_option maxRecDepth 100000 in
set_option maxHeartbeats 4000000 in
theorem valueSums_lifted (os : Os) (started : os.Started) (H : Type) (enc : TypeId × Value → H) :
    ReturnsInHanded {} Tryz.checked os 11 .any (fun w args => (Rows.valueSumsSpec.pre enc Tryz.prog Tryz.f11 [] false w args ∧ laidMetH Tryz.prog laid w) ∧ sizedMet enc Tryz.prog Tryz.f11 (OpenSpec.ofChange Rows.valueSumsSpec) false w args)
      (Rows.valueSumsSpec.post enc Tryz.prog Tryz.f11 false true false false) := by
  refine returns_listed (C := Tryz.checked) (X := fun w _ => laidMetH Tryz.prog laid w) (fun _ _ _ hh h => h.of_heap hh) own started (by kernel_rfl) Tryz.func11
    (ChangeSpec.witness_shaped (enc := enc) (C := Tryz.checked) (os := os) (X := fun w _ => laidMetH Tryz.prog laid w) false (World.laidAll Tryz.prog os laid) #[.slice none 0 0, .int .u16 0] 8 (World.laidAll_os _ _ _)
      (World.shaped_of_ZipB (by kernel_rfl) (by kernel_rfl)) (by kernel_rfl) (by kernel_rfl) (by kernel_rfl)
      (by rw [MakeChecks.laidMetH_plain _ _ _ (by kernel_rfl)]; exact laidMet_laidAll _ (by kernel_rfl) (by kernel_rfl))) ?_
  intro W base args ds gs before hval0 hW hcnd hsz0 hL hsh _
  have hsz : (DataW.weightsEach Tryz.prog (Tryz.f11.params.toList ++ Rows.valueSumsSpec.plain.varTypes Tryz.prog) (ds ++ gs)).all (· ≤ reachBytes) = true := hsz0
  have hval : ∀ (j : Nat) t v, Tryz.f11.params[j]? = some t → args[j]? = some v → Value.okWide Tryz.prog W .any base t v := hval0
  have hW' := hW
  obtain ⟨p, q, hA0, hV, rfl, hfz, hnd⟩ := hW
  have hA : DataW.TrodAll enc Tryz.prog W 0 (fun _ => true) true Tryz.f11.params.toList args.toList ds p := hA0
  rw [Tryz.params11] at hA hval hsz
  obtain ⟨v0, vs0, d0, ds0, p0, q0, hargs, rfl, rfl, h0, r0⟩ := trodAll_cons hA
  obtain ⟨v1, vs1, d1, ds1, p1, q1, rfl, rfl, rfl, h1, r1⟩ := trodAll_cons r0
  obtain ⟨rfl, rfl, rfl⟩ := trodAll_nil r1
  obtain rfl : args = #[v0, v1] := by cases args; simp_all
  obtain ⟨rfl, rfl⟩ := trodVars_none hV
  have hEnv := env_of_laid hL hsh
  have k0 := h0
  have lt0 : ∀ x ∈ p0, x.block < W.heap.size := by obtain ⟨m, hm⟩ := k0; exact DataW.trod_lt m _ _ _ hm
  obtain ⟨A0, n0, c0, l0, rfl, S0, T0⟩ := open_values hsz (j := 0) rfl rfl (hval 0 22 v0 rfl rfl) h0
  have k1 := h1
  have lt1 : ∀ x ∈ p1, x.block < W.heap.size := by obtain ⟨m, hm⟩ := k1; exact DataW.trod_lt m _ _ _ hm
  obtain ⟨a1, rfl, _, _, w1⟩ := open_int Tryz.underlying57 (hval 1 57 v1 rfl rfl) h1
  have T1 : 0 ≤ a1 ∧ a1 ≤ 65535 := by simpa [Lit.wf, IntKind.min, IntKind.max, IntKind.signed, IntKind.bits] using w1
  clear hA0 hval0 hsz0 hsz
  refine (law_sums A0 n0 c0 l0 a1 W hEnv S0 (cap_ok k0) (fun x hx => Nat.le_trans (T0 x hx) (by decide)) T1).mono fun e W' ⟨he, bel⟩ => ?_
  subst he
  exact ⟨_, rfl, _, _, _, [], _, [], hW', trodAll_mk1 (shut_bool Tryz.underlying4 _), (trodAll_cons_mk (Below.trod laidOut (by kernel_rfl) (of_decide_eq_true (by kernel_rfl)) k0 bel lt0) (trodAll_cons_mk (Below.trod laidOut (by kernel_rfl) (of_decide_eq_true (by kernel_rfl)) k1 bel lt1) trodAll_mk0)), rfl, bel.frame _, fun h => by cases h⟩
theorem valueSums_row : Rows.ValueSumsSaid :=
  OpenClaim.holds_of_wide 11 Tryz.f11 rfl rfl rfl rfl rfl rfl rfl ⟨rfl, rfl, rfl, rfl, rfl⟩ rfl rfl rfl rfl rfl (by kernel_rfl) Tryz.func11 (by kernel_rfl)
    (of_decide_eq_true (by kernel_rfl)) (by unfold Func.isWrapper; first | (rw [if_pos (by decide +kernel)]; kernel_rfl) | (rw [if_neg (by decide +kernel)]; exact ⟨rfl, rfl⟩))
    (fun os started H enc _ => valueSums_lifted os started H enc)
theorem valueSums_card : Rows.ValueSumsCardSaid :=
  Claim7.holds_tied_plain_at .later [] [.data, .data, .data, .data, .sentinel, .sentinel, .listed, .data, .data, .pinned, .pinned] true (true, "2df1776b52db89be618cb2cc9767f232203ddef2cbc80537f057adf05aab1a8a") true
    valueSums_row (fun _ h => by cases h) (by kernel_rfl) (fun _ h => by cases h) valueSums_row_tie rfl ⟨rfl, rfl⟩ (by kernel_rfl) rfl
    (fun f fn hf hfn => by
      obtain rfl : f = 11 := Option.some.inj ((show Tryz.prog.funcNamed "justiciar/justiciarlaw01.ValueSums" = some 11 by kernel_rfl).symm.trans hf) |>.symm
      obtain rfl : fn = Tryz.f11 := (Option.some.inj (Tryz.func11.symm.trans hfn)).symm
      exact ⟨by kernel_rfl, fun j t ht => by
        rw [Tryz.params11] at ht
        have hm : t ∈ [22, 57] := by simpa using Array.mem_of_getElem? ht
        have hall : ([22, 57].all fun u => !Tryz.prog.wantsStandIn u) = true := by kernel_rfl
        exact (show Tryz.prog.wantsStandIn t = false by simpa using List.all_eq_true.1 hall t hm)⟩)
    (by kernel_rfl)
#print axioms valueSums_card
end Go.Proofs.YtpmfpfkahanlaaaGreatDoor
