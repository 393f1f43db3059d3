/- Binary, In, Between, Order: what package value computes is what the reference computes. -/
import Derived.Test.YtpmfpfkahanlaaaGreatDoorHA
namespace Go.Proofs.YtpmfpfkahanlaaaGreatDoor
set_option linter.unusedSimpArgs false
set_option linter.unusedVariables false

theorem op_cases {op : List UInt8} (h : isOp op = true) : (op = [43] ∨ op = [45] ∨ op = [42] ∨ op = [47] ∨ op = [109, 111, 100]) ∨ (op = [124, 124] ∨ op = [108, 105, 107, 101]) ∨ (op = [97, 110, 100] ∨ op = [111, 114]) ∨ (op = [61] ∨ op = [60, 62] ∨ op = [60] ∨ op = [60, 61] ∨ op = [62] ∨ op = [62, 61]) := by
  unfold isOp at h
  obtain ⟨v, hv⟩ := Option.isSome_iff_exists.1 h
  have hm := look_mem hv
  unfold opT at hm
  simp only [List.mem_cons, Prod.mk.injEq, List.not_mem_nil, or_false] at hm
  rcases hm with ⟨h1, h2⟩ | ⟨h1, h2⟩ | ⟨h1, h2⟩ | ⟨h1, h2⟩ | ⟨h1, h2⟩ | ⟨h1, h2⟩ | ⟨h1, h2⟩ | ⟨h1, h2⟩ | ⟨h1, h2⟩ | ⟨h1, h2⟩ | ⟨h1, h2⟩ | ⟨h1, h2⟩ | ⟨h1, h2⟩ | ⟨h1, h2⟩ | ⟨h1, h2⟩
  all_goals simp [h1]
theorem kinds_none {op : List UInt8} (h : isOp op = false) : rKinds op = [] := by
  have n : ∀ k, isOp k = true → op ≠ k := by rintro k hk rfl; rw [h] at hk; cases hk
  have e1 := n [43] rfl
  have e2 := n [45] rfl
  have e3 := n [42] rfl
  have e4 := n [47] rfl
  have e5 := n [109, 111, 100] rfl
  have e6 := n [124, 124] rfl
  have e7 := n [108, 105, 107, 101] rfl
  have e8 := n [97, 110, 100] rfl
  have e9 := n [111, 114] rfl
  have f1 := n [61] rfl
  have f2 := n [60, 62] rfl
  have f3 := n [60] rfl
  have f4 := n [60, 61] rfl
  have f5 := n [62] rfl
  have f6 := n [62, 61] rfl
  simp [rKinds, rArOp, rCmpOp, hasL, e1, e2, e3, e4, e5, e6, e7, e8, e9, f1, f2, f3, f4, f5, f6]
theorem cat_eq (a b : List UInt8) : sWritten (a ++ b) = if (200 : Int) < (a.length : Int) + (b.length : Int) then (vN, 21) else (vS (a ++ b), 0) := by
  unfold sWritten
  rw [List.length_append, Int.natCast_add]
theorem bin_eq_ar (op : List UInt8) (a b : V) (ha : sValid a = true) (hb : sValid b = true) (h1 : isOp op = true) (h2 : opK op = 1) (h3 : rKinds op = [1]) (h4 : (op == [97, 110, 100]) = false) (h5 : (op == [111, 114]) = false) (h6 : rCmpOp op = false) (h7 : (op == [124, 124]) = false) (h8 : (op == [108, 105, 107, 101]) = false) : vBinary op a b = rBinary op a b := by
  unfold vBinary rBinary binK binLogic rTyped
  simp only [ha, hb, h1, h2, h3, h4, h5, h6, h7, h8, arith_eq]
  rcases sv_cases ha with rfl | ⟨n, rfl, _, _⟩ | ⟨t, rfl, _⟩ | ⟨x, rfl⟩ <;> rcases sv_cases hb with rfl | ⟨n', rfl, _, _⟩ | ⟨t', rfl, _⟩ | ⟨x', rfl⟩ <;> simp [sFits, rTakes, vN, vI, vS, vB]
theorem bin_eq_str (op : List UInt8) (a b : V) (ha : sValid a = true) (hb : sValid b = true) (h : op = [124, 124] ∨ op = [108, 105, 107, 101]) : vBinary op a b = rBinary op a b := by
  have h1 : isOp op = true := by rcases h with rfl | rfl <;> rfl
  have h2 : opK op = 2 := by rcases h with rfl | rfl <;> rfl
  have h3 : rKinds op = [2] := by rcases h with rfl | rfl <;> rfl
  have h4 : (op == [97, 110, 100]) = false := by rcases h with rfl | rfl <;> rfl
  have h5 : (op == [111, 114]) = false := by rcases h with rfl | rfl <;> rfl
  have h6 : rCmpOp op = false := by rcases h with rfl | rfl <;> rfl
  have h7 : (op == [108, 105, 107, 101]) = !(op == [124, 124]) := by rcases h with rfl | rfl <;> rfl
  unfold vBinary rBinary binK binLogic rTyped
  simp only [ha, hb, h1, h2, h3, h4, h5, h6, h7, cat_eq]
  rcases sv_cases ha with rfl | ⟨n, rfl, _, _⟩ | ⟨t, rfl, _⟩ | ⟨x, rfl⟩ <;> rcases sv_cases hb with rfl | ⟨n', rfl, _, _⟩ | ⟨t', rfl, _⟩ | ⟨x', rfl⟩ <;> cases hq : (op == [124, 124]) <;> simp [sFits, rTakes, vN, vI, vS, vB]
theorem bin_eq_log (op : List UInt8) (a b : V) (ha : sValid a = true) (hb : sValid b = true) (h : op = [97, 110, 100] ∨ op = [111, 114]) : vBinary op a b = rBinary op a b := by
  have h1 : isOp op = true := by rcases h with rfl | rfl <;> rfl
  have h2 : opK op = 3 := by rcases h with rfl | rfl <;> rfl
  have h3 : rKinds op = [3] := by rcases h with rfl | rfl <;> rfl
  have h4 : (op == [97, 110, 100] || op == [111, 114]) = true := by rcases h with rfl | rfl <;> rfl
  unfold vBinary rBinary binK binLogic rTyped
  simp only [ha, hb, h1, h2, h3, h4]
  rcases sv_cases ha with rfl | ⟨n, rfl, _, _⟩ | ⟨t, rfl, _⟩ | ⟨x, rfl⟩ <;> rcases sv_cases hb with rfl | ⟨n', rfl, _, _⟩ | ⟨t', rfl, _⟩ | ⟨x', rfl⟩ <;> simp [sFits, rTakes, vN, vI, vS, vB]
theorem bin_eq_cmp (op : List UInt8) (a b : V) (ha : sValid a = true) (hb : sValid b = true) (h1 : isOp op = true) (h2 : opK op = 0) (h3 : rKinds op = [1, 2, 3]) (h4 : (op == [97, 110, 100]) = false) (h5 : (op == [111, 114]) = false) (h6 : rCmpOp op = true) (h7 : (op == [124, 124]) = false) (h8 : (op == [108, 105, 107, 101]) = false) : vBinary op a b = rBinary op a b := by
  unfold vBinary rBinary binK binLogic rTyped
  simp only [ha, hb, h1, h2, h3, h4, h5, h6, h7, h8]
  by_cases hk : a.k = b.k
  · rw [cmp_less hk ha hb]
    rcases sv_cases ha with rfl | ⟨n, rfl, _, _⟩ | ⟨t, rfl, _⟩ | ⟨x, rfl⟩ <;> rcases sv_cases hb with rfl | ⟨n', rfl, _, _⟩ | ⟨t', rfl, _⟩ | ⟨x', rfl⟩ <;> first | (exfalso; simp [vN, vI, vS, vB] at hk; done) | (simp [sFits, rTakes, vN, vI, vS, vB]; done)
  · rcases sv_cases ha with rfl | ⟨n, rfl, _, _⟩ | ⟨t, rfl, _⟩ | ⟨x, rfl⟩ <;> rcases sv_cases hb with rfl | ⟨n', rfl, _, _⟩ | ⟨t', rfl, _⟩ | ⟨x', rfl⟩ <;> first | (exfalso; exact hk rfl) | (simp [sFits, rTakes, vN, vI, vS, vB]; done) | (simp [sFits, rTakes, vN, vI, vS, vB]; (try intro _); omega)
theorem bin_eq (op : List UInt8) (a b : V) : vBinary op a b = rBinary op a b := by
  cases hop : isOp op with
  | false => simp [vBinary, rBinary, hop, kinds_none hop]
  | true =>
    have hne : rKinds op ≠ [] := by
      rcases op_cases hop with (rfl | rfl | rfl | rfl | rfl) | (rfl | rfl) | (rfl | rfl) | (rfl | rfl | rfl | rfl | rfl | rfl) <;> decide
    cases ha : sValid a with
    | false => simp [vBinary, rBinary, ha]
    | true =>
      cases hb : sValid b with
      | false => simp [vBinary, rBinary, hb]
      | true =>
        rcases op_cases hop with (rfl | rfl | rfl | rfl | rfl) | h | h | (rfl | rfl | rfl | rfl | rfl | rfl)
        all_goals first | exact bin_eq_ar _ a b ha hb rfl rfl rfl rfl rfl rfl rfl rfl | exact bin_eq_cmp _ a b ha hb rfl rfl rfl rfl rfl rfl rfl rfl | exact bin_eq_str _ a b ha hb h | exact bin_eq_log _ a b ha hb h
theorem un_eq (op : List UInt8) (a : V) : vUnary op a = rUnary2 op a := by
  unfold vUnary rUnary2
  cases ha : sValid a with
  | false => simp
  | true =>
    cases hu : unIs op with
    | false => simp
    | true =>
      have h : op = [45] ∨ op = [110, 111, 116] := by simpa [unIs] using hu
      rcases h with rfl | rfl
      · rcases sv_cases ha with rfl | ⟨n, rfl, h1, h2⟩ | ⟨t, rfl, _⟩ | ⟨x, rfl⟩
        · rfl
        · have e : w64 (-n) = -n := by unfold w64; omega
          simp [sFits, unK, vI, sWhole, e, sIsInt]
          omega
        · rfl
        · rfl
      · rcases sv_cases ha with rfl | ⟨n, rfl, h1, h2⟩ | ⟨t, rfl, _⟩ | ⟨x, rfl⟩ <;> rfl
theorem inGo_eq (x : V) : ∀ (l : List V) (acc : V), inGo x acc l = rInGo x acc l
  | [], acc => rfl
  | y :: r, acc => by
    unfold inGo rInGo sTrue
    rw [bin_eq, inGo_eq x r]
theorem in_eq (x : V) (l : List V) : vIn x l = rIn x l := by unfold vIn rIn; rw [inGo_eq]
theorem rArith_ne (op : List UInt8) (a b : Int) : (rArith op a b).2 ≠ 2 := by
  unfold rArith sWhole
  repeat' split
  all_goals simp
theorem rBin_bad (op : List UInt8) (a b : V) (h : rKinds op ≠ []) (ha : sValid a = true) (hb : sValid b = true) : (rBinary op a b).2 ≠ 2 := by
  have h0 : (rKinds op == []) = false := by simpa using h
  unfold rBinary rTyped
  simp only [h0, ha, hb, Bool.not_true, Bool.or_false, Bool.false_eq_true, if_false]
  repeat' split
  all_goals first
    | decide
    | exact rArith_ne _ _ _
    | skip
  all_goals simp_all
theorem between_eq (a b c : V) (hv : True) : vBetween a b c = rBetween a b c := by
  unfold vBetween rBetween
  rw [bin_eq, bin_eq]
  cases ha : sValid a with
  | false => simp
  | true =>
    cases hb : sValid b with
    | false => simp
    | true =>
      cases hc : sValid c with
      | false => simp
      | true =>
        have h2 : ((rBinary [62, 61] a b).2 == 2) = false := by
          have := rBin_bad [62, 61] a b (by decide) ha hb
          simpa using this
        simp [h2]
theorem before_eq {a b : V} (ha : sValid a = true) (hb : sValid b = true) (h : (a.k != b.k && (a.k != 0 && b.k != 0)) = false) : sBefore (sCmp a b) a b = sBefore (rLess a b) a b := by
  unfold sBefore
  by_cases h1 : a.k = 0
  · simp [h1]
  · by_cases h2 : b.k = 0
    · simp [h1, h2]
    · have hk : a.k = b.k := by simpa [h1, h2] using h
      rw [cmp_less hk ha hb]
theorem order_eq (a b : V) : vOrder a b = rOrder a b := by
  unfold vOrder rOrder
  cases hv : (sValid a && sValid b) with
  | false => rfl
  | true =>
    rw [Bool.and_eq_true] at hv
    cases hk : (a.k != b.k && (a.k != 0 && b.k != 0)) with
    | true => rfl
    | false => simp only [Bool.not_true, Bool.false_eq_true, if_false, before_eq hv.1 hv.2 hk]
end Go.Proofs.YtpmfpfkahanlaaaGreatDoor

/- The laws of aggregates: what package value computes meets them. -/
namespace Go.Proofs.YtpmfpfkahanlaaaGreatDoor
set_option linter.unusedSimpArgs false
set_option linter.unusedVariables false

/-- Values that are valid, not null and of one kind. -/
def One (K : Int) (l : List V) : Prop := ∀ v ∈ l, sValid v = true ∧ v.k = K
theorem One.tail {K : Int} {x : V} {l : List V} (h : One K (x :: l)) : One K l := fun v hv => h v (List.mem_cons_of_mem _ hv)
theorem minGo_spec {K : Int} : ∀ (r : List V) (m : V), One K (m :: r) → minGo m r ∈ m :: r ∧ ∀ y ∈ m :: r, sCmp (minGo m r) y ≤ 0
  | [], m, h => ⟨List.mem_cons_self, fun y hy => by
      simp only [List.mem_cons, List.not_mem_nil, or_false] at hy
      subst hy
      have := (sCmp_zero rfl (h y List.mem_cons_self).1 (h y List.mem_cons_self).1).2 rfl
      show sCmp y y ≤ 0
      omega⟩
  | y :: r, m, h => by
    have hm := h m List.mem_cons_self
    have hy := h y (List.mem_cons_of_mem _ List.mem_cons_self)
    have hx : One K ((if sCmp y m < 0 then y else m) :: r) := by
      intro v hv
      rcases List.mem_cons.1 hv with rfl | hv
      · split
        · exact hy
        · exact hm
      · exact h v (List.mem_cons_of_mem _ (List.mem_cons_of_mem _ hv))
    obtain ⟨h1, h2⟩ := minGo_spec r _ hx
    have e : minGo m (y :: r) = minGo (if sCmp y m < 0 then y else m) r := rfl
    rw [e]
    have hK := (hx _ h1).2
    refine ⟨?_, fun z hz => ?_⟩
    · rcases List.mem_cons.1 h1 with h3 | h3
      · rw [h3]
        split
        · exact List.mem_cons_of_mem _ List.mem_cons_self
        · exact List.mem_cons_self
      · exact List.mem_cons_of_mem _ (List.mem_cons_of_mem _ h3)
    · have h0 := h2 _ List.mem_cons_self
      have sw := sCmp_swap (a := y) (b := m) (by rw [hy.2, hm.2])
      have k0 : (if sCmp y m < 0 then y else m).k = K := (hx _ List.mem_cons_self).2
      rcases List.mem_cons.1 hz with rfl | hz
      · refine sCmp_trans (b := if sCmp y z < 0 then y else z) (by rw [hK, k0]) (by rw [k0, hm.2]) h0 ?_
        split
        · omega
        · have := (sCmp_zero rfl hm.1 hm.1).2 rfl
          omega
      · rcases List.mem_cons.1 hz with rfl | hz
        · refine sCmp_trans (b := if sCmp z m < 0 then z else m) (by rw [hK, k0]) (by rw [k0, hy.2]) h0 ?_
          split
          · have := (sCmp_zero rfl hy.1 hy.1).2 rfl
            omega
          · omega
        · exact h2 z (List.mem_cons_of_mem _ hz)
theorem maxGo_spec {K : Int} : ∀ (r : List V) (m : V), One K (m :: r) → maxGo m r ∈ m :: r ∧ ∀ y ∈ m :: r, sCmp y (maxGo m r) ≤ 0
  | [], m, h => ⟨List.mem_cons_self, fun y hy => by
      simp only [List.mem_cons, List.not_mem_nil, or_false] at hy
      subst hy
      have := (sCmp_zero rfl (h y List.mem_cons_self).1 (h y List.mem_cons_self).1).2 rfl
      show sCmp y y ≤ 0
      omega⟩
  | y :: r, m, h => by
    have hm := h m List.mem_cons_self
    have hy := h y (List.mem_cons_of_mem _ List.mem_cons_self)
    have hx : One K ((if 0 < sCmp y m then y else m) :: r) := by
      intro v hv
      rcases List.mem_cons.1 hv with rfl | hv
      · split
        · exact hy
        · exact hm
      · exact h v (List.mem_cons_of_mem _ (List.mem_cons_of_mem _ hv))
    obtain ⟨h1, h2⟩ := maxGo_spec r _ hx
    have e : maxGo m (y :: r) = maxGo (if 0 < sCmp y m then y else m) r := rfl
    rw [e]
    have hK := (hx _ h1).2
    refine ⟨?_, fun z hz => ?_⟩
    · rcases List.mem_cons.1 h1 with h3 | h3
      · rw [h3]
        split
        · exact List.mem_cons_of_mem _ List.mem_cons_self
        · exact List.mem_cons_self
      · exact List.mem_cons_of_mem _ (List.mem_cons_of_mem _ h3)
    · have h0 := h2 _ List.mem_cons_self
      have sw := sCmp_swap (a := y) (b := m) (by rw [hy.2, hm.2])
      have k0 : (if 0 < sCmp y m then y else m).k = K := (hx _ List.mem_cons_self).2
      rcases List.mem_cons.1 hz with rfl | hz
      · refine sCmp_trans (b := if 0 < sCmp y z then y else z) (by rw [hm.2, k0]) (by rw [k0, hK]) ?_ h0
        split
        · omega
        · have := (sCmp_zero rfl hm.1 hm.1).2 rfl
          omega
      · rcases List.mem_cons.1 hz with rfl | hz
        · refine sCmp_trans (b := if 0 < sCmp z m then z else m) (by rw [hy.2, k0]) (by rw [k0, hK]) ?_ h0
          split
          · have := (sCmp_zero rfl hy.1 hy.1).2 rfl
            omega
          · omega
        · exact h2 z (List.mem_cons_of_mem _ hz)
theorem anti {K : Int} {l : List V} (h : One K l) {a b : V} (ha : a ∈ l) (hb : b ∈ l) (h1 : sCmp a b ≤ 0) (h2 : sCmp b a ≤ 0) : a = b := by
  have hk : a.k = b.k := by rw [(h a ha).2, (h b hb).2]
  have sw := sCmp_swap hk
  exact (sCmp_zero hk (h a ha).1 (h b hb).1).1 (by omega)
/-- The values of a list that is valid, without nulls. -/
theorem pres_ok {l : List V} (h : l.all sValid = true) : ∀ v ∈ present l, sValid v = true ∧ v.k ≠ 0 := by
  intro v hv
  simp only [present, List.mem_filter, bne_iff_ne] at hv
  exact ⟨List.all_eq_true.1 h v hv.1, hv.2⟩
theorem one_of {x : V} {r : List V} (hv : ∀ v ∈ x :: r, sValid v = true ∧ v.k ≠ 0) {K : Int} (h : ((x :: r).any fun v => v.k != K) = false) : One K (x :: r) := by
  intro v hm
  refine ⟨(hv v hm).1, ?_⟩
  have := List.any_eq_false.1 h v hm
  simpa using this
def aK (op : List UInt8) (x : V) : Int := if op == [115, 117, 109] then 1 else x.k
theorem any_swap {p q : List V} (hm : ∀ v, v ∈ p ↔ v ∈ q) (f : V → Bool) : p.any f = q.any f := by
  rw [Bool.eq_iff_iff, List.any_eq_true, List.any_eq_true]
  exact ⟨fun ⟨v, h1, h2⟩ => ⟨v, (hm v).1 h1, h2⟩, fun ⟨v, h1, h2⟩ => ⟨v, (hm v).2 h1, h2⟩⟩
theorem any_kind {x y : V} {r s : List V} (hm : ∀ v, v ∈ x :: r ↔ v ∈ y :: s) (op : List UInt8) : ((x :: r).any fun v => v.k != aK op x) = ((y :: s).any fun v => v.k != aK op y) := by
  unfold aK
  by_cases h : op = [115, 117, 109]
  · simp only [h, beq_self_eq_true, if_true]
    exact any_swap hm _
  · have h' : (op == [115, 117, 109]) = false := by simpa using h
    simp only [h', Bool.false_eq_true, if_false]
    rw [any_swap hm]
    rw [Bool.eq_iff_iff, List.any_eq_true, List.any_eq_true]
    by_cases hk : x.k = y.k
    · rw [hk]
    · constructor
      · intro _
        exact ⟨x, (hm x).1 List.mem_cons_self, by simpa using hk⟩
      · intro _
        exact ⟨y, List.mem_cons_self, by simpa using fun e : y.k = x.k => hk e.symm⟩
theorem agg_perm (op : List UInt8) {p q : List V} (hm : ∀ v, v ∈ p ↔ v ∈ q) (hl : p.length = q.length) (hs : sumN p = sumN q) (hv : ∀ v ∈ p, sValid v = true ∧ v.k ≠ 0) : aggOf op p = aggOf op q := by
  unfold aggOf
  rw [hl]
  cases p with
  | nil =>
    cases q with
    | nil => rfl
    | cons y s => cases hl
  | cons x r =>
    cases q with
    | nil => cases hl
    | cons y s =>
      have hk := any_kind hm op
      unfold aK at hk
      simp only [hk, hs]
      cases hc : ((y :: s).any fun v => v.k != if op == [115, 117, 109] then 1 else y.k) with
      | true => rfl
      | false =>
        have o1 := one_of hv (hk.trans hc)
        have hv' : ∀ v ∈ y :: s, sValid v = true ∧ v.k ≠ 0 := fun v h => hv v ((hm v).2 h)
        have o2 := one_of hv' hc
        have a1 := minGo_spec r x o1
        have a2 := minGo_spec s y o2
        have b1 := maxGo_spec r x o1
        have b2 := maxGo_spec s y o2
        have e1 : minGo x r = minGo y s := anti o2 ((hm _).1 a1.1) a2.1 (a1.2 _ ((hm _).2 a2.1)) (a2.2 _ ((hm _).1 a1.1))
        have e2 : maxGo x r = maxGo y s := anti o2 ((hm _).1 b1.1) b2.1 (b2.2 _ ((hm _).1 b1.1)) (b1.2 _ ((hm _).2 b2.1))
        rw [e1, e2]
theorem agg_turn (op : List UInt8) (l r : List V) (hl : l.all sValid = true) (hr : r.all sValid = true) : vAgg op (l ++ r) = vAgg op (r ++ l) := by
  unfold vAgg
  rw [List.all_append, List.all_append, hl, hr, present_append, present_append]
  simp only [Bool.and_true, Bool.not_true, Bool.false_eq_true, if_false]
  split
  · rfl
  · refine agg_perm op (fun v => by simp only [List.mem_append, or_comm]) (by simp only [List.length_append, Nat.add_comm]) (by rw [sumN_append, sumN_append, Int.add_comm]) fun v hv => ?_
    rcases List.mem_append.1 hv with h | h
    · exact pres_ok hl v h
    · exact pres_ok hr v h

/-- What puts two aggregates together. -/
def bothOp (op : List UInt8) : List UInt8 := if op == [109, 105, 110] then [108, 101, 97, 115, 116] else if op == [109, 97, 120] then [103, 114, 101, 97, 116, 101, 115, 116] else [43]
def joined (op : List UInt8) (p q : V) : V × Int :=
  if p.k == 0 then (q, 0) else if q.k == 0 then (p, 0)
  else if bothOp op == [43] then vBinary [43] p q else vCall (bothOp op) [p, q]
theorem call_two {op : List UInt8} (h : op = [108, 101, 97, 115, 116] ∨ op = [103, 114, 101, 97, 116, 101, 115, 116]) {p q : V} (hp : sValid p = true) (hq : sValid q = true) (h0 : p.k ≠ 0) (hk : p.k = q.k) : vCall op [p, q] = (if op == [108, 101, 97, 115, 116] then sLeast p q else sGreatest p q, 0) := by
  have hpos : 0 ≤ p.k := by
    rcases sv_cases hp with rfl | ⟨n, rfl, _, _⟩ | ⟨t, rfl, _⟩ | ⟨x, rfl⟩ <;> simp [vN, vI, vS, vB]
  have hsig : isSig op = true := by rcases h with rfl | rfl <;> rfl
  have hki : sKinds op = [0, 0] := by rcases h with rfl | rfl <;> rfl
  have hn1 : (op == [110, 118, 108]) = false := by rcases h with rfl | rfl <;> rfl
  have hn2 : (op == [110, 117, 108, 108, 105, 102]) = false := by rcases h with rfl | rfl <;> rfl
  have e1 : sFits p (max 0 p.k) = true := by unfold sFits; rw [Int.max_eq_right hpos]; simp
  have e2 : max 0 p.k = p.k := Int.max_eq_right hpos
  have e3 : max p.k q.k = p.k := by rw [hk]; omega
  have hgo : goK [0, 0] [p, q] 0 = some p.k := by
    simp only [goK, beq_self_eq_true, if_true, e2, e3]
    simp [sFits, hk]
  have d0 : q.k ≠ 0 := by rw [← hk]; exact h0
  have d1 : veq vN p = false := by
    cases hv : veq vN p with
    | false => rfl
    | true => rw [← veq_e hv] at h0; exact absurd rfl h0
  have d2 : veq vN q = false := by
    cases hv : veq vN q with
    | false => rfl
    | true => rw [← veq_e hv] at d0; exact absurd rfl d0
  unfold vCall
  rw [hsig, hki]
  simp only [List.all_cons, List.all_nil, hp, hq, Bool.and_true, Bool.not_true, Bool.false_eq_true, if_false, List.length_cons, List.length_nil, bne_self_eq_false]
  unfold vLoop
  rw [hki, hgo]
  simp only
  unfold vAfter
  rw [hn1, hn2]
  simp only [List.any_cons, List.any_nil, d1, d2, Bool.or_false, sFits, hk, beq_self_eq_true, Bool.or_true, Bool.not_true, Bool.and_false, Bool.false_eq_true, if_false]
  rcases h with rfl | rfl <;> rfl
theorem agg_ok_one {op : List UInt8} {x : V} {r : List V} (hv : ∀ v ∈ x :: r, sValid v = true ∧ v.k ≠ 0) (hne : (op == [99, 111, 117, 110, 116]) = false) (h : (aggOf op (x :: r)).2 = 0) : One (aK op x) (x :: r) := by
  refine one_of hv ?_
  unfold aggOf at h
  rw [hne] at h
  simp only [Bool.false_eq_true, if_false] at h
  unfold aK
  cases hc : ((x :: r).any fun v => v.k != if op == [115, 117, 109] then 1 else x.k) with
  | false => rfl
  | true => rw [hc] at h; cases h
theorem agg_min {x : V} {r : List V} (h : ((x :: r).any fun v => v.k != x.k) = false) : aggOf [109, 105, 110] (x :: r) = (minGo x r, 0) := by
  show (if ((x :: r).any fun v => v.k != x.k) = true then (vN, 16) else (minGo x r, 0)) = _
  rw [h]; rfl
theorem agg_max {x : V} {r : List V} (h : ((x :: r).any fun v => v.k != x.k) = false) : aggOf [109, 97, 120] (x :: r) = (maxGo x r, 0) := by
  show (if ((x :: r).any fun v => v.k != x.k) = true then (vN, 16) else (maxGo x r, 0)) = _
  rw [h]; rfl
theorem agg_sum {x : V} {r : List V} (h : ((x :: r).any fun v => v.k != 1) = false) : aggOf [115, 117, 109] (x :: r) = sWhole (sumN (x :: r)) := by
  show (if ((x :: r).any fun v => v.k != 1) = true then (vN, 16) else sWhole (sumN (x :: r))) = _
  rw [h]; rfl
theorem any_of_one {K : Int} {l : List V} (h : One K l) : (l.any fun v => v.k != K) = false := by
  rw [List.any_eq_false]
  intro v hv
  simp [(h v hv).2]
theorem plus_two {m n : Int} (hm : -1099511627776 ≤ m ∧ m ≤ 1099511627776) (hn : -1099511627776 ≤ n ∧ n ≤ 1099511627776) : vBinary [43] (vI m) (vI n) = sWhole (m + n) := bin_ar rfl rfl rfl rfl (sv_i hm.1 hm.2) (sv_i hn.1 hn.2)
theorem agg_join {op : List UInt8} (hop : op ∈ aggL) (p q : List V) (hp : ∀ v ∈ p, sValid v = true ∧ v.k ≠ 0) (hq : ∀ v ∈ q, sValid v = true ∧ v.k ≠ 0) (h : (aggOf op (p ++ q)).2 = 0) (h1 : (aggOf op p).2 = 0) (h2 : (aggOf op q).2 = 0) :
    joined op (aggOf op p).1 (aggOf op q).1 = ((aggOf op (p ++ q)).1, 0) := by
  simp only [aggL, List.mem_cons, List.not_mem_nil, or_false] at hop
  rcases hop with rfl | hop
  · have e : ∀ l : List V, aggOf [99, 111, 117, 110, 116] l = sWhole (l.length : Int) := fun _ => rfl
    rw [e] at h h1 h2 ⊢
    rw [e, e]
    obtain ⟨b1, b2, b3⟩ := sWhole_ok h
    obtain ⟨c1, c2, c3⟩ := sWhole_ok h1
    obtain ⟨d1, d2, d3⟩ := sWhole_ok h2
    rw [b3, c3, d3]
    show vBinary [43] (vI _) (vI _) = _
    rw [plus_two ⟨c1, c2⟩ ⟨d1, d2⟩]
    rw [List.length_append, Int.natCast_add] at b1 b2 b3 ⊢
    exact b3
  have hnc : (op == [99, 111, 117, 110, 116]) = false := by rcases hop with rfl | rfl | rfl <;> rfl
  have en : aggOf op [] = (vN, 0) := by unfold aggOf; rw [hnc]; rfl
  cases p with
  | nil =>
    rw [en, List.nil_append]
    show (_, _) = _
    rfl
  | cons x r =>
    have o1 := agg_ok_one hp hnc h1
    have o0 := agg_ok_one (x := x) (r := r ++ q) (fun v hv => by
      rcases List.mem_append.1 (show v ∈ (x :: r) ++ q from hv) with h | h
      · exact hp v h
      · exact hq v h) hnc h
    cases q with
    | nil =>
      rw [en, List.append_nil]
      unfold joined
      split
      · rename_i hk
        rcases hop with rfl | rfl | rfl
        · rw [agg_sum (any_of_one o1)] at h1 hk ⊢
          rw [(sWhole_ok h1).2.2] at hk
          cases hk
        · rw [agg_min (any_of_one o1)] at hk
          have := (hp _ (minGo_spec r x o1).1).2
          exact absurd (by simpa using hk) this
        · rw [agg_max (any_of_one o1)] at hk
          have := (hp _ (maxGo_spec r x o1).1).2
          exact absurd (by simpa using hk) this
      · simp [vN]
    | cons y s =>
      have o2 := agg_ok_one hq hnc h2
      have hxk : aK op x = aK op y := by
        have a := (o0 y (List.mem_cons_of_mem _ (List.mem_append_right _ List.mem_cons_self))).2
        have b := (o2 y List.mem_cons_self).2
        rw [← a, b]
      rw [← hxk] at o2
      have o0' : One (aK op x) (x :: r ++ y :: s) := o0
      rcases hop with rfl | rfl | rfl
      · rw [agg_sum (any_of_one o1)] at h1 ⊢
        rw [agg_sum (any_of_one o2)] at h2 ⊢
        rw [List.cons_append] at h ⊢
        rw [agg_sum (any_of_one o0)] at h ⊢
        obtain ⟨b1, b2, b3⟩ := sWhole_ok h
        obtain ⟨c1, c2, c3⟩ := sWhole_ok h1
        obtain ⟨d1, d2, d3⟩ := sWhole_ok h2
        rw [b3, c3, d3]
        show vBinary [43] (vI _) (vI _) = _
        rw [plus_two ⟨c1, c2⟩ ⟨d1, d2⟩]
        have e : sumN (x :: r) + sumN (y :: s) = sumN (x :: (r ++ y :: s)) := by rw [← sumN_append]; rfl
        rw [e]
        exact b3
      · rw [agg_min (any_of_one o1), agg_min (show ((y :: s).any fun v => v.k != y.k) = false from by have := any_of_one o2; rw [hxk] at this; exact this), List.cons_append, agg_min (any_of_one o0)]
        have a1 := minGo_spec r x o1
        have a2 := minGo_spec s y o2
        have a0 := minGo_spec (r ++ y :: s) x o0
        generalize minGo x r = m1 at a1 ⊢
        generalize minGo y s = m2 at a2 ⊢
        generalize minGo x (r ++ y :: s) = m0 at a0 ⊢
        have k1 := o1 m1 a1.1
        have k2 := o2 m2 a2.1
        have n1 := (hp m1 a1.1).2
        have n2 := (hq m2 a2.1).2
        have i1 : m1 ∈ x :: (r ++ y :: s) := by rw [← List.cons_append]; exact List.mem_append_left _ a1.1
        have i2 : m2 ∈ x :: (r ++ y :: s) := by rw [← List.cons_append]; exact List.mem_append_right _ a2.1
        have z1 : (m1.k == 0) = false := by simpa using n1
        have z2 : (m2.k == 0) = false := by simpa using n2
        have hj : joined [109, 105, 110] m1 m2 = vCall [108, 101, 97, 115, 116] [m1, m2] := by unfold joined; rw [z1, z2]; rfl
        rw [hj, call_two (.inl rfl) k1.1 k2.1 n1 (by rw [k1.2, k2.2])]
        show (sLeast m1 m2, (0 : Int)) = (m0, 0)
        congr 1
        have l1 := a0.2 m1 i1
        have l2 := a0.2 m2 i2
        have sw := sCmp_swap (a := m1) (b := m2) (by rw [k1.2, k2.2])
        have m0in : m0 ∈ x :: r ∨ m0 ∈ y :: s := List.mem_append.1 (show m0 ∈ (x :: r) ++ y :: s from a0.1)
        unfold sLeast
        split
        · refine anti o0 i2 a0.1 ?_ l2
          rcases m0in with hm | hm
          · exact sCmp_trans (b := m1) (by rw [k1.2, k2.2]) (by rw [k1.2, (o1 m0 hm).2]) (by omega) (a1.2 m0 hm)
          · exact a2.2 m0 hm
        · refine anti o0 i1 a0.1 ?_ l1
          rcases m0in with hm | hm
          · exact a1.2 m0 hm
          · exact sCmp_trans (b := m2) (by rw [k1.2, k2.2]) (by rw [k2.2, (o2 m0 hm).2]) (by omega) (a2.2 m0 hm)
      · rw [agg_max (any_of_one o1), agg_max (show ((y :: s).any fun v => v.k != y.k) = false from by have := any_of_one o2; rw [hxk] at this; exact this), List.cons_append, agg_max (any_of_one o0)]
        have a1 := maxGo_spec r x o1
        have a2 := maxGo_spec s y o2
        have a0 := maxGo_spec (r ++ y :: s) x o0
        generalize maxGo x r = m1 at a1 ⊢
        generalize maxGo y s = m2 at a2 ⊢
        generalize maxGo x (r ++ y :: s) = m0 at a0 ⊢
        have k1 := o1 m1 a1.1
        have k2 := o2 m2 a2.1
        have n1 := (hp m1 a1.1).2
        have n2 := (hq m2 a2.1).2
        have i1 : m1 ∈ x :: (r ++ y :: s) := by rw [← List.cons_append]; exact List.mem_append_left _ a1.1
        have i2 : m2 ∈ x :: (r ++ y :: s) := by rw [← List.cons_append]; exact List.mem_append_right _ a2.1
        have z1 : (m1.k == 0) = false := by simpa using n1
        have z2 : (m2.k == 0) = false := by simpa using n2
        have hj : joined [109, 97, 120] m1 m2 = vCall [103, 114, 101, 97, 116, 101, 115, 116] [m1, m2] := by unfold joined; rw [z1, z2]; rfl
        rw [hj, call_two (.inr rfl) k1.1 k2.1 n1 (by rw [k1.2, k2.2])]
        show (sGreatest m1 m2, (0 : Int)) = (m0, 0)
        congr 1
        have l1 := a0.2 m1 i1
        have l2 := a0.2 m2 i2
        have sw := sCmp_swap (a := m1) (b := m2) (by rw [k1.2, k2.2])
        have m0in : m0 ∈ x :: r ∨ m0 ∈ y :: s := List.mem_append.1 (show m0 ∈ (x :: r) ++ y :: s from a0.1)
        unfold sGreatest
        split
        · refine anti o0 i2 a0.1 l2 ?_
          rcases m0in with hm | hm
          · exact sCmp_trans (b := m1) (by rw [k1.2, (o1 m0 hm).2]) (by rw [k1.2, k2.2]) (a1.2 m0 hm) (by omega)
          · exact a2.2 m0 hm
        · refine anti o0 i1 a0.1 l1 ?_
          rcases m0in with hm | hm
          · exact a1.2 m0 hm
          · exact sCmp_trans (b := m2) (by rw [k2.2, (o2 m0 hm).2]) (by rw [k1.2, k2.2]) (a2.2 m0 hm) (by omega)
theorem agg_both {op : List UInt8} (hop : op ∈ aggL) (l r : List V) (hl : l.all sValid = true) (hr : r.all sValid = true) (h : (vAgg op (l ++ r)).2 = 0) (h1 : (vAgg op l).2 = 0) (h2 : (vAgg op r).2 = 0) : joined op (vAgg op l).1 (vAgg op r).1 = ((vAgg op (l ++ r)).1, 0) := by
  have hag : sIsAgg op = true := by
    simp only [aggL, List.mem_cons, List.not_mem_nil, or_false] at hop
    rcases hop with rfl | rfl | rfl | rfl <;> rfl
  have e : ∀ x : List V, x.all sValid = true → vAgg op x = aggOf op (present x) := fun x hx => by unfold vAgg; rw [hx, hag]; rfl
  have hlr : (l ++ r).all sValid = true := by rw [List.all_append, hl, hr]; rfl
  rw [e _ hlr, present_append] at h ⊢
  rw [e _ hl] at h1 ⊢
  rw [e _ hr] at h2 ⊢
  exact agg_join hop _ _ (pres_ok hl) (pres_ok hr) h h1 h2
end Go.Proofs.YtpmfpfkahanlaaaGreatDoor

/- What is written is read so: Text and Parse of package value, and of the reference. -/
namespace Go.Proofs.YtpmfpfkahanlaaaGreatDoor
set_option linter.unusedSimpArgs false
set_option linter.unusedVariables false

theorem dig_toNat {d : Nat} (h : d < 10) : (UInt8.ofNat (48 + d)).toNat = 48 + d := by
  rw [UInt8.toNat_ofNat']; omega
theorem parse_app : ∀ (l : List UInt8) (acc u : Nat) (r : List UInt8), Lib.parseUint10 acc l = .ok u → Lib.parseUint10 acc (l ++ r) = Lib.parseUint10 u r
  | [], acc, u, r, h => by
    simp only [Lib.parseUint10] at h
    injection h with h
    subst h
    rfl
  | c :: l, acc, u, r, h => by
    simp only [Lib.parseUint10, List.cons_append] at h ⊢
    split at h
    · rename_i h1
      rw [if_pos h1]
      split at h
      · cases h
      · rename_i h2
        rw [if_neg h2]
        split at h
        · cases h
        · rename_i h3
          rw [if_neg h3]
          exact parse_app l _ u r h
    · cases h
theorem parse_dec (u : Nat) (h : u < 10000000000000000000) : Lib.parseUint10 0 (Lib.decDigits u) = .ok u := by
  rw [Lib.decDigits]
  split
  · rename_i h1
    have e := dig_toNat h1
    simp only [Lib.parseUint10]
    rw [e, if_pos (by omega), if_neg (by omega), if_neg (by omega)]
    congr 1
    omega
  · rename_i h1
    rw [parse_app _ _ _ _ (parse_dec (u / 10) (by omega))]
    have e := dig_toNat (d := u % 10) (by omega)
    simp only [Lib.parseUint10]
    rw [e, if_pos (by omega), if_neg (by omega), if_neg (by omega)]
    congr 1
    omega
termination_by u
theorem dec_ne (u : Nat) : Lib.decDigits u ≠ [] := by
  rw [Lib.decDigits]
  split <;> simp
theorem dec_dig (u : Nat) : ∀ c ∈ Lib.decDigits u, 48 ≤ c.toNat ∧ c.toNat ≤ 57 := by
  rw [Lib.decDigits]
  split
  · rename_i h1
    intro c hc
    simp only [List.mem_cons, List.not_mem_nil, or_false] at hc
    subst hc
    rw [dig_toNat h1]
    omega
  · intro c hc
    rcases List.mem_append.1 hc with hc | hc
    · exact dec_dig (u / 10) c hc
    · simp only [List.mem_cons, List.not_mem_nil, or_false] at hc
      subst hc
      rw [dig_toNat (by omega)]
      omega
termination_by u
theorem mag_dec (u : Nat) (h : u < 10000000000000000000) : Lib.parseMag (Lib.decDigits u) = .ok u := by
  unfold Lib.parseMag
  rw [if_neg (dec_ne u), parse_dec u h]
theorem dec_head (u : Nat) : ∃ c r, Lib.decDigits u = c :: r ∧ 48 ≤ c.toNat ∧ c.toNat ≤ 57 := by
  cases h : Lib.decDigits u with
  | nil => exact absurd h (dec_ne u)
  | cons c r => exact ⟨c, r, rfl, dec_dig u c (by rw [h]; exact List.mem_cons_self)⟩
theorem atoi_itoa {n : Int} (h : -1099511627776 ≤ n) (h' : n ≤ 1099511627776) : Lib.atoiAll (Lib.itoa n) = .ok n := by
  unfold Lib.itoa
  split
  · rename_i hn
    unfold Lib.atoiAll
    simp only
    rw [if_pos (.inr rfl), mag_dec _ (by omega)]
    simp only
    rw [if_neg (by simp), if_neg (by omega), if_pos (by rfl)]
    congr 1
    omega
  · rename_i hn
    obtain ⟨c, r, he, h1, h2⟩ := dec_head n.toNat
    have hm := mag_dec n.toNat (by omega)
    rw [he] at hm ⊢
    unfold Lib.atoiAll
    simp only
    rw [if_neg (by omega), hm]
    simp only
    rw [if_neg (by omega), if_neg (by omega), if_neg (by omega)]
    congr 1
    omega
theorem atoiN_itoa {n : Int} (h : -1099511627776 ≤ n) (h' : n ≤ 1099511627776) : atoiN (Lib.itoa n) = n := by unfold atoiN; rw [atoi_itoa h h']
theorem atoiV_itoa {n : Int} (h : -1099511627776 ≤ n) (h' : n ≤ 1099511627776) : atoiV (Lib.itoa n) = some n := by unfold atoiV; rw [atoi_itoa h h']
theorem itoa_head (n : Int) : ∃ c r, Lib.itoa n = c :: r ∧ (c = 45 ∨ 48 ≤ c.toNat ∧ c.toNat ≤ 57) := by
  unfold Lib.itoa
  split
  · exact ⟨45, _, rfl, .inl rfl⟩
  · obtain ⟨c, r, he, h⟩ := dec_head n.toNat
    exact ⟨c, r, he, .inr h⟩
theorem unesc_esc : ∀ t : List UInt8, unesc (esc t) = t
  | [] => rfl
  | c :: r => by
    unfold esc
    split
    · rename_i h
      subst h
      rw [unesc, if_pos ⟨rfl, rfl⟩, unesc_esc r]
    · rename_i h
      cases he : esc r with
      | nil =>
        have := unesc_esc r
        rw [he] at this
        rw [← this]
        rfl
      | cons d s =>
        rw [unesc, if_neg (fun x => h x.1), ← he, unesc_esc r]
theorem rq_esc : ∀ t : List UInt8, rq (esc t) = t
  | [] => rfl
  | c :: r => by
    unfold esc
    split
    · rename_i h
      subst h
      rw [rq, if_pos rfl, rq_esc r]
    · rename_i h
      cases he : esc r with
      | nil =>
        have := rq_esc r
        rw [he] at this
        rw [← this]
        rfl
      | cons d s =>
        rw [rq, if_neg h, ← he, rq_esc r]
theorem fmt_t : Lib.formatBool true = [116, 114, 117, 101] := rfl
theorem fmt_f : Lib.formatBool false = [102, 97, 108, 115, 101] := rfl
theorem wr_n : sWr vN = [110, 117, 108, 108] := rfl
theorem wr_i (n : Int) : sWr (vI n) = Lib.itoa n := rfl
theorem wr_s (t : List UInt8) : sWr (vS t) = 39 :: (esc t ++ [39]) := rfl
theorem wr_b (b : Bool) : sWr (vB b) = Lib.formatBool b := by cases b <;> rfl
theorem quot_drop (l : List UInt8) : ((39 :: (l ++ [39])).drop 1).take ((39 :: (l ++ [39])).length - 2) = l := by
  simp
theorem quot_is (l : List UInt8) : isQ (39 :: (l ++ [39])) = true := by
  unfold isQ
  have h1 : (39 :: (l ++ [39])).length = l.length + 2 := by simp
  have h2 : (39 :: (l ++ [39]))[l.length + 1]? = some 39 := by simp
  rw [h1]
  simp [h2]
theorem head_ne {c d : UInt8} {r s : List UInt8} (h : c ≠ d) : ((c :: r) == (d :: s)) = false := by simp [h]
theorem itoa_ne {n : Int} {d : UInt8} (s : List UInt8) (h : d ≠ 45) (h' : ¬ (48 ≤ d.toNat ∧ d.toNat ≤ 57)) : (Lib.itoa n == d :: s) = false := by
  obtain ⟨c, r, he, hc⟩ := itoa_head n
  rw [he]
  refine head_ne ?_
  rintro rfl
  rcases hc with hc | hc
  · exact h hc
  · exact h' hc
theorem itoa_zero {n : Int} : (Lib.itoa n)[0]? ≠ some 39 := by
  obtain ⟨c, r, he, hc⟩ := itoa_head n
  rw [he]
  intro e
  have : c = 39 := by simpa using e
  subst this
  rcases hc with hc | hc
  · cases hc
  · exact absurd hc.1 (by decide)
theorem cand_wr {v : V} (h : sValid v = true) : cand (sWr v) = v := by
  rcases sv_cases h with rfl | ⟨n, rfl, h1, h2⟩ | ⟨t, rfl, h1⟩ | ⟨x, rfl⟩
  · rfl
  · rw [wr_i]
    unfold cand isQ
    rw [itoa_ne _ (by decide) (by decide), itoa_ne _ (by decide) (by decide)]
    have h3 : ((Lib.itoa n)[0]? == some 39) = false := by simpa using itoa_zero (n := n)
    have h4 : (Lib.itoa n != [110, 117, 108, 108]) = true := by rw [bne, itoa_ne _ (by decide) (by decide)]; rfl
    rw [h3, h4, atoiN_itoa h1 h2]
    simp
  · rw [wr_s]
    unfold cand
    rw [quot_is, quot_drop, unesc_esc, head_ne (by decide), head_ne (by decide)]
    rfl
  · cases x <;> rfl
theorem rcand_wr {v : V} (h : sValid v = true) : rcand (sWr v) = some v := by
  rcases sv_cases h with rfl | ⟨n, rfl, h1, h2⟩ | ⟨t, rfl, h1⟩ | ⟨x, rfl⟩
  · rfl
  · rw [wr_i]
    unfold rcand rWh
    rw [itoa_ne _ (by decide) (by decide), itoa_ne _ (by decide) (by decide), itoa_ne _ (by decide) (by decide)]
    have h3 : ((Lib.itoa n)[0]? == some 39) = false := by simpa using itoa_zero (n := n)
    rw [h3, atoiV_itoa h1 h2]
    simp [sIsInt, h1, h2]
  · rw [wr_s]
    unfold rcand
    rw [quot_drop, rq_esc, head_ne (by decide), head_ne (by decide), head_ne (by decide)]
    simp
  · cases x <;> rfl
theorem parse_wr {v : V} (h : sValid v = true) : vParse (sWr v) = (v, 0) := by
  unfold vParse
  rw [cand_wr h, h]
  simp
theorem rParse_wr {v : V} (h : sValid v = true) : rParse (sWr v) = (v, 0) := by
  unfold rParse
  rw [rcand_wr h]
  simp [vText, h]
theorem vText_ok {v : V} (h : (vText v).2 = 0) : sValid v = true ∧ (vText v).1 = sWr v := by
  unfold vText at h ⊢
  cases hv : sValid v with
  | false => rw [hv] at h; cases h
  | true => exact ⟨rfl, rfl⟩
theorem parse_eq (t : List UInt8) : vParse t = rParse t := by
  by_cases hx : ∃ v, sValid v = true ∧ sWr v = t
  · obtain ⟨v, hv, rfl⟩ := hx
    rw [parse_wr hv, rParse_wr hv]
  · have e1 : vParse t = (vN, 30) := by
      unfold vParse
      split
      · rfl
      · rename_i hc
        simp only [Bool.or_eq_true, Bool.not_eq_true', bne_iff_ne, not_or, Decidable.not_not, Bool.not_eq_false] at hc
        exact absurd ⟨_, hc.1, hc.2⟩ hx
    rw [e1]
    unfold rParse
    split
    · rfl
    · rename_i v hv
      split
      · rfl
      · rename_i hc
        simp only [Bool.or_eq_true, bne_iff_ne, not_or, Decidable.not_not] at hc
        obtain ⟨h1, h2⟩ := vText_ok hc.1
        exact absurd ⟨v, h1, by rw [← h2]; exact hc.2⟩ hx
theorem text_parse {v : V} (h : (vText v).2 = 0) : vParse (vText v).1 = (v, 0) := by
  obtain ⟨h1, h2⟩ := vText_ok h
  rw [h2, parse_wr h1]
end Go.Proofs.YtpmfpfkahanlaaaGreatDoor

/- Call and Aggregate: what package value computes is what the reference computes. -/
namespace Go.Proofs.YtpmfpfkahanlaaaGreatDoor
set_option linter.unusedSimpArgs false
set_option linter.unusedVariables false

theorem kind_bound {v : V} (h : sValid v = true) : 0 ≤ v.k ∧ v.k ≤ 3 := by
  rcases sv_cases h with rfl | ⟨n, rfl, _, _⟩ | ⟨t, rfl, _⟩ | ⟨x, rfl⟩ <;> simp [vN, vI, vS, vB]
theorem null_iff {v : V} (h : sValid v = true) : veq vN v = (v.k == 0) := by
  rcases sv_cases h with rfl | ⟨n, rfl, _, _⟩ | ⟨t, rfl, _⟩ | ⟨x, rfl⟩ <;> first | rfl | simp [veq, vN, vI, vS, vB]
theorem len_str {t : List UInt8} (h : sIsStr t = true) : t.length ≤ 200 ∧ ∀ c ∈ t, 32 ≤ c.toNat ∧ c.toNat ≤ 126 := by
  unfold sIsStr at h
  simp only [Bool.and_eq_true, decide_eq_true_eq, List.all_eq_true] at h
  exact h
theorem written_in {t : List UInt8} (h : t.length ≤ 200) : sWritten t = (vS t, 0) := by
  unfold sWritten
  rw [if_neg (by omega)]
theorem every_byte {p : UInt8 → Prop} (h : ∀ n, n < 256 → p (UInt8.ofNat n)) (c : UInt8) : p c := by
  have := h c.toNat c.toNat_lt
  rwa [UInt8.ofNat_toNat] at this
set_option maxRecDepth 100000 in
theorem upper_eq (t : List UInt8) : Lib.toUpperA t = t.map (rCasedB 97 65) := by
  unfold Lib.toUpperA
  congr 1
  funext c
  unfold Lib.upperB rCasedB Lib.isLowerB
  exact every_byte (p := fun c => (if (decide (97 ≤ c) && decide (c ≤ 122)) = true then c - 32 else c) = if 97 ≤ c ∧ c ≤ 97 + 25 then c - 97 + 65 else c) (by decide) c
set_option maxRecDepth 100000 in
theorem lower_eq (t : List UInt8) : Lib.toLowerA t = t.map (rCasedB 65 97) := by
  unfold Lib.toLowerA
  congr 1
  funext c
  unfold Lib.lowerB rCasedB Lib.isUpperB
  exact every_byte (p := fun c => (if (decide (65 ≤ c) && decide (c ≤ 90)) = true then c + 32 else c) = if 65 ≤ c ∧ c ≤ 65 + 25 then c - 65 + 97 else c) (by decide) c
theorem part_eq (t : List UInt8) (a b : Int) (h : t.length ≤ 200) : sSub t a b = rPart t a b := by
  unfold sSub rPart subC subP
  by_cases h1 : (t.length : Int) < max a 1
  · simp only [h1, decide_true, Bool.true_or, if_true]
    rw [List.drop_of_length_le (by omega), List.take_nil]
  · by_cases h2 : b < 1
    · have e : (min (max b 0) ((t.length : Int) - min (max a 1 - 1) (t.length : Int))).toNat = 0 := by omega
      simp only [h2, decide_true, Bool.or_true, if_true, e, List.take_zero]
    · rw [if_neg (by simp [h1, h2])]
      have e1 : min (max a 1 - 1) (t.length : Int) = max a 1 - 1 := by omega
      rw [e1]
      have e2 : (t.drop (max a 1 - 1).toNat).length = t.length - (max a 1 - 1).toNat := List.length_drop ..
      congr 1
      omega
theorem toInt_eq (t : List UInt8) : sToInt t = (match rWh t with | some n => (vI n, 0) | none => (vN, 21)) := by
  unfold sToInt rWh
  cases atoiV t with
  | none => rfl
  | some n =>
    simp only
    cases h1 : (Lib.itoa n == t) <;> cases h2 : sIsInt n <;> simp [sWhole, h2]
theorem least_eq {x y : V} (hk : x.k = y.k) (hx : sValid x = true) (hy : sValid y = true) : sLeast x y = if decide (rLess x y ≤ 0) == true then x else y := by
  unfold sLeast
  rw [← cmp_less hk hx hy]
  by_cases h : 0 < sCmp x y
  · rw [if_pos h, if_neg (by simp; omega)]
  · rw [if_neg h, if_pos (by simp; omega)]
theorem greatest_eq {x y : V} (hk : x.k = y.k) (hx : sValid x = true) (hy : sValid y = true) : sGreatest x y = if decide (rLess x y ≤ 0) == false then x else y := by
  unfold sGreatest
  rw [← cmp_less hk hx hy]
  by_cases h : sCmp x y < 0
  · rw [if_pos h, if_neg (by simp; omega)]
  · rw [if_neg h]
    by_cases h0 : sCmp x y = 0
    · have := (sCmp_zero hk hx hy).1 h0
      subst this
      simp
    · rw [if_pos (by simp; omega)]
theorem call_eq (op : List UInt8) (l : List V) : vCall op l = rCall op l := by
  unfold vCall rCall
  cases hv : l.all sValid with
  | false => rfl
  | true =>
    cases hs : isSig op with
    | false => rfl
    | true =>
      simp only [Bool.not_true, Bool.false_eq_true, if_false]
      have hval : ∀ v ∈ l, sValid v = true := List.all_eq_true.1 hv
      by_cases hl : (sKinds op).length = l.length
      · have e1 : ((sKinds op).length != l.length) = false := by simpa using hl
        have e2 : rFits op (l.map V.k) = rFitGo (sKinds op) (l.map V.k) 0 := by
          unfold rFits
          rw [List.length_map, e1]
          rfl
        rw [e1, e2]
        simp only [Bool.false_eq_true, if_false]
        unfold vLoop
        rcases sig_cases hs with rfl | rfl | rfl | rfl | rfl | rfl | rfl | rfl | rfl | rfl | rfl | rfl
        · have hk : sKinds [97, 98, 115] = [1] := rfl
          rw [hk] at hl ⊢
          obtain ⟨x, rfl⟩ := len1 hl.symm
          have hx := hval x (by simp)
          rcases sv_cases hx with rfl | ⟨n, rfl, h1, h2⟩ | ⟨t, rfl, h1⟩ | ⟨b, rfl⟩
          · rfl
          · show sWhole (max n (-n)) = (vI (max n (-n)), 0)
            exact sWhole_in (by omega) (by omega)
          · rfl
          · rfl
        · have hk : sKinds [115, 105, 103, 110] = [1] := rfl
          rw [hk] at hl ⊢
          obtain ⟨x, rfl⟩ := len1 hl.symm
          have hx := hval x (by simp)
          rcases sv_cases hx with rfl | ⟨n, rfl, h1, h2⟩ | ⟨t, rfl, h1⟩ | ⟨b, rfl⟩
          · rfl
          · show sWhole (min (max n (-1)) 1) = (vI (min (max n (-1)) 1), 0)
            exact sWhole_in (by omega) (by omega)
          · rfl
          · rfl
        · have hk : sKinds [108, 101, 110, 103, 116, 104] = [2] := rfl
          rw [hk] at hl ⊢
          obtain ⟨x, rfl⟩ := len1 hl.symm
          have hx := hval x (by simp)
          rcases sv_cases hx with rfl | ⟨n, rfl, h1, h2⟩ | ⟨t, rfl, h1⟩ | ⟨b, rfl⟩
          · rfl
          · rfl
          · have := (len_str h1).1
            show sWhole (t.length : Int) = (vI (t.length : Int), 0)
            exact sWhole_in (by omega) (by omega)
          · rfl
        · have hk : sKinds [117, 112, 112, 101, 114] = [2] := rfl
          rw [hk] at hl ⊢
          obtain ⟨x, rfl⟩ := len1 hl.symm
          have hx := hval x (by simp)
          rcases sv_cases hx with rfl | ⟨n, rfl, h1, h2⟩ | ⟨t, rfl, h1⟩ | ⟨b, rfl⟩
          · rfl
          · rfl
          · have := (len_str h1).1
            show sWritten (Lib.toUpperA t) = (vS (t.map (rCasedB 97 65)), 0)
            rw [upper_eq, written_in (by rw [List.length_map]; exact this)]
          · rfl
        · have hk : sKinds [108, 111, 119, 101, 114] = [2] := rfl
          rw [hk] at hl ⊢
          obtain ⟨x, rfl⟩ := len1 hl.symm
          have hx := hval x (by simp)
          rcases sv_cases hx with rfl | ⟨n, rfl, h1, h2⟩ | ⟨t, rfl, h1⟩ | ⟨b, rfl⟩
          · rfl
          · rfl
          · have := (len_str h1).1
            show sWritten (Lib.toLowerA t) = (vS (t.map (rCasedB 65 97)), 0)
            rw [lower_eq, written_in (by rw [List.length_map]; exact this)]
          · rfl
        · have hk : sKinds [115, 117, 98, 115, 116, 114] = [2, 1, 1] := rfl
          rw [hk] at hl ⊢
          obtain ⟨x, y, z, rfl⟩ := len3 hl.symm
          have hx := hval x (by simp)
          have hy := hval y (by simp)
          have hz := hval z (by simp)
          rcases sv_cases hx with rfl | ⟨n, rfl, h1, h2⟩ | ⟨t, rfl, h1⟩ | ⟨b, rfl⟩ <;> rcases sv_cases hy with rfl | ⟨m, rfl, h3, h4⟩ | ⟨t', rfl, h3⟩ | ⟨b', rfl⟩ <;> rcases sv_cases hz with rfl | ⟨k, rfl, h5, h6⟩ | ⟨t'', rfl, h5⟩ | ⟨b'', rfl⟩
          all_goals first
            | rfl
            | (have := (len_str h1).1
               show sWritten (sSub t m k) = (vS (rPart t m k), 0)
               rw [written_in, part_eq _ _ _ this]
               unfold sSub
               rw [List.length_take, List.length_drop]
               omega)
        · have hk : sKinds [116, 111, 95, 116, 101, 120, 116] = [1] := rfl
          rw [hk] at hl ⊢
          obtain ⟨x, rfl⟩ := len1 hl.symm
          have hx := hval x (by simp)
          rcases sv_cases hx with rfl | ⟨n, rfl, h1, h2⟩ | ⟨t, rfl, h1⟩ | ⟨b, rfl⟩
          · rfl
          · show sWritten (Lib.itoa n) = (vS (Lib.itoa n), 0)
            refine written_in ?_
            have := Lib.itoa_length_le n
            omega
          · rfl
          · rfl
        · have hk : sKinds [116, 111, 95, 105, 110, 116] = [2] := rfl
          rw [hk] at hl ⊢
          obtain ⟨x, rfl⟩ := len1 hl.symm
          have hx := hval x (by simp)
          rcases sv_cases hx with rfl | ⟨n, rfl, h1, h2⟩ | ⟨t, rfl, h1⟩ | ⟨b, rfl⟩
          · rfl
          · rfl
          · show sToInt t = (match rWh t with | some n => (vI n, 0) | none => (vN, 21))
            exact toInt_eq t
          · rfl
        · have hk : sKinds [110, 118, 108] = [0, 0] := rfl
          rw [hk] at hl ⊢
          obtain ⟨x, y, rfl⟩ := len2 hl.symm
          have hx := hval x (by simp)
          have hy := hval y (by simp)
          rcases sv_cases hx with rfl | ⟨n, rfl, h1, h2⟩ | ⟨t, rfl, h1⟩ | ⟨b, rfl⟩ <;> rcases sv_cases hy with rfl | ⟨m, rfl, h3, h4⟩ | ⟨t', rfl, h3⟩ | ⟨b', rfl⟩ <;> rfl
        · have hk : sKinds [110, 117, 108, 108, 105, 102] = [0, 0] := rfl
          rw [hk] at hl ⊢
          obtain ⟨x, y, rfl⟩ := len2 hl.symm
          have hx := hval x (by simp)
          have hy := hval y (by simp)
          rcases sv_cases hx with rfl | ⟨n, rfl, h1, h2⟩ | ⟨t, rfl, h1⟩ | ⟨b, rfl⟩ <;> rcases sv_cases hy with rfl | ⟨m, rfl, h3, h4⟩ | ⟨t', rfl, h3⟩ | ⟨b', rfl⟩ <;> rfl
        · have hk : sKinds [108, 101, 97, 115, 116] = [0, 0] := rfl
          rw [hk] at hl ⊢
          obtain ⟨x, y, rfl⟩ := len2 hl.symm
          have hx := hval x (by simp)
          have hy := hval y (by simp)
          rcases sv_cases hx with rfl | ⟨n, rfl, h1, h2⟩ | ⟨t, rfl, h1⟩ | ⟨b, rfl⟩ <;> rcases sv_cases hy with rfl | ⟨m, rfl, h3, h4⟩ | ⟨t', rfl, h3⟩ | ⟨b', rfl⟩
          all_goals first
            | rfl
            | exact congrArg (fun z => (z, (0 : Int))) (least_eq (by rfl) hx hy)
        · have hk : sKinds [103, 114, 101, 97, 116, 101, 115, 116] = [0, 0] := rfl
          rw [hk] at hl ⊢
          obtain ⟨x, y, rfl⟩ := len2 hl.symm
          have hx := hval x (by simp)
          have hy := hval y (by simp)
          rcases sv_cases hx with rfl | ⟨n, rfl, h1, h2⟩ | ⟨t, rfl, h1⟩ | ⟨b, rfl⟩ <;> rcases sv_cases hy with rfl | ⟨m, rfl, h3, h4⟩ | ⟨t', rfl, h3⟩ | ⟨b', rfl⟩
          all_goals first
            | rfl
            | exact congrArg (fun z => (z, (0 : Int))) (greatest_eq (by rfl) hx hy)
      · have e1 : ((sKinds op).length != l.length) = true := by simpa using hl
        have e2 : rFits op (l.map V.k) = 17 := by
          unfold rFits
          rw [List.length_map, e1]
          rfl
        rw [e1, e2]
        rfl

theorem rmin_eq {K : Int} : ∀ (r : List V) (m : V), One K (m :: r) → rMinMax [109, 105, 110] m r = minGo m r
  | [], m, h => rfl
  | y :: r, m, h => by
    have hm := h m List.mem_cons_self
    have hy := h y (List.mem_cons_of_mem _ List.mem_cons_self)
    have e : rLess y m = sCmp y m := (cmp_less (by rw [hy.2, hm.2]) hy.1 hm.1).symm
    have hx : One K ((if sCmp y m < 0 then y else m) :: r) := by
      intro v hv
      rcases List.mem_cons.1 hv with rfl | hv
      · split
        · exact hy
        · exact hm
      · exact h v (List.mem_cons_of_mem _ (List.mem_cons_of_mem _ hv))
    show rMinMax [109, 105, 110] (if (true && decide (rLess y m < 0)) || (false && decide (0 < rLess y m)) then y else m) r = minGo (if sCmp y m < 0 then y else m) r
    rw [e, Bool.true_and, Bool.false_and, Bool.or_false]
    simp only [decide_eq_true_eq]
    exact rmin_eq r _ hx
theorem rmax_eq {K : Int} : ∀ (r : List V) (m : V), One K (m :: r) → rMinMax [109, 97, 120] m r = maxGo m r
  | [], m, h => rfl
  | y :: r, m, h => by
    have hm := h m List.mem_cons_self
    have hy := h y (List.mem_cons_of_mem _ List.mem_cons_self)
    have e : rLess y m = sCmp y m := (cmp_less (by rw [hy.2, hm.2]) hy.1 hm.1).symm
    have hx : One K ((if 0 < sCmp y m then y else m) :: r) := by
      intro v hv
      rcases List.mem_cons.1 hv with rfl | hv
      · split
        · exact hy
        · exact hm
      · exact h v (List.mem_cons_of_mem _ (List.mem_cons_of_mem _ hv))
    show rMinMax [109, 97, 120] (if (false && decide (rLess y m < 0)) || (true && decide (0 < rLess y m)) then y else m) r = maxGo (if 0 < sCmp y m then y else m) r
    rw [e, Bool.true_and, Bool.false_and, Bool.false_or]
    simp only [decide_eq_true_eq]
    exact rmax_eq r _ hx
theorem rmm_first {K : Int} (op : List UInt8) (x : V) (r : List V) (h : One K (x :: r)) : rMinMax op x (x :: r) = rMinMax op x r := by
  have hx := h x List.mem_cons_self
  show rMinMax op (if _ then x else x) r = _
  rw [ite_self]
theorem sum_kind {x : V} {r : List V} : ((x :: r).any fun v => v.k != x.k || v.k != 1) = ((x :: r).any fun v => v.k != 1) := by
  by_cases h : x.k = 1
  · rw [h]
    congr 1
    funext v
    exact Bool.or_self _
  · have e : (x.k != 1) = true := by simpa using h
    simp only [List.any_cons, e, Bool.or_true, Bool.true_or]
theorem agg_eq (op : List UInt8) (l : List V) (hb : l.length ≤ 1099511627776) : vAgg op l = rAgg op l := by
  unfold vAgg rAgg
  cases hv : l.all sValid with
  | false => rfl
  | true =>
    cases hs : sIsAgg op with
    | false => rfl
    | true =>
      simp only [Bool.not_true, Bool.false_eq_true, if_false]
      have hp := pres_ok hv
      have hpl : (present l).length ≤ l.length := List.length_filter_le _ _
      have hop : op ∈ aggL := by
        unfold sIsAgg hasL at hs
        simpa using hs
      simp only [aggL, List.mem_cons, List.not_mem_nil, or_false] at hop
      rcases hop with rfl | hop
      · show sWhole ((present l).length : Int) = (vI ((present l).length : Int), 0)
        exact sWhole_in (by omega) (by omega)
      have hnc : (op == [99, 111, 117, 110, 116]) = false := by rcases hop with rfl | rfl | rfl <;> rfl
      unfold aggOf rAggOf
      rw [hnc]
      simp only [Bool.false_eq_true, if_false]
      generalize present l = p at hp
      cases p with
      | nil => rfl
      | cons x r =>
        simp only
        rcases hop with rfl | rfl | rfl
        · show (if ((x :: r).any fun v => v.k != 1) = true then (vN, 16) else sWhole (sumN (x :: r))) = (if ((x :: r).any fun v => v.k != x.k || v.k != 1) = true then (vN, 16) else sWhole (sumN (x :: r)))
          rw [sum_kind]
        · show (if ((x :: r).any fun v => v.k != x.k) = true then (vN, 16) else (minGo x r, 0)) = (if ((x :: r).any fun v => v.k != x.k || false) = true then (vN, 16) else (rMinMax [109, 105, 110] x (x :: r), 0))
          simp only [Bool.or_false]
          split
          · rfl
          · rename_i hc
            have o := one_of (K := x.k) hp (Bool.eq_false_iff.2 hc)
            rw [rmm_first _ _ _ o, rmin_eq _ _ o]
        · show (if ((x :: r).any fun v => v.k != x.k) = true then (vN, 16) else (maxGo x r, 0)) = (if ((x :: r).any fun v => v.k != x.k || false) = true then (vN, 16) else (rMinMax [109, 97, 120] x (x :: r), 0))
          simp only [Bool.or_false]
          split
          · rfl
          · rename_i hc
            have o := one_of (K := x.k) hp (Bool.eq_false_iff.2 hc)
            rw [rmm_first _ _ _ o, rmax_eq _ _ o]
end Go.Proofs.YtpmfpfkahanlaaaGreatDoor

/- whole of the reference: what its loop reads is what Atoi reads. -/
namespace Go.Proofs.YtpmfpfkahanlaaaGreatDoor
set_option linter.unusedSimpArgs false
set_option linter.unusedVariables false

def whGo : Int → List UInt8 → Option Int
  | n, [] => some n
  | n, c :: r => if c.toNat < 48 ∨ 57 < c.toNat then none else whGo (10 * n + ((c.toNat : Int) - 48)) r
def whNeg (t : List UInt8) : Bool := t[0]? == some 45
def whFrom (t : List UInt8) : Nat := if whNeg t then 1 else 0
def whL (t : List UInt8) : List UInt8 := (t.take 16).drop (whFrom t)
def whSg (t : List UInt8) (n : Int) : Int := if whNeg t then -n else n
theorem whGo_parse : ∀ (l : List UInt8) (acc u : Nat), Lib.parseUint10 acc l = .ok u → whGo (acc : Int) l = some (u : Int)
  | [], acc, u, h => by
    simp only [Lib.parseUint10] at h
    injection h with h
    subst h
    rfl
  | c :: l, acc, u, h => by
    simp only [Lib.parseUint10] at h
    split at h
    · rename_i h1
      split at h
      · cases h
      · split at h
        · cases h
        · have ih := whGo_parse l _ u h
          unfold whGo
          rw [if_neg (by omega)]
          rw [← ih]
          congr 1
          omega
    · cases h
theorem dec_len' : ∀ (k u : Nat), u < 10 ^ (k + 1) → (Lib.decDigits u).length ≤ k + 1
  | 0, u, h => by
    rw [Lib.decDigits, dif_pos (by simpa using h)]
    simp
  | k + 1, u, h => by
    rw [Lib.decDigits]
    split
    · simp
    · have := dec_len' k (u / 10) (by rw [Nat.pow_succ] at h; omega)
      simp only [List.length_append, List.length_cons, List.length_nil]
      omega
theorem dec_len {u : Nat} (h : u < 1000000000000000) : (Lib.decDigits u).length ≤ 15 := dec_len' 14 u (by simpa using h)
theorem itoa_neg {n : Int} (h : n < 0) : Lib.itoa n = 45 :: Lib.decDigits n.natAbs := by unfold Lib.itoa; rw [if_pos h]
theorem itoa_pos {n : Int} (h : ¬ n < 0) : Lib.itoa n = Lib.decDigits n.toNat := by unfold Lib.itoa; rw [if_neg h]
theorem whNeg_itoa (n : Int) : whNeg (Lib.itoa n) = decide (n < 0) := by
  by_cases h : n < 0
  · rw [itoa_neg h]
    simp [whNeg, h]
  · rw [itoa_pos h]
    obtain ⟨c, r, he, h1, h2⟩ := dec_head n.toNat
    rw [he]
    have : c ≠ 45 := by rintro rfl; simp at h1
    simp [whNeg, h, this]
theorem sInt_iff {n : Int} : sIsInt n = true ↔ (-1099511627776 ≤ n ∧ n ≤ 1099511627776) := by simp [sIsInt]
theorem wh_itoa {n : Int} (h : sIsInt n = true) : ∃ m, whGo 0 (whL (Lib.itoa n)) = some m ∧ whSg (Lib.itoa n) m = n := by
  obtain ⟨h1, h2⟩ := sInt_iff.1 h
  have hn := whNeg_itoa n
  by_cases h0 : n < 0
  · have e := itoa_neg h0
    rw [decide_eq_true h0] at hn
    refine ⟨(n.natAbs : Int), ?_, ?_⟩
    · unfold whL whFrom
      rw [hn, if_pos rfl, e]
      have hl := dec_len (u := n.natAbs) (by omega)
      rw [List.take_of_length_le (by simp; omega)]
      exact whGo_parse _ 0 _ (parse_dec _ (by omega))
    · unfold whSg
      rw [hn, if_pos rfl]
      omega
  · have e := itoa_pos h0
    rw [decide_eq_false h0] at hn
    refine ⟨(n.toNat : Int), ?_, ?_⟩
    · unfold whL whFrom
      rw [hn, if_neg (by simp), e, List.drop_zero]
      have hl := dec_len (u := n.toNat) (by omega)
      rw [List.take_of_length_le (by omega)]
      exact whGo_parse _ 0 _ (parse_dec _ (by omega))
    · unfold whSg
      rw [hn, if_neg (by simp)]
      omega
theorem rWh_some {t : List UInt8} {n : Int} (h : rWh t = some n) : sIsInt n = true ∧ Lib.itoa n = t := by
  unfold rWh at h
  split at h
  · split at h
    · rename_i h1
      injection h with h
      subst h
      simp only [Bool.and_eq_true, beq_iff_eq] at h1
      exact h1
    · cases h
  · cases h
theorem rWh_of {t : List UInt8} {n : Int} (h : sIsInt n = true) (e : Lib.itoa n = t) : rWh t = some n := by
  obtain ⟨h1, h2⟩ := sInt_iff.1 h
  subst e
  unfold rWh
  rw [atoiV_itoa h1 h2]
  simp [h]
theorem wh_none {t : List UInt8} (h : whGo 0 (whL t) = none) : rWh t = none := by
  cases e : rWh t with
  | none => rfl
  | some n =>
    obtain ⟨h1, rfl⟩ := rWh_some e
    obtain ⟨m, h2, _⟩ := wh_itoa h1
    rw [h] at h2
    cases h2
theorem wh_some {t : List UInt8} {n : Int} (h : whGo 0 (whL t) = some n) : rWh t = if sIsInt (whSg t n) && Lib.itoa (whSg t n) == t then some (whSg t n) else none := by
  split
  · rename_i h1
    simp only [Bool.and_eq_true, beq_iff_eq] at h1
    exact rWh_of h1.1 h1.2
  · rename_i h1
    cases e : rWh t with
    | none => rfl
    | some m =>
      obtain ⟨h2, rfl⟩ := rWh_some e
      obtain ⟨x, h3, h4⟩ := wh_itoa h2
      rw [h] at h3
      injection h3 with h3
      subst h3
      rw [h4] at h1
      simp [h2] at h1
end Go.Proofs.YtpmfpfkahanlaaaGreatDoor
