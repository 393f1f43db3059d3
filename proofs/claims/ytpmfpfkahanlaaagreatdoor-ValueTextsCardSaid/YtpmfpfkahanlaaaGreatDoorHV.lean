/- digits of the reference, walked. -/
import Derived.Test.YtpmfpfkahanlaaaGreatDoorHA
import Derived.Test.YtpmfpfkahanlaaaGreatDoorHM
import Derived.OwnWalk
import Derived.Lib.BufferRead
import Derived.Laws.IdiomStrings
namespace Go.Proofs.YtpmfpfkahanlaaaGreatDoor
open Go.RowKit
set_option linter.unusedSimpArgs false
set_option linter.unusedVariables false
attribute [local go_sem] Later.cell Later.lt
attribute [local go_sem high] run_eqV run_neV

theorem cat_l (a b : List UInt8) : (⟨a.toArray⟩ : ByteArray) ++ ⟨b.toArray⟩ = ⟨(a ++ b).toArray⟩ := by
  apply ByteArray.ext
  simp
attribute [local go_sem] cat_l
theorem enc_low (d : Nat) (h : d < 128) : Utf8.encode (d : Int) = ⟨#[UInt8.ofNat d]⟩ := by
  unfold Utf8.encode
  have : Utf8.valid (d : Int) = true := by simp [Utf8.valid]; left; omega
  simp [this, h]
theorem dec_big {n : Nat} (h : ¬ n < 10) : Lib.decDigits n = Lib.decDigits (n / 10) ++ [UInt8.ofNat (48 + n % 10)] := by rw [Lib.decDigits, dif_neg h]
theorem dec_small {n : Nat} (h : n < 10) : Lib.decDigits n = [UInt8.ofNat (48 + n)] := by rw [Lib.decDigits, dif_pos h]
theorem enc_dig (n : Nat) : Utf8.encode (48 + (n : Int) % 10) = ⟨[UInt8.ofNat (48 + n % 10)].toArray⟩ := by
  rw [show (48 : Int) + (n : Int) % 10 = ((48 + n % 10 : Nat) : Int) by omega]
  exact enc_low _ (by omega)
theorem bytes1 (a : UInt8) : (#[a] : Array UInt8) = [a].toArray := rfl
set_option maxRecDepth 100000 in
set_option maxHeartbeats 1000000 in
theorem decD_any : ∀ (k n : Nat) (w : World), n ≤ k → n ≤ 9223372036854775807 →
    Calls Tryz.prog 101 #[.int .i64 (n : Int)] w fun e w' => e = .returned (.string ⟨(Lib.decDigits n).toArray⟩) ∧ w = w' := by
  intro k
  induction k with
  | zero =>
    intro n w h1 h2
    obtain rfl : n = 0 := by omega
    go_enter Tryz.func101, Tryz.ntmps101
    go_wp2_with fail
    go_ret
    exact ⟨by rw [dec_small (by decide)]; exact congrArg (fun s => Ending.returned (Value.string s)) (enc_low 48 (by decide)), rfl⟩
  | succ k ih =>
    intro n w h1 h2
    by_cases hn : n < 10
    · clear ih
      have hi : (n : Int) < 10 := by omega
      go_enter Tryz.func101, Tryz.ntmps101
      go_wp2_with fail
      ((try simp only [Exit.inBlock, Exit.then]); refine bodyPost_ret (by simp only [results, Tryz.results101]; go_simp; try rfl) rfl ?_)
      exact ⟨by rw [dec_small hn, enc_dig, Nat.mod_eq_of_lt hn], rfl⟩
    · have H := ih (n / 10) w (by omega) (by omega)
      rw [show ((n / 10 : Nat) : Int) = (n : Int) / 10 by omega] at H
      have IH := Lib.hid H
      clear ih H
      have hi : ¬ (n : Int) < 10 := by omega
      have HD := Lib.hid (dec_big hn)
      have hl := dec_len' 19 (n / 10) (by have : (9223372036854775807 : Nat) < 10 ^ (19 + 1) := by decide
                                          omega)
      have hz : ¬ 9223372036854775807 < (Lib.decDigits (n / 10)).length + 1 := by omega
      clear hl
      go_enter Tryz.func101, Tryz.ntmps101
      go_wp2_with fail
      refine IH.out.mono ?_; rintro e w' ⟨rfl, rfl⟩
      rw [enc_dig]
      go_wp2_with fail
      ((try simp only [Exit.inBlock, Exit.then]); refine bodyPost_ret (by simp only [results, Tryz.results101]; go_simp; try rfl) rfl ?_)
      exact ⟨by simp [HD.out], rfl⟩
theorem digits_any (n : Int) (w : World) (h0 : -9223372036854775807 ≤ n) (h1 : n ≤ 9223372036854775807) :
    Calls Tryz.prog 101 #[.int .i64 n] w fun e w' => e = .returned (.string ⟨(Lib.itoa n).toArray⟩) ∧ w = w' := by
  by_cases hn : n < 0
  · have H := decD_any n.natAbs n.natAbs w (Nat.le_refl _) (by omega)
    rw [show ((n.natAbs : Nat) : Int) = -n by omega] at H
    have IH := Lib.hid H
    have HI := Lib.hid (itoa_neg hn)
    have hl := dec_len' 19 n.natAbs (by have : (9223372036854775807 : Nat) < 10 ^ (19 + 1) := by decide
                                        omega)
    have hz : ¬ 9223372036854775807 < 1 + (Lib.decDigits n.natAbs).length := by omega
    clear hl
    clear H
    go_enter Tryz.func101, Tryz.ntmps101
    go_wp2_with fail
    refine IH.out.mono ?_; rintro e w' ⟨rfl, rfl⟩
    go_wp2_with fail
    ((try simp only [Exit.inBlock, Exit.then]); refine bodyPost_ret (by simp only [results, Tryz.results101]; go_simp; try rfl) rfl ?_)
    exact ⟨by rw [HI.out], rfl⟩
  · have H := decD_any n.toNat n.toNat w (Nat.le_refl _) (by omega)
    rw [show ((n.toNat : Nat) : Int) = n by omega, ← itoa_pos hn] at H
    exact H
end Go.Proofs.YtpmfpfkahanlaaaGreatDoor

/- whole, cased, part and Quoted of the reference, walked. -/
namespace Go.Proofs.YtpmfpfkahanlaaaGreatDoor
open Go.RowKit
set_option linter.unusedSimpArgs false
set_option linter.unusedVariables false
attribute [local go_sem] Later.cell Later.lt
attribute [local go_sem high] run_eqV run_neV

theorem info5 : (Tryz.prog.info? 5).map (fun i => (i.zero, i.size, i.bytes)) = some (some (.int .u8 0), 1, 1) := by kernel_rfl
def byteV (c : UInt8) : Value := .int .u8 (c.toNat : Int)
theorem conv_own {w : World} {B : Nat} {v : Value} {n : Nat} {t : List UInt8} (h : w.ownsRow B 5 1 v n (t.map byteV)) : (convert 100 9 v).run Tryz.prog w = .ok (.string ⟨t.toArray⟩) w := by
  obtain ⟨hl, h⟩ := h
  have hlen : t.length = n := by simpa using hl
  rcases h with ⟨rfl, rfl⟩ | ⟨g, cap, cur, rfl, hg, hh, h1, h2, h3, h4⟩
  · obtain rfl : t = [] := List.eq_nil_of_length_eq_zero hlen
    exact Lib.run_convert_nil_bytes w 100 9 5 0 Tryz.underlying100 Tryz.underlying5 Tryz.underlying9
  · subst hlen
    refine run_convert_bytes_back w 100 9 5 ⟨g, 0, none⟩ cap t Tryz.underlying100 Tryz.underlying5 Tryz.underlying9 fun j hj => ?_
    have h5 : (cur.toList.take (t.length * 1))[j]? = (t.map byteV)[j]? := by rw [h4]
    rw [List.getElem?_take_of_lt (by omega)] at h5
    have e : cur[j]? = some (byteV t[j]) := by simpa [hj] using h5
    by_cases h0 : j = 0
    · subst h0
      simp [World.cell?, hh, e, Addr.add, byteV]
    · simp [World.cell?, hh, e, Addr.add, byteV, h0]
theorem part_mid (t : List UInt8) (P Q : Nat) : (t.take Q).drop P = (t.drop P).take (Q - P) := List.drop_take ..
theorem ext_l (t : List UInt8) (A M : Nat) : (⟨t.toArray⟩ : ByteArray).extract A M = ⟨((t.drop A).take (M - A)).toArray⟩ := by
  apply ByteArray.ext
  apply Array.toList_inj.1
  simp [List.drop_take]
set_option maxRecDepth 100000 in
theorem part_go (t : List UInt8) (a : Int) (B A : Nat) (w : World) (ht : t.length ≤ 200) (hA : max a 1 = (A : Int) + 1) (hl : A < t.length) (h1 : a ≤ 1099511627776) (hb : 1 ≤ B) (h3 : B ≤ 1099511627776) (R : List UInt8) (hRR : rPart t a B = R) :
    Calls Tryz.prog 125 #[.string ⟨t.toArray⟩, .int .i64 a, .int .i64 (B : Int)] w fun e w' => e = .returned (.string ⟨R.toArray⟩) ∧ w = w' := by
  have hA1 : (if a < 1 then 1 else a) = (A : Int) + 1 := by split <;> omega
  have hl1 : ¬ (t.length : Int) < (A : Int) + 1 := by omega
  have hb1 : ¬ (B : Int) < 1 := by omega
  have hR : R = (t.drop A).take ((min (t.length : Int) ((A : Int) + min (B : Int) 200)).toNat - A) := by
    rw [← hRR]
    unfold rPart
    rw [hA, if_neg (by simp; omega)]
    congr 1
    · rw [show ((A : Int) + 1 - 1).toNat = A by omega, show (A : Int) + 1 - 1 = (A : Int) by omega]
    · congr 1
      omega
  clear hRR
  have HA := Lib.hid hA
  have i1 : (A : Int) ≤ (t.length : Int) := by omega
  have i0 : A ≤ t.length := by omega
  by_cases hc : t.length ≤ A + B
  · rw [show (min (t.length : Int) ((A : Int) + min (B : Int) 200)).toNat = t.length by omega] at hR
    have HR := Lib.hid hR
    by_cases h200 : B ≤ 200
    · have j1 : (B : Int) ≤ 200 := by omega
      have j2 : (t.length : Int) ≤ (A : Int) + (B : Int) := by omega
      clear hR hA hc
      go_enter Tryz.func125, Tryz.ntmps125
      go_wp2
      rw [ext_l]
      ((try simp only [Exit.inBlock, Exit.then]); refine bodyPost_ret (by simp only [results, Tryz.results125]; go_simp; try rfl) rfl ?_)
      exact ⟨by (try rw [show (max a 1).toNat - 1 = A by have := HA.out; omega]); (try rw [show (min (t.length : Int) (max a 1 - 1 + min (B : Int) 200)).toNat = t.length by have := HA.out; omega]); rw [HR.out], rfl⟩
    · have j1 : ¬ (B : Int) ≤ 200 := by omega
      have j2 : (t.length : Int) ≤ (A : Int) + 200 := by omega
      clear hR hA hc
      go_enter Tryz.func125, Tryz.ntmps125
      go_wp2
      rw [ext_l]
      ((try simp only [Exit.inBlock, Exit.then]); refine bodyPost_ret (by simp only [results, Tryz.results125]; go_simp; try rfl) rfl ?_)
      exact ⟨by (try rw [show (max a 1).toNat - 1 = A by have := HA.out; omega]); (try rw [show (min (t.length : Int) (max a 1 - 1 + min (B : Int) 200)).toNat = t.length by have := HA.out; omega]); rw [HR.out], rfl⟩
  · rw [show (min (t.length : Int) ((A : Int) + min (B : Int) 200)).toNat = A + B by omega] at hR
    have HR := Lib.hid hR
    have j1 : (B : Int) ≤ 200 := by omega
    have j2 : (A : Int) + (B : Int) ≤ (t.length : Int) := by omega
    have j5 : ¬ (t.length : Int) ≤ (A : Int) + (B : Int) := by omega
    have j3 : (A : Int) ≤ (A : Int) + (B : Int) := by omega
    have j4 : (0 : Int) ≤ (A : Int) + (B : Int) := by omega
    clear hR hA hc
    go_enter Tryz.func125, Tryz.ntmps125
    go_wp2
    rw [ext_l]
    ((try simp only [Exit.inBlock, Exit.then]); refine bodyPost_ret (by simp only [results, Tryz.results125]; go_simp; try rfl) rfl ?_)
    exact ⟨by (try rw [show (max a 1).toNat - 1 = A by have := HA.out; omega]); (try rw [show (min (t.length : Int) (max a 1 - 1 + min (B : Int) 200)).toNat = A + B by have := HA.out; omega]); rw [HR.out, Nat.add_sub_cancel_left], rfl⟩
theorem part_any (t : List UInt8) (a b : Int) (w : World) (ht : t.length ≤ 200) (h0 : -1099511627776 ≤ a) (h1 : a ≤ 1099511627776) (h2 : -1099511627776 ≤ b) (h3 : b ≤ 1099511627776) :
    Calls Tryz.prog 125 #[.string ⟨t.toArray⟩, .int .i64 a, .int .i64 b] w fun e w' => e = .returned (.string ⟨(rPart t a b).toArray⟩) ∧ w = w' := by
  by_cases c1 : (t.length : Int) < max a 1
  · have HR : Hid (rPart t a b = []) := Lib.hid (by simp [rPart, c1])
    by_cases c0 : 1 ≤ a
    all_goals
      go_enter Tryz.func125, Tryz.ntmps125
      go_wp2
      all_goals (((try simp only [Exit.inBlock, Exit.then]); refine bodyPost_ret (by simp only [results, Tryz.results125]; go_simp; try rfl) rfl ?_); exact ⟨by rw [HR.out], rfl⟩)
  · by_cases c2 : b < 1
    · have HR : Hid (rPart t a b = []) := Lib.hid (by simp [rPart, c2])
      by_cases c0 : 1 ≤ a
      all_goals
        go_enter Tryz.func125, Tryz.ntmps125
        go_wp2
        all_goals (((try simp only [Exit.inBlock, Exit.then]); refine bodyPost_ret (by simp only [results, Tryz.results125]; go_simp; try rfl) rfl ?_); exact ⟨by rw [HR.out], rfl⟩)
    · obtain ⟨B, rfl⟩ : ∃ B : Nat, b = (B : Int) := ⟨b.toNat, by omega⟩
      exact part_go t a B (max a 1 - 1).toNat w ht (by omega) (by omega) h1 (by omega) (by omega) _ rfl
def quo (t : List UInt8) : List UInt8 := 39 :: esc t
theorem esc_snoc : ∀ (a : List UInt8) (c : UInt8), esc (a ++ [c]) = esc a ++ (if c = 39 then [39, 39] else [c])
  | [], c => by simp [esc]
  | x :: r, c => by
    simp only [List.cons_append, esc]
    split <;> simp [esc_snoc r c]
theorem esc_len : ∀ a : List UInt8, (esc a).length ≤ 2 * a.length
  | [] => by simp [esc]
  | x :: r => by
    have := esc_len r
    unfold esc
    split <;> simp <;> omega
theorem own_one (W : World) (B g : Nat) (c : UInt8) (hg : g = W.heap.size) (hB : B ≤ g) : (W.alloc (.cells #[byteV c] 5)).ownsRow B 5 1 (.slice (some ⟨g, 0, none⟩) 1 1) 1 [byteV c] := by
  subst hg
  exact ⟨rfl, .inr ⟨_, 1, #[byteV c], rfl, hB, by show (W.heap.push _)[W.heap.size]? = _; simp, Nat.le_refl _, by decide, rfl, rfl⟩⟩
theorem own_blk {w : World} {B : Nat} {e : TypeId} {size : Nat} {v : Value} {n : Nat} {xs : List Value} (h : w.ownsRow B e size v n xs) : ∀ k, v.ownBlock = some k → B ≤ k := by
  obtain ⟨_, h⟩ := h
  rcases h with ⟨rfl, _⟩ | ⟨g, cap, cur, rfl, hg, _⟩
  · intro k hk; cases hk
  · intro k hk; cases hk; exact hg
/-- append(b, c) of a slice of bytes of the call's own. -/
theorem wpList_push8 {ops : Array Oper} {rest : List Oper} {o : Oper} {a : Act} {w : World} {Q : Exit → Act → World → Prop} (hgd : o.guard = none) (s x : Operand)
    (ho : o.op = .call { callee := .builtin .append, args := #[s, x], argTypes := #[100, 100] }) (B : Nat) (v : Value) (t : List UInt8) (hs : a.eval s = v) (W0 : World) (hown : W0.ownsRow B 5 1 v t.length (t.map byteV))
    (c : UInt8) (hw : w = W0.alloc (.cells #[byteV c] 5)) (hx : a.eval x = .slice (some ⟨W0.heap.size, 0, none⟩) 1 1) (hn : t.length ≤ 140737488355326) (Z : Nat) (w0 : World) (hb : Below Z w0 W0) (hZ : Z ≤ B) (hB : B ≤ W0.heap.size)
    (q : List UInt8) (hq : q = t ++ [c]) (h : ∀ v' w', w'.ownsRow B 5 1 v' q.length (q.map byteV) → Below Z w0 w' → B ≤ w'.heap.size → wpList Tryz.prog ops Q rest (a.put o.dst v') w') : wpList Tryz.prog ops Q (o :: rest) a w := by
  subst hw hq
  obtain ⟨i0, hi, hz0, hz1, hz2⟩ := info_parts info5
  refine wpList_append_own _ hgd s x 100 ho B 5 i0 (.int .u8 0) 1 1 Tryz.underlying100 hi hz0 hz1 hz2 rfl (by decide) v t.length (t.map byteV) hs (hown.alloc _) ⟨W0.heap.size, 0, none⟩ 1 1 [byteV c] hx rfl ?_ ?_ (by unfold maxLen; omega) (by omega) (by simp; omega) ?_
  · intro j u hj
    match j, hj with
    | 0, hj => simp at hj; subst hj; simp [Addr.add]
  · intro u hu
    simp at hu
    subst hu
    rfl
  · intro v' w' h1 h2 _
    have z := h2.size
    simp at z
    exact h v' w' (by simpa using h1) ((hb.alloc (Nat.le_trans hZ hB) _).grown h2 (by simp; omega) fun k hk => Nat.le_trans hZ (own_blk hown k hk)) (by omega)
set_option maxRecDepth 100000 in
set_option maxHeartbeats 2000000 in
theorem quoted_any (t : List UInt8) (w : World) (ht : t.length ≤ 35184372088832) :
    Calls Tryz.prog 102 #[.string ⟨t.toArray⟩] w fun e w' => e = .returned (.string ⟨([39] ++ esc t ++ [39]).toArray⟩) ∧ Below w.heap.size w w' := by
  go_enter Tryz.func102, Tryz.ntmps102
  go_wp2
  go_loopw [3, 4] (fun v i wr => ∃ j : Nat, j ≤ t.length ∧ i = .int .i64 j ∧ Hid (Below w.heap.size w wr) ∧ Hid (wr.ownsRow w.heap.size 5 1 v (quo (t.take j)).length ((quo (t.take j)).map byteV))) (fun _ i wr => t.length - (intOf i).toNat)
  case atStart => exact ⟨0, Nat.zero_le _, rfl, Lib.hid ((Below.refl _ _).alloc (Nat.le_refl _) _), Lib.hid (own_one w w.heap.size w.heap.size 39 rfl (Nat.le_refl _))⟩
  case round =>
    obtain ⟨j, hj, rfl, HB, HO⟩ := hrel
    have hz := HB.out.size
    have hql : (quo (t.take j)).length ≤ 1 + 2 * j := by
      have := esc_len (t.take j)
      rw [List.length_take] at this
      simp [quo]; omega
    by_cases hlt : j < t.length
    · have he : ({ data := t.toArray } : ByteArray)[j]'(show j < t.length from hlt) = t[j] := rfl
      have HQ : Hid (quo (t.take (j + 1)) = quo (t.take j) ++ (if t[j] = 39 then [39, 39] else [t[j]])) := Lib.hid (by unfold quo; rw [List.take_succ_eq_append_getElem hlt, esc_snoc]; rfl)
      generalize t[j] = c at he HQ
      generalize quo (t.take j) = p at HQ HO hql
      by_cases hc : c = 39
      case pos =>
        have hc1 : ((c.toNat : Int) == 39) = true := by subst hc; rfl
        obtain ⟨q1, hq1⟩ : ∃ q, q = p ++ [c] := ⟨_, rfl⟩
        obtain ⟨q2, hq2⟩ : ∃ q, q = q1 ++ [39] := ⟨_, rfl⟩
        have HQ2 : Hid (quo (t.take (j + 1)) = q2) := Lib.hid (by rw [HQ.out, if_pos hc, hq2, hq1, hc]; simp)
        have hql1 : q1.length ≤ 2 + 2 * j := by rw [hq1]; simp; omega
        have HQ1e := Lib.hid hq1
        have HQ2e := Lib.hid hq2
        clear hc HQ hq1 hq2
        go_wp2_with (at_builtin; refine wpList_push8 rfl _ _ rfl w.heap.size _ p rfl wr HO.out c rfl rfl (by omega) w.heap.size w HB.out (Nat.le_refl _) hz q1 HQ1e.out ?_)
        intro v' w3 h1 h2 h3
        have HO1 := Lib.hid h1
        have HB1 := Lib.hid h2
        clear h1 h2
        go_wp2_with (at_builtin; refine wpList_push8 rfl _ _ rfl w.heap.size _ q1 rfl w3 HO1.out 39 rfl rfl (by omega) w.heap.size w HB1.out (Nat.le_refl _) h3 q2 HQ2e.out ?_)
        intro v'' w4 h1 h2 h4
        have HO2 := Lib.hid h1
        have HB2 := Lib.hid h2
        clear h1 h2
        go_wp2
        go_roundw
        case rel => exact ⟨j + 1, by omega, by go_num, HB2, Lib.hid (by rw [HQ2.out]; exact HO2.out)⟩
        case measure => simp [intOf]; omega
      case neg =>
        have hc1 : ((c.toNat : Int) == 39) = false := by
          have : ¬ (c.toNat : Int) = 39 := fun e => hc (by apply UInt8.toNat_inj.1; rw [show (39 : UInt8).toNat = 39 from rfl]; omega)
          simpa using this
        obtain ⟨q1, hq1⟩ : ∃ q, q = p ++ [c] := ⟨_, rfl⟩
        have HQ2 : Hid (quo (t.take (j + 1)) = q1) := Lib.hid (by rw [HQ.out, if_neg hc, hq1])
        have HQ1e := Lib.hid hq1
        clear hc HQ hq1
        go_wp2_with (at_builtin; refine wpList_push8 rfl _ _ rfl w.heap.size _ p rfl wr HO.out c rfl rfl (by omega) w.heap.size w HB.out (Nat.le_refl _) hz q1 HQ1e.out ?_)
        intro v' w3 h1 h2 h3
        have HO1 := Lib.hid h1
        have HB1 := Lib.hid h2
        clear h1 h2
        go_wp2
        go_roundw
        case rel => exact ⟨j + 1, by omega, by go_num, HB1, Lib.hid (by rw [HQ2.out]; exact HO1.out)⟩
        case measure => simp [intOf]; omega
    · obtain rfl : j = t.length := by omega
      have HQ : Hid (quo (t.take t.length) = 39 :: esc t) := Lib.hid (by rw [List.take_length]; rfl)
      generalize quo (t.take t.length) = p at HQ HO hql
      obtain ⟨q1, hq1⟩ : ∃ q, q = p ++ [39] := ⟨_, rfl⟩
      have HQ1e := Lib.hid hq1
      have HQ2 : Hid (q1 = 39 :: (esc t ++ [39])) := Lib.hid (by rw [hq1, HQ.out]; rfl)
      clear hq1
      go_wp2_with (at_builtin; refine wpList_push8 rfl _ _ rfl w.heap.size _ p rfl wr HO.out 39 rfl rfl (by omega) w.heap.size w HB.out (Nat.le_refl _) hz q1 HQ1e.out ?_)
      intro v' w3 h1 h2 h3
      have hcv := conv_own h1
      have HB1 := Lib.hid h2
      clear h1 h2
      go_wp2
      ((try simp only [Exit.inBlock, Exit.then]); refine bodyPost_ret (by simp only [results, Tryz.results102]; go_simp; try rfl) rfl ?_)
      exact ⟨by rw [HQ2.out], HB1.out⟩
theorem up97 (c : UInt8) (h1 : (97 : Int) ≤ (c.toNat : Int)) (h2 : (c.toNat : Int) ≤ 122) : rCasedB 97 65 c = c - 97 + 65 := by
  unfold rCasedB
  rw [if_pos]
  exact ⟨UInt8.le_iff_toNat_le.2 (by rw [show (97 : UInt8).toNat = 97 from rfl]; omega), UInt8.le_iff_toNat_le.2 (by rw [show ((97 : UInt8) + 25).toNat = 122 from rfl]; omega)⟩
theorem no97 (c : UInt8) (h : (c.toNat : Int) < 97 ∨ (122 : Int) < (c.toNat : Int)) : rCasedB 97 65 c = c := by
  unfold rCasedB
  rw [if_neg]
  rintro ⟨h1, h2⟩
  have h1 := UInt8.le_iff_toNat_le.1 h1
  have h2 := UInt8.le_iff_toNat_le.1 h2
  rw [show (97 : UInt8).toNat = 97 from rfl] at h1
  rw [show ((97 : UInt8) + 25).toNat = 122 from rfl] at h2
  omega
set_option maxRecDepth 100000 in
set_option maxHeartbeats 2000000 in
theorem upper_c (t : List UInt8) (w : World) (ht : t.length ≤ 35184372088832) :
    Calls Tryz.prog 124 #[.string ⟨t.toArray⟩, .int .u8 97, .int .u8 65] w fun e w' => e = .returned (.string ⟨(t.map (rCasedB 97 65)).toArray⟩) ∧ Below w.heap.size w w' := by
  go_enter Tryz.func124, Tryz.ntmps124
  go_wp2
  go_loopw [7, 8] (fun v i wr => ∃ j : Nat, j ≤ t.length ∧ i = .int .i64 j ∧ Hid (Below w.heap.size w wr) ∧ Hid (wr.ownsRow w.heap.size 5 1 v ((t.take j).map (rCasedB 97 65)).length (((t.take j).map (rCasedB 97 65)).map byteV))) (fun _ i wr => t.length - (intOf i).toNat)
  case atStart => exact ⟨0, Nat.zero_le _, rfl, Lib.hid (Below.refl _ _), Lib.hid (World.ownsRow_nil _ _ _ _)⟩
  case round =>
    obtain ⟨j, hj, rfl, HB, HO⟩ := hrel
    have hz := HB.out.size
    have hql : ((t.take j).map (rCasedB 97 65)).length ≤ j := by simp; omega
    by_cases hlt : j < t.length
    · have he : ({ data := t.toArray } : ByteArray)[j]'(show j < t.length from hlt) = t[j] := rfl
      obtain ⟨q1, hq1⟩ : ∃ q, q = (t.take j).map (rCasedB 97 65) ++ [rCasedB 97 65 t[j]] := ⟨_, rfl⟩
      have HQ : Hid ((t.take (j + 1)).map (rCasedB 97 65) = q1) := Lib.hid (by rw [hq1, List.take_succ_eq_append_getElem hlt, List.map_append]; rfl)
      generalize t[j] = c at he hq1
      generalize (t.take j).map (rCasedB 97 65) = p at hq1 HO hql
      by_cases c1 : (97 : Int) ≤ (c.toNat : Int)
      · by_cases c2 : (c.toNat : Int) ≤ 122
        · rw [up97 c c1 c2] at hq1
          have hd : (c.toNat : Int) - 97 + 65 = ((c - 97 + 65).toNat : Int) := by
            rw [UInt8.toNat_add, UInt8.toNat_sub, show (97 : UInt8).toNat = 97 from rfl, show (65 : UInt8).toNat = 65 from rfl]
            omega
          generalize c - 97 + 65 = d at hd hq1
          have HQ1e := Lib.hid hq1
          clear hq1
          go_wp2_with (at_builtin; refine wpList_push8 rfl _ _ rfl w.heap.size _ p rfl wr HO.out d rfl rfl (by omega) w.heap.size w HB.out (Nat.le_refl _) hz q1 HQ1e.out ?_)
          intro v' w3 h1 h2 h3
          have HO1 := Lib.hid h1
          have HB1 := Lib.hid h2
          clear h1 h2
          go_wp2
          go_roundw
          case rel => exact ⟨j + 1, by omega, by go_num, HB1, Lib.hid (by rw [HQ.out]; exact HO1.out)⟩
          case measure => simp [intOf]; omega
        · rw [no97 c (.inr (by omega))] at hq1
          have HQ1e := Lib.hid hq1
          clear hq1
          go_wp2_with (at_builtin; refine wpList_push8 rfl _ _ rfl w.heap.size _ p rfl wr HO.out c rfl rfl (by omega) w.heap.size w HB.out (Nat.le_refl _) hz q1 HQ1e.out ?_)
          intro v' w3 h1 h2 h3
          have HO1 := Lib.hid h1
          have HB1 := Lib.hid h2
          clear h1 h2
          go_wp2
          go_roundw
          case rel => exact ⟨j + 1, by omega, by go_num, HB1, Lib.hid (by rw [HQ.out]; exact HO1.out)⟩
          case measure => simp [intOf]; omega
      · rw [no97 c (.inl (by omega))] at hq1
        have HQ1e := Lib.hid hq1
        clear hq1
        go_wp2_with (at_builtin; refine wpList_push8 rfl _ _ rfl w.heap.size _ p rfl wr HO.out c rfl rfl (by omega) w.heap.size w HB.out (Nat.le_refl _) hz q1 HQ1e.out ?_)
        intro v' w3 h1 h2 h3
        have HO1 := Lib.hid h1
        have HB1 := Lib.hid h2
        clear h1 h2
        go_wp2
        go_roundw
        case rel => exact ⟨j + 1, by omega, by go_num, HB1, Lib.hid (by rw [HQ.out]; exact HO1.out)⟩
        case measure => simp [intOf]; omega
    · obtain rfl : j = t.length := by omega
      rw [List.take_length] at HO
      have hcv := conv_own HO.out
      clear HO hql
      go_wp2
      ((try simp only [Exit.inBlock, Exit.then]); refine bodyPost_ret (by simp only [results, Tryz.results124]; go_simp; try rfl) rfl ?_)
      exact ⟨rfl, HB.out⟩
theorem up65 (c : UInt8) (h1 : (65 : Int) ≤ (c.toNat : Int)) (h2 : (c.toNat : Int) ≤ 90) : rCasedB 65 97 c = c - 65 + 97 := by
  unfold rCasedB
  rw [if_pos]
  exact ⟨UInt8.le_iff_toNat_le.2 (by rw [show (65 : UInt8).toNat = 65 from rfl]; omega), UInt8.le_iff_toNat_le.2 (by rw [show ((65 : UInt8) + 25).toNat = 90 from rfl]; omega)⟩
theorem no65 (c : UInt8) (h : (c.toNat : Int) < 65 ∨ (90 : Int) < (c.toNat : Int)) : rCasedB 65 97 c = c := by
  unfold rCasedB
  rw [if_neg]
  rintro ⟨h1, h2⟩
  have h1 := UInt8.le_iff_toNat_le.1 h1
  have h2 := UInt8.le_iff_toNat_le.1 h2
  rw [show (65 : UInt8).toNat = 65 from rfl] at h1
  rw [show ((65 : UInt8) + 25).toNat = 90 from rfl] at h2
  omega
set_option maxRecDepth 100000 in
set_option maxHeartbeats 2000000 in
theorem lower_c (t : List UInt8) (w : World) (ht : t.length ≤ 35184372088832) :
    Calls Tryz.prog 124 #[.string ⟨t.toArray⟩, .int .u8 65, .int .u8 97] w fun e w' => e = .returned (.string ⟨(t.map (rCasedB 65 97)).toArray⟩) ∧ Below w.heap.size w w' := by
  go_enter Tryz.func124, Tryz.ntmps124
  go_wp2
  go_loopw [7, 8] (fun v i wr => ∃ j : Nat, j ≤ t.length ∧ i = .int .i64 j ∧ Hid (Below w.heap.size w wr) ∧ Hid (wr.ownsRow w.heap.size 5 1 v ((t.take j).map (rCasedB 65 97)).length (((t.take j).map (rCasedB 65 97)).map byteV))) (fun _ i wr => t.length - (intOf i).toNat)
  case atStart => exact ⟨0, Nat.zero_le _, rfl, Lib.hid (Below.refl _ _), Lib.hid (World.ownsRow_nil _ _ _ _)⟩
  case round =>
    obtain ⟨j, hj, rfl, HB, HO⟩ := hrel
    have hz := HB.out.size
    have hql : ((t.take j).map (rCasedB 65 97)).length ≤ j := by simp; omega
    by_cases hlt : j < t.length
    · have he : ({ data := t.toArray } : ByteArray)[j]'(show j < t.length from hlt) = t[j] := rfl
      obtain ⟨q1, hq1⟩ : ∃ q, q = (t.take j).map (rCasedB 65 97) ++ [rCasedB 65 97 t[j]] := ⟨_, rfl⟩
      have HQ : Hid ((t.take (j + 1)).map (rCasedB 65 97) = q1) := Lib.hid (by rw [hq1, List.take_succ_eq_append_getElem hlt, List.map_append]; rfl)
      generalize t[j] = c at he hq1
      generalize (t.take j).map (rCasedB 65 97) = p at hq1 HO hql
      by_cases c1 : (65 : Int) ≤ (c.toNat : Int)
      · by_cases c2 : (c.toNat : Int) ≤ 90
        · rw [up65 c c1 c2] at hq1
          have hd : (c.toNat : Int) - 65 + 97 = ((c - 65 + 97).toNat : Int) := by
            rw [UInt8.toNat_add, UInt8.toNat_sub, show (65 : UInt8).toNat = 65 from rfl, show (97 : UInt8).toNat = 97 from rfl]
            omega
          generalize c - 65 + 97 = d at hd hq1
          have HQ1e := Lib.hid hq1
          clear hq1
          go_wp2_with (at_builtin; refine wpList_push8 rfl _ _ rfl w.heap.size _ p rfl wr HO.out d rfl rfl (by omega) w.heap.size w HB.out (Nat.le_refl _) hz q1 HQ1e.out ?_)
          intro v' w3 h1 h2 h3
          have HO1 := Lib.hid h1
          have HB1 := Lib.hid h2
          clear h1 h2
          go_wp2
          go_roundw
          case rel => exact ⟨j + 1, by omega, by go_num, HB1, Lib.hid (by rw [HQ.out]; exact HO1.out)⟩
          case measure => simp [intOf]; omega
        · rw [no65 c (.inr (by omega))] at hq1
          have HQ1e := Lib.hid hq1
          clear hq1
          go_wp2_with (at_builtin; refine wpList_push8 rfl _ _ rfl w.heap.size _ p rfl wr HO.out c rfl rfl (by omega) w.heap.size w HB.out (Nat.le_refl _) hz q1 HQ1e.out ?_)
          intro v' w3 h1 h2 h3
          have HO1 := Lib.hid h1
          have HB1 := Lib.hid h2
          clear h1 h2
          go_wp2
          go_roundw
          case rel => exact ⟨j + 1, by omega, by go_num, HB1, Lib.hid (by rw [HQ.out]; exact HO1.out)⟩
          case measure => simp [intOf]; omega
      · rw [no65 c (.inl (by omega))] at hq1
        have HQ1e := Lib.hid hq1
        clear hq1
        go_wp2_with (at_builtin; refine wpList_push8 rfl _ _ rfl w.heap.size _ p rfl wr HO.out c rfl rfl (by omega) w.heap.size w HB.out (Nat.le_refl _) hz q1 HQ1e.out ?_)
        intro v' w3 h1 h2 h3
        have HO1 := Lib.hid h1
        have HB1 := Lib.hid h2
        clear h1 h2
        go_wp2
        go_roundw
        case rel => exact ⟨j + 1, by omega, by go_num, HB1, Lib.hid (by rw [HQ.out]; exact HO1.out)⟩
        case measure => simp [intOf]; omega
    · obtain rfl : j = t.length := by omega
      rw [List.take_length] at HO
      have hcv := conv_own HO.out
      clear HO hql
      go_wp2
      ((try simp only [Exit.inBlock, Exit.then]); refine bodyPost_ret (by simp only [results, Tryz.results124]; go_simp; try rfl) rfl ?_)
      exact ⟨rfl, HB.out⟩
end Go.Proofs.YtpmfpfkahanlaaaGreatDoor

/- whole of the reference, walked. -/
namespace Go.Proofs.YtpmfpfkahanlaaaGreatDoor
open Go.RowKit
set_option linter.unusedSimpArgs false
set_option linter.unusedVariables false
attribute [local go_sem] Later.cell Later.lt
attribute [local go_sem high] run_eqV run_neV

def WholeAt (t : List UInt8) (w : World) (e : Ending) (w' : World) : Prop := ∃ (n : Int) (b : Bool), e = .returned (.tuple #[.int .i64 n, .bool b]) ∧ rWh t = (if b then some n else none) ∧ w = w'
theorem wh_step {t : List UInt8} {j n : Nat} {F : Nat} (h : whGo 0 (whL t) = whGo (n : Int) ((t.take 16).drop j)) (h1 : j < t.length) (h2 : j < 16) :
    whGo 0 (whL t) = if t[j].toNat < 48 ∨ 57 < t[j].toNat then none else whGo (10 * (n : Int) + ((t[j].toNat : Int) - 48)) ((t.take 16).drop (j + 1)) := by
  have hl : j < (t.take 16).length := by rw [List.length_take]; omega
  rw [h, List.drop_eq_getElem_cons hl, whGo]
  simp only [List.getElem_take]
theorem wh_end {t : List UInt8} {j n : Nat} (h : whGo 0 (whL t) = whGo (n : Int) ((t.take 16).drop j)) (h1 : t.length ≤ j ∨ 16 ≤ j) : whGo 0 (whL t) = some (n : Int) := by
  rw [h, List.drop_of_length_le (by rw [List.length_take]; omega)]
  rfl
theorem pow_bound {j n : Nat} (h : n < 10 ^ j) (hj : j < 16) (d : Nat) (hd : d ≤ 9) : 10 * n + d < 10 ^ (j + 1) ∧ 10 * n + d < 10000000000000000 := by
  have h1 : 10 ^ (j + 1) = 10 ^ j * 10 := Nat.pow_succ ..
  have h2 : 10 ^ (j + 1) ≤ 10 ^ 16 := Nat.pow_le_pow_right (by decide) (by omega)
  have h3 : (10 : Nat) ^ 16 = 10000000000000000 := by decide
  omega
set_option maxRecDepth 100000 in
set_option maxHeartbeats 2000000 in
theorem whole_pos (t : List UInt8) (w : World) (ht : t.length ≤ 140737488355328) (hne : t ≠ []) (hc : t[0]? ≠ some 45) :
    Calls Tryz.prog 107 #[.string ⟨t.toArray⟩] w (WholeAt t w) := by
  have hn : whNeg t = false := by simp [whNeg, hc]
  have H0 : Hid (whGo 0 (whL t) = whGo ((0 : Nat) : Int) ((t.take 16).drop 0)) := Lib.hid (by unfold whL whFrom; rw [hn]; rfl)
  have HSg : Hid (∀ m : Int, whSg t m = m) := Lib.hid (fun m => by unfold whSg; rw [hn]; rfl)
  have hpos : 0 < t.length := by
    cases t with
    | nil => exact absurd rfl hne
    | cons x r => simp
  have e1 : t.isEmpty = false := by
    cases t with
    | nil => exact absurd rfl hne
    | cons x r => rfl
  have e2 : (t == []) = false := by simpa using hne
  have he0 : ({ data := t.toArray } : ByteArray)[0]'(show 0 < t.length from hpos) = t[0] := rfl
  rw [List.getElem?_eq_getElem hpos] at hc
  have x1 : ((t[0].toNat : Int) == 45) = false := by
    simp only [ne_eq, Option.some.injEq] at hc
    have : ¬ (t[0].toNat : Int) = 45 := fun e => hc (by apply UInt8.toNat_inj.1; rw [show (45 : UInt8).toNat = 45 from rfl]; omega)
    simpa using this
  generalize t[0] = x at he0 x1
  clear hne hc hn
  go_enter Tryz.func107, Tryz.ntmps107
  go_wp2
  go_loop [4, 6] (fun v i => ∃ j m : Nat, 0 ≤ j ∧ j ≤ 16 ∧ i = .int .i64 j ∧ v = .int .i64 m ∧ Hid (m < 10 ^ j) ∧ m < 10000000000000000 ∧ Hid (whGo 0 (whL t) = whGo (m : Int) ((t.take 16).drop j))) (fun _ i => 16 - (intOf i).toNat)
  case atStart => exact ⟨0, 0, Nat.le_refl _, by decide, rfl, rfl, (show Hid _ from by simp [Hid]), by decide, H0⟩
  case round =>
    obtain ⟨j, m, hj0, hj, rfl, rfl, HP, hm, HG⟩ := hrel
    by_cases h1 : j < t.length
    · by_cases h2 : j < 16
      · have he : ({ data := t.toArray } : ByteArray)[j]'(show j < t.length from h1) = t[j] := rfl
        have hs := wh_step (F := 0) HG.out h1 h2
        generalize t[j] = c at he hs
        have HS := Lib.hid hs
        clear hs
        have i1 : (j : Int) < (t.length : Int) := by omega
        have i2 : (j : Int) < 16 := by omega
        by_cases c1 : (c.toNat : Int) < 48
        · have HN : Hid (rWh t = none) := Lib.hid (wh_none (by rw [HS.out, if_pos (.inl (by omega))]))
          go_wp2
          ((try simp only [Exit.inBlock, Exit.then]); refine bodyPost_ret (by simp only [results, Tryz.results107]; go_simp; try rfl) rfl ?_)
          exact ⟨0, false, rfl, HN.out, rfl⟩
        · by_cases c2 : 57 < (c.toNat : Int)
          · have HN : Hid (rWh t = none) := Lib.hid (wh_none (by rw [HS.out, if_pos (.inr (by omega))]))
            go_wp2
            ((try simp only [Exit.inBlock, Exit.then]); refine bodyPost_ret (by simp only [results, Tryz.results107]; go_simp; try rfl) rfl ?_)
            exact ⟨0, false, rfl, HN.out, rfl⟩
          · obtain ⟨p1, p2⟩ := pow_bound HP.out h2 (c.toNat - 48) (by omega)
            have HP2 := Lib.hid p1
            clear p1
            have hd : 10 * (m : Int) + ((c.toNat : Int) - 48) = ((10 * m + (c.toNat - 48) : Nat) : Int) := by omega
            have HS2 : Hid (whGo 0 (whL t) = whGo ((10 * m + (c.toNat - 48) : Nat) : Int) ((t.take 16).drop (j + 1))) := Lib.hid (by rw [HS.out, if_neg (by omega), hd])
            have HD := Lib.hid hd
            clear hd
            go_wp2
            exact ⟨⟨j + 1, 10 * m + (c.toNat - 48), by omega, by omega, by go_num, by rw [HD.out], HP2, p2, HS2⟩, by simp [intOf]; omega⟩
      · have i1 : (j : Int) < (t.length : Int) := by omega
        have i2 : ¬ (j : Int) < 16 := by omega
        have HE := Lib.hid (wh_some (wh_end HG.out (.inr (by omega))))
        rw [HSg.out] at HE
        cases hq : sIsInt (m : Int) with
        | true =>
          go_wp2_with (first | (go_at_call 60; refine (rIsInt_any _ _).mono ?_; rintro e w' ⟨rfl, rfl⟩) | (go_at_call 101; refine (digits_any _ _ (by omega) (by omega)).mono ?_; rintro e w' ⟨rfl, rfl⟩))
          ((try simp only [Exit.inBlock, Exit.then]); refine bodyPost_ret (by simp only [results, Tryz.results107]; go_simp; try rfl) rfl ?_)
          exact ⟨(m : Int), Lib.itoa (m : Int) == t, rfl, by rw [HE.out, hq]; simp, rfl⟩
        | false =>
          go_wp2_with (first | (go_at_call 60; refine (rIsInt_any _ _).mono ?_; rintro e w' ⟨rfl, rfl⟩) | (go_at_call 101; refine (digits_any _ _ (by omega) (by omega)).mono ?_; rintro e w' ⟨rfl, rfl⟩))
          ((try simp only [Exit.inBlock, Exit.then]); refine bodyPost_ret (by simp only [results, Tryz.results107]; go_simp; try rfl) rfl ?_)
          exact ⟨(m : Int), false, rfl, by rw [HE.out, hq]; simp, rfl⟩
    · have i1 : ¬ (j : Int) < (t.length : Int) := by omega
      have HE := Lib.hid (wh_some (wh_end HG.out (.inl (by omega))))
      rw [HSg.out] at HE
      cases hq : sIsInt (m : Int) with
      | true =>
        go_wp2_with (first | (go_at_call 60; refine (rIsInt_any _ _).mono ?_; rintro e w' ⟨rfl, rfl⟩) | (go_at_call 101; refine (digits_any _ _ (by omega) (by omega)).mono ?_; rintro e w' ⟨rfl, rfl⟩))
        ((try simp only [Exit.inBlock, Exit.then]); refine bodyPost_ret (by simp only [results, Tryz.results107]; go_simp; try rfl) rfl ?_)
        exact ⟨(m : Int), Lib.itoa (m : Int) == t, rfl, by rw [HE.out, hq]; simp, rfl⟩
      | false =>
        go_wp2_with (first | (go_at_call 60; refine (rIsInt_any _ _).mono ?_; rintro e w' ⟨rfl, rfl⟩) | (go_at_call 101; refine (digits_any _ _ (by omega) (by omega)).mono ?_; rintro e w' ⟨rfl, rfl⟩))
        ((try simp only [Exit.inBlock, Exit.then]); refine bodyPost_ret (by simp only [results, Tryz.results107]; go_simp; try rfl) rfl ?_)
        exact ⟨(m : Int), false, rfl, by rw [HE.out, hq]; simp, rfl⟩
set_option maxRecDepth 100000 in
set_option maxHeartbeats 2000000 in
theorem whole_neg (t : List UInt8) (w : World) (ht : t.length ≤ 140737488355328) (hne : t ≠ []) (hc : t[0]? = some 45) :
    Calls Tryz.prog 107 #[.string ⟨t.toArray⟩] w (WholeAt t w) := by
  have hn : whNeg t = true := by simp [whNeg, hc]
  have H0 : Hid (whGo 0 (whL t) = whGo ((0 : Nat) : Int) ((t.take 16).drop 1)) := Lib.hid (by unfold whL whFrom; rw [hn]; rfl)
  have HSg : Hid (∀ m : Int, whSg t m = -m) := Lib.hid (fun m => by unfold whSg; rw [hn]; rfl)
  have hpos : 0 < t.length := by
    cases t with
    | nil => exact absurd rfl hne
    | cons x r => simp
  have e1 : t.isEmpty = false := by
    cases t with
    | nil => exact absurd rfl hne
    | cons x r => rfl
  have e2 : (t == []) = false := by simpa using hne
  have he0 : ({ data := t.toArray } : ByteArray)[0]'(show 0 < t.length from hpos) = t[0] := rfl
  rw [List.getElem?_eq_getElem hpos] at hc
  have x1 : ((t[0].toNat : Int) == 45) = true := by
    simp only [Option.some.injEq] at hc; rw [hc]; rfl
  generalize t[0] = x at he0 x1
  clear hne hc hn
  go_enter Tryz.func107, Tryz.ntmps107
  go_wp2
  go_loop [4, 6] (fun v i => ∃ j m : Nat, 1 ≤ j ∧ j ≤ 16 ∧ i = .int .i64 j ∧ v = .int .i64 m ∧ Hid (m < 10 ^ j) ∧ m < 10000000000000000 ∧ Hid (whGo 0 (whL t) = whGo (m : Int) ((t.take 16).drop j))) (fun _ i => 16 - (intOf i).toNat)
  case atStart => exact ⟨1, 0, Nat.le_refl _, by decide, rfl, rfl, (show Hid _ from by simp [Hid]), by decide, H0⟩
  case round =>
    obtain ⟨j, m, hj0, hj, rfl, rfl, HP, hm, HG⟩ := hrel
    by_cases h1 : j < t.length
    · by_cases h2 : j < 16
      · have he : ({ data := t.toArray } : ByteArray)[j]'(show j < t.length from h1) = t[j] := rfl
        have hs := wh_step (F := 0) HG.out h1 h2
        generalize t[j] = c at he hs
        have HS := Lib.hid hs
        clear hs
        have i1 : (j : Int) < (t.length : Int) := by omega
        have i2 : (j : Int) < 16 := by omega
        by_cases c1 : (c.toNat : Int) < 48
        · have HN : Hid (rWh t = none) := Lib.hid (wh_none (by rw [HS.out, if_pos (.inl (by omega))]))
          go_wp2
          ((try simp only [Exit.inBlock, Exit.then]); refine bodyPost_ret (by simp only [results, Tryz.results107]; go_simp; try rfl) rfl ?_)
          exact ⟨0, false, rfl, HN.out, rfl⟩
        · by_cases c2 : 57 < (c.toNat : Int)
          · have HN : Hid (rWh t = none) := Lib.hid (wh_none (by rw [HS.out, if_pos (.inr (by omega))]))
            go_wp2
            ((try simp only [Exit.inBlock, Exit.then]); refine bodyPost_ret (by simp only [results, Tryz.results107]; go_simp; try rfl) rfl ?_)
            exact ⟨0, false, rfl, HN.out, rfl⟩
          · obtain ⟨p1, p2⟩ := pow_bound HP.out h2 (c.toNat - 48) (by omega)
            have HP2 := Lib.hid p1
            clear p1
            have hd : 10 * (m : Int) + ((c.toNat : Int) - 48) = ((10 * m + (c.toNat - 48) : Nat) : Int) := by omega
            have HS2 : Hid (whGo 0 (whL t) = whGo ((10 * m + (c.toNat - 48) : Nat) : Int) ((t.take 16).drop (j + 1))) := Lib.hid (by rw [HS.out, if_neg (by omega), hd])
            have HD := Lib.hid hd
            clear hd
            go_wp2
            exact ⟨⟨j + 1, 10 * m + (c.toNat - 48), by omega, by omega, by go_num, by rw [HD.out], HP2, p2, HS2⟩, by simp [intOf]; omega⟩
      · have i1 : (j : Int) < (t.length : Int) := by omega
        have i2 : ¬ (j : Int) < 16 := by omega
        have HE := Lib.hid (wh_some (wh_end HG.out (.inr (by omega))))
        rw [HSg.out] at HE
        cases hq : sIsInt (-(m : Int)) with
        | true =>
          go_wp2_with (first | (go_at_call 60; refine (rIsInt_any _ _).mono ?_; rintro e w' ⟨rfl, rfl⟩) | (go_at_call 101; refine (digits_any _ _ (by omega) (by omega)).mono ?_; rintro e w' ⟨rfl, rfl⟩))
          ((try simp only [Exit.inBlock, Exit.then]); refine bodyPost_ret (by simp only [results, Tryz.results107]; go_simp; try rfl) rfl ?_)
          exact ⟨(-(m : Int)), Lib.itoa (-(m : Int)) == t, rfl, by rw [HE.out, hq]; simp, rfl⟩
        | false =>
          go_wp2_with (first | (go_at_call 60; refine (rIsInt_any _ _).mono ?_; rintro e w' ⟨rfl, rfl⟩) | (go_at_call 101; refine (digits_any _ _ (by omega) (by omega)).mono ?_; rintro e w' ⟨rfl, rfl⟩))
          ((try simp only [Exit.inBlock, Exit.then]); refine bodyPost_ret (by simp only [results, Tryz.results107]; go_simp; try rfl) rfl ?_)
          exact ⟨(-(m : Int)), false, rfl, by rw [HE.out, hq]; simp, rfl⟩
    · have i1 : ¬ (j : Int) < (t.length : Int) := by omega
      have HE := Lib.hid (wh_some (wh_end HG.out (.inl (by omega))))
      rw [HSg.out] at HE
      cases hq : sIsInt (-(m : Int)) with
      | true =>
        go_wp2_with (first | (go_at_call 60; refine (rIsInt_any _ _).mono ?_; rintro e w' ⟨rfl, rfl⟩) | (go_at_call 101; refine (digits_any _ _ (by omega) (by omega)).mono ?_; rintro e w' ⟨rfl, rfl⟩))
        ((try simp only [Exit.inBlock, Exit.then]); refine bodyPost_ret (by simp only [results, Tryz.results107]; go_simp; try rfl) rfl ?_)
        exact ⟨(-(m : Int)), Lib.itoa (-(m : Int)) == t, rfl, by rw [HE.out, hq]; simp, rfl⟩
      | false =>
        go_wp2_with (first | (go_at_call 60; refine (rIsInt_any _ _).mono ?_; rintro e w' ⟨rfl, rfl⟩) | (go_at_call 101; refine (digits_any _ _ (by omega) (by omega)).mono ?_; rintro e w' ⟨rfl, rfl⟩))
        ((try simp only [Exit.inBlock, Exit.then]); refine bodyPost_ret (by simp only [results, Tryz.results107]; go_simp; try rfl) rfl ?_)
        exact ⟨(-(m : Int)), false, rfl, by rw [HE.out, hq]; simp, rfl⟩
theorem whole_nil (w : World) : Calls Tryz.prog 107 #[.string ⟨([] : List UInt8).toArray⟩] w (WholeAt [] w) := by
  have hi : Lib.itoa 0 = [48] := by rw [itoa_pos (by decide)]; exact dec_small (by decide)
  have HR : Hid (rWh [] = none) := Lib.hid (by rw [wh_some (t := []) (n := 0) rfl]; simp [whSg, whNeg, hi])
  have HI := Lib.hid hi
  clear hi
  go_enter Tryz.func107, Tryz.ntmps107
  go_wp2
  refine wp_loop_rounds 1 ?_
  rw [rounds_succ]
  go_wp2_with (first | (go_at_call 60; refine (rIsInt_any _ _).mono ?_; rintro e w' ⟨rfl, rfl⟩) | (go_at_call 101; refine (digits_any _ _ (by omega) (by omega)).mono ?_; rintro e w' ⟨rfl, rfl⟩))
  ((try simp only [Exit.inBlock, Exit.then]); refine bodyPost_ret (by simp only [results, Tryz.results107]; go_simp; try rfl) rfl ?_)
  exact ⟨0, _, rfl, by rw [HR.out, HI.out]; rfl, rfl⟩
theorem whole_r (t : List UInt8) (w : World) (ht : t.length ≤ 140737488355328) : Calls Tryz.prog 107 #[.string ⟨t.toArray⟩] w (WholeAt t w) := by
  by_cases h0 : t = []
  · subst h0
    exact whole_nil w
  · by_cases h1 : t[0]? = some 45
    · exact whole_neg t w ht h0 h1
    · exact whole_pos t w ht h0 h1
end Go.Proofs.YtpmfpfkahanlaaaGreatDoor
