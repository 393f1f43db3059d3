/- The reference's kinds of operations, walked. -/
import Derived.Test.YtpmfpfkahanlaaaGreatDoorHA
import Derived.Test.YtpmfpfkahanlaaaGreatDoorHB
import Derived.WalkSpells
import Derived.Deep.QuietTactic
import Derived.BigQuiet
import Derived.Test.YtpmfpfkahanlaaaGreatDoorHW
import Derived.Test.YtpmfpfkahanlaaaGreatDoorHC
namespace Go.Proofs.YtpmfpfkahanlaaaGreatDoor
open Go.RowKit
set_option linter.unusedSimpArgs false
set_option linter.unusedVariables false
attribute [local go_sem] Later.cell Later.lt
attribute [local go_sem high] run_eqV run_neV

theorem rCompares_any (s : List UInt8) (w : World) :
    Calls Tryz.prog 78 #[.string ⟨s.toArray⟩] w fun e w' => e = .returned (.bool (rCmpOp s)) ∧ Below w.heap.size w w' := by
  go_enter Tryz.func78, Tryz.ntmps78
  go_wp2_with fail
  refine (has_any _ _ _ [[61], [60, 62], [60], [60, 61], [62], [62, 61]] s _ (ss_new w _ (by decide))).mono ?_; rintro e w' ⟨rfl, rfl⟩
  go_wp2
  ((try simp only [Exit.inBlock, Exit.then]); refine bodyPost_ret (by simp only [results, Tryz.results78]; go_simp; try rfl) rfl ?_)
  refine ⟨rfl, ?_⟩
  (repeat' (first | (with_reducible exact Below.refl _ _) | (with_reducible assumption) | (with_reducible refine Below.alloc ?_ ?_ _) | (with_reducible refine Below.drew ?_) | (with_reducible refine Below.drewN' ?_ _) | (with_reducible refine Below.setCell ?_ ?_ _) | (refine Below.via ?_ (by assumption) ?_) | go_size))
set_option maxHeartbeats 1000000 in
theorem rTakes_any (A : Option Addr) (n c : Nat) (l : List Int) (k : Int) (w : World) (hS : Ks w A n l) (hn : n ≤ 1000) :
    Calls Tryz.prog 117 #[.slice A n c, .int .i64 k] w fun e w' => e = .returned (.bool (rTakes l k)) ∧ w = w' := by
  have hlen := Lib.hid hS.len
  have hat := Lib.hid hS.at_
  clear hS
  go_enter Tryz.func117, Tryz.ntmps117
  go_wp2
  go_loop [9] (fun i => ∃ j : Nat, j ≤ n ∧ i = .int .i64 j ∧ Hid ((l.take j).contains k = false)) (fun i => n - (intOf i).toNat)
  case atStart => exact ⟨0, Nat.zero_le _, rfl, (show Hid _ from by simp [Hid])⟩
  case round =>
    obtain ⟨j, hj, rfl, HA⟩ := hrel
    by_cases hlt : j < n
    · obtain ⟨b, off, rfl, _, hc⟩ := hat.out (by omega)
      have hl : j < l.length := by rw [hlen.out]; exact hlt
      have hcell := hc j hl
      have HT : Hid (l.take (j + 1) = l.take j ++ [l[j]]) := Lib.hid (List.take_succ_eq_append_getElem hl)
      have HM : Hid (l[j] ∈ l) := Lib.hid (List.getElem_mem hl)
      generalize l[j] = x at hcell HT HM
      clear hc
      by_cases hx : x = k
      · subst hx
        go_wp2
        ((try simp only [Exit.inBlock, Exit.then]); refine bodyPost_ret (by simp only [results, Tryz.results117]; go_simp; try rfl) rfl ?_)
        exact ⟨ret_bool (by unfold rTakes; simp [HM.out]), rfl⟩
      · have hx2 : (x == k) = false := by simpa using hx
        go_wp2
        exact ⟨⟨j + 1, by omega, by go_num, (show Hid _ from by rw [HT.out]; have := HA.out; simp_all [Hid]; exact fun e => hx e.symm)⟩, by simp [intOf]; omega⟩
    · obtain rfl : j = n := by omega
      have := HA.out
      rw [List.take_of_length_le (by rw [hlen.out]; exact Nat.le_refl _)] at this
      have H2 := Lib.hid this
      clear this
      go_wp2
      ((try simp only [Exit.inBlock, Exit.then]); refine bodyPost_ret (by simp only [results, Tryz.results117]; go_simp; try rfl) rfl ?_)
      exact ⟨ret_bool (by unfold rTakes; rw [H2.out]; rfl), rfl⟩
/-- The kinds that an operation takes, as they are handed back. -/
def KindsAt (op : List UInt8) (w : World) (e : Ending) (w' : World) : Prop := ∃ (A : Option Addr) (c : Nat), e = .returned (.slice A (rKinds op).length c) ∧ Ks w' A (rKinds op).length (rKinds op) ∧ A.isSome = !(rKinds op == []) ∧ Below w.heap.size w w'
theorem kinds_lit {op : List UInt8} {w W : World} {l : List Int} {n b : Nat} (hb : b = W.heap.size) (h : rKinds op = l) (hn : n = l.length) (hl : l ≠ []) (hB : Below w.heap.size w W) :
    KindsAt op w (.returned (.slice (some ⟨b, 0, none⟩) n n)) (W.alloc (.cells (l.map (Value.int .i64)).toArray 25)) := by
  subst hn hb
  refine ⟨_, l.length, by rw [h], by rw [h]; exact ks_new W l, ?_, hB.alloc hB.size _⟩
  rw [h]
  cases l with
  | nil => exact absurd rfl hl
  | cons x r => rfl
set_option maxHeartbeats 1000000 in
theorem rKinds_any (op : List UInt8) (w : World) : Calls Tryz.prog 116 #[.string ⟨op.toArray⟩] w (KindsAt op w) := by
  have c1 : ∀ W : World, Calls Tryz.prog 99 #[.slice (some ⟨W.heap.size, 0, none⟩) 5 5, .string ⟨op.toArray⟩] (W.alloc (.cells #[.string ⟨#[43]⟩, .string ⟨#[45]⟩, .string ⟨#[42]⟩, .string ⟨#[47]⟩, .string ⟨#[109, 111, 100]⟩] 9)) fun e w' => e = .returned (.bool (rArOp op)) ∧ (W.alloc (.cells #[.string ⟨#[43]⟩, .string ⟨#[45]⟩, .string ⟨#[42]⟩, .string ⟨#[47]⟩, .string ⟨#[109, 111, 100]⟩] 9)) = w' := fun W =>
    has_any _ _ _ [[43], [45], [42], [47], [109, 111, 100]] op _ (ss_new W [[43], [45], [42], [47], [109, 111, 100]] (by decide))
  have C1 := Lib.hid c1
  clear c1
  cases h1 : rArOp op with
  | true =>
    have hk : rKinds op = [1] := by unfold rKinds; rw [h1]; rfl
    have HK := Lib.hid hk
    have H1 := Lib.hid h1
    clear hk h1
    go_enter Tryz.func116, Tryz.ntmps116
    go_wp2_with fail
    refine (C1.out _).mono ?_; rintro e w' ⟨rfl, rfl⟩
    rw [H1.out]
    go_wp2
    ((try simp only [Exit.inBlock, Exit.then]); refine bodyPost_ret (by simp only [results, Tryz.results116]; go_simp; try rfl) rfl ?_)
    exact kinds_lit (l := [1]) (by simp) HK.out rfl (by simp) ((Below.refl _ _).alloc (Nat.le_refl _) _)
  | false =>
    have H1 := Lib.hid h1
    cases h2 : (op == [124, 124] || op == [108, 105, 107, 101]) with
    | true =>
      have hk : rKinds op = [2] := by unfold rKinds; rw [h1, h2]; rfl
      have HK := Lib.hid hk
      have h3 : op = [124, 124] ∨ op = [108, 105, 107, 101] := by simpa using h2
      clear hk h1 h2
      rcases h3 with rfl | rfl
      all_goals
        go_enter Tryz.func116, Tryz.ntmps116
        go_wp2_with fail
        refine (C1.out _).mono ?_; rintro e w' ⟨rfl, rfl⟩
        rw [H1.out]
        go_wp2
        ((try simp only [Exit.inBlock, Exit.then]); refine bodyPost_ret (by simp only [results, Tryz.results116]; go_simp; try rfl) rfl ?_)
        exact kinds_lit (l := [2]) (by simp) HK.out rfl (by simp) ((Below.refl _ _).alloc (Nat.le_refl _) _)
    | false =>
      cases h4 : (op == [97, 110, 100] || op == [111, 114]) with
      | true =>
        have hk : rKinds op = [3] := by unfold rKinds; rw [h1, h2, h4]; rfl
        have HK := Lib.hid hk
        have h3 : op = [97, 110, 100] ∨ op = [111, 114] := by simpa using h4
        clear hk h1 h2 h4
        rcases h3 with rfl | rfl
        all_goals
          go_enter Tryz.func116, Tryz.ntmps116
          go_wp2_with fail
          refine (C1.out _).mono ?_; rintro e w' ⟨rfl, rfl⟩
          rw [H1.out]
          go_wp2
          ((try simp only [Exit.inBlock, Exit.then]); refine bodyPost_ret (by simp only [results, Tryz.results116]; go_simp; try rfl) rfl ?_)
          exact kinds_lit (l := [3]) (by simp) HK.out rfl (by simp) ((Below.refl _ _).alloc (Nat.le_refl _) _)
      | false =>
        have hk : rKinds op = if rCmpOp op then [1, 2, 3] else [] := by unfold rKinds; rw [h1, h2, h4]; rfl
        have HK := Lib.hid hk
        rw [Bool.or_eq_false_iff] at h2 h4
        obtain ⟨a1, a2⟩ := h2
        obtain ⟨a3, a4⟩ := h4
        clear hk h1
        go_enter Tryz.func116, Tryz.ntmps116
        go_wp2_with fail
        refine (C1.out _).mono ?_; rintro e w' ⟨rfl, rfl⟩
        rw [H1.out]
        go_wp2_with fail
        refine (rCompares_any _ _).mono ?_; rintro e w1 ⟨rfl, hbw1⟩
        have hz := hbw1.size
        have HB : Hid (Below w.heap.size w w1) := Lib.hid (by (repeat' (first | (with_reducible exact Below.refl _ _) | (with_reducible assumption) | (with_reducible refine Below.alloc ?_ ?_ _) | (with_reducible refine Below.drew ?_) | (with_reducible refine Below.drewN' ?_ _) | (with_reducible refine Below.setCell ?_ ?_ _) | (refine Below.via ?_ (by assumption) ?_) | go_size)))
        clear hbw1 hz
        cases h5 : rCmpOp op with
        | true =>
          have hk := HK.out
          rw [h5] at hk
          have HK2 := Lib.hid hk
          clear hk HK h5
          go_wp2
          ((try simp only [Exit.inBlock, Exit.then]); refine bodyPost_ret (by simp only [results, Tryz.results116]; go_simp; try rfl) rfl ?_)
          exact kinds_lit (l := [1, 2, 3]) (by simp) HK2.out rfl (by simp) HB.out
        | false =>
          have hk := HK.out
          rw [h5] at hk
          have HK2 : Hid (rKinds op = []) := Lib.hid hk
          clear hk HK h5
          go_wp2
          ((try simp only [Exit.inBlock, Exit.then]); refine bodyPost_ret (by simp only [results, Tryz.results116]; go_simp; try rfl) rfl ?_)
          exact ⟨none, 0, by rw [HK2.out]; rfl, by rw [HK2.out]; exact Ks.nil, by rw [HK2.out]; rfl, HB.out⟩
theorem rIsBinary_any (op : List UInt8) (w : World) :
    Calls Tryz.prog 74 #[.string ⟨op.toArray⟩] w fun e w' => e = .returned (.bool (!(rKinds op == []))) ∧ Below w.heap.size w w' := by
  go_enter Tryz.func74, Tryz.ntmps74
  go_wp2_with fail
  refine (rKinds_any _ _).mono ?_; rintro e w1 ⟨A, c, rfl, hk, hA, hb⟩
  have hne := fun (a : Option Addr) (n : Nat) => run_neq_slice_nil_any (P := Tryz.prog) w1 79 25 a n c 0 0 Tryz.underlying79
  have HA := Lib.hid hA
  clear hA hk
  have HB := Lib.hid hb
  clear hb
  go_wp2
  ((try simp only [Exit.inBlock, Exit.then]); refine bodyPost_ret (by simp only [results, Tryz.results74]; go_simp; try rfl) rfl ?_)
  exact ⟨ret_bool HA.out, HB.out⟩
end Go.Proofs.YtpmfpfkahanlaaaGreatDoor

/- The reference's Typed and truths, walked. -/
namespace Go.Proofs.YtpmfpfkahanlaaaGreatDoor
open Go.RowKit
set_option linter.unusedSimpArgs false
set_option linter.unusedVariables false
attribute [local go_sem] Later.cell Later.lt
attribute [local go_sem high] run_eqV run_neV

set_option maxHeartbeats 1000000 in
theorem rTruths_any (op : List UInt8) (k n k' n' : Int) (t t' : List UInt8) (w : World) :
    Calls Tryz.prog 76 #[.string ⟨op.toArray⟩, (.agg #[.int .i64 (k), .int .i64 (n), .string ⟨List.toArray (t)⟩]), (.agg #[.int .i64 (k'), .int .i64 (n'), .string ⟨List.toArray (t')⟩])] w fun e w' => e = .returned (.agg #[.int .i64 (sLogic op ⟨k, n, t⟩ ⟨k', n', t'⟩).k, .int .i64 (sLogic op ⟨k, n, t⟩ ⟨k', n', t'⟩).n, .string ⟨List.toArray (sLogic op ⟨k, n, t⟩ ⟨k', n', t'⟩).t⟩]) ∧ Below w.heap.size w w' := by
  go_enter Tryz.func76, Tryz.ntmps76
  go_wp2_with fail
  refine (rBool_any _ _).mono ?_; rintro e w1 ⟨rfl, hbw1⟩; obtain ⟨hcw1, hfw1⟩ := bfacts hbw1; have hzw1 := hbw1.size; (try simp only [World.size_alloc, World.size_setCell, World.size_drew] at hzw1); (try have hpw1 : 0 < w1.heap.size := by omega); (try have : w.heap.size < w1.heap.size := by omega); (try have : w.heap.size + 1 < w1.heap.size := by omega); (try have : w.heap.size + 1 + 1 < w1.heap.size := by omega); (try have : w.heap.size + 1 + 1 + 1 < w1.heap.size := by omega); (try have : w.heap.size + 1 + 1 + 1 + 1 < w1.heap.size := by omega); (try have : w.heap.size + 1 + 1 + 1 + 1 + 1 < w1.heap.size := by omega); (try have : w.heap.size < w1.heap.size + 1 := by omega); (try have : w.heap.size + 1 < w1.heap.size + 1 := by omega); (try have : w.heap.size + 1 + 1 < w1.heap.size + 1 := by omega); (try have : w.heap.size + 1 + 1 + 1 < w1.heap.size + 1 := by omega); (try have : w.heap.size + 1 + 1 + 1 + 1 < w1.heap.size + 1 := by omega)
  go_wp2_with (first | (go_at_call 55; refine (rBool_any _ _).mono ?_; rintro e w2 ⟨rfl, hbw2⟩; obtain ⟨hcw2, hfw2⟩ := bfacts hbw2; have hzw2 := hbw2.size; (try simp only [World.size_alloc, World.size_setCell, World.size_drew] at hzw2); (try have hpw2 : 0 < w2.heap.size := by omega); (try have : w.heap.size < w2.heap.size := by omega); (try have : w.heap.size + 1 < w2.heap.size := by omega); (try have : w.heap.size + 1 + 1 < w2.heap.size := by omega); (try have : w.heap.size + 1 + 1 + 1 < w2.heap.size := by omega); (try have : w.heap.size + 1 + 1 + 1 + 1 < w2.heap.size := by omega); (try have : w.heap.size + 1 + 1 + 1 + 1 + 1 < w2.heap.size := by omega); (try have : w.heap.size < w2.heap.size + 1 := by omega); (try have : w.heap.size + 1 < w2.heap.size + 1 := by omega); (try have : w.heap.size + 1 + 1 < w2.heap.size + 1 := by omega); (try have : w.heap.size + 1 + 1 + 1 < w2.heap.size + 1 := by omega); (try have : w.heap.size + 1 + 1 + 1 + 1 < w2.heap.size + 1 := by omega); (try have : w1.heap.size < w2.heap.size := by omega); (try have : w1.heap.size + 1 < w2.heap.size := by omega); (try have : w1.heap.size + 1 + 1 < w2.heap.size := by omega); (try have : w1.heap.size + 1 + 1 + 1 < w2.heap.size := by omega); (try have : w1.heap.size + 1 + 1 + 1 + 1 < w2.heap.size := by omega); (try have : w1.heap.size + 1 + 1 + 1 + 1 + 1 < w2.heap.size := by omega); (try have : w1.heap.size < w2.heap.size + 1 := by omega); (try have : w1.heap.size + 1 < w2.heap.size + 1 := by omega); (try have : w1.heap.size + 1 + 1 < w2.heap.size + 1 := by omega); (try have : w1.heap.size + 1 + 1 + 1 < w2.heap.size + 1 := by omega); (try have : w1.heap.size + 1 + 1 + 1 + 1 < w2.heap.size + 1 := by omega)) | (go_at_call 56; refine (rNull_any _).mono ?_; rintro e w2 ⟨rfl, hbw2⟩; obtain ⟨hcw2, hfw2⟩ := bfacts hbw2; have hzw2 := hbw2.size; (try simp only [World.size_alloc, World.size_setCell, World.size_drew] at hzw2); (try have hpw2 : 0 < w2.heap.size := by omega); (try have : w.heap.size < w2.heap.size := by omega); (try have : w.heap.size + 1 < w2.heap.size := by omega); (try have : w.heap.size + 1 + 1 < w2.heap.size := by omega); (try have : w.heap.size + 1 + 1 + 1 < w2.heap.size := by omega); (try have : w.heap.size + 1 + 1 + 1 + 1 < w2.heap.size := by omega); (try have : w.heap.size + 1 + 1 + 1 + 1 + 1 < w2.heap.size := by omega); (try have : w.heap.size < w2.heap.size + 1 := by omega); (try have : w.heap.size + 1 < w2.heap.size + 1 := by omega); (try have : w.heap.size + 1 + 1 < w2.heap.size + 1 := by omega); (try have : w.heap.size + 1 + 1 + 1 < w2.heap.size + 1 := by omega); (try have : w.heap.size + 1 + 1 + 1 + 1 < w2.heap.size + 1 := by omega); (try have : w1.heap.size < w2.heap.size := by omega); (try have : w1.heap.size + 1 < w2.heap.size := by omega); (try have : w1.heap.size + 1 + 1 < w2.heap.size := by omega); (try have : w1.heap.size + 1 + 1 + 1 < w2.heap.size := by omega); (try have : w1.heap.size + 1 + 1 + 1 + 1 < w2.heap.size := by omega); (try have : w1.heap.size + 1 + 1 + 1 + 1 + 1 < w2.heap.size := by omega); (try have : w1.heap.size < w2.heap.size + 1 := by omega); (try have : w1.heap.size + 1 < w2.heap.size + 1 := by omega); (try have : w1.heap.size + 1 + 1 < w2.heap.size + 1 := by omega); (try have : w1.heap.size + 1 + 1 + 1 < w2.heap.size + 1 := by omega); (try have : w1.heap.size + 1 + 1 + 1 + 1 < w2.heap.size + 1 := by omega)))
  all_goals (((try simp only [Exit.inBlock, Exit.then]); refine bodyPost_ret (by simp only [results, Tryz.results76]; go_simp; try rfl) rfl ?_); refine ⟨ret_v ?_, ?_⟩)
  all_goals (first | ((repeat' (first | (with_reducible exact Below.refl _ _) | (with_reducible assumption) | (with_reducible refine Below.alloc ?_ ?_ _) | (with_reducible refine Below.drew ?_) | (with_reducible refine Below.drewN' ?_ _) | (with_reducible refine Below.setCell ?_ ?_ _) | (refine Below.via ?_ (by assumption) ?_) | go_size)); done) | skip)
  all_goals (go_light; first | (simp_all [sLogic, vN]; done) | ((try simp [sLogic, vN]); (repeat' split) <;> (try simp_all) <;> (try omega)))
theorem kinds_len (op : List UInt8) : (rKinds op).length ≤ 1000 := by
  unfold rKinds
  repeat' split
  all_goals simp
set_option maxHeartbeats 1000000 in
theorem rTyped_any (op : List UInt8) (a b : Int) (w : World) :
    Calls Tryz.prog 75 #[.string ⟨op.toArray⟩, .int .i64 a, .int .i64 b] w fun e w' => e = .returned (.int .i64 (rTyped op a b)) ∧ Below w.heap.size w w' := by
  have HL := Lib.hid (kinds_len op)
  have HR : Hid (rTyped op a b = if !rTakes (rKinds op) a || (!rTakes (rKinds op) b || (a != 0 && (b != 0 && a != b))) then 16 else 0) := Lib.hid rfl
  go_enter Tryz.func75, Tryz.ntmps75
  go_wp2_with fail
  refine (rKinds_any _ _).mono ?_; rintro e w1 ⟨A, c, rfl, hk, -, hb⟩
  have HK := Lib.hid hk
  have HB := Lib.hid hb
  clear hk hb
  go_wp2_with fail
  refine (rTakes_any _ _ _ _ _ _ HK.out HL.out).mono ?_; rintro e w2 ⟨rfl, rfl⟩
  cases h1 : rTakes (rKinds op) a with
  | false =>
    have H1 := Lib.hid h1
    clear h1
    go_wp2
    ((try simp only [Exit.inBlock, Exit.then]); refine bodyPost_ret (by simp only [results, Tryz.results75]; go_simp; try rfl) rfl ?_)
    exact ⟨ret_int (by rw [HR.out, H1.out]; rfl), HB.out⟩
  | true =>
    have H1 := Lib.hid h1
    clear h1
    go_wp2_with fail
    refine (rTakes_any _ _ _ _ _ _ HK.out HL.out).mono ?_; rintro e w3 ⟨rfl, rfl⟩
    cases h2 : rTakes (rKinds op) b with
    | false =>
      have H2 := Lib.hid h2
      clear h2
      go_wp2
      ((try simp only [Exit.inBlock, Exit.then]); refine bodyPost_ret (by simp only [results, Tryz.results75]; go_simp; try rfl) rfl ?_)
      exact ⟨ret_int (by rw [HR.out, H1.out, H2.out]; rfl), HB.out⟩
    | true =>
      have H2 := Lib.hid h2
      clear h2
      by_cases ha : a = 0
      · subst ha
        go_wp2
        ((try simp only [Exit.inBlock, Exit.then]); refine bodyPost_ret (by simp only [results, Tryz.results75]; go_simp; try rfl) rfl ?_)
        exact ⟨ret_int (by rw [HR.out, H1.out, H2.out]; rfl), HB.out⟩
      · have ha1 : (a != 0) = true := by simpa using ha
        by_cases hb0 : b = 0
        · subst hb0
          go_wp2
          ((try simp only [Exit.inBlock, Exit.then]); refine bodyPost_ret (by simp only [results, Tryz.results75]; go_simp; try rfl) rfl ?_)
          exact ⟨ret_int (by rw [HR.out, H1.out, H2.out, ha1]; rfl), HB.out⟩
        · have hb1 : (b != 0) = true := by simpa using hb0
          by_cases hab : a = b
          · have hab1 : (a != b) = false := by simpa using hab
            have HQ := Lib.hid hab1
            have h1 := Lib.hid ha1
            have h2 := Lib.hid hb1
            subst hab
            go_wp2
            ((try simp only [Exit.inBlock, Exit.then]); refine bodyPost_ret (by simp only [results, Tryz.results75]; go_simp; try rfl) rfl ?_)
            exact ⟨ret_int (by rw [HR.out, H1.out]; simp), HB.out⟩
          · have hab1 : (a != b) = true := by simpa using hab
            go_wp2
            ((try simp only [Exit.inBlock, Exit.then]); refine bodyPost_ret (by simp only [results, Tryz.results75]; go_simp; try rfl) rfl ?_)
            exact ⟨ret_int (by rw [HR.out, H1.out, H2.out, ha1, hb1, hab1]; rfl), HB.out⟩
end Go.Proofs.YtpmfpfkahanlaaaGreatDoor

/- The reference's Like, walked. -/
namespace Go.Proofs.YtpmfpfkahanlaaaGreatDoor
open Go.RowKit
set_option linter.unusedSimpArgs false
set_option linter.unusedVariables false
attribute [local go_sem] Later.cell Later.lt
attribute [local go_sem high] run_eqV run_neV

theorem rB_zero (c : UInt8) (u p : List UInt8) : rowB (c :: u) p 0 = false := by simp [rowB, mL_cn]
theorem rB_start0 (p : List UInt8) : rowB [] p 0 = true := by simp [rowB, mL_nn]
theorem rB_start (p : List UInt8) (i : Nat) (h : i < p.length) : rowB [] p (i + 1) = (p[i] == 37 && rowB [] p i) := by
  unfold rowB; rw [rev_take_succ p i h, mL_nc]
theorem rB_end (p : List UInt8) (j : Nat) (h : ∀ (hj : j < p.length), p[j] ≠ 37) : ∀ d, j + d + 1 ≤ p.length → rowB [] p (j + d + 1) = false
  | 0, hd => by
    rw [show j + 0 + 1 = j + 1 by omega, rB_start p j (by omega), beq_eq_false_iff_ne.2 (h (by omega))]
    rfl
  | d + 1, hd => by
    rw [rB_start p (j + (d + 1)) (by omega), show rowB [] p (j + (d + 1)) = false from rB_end p j h d (by omega), Bool.and_false]
theorem rB_pc (c : UInt8) (u p : List UInt8) (i : Nat) (h : i < p.length) (e : p[i] = 37) : rowB (c :: u) p (i + 1) = (rowB u p (i + 1) || (rowB (c :: u) p i || rowB u p i)) := by
  unfold rowB
  rw [rev_take_succ p i h, e, mL_pc]
  cases h1 : mL u (p.take i).reverse with
  | true => rw [mL_mono _ _ h1]; simp
  | false => simp
theorem rB_oc (c : UInt8) (u p : List UInt8) (i : Nat) (h : i < p.length) (e : p[i] ≠ 37) : rowB (c :: u) p (i + 1) = ((p[i] == 95 || p[i] == c) && rowB u p i) := by
  unfold rowB
  rw [rev_take_succ p i h, mL_oc _ _ _ _ e]
/-- The row that is being made, i places done. -/
def mk (f : Nat → Bool) (i m : Nat) : Bool := decide (m ≤ i) && f m
theorem mk_next {f : Nat → Bool} {i : Nat} {b : Bool} (h : f (i + 1) = b) : upd (mk f i) (i + 1) b = mk f (i + 1) := by
  funext m
  unfold upd mk
  by_cases e : m = i + 1
  · subst e; simp [h]
  · rw [if_neg e]
    by_cases e2 : m ≤ i
    · simp [e2, Nat.le_succ_of_le e2]
    · simp [e2, show ¬ m ≤ i + 1 by omega]
theorem mk_keep {f : Nat → Bool} {i : Nat} (h : f (i + 1) = false) : mk f i = mk f (i + 1) := by
  funext m
  unfold mk
  by_cases e : m = i + 1
  · subst e; simp [h]
  · by_cases e2 : m ≤ i
    · simp [e2, Nat.le_succ_of_le e2]
    · simp [e2, show ¬ m ≤ i + 1 by omega]
/-- A row of the call's own. -/
structure RB (w0 w : World) (g n : Nat) (f : Nat → Bool) : Prop where
  bk : Blk w g 4 (bools (n + 1) f)
  b : Below w0.heap.size w0 w
  hg : w0.heap.size ≤ g
theorem RB.set {w0 w : World} {g n : Nat} {f : Nat → Bool} (h : RB w0 w g n f) (j : Nat) (b : Bool) : RB w0 (w.setCell ⟨g, j, none⟩ (.bool b)) g n (upd f j b) :=
  ⟨by rw [← bools_set]; exact blk_set h.bk j _, h.b.setCell h.hg _, h.hg⟩

theorem RB.alloc {w0 w : World} {g n : Nat} {f : Nat → Bool} (h : RB w0 w g n f) (o : Obj) : RB w0 (w.alloc o) g n f := ⟨blk_alloc h.bk o, h.b.alloc (Nat.le_trans h.hg (Nat.le_of_lt (blk_lt h.bk))) o, h.hg⟩
theorem RB.iterAt {w0 w : World} {g n : Nat} {f : Nat → Bool} (h : RB w0 w g n f) {k pos : Nat} {q : ByteArray} (hk : w.heap[k]? = some (.stringIter q pos)) (hN : w0.heap.size ≤ k) (pos' : Nat) : RB w0 (w.iterAt k q pos') g n f :=
  ⟨blk_iterAt h.bk (by rintro rfl; have := h.bk; unfold Blk at this; rw [hk] at this; cases this) q pos', Lib.below_iterAt h.b hN q pos', h.hg⟩
theorem RB.far {w0 w : World} {g n : Nat} {f : Nat → Bool} (h : RB w0 w g n f) {g' j : Nat} (hne : g ≠ g') (hg : w0.heap.size ≤ g') (u : Value) : RB w0 (w.setCell ⟨g', j, none⟩ u) g n f :=
  ⟨blk_far h.bk hne u, h.b.setCell hg u, h.hg⟩
theorem RB.later {w0 w w' : World} {g n : Nat} {f : Nat → Bool} (h : RB w0 w g n f) (hb : Below w.heap.size w w') : RB w0 w' g n f := ⟨(hb.block g (blk_lt h.bk)).trans h.bk, h.b.trans (hb.mono h.b.size), h.hg⟩
theorem rl_set {w W : World} {g o n pos : Nat} {f q : Nat → Bool} {ps : ByteArray} {b : Bool} (K : Blk W o 4 (bools (n + 1) (mk f pos)) ∧ RB w W g n q ∧ W.heap[o + 1]? = some (.stringIter ps (pos + 1))) (hne : g ≠ o) (ho : w.heap.size ≤ o) (hb : f (pos + 1) = b) :
    Hid ((W.setCell ⟨o, pos + 1, none⟩ (.bool b)).heap[o + 1]? = some (.stringIter ps (pos + 1)) ∧ Blk (W.setCell ⟨o, pos + 1, none⟩ (.bool b)) o 4 (bools (n + 1) (mk f (pos + 1))) ∧ RB w (W.setCell ⟨o, pos + 1, none⟩ (.bool b)) g n q) :=
  Lib.hid ⟨iter_far K.2.2 (show o + 1 ≠ o by omega) _, by rw [← mk_next hb, ← bools_set]; exact blk_set K.1 _ _, K.2.1.far hne ho _⟩
theorem rl_later {w W W' : World} {g o n : Nat} {f q : Nat → Bool} {x : Obj} (K : Blk W o 4 (bools (n + 1) f) ∧ RB w W g n q ∧ W.heap[o + 1]? = some x) (hb : Below W.heap.size W W') : Blk W' o 4 (bools (n + 1) f) ∧ RB w W' g n q ∧ W'.heap[o + 1]? = some x :=
  ⟨(hb.block o (blk_lt K.1)).trans K.1, K.2.1.later hb, (hb.block _ (Array.getElem?_eq_some_iff.1 K.2.2).1).trans K.2.2⟩
set_option maxHeartbeats 2000000 in
set_option maxRecDepth 100000 in
theorem rLike_any (s p : List UInt8) (w : World) (hn : p.length ≤ 4398046511104) (hs : s.length ≤ 4398046511104) (hlow : ∀ c ∈ p, c.toNat < 128) :
    Calls Tryz.prog 77 #[.string ⟨s.toArray⟩, .string ⟨p.toArray⟩] w fun e w' => e = .returned (.bool (sLike s p)) ∧ Below w.heap.size w w' := by
  have hmk := run_mkBools p.length hn _ rfl
  have HL := Lib.hid hlow
  have hb0 := bools_at (p.length + 1) 0 (fun _ => false) (by omega)
  clear hlow
  go_enter Tryz.func77, Tryz.ntmps77
  go_wp2_with fail
  go_loopw [6] (fun i wr => ∃ j : Nat, j ≤ p.length ∧ i = .int .i64 j ∧ Hid (RB w wr w.heap.size p.length (mk (rowB [] p) j)) ∧ Hid (rowB [] p j = true)) (fun i wr => p.length - (intOf i).toNat)
  case atStart =>
    refine ⟨0, Nat.zero_le _, rfl, Lib.hid ⟨?_, (Below.refl _ _).alloc (Nat.le_refl _) _, Nat.le_refl _⟩, Lib.hid (rB_start0 p)⟩
    rw [set0]
    rw [bools_congr (p.length + 1) (g := mk (rowB [] p) 0) (fun i hi => by unfold mk; cases i <;> simp [rB_start0])]
    exact blk_new _ _ _
  case round =>
    obtain ⟨j, hj, rfl, HB, HR⟩ := hrel
    by_cases hlt : j < p.length
    case pos =>
      have he : ({ data := p.toArray } : ByteArray)[j]'(show j < p.length from hlt) = p[j] := rfl
      have HC : Hid (rowB [] p (j + 1) = (p[j] == 37)) := Lib.hid (by rw [rB_start p j hlt, HR.out, Bool.and_true])
      have HX : Hid (p[j] ≠ 37 → bools (p.length + 1) (mk (rowB [] p) j) = bools (p.length + 1) (rowB [] p)) := Lib.hid fun h => bools_congr _ fun i hi => by
        unfold mk
        by_cases e : i ≤ j
        · simp [e]
        · have := rB_end p j (fun _ => h) (i - j - 1) (by omega)
          rw [show j + (i - j - 1) + 1 = i by omega] at this
          simp [e, this]
      generalize p[j] = ch at he HC HX
      have d0 := blk_cell HB.out.bk (j + 1)
      have d1 := blk_frozen HB.out.bk (j + 1)
      rw [bools_at _ _ _ (by omega)] at d0
      generalize mk (rowB [] p) j (j + 1) = b0 at d0
      by_cases h37 : ch = 37
      case pos =>
        subst h37
        go_wp2_with fail
        exact ⟨⟨j + 1, by omega, by go_num, Lib.hid ⟨by rw [← mk_next (b := true) (by rw [HC.out]; rfl), ← bools_set]; exact blk_set HB.out.bk _ _, HB.out.b.setCell (Nat.le_refl _) _, Nat.le_refl _⟩, Lib.hid (by rw [HC.out]; rfl)⟩, by simp [intOf]; omega⟩
      have h38 : ((ch.toNat : Int) == 37) = false := by
        have : ch.toNat ≠ 37 := fun e => h37 (UInt8.toNat_inj.1 e)
        simpa using (by omega : ¬ (ch.toNat : Int) = 37)
      have LS0 : Hid (RB w wr w.heap.size p.length (rowB [] p)) := Lib.hid ⟨by rw [← HX.out h37]; exact HB.out.bk, HB.out.b, HB.out.hg⟩
      have hmk0 := True.intro
      clear HX HC HB HR d0 d1 h37
      go_wp2_with fail
      go_loopw [5, 7] (fun v i wr => ∃ j g : Nat, j ≤ s.length ∧ i = .int .i64 j ∧ v = .slice (some ⟨g, 0, none⟩) (p.length + 1) (p.length + 1) ∧ Hid (RB w wr g p.length (rowB (s.take j).reverse p))) (fun _ i wr => s.length - (intOf i).toNat)
      case atStart => exact ⟨0, w.heap.size, Nat.zero_le _, rfl, rfl, LS0⟩
      case round =>
        clear LS0 hmk0
        obtain ⟨wo, rfl⟩ : ∃ wo, wo = wr := ⟨wr, rfl⟩
        obtain ⟨i, g, hi, rfl, rfl, HS⟩ := hrel
        by_cases hlt2 : i < s.length
        · have hse : ({ data := s.toArray } : ByteArray)[i]'(show i < s.length from hlt2) = s[i] := rfl
          have HT : Hid ((s.take (i + 1)).reverse = s[i] :: (s.take i).reverse) := Lib.hid (rev_take_succ s i hlt2)
          generalize s[i] = c at hse HT
          generalize hu : (s.take i).reverse = u at HS HT
          clear hu
          have z3 : g < wo.heap.size := blk_lt HS.out.bk
          have HSn := HS.out
          go_wp2_with fail
          have NG : Blk ((wo.alloc (.cells (bools (p.length + 1) fun x => false) 4)).iter ⟨p.toArray⟩ 0) wo.heap.size 4 (bools (p.length + 1) (mk (rowB (c :: u) p) 0)) := by
            have e : bools (p.length + 1) (mk (rowB (c :: u) p) 0) = bools (p.length + 1) (fun _ => false) := bools_congr _ fun m hm => by unfold mk; cases m <;> simp [rB_zero]
            rw [e]; exact blk_alloc (blk_new wo 4 _) _
          have LS1 : RB w ((wo.alloc (.cells (bools (p.length + 1) fun x => false) 4)).iter ⟨p.toArray⟩ 0) g p.length (rowB u p) := (HSn.alloc _).alloc _
          have IT : ((wo.alloc (.cells (bools (p.length + 1) fun x => false) 4)).iter ⟨p.toArray⟩ 0).heap[wo.heap.size + 1]? = some (.stringIter ⟨p.toArray⟩ 0) := by
            have := World.iter_heap (wo.alloc (.cells (bools (p.length + 1) fun x => false) 4)) ⟨p.toArray⟩ 0
            simpa using this
          have KK0 := Lib.hid (And.intro NG (And.intro LS1 IT))
          clear NG LS1 IT HSn
          go_loopw [9] (fun _ wr => ∃ pos : Nat, pos ≤ p.length ∧ Hid (wr.heap[wo.heap.size + 1]? = some (.stringIter ⟨p.toArray⟩ pos)) ∧ Hid (Blk wr wo.heap.size 4 (bools (p.length + 1) (mk (rowB (c :: u) p) pos))) ∧ Hid (RB w wr g p.length (rowB u p))) (fun _ wr => p.length - wr.iterPos (wo.heap.size + 1))
          case atStart => exact ⟨0, Nat.zero_le _, KK0.out.2.2, KK0.out.1, KK0.out.2.1⟩
          case round =>
            clear KK0
            obtain ⟨pos, hpos, HI, HG, HL1⟩ := hrel
            by_cases hl : pos < p.length
            · have hnx : ∀ ty, (Instr.next (.pointer (some ⟨wo.heap.size + 1, 0, none⟩)) true ty).run Tryz.prog wr = _ := fun ty => Lib.run_next_ascii_at wr (wo.heap.size + 1) ⟨p.toArray⟩ pos ty HI.out hl (HL.out _ (List.getElem_mem hl))
              have hz0 : w.heap.size ≤ wo.heap.size := by have := HS.out.hg; omega
              have hz : w.heap.size ≤ wo.heap.size + 1 := by omega
              have KL := HL1.out.iterAt HI.out hz (pos + 1)
              have KG := blk_iterAt HG.out (show wo.heap.size ≠ wo.heap.size + 1 by omega) ⟨p.toArray⟩ (pos + 1)
              have KI := Lib.iterAt_heap wr (wo.heap.size + 1) ⟨p.toArray⟩ pos (pos + 1) HI.out
              have hpos0 := iterPos_at HI.out
              generalize hW1 : wr.iterAt (wo.heap.size + 1) ⟨p.toArray⟩ (pos + 1) = WQ at hnx KL KG KI
              clear hW1
              have dg := blk_cell KL.bk pos
              have dg1 := blk_cell KL.bk (pos + 1)
              have dn := blk_cell KG pos
              have dn1 := blk_cell KG (pos + 1)
              have fn1 := blk_frozen KG (pos + 1)
              rw [bools_at _ _ _ (by omega)] at dg dg1 dn dn1
              have he2 : ({ data := p.toArray } : ByteArray)[pos]'(show pos < p.length from hl) = p[pos] := rfl
              have H1 : Hid (p[pos] = 37 → rowB (c :: u) p (pos + 1) = (rowB u p (pos + 1) || (rowB (c :: u) p pos || rowB u p pos))) := Lib.hid fun h => rB_pc c u p pos hl h
              have H2 : Hid (p[pos] ≠ 37 → rowB (c :: u) p (pos + 1) = ((p[pos] == 95 || p[pos] == c) && rowB u p pos)) := Lib.hid fun h => rB_oc c u p pos hl h
              generalize p[pos] = pch at he2 H1 H2 hnx
              have KK := Lib.hid (And.intro KG (And.intro KL KI))
              clear KG KL KI
              have e2 : mk (rowB (c :: u) p) pos pos = rowB (c :: u) p pos := by simp [mk]
              rw [e2] at dn
              clear e2
              generalize mk (rowB (c :: u) p) pos (pos + 1) = q1 at dn1
              obtain ⟨b1, h1⟩ : ∃ b1, rowB u p (pos + 1) = b1 := ⟨_, rfl⟩
              obtain ⟨b2, h2⟩ : ∃ b2, rowB (c :: u) p pos = b2 := ⟨_, rfl⟩
              obtain ⟨b3, h3⟩ : ∃ b3, rowB u p pos = b3 := ⟨_, rfl⟩
              rw [h1] at dg1
              rw [h2] at dn
              rw [h3] at dg
              rw [h1, h2, h3] at H1
              rw [h3] at H2
              have H3 := Lib.hid h3
              clear h1 h2 h3
              have hgo : g ≠ wo.heap.size := by omega
              by_cases h37 : pch = 37
              case pos =>
                subst h37
                have H1' := Lib.hid (H1.out rfl)
                clear H1 H2
                cases b1 with
                | true =>
                  have X := rl_set (b := true) KK.out hgo hz0 (by rw [H1'.out]; rfl)
                  go_wp2_with fail
                  exact ⟨⟨pos + 1, by omega, X.out.1, X.out.2.1, X.out.2.2⟩, by rw [iterPos_at X.out.1, hpos0]; omega⟩
                | false =>
                  cases b2 with
                  | true =>
                    have X := rl_set (b := true) KK.out hgo hz0 (by rw [H1'.out]; rfl)
                    go_wp2_with fail
                    exact ⟨⟨pos + 1, by omega, X.out.1, X.out.2.1, X.out.2.2⟩, by rw [iterPos_at X.out.1, hpos0]; omega⟩
                  | false =>
                    have X := rl_set (b := b3) KK.out hgo hz0 (by rw [H1'.out]; rfl)
                    go_wp2_with fail
                    exact ⟨⟨pos + 1, by omega, X.out.1, X.out.2.1, X.out.2.2⟩, by rw [iterPos_at X.out.1, hpos0]; omega⟩
              have H2' := Lib.hid (H2.out h37)
              clear H1 H2
              have n37 : ((pch.toNat : Int) == 37) = false := by
                have : pch.toNat ≠ 37 := fun e => h37 (UInt8.toNat_inj.1 e)
                simpa using (by omega : ¬ (pch.toNat : Int) = 37)
              clear h37
              go_upto_region 16 with fail
              clear dg dg1 dn dn1 fn1 hnx
              have REG : ∀ W', Below WQ.heap.size WQ W' → Hid (W'.cell? ⟨g, pos, none⟩ = some (.bool b3) ∧ (∃ q1, W'.cell? ⟨wo.heap.size, pos + 1, none⟩ = some (.bool q1)) ∧ W'.frozen? ⟨wo.heap.size, pos + 1, none⟩ = false ∧ Blk W' wo.heap.size 4 (bools (p.length + 1) (mk (rowB (c :: u) p) pos)) ∧ RB w W' g p.length (rowB u p) ∧ W'.heap[wo.heap.size + 1]? = some (.stringIter ⟨p.toArray⟩ (pos + 1))) := fun W' hb => by
                have K := rl_later KK.out hb
                have a1 := blk_cell K.2.1.bk pos
                have a2 := blk_cell K.1 (pos + 1)
                rw [bools_at _ _ _ (by omega)] at a1 a2
                rw [H3.out] at a1
                exact Lib.hid ⟨a1, ⟨_, a2⟩, blk_frozen K.1 _, K⟩
              by_cases h95 : pch = 95
              case pos =>
                subst h95
                refine wp_region_later (by kernel_rfl) (by kernel_rfl) ?_; (repeat (first | go_big_quiet_step (fail) | quiet_step (fail))); refine wpQuiet_nil ?_; intro w' hw'; obtain ⟨⟨w', hb⟩, hw''⟩ := hw'; subst hw''
                obtain ⟨r1, ⟨q2, r2⟩, r3, r4⟩ := (REG w' hb).out
                have X := rl_set (b := b3) r4 hgo hz0 (by rw [H2'.out]; rfl)
                have KKn := Lib.hid r4
                clear r4 REG KK hb
                go_wp2_with fail
                exact ⟨⟨pos + 1, by omega, X.out.1, X.out.2.1, X.out.2.2⟩, by rw [iterPos_at X.out.1, hpos0]; omega⟩
              have n95 : ((pch.toNat : Int) == 95) = false := by
                have : pch.toNat ≠ 95 := fun e => h95 (UInt8.toNat_inj.1 e)
                simpa using (by omega : ¬ (pch.toNat : Int) = 95)
              have m95 : (pch == 95) = false := beq_eq_false_iff_ne.2 h95
              clear h95
              by_cases hc : pch = c
              case pos =>
                subst hc
                refine wp_region_later (by kernel_rfl) (by kernel_rfl) ?_; (repeat (first | go_big_quiet_step (fail) | quiet_step (fail))); refine wpQuiet_nil ?_; intro w' hw'; obtain ⟨⟨w', hb⟩, hw''⟩ := hw'; subst hw''
                obtain ⟨r1, ⟨q2, r2⟩, r3, r4⟩ := (REG w' hb).out
                have X := rl_set (b := b3) r4 hgo hz0 (by rw [H2'.out]; simp)
                have KKn := Lib.hid r4
                clear r4 REG KK hb
                go_wp2_with fail
                exact ⟨⟨pos + 1, by omega, X.out.1, X.out.2.1, X.out.2.2⟩, by rw [iterPos_at X.out.1, hpos0]; omega⟩
              have nc : ((pch.toNat : Int) == (c.toNat : Int)) = false := by
                have : pch.toNat ≠ c.toNat := fun e => hc (UInt8.toNat_inj.1 e)
                simpa using (by omega : ¬ (pch.toNat : Int) = c.toNat)
              have mc : (pch == c) = false := beq_eq_false_iff_ne.2 hc
              clear hc
              refine wp_region_later (by kernel_rfl) (by kernel_rfl) ?_; (repeat (first | go_big_quiet_step (fail) | quiet_step (fail))); refine wpQuiet_nil ?_; intro w' hw'; obtain ⟨⟨w', hb⟩, hw''⟩ := hw'; subst hw''
              obtain ⟨r1, ⟨q2, r2⟩, r3, r4⟩ := (REG w' hb).out
              have KKn := Lib.hid r4
              clear r4 REG KK hb
              go_wp2_with fail
              exact ⟨⟨pos + 1, by omega, KKn.out.2.2, by rw [← mk_keep (f := rowB (c :: u) p) (by rw [H2'.out, m95, mc]; rfl)]; exact KKn.out.1, KKn.out.2.1⟩, by rw [iterPos_at KKn.out.2.2, hpos0]; omega⟩
            · obtain rfl : pos = p.length := by omega
              have hnx : ∀ ty, (Instr.next (.pointer (some ⟨wo.heap.size + 1, 0, none⟩)) true ty).run Tryz.prog wr = _ := fun ty => Lib.run_next_end_at wr (wo.heap.size + 1) ⟨p.toArray⟩ p.length ty HI.out (show ¬ p.length < p.length by omega)
              have hz0 : w.heap.size ≤ wo.heap.size := by have := HS.out.hg; omega
              have e : bools (p.length + 1) (rowB (c :: u) p) = bools (p.length + 1) (mk (rowB (c :: u) p) p.length) := bools_congr _ fun i hi => by unfold mk; simp [show i ≤ p.length by omega]
              have R : Hid (RB w wr wo.heap.size p.length (rowB (c :: u) p)) := Lib.hid ⟨by rw [e]; exact HG.out, HL1.out.b, hz0⟩
              clear e
              go_wp2_with fail
              exact ⟨⟨i + 1, wo.heap.size, by omega, by go_num, rfl, by rw [HT.out]; exact R⟩, by simp [intOf]; omega⟩
        · obtain rfl : i = s.length := by omega
          have hv : rowB (s.take s.length).reverse p p.length = sLike s p := by
            unfold rowB sLike
            rw [List.take_length, List.take_length]
          have cg := blk_cell HS.out.bk p.length
          rw [bools_at _ _ _ (by omega), hv] at cg
          have hB := Lib.hid HS.out.b
          generalize hr : sLike s p = r at cg
          go_wp2_with fail
          ((try simp only [Exit.inBlock, Exit.then]); refine bodyPost_ret (by simp only [results, Tryz.results77]; go_simp; try rfl) rfl ?_)
          exact ⟨by rw [hr], hB.out⟩
    obtain rfl : j = p.length := by omega
    have LS0 : Hid (RB w wr w.heap.size p.length (rowB [] p)) := Lib.hid ⟨by rw [bools_congr (p.length + 1) (f := rowB [] p) (g := mk (rowB [] p) p.length) (fun i hi => by unfold mk; simp [show i ≤ p.length by omega])]; exact HB.out.bk, HB.out.b, HB.out.hg⟩
    have hmk0 := True.intro
    clear HB HR
    go_wp2_with fail
    go_loopw [5, 7] (fun v i wr => ∃ j g : Nat, j ≤ s.length ∧ i = .int .i64 j ∧ v = .slice (some ⟨g, 0, none⟩) (p.length + 1) (p.length + 1) ∧ Hid (RB w wr g p.length (rowB (s.take j).reverse p))) (fun _ i wr => s.length - (intOf i).toNat)
    case atStart => exact ⟨0, w.heap.size, Nat.zero_le _, rfl, rfl, LS0⟩
    case round =>
      clear LS0 hmk0
      obtain ⟨wo, rfl⟩ : ∃ wo, wo = wr := ⟨wr, rfl⟩
      obtain ⟨i, g, hi, rfl, rfl, HS⟩ := hrel
      by_cases hlt2 : i < s.length
      · have hse : ({ data := s.toArray } : ByteArray)[i]'(show i < s.length from hlt2) = s[i] := rfl
        have HT : Hid ((s.take (i + 1)).reverse = s[i] :: (s.take i).reverse) := Lib.hid (rev_take_succ s i hlt2)
        generalize s[i] = c at hse HT
        generalize hu : (s.take i).reverse = u at HS HT
        clear hu
        have z3 : g < wo.heap.size := blk_lt HS.out.bk
        have HSn := HS.out
        go_wp2_with fail
        have NG : Blk ((wo.alloc (.cells (bools (p.length + 1) fun x => false) 4)).iter ⟨p.toArray⟩ 0) wo.heap.size 4 (bools (p.length + 1) (mk (rowB (c :: u) p) 0)) := by
          have e : bools (p.length + 1) (mk (rowB (c :: u) p) 0) = bools (p.length + 1) (fun _ => false) := bools_congr _ fun m hm => by unfold mk; cases m <;> simp [rB_zero]
          rw [e]; exact blk_alloc (blk_new wo 4 _) _
        have LS1 : RB w ((wo.alloc (.cells (bools (p.length + 1) fun x => false) 4)).iter ⟨p.toArray⟩ 0) g p.length (rowB u p) := (HSn.alloc _).alloc _
        have IT : ((wo.alloc (.cells (bools (p.length + 1) fun x => false) 4)).iter ⟨p.toArray⟩ 0).heap[wo.heap.size + 1]? = some (.stringIter ⟨p.toArray⟩ 0) := by
          have := World.iter_heap (wo.alloc (.cells (bools (p.length + 1) fun x => false) 4)) ⟨p.toArray⟩ 0
          simpa using this
        have KK0 := Lib.hid (And.intro NG (And.intro LS1 IT))
        clear NG LS1 IT HSn
        go_loopw [9] (fun _ wr => ∃ pos : Nat, pos ≤ p.length ∧ Hid (wr.heap[wo.heap.size + 1]? = some (.stringIter ⟨p.toArray⟩ pos)) ∧ Hid (Blk wr wo.heap.size 4 (bools (p.length + 1) (mk (rowB (c :: u) p) pos))) ∧ Hid (RB w wr g p.length (rowB u p))) (fun _ wr => p.length - wr.iterPos (wo.heap.size + 1))
        case atStart => exact ⟨0, Nat.zero_le _, KK0.out.2.2, KK0.out.1, KK0.out.2.1⟩
        case round =>
          clear KK0
          obtain ⟨pos, hpos, HI, HG, HL1⟩ := hrel
          by_cases hl : pos < p.length
          · have hnx : ∀ ty, (Instr.next (.pointer (some ⟨wo.heap.size + 1, 0, none⟩)) true ty).run Tryz.prog wr = _ := fun ty => Lib.run_next_ascii_at wr (wo.heap.size + 1) ⟨p.toArray⟩ pos ty HI.out hl (HL.out _ (List.getElem_mem hl))
            have hz0 : w.heap.size ≤ wo.heap.size := by have := HS.out.hg; omega
            have hz : w.heap.size ≤ wo.heap.size + 1 := by omega
            have KL := HL1.out.iterAt HI.out hz (pos + 1)
            have KG := blk_iterAt HG.out (show wo.heap.size ≠ wo.heap.size + 1 by omega) ⟨p.toArray⟩ (pos + 1)
            have KI := Lib.iterAt_heap wr (wo.heap.size + 1) ⟨p.toArray⟩ pos (pos + 1) HI.out
            have hpos0 := iterPos_at HI.out
            generalize hW1 : wr.iterAt (wo.heap.size + 1) ⟨p.toArray⟩ (pos + 1) = WQ at hnx KL KG KI
            clear hW1
            have dg := blk_cell KL.bk pos
            have dg1 := blk_cell KL.bk (pos + 1)
            have dn := blk_cell KG pos
            have dn1 := blk_cell KG (pos + 1)
            have fn1 := blk_frozen KG (pos + 1)
            rw [bools_at _ _ _ (by omega)] at dg dg1 dn dn1
            have he2 : ({ data := p.toArray } : ByteArray)[pos]'(show pos < p.length from hl) = p[pos] := rfl
            have H1 : Hid (p[pos] = 37 → rowB (c :: u) p (pos + 1) = (rowB u p (pos + 1) || (rowB (c :: u) p pos || rowB u p pos))) := Lib.hid fun h => rB_pc c u p pos hl h
            have H2 : Hid (p[pos] ≠ 37 → rowB (c :: u) p (pos + 1) = ((p[pos] == 95 || p[pos] == c) && rowB u p pos)) := Lib.hid fun h => rB_oc c u p pos hl h
            generalize p[pos] = pch at he2 H1 H2 hnx
            have KK := Lib.hid (And.intro KG (And.intro KL KI))
            clear KG KL KI
            have e2 : mk (rowB (c :: u) p) pos pos = rowB (c :: u) p pos := by simp [mk]
            rw [e2] at dn
            clear e2
            generalize mk (rowB (c :: u) p) pos (pos + 1) = q1 at dn1
            obtain ⟨b1, h1⟩ : ∃ b1, rowB u p (pos + 1) = b1 := ⟨_, rfl⟩
            obtain ⟨b2, h2⟩ : ∃ b2, rowB (c :: u) p pos = b2 := ⟨_, rfl⟩
            obtain ⟨b3, h3⟩ : ∃ b3, rowB u p pos = b3 := ⟨_, rfl⟩
            rw [h1] at dg1
            rw [h2] at dn
            rw [h3] at dg
            rw [h1, h2, h3] at H1
            rw [h3] at H2
            have H3 := Lib.hid h3
            clear h1 h2 h3
            have hgo : g ≠ wo.heap.size := by omega
            by_cases h37 : pch = 37
            case pos =>
              subst h37
              have H1' := Lib.hid (H1.out rfl)
              clear H1 H2
              cases b1 with
              | true =>
                have X := rl_set (b := true) KK.out hgo hz0 (by rw [H1'.out]; rfl)
                go_wp2_with fail
                exact ⟨⟨pos + 1, by omega, X.out.1, X.out.2.1, X.out.2.2⟩, by rw [iterPos_at X.out.1, hpos0]; omega⟩
              | false =>
                cases b2 with
                | true =>
                  have X := rl_set (b := true) KK.out hgo hz0 (by rw [H1'.out]; rfl)
                  go_wp2_with fail
                  exact ⟨⟨pos + 1, by omega, X.out.1, X.out.2.1, X.out.2.2⟩, by rw [iterPos_at X.out.1, hpos0]; omega⟩
                | false =>
                  have X := rl_set (b := b3) KK.out hgo hz0 (by rw [H1'.out]; rfl)
                  go_wp2_with fail
                  exact ⟨⟨pos + 1, by omega, X.out.1, X.out.2.1, X.out.2.2⟩, by rw [iterPos_at X.out.1, hpos0]; omega⟩
            have H2' := Lib.hid (H2.out h37)
            clear H1 H2
            have n37 : ((pch.toNat : Int) == 37) = false := by
              have : pch.toNat ≠ 37 := fun e => h37 (UInt8.toNat_inj.1 e)
              simpa using (by omega : ¬ (pch.toNat : Int) = 37)
            clear h37
            go_upto_region 16 with fail
            clear dg dg1 dn dn1 fn1 hnx
            have REG : ∀ W', Below WQ.heap.size WQ W' → Hid (W'.cell? ⟨g, pos, none⟩ = some (.bool b3) ∧ (∃ q1, W'.cell? ⟨wo.heap.size, pos + 1, none⟩ = some (.bool q1)) ∧ W'.frozen? ⟨wo.heap.size, pos + 1, none⟩ = false ∧ Blk W' wo.heap.size 4 (bools (p.length + 1) (mk (rowB (c :: u) p) pos)) ∧ RB w W' g p.length (rowB u p) ∧ W'.heap[wo.heap.size + 1]? = some (.stringIter ⟨p.toArray⟩ (pos + 1))) := fun W' hb => by
              have K := rl_later KK.out hb
              have a1 := blk_cell K.2.1.bk pos
              have a2 := blk_cell K.1 (pos + 1)
              rw [bools_at _ _ _ (by omega)] at a1 a2
              rw [H3.out] at a1
              exact Lib.hid ⟨a1, ⟨_, a2⟩, blk_frozen K.1 _, K⟩
            by_cases h95 : pch = 95
            case pos =>
              subst h95
              refine wp_region_later (by kernel_rfl) (by kernel_rfl) ?_; (repeat (first | go_big_quiet_step (fail) | quiet_step (fail))); refine wpQuiet_nil ?_; intro w' hw'; obtain ⟨⟨w', hb⟩, hw''⟩ := hw'; subst hw''
              obtain ⟨r1, ⟨q2, r2⟩, r3, r4⟩ := (REG w' hb).out
              have X := rl_set (b := b3) r4 hgo hz0 (by rw [H2'.out]; rfl)
              have KKn := Lib.hid r4
              clear r4 REG KK hb
              go_wp2_with fail
              exact ⟨⟨pos + 1, by omega, X.out.1, X.out.2.1, X.out.2.2⟩, by rw [iterPos_at X.out.1, hpos0]; omega⟩
            have n95 : ((pch.toNat : Int) == 95) = false := by
              have : pch.toNat ≠ 95 := fun e => h95 (UInt8.toNat_inj.1 e)
              simpa using (by omega : ¬ (pch.toNat : Int) = 95)
            have m95 : (pch == 95) = false := beq_eq_false_iff_ne.2 h95
            clear h95
            by_cases hc : pch = c
            case pos =>
              subst hc
              refine wp_region_later (by kernel_rfl) (by kernel_rfl) ?_; (repeat (first | go_big_quiet_step (fail) | quiet_step (fail))); refine wpQuiet_nil ?_; intro w' hw'; obtain ⟨⟨w', hb⟩, hw''⟩ := hw'; subst hw''
              obtain ⟨r1, ⟨q2, r2⟩, r3, r4⟩ := (REG w' hb).out
              have X := rl_set (b := b3) r4 hgo hz0 (by rw [H2'.out]; simp)
              have KKn := Lib.hid r4
              clear r4 REG KK hb
              go_wp2_with fail
              exact ⟨⟨pos + 1, by omega, X.out.1, X.out.2.1, X.out.2.2⟩, by rw [iterPos_at X.out.1, hpos0]; omega⟩
            have nc : ((pch.toNat : Int) == (c.toNat : Int)) = false := by
              have : pch.toNat ≠ c.toNat := fun e => hc (UInt8.toNat_inj.1 e)
              simpa using (by omega : ¬ (pch.toNat : Int) = c.toNat)
            have mc : (pch == c) = false := beq_eq_false_iff_ne.2 hc
            clear hc
            refine wp_region_later (by kernel_rfl) (by kernel_rfl) ?_; (repeat (first | go_big_quiet_step (fail) | quiet_step (fail))); refine wpQuiet_nil ?_; intro w' hw'; obtain ⟨⟨w', hb⟩, hw''⟩ := hw'; subst hw''
            obtain ⟨r1, ⟨q2, r2⟩, r3, r4⟩ := (REG w' hb).out
            have KKn := Lib.hid r4
            clear r4 REG KK hb
            go_wp2_with fail
            exact ⟨⟨pos + 1, by omega, KKn.out.2.2, by rw [← mk_keep (f := rowB (c :: u) p) (by rw [H2'.out, m95, mc]; rfl)]; exact KKn.out.1, KKn.out.2.1⟩, by rw [iterPos_at KKn.out.2.2, hpos0]; omega⟩
          · obtain rfl : pos = p.length := by omega
            have hnx : ∀ ty, (Instr.next (.pointer (some ⟨wo.heap.size + 1, 0, none⟩)) true ty).run Tryz.prog wr = _ := fun ty => Lib.run_next_end_at wr (wo.heap.size + 1) ⟨p.toArray⟩ p.length ty HI.out (show ¬ p.length < p.length by omega)
            have hz0 : w.heap.size ≤ wo.heap.size := by have := HS.out.hg; omega
            have e : bools (p.length + 1) (rowB (c :: u) p) = bools (p.length + 1) (mk (rowB (c :: u) p) p.length) := bools_congr _ fun i hi => by unfold mk; simp [show i ≤ p.length by omega]
            have R : Hid (RB w wr wo.heap.size p.length (rowB (c :: u) p)) := Lib.hid ⟨by rw [e]; exact HG.out, HL1.out.b, hz0⟩
            clear e
            go_wp2_with fail
            exact ⟨⟨i + 1, wo.heap.size, by omega, by go_num, rfl, by rw [HT.out]; exact R⟩, by simp [intOf]; omega⟩
      · obtain rfl : i = s.length := by omega
        have hv : rowB (s.take s.length).reverse p p.length = sLike s p := by
          unfold rowB sLike
          rw [List.take_length, List.take_length]
        have cg := blk_cell HS.out.bk p.length
        rw [bools_at _ _ _ (by omega), hv] at cg
        have hB := Lib.hid HS.out.b
        generalize hr : sLike s p = r at cg
        go_wp2_with fail
        ((try simp only [Exit.inBlock, Exit.then]); refine bodyPost_ret (by simp only [results, Tryz.results77]; go_simp; try rfl) rfl ?_)
        exact ⟨by rw [hr], hB.out⟩
end Go.Proofs.YtpmfpfkahanlaaaGreatDoor

/- The reference's Binary, walked. -/
namespace Go.Proofs.YtpmfpfkahanlaaaGreatDoor
open Go.RowKit
set_option linter.unusedSimpArgs false
set_option linter.unusedVariables false
attribute [local go_sem] Later.cell Later.lt veq_self
attribute [local go_sem high] run_eqV run_neV

theorem cat_bytes' (a b : List UInt8) : (⟨a.toArray⟩ : ByteArray) ++ ⟨b.toArray⟩ = ⟨(a ++ b).toArray⟩ := by
  apply ByteArray.ext
  rw [ByteArray.data_append]
  simp
theorem kcat (a b : List UInt8) (w : World) : Calls Tryz.prog 54 #[.string (⟨a.toArray⟩ ++ ⟨b.toArray⟩)] w fun e w' => e = .returned (.agg #[.int .i64 (vS (a ++ b)).k, .int .i64 (vS (a ++ b)).n, .string ⟨List.toArray (vS (a ++ b)).t⟩]) ∧ Below w.heap.size w w' := by
  rw [cat_bytes']; exact rString_any (a ++ b) w
theorem typed_one {op : List UInt8} {K k k' : Int} (hk : rKinds op = [K]) (h : rTyped op k k' = 0) (h0 : (k == 0) = false) (h0' : (k' == 0) = false) : k = K ∧ k' = K := by
  unfold rTyped rTakes at h
  rw [hk, h0, h0'] at h
  by_cases e : k = K
  · by_cases e' : k' = K
    · exact ⟨e, e'⟩
    · simp [e'] at h
  · simp [e] at h
theorem kinds_arith {op : List UInt8} (h : (rKinds op == []) = false) (h1 : (op == [97, 110, 100]) = false) (h2 : (op == [111, 114]) = false) (h3 : (op == [108, 105, 107, 101]) = false) (h4 : (op == [124, 124]) = false) (h5 : rCmpOp op = false) : rKinds op = [1] := by
  unfold rKinds at h ⊢
  rw [h1, h2, h3, h4, h5] at h ⊢
  cases hr : rArOp op with
  | true => rfl
  | false => rw [hr] at h; exact absurd h (by decide)
set_option maxHeartbeats 2000000 in
set_option maxRecDepth 100000 in
theorem rBinary_any (op : List UInt8) (a b : V) (w : World) (hE : Env w) (ta : a.t.length ≤ 140737488355328) (tb : b.t.length ≤ 140737488355328) :
    Calls Tryz.prog 28 #[.string ⟨op.toArray⟩, (.agg #[.int .i64 (a).k, .int .i64 (a).n, .string ⟨List.toArray (a).t⟩]), (.agg #[.int .i64 (b).k, .int .i64 (b).n, .string ⟨List.toArray (b).t⟩])] w fun e w' => e = .returned (.tuple #[.agg #[.int .i64 (rBinary op a b).1.k, .int .i64 (rBinary op a b).1.n, .string ⟨List.toArray (rBinary op a b).1.t⟩], .int .i64 (rBinary op a b).2]) ∧ Below w.heap.size w w' := by
  have N0 := Lib.hid ((((BW.start hE).push a (g := w.heap.size) rfl).push b (g := w.heap.size + 1) (by simp)).push ⟨0, 0, []⟩ (g := w.heap.size + 1 + 1) (by simp))
  have hz : w.heap.size ≤ w.heap.size + 1 + 1 := by omega
  clear hE
  go_enter Tryz.func28, Tryz.ntmps28
  go_wp2_with fail
  refine (rIsBinary_any op _).mono ?_; rintro e w1 ⟨rfl, hb1⟩
  have N1 := Lib.hid (N0.out.later hb1)
  clear hb1 N0
  obtain ⟨⟨f0a, f0b, f0c⟩, f0z⟩ := N1.out.at_ (List.Mem.head _)
  obtain ⟨⟨f1a, f1b, f1c⟩, f1z⟩ := N1.out.at_ (List.Mem.tail _ (List.Mem.head _))
  obtain ⟨⟨f2a, f2b, f2c⟩, f2z⟩ := N1.out.at_ (List.Mem.tail _ (List.Mem.tail _ (List.Mem.head _)))
  have fr0 : w1.frozen? ⟨w.heap.size + 1 + 1, 0, none⟩ = false := blk_frozen (N1.out.all _ (List.Mem.head _)) 0
  have fr1 : w1.frozen? ⟨w.heap.size + 1 + 1, 1, none⟩ = false := blk_frozen (N1.out.all _ (List.Mem.head _)) 1
  have fr2 : w1.frozen? ⟨w.heap.size + 1 + 1, 2, none⟩ = false := blk_frozen (N1.out.all _ (List.Mem.head _)) 2
  cases h1 : (rKinds op == []) with
  | true =>
    have hR : rBinary op a b = (vN, 2) := by unfold rBinary; rw [h1]; rfl
    go_wp2_with fail
    ((try simp only [Exit.inBlock, Exit.then]); refine bodyPost_ret (by simp only [results, Tryz.results28]; go_simp; try rfl) rfl ?_)
    exact ⟨(by rw [hR]; rfl), ((N1.out.b.setCell hz _).setCell hz _).setCell hz _⟩
  | false =>
    obtain ⟨vta, hvta⟩ : ∃ q, sValid a = q := ⟨_, rfl⟩
    go_wp2_with fail
    refine (kval hvta _ ta).mono ?_; rintro e w2 ⟨rfl, hb2⟩
    have N2 := Lib.hid (N1.out.later hb2)
    clear f0a f0b f0c f0z f1a f1b f1c f1z f2a f2b f2c f2z fr0 fr1 fr2
    clear hb2 N1
    obtain ⟨⟨f0a, f0b, f0c⟩, f0z⟩ := N2.out.at_ (List.Mem.head _)
    obtain ⟨⟨f1a, f1b, f1c⟩, f1z⟩ := N2.out.at_ (List.Mem.tail _ (List.Mem.head _))
    obtain ⟨⟨f2a, f2b, f2c⟩, f2z⟩ := N2.out.at_ (List.Mem.tail _ (List.Mem.tail _ (List.Mem.head _)))
    have fr0 : w2.frozen? ⟨w.heap.size + 1 + 1, 0, none⟩ = false := blk_frozen (N2.out.all _ (List.Mem.head _)) 0
    have fr1 : w2.frozen? ⟨w.heap.size + 1 + 1, 1, none⟩ = false := blk_frozen (N2.out.all _ (List.Mem.head _)) 1
    have fr2 : w2.frozen? ⟨w.heap.size + 1 + 1, 2, none⟩ = false := blk_frozen (N2.out.all _ (List.Mem.head _)) 2
    cases vta with
    | false =>
      have hR : rBinary op a b = (vN, 2) := by unfold rBinary; rw [h1, hvta]; rfl
      go_wp2_with fail
      ((try simp only [Exit.inBlock, Exit.then]); refine bodyPost_ret (by simp only [results, Tryz.results28]; go_simp; try rfl) rfl ?_)
      exact ⟨(by rw [hR]; rfl), ((N2.out.b.setCell hz _).setCell hz _).setCell hz _⟩
    | true =>
      obtain ⟨vtb, hvtb⟩ : ∃ q, sValid b = q := ⟨_, rfl⟩
      go_wp2_with fail
      refine (kval hvtb _ tb).mono ?_; rintro e w3 ⟨rfl, hb3⟩
      have N3 := Lib.hid (N2.out.later hb3)
      clear f0a f0b f0c f0z f1a f1b f1c f1z f2a f2b f2c f2z fr0 fr1 fr2
      clear hb3 N2
      obtain ⟨⟨f0a, f0b, f0c⟩, f0z⟩ := N3.out.at_ (List.Mem.head _)
      obtain ⟨⟨f1a, f1b, f1c⟩, f1z⟩ := N3.out.at_ (List.Mem.tail _ (List.Mem.head _))
      obtain ⟨⟨f2a, f2b, f2c⟩, f2z⟩ := N3.out.at_ (List.Mem.tail _ (List.Mem.tail _ (List.Mem.head _)))
      have fr0 : w3.frozen? ⟨w.heap.size + 1 + 1, 0, none⟩ = false := blk_frozen (N3.out.all _ (List.Mem.head _)) 0
      have fr1 : w3.frozen? ⟨w.heap.size + 1 + 1, 1, none⟩ = false := blk_frozen (N3.out.all _ (List.Mem.head _)) 1
      have fr2 : w3.frozen? ⟨w.heap.size + 1 + 1, 2, none⟩ = false := blk_frozen (N3.out.all _ (List.Mem.head _)) 2
      cases vtb with
      | false =>
        have hR : rBinary op a b = (vN, 2) := by unfold rBinary; rw [h1, hvta, hvtb]; rfl
        go_wp2_with fail
        ((try simp only [Exit.inBlock, Exit.then]); refine bodyPost_ret (by simp only [results, Tryz.results28]; go_simp; try rfl) rfl ?_)
        exact ⟨(by rw [hR]; rfl), ((N3.out.b.setCell hz _).setCell hz _).setCell hz _⟩
      | true =>
        have V1 := Lib.hid hvta
        have V2 := Lib.hid hvtb
        have G0 : Hid (rBinary op a b = if rTyped op a.k b.k != 0 then (vN, rTyped op a.k b.k) else if op == [97, 110, 100] || op == [111, 114] then (sLogic op a b, 0) else if a.k == 0 || b.k == 0 then (vN, 0) else if op == [108, 105, 107, 101] then (vB (sLike a.t b.t), 0) else if op == [124, 124] then (if (200 : Int) < (a.t.length : Int) + (b.t.length : Int) then (vN, 21) else (vS (a.t ++ b.t), 0)) else if rCmpOp op then (vB (sCompared op (rLess a b)), 0) else rArith op a.n b.n) := Lib.hid (by unfold rBinary; rw [if_neg (by rw [h1, hvta, hvtb]; decide)])
        clear hvta hvtb
        go_wp2_with fail
        refine (rTyped_any op a.k b.k _).mono ?_; rintro e w4 ⟨rfl, hb4⟩
        have N4 := Lib.hid (N3.out.later hb4)
        clear f0a f0b f0c f0z f1a f1b f1c f1z f2a f2b f2c f2z fr0 fr1 fr2
        clear hb4 N3
        obtain ⟨⟨f0a, f0b, f0c⟩, f0z⟩ := N4.out.at_ (List.Mem.head _)
        obtain ⟨⟨f1a, f1b, f1c⟩, f1z⟩ := N4.out.at_ (List.Mem.tail _ (List.Mem.head _))
        obtain ⟨⟨f2a, f2b, f2c⟩, f2z⟩ := N4.out.at_ (List.Mem.tail _ (List.Mem.tail _ (List.Mem.head _)))
        have fr0 : w4.frozen? ⟨w.heap.size + 1 + 1, 0, none⟩ = false := blk_frozen (N4.out.all _ (List.Mem.head _)) 0
        have fr1 : w4.frozen? ⟨w.heap.size + 1 + 1, 1, none⟩ = false := blk_frozen (N4.out.all _ (List.Mem.head _)) 1
        have fr2 : w4.frozen? ⟨w.heap.size + 1 + 1, 2, none⟩ = false := blk_frozen (N4.out.all _ (List.Mem.head _)) 2
        by_cases hT : rTyped op a.k b.k = 0
        case neg =>
          have hT1 : (rTyped op a.k b.k == 0) = false := by simpa using hT
          have hT2 : (rTyped op a.k b.k != 0) = true := by simpa using hT
          go_wp2_with fail
          ((try simp only [Exit.inBlock, Exit.then]); refine bodyPost_ret (by simp only [results, Tryz.results28]; go_simp; try rfl) rfl ?_)
          exact ⟨(by rw [G0.out]; rw [if_pos hT2]; rfl), ((N4.out.b.setCell hz _).setCell hz _).setCell hz _⟩
        have G1 : Hid (rBinary op a b = if op == [97, 110, 100] || op == [111, 114] then (sLogic op a b, 0) else if a.k == 0 || b.k == 0 then (vN, 0) else if op == [108, 105, 107, 101] then (vB (sLike a.t b.t), 0) else if op == [124, 124] then (if (200 : Int) < (a.t.length : Int) + (b.t.length : Int) then (vN, 21) else (vS (a.t ++ b.t), 0)) else if rCmpOp op then (vB (sCompared op (rLess a b)), 0) else rArith op a.n b.n) := Lib.hid (by rw [G0.out, if_neg (by rw [hT]; decide)])
        have HT := Lib.hid hT
        have H1 := Lib.hid h1
        rw [hT]
        clear hT h1 G0
        by_cases hnax : op = [97, 110, 100]
        case pos =>
          subst hnax
          go_wp2_with fail
          refine (rTruths_any [97, 110, 100] a.k a.n b.k b.n a.t b.t _).mono ?_; rintro e w5 ⟨rfl, hb5⟩
          have N5 := Lib.hid (N4.out.later hb5)
          clear f0a f0b f0c f0z f1a f1b f1c f1z f2a f2b f2c f2z fr0 fr1 fr2
          clear hb5 N4
          obtain ⟨⟨f0a, f0b, f0c⟩, f0z⟩ := N5.out.at_ (List.Mem.head _)
          obtain ⟨⟨f1a, f1b, f1c⟩, f1z⟩ := N5.out.at_ (List.Mem.tail _ (List.Mem.head _))
          obtain ⟨⟨f2a, f2b, f2c⟩, f2z⟩ := N5.out.at_ (List.Mem.tail _ (List.Mem.tail _ (List.Mem.head _)))
          have fr0 : w5.frozen? ⟨w.heap.size + 1 + 1, 0, none⟩ = false := blk_frozen (N5.out.all _ (List.Mem.head _)) 0
          have fr1 : w5.frozen? ⟨w.heap.size + 1 + 1, 1, none⟩ = false := blk_frozen (N5.out.all _ (List.Mem.head _)) 1
          have fr2 : w5.frozen? ⟨w.heap.size + 1 + 1, 2, none⟩ = false := blk_frozen (N5.out.all _ (List.Mem.head _)) 2
          go_wp2_with fail
          ((try simp only [Exit.inBlock, Exit.then]); refine bodyPost_ret (by simp only [results, Tryz.results28]; go_simp; try rfl) rfl ?_)
          exact ⟨(by rw [G1.out]; rfl), ((N5.out.b.setCell hz _).setCell hz _).setCell hz _⟩
        have hna : (op == [97, 110, 100]) = false := by simpa using hnax
        clear hnax
        by_cases hnox : op = [111, 114]
        case pos =>
          subst hnox
          go_wp2_with fail
          refine (rTruths_any [111, 114] a.k a.n b.k b.n a.t b.t _).mono ?_; rintro e w6 ⟨rfl, hb6⟩
          have N6 := Lib.hid (N4.out.later hb6)
          clear f0a f0b f0c f0z f1a f1b f1c f1z f2a f2b f2c f2z fr0 fr1 fr2
          clear hb6 N4
          obtain ⟨⟨f0a, f0b, f0c⟩, f0z⟩ := N6.out.at_ (List.Mem.head _)
          obtain ⟨⟨f1a, f1b, f1c⟩, f1z⟩ := N6.out.at_ (List.Mem.tail _ (List.Mem.head _))
          obtain ⟨⟨f2a, f2b, f2c⟩, f2z⟩ := N6.out.at_ (List.Mem.tail _ (List.Mem.tail _ (List.Mem.head _)))
          have fr0 : w6.frozen? ⟨w.heap.size + 1 + 1, 0, none⟩ = false := blk_frozen (N6.out.all _ (List.Mem.head _)) 0
          have fr1 : w6.frozen? ⟨w.heap.size + 1 + 1, 1, none⟩ = false := blk_frozen (N6.out.all _ (List.Mem.head _)) 1
          have fr2 : w6.frozen? ⟨w.heap.size + 1 + 1, 2, none⟩ = false := blk_frozen (N6.out.all _ (List.Mem.head _)) 2
          go_wp2_with fail
          ((try simp only [Exit.inBlock, Exit.then]); refine bodyPost_ret (by simp only [results, Tryz.results28]; go_simp; try rfl) rfl ?_)
          exact ⟨(by rw [G1.out]; rfl), ((N6.out.b.setCell hz _).setCell hz _).setCell hz _⟩
        have hno : (op == [111, 114]) = false := by simpa using hnox
        clear hnox
        cases z1 : (a.k == 0) with
        | true =>
          go_wp2_with fail
          refine (rNull_any _).mono ?_; rintro e w7 ⟨rfl, hb7⟩
          have N7 := Lib.hid (N4.out.later hb7)
          clear f0a f0b f0c f0z f1a f1b f1c f1z f2a f2b f2c f2z fr0 fr1 fr2
          clear hb7 N4
          obtain ⟨⟨f0a, f0b, f0c⟩, f0z⟩ := N7.out.at_ (List.Mem.head _)
          obtain ⟨⟨f1a, f1b, f1c⟩, f1z⟩ := N7.out.at_ (List.Mem.tail _ (List.Mem.head _))
          obtain ⟨⟨f2a, f2b, f2c⟩, f2z⟩ := N7.out.at_ (List.Mem.tail _ (List.Mem.tail _ (List.Mem.head _)))
          have fr0 : w7.frozen? ⟨w.heap.size + 1 + 1, 0, none⟩ = false := blk_frozen (N7.out.all _ (List.Mem.head _)) 0
          have fr1 : w7.frozen? ⟨w.heap.size + 1 + 1, 1, none⟩ = false := blk_frozen (N7.out.all _ (List.Mem.head _)) 1
          have fr2 : w7.frozen? ⟨w.heap.size + 1 + 1, 2, none⟩ = false := blk_frozen (N7.out.all _ (List.Mem.head _)) 2
          go_wp2_with fail
          ((try simp only [Exit.inBlock, Exit.then]); refine bodyPost_ret (by simp only [results, Tryz.results28]; go_simp; try rfl) rfl ?_)
          exact ⟨(by rw [G1.out]; rw [if_neg (by rw [hna, hno]; decide), if_pos (by rw [z1]; simp)]; try rfl), ((N7.out.b.setCell hz _).setCell hz _).setCell hz _⟩
        | false =>
          cases z2 : (b.k == 0) with
          | true =>
            go_wp2_with fail
            refine (rNull_any _).mono ?_; rintro e w8 ⟨rfl, hb8⟩
            have N8 := Lib.hid (N4.out.later hb8)
            clear f0a f0b f0c f0z f1a f1b f1c f1z f2a f2b f2c f2z fr0 fr1 fr2
            clear hb8 N4
            obtain ⟨⟨f0a, f0b, f0c⟩, f0z⟩ := N8.out.at_ (List.Mem.head _)
            obtain ⟨⟨f1a, f1b, f1c⟩, f1z⟩ := N8.out.at_ (List.Mem.tail _ (List.Mem.head _))
            obtain ⟨⟨f2a, f2b, f2c⟩, f2z⟩ := N8.out.at_ (List.Mem.tail _ (List.Mem.tail _ (List.Mem.head _)))
            have fr0 : w8.frozen? ⟨w.heap.size + 1 + 1, 0, none⟩ = false := blk_frozen (N8.out.all _ (List.Mem.head _)) 0
            have fr1 : w8.frozen? ⟨w.heap.size + 1 + 1, 1, none⟩ = false := blk_frozen (N8.out.all _ (List.Mem.head _)) 1
            have fr2 : w8.frozen? ⟨w.heap.size + 1 + 1, 2, none⟩ = false := blk_frozen (N8.out.all _ (List.Mem.head _)) 2
            go_wp2_with fail
            ((try simp only [Exit.inBlock, Exit.then]); refine bodyPost_ret (by simp only [results, Tryz.results28]; go_simp; try rfl) rfl ?_)
            exact ⟨(by rw [G1.out]; rw [if_neg (by rw [hna, hno]; decide), if_pos (by rw [z2]; simp)]; try rfl), ((N8.out.b.setCell hz _).setCell hz _).setCell hz _⟩
          | false =>
            have G2 : Hid (rBinary op a b = if op == [108, 105, 107, 101] then (vB (sLike a.t b.t), 0) else if op == [124, 124] then (if (200 : Int) < (a.t.length : Int) + (b.t.length : Int) then (vN, 21) else (vS (a.t ++ b.t), 0)) else if rCmpOp op then (vB (sCompared op (rLess a b)), 0) else rArith op a.n b.n) := Lib.hid (by rw [G1.out, if_neg (by rw [hna, hno]; decide), if_neg (by rw [z1, z2]; decide)])
            clear G1
            by_cases hlx : op = [108, 105, 107, 101]
            case pos =>
              subst hlx
              obtain ⟨k1, k2⟩ := typed_one (K := 2) (by decide) HT.out z1 z2
              have s1 := sValid_str V1.out k1
              have s2 := sValid_str V2.out k2
              have l1 := s1.1
              have l2 := s2.1
              have L2 := Lib.hid s2.2
              clear s1 s2 k1 k2
              go_wp2_with fail
              refine (rLike_any a.t b.t _ (Nat.le_trans l2 (by decide)) (Nat.le_trans l1 (by decide)) L2.out).mono ?_; rintro e w9 ⟨rfl, hb9⟩
              have N9 := Lib.hid (N4.out.later hb9)
              clear f0a f0b f0c f0z f1a f1b f1c f1z f2a f2b f2c f2z fr0 fr1 fr2
              clear hb9 N4
              obtain ⟨⟨f0a, f0b, f0c⟩, f0z⟩ := N9.out.at_ (List.Mem.head _)
              obtain ⟨⟨f1a, f1b, f1c⟩, f1z⟩ := N9.out.at_ (List.Mem.tail _ (List.Mem.head _))
              obtain ⟨⟨f2a, f2b, f2c⟩, f2z⟩ := N9.out.at_ (List.Mem.tail _ (List.Mem.tail _ (List.Mem.head _)))
              have fr0 : w9.frozen? ⟨w.heap.size + 1 + 1, 0, none⟩ = false := blk_frozen (N9.out.all _ (List.Mem.head _)) 0
              have fr1 : w9.frozen? ⟨w.heap.size + 1 + 1, 1, none⟩ = false := blk_frozen (N9.out.all _ (List.Mem.head _)) 1
              have fr2 : w9.frozen? ⟨w.heap.size + 1 + 1, 2, none⟩ = false := blk_frozen (N9.out.all _ (List.Mem.head _)) 2
              go_wp2_with fail
              refine (rBool_any _ _).mono ?_; rintro e w10 ⟨rfl, hb10⟩
              have N10 := Lib.hid (N9.out.later hb10)
              clear f0a f0b f0c f0z f1a f1b f1c f1z f2a f2b f2c f2z fr0 fr1 fr2
              clear hb10 N9
              obtain ⟨⟨f0a, f0b, f0c⟩, f0z⟩ := N10.out.at_ (List.Mem.head _)
              obtain ⟨⟨f1a, f1b, f1c⟩, f1z⟩ := N10.out.at_ (List.Mem.tail _ (List.Mem.head _))
              obtain ⟨⟨f2a, f2b, f2c⟩, f2z⟩ := N10.out.at_ (List.Mem.tail _ (List.Mem.tail _ (List.Mem.head _)))
              have fr0 : w10.frozen? ⟨w.heap.size + 1 + 1, 0, none⟩ = false := blk_frozen (N10.out.all _ (List.Mem.head _)) 0
              have fr1 : w10.frozen? ⟨w.heap.size + 1 + 1, 1, none⟩ = false := blk_frozen (N10.out.all _ (List.Mem.head _)) 1
              have fr2 : w10.frozen? ⟨w.heap.size + 1 + 1, 2, none⟩ = false := blk_frozen (N10.out.all _ (List.Mem.head _)) 2
              go_wp2_with fail
              ((try simp only [Exit.inBlock, Exit.then]); refine bodyPost_ret (by simp only [results, Tryz.results28]; go_simp; try rfl) rfl ?_)
              exact ⟨(by rw [G2.out]; rfl), ((N10.out.b.setCell hz _).setCell hz _).setCell hz _⟩
            have hl : (op == [108, 105, 107, 101]) = false := by simpa using hlx
            clear hlx
            by_cases hcx : op = [124, 124]
            case pos =>
              subst hcx
              by_cases hg : (200 : Int) < (a.t.length : Int) + (b.t.length : Int)
              case pos =>
                go_wp2_with fail
                ((try simp only [Exit.inBlock, Exit.then]); refine bodyPost_ret (by simp only [results, Tryz.results28]; go_simp; try rfl) rfl ?_)
                exact ⟨(by rw [G2.out]; rw [if_neg (by decide), if_pos (by decide), if_pos hg]; rfl), ((N4.out.b.setCell hz _).setCell hz _).setCell hz _⟩
              case neg =>
                go_wp2_with fail
                refine (kcat a.t b.t _).mono ?_; rintro e w11 ⟨rfl, hb11⟩
                have N11 := Lib.hid (N4.out.later hb11)
                clear f0a f0b f0c f0z f1a f1b f1c f1z f2a f2b f2c f2z fr0 fr1 fr2
                clear hb11 N4
                obtain ⟨⟨f0a, f0b, f0c⟩, f0z⟩ := N11.out.at_ (List.Mem.head _)
                obtain ⟨⟨f1a, f1b, f1c⟩, f1z⟩ := N11.out.at_ (List.Mem.tail _ (List.Mem.head _))
                obtain ⟨⟨f2a, f2b, f2c⟩, f2z⟩ := N11.out.at_ (List.Mem.tail _ (List.Mem.tail _ (List.Mem.head _)))
                have fr0 : w11.frozen? ⟨w.heap.size + 1 + 1, 0, none⟩ = false := blk_frozen (N11.out.all _ (List.Mem.head _)) 0
                have fr1 : w11.frozen? ⟨w.heap.size + 1 + 1, 1, none⟩ = false := blk_frozen (N11.out.all _ (List.Mem.head _)) 1
                have fr2 : w11.frozen? ⟨w.heap.size + 1 + 1, 2, none⟩ = false := blk_frozen (N11.out.all _ (List.Mem.head _)) 2
                go_wp2_with fail
                ((try simp only [Exit.inBlock, Exit.then]); refine bodyPost_ret (by simp only [results, Tryz.results28]; go_simp; try rfl) rfl ?_)
                exact ⟨(by rw [G2.out]; rw [if_neg (by decide), if_pos (by decide), if_neg (by omega)]; try rfl), ((N11.out.b.setCell hz _).setCell hz _).setCell hz _⟩
            have hc : (op == [124, 124]) = false := by simpa using hcx
            clear hcx
            go_wp2_with fail
            refine (rCompares_any op _).mono ?_; rintro e w12 ⟨rfl, hb12⟩
            have N12 := Lib.hid (N4.out.later hb12)
            clear f0a f0b f0c f0z f1a f1b f1c f1z f2a f2b f2c f2z fr0 fr1 fr2
            clear hb12 N4
            obtain ⟨⟨f0a, f0b, f0c⟩, f0z⟩ := N12.out.at_ (List.Mem.head _)
            obtain ⟨⟨f1a, f1b, f1c⟩, f1z⟩ := N12.out.at_ (List.Mem.tail _ (List.Mem.head _))
            obtain ⟨⟨f2a, f2b, f2c⟩, f2z⟩ := N12.out.at_ (List.Mem.tail _ (List.Mem.tail _ (List.Mem.head _)))
            have fr0 : w12.frozen? ⟨w.heap.size + 1 + 1, 0, none⟩ = false := blk_frozen (N12.out.all _ (List.Mem.head _)) 0
            have fr1 : w12.frozen? ⟨w.heap.size + 1 + 1, 1, none⟩ = false := blk_frozen (N12.out.all _ (List.Mem.head _)) 1
            have fr2 : w12.frozen? ⟨w.heap.size + 1 + 1, 2, none⟩ = false := blk_frozen (N12.out.all _ (List.Mem.head _)) 2
            cases hcm : rCmpOp op with
            | true =>
              go_wp2_with fail
              refine (rLess_any a.k a.n b.k b.n a.t b.t _).mono ?_; rintro e w13 ⟨rfl, hb13⟩
              have N13 := Lib.hid (N12.out.later hb13)
              clear f0a f0b f0c f0z f1a f1b f1c f1z f2a f2b f2c f2z fr0 fr1 fr2
              clear hb13 N12
              obtain ⟨⟨f0a, f0b, f0c⟩, f0z⟩ := N13.out.at_ (List.Mem.head _)
              obtain ⟨⟨f1a, f1b, f1c⟩, f1z⟩ := N13.out.at_ (List.Mem.tail _ (List.Mem.head _))
              obtain ⟨⟨f2a, f2b, f2c⟩, f2z⟩ := N13.out.at_ (List.Mem.tail _ (List.Mem.tail _ (List.Mem.head _)))
              have fr0 : w13.frozen? ⟨w.heap.size + 1 + 1, 0, none⟩ = false := blk_frozen (N13.out.all _ (List.Mem.head _)) 0
              have fr1 : w13.frozen? ⟨w.heap.size + 1 + 1, 1, none⟩ = false := blk_frozen (N13.out.all _ (List.Mem.head _)) 1
              have fr2 : w13.frozen? ⟨w.heap.size + 1 + 1, 2, none⟩ = false := blk_frozen (N13.out.all _ (List.Mem.head _)) 2
              go_wp2_with fail
              refine (rCompared_any op _ _).mono ?_; rintro e w' ⟨rfl, rfl⟩
              go_wp2_with fail
              refine (rBool_any _ _).mono ?_; rintro e w14 ⟨rfl, hb14⟩
              have N14 := Lib.hid (N13.out.later hb14)
              clear f0a f0b f0c f0z f1a f1b f1c f1z f2a f2b f2c f2z fr0 fr1 fr2
              clear hb14 N13
              obtain ⟨⟨f0a, f0b, f0c⟩, f0z⟩ := N14.out.at_ (List.Mem.head _)
              obtain ⟨⟨f1a, f1b, f1c⟩, f1z⟩ := N14.out.at_ (List.Mem.tail _ (List.Mem.head _))
              obtain ⟨⟨f2a, f2b, f2c⟩, f2z⟩ := N14.out.at_ (List.Mem.tail _ (List.Mem.tail _ (List.Mem.head _)))
              have fr0 : w14.frozen? ⟨w.heap.size + 1 + 1, 0, none⟩ = false := blk_frozen (N14.out.all _ (List.Mem.head _)) 0
              have fr1 : w14.frozen? ⟨w.heap.size + 1 + 1, 1, none⟩ = false := blk_frozen (N14.out.all _ (List.Mem.head _)) 1
              have fr2 : w14.frozen? ⟨w.heap.size + 1 + 1, 2, none⟩ = false := blk_frozen (N14.out.all _ (List.Mem.head _)) 2
              go_wp2_with fail
              ((try simp only [Exit.inBlock, Exit.then]); refine bodyPost_ret (by simp only [results, Tryz.results28]; go_simp; try rfl) rfl ?_)
              exact ⟨(by rw [G2.out]; rw [if_neg (by rw [hl]; decide), if_neg (by rw [hc]; decide), if_pos hcm]; try rfl), ((N14.out.b.setCell hz _).setCell hz _).setCell hz _⟩
            | false =>
              have hK := kinds_arith H1.out hna hno hl hc hcm
              obtain ⟨k1, k2⟩ := typed_one hK HT.out z1 z2
              have S1 := Lib.hid (sValid_int V1.out k1)
              have S2 := Lib.hid (sValid_int V2.out k2)
              clear k1 k2 hK
              go_wp2_with fail
              refine (rArith_any op a.n b.n _ S1.out.1 S1.out.2 S2.out.1 S2.out.2).mono ?_; rintro e w15 ⟨rfl, hb15⟩
              have N15 := Lib.hid (N12.out.later hb15)
              clear f0a f0b f0c f0z f1a f1b f1c f1z f2a f2b f2c f2z fr0 fr1 fr2
              clear hb15 N12
              obtain ⟨⟨f0a, f0b, f0c⟩, f0z⟩ := N15.out.at_ (List.Mem.head _)
              obtain ⟨⟨f1a, f1b, f1c⟩, f1z⟩ := N15.out.at_ (List.Mem.tail _ (List.Mem.head _))
              obtain ⟨⟨f2a, f2b, f2c⟩, f2z⟩ := N15.out.at_ (List.Mem.tail _ (List.Mem.tail _ (List.Mem.head _)))
              have fr0 : w15.frozen? ⟨w.heap.size + 1 + 1, 0, none⟩ = false := blk_frozen (N15.out.all _ (List.Mem.head _)) 0
              have fr1 : w15.frozen? ⟨w.heap.size + 1 + 1, 1, none⟩ = false := blk_frozen (N15.out.all _ (List.Mem.head _)) 1
              have fr2 : w15.frozen? ⟨w.heap.size + 1 + 1, 2, none⟩ = false := blk_frozen (N15.out.all _ (List.Mem.head _)) 2
              go_wp2_with fail
              ((try simp only [Exit.inBlock, Exit.then]); refine bodyPost_ret (by simp only [results, Tryz.results28]; go_simp; try rfl) rfl ?_)
              exact ⟨(by rw [G2.out]; rw [if_neg (by rw [hl]; decide), if_neg (by rw [hc]; decide), if_neg (by rw [hcm]; decide)]; try rfl), ((N15.out.b.setCell hz _).setCell hz _).setCell hz _⟩
end Go.Proofs.YtpmfpfkahanlaaaGreatDoor

/- The reference's Between, walked. -/
namespace Go.Proofs.YtpmfpfkahanlaaaGreatDoor
open Go.RowKit
set_option linter.unusedSimpArgs false
set_option linter.unusedVariables false
attribute [local go_sem] Later.cell Later.lt veq_self
attribute [local go_sem high] run_eqV run_neV

theorem krbin {op : List UInt8} {a b r : V} {x : Int} (h : rBinary op a b = (r, x)) (w : World) (hE : Env w) (ta : a.t.length ≤ 140737488355328) (tb : b.t.length ≤ 140737488355328) :
    Calls Tryz.prog 28 #[.string ⟨op.toArray⟩, (.agg #[.int .i64 (a).k, .int .i64 (a).n, .string ⟨List.toArray (a).t⟩]), (.agg #[.int .i64 (b).k, .int .i64 (b).n, .string ⟨List.toArray (b).t⟩])] w fun e w' => e = .returned (.tuple #[(.agg #[.int .i64 (r).k, .int .i64 (r).n, .string ⟨List.toArray (r).t⟩]), .int .i64 x]) ∧ Below w.heap.size w w' := by
  have := rBinary_any op a b w hE ta tb
  rw [h] at this
  exact this
theorem krtruths (op : List UInt8) (a b : V) (w : World) :
    Calls Tryz.prog 76 #[.string ⟨op.toArray⟩, (.agg #[.int .i64 (a).k, .int .i64 (a).n, .string ⟨List.toArray (a).t⟩]), (.agg #[.int .i64 (b).k, .int .i64 (b).n, .string ⟨List.toArray (b).t⟩])] w fun e w' => e = .returned (.agg #[.int .i64 (sLogic op a b).k, .int .i64 (sLogic op a b).n, .string ⟨List.toArray (sLogic op a b).t⟩]) ∧ Below w.heap.size w w' := rTruths_any op a.k a.n b.k b.n a.t b.t w
set_option maxHeartbeats 2000000 in
set_option maxRecDepth 100000 in
theorem rBetween_any (a b c : V) (w : World) (hE : Env w) (ta : a.t.length ≤ 140737488355328) (tb : b.t.length ≤ 140737488355328) (tc : c.t.length ≤ 140737488355328) :
    Calls Tryz.prog 32 #[(.agg #[.int .i64 (a).k, .int .i64 (a).n, .string ⟨List.toArray (a).t⟩]), (.agg #[.int .i64 (b).k, .int .i64 (b).n, .string ⟨List.toArray (b).t⟩]), (.agg #[.int .i64 (c).k, .int .i64 (c).n, .string ⟨List.toArray (c).t⟩])] w fun e w' => e = .returned (.tuple #[.agg #[.int .i64 (rBetween a b c).1.k, .int .i64 (rBetween a b c).1.n, .string ⟨List.toArray (rBetween a b c).1.t⟩], .int .i64 (rBetween a b c).2]) ∧ Below w.heap.size w w' := by
  have N0 := Lib.hid (((((BW.start hE).push a (g := w.heap.size) rfl).push b (g := w.heap.size + 1) (by simp)).push c (g := w.heap.size + 1 + 1) (by simp)).push ⟨0, 0, []⟩ (g := w.heap.size + 1 + 1 + 1) (by simp))
  have hz : w.heap.size ≤ w.heap.size + 1 + 1 + 1 := by omega
  clear hE
  go_enter Tryz.func32, Tryz.ntmps32
  obtain ⟨vta, hvta⟩ : ∃ q, sValid a = q := ⟨_, rfl⟩
  go_wp2_with fail
  refine (kval hvta _ ta).mono ?_; rintro e w1 ⟨rfl, hb1⟩
  have N1 := Lib.hid (N0.out.later hb1)
  clear hb1 N0
  obtain ⟨⟨f0a, f0b, f0c⟩, f0z⟩ := N1.out.at_ (List.Mem.head _)
  obtain ⟨⟨f1a, f1b, f1c⟩, f1z⟩ := N1.out.at_ (List.Mem.tail _ (List.Mem.head _))
  obtain ⟨⟨f2a, f2b, f2c⟩, f2z⟩ := N1.out.at_ (List.Mem.tail _ (List.Mem.tail _ (List.Mem.head _)))
  obtain ⟨⟨f3a, f3b, f3c⟩, f3z⟩ := N1.out.at_ (List.Mem.tail _ (List.Mem.tail _ (List.Mem.tail _ (List.Mem.head _))))
  have fr0 : w1.frozen? ⟨w.heap.size + 1 + 1 + 1, 0, none⟩ = false := blk_frozen (N1.out.all _ (List.Mem.head _)) 0
  have fr1 : w1.frozen? ⟨w.heap.size + 1 + 1 + 1, 1, none⟩ = false := blk_frozen (N1.out.all _ (List.Mem.head _)) 1
  have fr2 : w1.frozen? ⟨w.heap.size + 1 + 1 + 1, 2, none⟩ = false := blk_frozen (N1.out.all _ (List.Mem.head _)) 2
  cases vta with
  | false =>
    have hR : rBetween a b c = (vN, 2) := by unfold rBetween; rw [hvta]; rfl
    go_wp2_with fail
    ((try simp only [Exit.inBlock, Exit.then]); refine bodyPost_ret (by simp only [results, Tryz.results32]; go_simp; try rfl) rfl ?_)
    exact ⟨(by rw [hR]; rfl), ((N1.out.b.setCell hz _).setCell hz _).setCell hz _⟩
  | true =>
    obtain ⟨vtb, hvtb⟩ : ∃ q, sValid b = q := ⟨_, rfl⟩
    go_wp2_with fail
    refine (kval hvtb _ tb).mono ?_; rintro e w2 ⟨rfl, hb2⟩
    have N2 := Lib.hid (N1.out.later hb2)
    clear f0a f0b f0c f0z f1a f1b f1c f1z f2a f2b f2c f2z f3a f3b f3c f3z fr0 fr1 fr2
    clear hb2 N1
    obtain ⟨⟨f0a, f0b, f0c⟩, f0z⟩ := N2.out.at_ (List.Mem.head _)
    obtain ⟨⟨f1a, f1b, f1c⟩, f1z⟩ := N2.out.at_ (List.Mem.tail _ (List.Mem.head _))
    obtain ⟨⟨f2a, f2b, f2c⟩, f2z⟩ := N2.out.at_ (List.Mem.tail _ (List.Mem.tail _ (List.Mem.head _)))
    obtain ⟨⟨f3a, f3b, f3c⟩, f3z⟩ := N2.out.at_ (List.Mem.tail _ (List.Mem.tail _ (List.Mem.tail _ (List.Mem.head _))))
    have fr0 : w2.frozen? ⟨w.heap.size + 1 + 1 + 1, 0, none⟩ = false := blk_frozen (N2.out.all _ (List.Mem.head _)) 0
    have fr1 : w2.frozen? ⟨w.heap.size + 1 + 1 + 1, 1, none⟩ = false := blk_frozen (N2.out.all _ (List.Mem.head _)) 1
    have fr2 : w2.frozen? ⟨w.heap.size + 1 + 1 + 1, 2, none⟩ = false := blk_frozen (N2.out.all _ (List.Mem.head _)) 2
    cases vtb with
    | false =>
      have hR : rBetween a b c = (vN, 2) := by unfold rBetween; rw [hvta, hvtb]; rfl
      go_wp2_with fail
      ((try simp only [Exit.inBlock, Exit.then]); refine bodyPost_ret (by simp only [results, Tryz.results32]; go_simp; try rfl) rfl ?_)
      exact ⟨(by rw [hR]; rfl), ((N2.out.b.setCell hz _).setCell hz _).setCell hz _⟩
    | true =>
      obtain ⟨vtc, hvtc⟩ : ∃ q, sValid c = q := ⟨_, rfl⟩
      go_wp2_with fail
      refine (kval hvtc _ tc).mono ?_; rintro e w3 ⟨rfl, hb3⟩
      have N3 := Lib.hid (N2.out.later hb3)
      clear f0a f0b f0c f0z f1a f1b f1c f1z f2a f2b f2c f2z f3a f3b f3c f3z fr0 fr1 fr2
      clear hb3 N2
      obtain ⟨⟨f0a, f0b, f0c⟩, f0z⟩ := N3.out.at_ (List.Mem.head _)
      obtain ⟨⟨f1a, f1b, f1c⟩, f1z⟩ := N3.out.at_ (List.Mem.tail _ (List.Mem.head _))
      obtain ⟨⟨f2a, f2b, f2c⟩, f2z⟩ := N3.out.at_ (List.Mem.tail _ (List.Mem.tail _ (List.Mem.head _)))
      obtain ⟨⟨f3a, f3b, f3c⟩, f3z⟩ := N3.out.at_ (List.Mem.tail _ (List.Mem.tail _ (List.Mem.tail _ (List.Mem.head _))))
      have fr0 : w3.frozen? ⟨w.heap.size + 1 + 1 + 1, 0, none⟩ = false := blk_frozen (N3.out.all _ (List.Mem.head _)) 0
      have fr1 : w3.frozen? ⟨w.heap.size + 1 + 1 + 1, 1, none⟩ = false := blk_frozen (N3.out.all _ (List.Mem.head _)) 1
      have fr2 : w3.frozen? ⟨w.heap.size + 1 + 1 + 1, 2, none⟩ = false := blk_frozen (N3.out.all _ (List.Mem.head _)) 2
      cases vtc with
      | false =>
        have hR : rBetween a b c = (vN, 2) := by unfold rBetween; rw [hvta, hvtb, hvtc]; rfl
        go_wp2_with fail
        ((try simp only [Exit.inBlock, Exit.then]); refine bodyPost_ret (by simp only [results, Tryz.results32]; go_simp; try rfl) rfl ?_)
        exact ⟨(by rw [hR]; rfl), ((N3.out.b.setCell hz _).setCell hz _).setCell hz _⟩
      | true =>
        obtain ⟨x, e, h1⟩ : ∃ x e, rBinary [62, 61] a b = (x, e) := ⟨_, _, rfl⟩
        obtain ⟨y, f, h2⟩ : ∃ x e, rBinary [60, 61] a c = (x, e) := ⟨_, _, rfl⟩
        have H1 := Lib.hid h1
        have H2 := Lib.hid h2
        have G : Hid (rBetween a b c = if e != 0 then (vN, e) else if f != 0 then (vN, f) else (sLogic [97, 110, 100] x y, 0)) := Lib.hid (by unfold rBetween; rw [hvta, hvtb, hvtc, h1, h2]; rfl)
        clear h1 h2 hvta hvtb hvtc
        go_wp2_with fail
        refine (krbin H1.out _ N3.out.env ta tb).mono ?_; rintro e w4 ⟨rfl, hb4⟩
        have N4 := Lib.hid (N3.out.later hb4)
        clear f0a f0b f0c f0z f1a f1b f1c f1z f2a f2b f2c f2z f3a f3b f3c f3z fr0 fr1 fr2
        clear hb4 N3
        obtain ⟨⟨f0a, f0b, f0c⟩, f0z⟩ := N4.out.at_ (List.Mem.head _)
        obtain ⟨⟨f1a, f1b, f1c⟩, f1z⟩ := N4.out.at_ (List.Mem.tail _ (List.Mem.head _))
        obtain ⟨⟨f2a, f2b, f2c⟩, f2z⟩ := N4.out.at_ (List.Mem.tail _ (List.Mem.tail _ (List.Mem.head _)))
        obtain ⟨⟨f3a, f3b, f3c⟩, f3z⟩ := N4.out.at_ (List.Mem.tail _ (List.Mem.tail _ (List.Mem.tail _ (List.Mem.head _))))
        have fr0 : w4.frozen? ⟨w.heap.size + 1 + 1 + 1, 0, none⟩ = false := blk_frozen (N4.out.all _ (List.Mem.head _)) 0
        have fr1 : w4.frozen? ⟨w.heap.size + 1 + 1 + 1, 1, none⟩ = false := blk_frozen (N4.out.all _ (List.Mem.head _)) 1
        have fr2 : w4.frozen? ⟨w.heap.size + 1 + 1 + 1, 2, none⟩ = false := blk_frozen (N4.out.all _ (List.Mem.head _)) 2
        by_cases he : e = 0
        case neg =>
          have he1 : (e == 0) = false := by simpa using he
          have he2 : (e != 0) = true := by simpa using he
          go_wp2_with fail
          ((try simp only [Exit.inBlock, Exit.then]); refine bodyPost_ret (by simp only [results, Tryz.results32]; go_simp; try rfl) rfl ?_)
          exact ⟨(by rw [G.out]; rw [if_pos he2]; rfl), (((N4.out.b.setCell hz _).setCell hz _).setCell hz _).alloc (((N4.out.b.setCell hz _).setCell hz _).setCell hz _).size _⟩
        subst he
        go_wp2_with fail
        refine (krbin H2.out _ (N4.out.push x (by first | rfl | simp)).env ta tc).mono ?_; rintro e w5 ⟨rfl, hb5⟩
        have N5 := Lib.hid ((N4.out.push x (by first | rfl | simp)).later hb5)
        clear f0a f0b f0c f0z f1a f1b f1c f1z f2a f2b f2c f2z f3a f3b f3c f3z fr0 fr1 fr2
        clear hb5 N4
        obtain ⟨⟨f0a, f0b, f0c⟩, f0z⟩ := N5.out.at_ (List.Mem.head _)
        obtain ⟨⟨f1a, f1b, f1c⟩, f1z⟩ := N5.out.at_ (List.Mem.tail _ (List.Mem.head _))
        obtain ⟨⟨f2a, f2b, f2c⟩, f2z⟩ := N5.out.at_ (List.Mem.tail _ (List.Mem.tail _ (List.Mem.head _)))
        obtain ⟨⟨f3a, f3b, f3c⟩, f3z⟩ := N5.out.at_ (List.Mem.tail _ (List.Mem.tail _ (List.Mem.tail _ (List.Mem.head _))))
        obtain ⟨⟨f4a, f4b, f4c⟩, f4z⟩ := N5.out.at_ (List.Mem.tail _ (List.Mem.tail _ (List.Mem.tail _ (List.Mem.tail _ (List.Mem.head _)))))
        have fr0 : w5.frozen? ⟨w.heap.size + 1 + 1 + 1, 0, none⟩ = false := blk_frozen (N5.out.all _ (List.Mem.tail _ (List.Mem.head _))) 0
        have fr1 : w5.frozen? ⟨w.heap.size + 1 + 1 + 1, 1, none⟩ = false := blk_frozen (N5.out.all _ (List.Mem.tail _ (List.Mem.head _))) 1
        have fr2 : w5.frozen? ⟨w.heap.size + 1 + 1 + 1, 2, none⟩ = false := blk_frozen (N5.out.all _ (List.Mem.tail _ (List.Mem.head _))) 2
        by_cases hf : f = 0
        case neg =>
          have he1 : (f == 0) = false := by simpa using hf
          have he2 : (f != 0) = true := by simpa using hf
          go_wp2_with fail
          ((try simp only [Exit.inBlock, Exit.then]); refine bodyPost_ret (by simp only [results, Tryz.results32]; go_simp; try rfl) rfl ?_)
          exact ⟨(by rw [G.out]; rw [if_neg (by decide), if_pos he2]; rfl), (((N5.out.b.setCell hz _).setCell hz _).setCell hz _).alloc (((N5.out.b.setCell hz _).setCell hz _).setCell hz _).size _⟩
        subst hf
        go_wp2_with fail
        refine (krtruths [97, 110, 100] x y _).mono ?_; rintro e w6 ⟨rfl, hb6⟩
        have N6 := Lib.hid ((N5.out.push y (by first | rfl | simp)).later hb6)
        clear f0a f0b f0c f0z f1a f1b f1c f1z f2a f2b f2c f2z f3a f3b f3c f3z f4a f4b f4c f4z fr0 fr1 fr2
        clear hb6 N5
        obtain ⟨⟨f0a, f0b, f0c⟩, f0z⟩ := N6.out.at_ (List.Mem.head _)
        obtain ⟨⟨f1a, f1b, f1c⟩, f1z⟩ := N6.out.at_ (List.Mem.tail _ (List.Mem.head _))
        obtain ⟨⟨f2a, f2b, f2c⟩, f2z⟩ := N6.out.at_ (List.Mem.tail _ (List.Mem.tail _ (List.Mem.head _)))
        obtain ⟨⟨f3a, f3b, f3c⟩, f3z⟩ := N6.out.at_ (List.Mem.tail _ (List.Mem.tail _ (List.Mem.tail _ (List.Mem.head _))))
        obtain ⟨⟨f4a, f4b, f4c⟩, f4z⟩ := N6.out.at_ (List.Mem.tail _ (List.Mem.tail _ (List.Mem.tail _ (List.Mem.tail _ (List.Mem.head _)))))
        obtain ⟨⟨f5a, f5b, f5c⟩, f5z⟩ := N6.out.at_ (List.Mem.tail _ (List.Mem.tail _ (List.Mem.tail _ (List.Mem.tail _ (List.Mem.tail _ (List.Mem.head _))))))
        have fr0 : w6.frozen? ⟨w.heap.size + 1 + 1 + 1, 0, none⟩ = false := blk_frozen (N6.out.all _ (List.Mem.tail _ (List.Mem.tail _ (List.Mem.head _)))) 0
        have fr1 : w6.frozen? ⟨w.heap.size + 1 + 1 + 1, 1, none⟩ = false := blk_frozen (N6.out.all _ (List.Mem.tail _ (List.Mem.tail _ (List.Mem.head _)))) 1
        have fr2 : w6.frozen? ⟨w.heap.size + 1 + 1 + 1, 2, none⟩ = false := blk_frozen (N6.out.all _ (List.Mem.tail _ (List.Mem.tail _ (List.Mem.head _)))) 2
        go_wp2_with fail
        ((try simp only [Exit.inBlock, Exit.then]); refine bodyPost_ret (by simp only [results, Tryz.results32]; go_simp; try rfl) rfl ?_)
        exact ⟨(by rw [G.out]; rfl), ((N6.out.b.setCell hz _).setCell hz _).setCell hz _⟩
end Go.Proofs.YtpmfpfkahanlaaaGreatDoor

/- The reference's In, walked. -/
namespace Go.Proofs.YtpmfpfkahanlaaaGreatDoor
open Go.RowKit
set_option linter.unusedSimpArgs false
set_option linter.unusedVariables false
attribute [local go_sem] Later.cell Later.lt veq_self
attribute [local go_sem high] run_eqV run_neV

theorem BW.put {w0 w : World} (hE0 : Env w0) {g : Nat} {u : V} {l : List (Nat × V)} (h : BW w0 w ((g, u) :: l)) (hne : ∀ p ∈ l, p.1 ≠ g) (hg : w0.heap.size ≤ g) (v : V) :
    BW w0 (((w.setCell ⟨g, 0, none⟩ (.int .i64 v.k)).setCell ⟨g, 1, none⟩ (.int .i64 v.n)).setCell ⟨g, 2, none⟩ (.string ⟨v.t.toArray⟩)) ((g, v) :: l) := by
  have hb : Below w0.heap.size w0 (((w.setCell ⟨g, 0, none⟩ (.int .i64 v.k)).setCell ⟨g, 1, none⟩ (.int .i64 v.n)).setCell ⟨g, 2, none⟩ (.string ⟨v.t.toArray⟩)) := ((h.b.setCell hg _).setCell hg _).setCell hg _
  refine ⟨fun p hp => ?_, hE0.later hb, hb⟩
  rcases List.mem_cons.1 hp with rfl | hp
  · have := blk_set (blk_set (blk_set (h.all _ List.mem_cons_self) 0 (.int .i64 v.k)) 1 (.int .i64 v.n)) 2 (.string ⟨v.t.toArray⟩)
    simpa [cellsV] using this
  · have hn := hne p hp
    exact blk_far (blk_far (blk_far (h.all p (List.mem_cons_of_mem _ hp)) hn _) hn _) hn _
set_option maxHeartbeats 2000000 in
set_option maxRecDepth 100000 in
theorem rIn_any (x : V) (A : Option Addr) (n c : Nat) (l : List V) (w : World) (hE : Env w) (hS : Sl w A n l) (tx : x.t.length ≤ 140737488355328) (tl : ∀ v ∈ l, v.t.length ≤ 140737488355328) :
    Calls Tryz.prog 30 #[(.agg #[.int .i64 (x).k, .int .i64 (x).n, .string ⟨List.toArray (x).t⟩]), .slice A n c] w fun e w' => e = .returned (.tuple #[.agg #[.int .i64 (rIn x l).1.k, .int .i64 (rIn x l).1.n, .string ⟨List.toArray (rIn x l).1.t⟩], .int .i64 (rIn x l).2]) ∧ Below w.heap.size w w' := by
  have N0 := Lib.hid (((BW.start hE).push x (g := w.heap.size) rfl).push ⟨0, 0, []⟩ (g := w.heap.size + 1) (by simp))
  have hz : w.heap.size ≤ w.heap.size + 1 := by omega
  have HE := Lib.hid hE
  have HS := Lib.hid hS
  have TL := Lib.hid tl
  have hlen := hS.len
  have hbig := hS.big
  clear hE hS tl
  go_enter Tryz.func30, Tryz.ntmps30
  obtain ⟨vx, hvx⟩ : ∃ q, sValid x = q := ⟨_, rfl⟩
  go_wp2_with fail
  refine (kval hvx _ tx).mono ?_; rintro e w1 ⟨rfl, hb1⟩
  have N1 := Lib.hid (N0.out.later hb1)
  clear hb1 N0
  obtain ⟨⟨f0a, f0b, f0c⟩, f0z⟩ := N1.out.at_ (List.Mem.head _)
  obtain ⟨⟨f1a, f1b, f1c⟩, f1z⟩ := N1.out.at_ (List.Mem.tail _ (List.Mem.head _))
  have fr0 : w1.frozen? ⟨w.heap.size + 1, 0, none⟩ = false := blk_frozen (N1.out.all _ (List.Mem.head _)) 0
  have fr1 : w1.frozen? ⟨w.heap.size + 1, 1, none⟩ = false := blk_frozen (N1.out.all _ (List.Mem.head _)) 1
  have fr2 : w1.frozen? ⟨w.heap.size + 1, 2, none⟩ = false := blk_frozen (N1.out.all _ (List.Mem.head _)) 2
  cases vx with
  | false =>
    have hR : rIn x l = (vN, 2) := by unfold rIn; rw [hvx]; rfl
    go_wp2_with fail
    ((try simp only [Exit.inBlock, Exit.then]); refine bodyPost_ret (by simp only [results, Tryz.results30]; go_simp; try rfl) rfl ?_)
    exact ⟨(by rw [hR]; rfl), ((N1.out.b.setCell hz _).setCell hz _).setCell hz _⟩
  | true =>
    go_wp2_with fail
    refine (rAll_any A n c l _ (HS.out.later N1.out.b) TL.out).mono ?_; rintro e w2 ⟨rfl, hb2⟩
    have N2 := Lib.hid (N1.out.later hb2)
    clear f0a f0b f0c f0z f1a f1b f1c f1z fr0 fr1 fr2
    clear hb2 N1
    obtain ⟨⟨f0a, f0b, f0c⟩, f0z⟩ := N2.out.at_ (List.Mem.head _)
    obtain ⟨⟨f1a, f1b, f1c⟩, f1z⟩ := N2.out.at_ (List.Mem.tail _ (List.Mem.head _))
    have fr0 : w2.frozen? ⟨w.heap.size + 1, 0, none⟩ = false := blk_frozen (N2.out.all _ (List.Mem.head _)) 0
    have fr1 : w2.frozen? ⟨w.heap.size + 1, 1, none⟩ = false := blk_frozen (N2.out.all _ (List.Mem.head _)) 1
    have fr2 : w2.frozen? ⟨w.heap.size + 1, 2, none⟩ = false := blk_frozen (N2.out.all _ (List.Mem.head _)) 2
    cases hvl : l.all sValid with
    | false =>
      have hR : rIn x l = (vN, 2) := by unfold rIn; rw [hvx, hvl]; rfl
      go_wp2_with fail
      ((try simp only [Exit.inBlock, Exit.then]); refine bodyPost_ret (by simp only [results, Tryz.results30]; go_simp; try rfl) rfl ?_)
      exact ⟨(by rw [hR]; rfl), ((N2.out.b.setCell hz _).setCell hz _).setCell hz _⟩
    | true =>
      have G0 : Hid (rIn x l = rInGo x (vB false) l) := Lib.hid (by unfold rIn; rw [hvx, hvl]; rfl)
      clear hvx hvl
      go_wp2_with fail
      refine (rBool_any false _).mono ?_; rintro e w3 ⟨rfl, hb3⟩
      have N3 := Lib.hid (N2.out.later hb3)
      clear f0a f0b f0c f0z f1a f1b f1c f1z fr0 fr1 fr2
      clear hb3 N2
      obtain ⟨⟨f0a, f0b, f0c⟩, f0z⟩ := N3.out.at_ (List.Mem.head _)
      obtain ⟨⟨f1a, f1b, f1c⟩, f1z⟩ := N3.out.at_ (List.Mem.tail _ (List.Mem.head _))
      have fr0 : w3.frozen? ⟨w.heap.size + 1, 0, none⟩ = false := blk_frozen (N3.out.all _ (List.Mem.head _)) 0
      have fr1 : w3.frozen? ⟨w.heap.size + 1, 1, none⟩ = false := blk_frozen (N3.out.all _ (List.Mem.head _)) 1
      have fr2 : w3.frozen? ⟨w.heap.size + 1, 2, none⟩ = false := blk_frozen (N3.out.all _ (List.Mem.head _)) 2
      have zg : w.heap.size + 1 < w3.heap.size := (N3.out.at_ (List.Mem.head _)).2
      go_wp2_with fail
      go_loopw [23] (fun i wr => ∃ (j : Nat) (acc : V), j ≤ n ∧ i = .int .i64 j ∧ Hid (rIn x l = rInGo x acc (l.drop j)) ∧ Hid (BW w wr [(w3.heap.size, acc), (w.heap.size + 1, ⟨0, 0, []⟩), (w.heap.size, x)])) (fun i wr => n - (intOf i).toNat)
      case atStart => exact ⟨0, vB false, Nat.zero_le _, rfl, G0, Lib.hid (N3.out.push (vB false) (by first | rfl | simp))⟩
      case round =>
        obtain ⟨j, acc, hj, rfl, GJ, LA⟩ := hrel
        clear f0a f0b f0c f0z f1a f1b f1c f1z fr0 fr1 fr2
        clear N3 G0
        obtain ⟨⟨f0a, f0b, f0c⟩, f0z⟩ := LA.out.at_ (List.Mem.head _)
        obtain ⟨⟨f1a, f1b, f1c⟩, f1z⟩ := LA.out.at_ (List.Mem.tail _ (List.Mem.head _))
        obtain ⟨⟨f2a, f2b, f2c⟩, f2z⟩ := LA.out.at_ (List.Mem.tail _ (List.Mem.tail _ (List.Mem.head _)))
        have fr0 : wr.frozen? ⟨w.heap.size + 1, 0, none⟩ = false := blk_frozen (LA.out.all _ (List.Mem.tail _ (List.Mem.head _))) 0
        have fr1 : wr.frozen? ⟨w.heap.size + 1, 1, none⟩ = false := blk_frozen (LA.out.all _ (List.Mem.tail _ (List.Mem.head _))) 1
        have fr2 : wr.frozen? ⟨w.heap.size + 1, 2, none⟩ = false := blk_frozen (LA.out.all _ (List.Mem.tail _ (List.Mem.head _))) 2
        by_cases hlt : j < n
        case pos =>
          obtain ⟨b, off, rfl, hbl, hc⟩ := (HS.out.later LA.out.b).at_ (by omega)
          have hl : j < l.length := by omega
          obtain ⟨c0, c1, c2⟩ := hc j hl
          clear hc
          have hd : l.drop j = l[j] :: l.drop (j + 1) := List.drop_eq_getElem_cons hl
          have tv := TL.out _ (List.getElem_mem hl)
          generalize l[j] = v at c0 c1 c2 hd tv
          obtain ⟨y, e, h1⟩ : ∃ y e, rBinary [61] x v = (y, e) := ⟨_, _, rfl⟩
          obtain ⟨z, h2⟩ : ∃ z, sLogic [111, 114] acc y = z := ⟨_, rfl⟩
          have H1 := Lib.hid h1
          have H2 := Lib.hid h2
          have G1 : Hid (rIn x l = if e != 0 then (vN, e) else if veq z (vB true) then (z, 0) else rInGo x z (l.drop (j + 1))) := Lib.hid (by rw [GJ.out, hd]; simp only [rInGo, h1, h2])
          clear h1 h2 hd GJ
          go_wp2_with fail
          refine (krbin H1.out _ (LA.out.push v (by first | rfl | simp)).env tx tv).mono ?_; rintro e w4 ⟨rfl, hb4⟩
          have N4 := Lib.hid ((LA.out.push v (by first | rfl | simp)).later hb4)
          clear f0a f0b f0c f0z f1a f1b f1c f1z f2a f2b f2c f2z fr0 fr1 fr2 c0 c1 c2 hbl
          clear hb4 LA
          obtain ⟨⟨f0a, f0b, f0c⟩, f0z⟩ := N4.out.at_ (List.Mem.head _)
          obtain ⟨⟨f1a, f1b, f1c⟩, f1z⟩ := N4.out.at_ (List.Mem.tail _ (List.Mem.head _))
          obtain ⟨⟨f2a, f2b, f2c⟩, f2z⟩ := N4.out.at_ (List.Mem.tail _ (List.Mem.tail _ (List.Mem.head _)))
          obtain ⟨⟨f3a, f3b, f3c⟩, f3z⟩ := N4.out.at_ (List.Mem.tail _ (List.Mem.tail _ (List.Mem.tail _ (List.Mem.head _))))
          have fr0 : w4.frozen? ⟨w.heap.size + 1, 0, none⟩ = false := blk_frozen (N4.out.all _ (List.Mem.tail _ (List.Mem.tail _ (List.Mem.head _)))) 0
          have fr1 : w4.frozen? ⟨w.heap.size + 1, 1, none⟩ = false := blk_frozen (N4.out.all _ (List.Mem.tail _ (List.Mem.tail _ (List.Mem.head _)))) 1
          have fr2 : w4.frozen? ⟨w.heap.size + 1, 2, none⟩ = false := blk_frozen (N4.out.all _ (List.Mem.tail _ (List.Mem.tail _ (List.Mem.head _)))) 2
          have gr0 : w4.frozen? ⟨w3.heap.size, 0, none⟩ = false := blk_frozen (N4.out.all _ (List.Mem.tail _ (List.Mem.head _))) 0
          have gr1 : w4.frozen? ⟨w3.heap.size, 1, none⟩ = false := blk_frozen (N4.out.all _ (List.Mem.tail _ (List.Mem.head _))) 1
          have gr2 : w4.frozen? ⟨w3.heap.size, 2, none⟩ = false := blk_frozen (N4.out.all _ (List.Mem.tail _ (List.Mem.head _))) 2
          by_cases he : e = 0
          case neg =>
            have he1 : (e == 0) = false := by simpa using he
            have he2 : (e != 0) = true := by simpa using he
            go_wp2_with fail
            ((try simp only [Exit.inBlock, Exit.then]); refine bodyPost_ret (by simp only [results, Tryz.results30]; go_simp; try rfl) rfl ?_)
            exact ⟨(by rw [G1.out]; rw [if_pos he2]; try rfl), (((N4.out.b.setCell hz _).setCell hz _).setCell hz _).alloc (((N4.out.b.setCell hz _).setCell hz _).setCell hz _).size _⟩
          subst he
          go_wp2_with fail
          refine ((H2.out ▸ krtruths [111, 114] acc y _)).mono ?_; rintro e w5 ⟨rfl, hb5⟩
          have N5 := Lib.hid ((N4.out.push y (by first | rfl | simp)).later hb5)
          clear f0a f0b f0c f0z f1a f1b f1c f1z f2a f2b f2c f2z f3a f3b f3c f3z fr0 fr1 fr2 gr0 gr1 gr2
          clear hb5 N4
          obtain ⟨⟨f0a, f0b, f0c⟩, f0z⟩ := N5.out.at_ (List.Mem.head _)
          obtain ⟨⟨f1a, f1b, f1c⟩, f1z⟩ := N5.out.at_ (List.Mem.tail _ (List.Mem.head _))
          obtain ⟨⟨f2a, f2b, f2c⟩, f2z⟩ := N5.out.at_ (List.Mem.tail _ (List.Mem.tail _ (List.Mem.head _)))
          obtain ⟨⟨f3a, f3b, f3c⟩, f3z⟩ := N5.out.at_ (List.Mem.tail _ (List.Mem.tail _ (List.Mem.tail _ (List.Mem.head _))))
          obtain ⟨⟨f4a, f4b, f4c⟩, f4z⟩ := N5.out.at_ (List.Mem.tail _ (List.Mem.tail _ (List.Mem.tail _ (List.Mem.tail _ (List.Mem.head _)))))
          have fr0 : w5.frozen? ⟨w.heap.size + 1, 0, none⟩ = false := blk_frozen (N5.out.all _ (List.Mem.tail _ (List.Mem.tail _ (List.Mem.tail _ (List.Mem.head _))))) 0
          have fr1 : w5.frozen? ⟨w.heap.size + 1, 1, none⟩ = false := blk_frozen (N5.out.all _ (List.Mem.tail _ (List.Mem.tail _ (List.Mem.tail _ (List.Mem.head _))))) 1
          have fr2 : w5.frozen? ⟨w.heap.size + 1, 2, none⟩ = false := blk_frozen (N5.out.all _ (List.Mem.tail _ (List.Mem.tail _ (List.Mem.tail _ (List.Mem.head _))))) 2
          have gr0 : w5.frozen? ⟨w3.heap.size, 0, none⟩ = false := blk_frozen (N5.out.all _ (List.Mem.tail _ (List.Mem.tail _ (List.Mem.head _)))) 0
          have gr1 : w5.frozen? ⟨w3.heap.size, 1, none⟩ = false := blk_frozen (N5.out.all _ (List.Mem.tail _ (List.Mem.tail _ (List.Mem.head _)))) 1
          have gr2 : w5.frozen? ⟨w3.heap.size, 2, none⟩ = false := blk_frozen (N5.out.all _ (List.Mem.tail _ (List.Mem.tail _ (List.Mem.head _)))) 2
          have PB := Lib.hid (BW.put HE.out N5.out.drop.drop (by intro p hp; simp only [List.mem_cons, List.not_mem_nil, or_false] at hp; rcases hp with rfl | rfl <;> simp <;> omega) (by omega) z)
          go_upto_region 11 with fail
          generalize (((w5.setCell ⟨w3.heap.size, 0, none⟩ (.int .i64 z.k)).setCell ⟨w3.heap.size, 1, none⟩ (.int .i64 z.n)).setCell ⟨w3.heap.size, 2, none⟩ (.string ⟨z.t.toArray⟩)) = wz at PB ⊢
          clear f0a f0b f0c f0z f1a f1b f1c f1z f2a f2b f2c f2z f3a f3b f3c f3z f4a f4b f4c f4z fr0 fr1 fr2 gr0 gr1 gr2
          clear N5
          obtain ⟨⟨f0a, f0b, f0c⟩, f0z⟩ := PB.out.at_ (List.Mem.head _)
          obtain ⟨⟨f1a, f1b, f1c⟩, f1z⟩ := PB.out.at_ (List.Mem.tail _ (List.Mem.head _))
          obtain ⟨⟨f2a, f2b, f2c⟩, f2z⟩ := PB.out.at_ (List.Mem.tail _ (List.Mem.tail _ (List.Mem.head _)))
          have fr0 : wz.frozen? ⟨w.heap.size + 1, 0, none⟩ = false := blk_frozen (PB.out.all _ (List.Mem.tail _ (List.Mem.head _))) 0
          have fr1 : wz.frozen? ⟨w.heap.size + 1, 1, none⟩ = false := blk_frozen (PB.out.all _ (List.Mem.tail _ (List.Mem.head _))) 1
          have fr2 : wz.frozen? ⟨w.heap.size + 1, 2, none⟩ = false := blk_frozen (PB.out.all _ (List.Mem.tail _ (List.Mem.head _))) 2
          have gr0 : wz.frozen? ⟨w3.heap.size, 0, none⟩ = false := blk_frozen (PB.out.all _ (List.Mem.head _)) 0
          have gr1 : wz.frozen? ⟨w3.heap.size, 1, none⟩ = false := blk_frozen (PB.out.all _ (List.Mem.head _)) 1
          have gr2 : wz.frozen? ⟨w3.heap.size, 2, none⟩ = false := blk_frozen (PB.out.all _ (List.Mem.head _)) 2
          obtain ⟨q, hq⟩ : ∃ q, veq z (vB true) = q := ⟨_, rfl⟩
          refine wp_region_later (by kernel_rfl) (by kernel_rfl) ?_; (repeat (quiet_step ((go_at_call 55; exact later _ (rBool_any _ _))))); refine wpQuiet_nil ?_; intro w' hw'; obtain ⟨⟨w', hb⟩, hw''⟩ := hw'; subst hw''
          have PC := Lib.hid (PB.out.later hb)
          clear f0a f0b f0c f0z f1a f1b f1c f1z f2a f2b f2c f2z fr0 fr1 fr2 gr0 gr1 gr2
          clear PB hb
          obtain ⟨⟨f0a, f0b, f0c⟩, f0z⟩ := PC.out.at_ (List.Mem.head _)
          obtain ⟨⟨f1a, f1b, f1c⟩, f1z⟩ := PC.out.at_ (List.Mem.tail _ (List.Mem.head _))
          obtain ⟨⟨f2a, f2b, f2c⟩, f2z⟩ := PC.out.at_ (List.Mem.tail _ (List.Mem.tail _ (List.Mem.head _)))
          have fr0 : w'.frozen? ⟨w.heap.size + 1, 0, none⟩ = false := blk_frozen (PC.out.all _ (List.Mem.tail _ (List.Mem.head _))) 0
          have fr1 : w'.frozen? ⟨w.heap.size + 1, 1, none⟩ = false := blk_frozen (PC.out.all _ (List.Mem.tail _ (List.Mem.head _))) 1
          have fr2 : w'.frozen? ⟨w.heap.size + 1, 2, none⟩ = false := blk_frozen (PC.out.all _ (List.Mem.tail _ (List.Mem.head _))) 2
          have gr0 : w'.frozen? ⟨w3.heap.size, 0, none⟩ = false := blk_frozen (PC.out.all _ (List.Mem.head _)) 0
          have gr1 : w'.frozen? ⟨w3.heap.size, 1, none⟩ = false := blk_frozen (PC.out.all _ (List.Mem.head _)) 1
          have gr2 : w'.frozen? ⟨w3.heap.size, 2, none⟩ = false := blk_frozen (PC.out.all _ (List.Mem.head _)) 2
          have hq' : veq ⟨z.k, z.n, z.t⟩ (vB true) = q := hq
          cases q with
          | true =>
            go_wp2_with fail
            ((try simp only [Exit.inBlock, Exit.then]); refine bodyPost_ret (by simp only [results, Tryz.results30]; go_simp; try rfl) rfl ?_)
            exact ⟨(by rw [G1.out]; rw [if_neg (by decide), if_pos hq]; try rfl), ((PC.out.b.setCell hz _).setCell hz _).setCell hz _⟩
          | false =>
            go_wp2_with fail
            exact ⟨⟨j + 1, z, by omega, by go_num, Lib.hid (by rw [G1.out, if_neg (by decide), if_neg (by rw [hq]; decide)]), PC⟩, by simp [intOf]; omega⟩
        obtain rfl : j = n := by omega
        have hdn : l.drop j = [] := List.drop_eq_nil_of_le (by omega)
        have G2 : Hid (rIn x l = (acc, 0)) := Lib.hid (by rw [GJ.out, hdn]; rfl)
        clear hdn GJ
        go_wp2_with fail
        ((try simp only [Exit.inBlock, Exit.then]); refine bodyPost_ret (by simp only [results, Tryz.results30]; go_simp; try rfl) rfl ?_)
        exact ⟨(by rw [G2.out]; try rfl), ((LA.out.b.setCell hz _).setCell hz _).setCell hz _⟩
end Go.Proofs.YtpmfpfkahanlaaaGreatDoor
