/- Comparisons and arithmetic, walked. -/
import Derived.Test.YtpmfpfkahanlaaaGreatDoorHA
import Derived.Lib.SliceRun
import Derived.Lib.OthersKept
import Derived.WalkSmall
import Derived.Laws.IdiomStrings
import Derived.Laws.MakeOwn
import Derived.OwnWalk
namespace Go.Proofs.YtpmfpfkahanlaaaGreatDoor
open Go.RowKit
set_option linter.unusedSimpArgs false
set_option linter.unusedVariables false
attribute [local go_sem] Later.cell Later.lt
attribute [local go_sem high] run_eqV run_neV

theorem cmpS_any (a b : List UInt8) (w : World) : Calls Tryz.prog 114 #[.string ⟨a.toArray⟩, .string ⟨b.toArray⟩] w fun e w' => e = .returned (.int .i64 (Lib.compareBytes a b)) ∧ w = w' :=
  (Tryz.strings_Compare ⟨a.toArray⟩ ⟨b.toArray⟩ w).mono fun _ _ ⟨h, h'⟩ => ⟨h, h'.symm⟩
theorem compare_any (k n k' n' : Int) (t t' : List UInt8) (w : World) :
    Calls Tryz.prog 70 #[(.agg #[.int .i64 (k), .int .i64 (n), .string ⟨List.toArray (t)⟩]), (.agg #[.int .i64 (k'), .int .i64 (n'), .string ⟨List.toArray (t')⟩])] w fun e w' => e = .returned (.int .i64 (sCmp ⟨k, n, t⟩ ⟨k', n', t'⟩)) ∧ Below w.heap.size w w' := by
  go_enter Tryz.func70, Tryz.ntmps70
  go_wp2_with (go_at_call 114; refine (cmpS_any _ _ _).mono ?_; rintro e w' ⟨rfl, rfl⟩)
  all_goals (((try simp only [Exit.inBlock, Exit.then]); refine bodyPost_ret (by simp only [results, Tryz.results70]; go_simp; try rfl) rfl ?_); refine ⟨ret_int ?_, ?_⟩)
  all_goals (first | ((repeat' (first | (with_reducible exact Below.refl _ _) | (with_reducible assumption) | (with_reducible refine Below.alloc ?_ ?_ _) | (with_reducible refine Below.drew ?_) | (with_reducible refine Below.drewN' ?_ _) | (with_reducible refine Below.setCell ?_ ?_ _) | (refine Below.via ?_ (by assumption) ?_) | go_size)); done) | skip)
  all_goals (go_light; first | (simp_all [sCmp]; done) | ((try simp [sCmp]); (repeat' split) <;> (try simp_all) <;> (try omega)))
set_option maxHeartbeats 1000000 in
theorem rLess_any (k n k' n' : Int) (t t' : List UInt8) (w : World) :
    Calls Tryz.prog 80 #[(.agg #[.int .i64 (k), .int .i64 (n), .string ⟨List.toArray (t)⟩]), (.agg #[.int .i64 (k'), .int .i64 (n'), .string ⟨List.toArray (t')⟩])] w fun e w' => e = .returned (.int .i64 (rLess ⟨k, n, t⟩ ⟨k', n', t'⟩)) ∧ Below w.heap.size w w' := by
  go_enter Tryz.func80, Tryz.ntmps80
  go_wp2
  all_goals (((try simp only [Exit.inBlock, Exit.then]); refine bodyPost_ret (by simp only [results, Tryz.results80]; go_simp; try rfl) rfl ?_); refine ⟨ret_int ?_, ?_⟩)
  all_goals (first | ((repeat' (first | (with_reducible exact Below.refl _ _) | (with_reducible assumption) | (with_reducible refine Below.alloc ?_ ?_ _) | (with_reducible refine Below.drew ?_) | (with_reducible refine Below.drewN' ?_ _) | (with_reducible refine Below.setCell ?_ ?_ _) | (refine Below.via ?_ (by assumption) ?_) | go_size)); done) | skip)
  all_goals (go_light; first | (simp_all [rLess, ltB]; done) | ((try simp [rLess, ltB]); (repeat' split) <;> (try simp_all) <;> (try omega)))
theorem compared_any (op : List UInt8) (c : Int) (w : World) :
    Calls Tryz.prog 69 #[.string ⟨op.toArray⟩, .int .i64 c] w fun e w' => e = .returned (.agg #[.int .i64 (vB (sCompared op c)).k, .int .i64 (vB (sCompared op c)).n, .string ⟨List.toArray (vB (sCompared op c)).t⟩]) ∧ Below w.heap.size w w' := by
  go_enter Tryz.func69, Tryz.ntmps69
  go_wp2_with (go_at_call 61; refine (bool_any _ _).mono ?_; rintro e w1 ⟨rfl, hbw1⟩; obtain ⟨hcw1, hfw1⟩ := bfacts hbw1; have hzw1 := hbw1.size; (try simp only [World.size_alloc, World.size_setCell, World.size_drew] at hzw1); (try have hpw1 : 0 < w1.heap.size := by omega); (try have : w.heap.size < w1.heap.size := by omega); (try have : w.heap.size + 1 < w1.heap.size := by omega); (try have : w.heap.size + 1 + 1 < w1.heap.size := by omega); (try have : w.heap.size + 1 + 1 + 1 < w1.heap.size := by omega); (try have : w.heap.size + 1 + 1 + 1 + 1 < w1.heap.size := by omega); (try have : w.heap.size + 1 + 1 + 1 + 1 + 1 < w1.heap.size := by omega); (try have : w.heap.size < w1.heap.size + 1 := by omega); (try have : w.heap.size + 1 < w1.heap.size + 1 := by omega); (try have : w.heap.size + 1 + 1 < w1.heap.size + 1 := by omega); (try have : w.heap.size + 1 + 1 + 1 < w1.heap.size + 1 := by omega); (try have : w.heap.size + 1 + 1 + 1 + 1 < w1.heap.size + 1 := by omega))
  all_goals (((try simp only [Exit.inBlock, Exit.then]); refine bodyPost_ret (by simp only [results, Tryz.results69]; go_simp; try rfl) rfl ?_); refine ⟨ret_v ?_, ?_⟩)
  all_goals (first | ((repeat' (first | (with_reducible exact Below.refl _ _) | (with_reducible assumption) | (with_reducible refine Below.alloc ?_ ?_ _) | (with_reducible refine Below.drew ?_) | (with_reducible refine Below.drewN' ?_ _) | (with_reducible refine Below.setCell ?_ ?_ _) | (refine Below.via ?_ (by assumption) ?_) | go_size)); done) | skip)
  all_goals (go_light; first | (simp_all [sCompared]; done) | ((try simp [sCompared]); (repeat' split) <;> (try simp_all) <;> (try omega)))
theorem rCompared_any (op : List UInt8) (c : Int) (w : World) :
    Calls Tryz.prog 79 #[.string ⟨op.toArray⟩, .int .i64 c] w fun e w' => e = .returned (.bool (sCompared op c)) ∧ w = w' := by
  go_enter Tryz.func79, Tryz.ntmps79
  go_wp2
  all_goals (((try simp only [Exit.inBlock, Exit.then]); refine bodyPost_ret (by simp only [results, Tryz.results79]; go_simp; try rfl) rfl ?_); refine ⟨ret_bool ?_, rfl⟩)
  all_goals (go_light; first | (simp_all [sCompared]; done) | ((try simp [sCompared]); (repeat' split) <;> (try simp_all) <;> (try omega)))
theorem rSize_any (n : Int) (w : World) (h : -9223372036854775807 ≤ n) (h' : n ≤ 9223372036854775807) :
    Calls Tryz.prog 118 #[.int .i64 n] w fun e w' => e = .returned (.int .i64 (max n (-n))) ∧ w = w' := by
  go_enter Tryz.func118, Tryz.ntmps118
  go_wp2
  all_goals (((try simp only [Exit.inBlock, Exit.then]); refine bodyPost_ret (by simp only [results, Tryz.results118]; go_simp; try rfl) rfl ?_); exact ⟨rfl, rfl⟩)
set_option maxHeartbeats 1000000 in
theorem arith_any (op : List UInt8) (a b : Int) (w : World) (ha : -1099511627776 ≤ a) (ha' : a ≤ 1099511627776) (hb : -1099511627776 ≤ b) (hb' : b ≤ 1099511627776) (n0 : w.cell? ⟨0, 0, none⟩ = some (.int .i64 0)) (n1 : w.cell? ⟨0, 1, none⟩ = some (.int .i64 0)) (n2 : w.cell? ⟨0, 2, none⟩ = some (.string ⟨#[]⟩)) (hpos : 0 < w.heap.size) :
    Calls Tryz.prog 73 #[.string ⟨op.toArray⟩, .int .i64 a, .int .i64 b] w fun e w' => e = .returned (.tuple #[.agg #[.int .i64 (sArith op a b).1.k, .int .i64 (sArith op a b).1.n, .string ⟨List.toArray (sArith op a b).1.t⟩], .int .i64 (sArith op a b).2]) ∧ Below w.heap.size w w' := by
  by_cases hb0 : b = 0
  · subst hb0
    go_enter Tryz.func73, Tryz.ntmps73
    go_wp2_with (go_at_call 65; refine (whole_any _ _ (by go_simp) (by go_simp) (by go_simp) (by go_simp)).mono ?_; rintro e w1 ⟨rfl, hbw1⟩; obtain ⟨hcw1, hfw1⟩ := bfacts hbw1; have hzw1 := hbw1.size; (try simp only [World.size_alloc, World.size_setCell, World.size_drew] at hzw1); (try have hpw1 : 0 < w1.heap.size := by omega); (try have : w.heap.size < w1.heap.size := by omega); (try have : w.heap.size + 1 < w1.heap.size := by omega); (try have : w.heap.size + 1 + 1 < w1.heap.size := by omega); (try have : w.heap.size + 1 + 1 + 1 < w1.heap.size := by omega); (try have : w.heap.size + 1 + 1 + 1 + 1 < w1.heap.size := by omega); (try have : w.heap.size + 1 + 1 + 1 + 1 + 1 < w1.heap.size := by omega); (try have : w.heap.size < w1.heap.size + 1 := by omega); (try have : w.heap.size + 1 < w1.heap.size + 1 := by omega); (try have : w.heap.size + 1 + 1 < w1.heap.size + 1 := by omega); (try have : w.heap.size + 1 + 1 + 1 < w1.heap.size + 1 := by omega); (try have : w.heap.size + 1 + 1 + 1 + 1 < w1.heap.size + 1 := by omega))
    all_goals (((try simp only [Exit.inBlock, Exit.then]); refine bodyPost_ret (by simp only [results, Tryz.results73]; go_simp; try rfl) rfl ?_); refine ⟨ret_r ?_, ?_⟩)
    all_goals (first | ((repeat' (first | (with_reducible exact Below.refl _ _) | (with_reducible assumption) | (with_reducible refine Below.alloc ?_ ?_ _) | (with_reducible refine Below.drew ?_) | (with_reducible refine Below.drewN' ?_ _) | (with_reducible refine Below.setCell ?_ ?_ _) | (refine Below.via ?_ (by assumption) ?_) | go_size)); done) | skip)
    all_goals (go_light; first | (simp_all [sArith, w64, wrap64, vN]; done) | ((try simp [sArith, w64, wrap64, vN]); (repeat' split) <;> (try simp_all) <;> (try omega)))
  · have hb1 : (b == 0) = false := by simpa using hb0
    go_enter Tryz.func73, Tryz.ntmps73
    go_wp2_with (go_at_call 65; refine (whole_any _ _ (by go_simp) (by go_simp) (by go_simp) (by go_simp)).mono ?_; rintro e w1 ⟨rfl, hbw1⟩; obtain ⟨hcw1, hfw1⟩ := bfacts hbw1; have hzw1 := hbw1.size; (try simp only [World.size_alloc, World.size_setCell, World.size_drew] at hzw1); (try have hpw1 : 0 < w1.heap.size := by omega); (try have : w.heap.size < w1.heap.size := by omega); (try have : w.heap.size + 1 < w1.heap.size := by omega); (try have : w.heap.size + 1 + 1 < w1.heap.size := by omega); (try have : w.heap.size + 1 + 1 + 1 < w1.heap.size := by omega); (try have : w.heap.size + 1 + 1 + 1 + 1 < w1.heap.size := by omega); (try have : w.heap.size + 1 + 1 + 1 + 1 + 1 < w1.heap.size := by omega); (try have : w.heap.size < w1.heap.size + 1 := by omega); (try have : w.heap.size + 1 < w1.heap.size + 1 := by omega); (try have : w.heap.size + 1 + 1 < w1.heap.size + 1 := by omega); (try have : w.heap.size + 1 + 1 + 1 < w1.heap.size + 1 := by omega); (try have : w.heap.size + 1 + 1 + 1 + 1 < w1.heap.size + 1 := by omega))
    all_goals (((try simp only [Exit.inBlock, Exit.then]); refine bodyPost_ret (by simp only [results, Tryz.results73]; go_simp; try rfl) rfl ?_); refine ⟨ret_r ?_, ?_⟩)
    all_goals (first | ((repeat' (first | (with_reducible exact Below.refl _ _) | (with_reducible assumption) | (with_reducible refine Below.alloc ?_ ?_ _) | (with_reducible refine Below.drew ?_) | (with_reducible refine Below.drewN' ?_ _) | (with_reducible refine Below.setCell ?_ ?_ _) | (refine Below.via ?_ (by assumption) ?_) | go_size)); done) | skip)
    all_goals (go_light; first | (simp_all [sArith, w64, wrap64, vN]; done) | ((try simp [sArith, w64, wrap64, vN]); (repeat' split) <;> (try simp_all) <;> (try omega)))
set_option maxHeartbeats 1000000 in
theorem rArith_any (op : List UInt8) (a b : Int) (w : World) (ha : -1099511627776 ≤ a) (ha' : a ≤ 1099511627776) (hb : -1099511627776 ≤ b) (hb' : b ≤ 1099511627776)  :
    Calls Tryz.prog 81 #[.string ⟨op.toArray⟩, .int .i64 a, .int .i64 b] w fun e w' => e = .returned (.tuple #[.agg #[.int .i64 (rArith op a b).1.k, .int .i64 (rArith op a b).1.n, .string ⟨List.toArray (rArith op a b).1.t⟩], .int .i64 (rArith op a b).2]) ∧ Below w.heap.size w w' := by
  by_cases hb0 : b = 0
  · subst hb0
    go_enter Tryz.func81, Tryz.ntmps81
    go_wp2_with (first | (go_at_call 118; refine (rSize_any _ _ (by omega) (by omega)).mono ?_; rintro e w' ⟨rfl, rfl⟩) | (go_at_call 95; refine (rNumber_any _ _).mono ?_; rintro e w1 ⟨rfl, hbw1⟩; obtain ⟨hcw1, hfw1⟩ := bfacts hbw1; have hzw1 := hbw1.size; (try simp only [World.size_alloc, World.size_setCell, World.size_drew] at hzw1); (try have hpw1 : 0 < w1.heap.size := by omega); (try have : w.heap.size < w1.heap.size := by omega); (try have : w.heap.size + 1 < w1.heap.size := by omega); (try have : w.heap.size + 1 + 1 < w1.heap.size := by omega); (try have : w.heap.size + 1 + 1 + 1 < w1.heap.size := by omega); (try have : w.heap.size + 1 + 1 + 1 + 1 < w1.heap.size := by omega); (try have : w.heap.size + 1 + 1 + 1 + 1 + 1 < w1.heap.size := by omega); (try have : w.heap.size < w1.heap.size + 1 := by omega); (try have : w.heap.size + 1 < w1.heap.size + 1 := by omega); (try have : w.heap.size + 1 + 1 < w1.heap.size + 1 := by omega); (try have : w.heap.size + 1 + 1 + 1 < w1.heap.size + 1 := by omega); (try have : w.heap.size + 1 + 1 + 1 + 1 < w1.heap.size + 1 := by omega)))
    all_goals (((try simp only [Exit.inBlock, Exit.then]); refine bodyPost_ret (by simp only [results, Tryz.results81]; go_simp; try rfl) rfl ?_); refine ⟨ret_r ?_, ?_⟩)
    all_goals (first | ((repeat' (first | (with_reducible exact Below.refl _ _) | (with_reducible assumption) | (with_reducible refine Below.alloc ?_ ?_ _) | (with_reducible refine Below.drew ?_) | (with_reducible refine Below.drewN' ?_ _) | (with_reducible refine Below.setCell ?_ ?_ _) | (refine Below.via ?_ (by assumption) ?_) | go_size)); done) | skip)
    all_goals (go_light; first | (simp_all [rArith, w64, wrap64, vN]; done) | ((try simp [rArith, w64, wrap64, vN]); (repeat' split) <;> (try simp_all) <;> (try omega)))
  · have hb1 : (b == 0) = false := by simpa using hb0
    go_enter Tryz.func81, Tryz.ntmps81
    go_wp2_with (first | (go_at_call 118; refine (rSize_any _ _ (by omega) (by omega)).mono ?_; rintro e w' ⟨rfl, rfl⟩) | (go_at_call 95; refine (rNumber_any _ _).mono ?_; rintro e w1 ⟨rfl, hbw1⟩; obtain ⟨hcw1, hfw1⟩ := bfacts hbw1; have hzw1 := hbw1.size; (try simp only [World.size_alloc, World.size_setCell, World.size_drew] at hzw1); (try have hpw1 : 0 < w1.heap.size := by omega); (try have : w.heap.size < w1.heap.size := by omega); (try have : w.heap.size + 1 < w1.heap.size := by omega); (try have : w.heap.size + 1 + 1 < w1.heap.size := by omega); (try have : w.heap.size + 1 + 1 + 1 < w1.heap.size := by omega); (try have : w.heap.size + 1 + 1 + 1 + 1 < w1.heap.size := by omega); (try have : w.heap.size + 1 + 1 + 1 + 1 + 1 < w1.heap.size := by omega); (try have : w.heap.size < w1.heap.size + 1 := by omega); (try have : w.heap.size + 1 < w1.heap.size + 1 := by omega); (try have : w.heap.size + 1 + 1 < w1.heap.size + 1 := by omega); (try have : w.heap.size + 1 + 1 + 1 < w1.heap.size + 1 := by omega); (try have : w.heap.size + 1 + 1 + 1 + 1 < w1.heap.size + 1 := by omega)))
    all_goals (((try simp only [Exit.inBlock, Exit.then]); refine bodyPost_ret (by simp only [results, Tryz.results81]; go_simp; try rfl) rfl ?_); refine ⟨ret_r ?_, ?_⟩)
    all_goals (first | ((repeat' (first | (with_reducible exact Below.refl _ _) | (with_reducible assumption) | (with_reducible refine Below.alloc ?_ ?_ _) | (with_reducible refine Below.drew ?_) | (with_reducible refine Below.drewN' ?_ _) | (with_reducible refine Below.setCell ?_ ?_ _) | (refine Below.via ?_ (by assumption) ?_) | go_size)); done) | skip)
    all_goals (go_light; first | (simp_all [rArith, w64, wrap64, vN]; done) | ((try simp [rArith, w64, wrap64, vN]); (repeat' split) <;> (try simp_all) <;> (try omega)))
end Go.Proofs.YtpmfpfkahanlaaaGreatDoor

/- valid strings and values. -/
namespace Go.Proofs.YtpmfpfkahanlaaaGreatDoor
open Go.RowKit
set_option linter.unusedSimpArgs false
set_option linter.unusedVariables false
attribute [local go_sem] Later.cell Later.lt
attribute [local go_sem high] run_eqV run_neV

def badR (r : Nat) : Bool := decide (r < 32) || decide (126 < r)
theorem isString1_pays (w : World) : PredAt Tryz.prog 112 #[] encR badR w := fun W r _ => by
  unfold FnGives
  by_cases h1 : r < 32 <;> by_cases h2 : 126 < r
  all_goals
    have z1 : (r : Int) < 32 ↔ r < 32 := by omega
    have z2 : (126 : Int) < (r : Int) ↔ 126 < r := by omega
    go_enter Tryz.func112, Tryz.ntmps112
    go_wp2
    all_goals first | (exfalso; omega) | (go_ret; exact ⟨by simp [badR, h1, h2], 0, rfl⟩)
theorem decode_low (s : ByteArray) (i : Nat) (h : (s.get! i).toNat < 128) : Utf8.decode s i = ((s.get! i).toNat, 1) := by
  simp [Utf8.decode, h]
theorem decode_high (s : ByteArray) (i : Nat) (h : ¬ (s.get! i).toNat < 128) : 128 ≤ (Utf8.decode s i).1 := by
  unfold Utf8.decode
  simp only [Nat.add_zero]
  rw [if_neg h]
  repeat' split
  all_goals first
    | (simp only [Utf8.runeError]; omega)
    | (rename_i hh; simp only [Bool.and_eq_true, decide_eq_true_eq, ge_iff_le] at hh; obtain ⟨hh, _⟩ := hh; exact Nat.le_trans (by decide) hh)
theorem idx_bad (s : ByteArray) : ∀ (f pos : Nat), s.size ≤ pos + f → decide (0 ≤ Lib.idxFuncFrom badR true s f pos) = (s.data.toList.drop pos).any fun c => badR c.toNat
  | 0, pos, h => by
    rw [List.drop_of_length_le (by rw [← Lib.size_eq]; omega)]
    simp [Lib.idxFuncFrom]
  | f + 1, pos, h => by
    unfold Lib.idxFuncFrom
    by_cases hp : pos < s.size
    · have hl : pos < s.data.toList.length := by rw [← Lib.size_eq]; exact hp
      have hg : s.get! pos = s.data.toList[pos] := by
        show s.data[pos]! = _
        rw [getElem!_pos s.data pos (by simpa using hl)]
        simp
      rw [if_pos hp, List.drop_eq_getElem_cons hl, List.any_cons]
      by_cases hb : (s.get! pos).toNat < 128
      · rw [decode_low s pos hb, ← hg]
        cases hq : badR (s.get! pos).toNat with
        | true => simp
        | false =>
          simp only [Bool.false_eq_true, if_false, Bool.false_or]
          exact idx_bad s f (pos + 1) (by omega)
      · have h1 := decode_high s pos hb
        have h2 : badR (Utf8.decode s pos).1 = true := by simp only [badR, Bool.or_eq_true, decide_eq_true_eq]; omega
        have h3 : badR (s.data.toList[pos]).toNat = true := by rw [← hg]; simp only [badR, Bool.or_eq_true, decide_eq_true_eq]; omega
        rw [h2, h3]
        simp
    · rw [if_neg hp, List.drop_of_length_le (by rw [← Lib.size_eq]; omega)]
      simp
theorem strBad (t : List UInt8) : decide (0 ≤ Lib.idxFunc badR true ⟨t.toArray⟩) = !(t.all fun c => decide (32 ≤ c.toNat) && decide (c.toNat ≤ 126)) := by
  unfold Lib.idxFunc
  rw [idx_bad _ _ _ (by omega), List.not_all_eq_any_not]
  show (t.drop 0).any _ = _
  rw [List.drop_zero]
  congr 1
  funext c
  simp only [badR]
  by_cases h1 : c.toNat < 32 <;> by_cases h2 : 126 < c.toNat <;> simp [h1, h2] <;> omega
theorem contains1_any (t : List UInt8) (w : World) : Calls Tryz.prog 111 #[.string ⟨t.toArray⟩, .func (.func 112) #[] #[]] w fun e w' => e = .returned (.bool (!(t.all fun c => decide (32 ≤ c.toNat) && decide (c.toNat ≤ 126)))) ∧ Below w.heap.size w w' := by
  rw [← strBad]
  exact Tryz.strings_ContainsFunc 112 #[] (enters_of Tryz.func112 (by kernel_rfl) rfl) badR ⟨t.toArray⟩ w (isString1_pays w)
theorem isString_any (t : List UInt8) (w : World) :
    Calls Tryz.prog 59 #[.string ⟨t.toArray⟩] w fun e w' => e = .returned (.bool (sIsStr t)) ∧ Below w.heap.size w w' := by
  by_cases h : t.length ≤ 200
  · have h1 : (t.length : Int) ≤ 200 := by omega
    go_enter Tryz.func59, Tryz.ntmps59
    go_wp2_with (go_at_call 111; refine (contains1_any _ _).mono ?_; rintro e w1 ⟨rfl, hbw1⟩; obtain ⟨hcw1, hfw1⟩ := bfacts hbw1; have hzw1 := hbw1.size; (try simp only [World.size_alloc, World.size_setCell, World.size_drew] at hzw1); (try have hpw1 : 0 < w1.heap.size := by omega); (try have : w.heap.size < w1.heap.size := by omega); (try have : w.heap.size + 1 < w1.heap.size := by omega); (try have : w.heap.size + 1 + 1 < w1.heap.size := by omega); (try have : w.heap.size + 1 + 1 + 1 < w1.heap.size := by omega); (try have : w.heap.size + 1 + 1 + 1 + 1 < w1.heap.size := by omega); (try have : w.heap.size + 1 + 1 + 1 + 1 + 1 < w1.heap.size := by omega); (try have : w.heap.size < w1.heap.size + 1 := by omega); (try have : w.heap.size + 1 < w1.heap.size + 1 := by omega); (try have : w.heap.size + 1 + 1 < w1.heap.size + 1 := by omega); (try have : w.heap.size + 1 + 1 + 1 < w1.heap.size + 1 := by omega); (try have : w.heap.size + 1 + 1 + 1 + 1 < w1.heap.size + 1 := by omega))
    all_goals (((try simp only [Exit.inBlock, Exit.then]); refine bodyPost_ret (by simp only [results, Tryz.results59]; go_simp; try rfl) rfl ?_); refine ⟨ret_bool ?_, ?_⟩)
    all_goals (first | ((repeat' (first | (with_reducible exact Below.refl _ _) | (with_reducible assumption) | (with_reducible refine Below.alloc ?_ ?_ _) | (with_reducible refine Below.drew ?_) | (with_reducible refine Below.drewN' ?_ _) | (with_reducible refine Below.setCell ?_ ?_ _) | (refine Below.via ?_ (by assumption) ?_) | go_size)); done) | skip)
    all_goals (go_light; first | (simp_all [sIsStr]; done) | ((try simp [sIsStr]); (repeat' split) <;> (try simp_all) <;> (try omega)))
  · have h1 : ¬ (t.length : Int) ≤ 200 := by omega
    go_enter Tryz.func59, Tryz.ntmps59
    go_wp2
    all_goals (((try simp only [Exit.inBlock, Exit.then]); refine bodyPost_ret (by simp only [results, Tryz.results59]; go_simp; try rfl) rfl ?_); refine ⟨ret_bool ?_, ?_⟩)
    all_goals (first | ((repeat' (first | (with_reducible exact Below.refl _ _) | (with_reducible assumption) | (with_reducible refine Below.alloc ?_ ?_ _) | (with_reducible refine Below.drew ?_) | (with_reducible refine Below.drewN' ?_ _) | (with_reducible refine Below.setCell ?_ ?_ _) | (refine Below.via ?_ (by assumption) ?_) | go_size)); done) | skip)
    all_goals (go_light; first | (simp_all [sIsStr]; done) | ((try simp [sIsStr]); (repeat' split) <;> (try simp_all) <;> (try omega)))
theorem valid_any (k n : Int) (t : List UInt8) (w : World) (n0 : w.cell? ⟨0, 0, none⟩ = some (.int .i64 0)) (n1 : w.cell? ⟨0, 1, none⟩ = some (.int .i64 0)) (n2 : w.cell? ⟨0, 2, none⟩ = some (.string ⟨#[]⟩)) (hpos : 0 < w.heap.size) :
    Calls Tryz.prog 15 #[(.agg #[.int .i64 (k), .int .i64 (n), .string ⟨List.toArray (t)⟩])] w fun e w' => e = .returned (.bool (sValid ⟨k, n, t⟩)) ∧ Below w.heap.size w w' := by
  go_enter Tryz.func15, Tryz.ntmps15
  go_wp2_with (first | (go_at_call 58; refine (isInt_any _ _).mono ?_; rintro e w' ⟨rfl, rfl⟩) | (go_at_call 59; refine (isString_any _ _).mono ?_; rintro e w1 ⟨rfl, hbw1⟩; obtain ⟨hcw1, hfw1⟩ := bfacts hbw1; have hzw1 := hbw1.size; (try simp only [World.size_alloc, World.size_setCell, World.size_drew] at hzw1); (try have hpw1 : 0 < w1.heap.size := by omega); (try have : w.heap.size < w1.heap.size := by omega); (try have : w.heap.size + 1 < w1.heap.size := by omega); (try have : w.heap.size + 1 + 1 < w1.heap.size := by omega); (try have : w.heap.size + 1 + 1 + 1 < w1.heap.size := by omega); (try have : w.heap.size + 1 + 1 + 1 + 1 < w1.heap.size := by omega); (try have : w.heap.size + 1 + 1 + 1 + 1 + 1 < w1.heap.size := by omega); (try have : w.heap.size < w1.heap.size + 1 := by omega); (try have : w.heap.size + 1 < w1.heap.size + 1 := by omega); (try have : w.heap.size + 1 + 1 < w1.heap.size + 1 := by omega); (try have : w.heap.size + 1 + 1 + 1 < w1.heap.size + 1 := by omega); (try have : w.heap.size + 1 + 1 + 1 + 1 < w1.heap.size + 1 := by omega)))
  all_goals (((try simp only [Exit.inBlock, Exit.then]); refine bodyPost_ret (by simp only [results, Tryz.results15]; go_simp; try rfl) rfl ?_); refine ⟨ret_bool ?_, ?_⟩)
  all_goals (first | ((repeat' (first | (with_reducible exact Below.refl _ _) | (with_reducible assumption) | (with_reducible refine Below.alloc ?_ ?_ _) | (with_reducible refine Below.drew ?_) | (with_reducible refine Below.drewN' ?_ _) | (with_reducible refine Below.setCell ?_ ?_ _) | (refine Below.via ?_ (by assumption) ?_) | go_size)); done) | skip)
  all_goals (go_light; first | (simp_all [sValid, vN]; done) | ((try simp [sValid, vN]); (repeat' split) <;> (try simp_all) <;> (try omega)))
end Go.Proofs.YtpmfpfkahanlaaaGreatDoor

/- ref.IsString and ref.Valid, walked. -/
namespace Go.Proofs.YtpmfpfkahanlaaaGreatDoor
open Go.RowKit
set_option linter.unusedSimpArgs false
set_option linter.unusedVariables false
attribute [local go_sem] Later.cell Later.lt
attribute [local go_sem high] run_eqV run_neV

def okC (c : UInt8) : Bool := decide (32 ≤ c.toNat) && decide (c.toNat ≤ 126)
theorem okC_not {c : UInt8} (h : (c.toNat : Int) < 32 ∨ 126 < (c.toNat : Int)) : okC c = false := by
  unfold okC
  rcases h with h | h
  · rw [show decide (32 ≤ c.toNat) = false from decide_eq_false (by omega)]; rfl
  · rw [show decide (c.toNat ≤ 126) = false from decide_eq_false (by omega), Bool.and_false]
theorem okC_yes {c : UInt8} (h : 32 ≤ (c.toNat : Int)) (h' : (c.toNat : Int) ≤ 126) : okC c = true := by
  unfold okC
  rw [show decide (32 ≤ c.toNat) = true from decide_eq_true (by omega), show decide (c.toNat ≤ 126) = true from decide_eq_true (by omega)]; rfl
theorem str_bad (t : List UInt8) (j : Nat) (h : j < t.length) (hb : okC t[j] = false) : sIsStr t = false := by
  have : (t.all fun c => decide (32 ≤ c.toNat) && decide (c.toNat ≤ 126)) = false := by
    rw [List.all_eq_false]
    exact ⟨t[j], List.getElem_mem h, by simpa [okC] using hb⟩
  simp [sIsStr, this]
theorem str_end (t : List UInt8) (h : t.all okC = true) : sIsStr t = decide ((t.length : Int) ≤ 200) := by
  have : (t.all fun c => decide (32 ≤ c.toNat) && decide (c.toNat ≤ 126)) = true := h
  simp only [sIsStr, this, Bool.and_true]
  by_cases h2 : t.length ≤ 200
  · rw [decide_eq_true h2, decide_eq_true (by omega)]
  · rw [decide_eq_false h2, decide_eq_false (by omega)]
theorem str_step (t : List UInt8) (j : Nat) (h : j < t.length) (ha : (t.take j).all okC = true) (hb : okC t[j] = true) : (t.take (j + 1)).all okC = true := by
  rw [List.take_succ_eq_append_getElem h, List.all_append, ha]
  simp [hb]
set_option maxHeartbeats 1000000 in
theorem rIsString_any (t : List UInt8) (w : World) (ht : t.length ≤ 140737488355328) :
    Calls Tryz.prog 53 #[.string ⟨t.toArray⟩] w fun e w' => e = .returned (.bool (sIsStr t)) ∧ w = w' := by
  go_enter Tryz.func53, Tryz.ntmps53
  go_wp2
  go_loop [3] (fun i => ∃ j : Nat, j ≤ t.length ∧ i = .int .i64 j ∧ Hid ((t.take j).all okC = true)) (fun i => t.length - (intOf i).toNat)
  case atStart => exact ⟨0, Nat.zero_le _, rfl, (show Hid _ from by simp [Hid])⟩
  case round =>
    obtain ⟨j, hj, rfl, HA⟩ := hrel
    by_cases hlt : j < t.length
    · have hstep := fun hb => str_step t j hlt HA.out hb
      have hbad := fun hb => str_bad t j hlt hb
      have he : ({ data := t.toArray } : ByteArray)[j]'(show j < t.length from hlt) = t[j] := rfl
      generalize t[j] = c at he hstep hbad
      have HS := Lib.hid hstep
      have HB := Lib.hid hbad
      clear hstep hbad
      by_cases h1 : (c.toNat : Int) < 32
      · go_wp2
        ((try simp only [Exit.inBlock, Exit.then]); refine bodyPost_ret (by simp only [results, Tryz.results53]; go_simp; try rfl) rfl ?_)
        exact ⟨ret_bool (HB.out (okC_not (.inl h1))).symm, rfl⟩
      · by_cases h2 : 126 < (c.toNat : Int)
        · go_wp2
          ((try simp only [Exit.inBlock, Exit.then]); refine bodyPost_ret (by simp only [results, Tryz.results53]; go_simp; try rfl) rfl ?_)
          exact ⟨ret_bool (HB.out (okC_not (.inr h2))).symm, rfl⟩
        · go_wp2
          exact ⟨⟨j + 1, by omega, by go_num, Lib.hid (HS.out (okC_yes (by omega) (by omega)))⟩, by simp [intOf]; omega⟩
    · obtain rfl : j = t.length := by omega
      have HE : Hid (sIsStr t = decide ((t.length : Int) ≤ 200)) := Lib.hid (str_end t (by have := HA.out; rwa [List.take_length] at this))
      go_wp2
      ((try simp only [Exit.inBlock, Exit.then]); refine bodyPost_ret (by simp only [results, Tryz.results53]; go_simp; try rfl) rfl ?_)
      exact ⟨ret_bool HE.out.symm, rfl⟩
theorem rValid_any (k n : Int) (t : List UInt8) (w : World) (ht : t.length ≤ 140737488355328) :
    Calls Tryz.prog 16 #[(.agg #[.int .i64 (k), .int .i64 (n), .string ⟨List.toArray (t)⟩])] w fun e w' => e = .returned (.bool (sValid ⟨k, n, t⟩)) ∧ Below w.heap.size w w' := by
  go_enter Tryz.func16, Tryz.ntmps16
  go_wp2_with (first | (go_at_call 60; refine (rIsInt_any _ _).mono ?_; rintro e w' ⟨rfl, rfl⟩) | (go_at_call 53; refine (rIsString_any _ _ ht).mono ?_; rintro e w' ⟨rfl, rfl⟩))
  all_goals (((try simp only [Exit.inBlock, Exit.then]); refine bodyPost_ret (by simp only [results, Tryz.results16]; go_simp; try rfl) rfl ?_); refine ⟨ret_bool ?_, ?_⟩)
  all_goals (first | ((repeat' (first | (with_reducible exact Below.refl _ _) | (with_reducible assumption) | (with_reducible refine Below.alloc ?_ ?_ _) | (with_reducible refine Below.drew ?_) | (with_reducible refine Below.drewN' ?_ _) | (with_reducible refine Below.setCell ?_ ?_ _) | (refine Below.via ?_ (by assumption) ?_) | go_size)); done) | skip)
  all_goals (go_light; first | (simp_all [sValid, vN, veq]; done) | ((try simp [sValid, vN, veq]); (repeat' split) <;> (try simp_all) <;> (try omega)))
end Go.Proofs.YtpmfpfkahanlaaaGreatDoor

/- A slice of values, and what asks all of it. -/
namespace Go.Proofs.YtpmfpfkahanlaaaGreatDoor
open Go.RowKit
set_option linter.unusedSimpArgs false
set_option linter.unusedVariables false
attribute [local go_sem] Later.cell Later.lt
attribute [local go_sem high] run_eqV run_neV

instance : Inhabited V := ⟨vN⟩
def encL (v : V) : List Value := [.int .i64 v.k, .int .i64 v.n, .string ⟨v.t.toArray⟩]
/-- A slice of n values reads as the list l. -/
structure Sl (w : World) (A : Option Addr) (n : Nat) (l : List V) : Prop where
  len : l.length = n
  big : n ≤ 4398046511104
  at_ : 0 < n → ∃ b off, A = some ⟨b, off, none⟩ ∧ b < w.heap.size ∧ ∀ j (h : j < l.length),
    w.cell? ⟨b, off + j * 3, none⟩ = some (.int .i64 l[j].k) ∧ w.cell? ⟨b, off + j * 3 + 1, none⟩ = some (.int .i64 l[j].n) ∧ w.cell? ⟨b, off + j * 3 + 2, none⟩ = some (.string ⟨l[j].t.toArray⟩)
theorem Sl.later {w w' : World} {A : Option Addr} {n : Nat} {l : List V} (h : Sl w A n l) (hb : Below w.heap.size w w') : Sl w' A n l :=
  ⟨h.len, h.big, fun hn => by
    obtain ⟨b, off, rfl, hlt, hc⟩ := h.at_ hn
    refine ⟨b, off, rfl, Nat.lt_of_lt_of_le hlt hb.size, fun j hj => ?_⟩
    rw [hb.cell (p := ⟨b, _, none⟩) hlt, hb.cell (p := ⟨b, _, none⟩) hlt, hb.cell (p := ⟨b, _, none⟩) hlt]
    exact hc j hj⟩
theorem Sl.alloc {w : World} {A : Option Addr} {n : Nat} {l : List V} (h : Sl w A n l) (o : Obj) : Sl (w.alloc o) A n l := h.later ((Below.refl _ _).alloc (Nat.le_refl _) _)
theorem Sl.nil {w : World} {A : Option Addr} : Sl w A 0 [] := ⟨rfl, by omega, fun h => absurd h (by omega)⟩

theorem any0_any (A : Option Addr) (c g : Nat) (w : World) :
    Calls Tryz.prog 85 #[.slice A 0 c, .func (.func g) #[] #[]] w fun e w' => e = .returned (.bool false) ∧ w = w' := by
  go_enter Tryz.func85, Tryz.ntmps85
  go_wp2
  refine wp_loop_rounds 1 ?_
  rw [rounds_succ]
  go_wp2
  go_ret
  exact ⟨rfl, rfl⟩
theorem any_any (A : Option Addr) (n c g : Nat) (l : List V) (p : V → Bool) (w : World) (hS : Sl w A n l) (eg : ∀ args w, (callFunc g args).run Tryz.prog w = .ok (.enter g args) w)
    (hp : PredBelow Tryz.prog g #[] (fun x => .agg (encL x).toArray) p w) :
    Calls Tryz.prog 85 #[.slice A n c, .func (.func g) #[] #[]] w fun e w' => e = .returned (.bool (l.any p)) ∧ Below w.heap.size w w' := by
  have hlen := hS.len
  by_cases hn : n = 0
  · subst hn
    rw [List.length_eq_zero_iff.1 hlen]
    exact (any0_any A c g w).mono fun _ _ ⟨h1, h2⟩ => ⟨h1, h2 ▸ Below.refl _ _⟩
  · obtain ⟨b, off, rfl, hb, hc⟩ := hS.at_ (by omega)
    have := AnyQ.slices_ContainsFunc Tryz.anyV 3 Tryz.isAgg27 Tryz.sizeOf27 encL (fun _ => rfl) p g #[] eg b off n c l w hp (by omega) (by have := hS.big; omega) hb (fun j hj i v hv => by
      rw [getElem!_pos l j hj] at hv
      obtain ⟨h0, h1, h2⟩ := hc j hj
      match i, hv with
      | 0, hv => simp only [encL, List.getElem?_cons_zero, Option.some.injEq] at hv; rw [← hv]; exact h0
      | 1, hv => simp only [encL, List.getElem?_cons_succ, List.getElem?_cons_zero, Option.some.injEq] at hv; rw [← hv]; exact h1
      | 2, hv => simp only [encL, List.getElem?_cons_succ, List.getElem?_cons_zero, Option.some.injEq] at hv; rw [← hv]; exact h2
      | i + 3, hv => simp [encL] at hv)
    rw [List.take_of_length_le (by omega)] at this
    exact this
structure Nul (w : World) : Prop where
  n0 : w.cell? ⟨0, 0, none⟩ = some (.int .i64 0)
  n1 : w.cell? ⟨0, 1, none⟩ = some (.int .i64 0)
  n2 : w.cell? ⟨0, 2, none⟩ = some (.string ⟨#[]⟩)
  pos : 0 < w.heap.size
theorem Nul.later {w w' : World} (h : Nul w) (hb : Below w.heap.size w w') : Nul w' :=
  ⟨(hb.cell (p := ⟨0, 0, none⟩) h.pos).trans h.n0, (hb.cell (p := ⟨0, 1, none⟩) h.pos).trans h.n1, (hb.cell (p := ⟨0, 2, none⟩) h.pos).trans h.n2, Nat.lt_of_lt_of_le h.pos hb.size⟩
theorem valid1_pays (w : World) (hN : Nul w) : PredBelow Tryz.prog 113 #[] (fun x => .agg (encL x).toArray) (fun v => !sValid v) w := fun W x hb => by
  obtain ⟨n0, n1, n2, hpos⟩ := hN.later hb
  obtain ⟨k, n, t⟩ := x
  show Calls Tryz.prog 113 #[(.agg #[.int .i64 (k), .int .i64 (n), .string ⟨List.toArray (t)⟩])] W fun e w' => e = .returned (.bool (!sValid ⟨k, n, t⟩)) ∧ Below w.heap.size w w'
  go_enter Tryz.func113, Tryz.ntmps113
  go_wp2_with (go_at_call 15; refine (valid_any _ _ _ _ (by go_simp) (by go_simp) (by go_simp) (by go_simp)).mono ?_; rintro e w1 ⟨rfl, hbw1⟩; obtain ⟨hcw1, hfw1⟩ := bfacts hbw1; have hzw1 := hbw1.size; (try simp only [World.size_alloc, World.size_setCell, World.size_drew] at hzw1); (try have hpw1 : 0 < w1.heap.size := by omega); (try have : W.heap.size < w1.heap.size := by omega); (try have : W.heap.size + 1 < w1.heap.size := by omega); (try have : W.heap.size + 1 + 1 < w1.heap.size := by omega); (try have : W.heap.size + 1 + 1 + 1 < w1.heap.size := by omega); (try have : W.heap.size + 1 + 1 + 1 + 1 < w1.heap.size := by omega); (try have : W.heap.size + 1 + 1 + 1 + 1 + 1 < w1.heap.size := by omega); (try have : W.heap.size < w1.heap.size + 1 := by omega); (try have : W.heap.size + 1 < w1.heap.size + 1 := by omega); (try have : W.heap.size + 1 + 1 < w1.heap.size + 1 := by omega); (try have : W.heap.size + 1 + 1 + 1 < w1.heap.size + 1 := by omega); (try have : W.heap.size + 1 + 1 + 1 + 1 < w1.heap.size + 1 := by omega))
  ((try simp only [Exit.inBlock, Exit.then]); refine bodyPost_ret (by simp only [results, Tryz.results113]; go_simp; try rfl) rfl ?_)
  refine ⟨rfl, ?_⟩
  exact hb.trans (((Below.refl _ _).alloc (Nat.le_refl _) _ |>.trans (hbw1.mono (by simp))).mono hb.size)
theorem all_any (A : Option Addr) (n c : Nat) (l : List V) (w : World) (hN : Nul w) (hS : Sl w A n l) :
    Calls Tryz.prog 62 #[.slice A n c] w fun e w' => e = .returned (.bool (l.all sValid)) ∧ Below w.heap.size w w' := by
  have h := any_any A n c 113 l (fun v => !sValid v) w hS (enters_of Tryz.func113 (by kernel_rfl) rfl) (valid1_pays w hN)
  rw [← List.not_all_eq_any_not] at h
  generalize hq : l.all sValid = q at h ⊢
  clear hq
  go_enter Tryz.func62, Tryz.ntmps62
  go_wp2_with (go_at_call 85; refine h.mono ?_; rintro e w1 ⟨rfl, hbw1⟩)
  ((try simp only [Exit.inBlock, Exit.then]); refine bodyPost_ret (by simp only [results, Tryz.results62]; go_simp; try rfl) rfl ?_)
  exact ⟨ret_bool (by simp), hbw1⟩
theorem isRow_any (A : Option Addr) (n c : Nat) (l : List V) (w : World) (hN : Nul w) (hS : Sl w A n l) :
    Calls Tryz.prog 21 #[.slice A n c] w fun e w' => e = .returned (.bool (decide (n ≤ 20) && l.all sValid)) ∧ Below w.heap.size w w' := by
  have h := fun w' (hb : Below w.heap.size w w') => all_any A n c l w' (hN.later hb) (hS.later hb)
  generalize hq : l.all sValid = q at h ⊢
  clear hq
  have H := Lib.hid h
  clear h
  by_cases h20 : n ≤ 20
  · go_enter Tryz.func21, Tryz.ntmps21
    go_wp2_with (go_at_call 62; refine (H.out _ (Below.refl _ _)).mono ?_; rintro e w1 ⟨rfl, hbw1⟩)
    ((try simp only [Exit.inBlock, Exit.then]); refine bodyPost_ret (by simp only [results, Tryz.results21]; go_simp; try rfl) rfl ?_)
    exact ⟨ret_bool (by simp [h20]), hbw1⟩
  · go_enter Tryz.func21, Tryz.ntmps21
    go_wp2_with (go_at_call 62; refine (H.out _ (Below.refl _ _)).mono ?_; rintro e w1 ⟨rfl, hbw1⟩)
    ((try simp only [Exit.inBlock, Exit.then]); refine bodyPost_ret (by simp only [results, Tryz.results21]; go_simp; try rfl) rfl ?_)
    exact ⟨ret_bool (by simp [h20]), Below.refl _ _⟩
end Go.Proofs.YtpmfpfkahanlaaaGreatDoor

/- Loops over slices of values, walked. -/
namespace Go.Proofs.YtpmfpfkahanlaaaGreatDoor
open Go.RowKit
set_option linter.unusedSimpArgs false
set_option linter.unusedVariables false
attribute [local go_sem] Later.cell Later.lt
attribute [local go_sem high] run_eqV run_neV

set_option maxHeartbeats 1000000 in
theorem rAll_any (A : Option Addr) (n c : Nat) (l : List V) (w : World) (hS : Sl w A n l) (ht : ∀ v ∈ l, v.t.length ≤ 140737488355328) :
    Calls Tryz.prog 51 #[.slice A n c] w fun e w' => e = .returned (.bool (l.all sValid)) ∧ Below w.heap.size w w' := by
  have hlen := Lib.hid hS.len
  have hbig := hS.big
  have HS := Lib.hid hS
  have HT := Lib.hid ht
  clear hS ht
  go_enter Tryz.func51, Tryz.ntmps51
  go_wp2
  go_loopw [7] (fun i wr => ∃ j : Nat, j ≤ n ∧ i = .int .i64 j ∧ Hid ((l.take j).all sValid = true) ∧ Below w.heap.size w wr) (fun i wr => n - (intOf i).toNat)
  case atStart => exact ⟨0, Nat.zero_le _, rfl, (show Hid _ from by simp [Hid]), Below.refl _ _⟩
  case round =>
    obtain ⟨j, hj, rfl, HA, HB⟩ := hrel
    by_cases hlt : j < n
    · have HS2 := HS.out.later HB
      obtain ⟨b, off, rfl, hbl, hc⟩ := HS2.at_ (by omega)
      have hl : j < l.length := by rw [hlen.out]; exact hlt
      obtain ⟨c0, c1, c2⟩ := hc j hl
      have HTk : Hid (l.take (j + 1) = l.take j ++ [l[j]]) := Lib.hid (List.take_succ_eq_append_getElem hl)
      have HM : Hid (l[j] ∈ l) := Lib.hid (List.getElem_mem hl)
      generalize l[j] = x at c0 c1 c2 HTk HM
      obtain ⟨k, m, t⟩ := x
      have htl := HT.out _ HM.out
      clear hc HS2
      simp only at c0 c1 c2 htl
      go_wp2_with fail
      refine (rValid_any _ _ _ _ htl).mono ?_; rintro e w1 ⟨rfl, hbw1⟩
      have hsz := HB.size
      have HB1 : Hid (Below w.heap.size w w1) := Lib.hid (by (repeat' (first | (with_reducible exact Below.refl _ _) | (with_reducible assumption) | (with_reducible refine Below.alloc ?_ ?_ _) | (with_reducible refine Below.drew ?_) | (with_reducible refine Below.drewN' ?_ _) | (with_reducible refine Below.setCell ?_ ?_ _) | (refine Below.via ?_ (by assumption) ?_) | go_size)))
      clear hsz
      generalize hq : sValid ⟨k, m, t⟩ = q
      have HQ := Lib.hid hq
      clear hq hbw1 c0 c1 c2
      cases q with
      | true =>
        go_wp2
        go_roundw
        case rel => exact ⟨j + 1, by omega, by go_num, (show Hid _ from by have h1 := HA.out; have h2 := HQ.out; show (l.take (j + 1)).all sValid = true; rw [HTk.out, List.all_append, h1]; simp [h2]), HB1.out⟩
        case measure => simp [intOf]; omega
      | false =>
        go_wp2
        ((try simp only [Exit.inBlock, Exit.then]); refine bodyPost_ret (by simp only [results, Tryz.results51]; go_simp; try rfl) rfl ?_)
        exact ⟨ret_bool (Eq.symm (List.all_eq_false.2 ⟨_, HM.out, by rw [HQ.out]; simp⟩)), HB1.out⟩
    · obtain rfl : j = n := by omega
      have := HA.out
      rw [List.take_of_length_le (by rw [hlen.out]; exact Nat.le_refl _)] at this
      have H2 := Lib.hid this
      clear this
      go_wp2
      ((try simp only [Exit.inBlock, Exit.then]); refine bodyPost_ret (by simp only [results, Tryz.results51]; go_simp; try rfl) rfl ?_)
      exact ⟨ret_bool H2.out.symm, HB⟩
theorem rIsRow_any (A : Option Addr) (n c : Nat) (l : List V) (w : World) (hS : Sl w A n l) (ht : ∀ v ∈ l, v.t.length ≤ 140737488355328) :
    Calls Tryz.prog 22 #[.slice A n c] w fun e w' => e = .returned (.bool (decide (n ≤ 20) && l.all sValid)) ∧ Below w.heap.size w w' := by
  have h := fun w' (hb : Below w.heap.size w w') => rAll_any A n c l w' (hS.later hb) ht
  generalize hq : l.all sValid = q at h ⊢
  clear hq ht
  have H := Lib.hid h
  clear h
  by_cases h20 : n ≤ 20
  · go_enter Tryz.func22, Tryz.ntmps22
    go_wp2_with (go_at_call 51; refine (H.out _ (Below.refl _ _)).mono ?_; rintro e w1 ⟨rfl, hbw1⟩)
    ((try simp only [Exit.inBlock, Exit.then]); refine bodyPost_ret (by simp only [results, Tryz.results22]; go_simp; try rfl) rfl ?_)
    exact ⟨ret_bool (by simp [h20]), hbw1⟩
  · go_enter Tryz.func22, Tryz.ntmps22
    go_wp2_with (go_at_call 51; refine (H.out _ (Below.refl _ _)).mono ?_; rintro e w1 ⟨rfl, hbw1⟩)
    ((try simp only [Exit.inBlock, Exit.then]); refine bodyPost_ret (by simp only [results, Tryz.results22]; go_simp; try rfl) rfl ?_)
    exact ⟨ret_bool (by simp [h20]), Below.refl _ _⟩
end Go.Proofs.YtpmfpfkahanlaaaGreatDoor

/- Rows compared; Few. -/
namespace Go.Proofs.YtpmfpfkahanlaaaGreatDoor
open Go.RowKit
set_option linter.unusedSimpArgs false
set_option linter.unusedVariables false
attribute [local go_sem] Later.cell Later.lt
attribute [local go_sem high] run_eqV run_neV

theorem neqAtV : NeqAt Tryz.prog 27 (fun x => .agg (encL x).toArray) veq :=
  ⟨fun x y w => run_neV x.k x.n y.k y.n x.t y.t w, GuardAt.agg _ (by kernel_rfl)⟩
theorem sameRow0 (A A' : Option Addr) (n m c d : Nat) (w : World) (h : n = 0 ∨ m = 0) (hn : n ≤ 4398046511104) (hm : m ≤ 4398046511104) :
    Calls Tryz.prog 63 #[.slice A n c, .slice A' m d] w fun e w' => e = .returned (.bool (decide (n = m))) ∧ w = w' := by
  by_cases hnm : n = m
  · obtain rfl := hnm
    obtain rfl : n = 0 := by omega
    go_enter Tryz.func63, Tryz.ntmps63
    go_wp2
    refine wp_loop_rounds 1 ?_
    rw [rounds_succ]
    go_wp2
    go_ret
    exact ⟨rfl, rfl⟩
  · have hnm' : ¬ (n : Int) = (m : Int) := by omega
    go_enter Tryz.func63, Tryz.ntmps63
    go_wp2
    go_ret
    exact ⟨by simp [hnm], rfl⟩
theorem encL_at {w : World} {b off : Nat} {l : List V} (hc : ∀ j (h : j < l.length),
    w.cell? ⟨b, off + j * 3, none⟩ = some (.int .i64 l[j].k) ∧ w.cell? ⟨b, off + j * 3 + 1, none⟩ = some (.int .i64 l[j].n) ∧ w.cell? ⟨b, off + j * 3 + 2, none⟩ = some (.string ⟨l[j].t.toArray⟩)) :
    ∀ j, j < l.length → ∀ i v, (encL l[j]!)[i]? = some v → w.cell? ⟨b, off + j * 3 + i, none⟩ = some v := fun j hj i v hv => by
  rw [getElem!_pos l j hj] at hv
  obtain ⟨h0, h1, h2⟩ := hc j hj
  match i, hv with
  | 0, hv => simp only [encL, List.getElem?_cons_zero, Option.some.injEq] at hv; rw [← hv]; exact h0
  | 1, hv => simp only [encL, List.getElem?_cons_succ, List.getElem?_cons_zero, Option.some.injEq] at hv; rw [← hv]; exact h1
  | 2, hv => simp only [encL, List.getElem?_cons_succ, List.getElem?_cons_zero, Option.some.injEq] at hv; rw [← hv]; exact h2
  | i + 3, hv => simp [encL] at hv
theorem equal_any (A A' : Option Addr) (n m c d : Nat) (l l' : List V) (w : World) (hS : Sl w A n l) (hS' : Sl w A' m l') :
    Calls Tryz.prog 63 #[.slice A n c, .slice A' m d] w fun e w' => e = .returned (.bool (Lib.allEq veq l l')) ∧ ∃ q, w' = w.drewN q := by
  have h1 := hS.len
  have h2 := hS'.len
  have b1 := hS.big
  have b2 := hS'.big
  by_cases h0 : n = 0 ∨ m = 0
  · refine (sameRow0 A A' n m c d w h0 b1 b2).mono fun _ _ ⟨e1, e2⟩ => ⟨?_, 0, e2 ▸ rfl⟩
    rw [e1]
    congr 2
    by_cases hnm : n = m
    · have z1 : l = [] := List.length_eq_zero_iff.1 (by omega)
      have z2 : l' = [] := List.length_eq_zero_iff.1 (by omega)
      rw [z1, z2, decide_eq_true hnm]
      rfl
    · rw [decide_eq_false hnm, Lib.allEq_len veq _ _ (by omega)]
  · obtain ⟨b, off, rfl, hb, hc⟩ := hS.at_ (by omega)
    obtain ⟨b', off', rfl, hb', hc'⟩ := hS'.at_ (by omega)
    have := AnyQ.slices_Equal Tryz.sameV 3 Tryz.isAgg27 Tryz.sizeOf27 encL (fun _ => rfl) veq neqAtV b off n c b' off' m d l l' w (by omega) (by omega) (by omega) (by omega) (encL_at hc) (encL_at hc')
    rw [List.take_of_length_le (by omega), List.take_of_length_le (by omega)] at this
    exact this
theorem below_drewN2 (w : World) (q : Nat) : Below w.heap.size w (w.drewN q) := ⟨rfl, rfl, rfl, Nat.le_refl _, fun _ _ => rfl⟩
theorem sameRow_any (A A' : Option Addr) (n m c d : Nat) (l l' : List V) (w : World) (hS : Sl w A n l) (hS' : Sl w A' m l') :
    Calls Tryz.prog 23 #[.slice A n c, .slice A' m d] w fun e w' => e = .returned (.bool (Lib.allEq veq l l')) ∧ Below w.heap.size w w' := by
  have h := equal_any A A' n m c d l l' w hS hS'
  clear hS hS'
  generalize Lib.allEq veq l l' = r at h ⊢
  go_enter Tryz.func23, Tryz.ntmps23
  go_wp2_with (go_at_call 63; refine h.mono ?_; rintro e w1 ⟨rfl, q, rfl⟩)
  ((try simp only [Exit.inBlock, Exit.then]); refine bodyPost_ret (by simp only [results, Tryz.results23]; go_simp; try rfl) rfl ?_)
  exact ⟨rfl, below_drewN2 w q⟩
set_option maxHeartbeats 1000000 in
theorem rSameRow_any (A A' : Option Addr) (n m c d : Nat) (l l' : List V) (w : World) (hS : Sl w A n l) (hS' : Sl w A' m l') :
    Calls Tryz.prog 24 #[.slice A n c, .slice A' m d] w fun e w' => e = .returned (.bool (Lib.allEq veq l l')) ∧ Below w.heap.size w w' := by
  have hlen := Lib.hid hS.len
  have hlen' := Lib.hid hS'.len
  have hbig := hS.big
  have hbig' := hS'.big
  have HS := Lib.hid hS
  have HS' := Lib.hid hS'
  clear hS hS'
  by_cases hnm : n = m
  · subst hnm
    go_enter Tryz.func24, Tryz.ntmps24
    go_wp2
    go_loopw [13] (fun i wr => ∃ j : Nat, j ≤ n ∧ i = .int .i64 j ∧ Hid (∀ i, i < j → veq l[i]! l'[i]! = true) ∧ Below w.heap.size w wr) (fun i wr => n - (intOf i).toNat)
    case atStart => exact ⟨0, Nat.zero_le _, rfl, (show Hid _ from fun i h => absurd h (Nat.not_lt_zero _)), Below.refl _ _⟩
    case round =>
      obtain ⟨j, hj, rfl, HA, HB⟩ := hrel
      by_cases hlt : j < n
      · have HS2 := HS.out.later HB
        obtain ⟨b, off, rfl, hbl, hc⟩ := HS2.at_ (by omega)
        have HS3 := HS'.out.later HB
        obtain ⟨b', off', rfl, hbl', hc'⟩ := HS3.at_ (by omega)
        have hl : j < l.length := by rw [hlen.out]; exact hlt
        have hl' : j < l'.length := by rw [hlen'.out]; exact hlt
        obtain ⟨c0, c1, c2⟩ := hc j hl
        obtain ⟨d0, d1, d2⟩ := hc' j hl'
        have HX : Hid (l[j]! = l[j]) := Lib.hid (getElem!_pos l j hl)
        have HY : Hid (l'[j]! = l'[j]) := Lib.hid (getElem!_pos l' j hl')
        generalize l[j] = x at c0 c1 c2 HX
        generalize l'[j] = y at d0 d1 d2 HY
        obtain ⟨k, a, t⟩ := x
        obtain ⟨k', a', t'⟩ := y
        clear hc HS2 hc' HS3
        simp only at c0 c1 c2 d0 d1 d2
        have hltz : (j : Int) < (n : Int) := by omega
        generalize hq : veq ⟨k, a, t⟩ ⟨k', a', t'⟩ = q
        have HQ := Lib.hid hq
        have hrun : ∀ W, Sem.run Tryz.prog (binOp .neq 27 (.agg #[.int .i64 (k), .int .i64 (a), .string ⟨List.toArray (t)⟩]) (.agg #[.int .i64 (k'), .int .i64 (a'), .string ⟨List.toArray (t')⟩])) W = .ok (.bool (!q)) W := fun W => by rw [run_neV, hq]
        clear hq
        cases q with
        | true =>
          go_wp2_with fail
          go_quiet (fail)
          go_wp2
          go_roundw
          case rel =>
            refine ⟨j + 1, by omega, by go_num, (show Hid _ from fun i hi => ?_), Below.drewN' HB _⟩
            by_cases e : i = j
            · subst e; rw [HX.out, HY.out]; exact HQ.out
            · exact HA.out i (by omega)
          case measure => simp [intOf]; omega
        | false =>
          go_wp2_with fail
          go_quiet (fail)
          go_wp2
          ((try simp only [Exit.inBlock, Exit.then]); refine bodyPost_ret (by simp only [results, Tryz.results24]; go_simp; try rfl) rfl ?_)
          refine ⟨ret_bool ?_, Below.drewN' HB _⟩
          rw [Lib.allEq_elem veq l l' j hl hl' (by rw [HX.out, HY.out]; exact HQ.out)]
      · obtain rfl : j = n := by omega
        have H2 : Hid (Lib.allEq veq l l' = true) := Lib.hid (Lib.allEq_all veq l l' (by rw [hlen.out, hlen'.out]) (fun i hi => HA.out i (by rw [hlen.out] at hi; exact hi)))
        go_wp2
        ((try simp only [Exit.inBlock, Exit.then]); refine bodyPost_ret (by simp only [results, Tryz.results24]; go_simp; try rfl) rfl ?_)
        exact ⟨ret_bool H2.out.symm, HB⟩
  · have hnm' : ¬ (n : Int) = (m : Int) := by omega
    have H2 : Hid (Lib.allEq veq l l' = false) := Lib.hid (Lib.allEq_len veq l l' (by rw [hlen.out, hlen'.out]; exact hnm))
    go_enter Tryz.func24, Tryz.ntmps24
    go_wp2
    ((try simp only [Exit.inBlock, Exit.then]); refine bodyPost_ret (by simp only [results, Tryz.results24]; go_simp; try rfl) rfl ?_)
    exact ⟨ret_bool H2.out.symm, Below.refl _ _⟩
end Go.Proofs.YtpmfpfkahanlaaaGreatDoor

/- The names of exceptions, walked. -/
namespace Go.Proofs.YtpmfpfkahanlaaaGreatDoor
open Go.RowKit
set_option linter.unusedSimpArgs false
set_option linter.unusedVariables false
attribute [local go_sem] Later.cell Later.lt
attribute [local go_sem high] run_eqV run_neV

set_option maxHeartbeats 1000000 in
theorem exc_any (x : Int) (w : World) :
    Calls Tryz.prog 47 #[.int .i64 x] w fun e w' => e = .returned (.string ⟨(sExc x).toArray⟩) ∧ w = w' := by
  go_enter Tryz.func47, Tryz.ntmps47
  go_wp2
  all_goals (((try simp only [Exit.inBlock, Exit.then]); refine bodyPost_ret (by simp only [results, Tryz.results47]; go_simp; try rfl) rfl ?_); refine ⟨?_, rfl⟩)
  all_goals (go_light; simp_all [sExc])
set_option maxHeartbeats 1000000 in
theorem rExc_any (x : Int) (w : World) :
    Calls Tryz.prog 48 #[.int .i64 x] w fun e w' => e = .returned (.string ⟨(sExc x).toArray⟩) ∧ w = w' := by
  go_enter Tryz.func48, Tryz.ntmps48
  go_wp2
  all_goals (((try simp only [Exit.inBlock, Exit.then]); refine bodyPost_ret (by simp only [results, Tryz.results48]; go_simp; try rfl) rfl ?_); refine ⟨?_, rfl⟩)
  all_goals (go_light; simp_all [sExc])
/-- A slice of strings reads as l. -/
structure Ss (w : World) (A : Option Addr) (n : Nat) (l : List (List UInt8)) : Prop where
  len : l.length = n
  big : n ≤ 4398046511104
  at_ : 0 < n → ∃ b off, A = some ⟨b, off, none⟩ ∧ ∀ j (h : j < l.length), w.cell? ⟨b, off + j, none⟩ = some (.string ⟨l[j].toArray⟩)
set_option maxHeartbeats 1000000 in
theorem has_any (A : Option Addr) (n c : Nat) (l : List (List UInt8)) (s : List UInt8) (w : World) (hS : Ss w A n l) :
    Calls Tryz.prog 99 #[.slice A n c, .string ⟨s.toArray⟩] w fun e w' => e = .returned (.bool (hasL l s)) ∧ w = w' := by
  have hlen := Lib.hid hS.len
  have hbig := hS.big
  have hat := Lib.hid hS.at_
  clear hS
  go_enter Tryz.func99, Tryz.ntmps99
  go_wp2
  go_loop [9] (fun i => ∃ j : Nat, j ≤ n ∧ i = .int .i64 j ∧ Hid ((l.take j).contains s = false)) (fun i => n - (intOf i).toNat)
  case atStart => exact ⟨0, Nat.zero_le _, rfl, (show Hid _ from by simp [Hid])⟩
  case round =>
    obtain ⟨j, hj, rfl, HA⟩ := hrel
    by_cases hlt : j < n
    · obtain ⟨b, off, rfl, hc⟩ := hat.out (by omega)
      have hl : j < l.length := by rw [hlen.out]; exact hlt
      have hcell := hc j hl
      have HT : Hid (l.take (j + 1) = l.take j ++ [l[j]]) := Lib.hid (List.take_succ_eq_append_getElem hl)
      have HM : Hid (l[j] ∈ l) := Lib.hid (List.getElem_mem hl)
      generalize l[j] = x at hcell HT HM
      clear hc
      by_cases hx : x = s
      · subst hx
        go_wp2
        ((try simp only [Exit.inBlock, Exit.then]); refine bodyPost_ret (by simp only [results, Tryz.results99]; go_simp; try rfl) rfl ?_)
        exact ⟨ret_bool (by unfold hasL; simp [HM.out]), rfl⟩
      · have hx2 : (x == s) = false := by simpa using hx
        go_wp2
        exact ⟨⟨j + 1, by omega, by go_num, (show Hid _ from by rw [HT.out]; have := HA.out; simp_all [Hid]; exact fun e => hx e.symm)⟩, by simp [intOf]; omega⟩
    · obtain rfl : j = n := by omega
      have := HA.out
      rw [List.take_of_length_le (by rw [hlen.out]; exact Nat.le_refl _)] at this
      have H2 := Lib.hid this
      clear this
      go_wp2
      ((try simp only [Exit.inBlock, Exit.then]); refine bodyPost_ret (by simp only [results, Tryz.results99]; go_simp; try rfl) rfl ?_)
      exact ⟨ret_bool (by unfold hasL; exact H2.out.symm), rfl⟩
theorem idxL_range (l : List (List UInt8)) (s : List UInt8) (i : Nat) : -1 ≤ idxL l s i ∧ idxL l s i ≤ ((i + l.length : Nat) : Int) := by
  induction l generalizing i with
  | nil => simp only [idxL]; omega
  | cons x r ih =>
    simp only [idxL, List.length_cons]
    split
    · omega
    · have := ih (i + 1); omega
theorem idxS_eq (s : List UInt8) : ∀ (l : List (List UInt8)) (i : Nat), Lib.idxFromS (l.map fun x => (⟨x.toArray⟩ : ByteArray)) ⟨s.toArray⟩ i = idxL l s i
  | [], i => rfl
  | x :: r, i => by
    simp only [List.map_cons, Lib.idxFromS, idxL, idxS_eq s r (i + 1)]
    by_cases h : x = s <;> simp [h]
theorem hasS_eq (s : List UInt8) (l : List (List UInt8)) : Lib.containsS (l.map fun x => (⟨x.toArray⟩ : ByteArray)) ⟨s.toArray⟩ = l.contains s := by
  rw [Bool.eq_iff_iff, Lib.containsS_iff]
  simp
theorem contS_any (l : List (List UInt8)) (s : List UInt8) (b c : Nat) (w : World) (hl : l.length ≤ 1000) (hc : ∀ j (h : j < l.length), w.cell? ⟨b, j, none⟩ = some (.string ⟨l[j].toArray⟩)) :
    Calls Tryz.prog 98 #[.slice (some ⟨b, 0, none⟩) l.length c, .string ⟨s.toArray⟩] w fun e w' => e = .returned (.bool (hasL l s)) ∧ w = w' := by
  have := Tryz.slices_Contains_string b 0 l.length c (l.map fun x => (⟨x.toArray⟩ : ByteArray)) ⟨s.toArray⟩ w (by simp) (by omega) (fun j hj => by
    have hj' : j < l.length := by simpa using hj
    rw [Nat.zero_add, hc j hj']
    simp [List.getD, List.getElem?_map, List.getElem?_eq_getElem hj'])
  rw [List.take_of_length_le (by simp), hasS_eq] at this
  exact this.mono fun _ _ ⟨h1, h2⟩ => ⟨h1, h2.symm⟩
theorem indexS_any (l : List (List UInt8)) (s : List UInt8) (b c : Nat) (w : World) (hl : l.length ≤ 1000) (hc : ∀ j (h : j < l.length), w.cell? ⟨b, j, none⟩ = some (.string ⟨l[j].toArray⟩)) :
    Calls Tryz.prog 108 #[.slice (some ⟨b, 0, none⟩) l.length c, .string ⟨s.toArray⟩] w fun e w' => e = .returned (.int .i64 (idxL l s 0)) ∧ w = w' := by
  have := Tryz.slices_Index_string b 0 l.length c (l.map fun x => (⟨x.toArray⟩ : ByteArray)) ⟨s.toArray⟩ w (by simp) (by omega) (fun j hj => by
    have hj' : j < l.length := by simpa using hj
    rw [Nat.zero_add, hc j hj']
    simp [List.getD, List.getElem?_map, List.getElem?_eq_getElem hj'])
  rw [List.take_of_length_le (by simp), Lib.idxOfS, idxS_eq] at this
  exact this.mono fun _ _ ⟨h1, h2⟩ => ⟨h1, h2.symm⟩
theorem cells_new (w : World) (l : List (List UInt8)) (j : Nat) (h : j < l.length) : (w.alloc (.cells (l.map fun x => Value.string ⟨x.toArray⟩).toArray 9)).cell? ⟨w.heap.size, j, none⟩ = some (.string ⟨l[j].toArray⟩) := by
  rw [World.cell?_alloc_new]
  simp [List.getElem?_eq_getElem h]
theorem ss_new (w : World) (l : List (List UInt8)) (hl : l.length ≤ 1000) : Ss (w.alloc (.cells (l.map fun x => Value.string ⟨x.toArray⟩).toArray 9)) (some ⟨w.heap.size, 0, none⟩) l.length l :=
  ⟨rfl, by omega, fun _ => ⟨_, 0, rfl, fun j h => by rw [Nat.zero_add]; exact cells_new w l j h⟩⟩
theorem isAgg_any (s : List UInt8) (w : World) :
    Calls Tryz.prog 41 #[.string ⟨s.toArray⟩] w fun e w' => e = .returned (.bool (sIsAgg s)) ∧ Below w.heap.size w w' := by
  go_enter Tryz.func41, Tryz.ntmps41
  go_wp2_with fail
  refine (contS_any aggL s _ _ _ (by decide) (fun j hj => cells_new w aggL j hj)).mono ?_; rintro e w' ⟨rfl, rfl⟩
  go_wp2
  ((try simp only [Exit.inBlock, Exit.then]); refine bodyPost_ret (by simp only [results, Tryz.results41]; go_simp; try rfl) rfl ?_)
  refine ⟨rfl, ?_⟩
  (repeat' (first | (with_reducible exact Below.refl _ _) | (with_reducible assumption) | (with_reducible refine Below.alloc ?_ ?_ _) | (with_reducible refine Below.drew ?_) | (with_reducible refine Below.drewN' ?_ _) | (with_reducible refine Below.setCell ?_ ?_ _) | (refine Below.via ?_ (by assumption) ?_) | go_size))
theorem rIsAgg_any (s : List UInt8) (w : World) :
    Calls Tryz.prog 42 #[.string ⟨s.toArray⟩] w fun e w' => e = .returned (.bool (sIsAgg s)) ∧ Below w.heap.size w w' := by
  go_enter Tryz.func42, Tryz.ntmps42
  go_wp2_with fail
  refine (has_any _ _ _ aggL s _ (ss_new w aggL (by decide))).mono ?_; rintro e w' ⟨rfl, rfl⟩
  go_wp2
  ((try simp only [Exit.inBlock, Exit.then]); refine bodyPost_ret (by simp only [results, Tryz.results42]; go_simp; try rfl) rfl ?_)
  refine ⟨rfl, ?_⟩
  (repeat' (first | (with_reducible exact Below.refl _ _) | (with_reducible assumption) | (with_reducible refine Below.alloc ?_ ?_ _) | (with_reducible refine Below.drew ?_) | (with_reducible refine Below.drewN' ?_ _) | (with_reducible refine Below.setCell ?_ ?_ _) | (refine Below.via ?_ (by assumption) ?_) | go_size))
set_option maxRecDepth 100000 in
set_option maxHeartbeats 1000000 in
theorem rExcs_any (w : World) :
    Calls Tryz.prog 110 #[] w fun e w' => e = .returned (.slice (some ⟨w.heap.size, 0, none⟩) 20 20) ∧ w' = w.alloc (.cells (excL.map fun x => Value.string ⟨x.toArray⟩).toArray 9) := by
  go_enter Tryz.func110, Tryz.ntmps110
  go_wp2
  ((try simp only [Exit.inBlock, Exit.then]); refine bodyPost_ret (by simp only [results, Tryz.results110]; go_simp; try rfl) rfl ?_)
  exact ⟨rfl, rfl⟩
def excS : List UInt8 := [110, 111, 95, 100, 97, 116, 97, 95, 102, 111, 117, 110, 100, 32, 116, 111, 111, 95, 109, 97, 110, 121, 95, 114, 111, 119, 115, 32, 122, 101, 114, 111, 95, 100, 105, 118, 105, 100, 101, 32, 118, 97, 108, 117, 101, 95, 101, 114, 114, 111, 114, 32, 100, 117, 112, 95, 118, 97, 108, 95, 111, 110, 95, 105, 110, 100, 101, 120, 32, 99, 104, 101, 99, 107, 95, 118, 105, 111, 108, 97, 116, 101, 100, 32, 110, 117, 108, 108, 95, 118, 105, 111, 108, 97, 116, 101, 100, 32, 112, 97, 114, 101, 110, 116, 95, 109, 105, 115, 115, 105, 110, 103, 32, 99, 104, 105, 108, 100, 95, 102, 111, 117, 110, 100, 32, 109, 117, 116, 97, 116, 105, 110, 103, 32, 100, 101, 97, 100, 108, 111, 99, 107, 32, 99, 97, 110, 110, 111, 116, 95, 115, 101, 114, 105, 97, 108, 105, 122, 101, 32, 105, 110, 118, 97, 108, 105, 100, 95, 99, 117, 114, 115, 111, 114, 32, 115, 110, 97, 112, 115, 104, 111, 116, 95, 116, 111, 111, 95, 111, 108, 100, 32, 110, 111, 95, 114, 105, 103, 104, 116, 115, 32, 110, 111, 116, 95, 118, 97, 108, 105, 100, 32, 116, 111, 111, 95, 100, 101, 101, 112, 32, 116, 111, 111, 95, 108, 111, 110, 103, 32, 105, 110, 95, 100, 111, 117, 98, 116, 32, 110, 111, 95, 114, 111, 111, 109]
set_option maxRecDepth 100000 in
theorem fields_exc : Lib.fields excS = excL := by decide +kernel
set_option maxRecDepth 100000 in
theorem excS_low : excS.all (fun b => decide (b.toNat < 128)) = true := by decide +kernel
theorem fieldsExc_any (w : World) (htab : Lib.TabIs Tryz.prog w "strings.asciiSpace" .u8 Lib.asciiSpaceTab) :
    Calls Tryz.prog 130 #[.string ⟨excS.toArray⟩] w fun e w' => e = .returned (.slice (some ⟨w.heap.size, 0, none⟩) 20 20) ∧ w' = w.alloc (.cells (excL.map fun x => Value.string ⟨x.toArray⟩).toArray 9) := by
  have h := Tryz.strings_Fields ⟨excS.toArray⟩ w (by decide +kernel) (fun j b hb => by
    have hm : b ∈ excS := List.mem_of_getElem? hb
    simpa using List.all_eq_true.1 excS_low b hm) htab
  rw [show Lib.fields (⟨excS.toArray⟩ : ByteArray).data.toList = excL from fields_exc] at h
  exact h
set_option maxRecDepth 100000 in
set_option maxHeartbeats 1000000 in
theorem names_any (w : World) (htab : Lib.TabIs Tryz.prog w "strings.asciiSpace" .u8 Lib.asciiSpaceTab) :
    Calls Tryz.prog 109 #[] w fun e w' => e = .returned (.slice (some ⟨w.heap.size, 0, none⟩) 20 20) ∧ w' = w.alloc (.cells (excL.map fun x => Value.string ⟨x.toArray⟩).toArray 9) := by
  go_enter Tryz.func109, Tryz.ntmps109
  go_wp2_with fail
  refine (fieldsExc_any w htab).mono ?_; rintro e w' ⟨rfl, rfl⟩
  go_wp2
  ((try simp only [Exit.inBlock, Exit.then]); refine bodyPost_ret (by simp only [results, Tryz.results109]; go_simp; try rfl) rfl ?_)
  exact ⟨rfl, rfl⟩
theorem num_any (s : List UInt8) (w : World) (htab : Lib.TabIs Tryz.prog w "strings.asciiSpace" .u8 Lib.asciiSpaceTab) :
    Calls Tryz.prog 49 #[.string ⟨s.toArray⟩] w fun e w' => e = .returned (.int .i64 (sNum s)) ∧ Below w.heap.size w w' := by
  have hr : -1 ≤ idxL excL s 0 ∧ idxL excL s 0 ≤ 20 := idxL_range excL s 0
  go_enter Tryz.func49, Tryz.ntmps49
  go_wp2_with fail
  refine (names_any w htab).mono ?_; rintro e w' ⟨rfl, rfl⟩
  go_wp2_with fail
  refine (indexS_any excL s _ _ _ (by decide) (fun j hj => cells_new w excL j hj)).mono ?_; rintro e w' ⟨rfl, rfl⟩
  go_wp2
  ((try simp only [Exit.inBlock, Exit.then]); refine bodyPost_ret (by simp only [results, Tryz.results49]; go_simp; try rfl) rfl ?_)
  refine ⟨rfl, ?_⟩
  (repeat' (first | (with_reducible exact Below.refl _ _) | (with_reducible assumption) | (with_reducible refine Below.alloc ?_ ?_ _) | (with_reducible refine Below.drew ?_) | (with_reducible refine Below.drewN' ?_ _) | (with_reducible refine Below.setCell ?_ ?_ _) | (refine Below.via ?_ (by assumption) ?_) | go_size))
set_option maxHeartbeats 1000000 in
theorem rNum_any (s : List UInt8) (w : World) :
    Calls Tryz.prog 50 #[.string ⟨s.toArray⟩] w fun e w' => e = .returned (.int .i64 (sNum s)) ∧ Below w.heap.size w w' := by
  go_enter Tryz.func50, Tryz.ntmps50
  go_wp2_with fail
  refine (rExcs_any w).mono ?_; rintro e w' ⟨rfl, rfl⟩
  have hcell := fun j hj => cells_new w excL j hj
  have HC := Lib.hid hcell
  clear hcell
  generalize hW : w.alloc (.cells (excL.map fun x => Value.string ⟨x.toArray⟩).toArray 9) = W
  have HB : Hid (Below w.heap.size w W) := by rw [← hW]; exact (Below.refl _ _).alloc (Nat.le_refl _) _
  rw [hW] at HC
  clear hW
  go_wp2
  go_loop [7] (fun i => ∃ j : Nat, j ≤ 20 ∧ i = .int .i64 j ∧ Hid (idxL excL s 0 = idxL (excL.drop j) s j)) (fun i => 20 - (intOf i).toNat)
  case atStart => exact ⟨0, Nat.zero_le _, rfl, (show Hid _ from by simp [Hid])⟩
  case round =>
    obtain ⟨j, hj, rfl, HA⟩ := hrel
    by_cases hlt : j < 20
    · have hl : j < excL.length := hlt
      have hcell := HC.out j hl
      have HT : Hid (excL.drop j = excL[j] :: excL.drop (j + 1)) := Lib.hid (List.drop_eq_getElem_cons hl)
      generalize excL[j] = x at hcell HT
      by_cases hx : x = s
      · have hx2 : (x == s) = true := by simpa using hx
        go_wp2
        all_goals (((try simp only [Exit.inBlock, Exit.then]); refine bodyPost_ret (by simp only [results, Tryz.results50]; go_simp; try rfl) rfl ?_); refine ⟨ret_int ?_, HB.out⟩)
        all_goals (unfold sNum; rw [HA.out, HT.out]; simp [idxL, hx])
      · have hx2 : (x == s) = false := by simpa using hx
        go_wp2
        exact ⟨⟨j + 1, by omega, by go_num, (show Hid _ from by have := HA.out; rw [HT.out] at this; simp only [idxL, if_neg hx] at this; exact this)⟩, by simp [intOf]; omega⟩
    · obtain rfl : j = 20 := by omega
      have H2 : Hid (sNum s = 0) := Lib.hid (by unfold sNum; rw [HA.out]; rfl)
      go_wp2
      ((try simp only [Exit.inBlock, Exit.then]); refine bodyPost_ret (by simp only [results, Tryz.results50]; go_simp; try rfl) rfl ?_)
      exact ⟨ret_int H2.out.symm, HB.out⟩
end Go.Proofs.YtpmfpfkahanlaaaGreatDoor

/- A row of bools in a block; the closure of like, walked. -/
namespace Go.Proofs.YtpmfpfkahanlaaaGreatDoor
open Go.RowKit
set_option linter.unusedSimpArgs false
set_option linter.unusedVariables false
attribute [local go_sem] Later.cell Later.lt
attribute [local go_sem high] run_eqV run_neV

/-- Block g is just the cells cs of type t. -/
def Blk (w : World) (g : Nat) (t : TypeId) (cs : Array Value) : Prop := w.heap[g]? = some (.cells cs t (0, 0))
def bools (n : Nat) (f : Nat → Bool) : Array Value := ((List.range n).map fun i => Value.bool (f i)).toArray
theorem bools_at (n i : Nat) (f : Nat → Bool) (h : i < n) : (bools n f)[i]? = some (.bool (f i)) := by simp [bools, h]
theorem bools_congr (n : Nat) {f g : Nat → Bool} (h : ∀ i, i < n → f i = g i) : bools n f = bools n g := by
  unfold bools
  congr 1
  exact List.map_congr_left fun i hi => by rw [h i (List.mem_range.1 hi)]
def upd (f : Nat → Bool) (j : Nat) (b : Bool) (i : Nat) : Bool := if i = j then b else f i
theorem bools_set (n j : Nat) (f : Nat → Bool) (b : Bool) : (bools n f).setIfInBounds j (.bool b) = bools n (upd f j b) := by
  unfold bools upd
  apply Array.ext
  · simp
  · intro i h1 h2
    simp only [List.setIfInBounds_toArray, List.getElem_toArray, List.getElem_set, List.getElem_map, List.getElem_range]
    by_cases e : j = i
    · subst e; simp
    · have e2 : ¬ i = j := fun h => e h.symm
      simp [e, e2]
theorem blk_lt {w : World} {g t} {cs : Array Value} (h : Blk w g t cs) : g < w.heap.size := by
  rcases Nat.lt_or_ge g w.heap.size with hlt | hge
  · exact hlt
  · unfold Blk at h; rw [Array.getElem?_eq_none hge] at h; cases h
theorem blk_cell {w : World} {g t} {cs : Array Value} (h : Blk w g t cs) (i : Nat) : w.cell? ⟨g, i, none⟩ = cs[i]? := by unfold Blk at h; simp [World.cell?, h]
theorem blk_frozen {w : World} {g t} {cs : Array Value} (h : Blk w g t cs) (i : Nat) : w.frozen? ⟨g, i, none⟩ = false := by unfold Blk at h; simp [World.frozen?, h]
theorem blk_new (w : World) (t : TypeId) (cs : Array Value) : Blk (w.alloc (.cells cs t)) w.heap.size t cs := (MapKept.heap_alloc w _).1
theorem blk_alloc {w : World} {g t} {cs : Array Value} (h : Blk w g t cs) (o : Obj) : Blk (w.alloc o) g t cs := ((MapKept.heap_alloc w o).2 g (blk_lt h)).trans h
theorem blk_set {w : World} {g t} {cs : Array Value} (h : Blk w g t cs) (i : Nat) (u : Value) : Blk (w.setCell ⟨g, i, none⟩ u) g t (cs.setIfInBounds i u) := by
  unfold Blk at h ⊢
  simp [World.setCell, Array.getElem?_modify, h]
theorem blk_far {w : World} {g t} {cs : Array Value} (h : Blk w g t cs) {p : Addr} (hp : g ≠ p.block) (u : Value) : Blk (w.setCell p u) g t cs := (Below.heap_setCell w p u g hp).trans h
theorem blk_grown {w w' : World} {g t} {cs : Array Value} {row : Option Nat} (h : Blk w g t cs) (hb : w.grownBy w' row) (hg : some g ≠ row) : Blk w' g t cs := (hb.block g (blk_lt h) hg).trans h
theorem blk_ne {w : World} {g g' : Nat} {t t' : TypeId} {cs cs' : Array Value} (h : Blk w g t cs) (h' : Blk w g' t' cs') (hne : t ≠ t') : g ≠ g' := by
  rintro rfl
  unfold Blk at h h'
  rw [h] at h'
  injection h' with h'
  injection h' with _ ht
  exact hne ht
theorem iter_far {w : World} {k : Nat} {s : ByteArray} {pos : Nat} (h : w.heap[k]? = some (.stringIter s pos)) {p : Addr} (hp : k ≠ p.block) (u : Value) : (w.setCell p u).heap[k]? = some (.stringIter s pos) := (Below.heap_setCell w p u k hp).trans h
theorem blk_iterAt {w : World} {g t k} {cs : Array Value} (h : Blk w g t cs) (hk : g ≠ k) (s : ByteArray) (pos : Nat) : Blk (w.iterAt k s pos) g t cs := (Lib.iterAt_other _ _ _ _ _ hk).trans h
theorem grown_set {a w : World} {g : Nat} (h : a.grownBy w (some g)) (i : Nat) (u : Value) : a.grownBy (w.setCell ⟨g, i, none⟩ u) (some g) :=
  ⟨h.os, h.tape, h.output, by simpa [World.setCell] using h.size, fun i hi hne => (Below.heap_setCell w _ u i (fun e => hne (by rw [e]))).trans (h.block i hi hne)⟩
theorem grown_iterAt {a w : World} {row : Option Nat} (h : a.grownBy w row) {k : Nat} (hk : a.heap.size ≤ k) (s : ByteArray) (pos : Nat) : a.grownBy (w.iterAt k s pos) row :=
  ⟨h.os, h.tape, h.output, by rw [Lib.iterAt_size]; exact h.size, fun i hi hne => (Lib.iterAt_other _ _ _ _ _ (by omega)).trans (h.block i hi hne)⟩
theorem grown_iter (w : World) (s : ByteArray) (row : Option Nat) : w.grownBy (w.iter s 0) row :=
  ⟨rfl, rfl, rfl, by simp [World.iter], fun i hi _ => (MapKept.heap_alloc w _).2 i hi⟩
theorem iterPos_at {w : World} {k : Nat} {s : ByteArray} {pos : Nat} (h : w.heap[k]? = some (.stringIter s pos)) : w.iterPos k = pos := by simp [World.iterPos, h]

theorem skip_set {w : World} {g n pos : Nat} {p : List UInt8} {f : Nat → Bool} (h1 : sk p f pos = true) (h2 : pc p pos = true) (h : Blk w g 4 (bools (n + 1) fun i => if i ≤ pos then sk p f i else f i)) :
    Blk (w.setCell ⟨g, pos + 1, none⟩ (.bool true)) g 4 (bools (n + 1) fun i => if i ≤ pos + 1 then sk p f i else f i) := by
  have := blk_set h (pos + 1) (.bool true)
  rw [bools_set] at this
  rwa [bools_congr (n + 1) (g := fun i => if i ≤ pos + 1 then sk p f i else f i) (fun i _ => ?_)] at this
  unfold upd
  by_cases e : i = pos + 1
  · subst e
    rw [if_pos rfl, if_pos (Nat.le_refl _)]
    simp [sk, h1, h2]
  · rw [if_neg e]
    dsimp only
    by_cases e2 : i ≤ pos
    · rw [if_pos e2, if_pos (by omega)]
    · rw [if_neg e2, if_neg (by omega)]
theorem skip_keep {w : World} {g n pos : Nat} {p : List UInt8} {f : Nat → Bool} (h1 : (sk p f pos && pc p pos) = false) (h : Blk w g 4 (bools (n + 1) fun i => if i ≤ pos then sk p f i else f i)) :
    Blk w g 4 (bools (n + 1) fun i => if i ≤ pos + 1 then sk p f i else f i) := by
  rwa [bools_congr (n + 1) (g := fun i => if i ≤ pos + 1 then sk p f i else f i) (fun i _ => ?_)] at h
  by_cases e : i = pos + 1
  · subst e
    rw [if_neg (by omega), if_pos (Nat.le_refl _)]
    show _ = (f (pos + 1) || (sk p f pos && pc p pos))
    rw [h1, Bool.or_false]
  · by_cases e2 : i ≤ pos
    · rw [if_pos e2, if_pos (by omega)]
    · rw [if_neg e2, if_neg (by omega)]

set_option maxHeartbeats 1000000 in
theorem skip_any (b3 b5 g n : Nat) (p : List UInt8) (f : Nat → Bool) (w : World) (hn : n = p.length) (hbig : n ≤ 4398046511104) (hlow : ∀ c ∈ p, c.toNat < 128)
    (h3 : Blk w b3 9 #[.string ⟨p.toArray⟩]) (h5 : Blk w b5 108 #[.slice (some ⟨g, 0, none⟩) (n + 1) (n + 1)]) (hg : Blk w g 4 (bools (n + 1) f)) :
    Calls Tryz.prog 115 #[.pointer (some ⟨b3, 0, none⟩), .pointer (some ⟨b5, 0, none⟩)] w fun e w' => e = .returned (.tuple #[]) ∧ Blk w' g 4 (bools (n + 1) (sk p f)) ∧ w.grownBy w' (some g) := by
  have c3 : w.cell? ⟨b3, 0, none⟩ = some (.string ⟨p.toArray⟩) := blk_cell h3 0
  have HN := Lib.hid hn
  have HL := Lib.hid hlow
  have H3 := Lib.hid h3
  have H5 := Lib.hid h5
  have HG := Lib.hid hg
  clear hn hlow h3 h5 hg
  go_enter Tryz.func115, Tryz.ntmps115
  go_wp2
  go_loopw [2] (fun _ wr => ∃ pos : Nat, pos ≤ n ∧ Hid (wr.heap[w.heap.size]? = some (.stringIter ⟨p.toArray⟩ pos)) ∧ Hid (Blk wr g 4 (bools (n + 1) fun i => if i ≤ pos then sk p f i else f i)) ∧ Hid (w.grownBy wr (some g))) (fun _ wr => n - wr.iterPos w.heap.size)
  case atStart =>
    refine ⟨0, Nat.zero_le _, World.iter_heap w _ 0, ?_, grown_iter w _ _⟩
    show Blk _ _ _ _
    rw [show (bools (n + 1) fun i => if i ≤ 0 then sk p f i else f i) = bools (n + 1) f from bools_congr _ fun i _ => by
      by_cases e : i = 0
      · subst e; rfl
      · rw [if_neg (by omega)]]
    exact blk_alloc HG.out _
  case round =>
    obtain ⟨pos, hpos, HI, HB, HW⟩ := hrel
    by_cases hlt : pos < n
    · have hl : pos < p.length := by rw [← HN.out]; exact hlt
      have hnx : ∀ ty, (Instr.next (.pointer (some ⟨w.heap.size, 0, none⟩)) true ty).run Tryz.prog wr = _ := fun ty => Lib.run_next_ascii_at wr w.heap.size ⟨p.toArray⟩ pos ty HI.out hl (HL.out _ (List.getElem_mem hl))
      have K3 := blk_iterAt (blk_grown H3.out HW.out (by have := blk_ne H3.out HG.out (by decide); intro e; exact this (Option.some.inj e))) (Nat.ne_of_lt (blk_lt H3.out)) (k := w.heap.size) ⟨p.toArray⟩ (pos + 1)
      have K5 := blk_iterAt (blk_grown H5.out HW.out (by have := blk_ne H5.out HG.out (by decide); intro e; exact this (Option.some.inj e))) (Nat.ne_of_lt (blk_lt H5.out)) (k := w.heap.size) ⟨p.toArray⟩ (pos + 1)
      have KG := blk_iterAt HB.out (Nat.ne_of_lt (blk_lt HG.out)) (k := w.heap.size) ⟨p.toArray⟩ (pos + 1)
      have KW := grown_iterAt HW.out (Nat.le_refl w.heap.size) ⟨p.toArray⟩ (pos + 1)
      have KI := Lib.iterAt_heap wr w.heap.size ⟨p.toArray⟩ pos (pos + 1) HI.out
      have hpos0 := iterPos_at HI.out
      generalize hW1 : wr.iterAt w.heap.size ⟨p.toArray⟩ (pos + 1) = W1 at hnx K3 K5 KG KW KI
      clear hW1
      have d3 := blk_cell K3 0
      have d5 := blk_cell K5 0
      have dg := blk_cell KG pos
      have dg1 := blk_cell KG (pos + 1)
      have fg1 := blk_frozen KG (pos + 1)
      rw [bools_at _ _ _ (by omega)] at dg dg1
      rw [if_pos (Nat.le_refl _)] at dg
      rw [if_neg (by omega)] at dg1
      have he : ({ data := p.toArray } : ByteArray)[pos]'(show pos < p.length from hl) = p[pos] := rfl
      have HP : Hid (pc p pos = (p[pos] == 37)) := Lib.hid (pc_of p pos hl)
      simp only [List.size_toArray, List.getElem?_toArray, List.getElem?_cons_zero] at d3 d5
      generalize p[pos] = ch at he HP hnx
      have KK := Lib.hid (And.intro KG (And.intro KW KI))
      clear K3 K5 KG KW KI c3
      generalize hq : sk p f pos = q at dg
      have HQ := Lib.hid hq
      clear hq
      generalize f (pos + 1) = q1 at dg1
      go_wp2
      · rename_i h1 h2
        have e0 : (ch.toNat : Int) = 37 := by simpa using h2
        have e1 : (ch == 37) = true := beq_iff_eq.2 (UInt8.toNat_inj.1 (show ch.toNat = 37 by omega))
        have hne : w.heap.size ≠ g := by have := blk_lt HG.out; omega
        refine ⟨⟨pos + 1, by omega, iter_far KK.out.2.2 hne _, skip_set (by rw [HQ.out]; exact h1) (by rw [HP.out]; exact e1) KK.out.1, grown_set KK.out.2.1 _ _⟩, ?_⟩
        rw [iterPos_at (iter_far KK.out.2.2 hne _), hpos0]; omega
      · rename_i h1 h2
        have e1 : (ch == 37) = false := beq_eq_false_iff_ne.2 (fun e => by subst e; simp at h2)
        refine ⟨⟨pos + 1, by omega, KK.out.2.2, skip_keep (by rw [HP.out, e1, Bool.and_false]) KK.out.1, KK.out.2.1⟩, ?_⟩
        rw [iterPos_at KK.out.2.2, hpos0]; omega
      · rename_i h1
        refine ⟨⟨pos + 1, by omega, KK.out.2.2, skip_keep (by rw [HQ.out, (show q = false by simpa using h1), Bool.false_and]) KK.out.1, KK.out.2.1⟩, ?_⟩
        rw [iterPos_at KK.out.2.2, hpos0]; omega
    · obtain rfl : pos = n := by omega
      have hnx : ∀ ty, (Instr.next (.pointer (some ⟨w.heap.size, 0, none⟩)) true ty).run Tryz.prog wr = _ := fun ty => Lib.run_next_end_at wr w.heap.size ⟨p.toArray⟩ pos ty HI.out (show ¬ pos < p.length by rw [← HN.out]; omega)
      go_wp2
      go_end0
      refine ⟨rfl, ?_, HW.out⟩
      have := HB.out
      rwa [bools_congr (pos + 1) (f := fun i => if i ≤ pos then sk p f i else f i) (g := sk p f) (fun i hi => by rw [if_pos (by omega)])] at this
end Go.Proofs.YtpmfpfkahanlaaaGreatDoor

/- value.like, walked. -/
namespace Go.Proofs.YtpmfpfkahanlaaaGreatDoor
open Go.RowKit
set_option linter.unusedSimpArgs false
set_option linter.unusedVariables false
attribute [local go_sem] Later.cell Later.lt
attribute [local go_sem high] run_eqV run_neV

theorem bool_info : (Tryz.prog.info? 4).map (fun i => (i.zero, i.size, i.bytes)) = some (some (.bool false), 1, 1) := by kernel_rfl
theorem made_bools (n : Nat) : madeCells (Value.bool false).cells (n * 1) = bools n fun _ => false := by
  apply Array.ext
  · simp [madeCells, bools]
  · intro i h1 h2
    simp [madeCells, bools, Value.cells, Nat.mod_one]
theorem run_mkBools (n : Nat) (hn : n ≤ 4398046511104) (m : Int) (hm : m = (n : Int) + 1) (W : World) :
    (Instr.makeSlice 108 (.int .i64 m) (.int .i64 m)).run Tryz.prog W = .ok (.slice (some ⟨W.heap.size, 0, none⟩) (n + 1) (n + 1)) (W.alloc (.cells (bools (n + 1) fun _ => false) 4)) := by
  subst hm
  obtain ⟨i, hi, hz, hs, hb⟩ := info_parts bool_info
  have h := run_make (P := Tryz.prog) W 108 4 i (.bool false) Tryz.underlying108 hi hz .i64 .i64 ((n : Int) + 1) ((n : Int) + 1) (by omega) (by omega) (by rw [hb]; omega) (by omega)
  rw [hs, show ((n : Int) + 1).toNat = n + 1 by omega, made_bools] at h
  exact h
theorem run_toBytes (s : List UInt8) (W : World) : ∃ (c : Nat) (cs : Array Value) (fz : Nat × Nat), (convert 9 100 (.string ⟨s.toArray⟩)).run Tryz.prog W = .ok (.slice (some ⟨W.heap.size, 0, none⟩) s.length c) (W.drew.alloc (.cells cs 5 fz)) ∧
    (∀ j (h : j < s.length), cs[j]? = some (.int .u8 (s[j].toNat : Int))) := by
  have h := run_bytes_of_string (P := Tryz.prog) W 9 100 5 ⟨s.toArray⟩ Tryz.underlying9 Tryz.underlying100 Tryz.underlying5
  exact ⟨_, _, _, h, fun j hj => bytesRow_at ⟨s.toArray⟩ _ j hj⟩
/-- Block b holds the bytes s. -/
def ByB (w : World) (b : Nat) (s : List UInt8) : Prop := ∃ cs fz, w.heap[b]? = some (.cells cs 5 fz) ∧ ∀ j (h : j < s.length), cs[j]? = some (.int .u8 (s[j].toNat : Int))
theorem byB_cell {w : World} {b : Nat} {s : List UInt8} (h : ByB w b s) (j : Nat) (hj : j < s.length) : w.cell? ⟨b, j, none⟩ = some (.int .u8 (s[j].toNat : Int)) := by
  obtain ⟨cs, fz, h1, h2⟩ := h
  simp [World.cell?, h1, h2 j hj]
theorem byB_of {w w' : World} {b : Nat} {s : List UInt8} (h : ByB w b s) (e : w'.heap[b]? = w.heap[b]?) : ByB w' b s := by
  obtain ⟨cs, fz, h1, h2⟩ := h
  exact ⟨cs, fz, e.trans h1, h2⟩
theorem byB_lt {w : World} {b : Nat} {s : List UInt8} (h : ByB w b s) : b < w.heap.size := by
  obtain ⟨cs, fz, h1, h2⟩ := h
  exact (Array.getElem?_eq_some_iff.1 h1).1
theorem byB_ne {w : World} {b g : Nat} {s : List UInt8} {t : TypeId} {cs : Array Value} (h : ByB w b s) (h' : Blk w g t cs) (hne : t ≠ 5) : b ≠ g := by
  rintro rfl
  obtain ⟨cs', fz, h1, h2⟩ := h
  unfold Blk at h'
  rw [h1] at h'
  injection h' with h'
  injection h' with _ ht
  exact hne ht.symm
/-- What stands through like's loops. -/
structure LS (w0 w : World) (N Bb g n : Nat) (p s : List UInt8) (f : Nat → Bool) : Prop where
  bp : Blk w N 9 #[.string ⟨p.toArray⟩]
  bat : Blk w (N + 2) 108 #[.slice (some ⟨g, 0, none⟩) (n + 1) (n + 1)]
  bg : Blk w g 4 (bools (n + 1) f)
  bb : ByB w Bb s
  below : Below N w0 w
  hgN : N ≤ g
theorem LS.of {w0 w w' : World} {N Bb g n : Nat} {p s : List UInt8} {f : Nat → Bool} (h : LS w0 w N Bb g n p s f) (hb : Below N w0 w') (e : ∀ k, k = N ∨ k = N + 2 ∨ k = g ∨ k = Bb → w'.heap[k]? = w.heap[k]?) : LS w0 w' N Bb g n p s f :=
  ⟨(e N (by simp)).trans h.bp, (e (N + 2) (by simp)).trans h.bat, (e g (by simp)).trans h.bg, byB_of h.bb (e Bb (by simp)), hb, h.hgN⟩
theorem LS.lt {w0 w : World} {N Bb g n : Nat} {p s : List UInt8} {f : Nat → Bool} (h : LS w0 w N Bb g n p s f) : ∀ k, k = N ∨ k = N + 2 ∨ k = g ∨ k = Bb → k < w.heap.size := by
  rintro k (rfl | rfl | rfl | rfl)
  · exact blk_lt h.bp
  · exact blk_lt h.bat
  · exact blk_lt h.bg
  · exact byB_lt h.bb
theorem LS.alloc {w0 w : World} {N Bb g n : Nat} {p s : List UInt8} {f : Nat → Bool} (h : LS w0 w N Bb g n p s f) (o : Obj) : LS w0 (w.alloc o) N Bb g n p s f :=
  h.of (h.below.alloc (Nat.le_of_lt (blk_lt h.bp)) o) fun k hk => (MapKept.heap_alloc w o).2 k (h.lt k hk)
theorem LS.iterAt {w0 w : World} {N Bb g n : Nat} {p s : List UInt8} {f : Nat → Bool} (h : LS w0 w N Bb g n p s f) {k pos : Nat} {q : ByteArray} (hk : w.heap[k]? = some (.stringIter q pos)) (hN : N ≤ k) (pos' : Nat) : LS w0 (w.iterAt k q pos') N Bb g n p s f :=
  h.of (Lib.below_iterAt h.below hN q pos') fun j hj => Lib.iterAt_other _ _ _ _ _ (by
    rintro rfl
    rcases hj with e | e | e | e
    · subst e; have := h.bp; unfold Blk at this; rw [hk] at this; cases this
    · subst e; have := h.bat; unfold Blk at this; rw [hk] at this; cases this
    · subst e; have := h.bg; unfold Blk at this; rw [hk] at this; cases this
    · subst e; obtain ⟨cs, fz, h1, _⟩ := h.bb; rw [hk] at h1; cases h1)
theorem LS.set {w0 w : World} {N Bb g n : Nat} {p s : List UInt8} {f : Nat → Bool} (h : LS w0 w N Bb g n p s f) {g' : Nat} {cs : Array Value} (hg' : Blk w g' 4 cs) (hne : g < g') (i : Nat) (u : Value) : LS w0 (w.setCell ⟨g', i, none⟩ u) N Bb g n p s f :=
  h.of (h.below.setCell (by show N ≤ g'; have := h.hgN; omega) u) fun j hj => Below.heap_setCell w _ u j (by
    show j ≠ g'
    rintro rfl
    rcases hj with e | e | e | e
    · subst e; exact blk_ne h.bp hg' (by decide) rfl
    · subst e; exact blk_ne h.bat hg' (by decide) rfl
    · omega
    · subst e; exact byB_ne h.bb hg' (by decide) rfl)

theorem nx_step (c : UInt8) (p : List UInt8) (a : Nat → Bool) (i m : Nat) : nx c p a (i + 1) m = (nx c p a i m || (decide (m = i) && a i && pc p i) || (decide (m = i + 1) && a i && !pc p i && (p[i]? == some 95 || p[i]? == some c))) := by
  have hd : ∀ k, decide (k < i + 1) = (decide (k < i) || decide (k = i)) := fun k => by
    by_cases h1 : k < i
    · simp [h1]; omega
    · by_cases h2 : k = i <;> simp [h1, h2]; omega
  unfold nx
  cases m with
  | zero =>
    rw [hd]
    by_cases h0 : 0 = i
    · subst h0; simp
    · have : ¬ (0 = i + 1) := by omega
      simp [h0, this]
  | succ m =>
    rw [hd]
    dsimp only
    rw [hd]
    by_cases h0 : m + 1 = i
    · subst h0
      have : ¬ (m = m + 1) := by omega
      simp [this]
      cases a (m + 1) <;> cases a m <;> cases pc p (m + 1) <;> cases pc p m <;> simp
    · by_cases h1 : m = i
      · subst h1
        simp
      · simp [h0, h1]
theorem nx_zero (c : UInt8) (p : List UInt8) (a : Nat → Bool) : nx c p a 0 = fun _ => false := by
  funext m
  unfold nx
  cases m <;> simp
theorem nx_keep {c : UInt8} {p : List UInt8} {a : Nat → Bool} {i : Nat} (h : a i = false ∨ (pc p i = false ∧ (p[i]? == some 95 || p[i]? == some c) = false)) : nx c p a (i + 1) = nx c p a i := by
  funext m
  rw [nx_step]
  rcases h with h | ⟨h1, h2⟩
  · simp [h]
  · rw [h1, h2]; simp
theorem nx_here {c : UInt8} {p : List UInt8} {a : Nat → Bool} {i : Nat} (h : a i = true) (h1 : pc p i = true) : nx c p a (i + 1) = upd (nx c p a i) i true := by
  funext m
  rw [nx_step]
  unfold upd
  by_cases e : m = i <;> simp [e, h, h1]
theorem nx_next {c : UInt8} {p : List UInt8} {a : Nat → Bool} {i : Nat} (h : a i = true) (h1 : pc p i = false) (h2 : (p[i]? == some 95 || p[i]? == some c) = true) : nx c p a (i + 1) = upd (nx c p a i) (i + 1) true := by
  funext m
  rw [nx_step, h2]
  unfold upd
  by_cases e : m = i + 1
  · simp [e, h, h1]
  · simp [e, h1]
theorem LS.turn {w0 w : World} {N Bb g n g' : Nat} {p s : List UInt8} {f f' : Nat → Bool} (h : LS w0 w N Bb g n p s f) (hg : Blk w g' 4 (bools (n + 1) f')) (hN : N ≤ g') :
    LS w0 (w.setCell ⟨N + 2, 0, none⟩ (.slice (some ⟨g', 0, none⟩) (n + 1) (n + 1))) N Bb g' n p s f' :=
  ⟨blk_far h.bp (show N ≠ N + 2 by omega) _, by have := blk_set h.bat 0 (.slice (some ⟨g', 0, none⟩) (n + 1) (n + 1)); simpa using this, blk_far hg (blk_ne hg h.bat (by decide)) _,
    byB_of h.bb (Below.heap_setCell w _ _ Bb (byB_ne h.bb h.bat (by decide))), h.below.setCell (show N ≤ N + 2 by omega) _, hN⟩
theorem LS.grown {w0 w w' : World} {N Bb g n : Nat} {p s : List UInt8} {f f' : Nat → Bool} (h : LS w0 w N Bb g n p s f) (hb : w.grownBy w' (some g)) (hg : Blk w' g 4 (bools (n + 1) f')) : LS w0 w' N Bb g n p s f' :=
  ⟨blk_grown h.bp hb (by have := blk_ne h.bp h.bg (by decide); intro e; exact this (Option.some.inj e)), blk_grown h.bat hb (by have := blk_ne h.bat h.bg (by decide); intro e; exact this (Option.some.inj e)), hg,
    byB_of h.bb (hb.block Bb (byB_lt h.bb) (by have := byB_ne h.bb h.bg (by decide); intro e; exact this (Option.some.inj e))), h.below.grown hb (Nat.le_of_lt (h.lt N (by simp))) (by rintro k hk; cases hk; exact h.hgN), h.hgN⟩

theorem set0 (n : Nat) : (bools (n + 1) fun _ => false).setIfInBounds 0 (.bool true) = bools (n + 1) fun i => i == 0 := by
  rw [bools_set]
  exact bools_congr _ fun i _ => by unfold upd; by_cases e : i = 0 <;> simp [e]

set_option maxHeartbeats 2000000 in
set_option maxRecDepth 100000 in
theorem like_any (s p : List UInt8) (w : World) (hn : p.length ≤ 4398046511104) (hs : s.length ≤ 4398046511104) (hlow : ∀ c ∈ p, c.toNat < 128) :
    Calls Tryz.prog 72 #[.string ⟨s.toArray⟩, .string ⟨p.toArray⟩] w fun e w' => e = .returned (.bool (sLike s p)) ∧ Below w.heap.size w w' := by
  have hmk := run_mkBools p.length hn _ rfl
  have HL := Lib.hid hlow
  have hb0 := bools_at (p.length + 1) 0 (fun _ => false) (by omega)
  clear hlow
  go_enter Tryz.func72, Tryz.ntmps72
  go_wp2_with fail
  rw [set0]
  generalize hW : ((w.alloc (.cells #[.string ⟨p.toArray⟩] 9)).alloc (.cells (bools (p.length + 1) fun i => i == 0) 4)).alloc (.cells #[.slice (some ⟨w.heap.size + 1, 0, none⟩) (p.length + 1) (p.length + 1)] 108) = W
  have k1 : Blk W w.heap.size 9 #[.string ⟨p.toArray⟩] := by rw [← hW]; exact blk_alloc (blk_alloc (blk_new w 9 _) _) _
  have k2 : Blk W (w.heap.size + 1) 4 (bools (p.length + 1) fun i => i == 0) := by rw [← hW]; have := blk_new (w.alloc (.cells #[.string ⟨p.toArray⟩] 9)) 4 (bools (p.length + 1) fun i => i == 0); simp only [World.size_alloc] at this; exact blk_alloc this _
  have k3 : Blk W (w.heap.size + 2) 108 #[.slice (some ⟨w.heap.size + 1, 0, none⟩) (p.length + 1) (p.length + 1)] := by rw [← hW]; have := blk_new ((w.alloc (.cells #[.string ⟨p.toArray⟩] 9)).alloc (.cells (bools (p.length + 1) fun i => i == 0) 4)) 108 #[.slice (some ⟨w.heap.size + 1, 0, none⟩) (p.length + 1) (p.length + 1)]; simp only [World.size_alloc] at this; exact this
  have kb : Below w.heap.size w W := by rw [← hW]; exact (((Below.refl _ _).alloc (Nat.le_refl _) _).alloc (by simp) _).alloc (by simp; omega) _
  clear hW
  refine (skip_any w.heap.size (w.heap.size + 2) (w.heap.size + 1) p.length p _ W rfl hn HL.out k1 k3 k2).mono ?_
  rintro e w1 ⟨rfl, hg1, hw1⟩
  rw [bools_congr (p.length + 1) (g := rowA [] p) (fun i hi => rowA_start p i (by omega))] at hg1
  have m1 := blk_grown k1 hw1 (by simp)
  have m3 := blk_grown k3 hw1 (by simp)
  have mb : Below w.heap.size w w1 := kb.grown hw1 kb.size (by rintro k hk; cases hk; omega)
  clear k1 k2 k3 kb hw1
  obtain ⟨cp, cs, fz, hcv, hby⟩ := run_toBytes s w1
  have bb : ByB (w1.drew.alloc (.cells cs 5 fz)) w1.heap.size s := ⟨cs, fz, (MapKept.heap_alloc _ _).1, hby⟩
  have LS0 : LS w (w1.drew.alloc (.cells cs 5 fz)) w.heap.size w1.heap.size (w.heap.size + 1) p.length p s (rowA [] p) :=
    ⟨blk_alloc (w := w1.drew) m1 _, blk_alloc (w := w1.drew) m3 _, blk_alloc (w := w1.drew) hg1 _, bb, (mb.drew).alloc mb.size _, by omega⟩
  generalize hW2 : w1.drew.alloc (.cells cs 5 fz) = W2 at LS0 hcv
  clear hW2 hby bb m1 m3 mb hg1
  have LSH := Lib.hid LS0
  clear LS0
  clear hb0
  go_wp2_with fail
  go_loopw [23] (fun i wr => ∃ j g : Nat, j ≤ s.length ∧ i = .int .i64 j ∧ Hid (LS w wr w.heap.size w1.heap.size g p.length p s (rowA (s.take j).reverse p))) (fun i wr => s.length - (intOf i).toNat)
  case atStart => exact ⟨0, w.heap.size + 1, Nat.zero_le _, rfl, LSH⟩
  case round =>
    obtain ⟨wo, rfl⟩ : ∃ wo, wo = wr := ⟨wr, rfl⟩
    obtain ⟨j, g, hj, rfl, HS⟩ := hrel
    by_cases hlt : j < s.length
    · have c0 := blk_cell HS.out.bp 0
      have c1 := blk_cell HS.out.bat 0
      have c2 := byB_cell HS.out.bb j hlt
      have HT : Hid ((s.take (j + 1)).reverse = s[j] :: (s.take j).reverse) := Lib.hid (rev_take_succ s j hlt)
      simp only [List.getElem?_toArray, List.getElem?_cons_zero] at c0 c1
      generalize s[j] = ch at c2 HT
      have z0 : w.heap.size < wo.heap.size := HS.out.lt _ (by simp)
      have z2 : w.heap.size + 1 + 1 < wo.heap.size := HS.out.lt (w.heap.size + 2) (by simp)
      have z3 : g < wo.heap.size := HS.out.lt g (by simp)
      have c1' : wo.cell? ⟨w.heap.size + 1 + 1, 0, none⟩ = _ := c1
      generalize hu : (s.take j).reverse = u at HS HT
      have HSn := HS.out
      clear hu
      go_wp2_with fail
      have NG : Blk ((wo.alloc (.cells (bools (p.length + 1) fun x => false) 4)).iter ⟨p.toArray⟩ 0) wo.heap.size 4 (bools (p.length + 1) (nx ch p (rowA u p) 0)) := by
        rw [nx_zero]; exact blk_alloc (blk_new wo 4 _) _
      have LS1 : LS w ((wo.alloc (.cells (bools (p.length + 1) fun x => false) 4)).iter ⟨p.toArray⟩ 0) w.heap.size w1.heap.size g p.length p s (rowA u p) := (HSn.alloc _).alloc _
      have IT : ((wo.alloc (.cells (bools (p.length + 1) fun x => false) 4)).iter ⟨p.toArray⟩ 0).heap[wo.heap.size + 1]? = some (.stringIter ⟨p.toArray⟩ 0) := by
        have := World.iter_heap (wo.alloc (.cells (bools (p.length + 1) fun x => false) 4)) ⟨p.toArray⟩ 0
        simpa using this
      have KK0 := Lib.hid (And.intro NG (And.intro LS1 IT))
      clear NG LS1 IT HSn
      go_loopw [10] (fun _ wr => ∃ pos : Nat, pos ≤ p.length ∧ Hid (wr.heap[wo.heap.size + 1]? = some (.stringIter ⟨p.toArray⟩ pos)) ∧ Hid (Blk wr wo.heap.size 4 (bools (p.length + 1) (nx ch p (rowA u p) pos))) ∧ Hid (LS w wr w.heap.size w1.heap.size g p.length p s (rowA u p))) (fun _ wr => p.length - wr.iterPos (wo.heap.size + 1))
      case atStart => exact ⟨0, Nat.zero_le _, KK0.out.2.2, KK0.out.1, KK0.out.2.1⟩
      case round =>
        obtain ⟨pos, hpos, HI, HB, HL1⟩ := hrel
        by_cases hl : pos < p.length
        · have hnx : ∀ ty, (Instr.next (.pointer (some ⟨wo.heap.size + 1, 0, none⟩)) true ty).run Tryz.prog wr = _ := fun ty => Lib.run_next_ascii_at wr (wo.heap.size + 1) ⟨p.toArray⟩ pos ty HI.out hl (HL.out _ (List.getElem_mem hl))
          have KL := HL1.out.iterAt HI.out (by omega) (pos + 1)
          have KG := blk_iterAt HB.out (show wo.heap.size ≠ wo.heap.size + 1 by omega) ⟨p.toArray⟩ (pos + 1)
          have KI := Lib.iterAt_heap wr (wo.heap.size + 1) ⟨p.toArray⟩ pos (pos + 1) HI.out
          have hpos0 := iterPos_at HI.out
          generalize hW1 : wr.iterAt (wo.heap.size + 1) ⟨p.toArray⟩ (pos + 1) = WQ at hnx KL KG KI
          clear hW1
          have d0 := blk_cell KL.bp 0
          have d1 : WQ.cell? ⟨w.heap.size + 1 + 1, 0, none⟩ = _ := blk_cell KL.bat 0
          have dg := blk_cell KL.bg pos
          have dn := blk_cell KG pos
          have dn1 := blk_cell KG (pos + 1)
          have fn := blk_frozen KG pos
          have fn1 := blk_frozen KG (pos + 1)
          rw [bools_at _ _ _ (by omega)] at dg dn dn1
          have he : ({ data := p.toArray } : ByteArray)[pos]'(show pos < p.length from hl) = p[pos] := rfl
          have HP : Hid (pc p pos = (p[pos] == 37)) := Lib.hid (pc_of p pos hl)
          have HC : Hid (p[pos]? = some p[pos]) := Lib.hid (List.getElem?_eq_getElem hl)
          simp only [List.size_toArray, List.getElem?_toArray, List.getElem?_cons_zero] at d0 d1
          generalize p[pos] = pch at he HP HC hnx
          have KK := Lib.hid (And.intro KG (And.intro KL KI))
          clear KG KL KI c0 c1 c1'
          generalize hq : rowA u p pos = q at dg
          have HQ := Lib.hid hq
          clear hq
          generalize nx ch p (rowA u p) pos pos = q0 at dn
          generalize nx ch p (rowA u p) pos (pos + 1) = q1 at dn1
          have hneB : (decide (wo.heap.size + 1 = wo.heap.size)) = false := by simp
          clear hneB
          have HG : g ≠ wo.heap.size := by omega
          go_wp2_with fail
          · rename_i h1
            refine ⟨⟨pos + 1, by omega, KK.out.2.2, ?_, KK.out.2.1⟩, ?_⟩
            · rw [nx_keep (Or.inl (by rw [HQ.out]; simpa using h1))]; exact KK.out.1
            · rw [iterPos_at KK.out.2.2, hpos0]; omega
          · rename_i h1 h2
            have e0 : (pch.toNat : Int) = 37 := by simpa using h2
            have e1 : (pch == 37) = true := beq_iff_eq.2 (UInt8.toNat_inj.1 (show pch.toNat = 37 by omega))
            have hI := iter_far KK.out.2.2 (p := ⟨wo.heap.size, pos, none⟩) (show wo.heap.size + 1 ≠ wo.heap.size by omega) (.bool true)
            refine ⟨⟨pos + 1, by omega, hI, ?_, KK.out.2.1.set KK.out.1 (by omega) _ _⟩, ?_⟩
            · rw [nx_here (by rw [HQ.out]; simpa using h1) (by rw [HP.out]; exact e1), ← bools_set]; exact blk_set KK.out.1 _ _
            · rw [iterPos_at hI, hpos0]; omega
          · rename_i h1 h2 h3
            have e2 : (pch == 37) = false := beq_eq_false_iff_ne.2 (fun e => by subst e; simp at h2)
            have e3 : pch = 95 := UInt8.toNat_inj.1 (show pch.toNat = 95 by omega)
            have hI := iter_far KK.out.2.2 (p := ⟨wo.heap.size, pos + 1, none⟩) (show wo.heap.size + 1 ≠ wo.heap.size by omega) (.bool true)
            refine ⟨⟨pos + 1, by omega, hI, ?_, KK.out.2.1.set KK.out.1 (by omega) _ _⟩, ?_⟩
            · rw [nx_next (by rw [HQ.out]; simpa using h1) (by rw [HP.out]; exact e2) (by rw [HC.out, e3]; simp), ← bools_set]; exact blk_set KK.out.1 _ _
            · rw [iterPos_at hI, hpos0]; omega
          · rename_i h1 h2 h3 h4
            have e2 : (pch == 37) = false := beq_eq_false_iff_ne.2 (fun e => by subst e; simp at h2)
            have e3 : pch = ch := UInt8.toNat_inj.1 (by
              rcases h4 with h4 | h4
              · exact absurd (by simpa using h4) h3
              · have : (pch.toNat : Int) = ch.toNat := by simpa using h4
                omega)
            have hI := iter_far KK.out.2.2 (p := ⟨wo.heap.size, pos + 1, none⟩) (show wo.heap.size + 1 ≠ wo.heap.size by omega) (.bool true)
            refine ⟨⟨pos + 1, by omega, hI, ?_, KK.out.2.1.set KK.out.1 (by omega) _ _⟩, ?_⟩
            · rw [nx_next (by rw [HQ.out]; simpa using h1) (by rw [HP.out]; exact e2) (by rw [HC.out, e3]; simp), ← bools_set]; exact blk_set KK.out.1 _ _
            · rw [iterPos_at hI, hpos0]; omega
          · rename_i h1 h2 h3 h4
            have e2 : (pch == 37) = false := beq_eq_false_iff_ne.2 (fun e => by subst e; simp at h2)
            have e3 : pch ≠ 95 := fun e => by subst e; exact h3 rfl
            have e4 : pch ≠ ch := fun e => by subst e; simp at h4
            refine ⟨⟨pos + 1, by omega, KK.out.2.2, ?_, KK.out.2.1⟩, ?_⟩
            · rw [nx_keep (Or.inr ⟨by rw [HP.out]; exact e2, by rw [HC.out]; simp [e3, e4]⟩)]; exact KK.out.1
            · rw [iterPos_at KK.out.2.2, hpos0]; omega
        · obtain rfl : pos = p.length := by omega
          have hnx : ∀ ty, (Instr.next (.pointer (some ⟨wo.heap.size + 1, 0, none⟩)) true ty).run Tryz.prog wr = _ := fun ty => Lib.run_next_end_at wr (wo.heap.size + 1) ⟨p.toArray⟩ p.length ty HI.out (show ¬ p.length < p.length by omega)
          have cz : wr.cell? ⟨w.heap.size + 1 + 1, 0, none⟩ = _ := blk_cell HL1.out.bat 0
          have fz : wr.frozen? ⟨w.heap.size + 1 + 1, 0, none⟩ = _ := blk_frozen HL1.out.bat 0
          simp only [List.getElem?_toArray, List.getElem?_cons_zero] at cz
          have HT1 := HL1.out.turn HB.out (by omega)
          go_wp2_with (go_at_call 115; refine (skip_any w.heap.size (w.heap.size + 2) wo.heap.size p.length p _ _ rfl hn HL.out HT1.bp HT1.bat HT1.bg).mono ?_; rintro e w3 ⟨rfl, hg3, hw3⟩)
          have HL3 := HT1.grown hw3 hg3
          refine ⟨⟨j + 1, wo.heap.size, by omega, rfl, ?_⟩, ?_⟩
          · rw [HT.out]
            show LS _ _ _ _ _ _ _ _ _
            exact ⟨HL3.bp, HL3.bat, by rw [← bools_congr (p.length + 1) (fun i hi => rowA_step ch u p i (by omega))]; exact HL3.bg, HL3.bb, HL3.below, HL3.hgN⟩
          · show s.length - ((j : Int) + 1).toNat < s.length - (j : Int).toNat
            omega
    · obtain rfl : j = s.length := by omega
      have c0 := blk_cell HS.out.bp 0
      have c1 := blk_cell HS.out.bat 0
      have z0 : w.heap.size < wo.heap.size := HS.out.lt _ (by simp)
      have z2 : w.heap.size + 1 + 1 < wo.heap.size := HS.out.lt (w.heap.size + 2) (by simp)
      have cg := blk_cell HS.out.bg p.length
      rw [bools_at _ _ _ (by omega)] at cg
      have hv : rowA (s.take s.length).reverse p p.length = sLike s p := by
        unfold rowA sLike
        rw [pc_out p p.length (by omega), List.take_length, List.take_length]
        rfl
      rw [hv] at cg
      simp only [List.getElem?_toArray, List.getElem?_cons_zero] at c0 c1
      have c1' : wo.cell? ⟨w.heap.size + 1 + 1, 0, none⟩ = _ := c1
      generalize hr : sLike s p = r at cg
      go_wp2_with fail
      ((try simp only [Exit.inBlock, Exit.then]); refine bodyPost_ret (by simp only [results, Tryz.results72]; go_simp; try rfl) rfl ?_)
      exact ⟨by rw [hr], HS.out.below⟩
end Go.Proofs.YtpmfpfkahanlaaaGreatDoor

/- Binary: what is computed; the look-up of an operation. -/
namespace Go.Proofs.YtpmfpfkahanlaaaGreatDoor
open Go.RowKit
set_option linter.unusedSimpArgs false
set_option linter.unusedVariables false
attribute [local go_sem] Later.cell Later.lt
attribute [local go_sem high] run_eqV run_neV

theorem look_op (w : World) (b : Nat) (hb : b = w.heap.size) (op : List UInt8) (ok : Bool) :
    Sem.run Tryz.prog (Instr.lookup 68 (.map (some b)) (.string ⟨op.toArray⟩) ok) (w.alloc opObj) =
      .ok (if ok then .tuple #[.int .i64 (opK op), .bool (isOp op)] else .int .i64 (opK op)) (w.alloc opObj) := by
  subst hb
  have h := run_look (T := 68) (et := 25) (z := .int .i64 0) opV op w.heap.size 15 (w.alloc opObj) Tryz.underlying68 (Tryz.zeroValue25 _) (MapKept.heap_alloc _ _).1 ok
  rw [h]
  have hk : (look opV op).getD (.int .i64 0) = .int .i64 (opK op) := by
    unfold opV opK
    rw [look_map]
    cases look opT op <;> rfl
  have hi : (look opV op).isSome = isOp op := by
    unfold opV isOp
    rw [look_map]
    cases look opT op <;> rfl
  rw [hk, hi]
theorem sl_new (w : World) (l : List V) (ty : TypeId) (hl : l.length ≤ 1000) : Sl (w.alloc (.cells (l.flatMap encL).toArray ty)) (some ⟨w.heap.size, 0, none⟩) l.length l := by
  refine ⟨rfl, by omega, fun _ => ⟨_, 0, rfl, by simp, fun j h => ?_⟩⟩
  simp only [World.cell?_alloc_new, Nat.zero_add]
  have key : ∀ (l : List V) (j : Nat) (h : j < l.length), (l.flatMap encL)[j * 3]? = some (.int .i64 l[j].k) ∧ (l.flatMap encL)[j * 3 + 1]? = some (.int .i64 l[j].n) ∧ (l.flatMap encL)[j * 3 + 2]? = some (.string ⟨l[j].t.toArray⟩) := by
    intro l
    induction l with
    | nil => intro j h; cases h
    | cons x r ih =>
      intro j h
      cases j with
      | zero => simp [encL]
      | succ j =>
        have := ih j (by simpa using h)
        simp only [List.flatMap_cons, encL, show (j + 1) * 3 = j * 3 + 1 + 1 + 1 by omega, show j * 3 + 1 + 1 + 1 + 1 = j * 3 + 1 + 1 + 1 + 1 from rfl, List.cons_append, List.nil_append, List.getElem?_cons_succ, List.getElem_cons_succ]
        exact this
  simpa using key l j h
theorem all2_any (a b : V) (W : World) (B : Nat) (hB : B = W.heap.size) (hN : Nul W) : Calls Tryz.prog 62 #[.slice (some ⟨B, 0, none⟩) 2 2] (W.alloc (.cells #[.int .i64 a.k, .int .i64 a.n, .string ⟨a.t.toArray⟩, .int .i64 b.k, .int .i64 b.n, .string ⟨b.t.toArray⟩] 27)) fun e w' => e = .returned (.bool (sValid a && sValid b)) ∧ Below (W.alloc (.cells #[.int .i64 a.k, .int .i64 a.n, .string ⟨a.t.toArray⟩, .int .i64 b.k, .int .i64 b.n, .string ⟨b.t.toArray⟩] 27)).heap.size (W.alloc (.cells #[.int .i64 a.k, .int .i64 a.n, .string ⟨a.t.toArray⟩, .int .i64 b.k, .int .i64 b.n, .string ⟨b.t.toArray⟩] 27)) w' := by
  subst hB
  have := all_any (some ⟨W.heap.size, 0, none⟩) 2 2 [a, b] (W.alloc (.cells #[.int .i64 a.k, .int .i64 a.n, .string ⟨a.t.toArray⟩, .int .i64 b.k, .int .i64 b.n, .string ⟨b.t.toArray⟩] 27)) (hN.later ((Below.refl _ _).alloc (Nat.le_refl _) _)) (sl_new W [a, b] 27 (by simp))
  simpa using this
end Go.Proofs.YtpmfpfkahanlaaaGreatDoor

/- Unary, walked. -/
namespace Go.Proofs.YtpmfpfkahanlaaaGreatDoor
open Go.RowKit
set_option linter.unusedSimpArgs false
set_option linter.unusedVariables false
attribute [local go_sem] Later.cell Later.lt
attribute [local go_sem high] run_eqV run_neV

theorem look_un (w : World) (b : Nat) (hb : b = w.heap.size) (op : List UInt8) :
    Sem.run Tryz.prog (Instr.lookup 68 (.map (some b)) (.string ⟨op.toArray⟩) true) (w.alloc (.map #[MapEntry.mk (.string ⟨#[45]⟩) (.int .i64 1) 0, MapEntry.mk (.string ⟨#[110, 111, 116]⟩) (.int .i64 3) 1] 2)) =
      .ok (.tuple #[.int .i64 (unK op), .bool (unIs op)]) (w.alloc (.map #[MapEntry.mk (.string ⟨#[45]⟩) (.int .i64 1) 0, MapEntry.mk (.string ⟨#[110, 111, 116]⟩) (.int .i64 3) 1] 2)) := by
  subst hb
  have h := run_look (T := 68) (et := 25) (z := .int .i64 0) [([45], .int .i64 1), ([110, 111, 116], .int .i64 3)] op w.heap.size 2 (w.alloc (.map #[MapEntry.mk (.string ⟨#[45]⟩) (.int .i64 1) 0, MapEntry.mk (.string ⟨#[110, 111, 116]⟩) (.int .i64 3) 1] 2)) Tryz.underlying68 (Tryz.zeroValue25 _) (MapKept.heap_alloc _ _).1 true
  rw [h]
  simp only [look, unK, unIs]
  by_cases h1 : op = [45] <;> by_cases h2 : op = [110, 111, 116] <;> simp [h1, h2]
attribute [local go_sem] look_un
set_option maxRecDepth 100000 in
set_option maxHeartbeats 1000000 in
theorem unary_any (op : List UInt8) (k n : Int) (t : List UInt8) (w : World) (n0 : w.cell? ⟨0, 0, none⟩ = some (.int .i64 0)) (n1 : w.cell? ⟨0, 1, none⟩ = some (.int .i64 0)) (n2 : w.cell? ⟨0, 2, none⟩ = some (.string ⟨#[]⟩)) (hpos : 0 < w.heap.size) :
    Calls Tryz.prog 25 #[.string ⟨op.toArray⟩, (.agg #[.int .i64 (k), .int .i64 (n), .string ⟨List.toArray (t)⟩])] w fun e w' => e = .returned (.tuple #[.agg #[.int .i64 (vUnary op ⟨k, n, t⟩).1.k, .int .i64 (vUnary op ⟨k, n, t⟩).1.n, .string ⟨List.toArray (vUnary op ⟨k, n, t⟩).1.t⟩], .int .i64 (vUnary op ⟨k, n, t⟩).2]) ∧ Below w.heap.size w w' := by
  have hmm := @run_makeMap Tryz.prog
  go_enter Tryz.func25, Tryz.ntmps25
  go_wp2_with (first | (refine wpList_ins _ rfl rfl _ _ _ 68 25 rfl Tryz.underlying68 _ _ _ (by simp) rfl _ _ rfl rfl rfl ?_) | (go_at_call 15; refine (valid_any _ _ _ _ (by go_simp) (by go_simp) (by go_simp) (by go_simp)).mono ?_; rintro e w1 ⟨rfl, hbw1⟩; obtain ⟨hcw1, hfw1⟩ := bfacts hbw1; have hzw1 := hbw1.size; (try simp only [World.size_alloc, World.size_setCell, World.size_drew] at hzw1); (try have hpw1 : 0 < w1.heap.size := by omega); (try have : w.heap.size < w1.heap.size := by omega); (try have : w.heap.size + 1 < w1.heap.size := by omega); (try have : w.heap.size + 1 + 1 < w1.heap.size := by omega); (try have : w.heap.size + 1 + 1 + 1 < w1.heap.size := by omega); (try have : w.heap.size + 1 + 1 + 1 + 1 < w1.heap.size := by omega); (try have : w.heap.size + 1 + 1 + 1 + 1 + 1 < w1.heap.size := by omega); (try have : w.heap.size < w1.heap.size + 1 := by omega); (try have : w.heap.size + 1 < w1.heap.size + 1 := by omega); (try have : w.heap.size + 1 + 1 < w1.heap.size + 1 := by omega); (try have : w.heap.size + 1 + 1 + 1 < w1.heap.size + 1 := by omega); (try have : w.heap.size + 1 + 1 + 1 + 1 < w1.heap.size + 1 := by omega)) | (go_at_call 64; refine (fits_any _ _ _ _ _).mono ?_; rintro e w2 ⟨rfl, hbw2⟩; obtain ⟨hcw2, hfw2⟩ := bfacts hbw2; have hzw2 := hbw2.size; (try simp only [World.size_alloc, World.size_setCell, World.size_drew] at hzw2); (try have hpw2 : 0 < w2.heap.size := by omega); (try have : w.heap.size < w2.heap.size := by omega); (try have : w.heap.size + 1 < w2.heap.size := by omega); (try have : w.heap.size + 1 + 1 < w2.heap.size := by omega); (try have : w.heap.size + 1 + 1 + 1 < w2.heap.size := by omega); (try have : w.heap.size + 1 + 1 + 1 + 1 < w2.heap.size := by omega); (try have : w.heap.size + 1 + 1 + 1 + 1 + 1 < w2.heap.size := by omega); (try have : w.heap.size < w2.heap.size + 1 := by omega); (try have : w.heap.size + 1 < w2.heap.size + 1 := by omega); (try have : w.heap.size + 1 + 1 < w2.heap.size + 1 := by omega); (try have : w.heap.size + 1 + 1 + 1 < w2.heap.size + 1 := by omega); (try have : w.heap.size + 1 + 1 + 1 + 1 < w2.heap.size + 1 := by omega); (try have : w1.heap.size < w2.heap.size := by omega); (try have : w1.heap.size + 1 < w2.heap.size := by omega); (try have : w1.heap.size + 1 + 1 < w2.heap.size := by omega); (try have : w1.heap.size + 1 + 1 + 1 < w2.heap.size := by omega); (try have : w1.heap.size + 1 + 1 + 1 + 1 < w2.heap.size := by omega); (try have : w1.heap.size + 1 + 1 + 1 + 1 + 1 < w2.heap.size := by omega); (try have : w1.heap.size < w2.heap.size + 1 := by omega); (try have : w1.heap.size + 1 < w2.heap.size + 1 := by omega); (try have : w1.heap.size + 1 + 1 < w2.heap.size + 1 := by omega); (try have : w1.heap.size + 1 + 1 + 1 < w2.heap.size + 1 := by omega); (try have : w1.heap.size + 1 + 1 + 1 + 1 < w2.heap.size + 1 := by omega)) | (go_at_call 65; refine (whole_any _ _ (by go_simp) (by go_simp) (by go_simp) (by go_simp)).mono ?_; rintro e w3 ⟨rfl, hbw3⟩; obtain ⟨hcw3, hfw3⟩ := bfacts hbw3; have hzw3 := hbw3.size; (try simp only [World.size_alloc, World.size_setCell, World.size_drew] at hzw3); (try have hpw3 : 0 < w3.heap.size := by omega); (try have : w.heap.size < w3.heap.size := by omega); (try have : w.heap.size + 1 < w3.heap.size := by omega); (try have : w.heap.size + 1 + 1 < w3.heap.size := by omega); (try have : w.heap.size + 1 + 1 + 1 < w3.heap.size := by omega); (try have : w.heap.size + 1 + 1 + 1 + 1 < w3.heap.size := by omega); (try have : w.heap.size + 1 + 1 + 1 + 1 + 1 < w3.heap.size := by omega); (try have : w.heap.size < w3.heap.size + 1 := by omega); (try have : w.heap.size + 1 < w3.heap.size + 1 := by omega); (try have : w.heap.size + 1 + 1 < w3.heap.size + 1 := by omega); (try have : w.heap.size + 1 + 1 + 1 < w3.heap.size + 1 := by omega); (try have : w.heap.size + 1 + 1 + 1 + 1 < w3.heap.size + 1 := by omega); (try have : w1.heap.size < w3.heap.size := by omega); (try have : w1.heap.size + 1 < w3.heap.size := by omega); (try have : w1.heap.size + 1 + 1 < w3.heap.size := by omega); (try have : w1.heap.size + 1 + 1 + 1 < w3.heap.size := by omega); (try have : w1.heap.size + 1 + 1 + 1 + 1 < w3.heap.size := by omega); (try have : w1.heap.size + 1 + 1 + 1 + 1 + 1 < w3.heap.size := by omega); (try have : w1.heap.size < w3.heap.size + 1 := by omega); (try have : w1.heap.size + 1 < w3.heap.size + 1 := by omega); (try have : w1.heap.size + 1 + 1 < w3.heap.size + 1 := by omega); (try have : w1.heap.size + 1 + 1 + 1 < w3.heap.size + 1 := by omega); (try have : w1.heap.size + 1 + 1 + 1 + 1 < w3.heap.size + 1 := by omega); (try have : w2.heap.size < w3.heap.size := by omega); (try have : w2.heap.size + 1 < w3.heap.size := by omega); (try have : w2.heap.size + 1 + 1 < w3.heap.size := by omega); (try have : w2.heap.size + 1 + 1 + 1 < w3.heap.size := by omega); (try have : w2.heap.size + 1 + 1 + 1 + 1 < w3.heap.size := by omega); (try have : w2.heap.size + 1 + 1 + 1 + 1 + 1 < w3.heap.size := by omega); (try have : w2.heap.size < w3.heap.size + 1 := by omega); (try have : w2.heap.size + 1 < w3.heap.size + 1 := by omega); (try have : w2.heap.size + 1 + 1 < w3.heap.size + 1 := by omega); (try have : w2.heap.size + 1 + 1 + 1 < w3.heap.size + 1 := by omega); (try have : w2.heap.size + 1 + 1 + 1 + 1 < w3.heap.size + 1 := by omega)) | (go_at_call 61; refine (bool_any _ _).mono ?_; rintro e w3 ⟨rfl, hbw3⟩; obtain ⟨hcw3, hfw3⟩ := bfacts hbw3; have hzw3 := hbw3.size; (try simp only [World.size_alloc, World.size_setCell, World.size_drew] at hzw3); (try have hpw3 : 0 < w3.heap.size := by omega); (try have : w.heap.size < w3.heap.size := by omega); (try have : w.heap.size + 1 < w3.heap.size := by omega); (try have : w.heap.size + 1 + 1 < w3.heap.size := by omega); (try have : w.heap.size + 1 + 1 + 1 < w3.heap.size := by omega); (try have : w.heap.size + 1 + 1 + 1 + 1 < w3.heap.size := by omega); (try have : w.heap.size + 1 + 1 + 1 + 1 + 1 < w3.heap.size := by omega); (try have : w.heap.size < w3.heap.size + 1 := by omega); (try have : w.heap.size + 1 < w3.heap.size + 1 := by omega); (try have : w.heap.size + 1 + 1 < w3.heap.size + 1 := by omega); (try have : w.heap.size + 1 + 1 + 1 < w3.heap.size + 1 := by omega); (try have : w.heap.size + 1 + 1 + 1 + 1 < w3.heap.size + 1 := by omega); (try have : w1.heap.size < w3.heap.size := by omega); (try have : w1.heap.size + 1 < w3.heap.size := by omega); (try have : w1.heap.size + 1 + 1 < w3.heap.size := by omega); (try have : w1.heap.size + 1 + 1 + 1 < w3.heap.size := by omega); (try have : w1.heap.size + 1 + 1 + 1 + 1 < w3.heap.size := by omega); (try have : w1.heap.size + 1 + 1 + 1 + 1 + 1 < w3.heap.size := by omega); (try have : w1.heap.size < w3.heap.size + 1 := by omega); (try have : w1.heap.size + 1 < w3.heap.size + 1 := by omega); (try have : w1.heap.size + 1 + 1 < w3.heap.size + 1 := by omega); (try have : w1.heap.size + 1 + 1 + 1 < w3.heap.size + 1 := by omega); (try have : w1.heap.size + 1 + 1 + 1 + 1 < w3.heap.size + 1 := by omega); (try have : w2.heap.size < w3.heap.size := by omega); (try have : w2.heap.size + 1 < w3.heap.size := by omega); (try have : w2.heap.size + 1 + 1 < w3.heap.size := by omega); (try have : w2.heap.size + 1 + 1 + 1 < w3.heap.size := by omega); (try have : w2.heap.size + 1 + 1 + 1 + 1 < w3.heap.size := by omega); (try have : w2.heap.size + 1 + 1 + 1 + 1 + 1 < w3.heap.size := by omega); (try have : w2.heap.size < w3.heap.size + 1 := by omega); (try have : w2.heap.size + 1 < w3.heap.size + 1 := by omega); (try have : w2.heap.size + 1 + 1 < w3.heap.size + 1 := by omega); (try have : w2.heap.size + 1 + 1 + 1 < w3.heap.size + 1 := by omega); (try have : w2.heap.size + 1 + 1 + 1 + 1 < w3.heap.size + 1 := by omega)))
  go_ways
  all_goals (((try simp only [Exit.inBlock, Exit.then]); refine bodyPost_ret (by simp only [results, Tryz.results25]; go_simp; try rfl) rfl ?_); refine ⟨ret_r ?_, ?_⟩)
  all_goals (first | ((repeat' (first | (with_reducible exact Below.refl _ _) | (with_reducible assumption) | (with_reducible refine Below.alloc ?_ ?_ _) | (with_reducible refine Below.drew ?_) | (with_reducible refine Below.drewN' ?_ _) | (with_reducible refine Below.setCell ?_ ?_ _) | (refine Below.via ?_ (by assumption) ?_) | go_size)); done) | skip)
  all_goals (go_light; first | (simp_all [vUnary, vN, w64, wrap64]; done) | ((try simp [vUnary, vN, w64, wrap64]); (repeat' split) <;> (try simp_all) <;> (try omega)))
end Go.Proofs.YtpmfpfkahanlaaaGreatDoor

/- ref.Unary, walked. -/
namespace Go.Proofs.YtpmfpfkahanlaaaGreatDoor
open Go.RowKit
set_option linter.unusedSimpArgs false
set_option linter.unusedVariables false
attribute [local go_sem] Later.cell Later.lt
attribute [local go_sem high] run_eqV run_neV

theorem rIsUnary_any (op : List UInt8) (w : World) :
    Calls Tryz.prog 66 #[.string ⟨op.toArray⟩] w fun e w' => e = .returned (.bool (unIs op)) ∧ w = w' := by
  go_enter Tryz.func66, Tryz.ntmps66
  go_wp2
  all_goals (((try simp only [Exit.inBlock, Exit.then]); refine bodyPost_ret (by simp only [results, Tryz.results66]; go_simp; try rfl) rfl ?_); refine ⟨ret_bool ?_, rfl⟩)
  all_goals (go_light; first | (simp_all [unIs]; done) | ((try simp [unIs]); (repeat' split) <;> (try simp_all) <;> (try omega)))
set_option maxHeartbeats 1000000 in
theorem rUnary_any (op : List UInt8) (k n : Int) (t : List UInt8) (w : World) (ht : t.length ≤ 140737488355328) :
    Calls Tryz.prog 26 #[.string ⟨op.toArray⟩, (.agg #[.int .i64 (k), .int .i64 (n), .string ⟨List.toArray (t)⟩])] w fun e w' => e = .returned (.tuple #[.agg #[.int .i64 (rUnary2 op ⟨k, n, t⟩).1.k, .int .i64 (rUnary2 op ⟨k, n, t⟩).1.n, .string ⟨List.toArray (rUnary2 op ⟨k, n, t⟩).1.t⟩], .int .i64 (rUnary2 op ⟨k, n, t⟩).2]) ∧ Below w.heap.size w w' := by
  go_enter Tryz.func26, Tryz.ntmps26
  go_wp2_with (first | (go_at_call 66; refine (rIsUnary_any _ _).mono ?_; rintro e w' ⟨rfl, rfl⟩) | (go_at_call 16; refine (rValid_any _ _ _ _ ht).mono ?_; rintro e w1 ⟨rfl, hbw1⟩; obtain ⟨hcw1, hfw1⟩ := bfacts hbw1; have hzw1 := hbw1.size; (try simp only [World.size_alloc, World.size_setCell, World.size_drew] at hzw1); (try have hpw1 : 0 < w1.heap.size := by omega); (try have : w.heap.size < w1.heap.size := by omega); (try have : w.heap.size + 1 < w1.heap.size := by omega); (try have : w.heap.size + 1 + 1 < w1.heap.size := by omega); (try have : w.heap.size + 1 + 1 + 1 < w1.heap.size := by omega); (try have : w.heap.size + 1 + 1 + 1 + 1 < w1.heap.size := by omega); (try have : w.heap.size + 1 + 1 + 1 + 1 + 1 < w1.heap.size := by omega); (try have : w.heap.size < w1.heap.size + 1 := by omega); (try have : w.heap.size + 1 < w1.heap.size + 1 := by omega); (try have : w.heap.size + 1 + 1 < w1.heap.size + 1 := by omega); (try have : w.heap.size + 1 + 1 + 1 < w1.heap.size + 1 := by omega); (try have : w.heap.size + 1 + 1 + 1 + 1 < w1.heap.size + 1 := by omega)) | (go_at_call 57; refine (rInt_any _ _).mono ?_; rintro e w2 ⟨rfl, hbw2⟩; obtain ⟨hcw2, hfw2⟩ := bfacts hbw2; have hzw2 := hbw2.size; (try simp only [World.size_alloc, World.size_setCell, World.size_drew] at hzw2); (try have hpw2 : 0 < w2.heap.size := by omega); (try have : w.heap.size < w2.heap.size := by omega); (try have : w.heap.size + 1 < w2.heap.size := by omega); (try have : w.heap.size + 1 + 1 < w2.heap.size := by omega); (try have : w.heap.size + 1 + 1 + 1 < w2.heap.size := by omega); (try have : w.heap.size + 1 + 1 + 1 + 1 < w2.heap.size := by omega); (try have : w.heap.size + 1 + 1 + 1 + 1 + 1 < w2.heap.size := by omega); (try have : w.heap.size < w2.heap.size + 1 := by omega); (try have : w.heap.size + 1 < w2.heap.size + 1 := by omega); (try have : w.heap.size + 1 + 1 < w2.heap.size + 1 := by omega); (try have : w.heap.size + 1 + 1 + 1 < w2.heap.size + 1 := by omega); (try have : w.heap.size + 1 + 1 + 1 + 1 < w2.heap.size + 1 := by omega); (try have : w1.heap.size < w2.heap.size := by omega); (try have : w1.heap.size + 1 < w2.heap.size := by omega); (try have : w1.heap.size + 1 + 1 < w2.heap.size := by omega); (try have : w1.heap.size + 1 + 1 + 1 < w2.heap.size := by omega); (try have : w1.heap.size + 1 + 1 + 1 + 1 < w2.heap.size := by omega); (try have : w1.heap.size + 1 + 1 + 1 + 1 + 1 < w2.heap.size := by omega); (try have : w1.heap.size < w2.heap.size + 1 := by omega); (try have : w1.heap.size + 1 < w2.heap.size + 1 := by omega); (try have : w1.heap.size + 1 + 1 < w2.heap.size + 1 := by omega); (try have : w1.heap.size + 1 + 1 + 1 < w2.heap.size + 1 := by omega); (try have : w1.heap.size + 1 + 1 + 1 + 1 < w2.heap.size + 1 := by omega)) | (go_at_call 55; refine (rBool_any _ _).mono ?_; rintro e w2 ⟨rfl, hbw2⟩; obtain ⟨hcw2, hfw2⟩ := bfacts hbw2; have hzw2 := hbw2.size; (try simp only [World.size_alloc, World.size_setCell, World.size_drew] at hzw2); (try have hpw2 : 0 < w2.heap.size := by omega); (try have : w.heap.size < w2.heap.size := by omega); (try have : w.heap.size + 1 < w2.heap.size := by omega); (try have : w.heap.size + 1 + 1 < w2.heap.size := by omega); (try have : w.heap.size + 1 + 1 + 1 < w2.heap.size := by omega); (try have : w.heap.size + 1 + 1 + 1 + 1 < w2.heap.size := by omega); (try have : w.heap.size + 1 + 1 + 1 + 1 + 1 < w2.heap.size := by omega); (try have : w.heap.size < w2.heap.size + 1 := by omega); (try have : w.heap.size + 1 < w2.heap.size + 1 := by omega); (try have : w.heap.size + 1 + 1 < w2.heap.size + 1 := by omega); (try have : w.heap.size + 1 + 1 + 1 < w2.heap.size + 1 := by omega); (try have : w.heap.size + 1 + 1 + 1 + 1 < w2.heap.size + 1 := by omega); (try have : w1.heap.size < w2.heap.size := by omega); (try have : w1.heap.size + 1 < w2.heap.size := by omega); (try have : w1.heap.size + 1 + 1 < w2.heap.size := by omega); (try have : w1.heap.size + 1 + 1 + 1 < w2.heap.size := by omega); (try have : w1.heap.size + 1 + 1 + 1 + 1 < w2.heap.size := by omega); (try have : w1.heap.size + 1 + 1 + 1 + 1 + 1 < w2.heap.size := by omega); (try have : w1.heap.size < w2.heap.size + 1 := by omega); (try have : w1.heap.size + 1 < w2.heap.size + 1 := by omega); (try have : w1.heap.size + 1 + 1 < w2.heap.size + 1 := by omega); (try have : w1.heap.size + 1 + 1 + 1 < w2.heap.size + 1 := by omega); (try have : w1.heap.size + 1 + 1 + 1 + 1 < w2.heap.size + 1 := by omega)))
  all_goals (((try simp only [Exit.inBlock, Exit.then]); refine bodyPost_ret (by simp only [results, Tryz.results26]; go_simp; try rfl) rfl ?_); refine ⟨ret_r ?_, ?_⟩)
  all_goals (first | ((repeat' (first | (with_reducible exact Below.refl _ _) | (with_reducible assumption) | (with_reducible refine Below.alloc ?_ ?_ _) | (with_reducible refine Below.drew ?_) | (with_reducible refine Below.drewN' ?_ _) | (with_reducible refine Below.setCell ?_ ?_ _) | (refine Below.via ?_ (by assumption) ?_) | go_size)); done) | skip)
  all_goals (go_light; first | (simp_all [rUnary2, vN, w64, wrap64]; done) | ((try simp [rUnary2, vN, w64, wrap64]); (repeat' split) <;> (try simp_all) <;> (try omega)))
end Go.Proofs.YtpmfpfkahanlaaaGreatDoor
