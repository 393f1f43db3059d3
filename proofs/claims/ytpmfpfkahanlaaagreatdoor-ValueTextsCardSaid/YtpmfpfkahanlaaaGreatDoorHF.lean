/- Call of package value, walked. -/
import Derived.Test.YtpmfpfkahanlaaaGreatDoorHE
namespace Go.Proofs.YtpmfpfkahanlaaaGreatDoor
open Go.RowKit
set_option linter.unusedSimpArgs false
set_option linter.unusedVariables false
attribute [local go_sem] Later.cell Later.lt
attribute [local go_sem high] run_eqV run_neV
attribute [local go_sem] cell_set_same

set_option maxRecDepth 100000 in
set_option maxHeartbeats 4000000 in
theorem call_bad (op : List UInt8) (A : Option Addr) (n c : Nat) (l : List V) (w : World) (hE : Env w) (hS : Sl w A n l) (hv : l.all sValid = false) :
    Calls Tryz.prog 35 #[.string ⟨op.toArray⟩, .slice A n c] w fun e w' => e = .returned (.tuple #[.agg #[.int .i64 (((vN, 2) : V × Int)).1.k, .int .i64 (((vN, 2) : V × Int)).1.n, .string ⟨List.toArray (((vN, 2) : V × Int)).1.t⟩], .int .i64 (((vN, 2) : V × Int)).2]) ∧ Below w.heap.size w w' := by
  have HE := Lib.hid hE
  obtain ⟨n0, n1, n2, hpos⟩ := hE.nul
  have HA := Lib.hid (fun W (hN : Nul W) (hS : Sl W A n l) => all_any A n c l W hN hS)
  rw [hv] at HA
  have HS := Lib.hid hS
  clear hE hS hv
  go_enter Tryz.func35, Tryz.ntmps35
  go_wp2_with fail
  refine (HA.out _ ((HE.out.later (by (repeat' (first | (with_reducible exact Below.refl _ _) | (with_reducible assumption) | (with_reducible refine Below.alloc ?_ ?_ _) | (with_reducible refine Below.drew ?_) | (with_reducible refine Below.drewN' ?_ _) | (with_reducible refine Below.setCell ?_ ?_ _) | (refine Below.via ?_ (by assumption) ?_) | go_size)))).nul) (HS.out.later (by (repeat' (first | (with_reducible exact Below.refl _ _) | (with_reducible assumption) | (with_reducible refine Below.alloc ?_ ?_ _) | (with_reducible refine Below.drew ?_) | (with_reducible refine Below.drewN' ?_ _) | (with_reducible refine Below.setCell ?_ ?_ _) | (refine Below.via ?_ (by assumption) ?_) | go_size))))).mono ?_; rintro e w1 ⟨rfl, hbw1⟩; obtain ⟨hcw1, hfw1⟩ := bfacts hbw1; have hzw1 := hbw1.size; (try simp only [World.size_alloc, World.size_setCell, World.size_drew] at hzw1); (try have hpw1 : 0 < w1.heap.size := by omega); (try have : w.heap.size < w1.heap.size := by omega); (try have : w.heap.size + 1 < w1.heap.size := by omega); (try have : w.heap.size + 1 + 1 < w1.heap.size := by omega); (try have : w.heap.size + 1 + 1 + 1 < w1.heap.size := by omega); (try have : w.heap.size + 1 + 1 + 1 + 1 < w1.heap.size := by omega); (try have : w.heap.size + 1 + 1 + 1 + 1 + 1 < w1.heap.size := by omega); (try have : w.heap.size < w1.heap.size + 1 := by omega); (try have : w.heap.size + 1 < w1.heap.size + 1 := by omega); (try have : w.heap.size + 1 + 1 < w1.heap.size + 1 := by omega); (try have : w.heap.size + 1 + 1 + 1 < w1.heap.size + 1 := by omega); (try have : w.heap.size + 1 + 1 + 1 + 1 < w1.heap.size + 1 := by omega)
  (have qw10 : w1.cell? ⟨w.heap.size, 0, none⟩ = some (.int .i64 0) := (hcw1 _ _ (by go_size)).trans (by go_simp); have qw11 : w1.cell? ⟨w.heap.size, 1, none⟩ = some (.int .i64 0) := (hcw1 _ _ (by go_size)).trans (by go_simp); have qw12 : w1.cell? ⟨w.heap.size, 2, none⟩ = some (.string ⟨#[]⟩) := (hcw1 _ _ (by go_size)).trans (by go_simp))
  go_wp2
  ((try simp only [Exit.inBlock, Exit.then]); refine bodyPost_ret (by simp only [results, Tryz.results35]; go_simp; try rfl) rfl ?_)
  refine ⟨rfl, ?_⟩
  (repeat' (first | (with_reducible exact Below.refl _ _) | (with_reducible assumption) | (with_reducible refine Below.alloc ?_ ?_ _) | (with_reducible refine Below.drew ?_) | (with_reducible refine Below.drewN' ?_ _) | (with_reducible refine Below.setCell ?_ ?_ _) | (refine Below.via ?_ (by assumption) ?_) | go_size))
set_option maxRecDepth 100000 in
set_option maxHeartbeats 4000000 in
theorem call_sig (op : List UInt8) (A : Option Addr) (n c : Nat) (l : List V) (w : World) (hE : Env w) (hS : Sl w A n l) (hv : l.all sValid = true) (hs : isSig op = false ∨ isSig op = true ∧ (sKinds op).length ≠ n) :
    Calls Tryz.prog 35 #[.string ⟨op.toArray⟩, .slice A n c] w fun e w' => e = .returned (.tuple #[.agg #[.int .i64 (((vN, if isSig op then 17 else 13) : V × Int)).1.k, .int .i64 (((vN, if isSig op then 17 else 13) : V × Int)).1.n, .string ⟨List.toArray (((vN, if isSig op then 17 else 13) : V × Int)).1.t⟩], .int .i64 (((vN, if isSig op then 17 else 13) : V × Int)).2]) ∧ Below w.heap.size w w' := by
  have HE := Lib.hid hE
  obtain ⟨n0, n1, n2, hpos⟩ := hE.nul
  have HA := Lib.hid (fun W (hN : Nul W) (hS : Sl W A n l) => all_any A n c l W hN hS)
  rw [hv] at HA
  have HS := Lib.hid hS
  have hbig := hS.big
  have HK : Hid ((sKinds op).length ≤ 3) := Lib.hid (by unfold sKinds; rw [List.length_map]; exact (sigOf_ok op).1)
  clear hE hS hv
  go_enter Tryz.func35, Tryz.ntmps35
  go_wp2_with fail
  refine (HA.out _ ((HE.out.later (by (repeat' (first | (with_reducible exact Below.refl _ _) | (with_reducible assumption) | (with_reducible refine Below.alloc ?_ ?_ _) | (with_reducible refine Below.drew ?_) | (with_reducible refine Below.drewN' ?_ _) | (with_reducible refine Below.setCell ?_ ?_ _) | (refine Below.via ?_ (by assumption) ?_) | go_size)))).nul) (HS.out.later (by (repeat' (first | (with_reducible exact Below.refl _ _) | (with_reducible assumption) | (with_reducible refine Below.alloc ?_ ?_ _) | (with_reducible refine Below.drew ?_) | (with_reducible refine Below.drewN' ?_ _) | (with_reducible refine Below.setCell ?_ ?_ _) | (refine Below.via ?_ (by assumption) ?_) | go_size))))).mono ?_; rintro e w1 ⟨rfl, hbw1⟩; obtain ⟨hcw1, hfw1⟩ := bfacts hbw1; have hzw1 := hbw1.size; (try simp only [World.size_alloc, World.size_setCell, World.size_drew] at hzw1); (try have hpw1 : 0 < w1.heap.size := by omega); (try have : w.heap.size < w1.heap.size := by omega); (try have : w.heap.size + 1 < w1.heap.size := by omega); (try have : w.heap.size + 1 + 1 < w1.heap.size := by omega); (try have : w.heap.size + 1 + 1 + 1 < w1.heap.size := by omega); (try have : w.heap.size + 1 + 1 + 1 + 1 < w1.heap.size := by omega); (try have : w.heap.size + 1 + 1 + 1 + 1 + 1 < w1.heap.size := by omega); (try have : w.heap.size < w1.heap.size + 1 := by omega); (try have : w.heap.size + 1 < w1.heap.size + 1 := by omega); (try have : w.heap.size + 1 + 1 < w1.heap.size + 1 := by omega); (try have : w.heap.size + 1 + 1 + 1 < w1.heap.size + 1 := by omega); (try have : w.heap.size + 1 + 1 + 1 + 1 < w1.heap.size + 1 := by omega)
  (have qw10 : w1.cell? ⟨w.heap.size, 0, none⟩ = some (.int .i64 0) := (hcw1 _ _ (by go_size)).trans (by go_simp); have qw11 : w1.cell? ⟨w.heap.size, 1, none⟩ = some (.int .i64 0) := (hcw1 _ _ (by go_size)).trans (by go_simp); have qw12 : w1.cell? ⟨w.heap.size, 2, none⟩ = some (.string ⟨#[]⟩) := (hcw1 _ _ (by go_size)).trans (by go_simp))
  go_wp2_with fail
  refine (signature_any op w1).mono ?_; rintro e w2 ⟨A2, c2, rfl, hks, hbw2⟩; obtain ⟨hcw2, hfw2⟩ := bfacts hbw2; have hzw2 := hbw2.size; (try simp only [World.size_alloc, World.size_setCell, World.size_drew] at hzw2); (try have hpw2 : 0 < w2.heap.size := by omega); (try have : w.heap.size < w2.heap.size := by omega); (try have : w.heap.size + 1 < w2.heap.size := by omega); (try have : w.heap.size + 1 + 1 < w2.heap.size := by omega); (try have : w.heap.size + 1 + 1 + 1 < w2.heap.size := by omega); (try have : w.heap.size + 1 + 1 + 1 + 1 < w2.heap.size := by omega); (try have : w.heap.size + 1 + 1 + 1 + 1 + 1 < w2.heap.size := by omega); (try have : w.heap.size < w2.heap.size + 1 := by omega); (try have : w.heap.size + 1 < w2.heap.size + 1 := by omega); (try have : w.heap.size + 1 + 1 < w2.heap.size + 1 := by omega); (try have : w.heap.size + 1 + 1 + 1 < w2.heap.size + 1 := by omega); (try have : w.heap.size + 1 + 1 + 1 + 1 < w2.heap.size + 1 := by omega); (try have : w1.heap.size < w2.heap.size := by omega); (try have : w1.heap.size + 1 < w2.heap.size := by omega); (try have : w1.heap.size + 1 + 1 < w2.heap.size := by omega); (try have : w1.heap.size + 1 + 1 + 1 < w2.heap.size := by omega); (try have : w1.heap.size + 1 + 1 + 1 + 1 < w2.heap.size := by omega); (try have : w1.heap.size + 1 + 1 + 1 + 1 + 1 < w2.heap.size := by omega); (try have : w1.heap.size < w2.heap.size + 1 := by omega); (try have : w1.heap.size + 1 < w2.heap.size + 1 := by omega); (try have : w1.heap.size + 1 + 1 < w2.heap.size + 1 := by omega); (try have : w1.heap.size + 1 + 1 + 1 < w2.heap.size + 1 := by omega); (try have : w1.heap.size + 1 + 1 + 1 + 1 < w2.heap.size + 1 := by omega)
  (have qw20 : w2.cell? ⟨w.heap.size, 0, none⟩ = some (.int .i64 0) := (hcw2 _ _ (by go_size)).trans (by go_simp); have qw21 : w2.cell? ⟨w.heap.size, 1, none⟩ = some (.int .i64 0) := (hcw2 _ _ (by go_size)).trans (by go_simp); have qw22 : w2.cell? ⟨w.heap.size, 2, none⟩ = some (.string ⟨#[]⟩) := (hcw2 _ _ (by go_size)).trans (by go_simp))
  have HKs := Lib.hid hks
  have hk3 := HK.out
  clear hks
  generalize hkl : (sKinds op).length = kl at hs hk3 HKs
  clear hkl HK
  rcases hs with hs | ⟨hs, hne⟩
  · rw [hs]
    go_wp2
    all_goals (((try simp only [Exit.inBlock, Exit.then]); refine bodyPost_ret (by simp only [results, Tryz.results35]; go_simp; try rfl) rfl ?_); refine ⟨rfl, ?_⟩; (repeat' (first | (with_reducible exact Below.refl _ _) | (with_reducible assumption) | (with_reducible refine Below.alloc ?_ ?_ _) | (with_reducible refine Below.drew ?_) | (with_reducible refine Below.drewN' ?_ _) | (with_reducible refine Below.setCell ?_ ?_ _) | (refine Below.via ?_ (by assumption) ?_) | go_size)))
  · have hne2 : ((kl : Int) != (n : Int)) = true := by simpa using fun h => hne (by omega)
    rw [hs]
    go_wp2
    all_goals (((try simp only [Exit.inBlock, Exit.then]); refine bodyPost_ret (by simp only [results, Tryz.results35]; go_simp; try rfl) rfl ?_); refine ⟨rfl, ?_⟩; (repeat' (first | (with_reducible exact Below.refl _ _) | (with_reducible assumption) | (with_reducible refine Below.alloc ?_ ?_ _) | (with_reducible refine Below.drew ?_) | (with_reducible refine Below.drewN' ?_ _) | (with_reducible refine Below.setCell ?_ ?_ _) | (refine Below.via ?_ (by assumption) ?_) | go_size)))
end Go.Proofs.YtpmfpfkahanlaaaGreatDoor

/- Call of package value, the loop and what follows. -/
namespace Go.Proofs.YtpmfpfkahanlaaaGreatDoor
open Go.RowKit
set_option linter.unusedSimpArgs false
set_option linter.unusedVariables false
attribute [local go_sem] Later.cell Later.lt
attribute [local go_sem high] run_eqV run_neV
attribute [local go_sem] cell_set_same


theorem goK_step {ks : List Int} {vs : List V} {j : Nat} {c : Int} (h1 : j < ks.length) (h2 : j < vs.length) :
    goK (ks.drop j) (vs.drop j) c = if !sFits vs[j] (if ks[j] == 0 then max c vs[j].k else ks[j]) then none else goK (ks.drop (j + 1)) (vs.drop (j + 1)) (if ks[j] == 0 then max c vs[j].k else c) := by
  rw [List.drop_eq_getElem_cons h1, List.drop_eq_getElem_cons h2, goK]
theorem sig_pos {op : List UInt8} (h : isSig op = true) : 0 < (sKinds op).length := by
  rcases sig_cases h with rfl | rfl | rfl | rfl | rfl | rfl | rfl | rfl | rfl | rfl | rfl | rfl
  all_goals decide
set_option maxRecDepth 100000 in
set_option maxHeartbeats 8000000 in
theorem call_go (op : List UInt8) (A : Option Addr) (n c : Nat) (l : List V) (w : World) (hE : Env w) (hS : Sl w A n l) (hv : l.all sValid = true) (hs : isSig op = true) (hln : (sKinds op).length = n) :
    Calls Tryz.prog 35 #[.string ⟨op.toArray⟩, .slice A n c] w fun e w' => e = .returned (.tuple #[.agg #[.int .i64 (vLoop op l).1.k, .int .i64 (vLoop op l).1.n, .string ⟨List.toArray (vLoop op l).1.t⟩], .int .i64 (vLoop op l).2]) ∧ Below w.heap.size w w' := by
  have HE := Lib.hid hE
  obtain ⟨n0, n1, n2, hpos⟩ := hE.nul
  have HA := Lib.hid (fun W (hN : Nul W) (hS : Sl W A n l) => all_any A n c l W hN hS)
  rw [hv] at HA
  have HS := Lib.hid hS
  have hbig := hS.big
  have HLen := Lib.hid hS.len
  have HV := Lib.hid hv
  have HSig := Lib.hid hs
  have hk3 : n ≤ 3 := by rw [← hln]; unfold sKinds; rw [List.length_map]; exact (sigOf_ok op).1
  clear hE hS hv
  go_enter Tryz.func35, Tryz.ntmps35
  go_wp2_with fail
  refine (HA.out _ ((HE.out.later (by (repeat' (first | (with_reducible exact Below.refl _ _) | (with_reducible assumption) | (with_reducible refine Below.alloc ?_ ?_ _) | (with_reducible refine Below.drew ?_) | (with_reducible refine Below.drewN' ?_ _) | (with_reducible refine Below.setCell ?_ ?_ _) | (refine Below.via ?_ (by assumption) ?_) | go_size)))).nul) (HS.out.later (by (repeat' (first | (with_reducible exact Below.refl _ _) | (with_reducible assumption) | (with_reducible refine Below.alloc ?_ ?_ _) | (with_reducible refine Below.drew ?_) | (with_reducible refine Below.drewN' ?_ _) | (with_reducible refine Below.setCell ?_ ?_ _) | (refine Below.via ?_ (by assumption) ?_) | go_size))))).mono ?_; rintro e w1 ⟨rfl, hbw1⟩; obtain ⟨hcw1, hfw1⟩ := bfacts hbw1; have hzw1 := hbw1.size; (try simp only [World.size_alloc, World.size_setCell, World.size_drew] at hzw1); (try have hpw1 : 0 < w1.heap.size := by omega); (try have : w.heap.size < w1.heap.size := by omega); (try have : w.heap.size + 1 < w1.heap.size := by omega); (try have : w.heap.size + 1 + 1 < w1.heap.size := by omega); (try have : w.heap.size + 1 + 1 + 1 < w1.heap.size := by omega); (try have : w.heap.size + 1 + 1 + 1 + 1 < w1.heap.size := by omega); (try have : w.heap.size + 1 + 1 + 1 + 1 + 1 < w1.heap.size := by omega); (try have : w.heap.size < w1.heap.size + 1 := by omega); (try have : w.heap.size + 1 < w1.heap.size + 1 := by omega); (try have : w.heap.size + 1 + 1 < w1.heap.size + 1 := by omega); (try have : w.heap.size + 1 + 1 + 1 < w1.heap.size + 1 := by omega); (try have : w.heap.size + 1 + 1 + 1 + 1 < w1.heap.size + 1 := by omega)
  (have qw10 : w1.cell? ⟨w.heap.size, 0, none⟩ = some (.int .i64 0) := (hcw1 _ _ (by go_size)).trans (by go_simp); have qw11 : w1.cell? ⟨w.heap.size, 1, none⟩ = some (.int .i64 0) := (hcw1 _ _ (by go_size)).trans (by go_simp); have qw12 : w1.cell? ⟨w.heap.size, 2, none⟩ = some (.string ⟨#[]⟩) := (hcw1 _ _ (by go_size)).trans (by go_simp))
  go_wp2_with fail
  refine (signature_any op w1).mono ?_; rintro e w2 ⟨A2, c2, rfl, hks, hbw2⟩; obtain ⟨hcw2, hfw2⟩ := bfacts hbw2; have hzw2 := hbw2.size; (try simp only [World.size_alloc, World.size_setCell, World.size_drew] at hzw2); (try have hpw2 : 0 < w2.heap.size := by omega); (try have : w.heap.size < w2.heap.size := by omega); (try have : w.heap.size + 1 < w2.heap.size := by omega); (try have : w.heap.size + 1 + 1 < w2.heap.size := by omega); (try have : w.heap.size + 1 + 1 + 1 < w2.heap.size := by omega); (try have : w.heap.size + 1 + 1 + 1 + 1 < w2.heap.size := by omega); (try have : w.heap.size + 1 + 1 + 1 + 1 + 1 < w2.heap.size := by omega); (try have : w.heap.size < w2.heap.size + 1 := by omega); (try have : w.heap.size + 1 < w2.heap.size + 1 := by omega); (try have : w.heap.size + 1 + 1 < w2.heap.size + 1 := by omega); (try have : w.heap.size + 1 + 1 + 1 < w2.heap.size + 1 := by omega); (try have : w.heap.size + 1 + 1 + 1 + 1 < w2.heap.size + 1 := by omega); (try have : w1.heap.size < w2.heap.size := by omega); (try have : w1.heap.size + 1 < w2.heap.size := by omega); (try have : w1.heap.size + 1 + 1 < w2.heap.size := by omega); (try have : w1.heap.size + 1 + 1 + 1 < w2.heap.size := by omega); (try have : w1.heap.size + 1 + 1 + 1 + 1 < w2.heap.size := by omega); (try have : w1.heap.size + 1 + 1 + 1 + 1 + 1 < w2.heap.size := by omega); (try have : w1.heap.size < w2.heap.size + 1 := by omega); (try have : w1.heap.size + 1 < w2.heap.size + 1 := by omega); (try have : w1.heap.size + 1 + 1 < w2.heap.size + 1 := by omega); (try have : w1.heap.size + 1 + 1 + 1 < w2.heap.size + 1 := by omega); (try have : w1.heap.size + 1 + 1 + 1 + 1 < w2.heap.size + 1 := by omega)
  (have qw20 : w2.cell? ⟨w.heap.size, 0, none⟩ = some (.int .i64 0) := (hcw2 _ _ (by go_size)).trans (by go_simp); have qw21 : w2.cell? ⟨w.heap.size, 1, none⟩ = some (.int .i64 0) := (hcw2 _ _ (by go_size)).trans (by go_simp); have qw22 : w2.cell? ⟨w.heap.size, 2, none⟩ = some (.string ⟨#[]⟩) := (hcw2 _ _ (by go_size)).trans (by go_simp))
  rw [hln] at hks
  have HKs := Lib.hid hks
  have HLK := Lib.hid hln
  have hB2 : Below w.heap.size w w2 := by (repeat' (first | (with_reducible exact Below.refl _ _) | (with_reducible assumption) | (with_reducible refine Below.alloc ?_ ?_ _) | (with_reducible refine Below.drew ?_) | (with_reducible refine Below.drewN' ?_ _) | (with_reducible refine Below.setCell ?_ ?_ _) | (refine Below.via ?_ (by assumption) ?_) | go_size))
  have HB2 := Lib.hid hB2
  have f2 : ∀ i, w2.frozen? ⟨w.heap.size, i, none⟩ = false := fun i => (hfw2 _ _ (by go_size)).trans ((hfw1 _ _ (by go_size)).trans (by go_simp))
  have m0 : w2.cell? ⟨0, 0, none⟩ = _ := (hB2.cell (p := ⟨0, 0, none⟩) hpos).trans n0
  have m1 : w2.cell? ⟨0, 1, none⟩ = _ := (hB2.cell (p := ⟨0, 1, none⟩) hpos).trans n1
  have m2 : w2.cell? ⟨0, 2, none⟩ = _ := (hB2.cell (p := ⟨0, 2, none⟩) hpos).trans n2
  clear hks hcw1 hcw2 hfw1 hfw2 hbw1 hbw2 hB2 n0 n1 n2 qw10 qw11 qw12
  rw [hln]
  rw [hs]
  clear hln hs
  go_wp2
  go_loopw [35] (fun i wr => ∃ (j : Nat) (cm : Int), j ≤ n ∧ i = .int .i64 j ∧ Hid (Below w2.heap.size w2 wr) ∧ Hid (Blk wr w2.heap.size 25 #[.int .i64 cm]) ∧ Hid (goK (sKinds op) l 0 = goK ((sKinds op).drop j) (l.drop j) cm)) (fun i wr => n - (intOf i).toNat)
  case atStart => exact ⟨0, 0, Nat.zero_le _, rfl, Lib.hid ((Below.refl _ _).alloc (Nat.le_refl _) _), Lib.hid (blk_new w2 25 _), (show Hid _ from by simp [Hid])⟩
  case round =>
    obtain ⟨j, cm, hj, rfl, HB, HC, HG⟩ := hrel
    have z2 : w2.heap.size < wr.heap.size := blk_lt HC.out
    have zr : w.heap.size < wr.heap.size := by omega
    have zp : 0 < wr.heap.size := by omega
    have cc := blk_cell HC.out 0
    have cf := blk_frozen HC.out 0
    simp only [List.getElem?_toArray, List.getElem?_cons_zero] at cc
    have r0 := (HB.out.cell (p := ⟨w.heap.size, 0, none⟩) (by show w.heap.size < _; omega)).trans qw20
    have r1 := (HB.out.cell (p := ⟨w.heap.size, 1, none⟩) (by show w.heap.size < _; omega)).trans qw21
    have r2 := (HB.out.cell (p := ⟨w.heap.size, 2, none⟩) (by show w.heap.size < _; omega)).trans qw22
    have rf : ∀ i, wr.frozen? ⟨w.heap.size, i, none⟩ = false := fun i => (HB.out.frozen (p := ⟨w.heap.size, i, none⟩) (by show w.heap.size < _; omega)).trans (f2 i)
    have g0 := (HB.out.cell (p := ⟨0, 0, none⟩) (by show 0 < _; omega)).trans m0
    have g1 := (HB.out.cell (p := ⟨0, 1, none⟩) (by show 0 < _; omega)).trans m1
    have g2 := (HB.out.cell (p := ⟨0, 2, none⟩) (by show 0 < _; omega)).trans m2
    by_cases hlt : j < n
    · have hl1 : j < (sKinds op).length := by rw [HLK.out]; exact hlt
      have hl2 : j < l.length := by rw [HLen.out]; exact hlt
      have HG2 : Hid (_ = _) := Lib.hid (HG.out.trans (goK_step hl1 hl2))
      have HBW : Hid (Below w.heap.size w wr) := Lib.hid (HB2.out.trans (HB.out.mono HB2.out.size))
      obtain ⟨bs, off, rfl, hbl, hc⟩ := (HS.out.later HBW.out).at_ (by omega)
      obtain ⟨bk, ok, rfl, hbk, hck⟩ := (HKs.out.later HB.out).at_ (by omega)
      obtain ⟨c0, c1, c2'⟩ := hc j hl2
      have ck := hck j hl1
      have hbk2 : bk < w2.heap.size := by
        obtain ⟨b3, o3, e3, h3, _⟩ := HKs.out.at_ (by omega)
        cases e3
        exact h3
      have hbs2 : bs < w.heap.size := by
        obtain ⟨b3, o3, e3, h3, _⟩ := HS.out.at_ (by omega)
        cases e3
        exact h3
      generalize l[j] = y at c0 c1 c2' HG2
      generalize (sKinds op)[j] = kk at ck HG2
      obtain ⟨k', n', t'⟩ := y
      clear hc hck
      simp only at c0 c1 c2'
      by_cases hkk : kk = 0
      · subst hkk
        go_wp2_with fail
        go_region
        have HBq : Hid (Below w2.heap.size w2 (wr.setCell ⟨w2.heap.size, 0, none⟩ (.int .i64 (max cm k'))).drew) := Lib.hid ((HB.out.setCell (Nat.le_refl _) _).drew)
        have HCq : Hid (Blk (wr.setCell ⟨w2.heap.size, 0, none⟩ (.int .i64 (max cm k'))).drew w2.heap.size 25 #[.int .i64 (max cm k')]) := Lib.hid (by have := blk_set HC.out 0 (.int .i64 (max cm k')); simp only [List.setIfInBounds_toArray, List.set_cons_zero] at this; exact this)
        have s0 : (wr.setCell ⟨w2.heap.size, 0, none⟩ (.int .i64 (max cm k'))).drew.cell? ⟨bs, off + j * 3, none⟩ = some (.int .i64 k') := by go_simp
        have s1 : (wr.setCell ⟨w2.heap.size, 0, none⟩ (.int .i64 (max cm k'))).drew.cell? ⟨bs, off + j * 3 + 1, none⟩ = some (.int .i64 n') := by go_simp
        have s2 : (wr.setCell ⟨w2.heap.size, 0, none⟩ (.int .i64 (max cm k'))).drew.cell? ⟨bs, off + j * 3 + 2, none⟩ = some (.string ⟨t'.toArray⟩) := by go_simp
        generalize (wr.setCell ⟨w2.heap.size, 0, none⟩ (.int .i64 (max cm k'))).drew = Wq at HBq HCq s0 s1 s2
        clear cc cf r0 r1 r2 rf g0 g1 g2 c0 c1 c2'
        have z2q : w2.heap.size < Wq.heap.size := blk_lt HCq.out
        have zrq : w.heap.size < Wq.heap.size := by omega
        have zpq : 0 < Wq.heap.size := by omega
        have ccq := blk_cell HCq.out 0
        have cfq := blk_frozen HCq.out 0
        simp only [List.getElem?_toArray, List.getElem?_cons_zero] at ccq
        have r0q := (HBq.out.cell (p := ⟨w.heap.size, 0, none⟩) (by show w.heap.size < _; omega)).trans qw20
        have r1q := (HBq.out.cell (p := ⟨w.heap.size, 1, none⟩) (by show w.heap.size < _; omega)).trans qw21
        have r2q := (HBq.out.cell (p := ⟨w.heap.size, 2, none⟩) (by show w.heap.size < _; omega)).trans qw22
        have rfq : ∀ i, Wq.frozen? ⟨w.heap.size, i, none⟩ = false := fun i => (HBq.out.frozen (p := ⟨w.heap.size, i, none⟩) (by show w.heap.size < _; omega)).trans (f2 i)
        have g0q := (HBq.out.cell (p := ⟨0, 0, none⟩) (by show 0 < _; omega)).trans m0
        have g1q := (HBq.out.cell (p := ⟨0, 1, none⟩) (by show 0 < _; omega)).trans m1
        have g2q := (HBq.out.cell (p := ⟨0, 2, none⟩) (by show 0 < _; omega)).trans m2
        have hbW : Below w.heap.size w Wq := HB2.out.trans (HBq.out.mono HB2.out.size)
        cases hf : sFits ⟨k', n', t'⟩ (max cm k') with
        | false =>
          have HR : Hid (vLoop op l = (vN, 16)) := Lib.hid (by
            have h : goK (sKinds op) l 0 = none := by rw [HG2.out]; simp [hf]
            unfold vLoop
            rw [h])
          go_wp2_with ((go_at_call 64; refine (fits_any _ _ _ _ _).mono ?_; rintro e v1 ⟨rfl, hbv1⟩; obtain ⟨hcv1, hfv1⟩ := bfacts hbv1; have hzv1 := hbv1.size; (try simp only [World.size_alloc, World.size_setCell, World.size_drew] at hzv1); (try have hpv1 : 0 < v1.heap.size := by omega); (try have : w.heap.size < v1.heap.size := by omega); (try have : w.heap.size + 1 < v1.heap.size := by omega); (try have : w.heap.size + 1 + 1 < v1.heap.size := by omega); (try have : w.heap.size + 1 + 1 + 1 < v1.heap.size := by omega); (try have : w.heap.size + 1 + 1 + 1 + 1 < v1.heap.size := by omega); (try have : w.heap.size + 1 + 1 + 1 + 1 + 1 < v1.heap.size := by omega); (try have : w.heap.size < v1.heap.size + 1 := by omega); (try have : w.heap.size + 1 < v1.heap.size + 1 := by omega); (try have : w.heap.size + 1 + 1 < v1.heap.size + 1 := by omega); (try have : w.heap.size + 1 + 1 + 1 < v1.heap.size + 1 := by omega); (try have : w.heap.size + 1 + 1 + 1 + 1 < v1.heap.size + 1 := by omega); (try have : w2.heap.size < v1.heap.size := by omega); (try have : w2.heap.size + 1 < v1.heap.size := by omega); (try have : w2.heap.size + 1 + 1 < v1.heap.size := by omega); (try have : w2.heap.size + 1 + 1 + 1 < v1.heap.size := by omega); (try have : w2.heap.size + 1 + 1 + 1 + 1 < v1.heap.size := by omega); (try have : w2.heap.size + 1 + 1 + 1 + 1 + 1 < v1.heap.size := by omega); (try have : w2.heap.size < v1.heap.size + 1 := by omega); (try have : w2.heap.size + 1 < v1.heap.size + 1 := by omega); (try have : w2.heap.size + 1 + 1 < v1.heap.size + 1 := by omega); (try have : w2.heap.size + 1 + 1 + 1 < v1.heap.size + 1 := by omega); (try have : w2.heap.size + 1 + 1 + 1 + 1 < v1.heap.size + 1 := by omega); (try have : Wq.heap.size < v1.heap.size := by omega); (try have : Wq.heap.size + 1 < v1.heap.size := by omega); (try have : Wq.heap.size + 1 + 1 < v1.heap.size := by omega); (try have : Wq.heap.size + 1 + 1 + 1 < v1.heap.size := by omega); (try have : Wq.heap.size + 1 + 1 + 1 + 1 < v1.heap.size := by omega); (try have : Wq.heap.size + 1 + 1 + 1 + 1 + 1 < v1.heap.size := by omega); (try have : Wq.heap.size < v1.heap.size + 1 := by omega); (try have : Wq.heap.size + 1 < v1.heap.size + 1 := by omega); (try have : Wq.heap.size + 1 + 1 < v1.heap.size + 1 := by omega); (try have : Wq.heap.size + 1 + 1 + 1 < v1.heap.size + 1 := by omega); (try have : Wq.heap.size + 1 + 1 + 1 + 1 < v1.heap.size + 1 := by omega)))
          ((try simp only [Exit.inBlock, Exit.then]); refine bodyPost_ret (by simp only [results, Tryz.results35]; go_simp; try rfl) rfl ?_)
          refine ⟨by rw [HR.out]; rfl, ?_⟩
          (repeat' (first | (with_reducible exact Below.refl _ _) | (with_reducible assumption) | (with_reducible refine Below.alloc ?_ ?_ _) | (with_reducible refine Below.drew ?_) | (with_reducible refine Below.drewN' ?_ _) | (with_reducible refine Below.setCell ?_ ?_ _) | (refine Below.via ?_ (by assumption) ?_) | go_size))
        | true =>
          have HR : Hid (goK (sKinds op) l 0 = goK ((sKinds op).drop (j + 1)) (l.drop (j + 1)) (max cm k')) := Lib.hid (by rw [HG2.out]; simp [hf])
          go_wp2_with ((go_at_call 64; refine (fits_any _ _ _ _ _).mono ?_; rintro e v1 ⟨rfl, hbv1⟩; obtain ⟨hcv1, hfv1⟩ := bfacts hbv1; have hzv1 := hbv1.size; (try simp only [World.size_alloc, World.size_setCell, World.size_drew] at hzv1); (try have hpv1 : 0 < v1.heap.size := by omega); (try have : w.heap.size < v1.heap.size := by omega); (try have : w.heap.size + 1 < v1.heap.size := by omega); (try have : w.heap.size + 1 + 1 < v1.heap.size := by omega); (try have : w.heap.size + 1 + 1 + 1 < v1.heap.size := by omega); (try have : w.heap.size + 1 + 1 + 1 + 1 < v1.heap.size := by omega); (try have : w.heap.size + 1 + 1 + 1 + 1 + 1 < v1.heap.size := by omega); (try have : w.heap.size < v1.heap.size + 1 := by omega); (try have : w.heap.size + 1 < v1.heap.size + 1 := by omega); (try have : w.heap.size + 1 + 1 < v1.heap.size + 1 := by omega); (try have : w.heap.size + 1 + 1 + 1 < v1.heap.size + 1 := by omega); (try have : w.heap.size + 1 + 1 + 1 + 1 < v1.heap.size + 1 := by omega); (try have : w2.heap.size < v1.heap.size := by omega); (try have : w2.heap.size + 1 < v1.heap.size := by omega); (try have : w2.heap.size + 1 + 1 < v1.heap.size := by omega); (try have : w2.heap.size + 1 + 1 + 1 < v1.heap.size := by omega); (try have : w2.heap.size + 1 + 1 + 1 + 1 < v1.heap.size := by omega); (try have : w2.heap.size + 1 + 1 + 1 + 1 + 1 < v1.heap.size := by omega); (try have : w2.heap.size < v1.heap.size + 1 := by omega); (try have : w2.heap.size + 1 < v1.heap.size + 1 := by omega); (try have : w2.heap.size + 1 + 1 < v1.heap.size + 1 := by omega); (try have : w2.heap.size + 1 + 1 + 1 < v1.heap.size + 1 := by omega); (try have : w2.heap.size + 1 + 1 + 1 + 1 < v1.heap.size + 1 := by omega); (try have : Wq.heap.size < v1.heap.size := by omega); (try have : Wq.heap.size + 1 < v1.heap.size := by omega); (try have : Wq.heap.size + 1 + 1 < v1.heap.size := by omega); (try have : Wq.heap.size + 1 + 1 + 1 < v1.heap.size := by omega); (try have : Wq.heap.size + 1 + 1 + 1 + 1 < v1.heap.size := by omega); (try have : Wq.heap.size + 1 + 1 + 1 + 1 + 1 < v1.heap.size := by omega); (try have : Wq.heap.size < v1.heap.size + 1 := by omega); (try have : Wq.heap.size + 1 < v1.heap.size + 1 := by omega); (try have : Wq.heap.size + 1 + 1 < v1.heap.size + 1 := by omega); (try have : Wq.heap.size + 1 + 1 + 1 < v1.heap.size + 1 := by omega); (try have : Wq.heap.size + 1 + 1 + 1 + 1 < v1.heap.size + 1 := by omega)))
          exact ⟨⟨j + 1, (max cm k'), by omega, by go_num, Lib.hid (HBq.out.trans (hbv1.mono HBq.out.size)), Lib.hid (blk_later HCq.out hbv1), HR⟩, by simp [intOf]; omega⟩
      · have hkb : (kk == 0) = false := by simpa using hkk
        have hbW : Below w.heap.size w wr := HB2.out.trans (HB.out.mono HB2.out.size)
        cases hf : sFits ⟨k', n', t'⟩ kk with
        | false =>
          have HR : Hid (vLoop op l = (vN, 16)) := Lib.hid (by
            have h : goK (sKinds op) l 0 = none := by rw [HG2.out]; simp [hf, hkb]
            unfold vLoop
            rw [h])
          go_wp2_with ((go_at_call 64; refine (fits_any _ _ _ _ _).mono ?_; rintro e v1 ⟨rfl, hbv1⟩; obtain ⟨hcv1, hfv1⟩ := bfacts hbv1; have hzv1 := hbv1.size; (try simp only [World.size_alloc, World.size_setCell, World.size_drew] at hzv1); (try have hpv1 : 0 < v1.heap.size := by omega); (try have : w.heap.size < v1.heap.size := by omega); (try have : w.heap.size + 1 < v1.heap.size := by omega); (try have : w.heap.size + 1 + 1 < v1.heap.size := by omega); (try have : w.heap.size + 1 + 1 + 1 < v1.heap.size := by omega); (try have : w.heap.size + 1 + 1 + 1 + 1 < v1.heap.size := by omega); (try have : w.heap.size + 1 + 1 + 1 + 1 + 1 < v1.heap.size := by omega); (try have : w.heap.size < v1.heap.size + 1 := by omega); (try have : w.heap.size + 1 < v1.heap.size + 1 := by omega); (try have : w.heap.size + 1 + 1 < v1.heap.size + 1 := by omega); (try have : w.heap.size + 1 + 1 + 1 < v1.heap.size + 1 := by omega); (try have : w.heap.size + 1 + 1 + 1 + 1 < v1.heap.size + 1 := by omega); (try have : w2.heap.size < v1.heap.size := by omega); (try have : w2.heap.size + 1 < v1.heap.size := by omega); (try have : w2.heap.size + 1 + 1 < v1.heap.size := by omega); (try have : w2.heap.size + 1 + 1 + 1 < v1.heap.size := by omega); (try have : w2.heap.size + 1 + 1 + 1 + 1 < v1.heap.size := by omega); (try have : w2.heap.size + 1 + 1 + 1 + 1 + 1 < v1.heap.size := by omega); (try have : w2.heap.size < v1.heap.size + 1 := by omega); (try have : w2.heap.size + 1 < v1.heap.size + 1 := by omega); (try have : w2.heap.size + 1 + 1 < v1.heap.size + 1 := by omega); (try have : w2.heap.size + 1 + 1 + 1 < v1.heap.size + 1 := by omega); (try have : w2.heap.size + 1 + 1 + 1 + 1 < v1.heap.size + 1 := by omega); (try have : wr.heap.size < v1.heap.size := by omega); (try have : wr.heap.size + 1 < v1.heap.size := by omega); (try have : wr.heap.size + 1 + 1 < v1.heap.size := by omega); (try have : wr.heap.size + 1 + 1 + 1 < v1.heap.size := by omega); (try have : wr.heap.size + 1 + 1 + 1 + 1 < v1.heap.size := by omega); (try have : wr.heap.size + 1 + 1 + 1 + 1 + 1 < v1.heap.size := by omega); (try have : wr.heap.size < v1.heap.size + 1 := by omega); (try have : wr.heap.size + 1 < v1.heap.size + 1 := by omega); (try have : wr.heap.size + 1 + 1 < v1.heap.size + 1 := by omega); (try have : wr.heap.size + 1 + 1 + 1 < v1.heap.size + 1 := by omega); (try have : wr.heap.size + 1 + 1 + 1 + 1 < v1.heap.size + 1 := by omega)))
          ((try simp only [Exit.inBlock, Exit.then]); refine bodyPost_ret (by simp only [results, Tryz.results35]; go_simp; try rfl) rfl ?_)
          refine ⟨by rw [HR.out]; rfl, ?_⟩
          (repeat' (first | (with_reducible exact Below.refl _ _) | (with_reducible assumption) | (with_reducible refine Below.alloc ?_ ?_ _) | (with_reducible refine Below.drew ?_) | (with_reducible refine Below.drewN' ?_ _) | (with_reducible refine Below.setCell ?_ ?_ _) | (refine Below.via ?_ (by assumption) ?_) | go_size))
        | true =>
          have HR : Hid (goK (sKinds op) l 0 = goK ((sKinds op).drop (j + 1)) (l.drop (j + 1)) cm) := Lib.hid (by rw [HG2.out]; simp [hf, hkb])
          go_wp2_with ((go_at_call 64; refine (fits_any _ _ _ _ _).mono ?_; rintro e v1 ⟨rfl, hbv1⟩; obtain ⟨hcv1, hfv1⟩ := bfacts hbv1; have hzv1 := hbv1.size; (try simp only [World.size_alloc, World.size_setCell, World.size_drew] at hzv1); (try have hpv1 : 0 < v1.heap.size := by omega); (try have : w.heap.size < v1.heap.size := by omega); (try have : w.heap.size + 1 < v1.heap.size := by omega); (try have : w.heap.size + 1 + 1 < v1.heap.size := by omega); (try have : w.heap.size + 1 + 1 + 1 < v1.heap.size := by omega); (try have : w.heap.size + 1 + 1 + 1 + 1 < v1.heap.size := by omega); (try have : w.heap.size + 1 + 1 + 1 + 1 + 1 < v1.heap.size := by omega); (try have : w.heap.size < v1.heap.size + 1 := by omega); (try have : w.heap.size + 1 < v1.heap.size + 1 := by omega); (try have : w.heap.size + 1 + 1 < v1.heap.size + 1 := by omega); (try have : w.heap.size + 1 + 1 + 1 < v1.heap.size + 1 := by omega); (try have : w.heap.size + 1 + 1 + 1 + 1 < v1.heap.size + 1 := by omega); (try have : w2.heap.size < v1.heap.size := by omega); (try have : w2.heap.size + 1 < v1.heap.size := by omega); (try have : w2.heap.size + 1 + 1 < v1.heap.size := by omega); (try have : w2.heap.size + 1 + 1 + 1 < v1.heap.size := by omega); (try have : w2.heap.size + 1 + 1 + 1 + 1 < v1.heap.size := by omega); (try have : w2.heap.size + 1 + 1 + 1 + 1 + 1 < v1.heap.size := by omega); (try have : w2.heap.size < v1.heap.size + 1 := by omega); (try have : w2.heap.size + 1 < v1.heap.size + 1 := by omega); (try have : w2.heap.size + 1 + 1 < v1.heap.size + 1 := by omega); (try have : w2.heap.size + 1 + 1 + 1 < v1.heap.size + 1 := by omega); (try have : w2.heap.size + 1 + 1 + 1 + 1 < v1.heap.size + 1 := by omega); (try have : wr.heap.size < v1.heap.size := by omega); (try have : wr.heap.size + 1 < v1.heap.size := by omega); (try have : wr.heap.size + 1 + 1 < v1.heap.size := by omega); (try have : wr.heap.size + 1 + 1 + 1 < v1.heap.size := by omega); (try have : wr.heap.size + 1 + 1 + 1 + 1 < v1.heap.size := by omega); (try have : wr.heap.size + 1 + 1 + 1 + 1 + 1 < v1.heap.size := by omega); (try have : wr.heap.size < v1.heap.size + 1 := by omega); (try have : wr.heap.size + 1 < v1.heap.size + 1 := by omega); (try have : wr.heap.size + 1 + 1 < v1.heap.size + 1 := by omega); (try have : wr.heap.size + 1 + 1 + 1 < v1.heap.size + 1 := by omega); (try have : wr.heap.size + 1 + 1 + 1 + 1 < v1.heap.size + 1 := by omega)))
          exact ⟨⟨j + 1, cm, by omega, by go_num, Lib.hid (HB.out.trans (hbv1.mono HB.out.size)), Lib.hid (blk_later HC.out hbv1), HR⟩, by simp [intOf]; omega⟩
    · obtain rfl : n = j := by omega
      have HGo : Hid (goK (sKinds op) l 0 = some cm) := Lib.hid (by
        rw [HG.out, List.drop_of_length_le (by rw [HLK.out]; exact Nat.le_refl _), List.drop_of_length_le (by rw [HLen.out]; exact Nat.le_refl _)]
        rfl)
      have HR : Hid (vLoop op l = vAfter op l cm) := Lib.hid (by unfold vLoop; rw [HGo.out])
      have hn : 0 < n := by rw [← HLK.out]; exact sig_pos HSig.out
      have HBW : Hid (Below w.heap.size w wr) := Lib.hid (HB2.out.trans (HB.out.mono HB2.out.size))
      clear HG
      by_cases hcm : cm = 0
      · have HAF : Hid ((cm != 0 && l.any (fun v => !sFits v cm)) = false) := Lib.hid (by rw [hcm]; rfl)
        have hbX := HBW.out
        by_cases ho1 : op = [110, 118, 108]
        · subst ho1
          obtain rfl : n = 2 := by have := HLK.out; exact this.symm
          obtain ⟨x, y, rfl⟩ := len2 HLen.out
          have HF : Hid (vAfter [110, 118, 108] [x, y] cm = (if x.k == 0 then y else x, 0)) := Lib.hid (by unfold vAfter; rw [HAF.out]; rfl)
          obtain ⟨bs, off, rfl, hbl, hn9, ⟨c0, c1, c2'⟩, d0, d1, d2⟩ := (HS.out.later hbX).second
          obtain ⟨k, m, t⟩ := x
          obtain ⟨k', m', t'⟩ := y
          simp only at c0 c1 c2' d0 d1 d2
          cases hk : (k == 0) with
          | true =>
            go_wp2
            ((try simp only [Exit.inBlock, Exit.then]); refine bodyPost_ret (by simp only [results, Tryz.results35]; go_simp; try rfl) rfl ?_)
            refine ⟨by rw [HR.out, HF.out]; simp only [hk, if_true], ?_⟩
            (repeat' (first | (with_reducible exact Below.refl _ _) | (with_reducible assumption) | (with_reducible refine Below.alloc ?_ ?_ _) | (with_reducible refine Below.drew ?_) | (with_reducible refine Below.drewN' ?_ _) | (with_reducible refine Below.setCell ?_ ?_ _) | (refine Below.via ?_ (by assumption) ?_) | go_size))
          | false =>
            go_wp2
            ((try simp only [Exit.inBlock, Exit.then]); refine bodyPost_ret (by simp only [results, Tryz.results35]; go_simp; try rfl) rfl ?_)
            refine ⟨by rw [HR.out, HF.out]; simp only [hk, Bool.false_eq_true, if_false], ?_⟩
            (repeat' (first | (with_reducible exact Below.refl _ _) | (with_reducible assumption) | (with_reducible refine Below.alloc ?_ ?_ _) | (with_reducible refine Below.drew ?_) | (with_reducible refine Below.drewN' ?_ _) | (with_reducible refine Below.setCell ?_ ?_ _) | (refine Below.via ?_ (by assumption) ?_) | go_size))
        · have hb1 : (op == [110, 118, 108]) = false := by simpa using ho1
          by_cases ho2 : op = [110, 117, 108, 108, 105, 102]
          · subst ho2
            obtain rfl : n = 2 := by have := HLK.out; exact this.symm
            obtain ⟨x, y, rfl⟩ := len2 HLen.out
            have HF : Hid (vAfter [110, 117, 108, 108, 105, 102] [x, y] cm = (if x.k != 0 && veq x y then vN else x, 0)) := Lib.hid (by unfold vAfter; rw [HAF.out]; rfl)
            obtain ⟨bs, off, rfl, hbl, hn9, ⟨c0, c1, c2'⟩, d0, d1, d2⟩ := (HS.out.later hbX).second
            obtain ⟨k, m, t⟩ := x
            obtain ⟨k', m', t'⟩ := y
            simp only at c0 c1 c2' d0 d1 d2
            cases hk : (k != 0) with
            | true =>
              cases he : veq ⟨k, m, t⟩ ⟨k', m', t'⟩ with
              | true =>
                go_wp2_with fail
                refine wp_region_later (by kernel_rfl) (by kernel_rfl) ?_; (repeat (quiet_step ((fail)))); refine wpQuiet_nil ?_; intro w' hw'; obtain ⟨⟨w', hb⟩, hw''⟩ := hw'; subst hw''
                obtain ⟨u1, rfl⟩ : ∃ u1, u1 = w' := ⟨w', rfl⟩
                have hbu1 : Below wr.heap.size wr u1 := hb
                have z9 : w.heap.size < u1.heap.size := by have := hbu1.size; omega
                have z8 : 0 < u1.heap.size := by omega
                have t0 := (hbu1.cell (p := ⟨w.heap.size, 0, none⟩) (by show w.heap.size < _; omega)).trans r0
                have t1 := (hbu1.cell (p := ⟨w.heap.size, 1, none⟩) (by show w.heap.size < _; omega)).trans r1
                have t2 := (hbu1.cell (p := ⟨w.heap.size, 2, none⟩) (by show w.heap.size < _; omega)).trans r2
                have tf : ∀ i, u1.frozen? ⟨w.heap.size, i, none⟩ = false := fun i => (hbu1.frozen (p := ⟨w.heap.size, i, none⟩) (by show w.heap.size < _; omega)).trans (rf i)
                have h0 := (hbu1.cell (p := ⟨0, 0, none⟩) (by show 0 < _; omega)).trans g0
                have h1 := (hbu1.cell (p := ⟨0, 1, none⟩) (by show 0 < _; omega)).trans g1
                have h2 := (hbu1.cell (p := ⟨0, 2, none⟩) (by show 0 < _; omega)).trans g2
                have e0 := (hbu1.cell (p := ⟨bs, off, none⟩) hbl).trans c0
                have e1 := (hbu1.cell (p := ⟨bs, off + 1, none⟩) hbl).trans c1
                have e2 := (hbu1.cell (p := ⟨bs, off + 2, none⟩) hbl).trans c2'
                have hbs9 : bs < u1.heap.size := Nat.lt_of_lt_of_le hbl hbu1.size
                go_wp2
                ((try simp only [Exit.inBlock, Exit.then]); refine bodyPost_ret (by simp only [results, Tryz.results35]; go_simp; try rfl) rfl ?_)
                refine ⟨by rw [HR.out, HF.out]; simp only [hk, he, Bool.and_self, if_true]; rfl, ?_⟩
                (repeat' (first | (with_reducible exact Below.refl _ _) | (with_reducible assumption) | (with_reducible refine Below.alloc ?_ ?_ _) | (with_reducible refine Below.drew ?_) | (with_reducible refine Below.drewN' ?_ _) | (with_reducible refine Below.setCell ?_ ?_ _) | (refine Below.via ?_ (by assumption) ?_) | go_size))
              | false =>
                go_wp2_with fail
                refine wp_region_later (by kernel_rfl) (by kernel_rfl) ?_; (repeat (quiet_step ((fail)))); refine wpQuiet_nil ?_; intro w' hw'; obtain ⟨⟨w', hb⟩, hw''⟩ := hw'; subst hw''
                obtain ⟨u1, rfl⟩ : ∃ u1, u1 = w' := ⟨w', rfl⟩
                have hbu1 : Below wr.heap.size wr u1 := hb
                have z9 : w.heap.size < u1.heap.size := by have := hbu1.size; omega
                have z8 : 0 < u1.heap.size := by omega
                have t0 := (hbu1.cell (p := ⟨w.heap.size, 0, none⟩) (by show w.heap.size < _; omega)).trans r0
                have t1 := (hbu1.cell (p := ⟨w.heap.size, 1, none⟩) (by show w.heap.size < _; omega)).trans r1
                have t2 := (hbu1.cell (p := ⟨w.heap.size, 2, none⟩) (by show w.heap.size < _; omega)).trans r2
                have tf : ∀ i, u1.frozen? ⟨w.heap.size, i, none⟩ = false := fun i => (hbu1.frozen (p := ⟨w.heap.size, i, none⟩) (by show w.heap.size < _; omega)).trans (rf i)
                have h0 := (hbu1.cell (p := ⟨0, 0, none⟩) (by show 0 < _; omega)).trans g0
                have h1 := (hbu1.cell (p := ⟨0, 1, none⟩) (by show 0 < _; omega)).trans g1
                have h2 := (hbu1.cell (p := ⟨0, 2, none⟩) (by show 0 < _; omega)).trans g2
                have e0 := (hbu1.cell (p := ⟨bs, off, none⟩) hbl).trans c0
                have e1 := (hbu1.cell (p := ⟨bs, off + 1, none⟩) hbl).trans c1
                have e2 := (hbu1.cell (p := ⟨bs, off + 2, none⟩) hbl).trans c2'
                have hbs9 : bs < u1.heap.size := Nat.lt_of_lt_of_le hbl hbu1.size
                go_wp2
                ((try simp only [Exit.inBlock, Exit.then]); refine bodyPost_ret (by simp only [results, Tryz.results35]; go_simp; try rfl) rfl ?_)
                refine ⟨by rw [HR.out, HF.out]; simp only [hk, he, Bool.and_false, Bool.false_eq_true, if_false], ?_⟩
                (repeat' (first | (with_reducible exact Below.refl _ _) | (with_reducible assumption) | (with_reducible refine Below.alloc ?_ ?_ _) | (with_reducible refine Below.drew ?_) | (with_reducible refine Below.drewN' ?_ _) | (with_reducible refine Below.setCell ?_ ?_ _) | (refine Below.via ?_ (by assumption) ?_) | go_size))
            | false =>
              go_wp2_with fail
              refine wp_region_later (by kernel_rfl) (by kernel_rfl) ?_; (repeat (quiet_step ((fail)))); refine wpQuiet_nil ?_; intro w' hw'; obtain ⟨⟨w', hb⟩, hw''⟩ := hw'; subst hw''
              obtain ⟨u1, rfl⟩ : ∃ u1, u1 = w' := ⟨w', rfl⟩
              have hbu1 : Below wr.heap.size wr u1 := hb
              have z9 : w.heap.size < u1.heap.size := by have := hbu1.size; omega
              have z8 : 0 < u1.heap.size := by omega
              have t0 := (hbu1.cell (p := ⟨w.heap.size, 0, none⟩) (by show w.heap.size < _; omega)).trans r0
              have t1 := (hbu1.cell (p := ⟨w.heap.size, 1, none⟩) (by show w.heap.size < _; omega)).trans r1
              have t2 := (hbu1.cell (p := ⟨w.heap.size, 2, none⟩) (by show w.heap.size < _; omega)).trans r2
              have tf : ∀ i, u1.frozen? ⟨w.heap.size, i, none⟩ = false := fun i => (hbu1.frozen (p := ⟨w.heap.size, i, none⟩) (by show w.heap.size < _; omega)).trans (rf i)
              have h0 := (hbu1.cell (p := ⟨0, 0, none⟩) (by show 0 < _; omega)).trans g0
              have h1 := (hbu1.cell (p := ⟨0, 1, none⟩) (by show 0 < _; omega)).trans g1
              have h2 := (hbu1.cell (p := ⟨0, 2, none⟩) (by show 0 < _; omega)).trans g2
              have e0 := (hbu1.cell (p := ⟨bs, off, none⟩) hbl).trans c0
              have e1 := (hbu1.cell (p := ⟨bs, off + 1, none⟩) hbl).trans c1
              have e2 := (hbu1.cell (p := ⟨bs, off + 2, none⟩) hbl).trans c2'
              have hbs9 : bs < u1.heap.size := Nat.lt_of_lt_of_le hbl hbu1.size
              go_wp2
              ((try simp only [Exit.inBlock, Exit.then]); refine bodyPost_ret (by simp only [results, Tryz.results35]; go_simp; try rfl) rfl ?_)
              refine ⟨by rw [HR.out, HF.out]; simp only [hk, Bool.false_and, Bool.false_eq_true, if_false], ?_⟩
              (repeat' (first | (with_reducible exact Below.refl _ _) | (with_reducible assumption) | (with_reducible refine Below.alloc ?_ ?_ _) | (with_reducible refine Below.drew ?_) | (with_reducible refine Below.drewN' ?_ _) | (with_reducible refine Below.setCell ?_ ?_ _) | (refine Below.via ?_ (by assumption) ?_) | go_size))
          · have hb2 : (op == [110, 117, 108, 108, 105, 102]) = false := by simpa using ho2
            have HF : Hid (vAfter op l cm = if l.any (veq vN) then (vN, 0) else vCalled op l) := Lib.hid (by unfold vAfter; rw [HAF.out, hb1, hb2]; rfl)
            cases hnn : l.any (veq vN) with
            | true =>
              have hh := hasV_any A n c l vN wr hn (HS.out.later hbX)
              rw [hnn] at hh
              have HH := Lib.hid hh
              clear hh
              go_wp2_with fail
              refine HH.out.mono ?_; rintro e u1 ⟨rfl, hbu1⟩
              have z9 : w.heap.size < u1.heap.size := by have := hbu1.size; omega
              have z8 : 0 < u1.heap.size := by omega
              have t0 := (hbu1.cell (p := ⟨w.heap.size, 0, none⟩) (by show w.heap.size < _; omega)).trans r0
              have t1 := (hbu1.cell (p := ⟨w.heap.size, 1, none⟩) (by show w.heap.size < _; omega)).trans r1
              have t2 := (hbu1.cell (p := ⟨w.heap.size, 2, none⟩) (by show w.heap.size < _; omega)).trans r2
              have tf : ∀ i, u1.frozen? ⟨w.heap.size, i, none⟩ = false := fun i => (hbu1.frozen (p := ⟨w.heap.size, i, none⟩) (by show w.heap.size < _; omega)).trans (rf i)
              have h0 := (hbu1.cell (p := ⟨0, 0, none⟩) (by show 0 < _; omega)).trans g0
              have h1 := (hbu1.cell (p := ⟨0, 1, none⟩) (by show 0 < _; omega)).trans g1
              have h2 := (hbu1.cell (p := ⟨0, 2, none⟩) (by show 0 < _; omega)).trans g2
              go_wp2
              ((try simp only [Exit.inBlock, Exit.then]); refine bodyPost_ret (by simp only [results, Tryz.results35]; go_simp; try rfl) rfl ?_)
              refine ⟨by rw [HR.out, HF.out, hnn]; rfl, ?_⟩
              (repeat' (first | (with_reducible exact Below.refl _ _) | (with_reducible assumption) | (with_reducible refine Below.alloc ?_ ?_ _) | (with_reducible refine Below.drew ?_) | (with_reducible refine Below.drewN' ?_ _) | (with_reducible refine Below.setCell ?_ ?_ _) | (refine Below.via ?_ (by assumption) ?_) | go_size))
            | false =>
              have hh := hasV_any A n c l vN wr hn (HS.out.later hbX)
              rw [hnn] at hh
              have HH := Lib.hid hh
              clear hh
              go_wp2_with fail
              refine HH.out.mono ?_; rintro e u1 ⟨rfl, hbu1⟩
              have z9 : w.heap.size < u1.heap.size := by have := hbu1.size; omega
              have z8 : 0 < u1.heap.size := by omega
              have t0 := (hbu1.cell (p := ⟨w.heap.size, 0, none⟩) (by show w.heap.size < _; omega)).trans r0
              have t1 := (hbu1.cell (p := ⟨w.heap.size, 1, none⟩) (by show w.heap.size < _; omega)).trans r1
              have t2 := (hbu1.cell (p := ⟨w.heap.size, 2, none⟩) (by show w.heap.size < _; omega)).trans r2
              have tf : ∀ i, u1.frozen? ⟨w.heap.size, i, none⟩ = false := fun i => (hbu1.frozen (p := ⟨w.heap.size, i, none⟩) (by show w.heap.size < _; omega)).trans (rf i)
              have h0 := (hbu1.cell (p := ⟨0, 0, none⟩) (by show 0 < _; omega)).trans g0
              have h1 := (hbu1.cell (p := ⟨0, 1, none⟩) (by show 0 < _; omega)).trans g1
              have h2 := (hbu1.cell (p := ⟨0, 2, none⟩) (by show 0 < _; omega)).trans g2
              have hbU : Below w.heap.size w u1 := hbX.trans (hbu1.mono hbX.size)
              go_wp2_with fail
              refine (called_any op A n c l u1 (HE.out.later hbU) (HS.out.later hbU) HSig.out ho1 ho2 (by rw [HLen.out, HLK.out]) HV.out cm HGo.out hnn).mono ?_; rintro e u2 ⟨rfl, hbu2⟩
              have hbu3 : Below wr.heap.size wr u2 := hbu1.trans (hbu2.mono hbu1.size)
              clear z9 z8 t0 t1 t2 tf h0 h1 h2
              have z9 : w.heap.size < u2.heap.size := by have := hbu3.size; omega
              have z8 : 0 < u2.heap.size := by omega
              have t0 := (hbu3.cell (p := ⟨w.heap.size, 0, none⟩) (by show w.heap.size < _; omega)).trans r0
              have t1 := (hbu3.cell (p := ⟨w.heap.size, 1, none⟩) (by show w.heap.size < _; omega)).trans r1
              have t2 := (hbu3.cell (p := ⟨w.heap.size, 2, none⟩) (by show w.heap.size < _; omega)).trans r2
              have tf : ∀ i, u2.frozen? ⟨w.heap.size, i, none⟩ = false := fun i => (hbu3.frozen (p := ⟨w.heap.size, i, none⟩) (by show w.heap.size < _; omega)).trans (rf i)
              have h0 := (hbu3.cell (p := ⟨0, 0, none⟩) (by show 0 < _; omega)).trans g0
              have h1 := (hbu3.cell (p := ⟨0, 1, none⟩) (by show 0 < _; omega)).trans g1
              have h2 := (hbu3.cell (p := ⟨0, 2, none⟩) (by show 0 < _; omega)).trans g2
              go_wp2
              ((try simp only [Exit.inBlock, Exit.then]); refine bodyPost_ret (by simp only [results, Tryz.results35]; go_simp; try rfl) rfl ?_)
              refine ⟨by rw [HR.out, HF.out, hnn]; rfl, ?_⟩
              (repeat' (first | (with_reducible exact Below.refl _ _) | (with_reducible assumption) | (with_reducible refine Below.alloc ?_ ?_ _) | (with_reducible refine Below.drew ?_) | (with_reducible refine Below.drewN' ?_ _) | (with_reducible refine Below.setCell ?_ ?_ _) | (refine Below.via ?_ (by assumption) ?_) | go_size))
      · have hcn : (cm != 0) = true := by simpa using hcm
        have hany := anyb_any A n c 86 #[.pointer (some ⟨w2.heap.size, 0, none⟩)] l (fun v => !sFits v cm) wr hn (HS.out.later HBW.out) (enters_of Tryz.func86 (by kernel_rfl) rfl) (fits1_pays wr _ cm z2 cc)
        have HA2 := Lib.hid hany
        clear hany
        cases ha : l.any (fun v => !sFits v cm) with
        | true =>
          rw [ha] at HA2
          have HF : Hid (vAfter op l cm = (vN, 16)) := Lib.hid (by unfold vAfter; rw [hcn, ha]; rfl)
          go_wp2_with fail
          refine HA2.out.mono ?_; rintro e u1 ⟨rfl, hbu1⟩
          have z9 : w.heap.size < u1.heap.size := by have := hbu1.size; omega
          have z8 : 0 < u1.heap.size := by omega
          have t0 := (hbu1.cell (p := ⟨w.heap.size, 0, none⟩) (by show w.heap.size < _; omega)).trans r0
          have t1 := (hbu1.cell (p := ⟨w.heap.size, 1, none⟩) (by show w.heap.size < _; omega)).trans r1
          have t2 := (hbu1.cell (p := ⟨w.heap.size, 2, none⟩) (by show w.heap.size < _; omega)).trans r2
          have tf : ∀ i, u1.frozen? ⟨w.heap.size, i, none⟩ = false := fun i => (hbu1.frozen (p := ⟨w.heap.size, i, none⟩) (by show w.heap.size < _; omega)).trans (rf i)
          have h0 := (hbu1.cell (p := ⟨0, 0, none⟩) (by show 0 < _; omega)).trans g0
          have h1 := (hbu1.cell (p := ⟨0, 1, none⟩) (by show 0 < _; omega)).trans g1
          have h2 := (hbu1.cell (p := ⟨0, 2, none⟩) (by show 0 < _; omega)).trans g2
          have hbX := HBW.out
          go_wp2
          ((try simp only [Exit.inBlock, Exit.then]); refine bodyPost_ret (by simp only [results, Tryz.results35]; go_simp; try rfl) rfl ?_)
          refine ⟨by rw [HR.out, HF.out]; rfl, ?_⟩
          (repeat' (first | (with_reducible exact Below.refl _ _) | (with_reducible assumption) | (with_reducible refine Below.alloc ?_ ?_ _) | (with_reducible refine Below.drew ?_) | (with_reducible refine Below.drewN' ?_ _) | (with_reducible refine Below.setCell ?_ ?_ _) | (refine Below.via ?_ (by assumption) ?_) | go_size))
        | false =>
          rw [ha] at HA2
          have HAF : Hid ((cm != 0 && l.any (fun v => !sFits v cm)) = false) := Lib.hid (by rw [ha, Bool.and_false])
          go_wp2_with fail
          refine HA2.out.mono ?_; rintro e v1 ⟨rfl, hbv1⟩
          have HB1 : Hid (Below w2.heap.size w2 v1) := Lib.hid (HB.out.trans (hbv1.mono HB.out.size))
          have hbX : Below w.heap.size w v1 := HBW.out.trans (hbv1.mono HBW.out.size)
          clear z2 zr zp cc cf r0 r1 r2 rf g0 g1 g2
          have z2 : w2.heap.size < v1.heap.size := blk_lt (blk_later HC.out hbv1)
          have zr : w.heap.size < v1.heap.size := by omega
          have zp : 0 < v1.heap.size := by omega
          have r0 := (HB1.out.cell (p := ⟨w.heap.size, 0, none⟩) (by show w.heap.size < _; omega)).trans qw20
          have r1 := (HB1.out.cell (p := ⟨w.heap.size, 1, none⟩) (by show w.heap.size < _; omega)).trans qw21
          have r2 := (HB1.out.cell (p := ⟨w.heap.size, 2, none⟩) (by show w.heap.size < _; omega)).trans qw22
          have rf : ∀ i, v1.frozen? ⟨w.heap.size, i, none⟩ = false := fun i => (HB1.out.frozen (p := ⟨w.heap.size, i, none⟩) (by show w.heap.size < _; omega)).trans (f2 i)
          have g0 := (HB1.out.cell (p := ⟨0, 0, none⟩) (by show 0 < _; omega)).trans m0
          have g1 := (HB1.out.cell (p := ⟨0, 1, none⟩) (by show 0 < _; omega)).trans m1
          have g2 := (HB1.out.cell (p := ⟨0, 2, none⟩) (by show 0 < _; omega)).trans m2
          by_cases ho1 : op = [110, 118, 108]
          · subst ho1
            obtain rfl : n = 2 := by have := HLK.out; exact this.symm
            obtain ⟨x, y, rfl⟩ := len2 HLen.out
            have HF : Hid (vAfter [110, 118, 108] [x, y] cm = (if x.k == 0 then y else x, 0)) := Lib.hid (by unfold vAfter; rw [HAF.out]; rfl)
            obtain ⟨bs, off, rfl, hbl, hn9, ⟨c0, c1, c2'⟩, d0, d1, d2⟩ := (HS.out.later hbX).second
            obtain ⟨k, m, t⟩ := x
            obtain ⟨k', m', t'⟩ := y
            simp only at c0 c1 c2' d0 d1 d2
            cases hk : (k == 0) with
            | true =>
              go_wp2
              ((try simp only [Exit.inBlock, Exit.then]); refine bodyPost_ret (by simp only [results, Tryz.results35]; go_simp; try rfl) rfl ?_)
              refine ⟨by rw [HR.out, HF.out]; simp only [hk, if_true], ?_⟩
              (repeat' (first | (with_reducible exact Below.refl _ _) | (with_reducible assumption) | (with_reducible refine Below.alloc ?_ ?_ _) | (with_reducible refine Below.drew ?_) | (with_reducible refine Below.drewN' ?_ _) | (with_reducible refine Below.setCell ?_ ?_ _) | (refine Below.via ?_ (by assumption) ?_) | go_size))
            | false =>
              go_wp2
              ((try simp only [Exit.inBlock, Exit.then]); refine bodyPost_ret (by simp only [results, Tryz.results35]; go_simp; try rfl) rfl ?_)
              refine ⟨by rw [HR.out, HF.out]; simp only [hk, Bool.false_eq_true, if_false], ?_⟩
              (repeat' (first | (with_reducible exact Below.refl _ _) | (with_reducible assumption) | (with_reducible refine Below.alloc ?_ ?_ _) | (with_reducible refine Below.drew ?_) | (with_reducible refine Below.drewN' ?_ _) | (with_reducible refine Below.setCell ?_ ?_ _) | (refine Below.via ?_ (by assumption) ?_) | go_size))
          · have hb1 : (op == [110, 118, 108]) = false := by simpa using ho1
            by_cases ho2 : op = [110, 117, 108, 108, 105, 102]
            · subst ho2
              obtain rfl : n = 2 := by have := HLK.out; exact this.symm
              obtain ⟨x, y, rfl⟩ := len2 HLen.out
              have HF : Hid (vAfter [110, 117, 108, 108, 105, 102] [x, y] cm = (if x.k != 0 && veq x y then vN else x, 0)) := Lib.hid (by unfold vAfter; rw [HAF.out]; rfl)
              obtain ⟨bs, off, rfl, hbl, hn9, ⟨c0, c1, c2'⟩, d0, d1, d2⟩ := (HS.out.later hbX).second
              obtain ⟨k, m, t⟩ := x
              obtain ⟨k', m', t'⟩ := y
              simp only at c0 c1 c2' d0 d1 d2
              cases hk : (k != 0) with
              | true =>
                cases he : veq ⟨k, m, t⟩ ⟨k', m', t'⟩ with
                | true =>
                  go_wp2_with fail
                  refine wp_region_later (by kernel_rfl) (by kernel_rfl) ?_; (repeat (quiet_step ((fail)))); refine wpQuiet_nil ?_; intro w' hw'; obtain ⟨⟨w', hb⟩, hw''⟩ := hw'; subst hw''
                  obtain ⟨u1, rfl⟩ : ∃ u1, u1 = w' := ⟨w', rfl⟩
                  have hbu1 : Below v1.heap.size v1 u1 := hb
                  have z9 : w.heap.size < u1.heap.size := by have := hbu1.size; omega
                  have z8 : 0 < u1.heap.size := by omega
                  have t0 := (hbu1.cell (p := ⟨w.heap.size, 0, none⟩) (by show w.heap.size < _; omega)).trans r0
                  have t1 := (hbu1.cell (p := ⟨w.heap.size, 1, none⟩) (by show w.heap.size < _; omega)).trans r1
                  have t2 := (hbu1.cell (p := ⟨w.heap.size, 2, none⟩) (by show w.heap.size < _; omega)).trans r2
                  have tf : ∀ i, u1.frozen? ⟨w.heap.size, i, none⟩ = false := fun i => (hbu1.frozen (p := ⟨w.heap.size, i, none⟩) (by show w.heap.size < _; omega)).trans (rf i)
                  have h0 := (hbu1.cell (p := ⟨0, 0, none⟩) (by show 0 < _; omega)).trans g0
                  have h1 := (hbu1.cell (p := ⟨0, 1, none⟩) (by show 0 < _; omega)).trans g1
                  have h2 := (hbu1.cell (p := ⟨0, 2, none⟩) (by show 0 < _; omega)).trans g2
                  have e0 := (hbu1.cell (p := ⟨bs, off, none⟩) hbl).trans c0
                  have e1 := (hbu1.cell (p := ⟨bs, off + 1, none⟩) hbl).trans c1
                  have e2 := (hbu1.cell (p := ⟨bs, off + 2, none⟩) hbl).trans c2'
                  have hbs9 : bs < u1.heap.size := Nat.lt_of_lt_of_le hbl hbu1.size
                  go_wp2
                  ((try simp only [Exit.inBlock, Exit.then]); refine bodyPost_ret (by simp only [results, Tryz.results35]; go_simp; try rfl) rfl ?_)
                  refine ⟨by rw [HR.out, HF.out]; simp only [hk, he, Bool.and_self, if_true]; rfl, ?_⟩
                  (repeat' (first | (with_reducible exact Below.refl _ _) | (with_reducible assumption) | (with_reducible refine Below.alloc ?_ ?_ _) | (with_reducible refine Below.drew ?_) | (with_reducible refine Below.drewN' ?_ _) | (with_reducible refine Below.setCell ?_ ?_ _) | (refine Below.via ?_ (by assumption) ?_) | go_size))
                | false =>
                  go_wp2_with fail
                  refine wp_region_later (by kernel_rfl) (by kernel_rfl) ?_; (repeat (quiet_step ((fail)))); refine wpQuiet_nil ?_; intro w' hw'; obtain ⟨⟨w', hb⟩, hw''⟩ := hw'; subst hw''
                  obtain ⟨u1, rfl⟩ : ∃ u1, u1 = w' := ⟨w', rfl⟩
                  have hbu1 : Below v1.heap.size v1 u1 := hb
                  have z9 : w.heap.size < u1.heap.size := by have := hbu1.size; omega
                  have z8 : 0 < u1.heap.size := by omega
                  have t0 := (hbu1.cell (p := ⟨w.heap.size, 0, none⟩) (by show w.heap.size < _; omega)).trans r0
                  have t1 := (hbu1.cell (p := ⟨w.heap.size, 1, none⟩) (by show w.heap.size < _; omega)).trans r1
                  have t2 := (hbu1.cell (p := ⟨w.heap.size, 2, none⟩) (by show w.heap.size < _; omega)).trans r2
                  have tf : ∀ i, u1.frozen? ⟨w.heap.size, i, none⟩ = false := fun i => (hbu1.frozen (p := ⟨w.heap.size, i, none⟩) (by show w.heap.size < _; omega)).trans (rf i)
                  have h0 := (hbu1.cell (p := ⟨0, 0, none⟩) (by show 0 < _; omega)).trans g0
                  have h1 := (hbu1.cell (p := ⟨0, 1, none⟩) (by show 0 < _; omega)).trans g1
                  have h2 := (hbu1.cell (p := ⟨0, 2, none⟩) (by show 0 < _; omega)).trans g2
                  have e0 := (hbu1.cell (p := ⟨bs, off, none⟩) hbl).trans c0
                  have e1 := (hbu1.cell (p := ⟨bs, off + 1, none⟩) hbl).trans c1
                  have e2 := (hbu1.cell (p := ⟨bs, off + 2, none⟩) hbl).trans c2'
                  have hbs9 : bs < u1.heap.size := Nat.lt_of_lt_of_le hbl hbu1.size
                  go_wp2
                  ((try simp only [Exit.inBlock, Exit.then]); refine bodyPost_ret (by simp only [results, Tryz.results35]; go_simp; try rfl) rfl ?_)
                  refine ⟨by rw [HR.out, HF.out]; simp only [hk, he, Bool.and_false, Bool.false_eq_true, if_false], ?_⟩
                  (repeat' (first | (with_reducible exact Below.refl _ _) | (with_reducible assumption) | (with_reducible refine Below.alloc ?_ ?_ _) | (with_reducible refine Below.drew ?_) | (with_reducible refine Below.drewN' ?_ _) | (with_reducible refine Below.setCell ?_ ?_ _) | (refine Below.via ?_ (by assumption) ?_) | go_size))
              | false =>
                go_wp2_with fail
                refine wp_region_later (by kernel_rfl) (by kernel_rfl) ?_; (repeat (quiet_step ((fail)))); refine wpQuiet_nil ?_; intro w' hw'; obtain ⟨⟨w', hb⟩, hw''⟩ := hw'; subst hw''
                obtain ⟨u1, rfl⟩ : ∃ u1, u1 = w' := ⟨w', rfl⟩
                have hbu1 : Below v1.heap.size v1 u1 := hb
                have z9 : w.heap.size < u1.heap.size := by have := hbu1.size; omega
                have z8 : 0 < u1.heap.size := by omega
                have t0 := (hbu1.cell (p := ⟨w.heap.size, 0, none⟩) (by show w.heap.size < _; omega)).trans r0
                have t1 := (hbu1.cell (p := ⟨w.heap.size, 1, none⟩) (by show w.heap.size < _; omega)).trans r1
                have t2 := (hbu1.cell (p := ⟨w.heap.size, 2, none⟩) (by show w.heap.size < _; omega)).trans r2
                have tf : ∀ i, u1.frozen? ⟨w.heap.size, i, none⟩ = false := fun i => (hbu1.frozen (p := ⟨w.heap.size, i, none⟩) (by show w.heap.size < _; omega)).trans (rf i)
                have h0 := (hbu1.cell (p := ⟨0, 0, none⟩) (by show 0 < _; omega)).trans g0
                have h1 := (hbu1.cell (p := ⟨0, 1, none⟩) (by show 0 < _; omega)).trans g1
                have h2 := (hbu1.cell (p := ⟨0, 2, none⟩) (by show 0 < _; omega)).trans g2
                have e0 := (hbu1.cell (p := ⟨bs, off, none⟩) hbl).trans c0
                have e1 := (hbu1.cell (p := ⟨bs, off + 1, none⟩) hbl).trans c1
                have e2 := (hbu1.cell (p := ⟨bs, off + 2, none⟩) hbl).trans c2'
                have hbs9 : bs < u1.heap.size := Nat.lt_of_lt_of_le hbl hbu1.size
                go_wp2
                ((try simp only [Exit.inBlock, Exit.then]); refine bodyPost_ret (by simp only [results, Tryz.results35]; go_simp; try rfl) rfl ?_)
                refine ⟨by rw [HR.out, HF.out]; simp only [hk, Bool.false_and, Bool.false_eq_true, if_false], ?_⟩
                (repeat' (first | (with_reducible exact Below.refl _ _) | (with_reducible assumption) | (with_reducible refine Below.alloc ?_ ?_ _) | (with_reducible refine Below.drew ?_) | (with_reducible refine Below.drewN' ?_ _) | (with_reducible refine Below.setCell ?_ ?_ _) | (refine Below.via ?_ (by assumption) ?_) | go_size))
            · have hb2 : (op == [110, 117, 108, 108, 105, 102]) = false := by simpa using ho2
              have HF : Hid (vAfter op l cm = if l.any (veq vN) then (vN, 0) else vCalled op l) := Lib.hid (by unfold vAfter; rw [HAF.out, hb1, hb2]; rfl)
              cases hnn : l.any (veq vN) with
              | true =>
                have hh := hasV_any A n c l vN v1 hn (HS.out.later hbX)
                rw [hnn] at hh
                have HH := Lib.hid hh
                clear hh
                go_wp2_with fail
                refine HH.out.mono ?_; rintro e u1 ⟨rfl, hbu1⟩
                have z9 : w.heap.size < u1.heap.size := by have := hbu1.size; omega
                have z8 : 0 < u1.heap.size := by omega
                have t0 := (hbu1.cell (p := ⟨w.heap.size, 0, none⟩) (by show w.heap.size < _; omega)).trans r0
                have t1 := (hbu1.cell (p := ⟨w.heap.size, 1, none⟩) (by show w.heap.size < _; omega)).trans r1
                have t2 := (hbu1.cell (p := ⟨w.heap.size, 2, none⟩) (by show w.heap.size < _; omega)).trans r2
                have tf : ∀ i, u1.frozen? ⟨w.heap.size, i, none⟩ = false := fun i => (hbu1.frozen (p := ⟨w.heap.size, i, none⟩) (by show w.heap.size < _; omega)).trans (rf i)
                have h0 := (hbu1.cell (p := ⟨0, 0, none⟩) (by show 0 < _; omega)).trans g0
                have h1 := (hbu1.cell (p := ⟨0, 1, none⟩) (by show 0 < _; omega)).trans g1
                have h2 := (hbu1.cell (p := ⟨0, 2, none⟩) (by show 0 < _; omega)).trans g2
                go_wp2
                ((try simp only [Exit.inBlock, Exit.then]); refine bodyPost_ret (by simp only [results, Tryz.results35]; go_simp; try rfl) rfl ?_)
                refine ⟨by rw [HR.out, HF.out, hnn]; rfl, ?_⟩
                (repeat' (first | (with_reducible exact Below.refl _ _) | (with_reducible assumption) | (with_reducible refine Below.alloc ?_ ?_ _) | (with_reducible refine Below.drew ?_) | (with_reducible refine Below.drewN' ?_ _) | (with_reducible refine Below.setCell ?_ ?_ _) | (refine Below.via ?_ (by assumption) ?_) | go_size))
              | false =>
                have hh := hasV_any A n c l vN v1 hn (HS.out.later hbX)
                rw [hnn] at hh
                have HH := Lib.hid hh
                clear hh
                go_wp2_with fail
                refine HH.out.mono ?_; rintro e u1 ⟨rfl, hbu1⟩
                have z9 : w.heap.size < u1.heap.size := by have := hbu1.size; omega
                have z8 : 0 < u1.heap.size := by omega
                have t0 := (hbu1.cell (p := ⟨w.heap.size, 0, none⟩) (by show w.heap.size < _; omega)).trans r0
                have t1 := (hbu1.cell (p := ⟨w.heap.size, 1, none⟩) (by show w.heap.size < _; omega)).trans r1
                have t2 := (hbu1.cell (p := ⟨w.heap.size, 2, none⟩) (by show w.heap.size < _; omega)).trans r2
                have tf : ∀ i, u1.frozen? ⟨w.heap.size, i, none⟩ = false := fun i => (hbu1.frozen (p := ⟨w.heap.size, i, none⟩) (by show w.heap.size < _; omega)).trans (rf i)
                have h0 := (hbu1.cell (p := ⟨0, 0, none⟩) (by show 0 < _; omega)).trans g0
                have h1 := (hbu1.cell (p := ⟨0, 1, none⟩) (by show 0 < _; omega)).trans g1
                have h2 := (hbu1.cell (p := ⟨0, 2, none⟩) (by show 0 < _; omega)).trans g2
                have hbU : Below w.heap.size w u1 := hbX.trans (hbu1.mono hbX.size)
                go_wp2_with fail
                refine (called_any op A n c l u1 (HE.out.later hbU) (HS.out.later hbU) HSig.out ho1 ho2 (by rw [HLen.out, HLK.out]) HV.out cm HGo.out hnn).mono ?_; rintro e u2 ⟨rfl, hbu2⟩
                have hbu3 : Below v1.heap.size v1 u2 := hbu1.trans (hbu2.mono hbu1.size)
                clear z9 z8 t0 t1 t2 tf h0 h1 h2
                have z9 : w.heap.size < u2.heap.size := by have := hbu3.size; omega
                have z8 : 0 < u2.heap.size := by omega
                have t0 := (hbu3.cell (p := ⟨w.heap.size, 0, none⟩) (by show w.heap.size < _; omega)).trans r0
                have t1 := (hbu3.cell (p := ⟨w.heap.size, 1, none⟩) (by show w.heap.size < _; omega)).trans r1
                have t2 := (hbu3.cell (p := ⟨w.heap.size, 2, none⟩) (by show w.heap.size < _; omega)).trans r2
                have tf : ∀ i, u2.frozen? ⟨w.heap.size, i, none⟩ = false := fun i => (hbu3.frozen (p := ⟨w.heap.size, i, none⟩) (by show w.heap.size < _; omega)).trans (rf i)
                have h0 := (hbu3.cell (p := ⟨0, 0, none⟩) (by show 0 < _; omega)).trans g0
                have h1 := (hbu3.cell (p := ⟨0, 1, none⟩) (by show 0 < _; omega)).trans g1
                have h2 := (hbu3.cell (p := ⟨0, 2, none⟩) (by show 0 < _; omega)).trans g2
                go_wp2
                ((try simp only [Exit.inBlock, Exit.then]); refine bodyPost_ret (by simp only [results, Tryz.results35]; go_simp; try rfl) rfl ?_)
                refine ⟨by rw [HR.out, HF.out, hnn]; rfl, ?_⟩
                (repeat' (first | (with_reducible exact Below.refl _ _) | (with_reducible assumption) | (with_reducible refine Below.alloc ?_ ?_ _) | (with_reducible refine Below.drew ?_) | (with_reducible refine Below.drewN' ?_ _) | (with_reducible refine Below.setCell ?_ ?_ _) | (refine Below.via ?_ (by assumption) ?_) | go_size))
end Go.Proofs.YtpmfpfkahanlaaaGreatDoor

/- Call of package value: the whole. -/
namespace Go.Proofs.YtpmfpfkahanlaaaGreatDoor
open Go.RowKit
theorem call_any (op : List UInt8) (A : Option Addr) (n c : Nat) (l : List V) (w : World) (hE : Env w) (hS : Sl w A n l) :
    Calls Tryz.prog 35 #[.string ⟨op.toArray⟩, .slice A n c] w fun e w' => e = .returned (.tuple #[.agg #[.int .i64 (vCall op l).1.k, .int .i64 (vCall op l).1.n, .string ⟨List.toArray (vCall op l).1.t⟩], .int .i64 (vCall op l).2]) ∧ Below w.heap.size w w' := by
  have hlen := hS.len
  unfold vCall
  cases hv : l.all sValid with
  | false => exact call_bad op A n c l w hE hS hv
  | true =>
  rw [if_neg (by simp)]
  cases hs : isSig op with
  | false =>
    rw [if_pos (by simp)]
    have := call_sig op A n c l w hE hS hv (.inl hs)
    rw [hs] at this
    exact this
  | true =>
  rw [if_neg (by simp)]
  by_cases hn : (sKinds op).length = l.length
  · rw [if_neg (by simpa using hn)]
    exact call_go op A n c l w hE hS hv hs (hn.trans hlen)
  · rw [if_pos (by simpa using hn)]
    have := call_sig op A n c l w hE hS hv (.inr ⟨hs, by rw [← hlen]; exact hn⟩)
    rw [hs] at this
    exact this
end Go.Proofs.YtpmfpfkahanlaaaGreatDoor
