/- The sum of package value, walked. -/
import Derived.Test.YtpmfpfkahanlaaaGreatDoorHA
import Derived.Test.YtpmfpfkahanlaaaGreatDoorHE
import Derived.Test.YtpmfpfkahanlaaaGreatDoorHD
import Derived.Test.YtpmfpfkahanlaaaGreatDoorHB
namespace Go.Proofs.YtpmfpfkahanlaaaGreatDoor
open Go.RowKit
set_option linter.unusedSimpArgs false
set_option linter.unusedVariables false
attribute [local go_sem] Later.cell Later.lt
attribute [local go_sem high] run_eqV run_neV
attribute [local go_sem] cell_set_same

theorem tdm (x : Int) (h1 : -1100586418175 ≤ x) (h2 : x ≤ 1100586418175) : x.tdiv 1073741824 * 1073741824 + x.tmod 1073741824 = x ∧ -1073741824 < x.tmod 1073741824 ∧ x.tmod 1073741824 < 1073741824 ∧ -2048 ≤ x.tdiv 1073741824 ∧ x.tdiv 1073741824 ≤ 2048 := by
  have e := Int.tdiv_mul_add_tmod x 1073741824
  rcases Int.lt_or_le x 0 with h | h
  · have a1 : x.tdiv 1073741824 = -((-x) / 1073741824) := by
      have : x = -(-x) := by omega
      rw [this, Int.neg_tdiv, Int.tdiv_eq_ediv_of_nonneg (by omega)]
      simp
    have a2 : x.tmod 1073741824 = -((-x) % 1073741824) := by
      have : x = -(-x) := by omega
      rw [this, Int.neg_tmod, Int.tmod_eq_emod_of_nonneg (by omega)]
      simp
    omega
  · have a1 : x.tdiv 1073741824 = x / 1073741824 := Int.tdiv_eq_ediv_of_nonneg h
    have a2 : x.tmod 1073741824 = x % 1073741824 := Int.tmod_eq_emod_of_nonneg h
    omega
set_option maxRecDepth 100000 in
set_option maxHeartbeats 4000000 in
theorem sum_any (A : Option Addr) (n c : Nat) (l : List V) (w : World) (hE : Env w) (hS : Sl w A n l) (hb : ∀ v ∈ l, -1099511627776 ≤ v.n ∧ v.n ≤ 1099511627776) :
    Calls Tryz.prog 94 #[.slice A n c] w fun e w' => e = .returned (.tuple #[.agg #[.int .i64 (sWhole (sumN l)).1.k, .int .i64 (sWhole (sumN l)).1.n, .string ⟨List.toArray (sWhole (sumN l)).1.t⟩], .int .i64 (sWhole (sumN l)).2]) ∧ Below w.heap.size w w' := by
  have HE := Lib.hid hE
  obtain ⟨n0, n1, n2, hpos⟩ := hE.nul
  have hlen := Lib.hid hS.len
  have hbig := hS.big
  have HS := Lib.hid hS
  have HN := Lib.hid hb
  clear hE hS hb
  go_enter Tryz.func94, Tryz.ntmps94
  go_wp2
  go_loopw [4, 5, 10] (fun h s i wr => ∃ (j : Nat) (hi lo : Int), j ≤ n ∧ i = .int .i64 j ∧ h = .int .i64 hi ∧ s = .int .i64 lo ∧ Hid (Below (w.heap.size + 1) (w.alloc (.cells #[.int .i64 0, .int .i64 0, .string ⟨#[]⟩] 27)) wr) ∧ Hid (hi * 1073741824 + lo = sumN (l.take j)) ∧ (-1073741824 < lo ∧ lo < 1073741824 ∧ -(j * 2048) ≤ hi ∧ hi ≤ j * 2048)) (fun _ _ i wr => n - (intOf i).toNat)
  case atStart => exact ⟨0, 0, 0, Nat.zero_le _, rfl, rfl, rfl, Lib.hid (by have := Below.refl (w.heap.size + 1) (w.alloc (.cells #[.int .i64 0, .int .i64 0, .string ⟨#[]⟩] 27)); exact this), Lib.hid (by simp [sumN]), by omega⟩
  case round =>
    obtain ⟨j, hi, lo, hj, rfl, rfl, rfl, HB, HM, hl1, hl2, hh1, hh2⟩ := hrel
    by_cases hlt : j < n
    · have HBW : Hid (Below w.heap.size w wr) := Lib.hid (((Below.refl w.heap.size w).alloc (Nat.le_refl _) _).trans (HB.out.mono (by omega)))
      obtain ⟨b, off, rfl, hbl, hc⟩ := (HS.out.later HBW.out).at_ (by omega)
      have hl : j < l.length := by rw [hlen.out]; exact hlt
      obtain ⟨c0, c1, c2⟩ := hc j hl
      have HTk : Hid (l.take (j + 1) = l.take j ++ [l[j]]) := Lib.hid (List.take_succ_eq_append_getElem hl)
      have hxb := HN.out _ (List.getElem_mem hl)
      generalize l[j] = x at c0 c1 c2 HTk hxb
      obtain ⟨k, a, t⟩ := x
      clear hc
      simp only at c0 c1 c2 hxb
      obtain ⟨hx1, hx2⟩ := hxb
      go_wp2
      obtain ⟨d1, d2, d3, d4, d5⟩ := tdm (lo + a) (by omega) (by omega)
      refine ⟨⟨j + 1, hi + (lo + a).tdiv 1073741824, (lo + a).tmod 1073741824, by omega, by go_num, by rw [show wrap64 (hi + (lo + a).tdiv 1073741824) = hi + (lo + a).tdiv 1073741824 by unfold wrap64; omega], rfl, Lib.hid (HB.out.alloc (by have := HB.out.size; simp at this; omega) _), ?_, by omega⟩, by simp [intOf]; omega⟩
      have := HM.out
      exact Lib.hid (by rw [HTk.out, sumN_append]; simp only [sumN]; omega)
    · obtain rfl : n = j := by omega
      have hm := HM.out
      rw [List.take_of_length_le (by rw [hlen.out]; exact Nat.le_refl _)] at hm
      have hb0 : w.heap.size < wr.heap.size := by have := HB.out.size; simp at this; omega
      have r0 := (HB.out.cell (p := ⟨w.heap.size, 0, none⟩) (by show w.heap.size < _; omega)).trans (World.cell?_alloc_new w _ _ 0)
      have r1 := (HB.out.cell (p := ⟨w.heap.size, 1, none⟩) (by show w.heap.size < _; omega)).trans (World.cell?_alloc_new w _ _ 1)
      have r2 := (HB.out.cell (p := ⟨w.heap.size, 2, none⟩) (by show w.heap.size < _; omega)).trans (World.cell?_alloc_new w _ _ 2)
      simp only [List.getElem?_toArray, List.getElem?_cons_zero, List.getElem?_cons_succ] at r0 r1 r2
      have rf : ∀ i, wr.frozen? ⟨w.heap.size, i, none⟩ = false := fun i => (HB.out.frozen (p := ⟨w.heap.size, i, none⟩) (by show w.heap.size < _; omega)).trans (blk_frozen (blk_new w 27 _) i)
      have hBW : Below w.heap.size w wr := ((Below.refl w.heap.size w).alloc (Nat.le_refl _) _).trans (HB.out.mono (by omega))
      have g0 := (hBW.cell (p := ⟨0, 0, none⟩) hpos).trans n0
      have g1 := (hBW.cell (p := ⟨0, 1, none⟩) hpos).trans n1
      have g2 := (hBW.cell (p := ⟨0, 2, none⟩) hpos).trans n2
      have zp : 0 < wr.heap.size := by omega
      by_cases hc1 : 2048 < hi
      · have HR : Hid (sWhole (sumN l) = (vN, 21)) := Lib.hid (by
          unfold sWhole sIsInt
          rw [if_neg]
          simp only [Bool.and_eq_true, decide_eq_true_eq]
          omega)
        go_wp2
        all_goals (((try simp only [Exit.inBlock, Exit.then]); refine bodyPost_ret (by simp only [results, Tryz.results94]; go_simp; try rfl) rfl ?_); refine ⟨by rw [HR.out]; rfl, ?_⟩; (repeat' (first | (with_reducible exact Below.refl _ _) | (with_reducible assumption) | (with_reducible refine Below.alloc ?_ ?_ _) | (with_reducible refine Below.drew ?_) | (with_reducible refine Below.drewN' ?_ _) | (with_reducible refine Below.setCell ?_ ?_ _) | (refine Below.via ?_ (by assumption) ?_) | go_size)))
      · by_cases hc2 : hi < -2048
        · have HR : Hid (sWhole (sumN l) = (vN, 21)) := Lib.hid (by
            unfold sWhole sIsInt
            rw [if_neg]
            simp only [Bool.and_eq_true, decide_eq_true_eq]
            omega)
          go_wp2
          all_goals (((try simp only [Exit.inBlock, Exit.then]); refine bodyPost_ret (by simp only [results, Tryz.results94]; go_simp; try rfl) rfl ?_); refine ⟨by rw [HR.out]; rfl, ?_⟩; (repeat' (first | (with_reducible exact Below.refl _ _) | (with_reducible assumption) | (with_reducible refine Below.alloc ?_ ?_ _) | (with_reducible refine Below.drew ?_) | (with_reducible refine Below.drewN' ?_ _) | (with_reducible refine Below.setCell ?_ ?_ _) | (refine Below.via ?_ (by assumption) ?_) | go_size)))
        · have HR : Hid (sumN l = hi * 1073741824 + lo) := Lib.hid hm.symm
          clear hm
          go_wp2_with ((go_at_call 65; refine (whole_e _ _ ((HE.out.later (by (repeat' (first | (with_reducible exact Below.refl _ _) | (with_reducible assumption) | (with_reducible refine Below.alloc ?_ ?_ _) | (with_reducible refine Below.drew ?_) | (with_reducible refine Below.drewN' ?_ _) | (with_reducible refine Below.setCell ?_ ?_ _) | (refine Below.via ?_ (by assumption) ?_) | go_size)))).nul)).mono ?_; rintro e v1 ⟨rfl, hbv1⟩; obtain ⟨hcv1, hfv1⟩ := bfacts hbv1; have hzv1 := hbv1.size; (try simp only [World.size_alloc, World.size_setCell, World.size_drew] at hzv1); (try have hpv1 : 0 < v1.heap.size := by omega); (try have : w.heap.size < v1.heap.size := by omega); (try have : w.heap.size + 1 < v1.heap.size := by omega); (try have : w.heap.size + 1 + 1 < v1.heap.size := by omega); (try have : w.heap.size + 1 + 1 + 1 < v1.heap.size := by omega); (try have : w.heap.size + 1 + 1 + 1 + 1 < v1.heap.size := by omega); (try have : w.heap.size + 1 + 1 + 1 + 1 + 1 < v1.heap.size := by omega); (try have : w.heap.size < v1.heap.size + 1 := by omega); (try have : w.heap.size + 1 < v1.heap.size + 1 := by omega); (try have : w.heap.size + 1 + 1 < v1.heap.size + 1 := by omega); (try have : w.heap.size + 1 + 1 + 1 < v1.heap.size + 1 := by omega); (try have : w.heap.size + 1 + 1 + 1 + 1 < v1.heap.size + 1 := by omega); (try have : wr.heap.size < v1.heap.size := by omega); (try have : wr.heap.size + 1 < v1.heap.size := by omega); (try have : wr.heap.size + 1 + 1 < v1.heap.size := by omega); (try have : wr.heap.size + 1 + 1 + 1 < v1.heap.size := by omega); (try have : wr.heap.size + 1 + 1 + 1 + 1 < v1.heap.size := by omega); (try have : wr.heap.size + 1 + 1 + 1 + 1 + 1 < v1.heap.size := by omega); (try have : wr.heap.size < v1.heap.size + 1 := by omega); (try have : wr.heap.size + 1 < v1.heap.size + 1 := by omega); (try have : wr.heap.size + 1 + 1 < v1.heap.size + 1 := by omega); (try have : wr.heap.size + 1 + 1 + 1 < v1.heap.size + 1 := by omega); (try have : wr.heap.size + 1 + 1 + 1 + 1 < v1.heap.size + 1 := by omega)); have qv10 : v1.cell? ⟨w.heap.size, 0, none⟩ = some (.int .i64 0) := (hcv1 _ _ (by go_size)).trans (by go_simp); have qv11 : v1.cell? ⟨w.heap.size, 1, none⟩ = some (.int .i64 0) := (hcv1 _ _ (by go_size)).trans (by go_simp); have qv12 : v1.cell? ⟨w.heap.size, 2, none⟩ = some (.string ⟨#[]⟩) := (hcv1 _ _ (by go_size)).trans (by go_simp))
          ((try simp only [Exit.inBlock, Exit.then]); refine bodyPost_ret (by simp only [results, Tryz.results94]; go_simp; try rfl) rfl ?_)
          refine ⟨by rw [HR.out], ?_⟩
          (repeat' (first | (with_reducible exact Below.refl _ _) | (with_reducible assumption) | (with_reducible refine Below.alloc ?_ ?_ _) | (with_reducible refine Below.drew ?_) | (with_reducible refine Below.drewN' ?_ _) | (with_reducible refine Below.setCell ?_ ?_ _) | (refine Below.via ?_ (by assumption) ?_) | go_size))
end Go.Proofs.YtpmfpfkahanlaaaGreatDoor

/- MinFunc and MaxFunc over values, walked. -/
namespace Go.Proofs.YtpmfpfkahanlaaaGreatDoor
open Go.RowKit
set_option linter.unusedSimpArgs false
set_option linter.unusedVariables false
attribute [local go_sem] Later.cell Later.lt
attribute [local go_sem high] run_eqV run_neV
attribute [local go_sem] cell_set_same

set_option maxRecDepth 100000 in
set_option maxHeartbeats 4000000 in
theorem minF_any (A : Option Addr) (n c : Nat) (x : V) (r : List V) (w : World) (hS : Sl w A n (x :: r)) :
    Calls Tryz.prog 92 #[.slice A n c, .func (.func 70) #[] #[]] w fun e w' => e = .returned (.agg #[.int .i64 (minGo x r).k, .int .i64 (minGo x r).n, .string ⟨List.toArray (minGo x r).t⟩]) ∧ Below w.heap.size w w' := by
  have hlen := hS.len
  have hbig := hS.big
  obtain ⟨b, off, rfl, hb, hn, c0, c1, c2⟩ := hS.first
  have HS := Lib.hid hS
  have hn1 : ¬ (n : Int) < 1 := by omega
  have HLen := Lib.hid hlen
  clear hS hlen
  go_enter Tryz.func92, Tryz.ntmps92
  go_wp2
  go_loopw [6] (fun i wr => ∃ (j : Nat) (m : V), 1 ≤ j ∧ j ≤ n ∧ i = .int .i64 j ∧ Hid (Below (w.heap.size + 1) (w.alloc (.cells (cellsV vN) 27)) wr) ∧ Hid (Blk wr (w.heap.size + 1) 27 (cellsV m)) ∧ Hid (minGo x r = minGo m ((x :: r).drop j))) (fun i wr => n - (intOf i).toNat)
  case atStart =>
    refine ⟨1, x, Nat.le_refl _, by omega, rfl, Lib.hid ((Below.refl _ _).alloc (by simp) _), Lib.hid ?_, (show Hid _ from rfl)⟩
    have := blk_new (w.alloc (.cells (cellsV vN) 27)) 27 (cellsV x)
    rw [World.size_alloc] at this
    exact this
  case round =>
    obtain ⟨j, m, hj1, hj, rfl, HB, HC, HM⟩ := hrel
    have HBW : Hid (Below w.heap.size w wr) := Lib.hid (((Below.refl w.heap.size w).alloc (Nat.le_refl _) _).trans (HB.out.mono (by omega)))
    have z1 : w.heap.size + 1 < wr.heap.size := blk_lt HC.out
    have z0 : w.heap.size < wr.heap.size := by omega
    have zb : b < wr.heap.size := by omega
    have m0 := blk_cell HC.out 0
    have m1 := blk_cell HC.out 1
    have m2 := blk_cell HC.out 2
    have mf : ∀ i, wr.frozen? ⟨w.heap.size + 1, i, none⟩ = false := fun i => blk_frozen HC.out i
    have r0 := (HB.out.cell (p := ⟨w.heap.size, 0, none⟩) (by show w.heap.size < _; omega)).trans (World.cell?_alloc_new w _ _ 0)
    have r1 := (HB.out.cell (p := ⟨w.heap.size, 1, none⟩) (by show w.heap.size < _; omega)).trans (World.cell?_alloc_new w _ _ 1)
    have r2 := (HB.out.cell (p := ⟨w.heap.size, 2, none⟩) (by show w.heap.size < _; omega)).trans (World.cell?_alloc_new w _ _ 2)
    have rf : ∀ i, wr.frozen? ⟨w.heap.size, i, none⟩ = false := fun i => (HB.out.frozen (p := ⟨w.heap.size, i, none⟩) (by show w.heap.size < _; omega)).trans (blk_frozen (blk_new w 27 _) i)
    simp only [cellsV, vN, List.getElem?_toArray, List.getElem?_cons_zero, List.getElem?_cons_succ] at m0 m1 m2 r0 r1 r2
    by_cases hlt : j < n
    · obtain ⟨b', off', hA, hbl, hc⟩ := (HS.out.later HBW.out).at_ (by omega)
      cases hA
      have hl : j < (x :: r).length := by rw [HLen.out]; exact hlt
      obtain ⟨d0, d1, d2⟩ := hc j hl
      have HD := Lib.hid (drop_cons hl)
      generalize (x :: r)[j] = y at d0 d1 d2 HD
      obtain ⟨k', n', t'⟩ := y
      obtain ⟨km, nm, tm⟩ := m
      clear hc
      simp only at d0 d1 d2 m0 m1 m2
      have HQ : Hid (minGo x r = minGo (if sCmp ⟨k', n', t'⟩ ⟨km, nm, tm⟩ < 0 then ⟨k', n', t'⟩ else ⟨km, nm, tm⟩) ((x :: r).drop (j + 1))) := Lib.hid (by rw [HM.out, HD.out]; rfl)
      go_wp2_with fail
      generalize hs : sCmp ⟨k', n', t'⟩ ⟨km, nm, tm⟩ = q at HQ
      refine wp_region_later (by kernel_rfl) (by kernel_rfl) ?_; (repeat (quiet_step ((go_at_call 70; exact later _ (compare_any _ _ _ _ _ _ _))))); refine wpQuiet_nil ?_; intro w' hw'; obtain ⟨⟨w', hb⟩, hw''⟩ := hw'; subst hw''
      clear hs
      obtain ⟨u1, rfl⟩ : ∃ u1, u1 = w' := ⟨w', rfl⟩
      have hbu : Below wr.heap.size wr u1 := hb
      have HB1 : Hid (Below (w.heap.size + 1) (w.alloc (.cells (cellsV vN) 27)) u1) := Lib.hid (HB.out.trans (hbu.mono (by omega)))
      have HC1 : Hid (Blk u1 (w.heap.size + 1) 27 (cellsV ⟨km, nm, tm⟩)) := Lib.hid (blk_later HC.out hbu)
      have e0 := (hbu.cell (p := ⟨b, off + j * 3, none⟩) zb).trans d0
      have e1 := (hbu.cell (p := ⟨b, off + j * 3 + 1, none⟩) zb).trans d1
      have e2 := (hbu.cell (p := ⟨b, off + j * 3 + 2, none⟩) zb).trans d2
      have s0 := blk_cell HC1.out 0
      have s1 := blk_cell HC1.out 1
      have s2 := blk_cell HC1.out 2
      have sf : ∀ i, u1.frozen? ⟨w.heap.size + 1, i, none⟩ = false := fun i => blk_frozen HC1.out i
      have y1 : w.heap.size + 1 < u1.heap.size := blk_lt HC1.out
      have y0 : w.heap.size < u1.heap.size := by omega
      have yb : b < u1.heap.size := by omega
      simp only [cellsV, List.getElem?_toArray, List.getElem?_cons_zero, List.getElem?_cons_succ] at s0 s1 s2
      by_cases hq : q < 0
      · go_wp2
        refine ⟨⟨j + 1, ⟨k', n', t'⟩, by omega, by omega, by go_num, ?_, ?_, Lib.hid (by rw [HQ.out, if_pos (by omega)])⟩, by simp [intOf]; omega⟩
        · exact Lib.hid (((HB1.out.setCell (Nat.le_refl _) _).setCell (Nat.le_refl _) _).setCell (Nat.le_refl _) _)
        · have := blk_set (blk_set (blk_set HC1.out 0 (.int .i64 k')) 1 (.int .i64 n')) 2 (.string ⟨t'.toArray⟩)
          exact Lib.hid (by simpa [cellsV] using this)
      · go_wp2
        exact ⟨⟨j + 1, ⟨km, nm, tm⟩, by omega, by omega, by go_num, HB1, HC1, Lib.hid (by rw [HQ.out, if_neg (by omega)])⟩, by simp [intOf]; omega⟩
    · obtain rfl : n = j := by omega
      have HE : Hid (minGo x r = m) := Lib.hid (by rw [HM.out, List.drop_of_length_le (by rw [HLen.out]; exact Nat.le_refl _)]; rfl)
      obtain ⟨km, nm, tm⟩ := m
      simp only at m0 m1 m2
      go_wp2
      ((try simp only [Exit.inBlock, Exit.then]); refine bodyPost_ret (by simp only [results, Tryz.results92]; go_simp; try rfl) rfl ?_)
      refine ⟨by rw [HE.out], ?_⟩
      have hBW := HBW.out
      (repeat' (first | (with_reducible exact Below.refl _ _) | (with_reducible assumption) | (with_reducible refine Below.alloc ?_ ?_ _) | (with_reducible refine Below.drew ?_) | (with_reducible refine Below.drewN' ?_ _) | (with_reducible refine Below.setCell ?_ ?_ _) | (refine Below.via ?_ (by assumption) ?_) | go_size))
end Go.Proofs.YtpmfpfkahanlaaaGreatDoor

/- MaxFunc over values, walked. -/
namespace Go.Proofs.YtpmfpfkahanlaaaGreatDoor
open Go.RowKit
set_option linter.unusedSimpArgs false
set_option linter.unusedVariables false
attribute [local go_sem] Later.cell Later.lt
attribute [local go_sem high] run_eqV run_neV
attribute [local go_sem] cell_set_same

set_option maxRecDepth 100000 in
set_option maxHeartbeats 4000000 in
theorem maxF_any (A : Option Addr) (n c : Nat) (x : V) (r : List V) (w : World) (hS : Sl w A n (x :: r)) :
    Calls Tryz.prog 93 #[.slice A n c, .func (.func 70) #[] #[]] w fun e w' => e = .returned (.agg #[.int .i64 (maxGo x r).k, .int .i64 (maxGo x r).n, .string ⟨List.toArray (maxGo x r).t⟩]) ∧ Below w.heap.size w w' := by
  have hlen := hS.len
  have hbig := hS.big
  obtain ⟨b, off, rfl, hb, hn, c0, c1, c2⟩ := hS.first
  have HS := Lib.hid hS
  have hn1 : ¬ (n : Int) < 1 := by omega
  have HLen := Lib.hid hlen
  clear hS hlen
  go_enter Tryz.func93, Tryz.ntmps93
  go_wp2
  go_loopw [6] (fun i wr => ∃ (j : Nat) (m : V), 1 ≤ j ∧ j ≤ n ∧ i = .int .i64 j ∧ Hid (Below (w.heap.size + 1) (w.alloc (.cells (cellsV vN) 27)) wr) ∧ Hid (Blk wr (w.heap.size + 1) 27 (cellsV m)) ∧ Hid (maxGo x r = maxGo m ((x :: r).drop j))) (fun i wr => n - (intOf i).toNat)
  case atStart =>
    refine ⟨1, x, Nat.le_refl _, by omega, rfl, Lib.hid ((Below.refl _ _).alloc (by simp) _), Lib.hid ?_, (show Hid _ from rfl)⟩
    have := blk_new (w.alloc (.cells (cellsV vN) 27)) 27 (cellsV x)
    rw [World.size_alloc] at this
    exact this
  case round =>
    obtain ⟨j, m, hj1, hj, rfl, HB, HC, HM⟩ := hrel
    have HBW : Hid (Below w.heap.size w wr) := Lib.hid (((Below.refl w.heap.size w).alloc (Nat.le_refl _) _).trans (HB.out.mono (by omega)))
    have z1 : w.heap.size + 1 < wr.heap.size := blk_lt HC.out
    have z0 : w.heap.size < wr.heap.size := by omega
    have zb : b < wr.heap.size := by omega
    have m0 := blk_cell HC.out 0
    have m1 := blk_cell HC.out 1
    have m2 := blk_cell HC.out 2
    have mf : ∀ i, wr.frozen? ⟨w.heap.size + 1, i, none⟩ = false := fun i => blk_frozen HC.out i
    have r0 := (HB.out.cell (p := ⟨w.heap.size, 0, none⟩) (by show w.heap.size < _; omega)).trans (World.cell?_alloc_new w _ _ 0)
    have r1 := (HB.out.cell (p := ⟨w.heap.size, 1, none⟩) (by show w.heap.size < _; omega)).trans (World.cell?_alloc_new w _ _ 1)
    have r2 := (HB.out.cell (p := ⟨w.heap.size, 2, none⟩) (by show w.heap.size < _; omega)).trans (World.cell?_alloc_new w _ _ 2)
    have rf : ∀ i, wr.frozen? ⟨w.heap.size, i, none⟩ = false := fun i => (HB.out.frozen (p := ⟨w.heap.size, i, none⟩) (by show w.heap.size < _; omega)).trans (blk_frozen (blk_new w 27 _) i)
    simp only [cellsV, vN, List.getElem?_toArray, List.getElem?_cons_zero, List.getElem?_cons_succ] at m0 m1 m2 r0 r1 r2
    by_cases hlt : j < n
    · obtain ⟨b', off', hA, hbl, hc⟩ := (HS.out.later HBW.out).at_ (by omega)
      cases hA
      have hl : j < (x :: r).length := by rw [HLen.out]; exact hlt
      obtain ⟨d0, d1, d2⟩ := hc j hl
      have HD := Lib.hid (drop_cons hl)
      generalize (x :: r)[j] = y at d0 d1 d2 HD
      obtain ⟨k', n', t'⟩ := y
      obtain ⟨km, nm, tm⟩ := m
      clear hc
      simp only at d0 d1 d2 m0 m1 m2
      have HQ : Hid (maxGo x r = maxGo (if 0 < sCmp ⟨k', n', t'⟩ ⟨km, nm, tm⟩ then ⟨k', n', t'⟩ else ⟨km, nm, tm⟩) ((x :: r).drop (j + 1))) := Lib.hid (by rw [HM.out, HD.out]; rfl)
      go_wp2_with fail
      generalize hs : sCmp ⟨k', n', t'⟩ ⟨km, nm, tm⟩ = q at HQ
      refine wp_region_later (by kernel_rfl) (by kernel_rfl) ?_; (repeat (quiet_step ((go_at_call 70; exact later _ (compare_any _ _ _ _ _ _ _))))); refine wpQuiet_nil ?_; intro w' hw'; obtain ⟨⟨w', hb⟩, hw''⟩ := hw'; subst hw''
      clear hs
      obtain ⟨u1, rfl⟩ : ∃ u1, u1 = w' := ⟨w', rfl⟩
      have hbu : Below wr.heap.size wr u1 := hb
      have HB1 : Hid (Below (w.heap.size + 1) (w.alloc (.cells (cellsV vN) 27)) u1) := Lib.hid (HB.out.trans (hbu.mono (by omega)))
      have HC1 : Hid (Blk u1 (w.heap.size + 1) 27 (cellsV ⟨km, nm, tm⟩)) := Lib.hid (blk_later HC.out hbu)
      have e0 := (hbu.cell (p := ⟨b, off + j * 3, none⟩) zb).trans d0
      have e1 := (hbu.cell (p := ⟨b, off + j * 3 + 1, none⟩) zb).trans d1
      have e2 := (hbu.cell (p := ⟨b, off + j * 3 + 2, none⟩) zb).trans d2
      have s0 := blk_cell HC1.out 0
      have s1 := blk_cell HC1.out 1
      have s2 := blk_cell HC1.out 2
      have sf : ∀ i, u1.frozen? ⟨w.heap.size + 1, i, none⟩ = false := fun i => blk_frozen HC1.out i
      have y1 : w.heap.size + 1 < u1.heap.size := blk_lt HC1.out
      have y0 : w.heap.size < u1.heap.size := by omega
      have yb : b < u1.heap.size := by omega
      simp only [cellsV, List.getElem?_toArray, List.getElem?_cons_zero, List.getElem?_cons_succ] at s0 s1 s2
      by_cases hq : 0 < q
      · go_wp2
        refine ⟨⟨j + 1, ⟨k', n', t'⟩, by omega, by omega, by go_num, ?_, ?_, Lib.hid (by rw [HQ.out, if_pos (by omega)])⟩, by simp [intOf]; omega⟩
        · exact Lib.hid (((HB1.out.setCell (Nat.le_refl _) _).setCell (Nat.le_refl _) _).setCell (Nat.le_refl _) _)
        · have := blk_set (blk_set (blk_set HC1.out 0 (.int .i64 k')) 1 (.int .i64 n')) 2 (.string ⟨t'.toArray⟩)
          exact Lib.hid (by simpa [cellsV] using this)
      · go_wp2
        exact ⟨⟨j + 1, ⟨km, nm, tm⟩, by omega, by omega, by go_num, HB1, HC1, Lib.hid (by rw [HQ.out, if_neg (by omega)])⟩, by simp [intOf]; omega⟩
    · obtain rfl : n = j := by omega
      have HE : Hid (maxGo x r = m) := Lib.hid (by rw [HM.out, List.drop_of_length_le (by rw [HLen.out]; exact Nat.le_refl _)]; rfl)
      obtain ⟨km, nm, tm⟩ := m
      simp only at m0 m1 m2
      go_wp2
      ((try simp only [Exit.inBlock, Exit.then]); refine bodyPost_ret (by simp only [results, Tryz.results93]; go_simp; try rfl) rfl ?_)
      refine ⟨by rw [HE.out], ?_⟩
      have hBW := HBW.out
      (repeat' (first | (with_reducible exact Below.refl _ _) | (with_reducible assumption) | (with_reducible refine Below.alloc ?_ ?_ _) | (with_reducible refine Below.drew ?_) | (with_reducible refine Below.drewN' ?_ _) | (with_reducible refine Below.setCell ?_ ?_ _) | (refine Below.via ?_ (by assumption) ?_) | go_size))
end Go.Proofs.YtpmfpfkahanlaaaGreatDoor

/- Aggregate of package value: what is computed; the slice of what is there. -/
namespace Go.Proofs.YtpmfpfkahanlaaaGreatDoor
open Go.RowKit
set_option linter.unusedSimpArgs false
set_option linter.unusedVariables false

theorem info27 : (Tryz.prog.info? 27).map (fun i => (i.zero, i.size, i.bytes)) = some (some (.agg #[.int .i64 0, .int .i64 0, .string ⟨#[]⟩]), 3, 32) := by kernel_rfl
theorem flat_length (l : List V) : (l.flatMap encL).length = l.length * 3 := by
  induction l with
  | nil => rfl
  | cons x r ih => simp only [List.flatMap_cons, List.length_append, List.length_cons, ih]; simp [encL]; omega
theorem flat_at : ∀ (l : List V) (j : Nat) (h : j < l.length), (l.flatMap encL)[j * 3]? = some (.int .i64 l[j].k) ∧ (l.flatMap encL)[j * 3 + 1]? = some (.int .i64 l[j].n) ∧ (l.flatMap encL)[j * 3 + 2]? = some (.string ⟨l[j].t.toArray⟩)
  | [], j, h => by cases h
  | x :: r, 0, h => by simp [encL]
  | x :: r, j + 1, h => by
    have := flat_at r j (by simpa using h)
    simp only [List.flatMap_cons, encL, show (j + 1) * 3 = j * 3 + 1 + 1 + 1 by omega, List.cons_append, List.nil_append, List.getElem?_cons_succ, List.getElem_cons_succ]
    exact this
theorem sl_of_owns {w : World} {B : Nat} {v : Value} {n : Nat} {l : List V} (h : w.ownsRow B 27 3 v n (l.flatMap encL)) (hbig : n ≤ 4398046511104) : ∃ A c, v = .slice A n c ∧ Sl w A n l := by
  obtain ⟨hl, h⟩ := h
  have hlen : l.length = n := by rw [flat_length] at hl; omega
  rcases h with ⟨rfl, rfl⟩ | ⟨g, cap, cur, rfl, hg, hh, h1, h2, h3, h4⟩
  · exact ⟨none, 0, rfl, hlen, by omega, fun h => absurd h (Nat.lt_irrefl _)⟩
  · refine ⟨_, cap, rfl, hlen, hbig, fun _ => ⟨g, 0, rfl, (Array.getElem?_eq_some_iff.1 hh).1, fun j hj => ?_⟩⟩
    have e : ∀ i, i < n * 3 → cur[i]? = (l.flatMap encL)[i]? := fun i hi => by
      rw [← h4, List.getElem?_take_of_lt hi]
      simp
    obtain ⟨a0, a1, a2⟩ := flat_at l j hj
    simp only [World.cell?, hh, Nat.zero_add, Option.bind_some]
    refine ⟨?_, ?_, ?_⟩
    · have := e (j * 3) (by omega); simpa [a0] using this
    · have := e (j * 3 + 1) (by omega); simpa [a1] using this
    · have := e (j * 3 + 2) (by omega); simpa [a2] using this
end Go.Proofs.YtpmfpfkahanlaaaGreatDoor

/- Aggregate of package value: values that are not valid, names that are none. -/
namespace Go.Proofs.YtpmfpfkahanlaaaGreatDoor
open Go.RowKit
set_option linter.unusedSimpArgs false
set_option linter.unusedVariables false
attribute [local go_sem] Later.cell Later.lt
attribute [local go_sem high] run_eqV run_neV
attribute [local go_sem] cell_set_same
set_option maxRecDepth 100000 in
set_option maxHeartbeats 4000000 in
theorem agg_bad (op : List UInt8) (A : Option Addr) (n c : Nat) (l : List V) (w : World) (hE : Env w) (hS : Sl w A n l) (hv : l.all sValid = false) :
    Calls Tryz.prog 37 #[.string ⟨op.toArray⟩, .slice A n c] w fun e w' => e = .returned (.tuple #[.agg #[.int .i64 (((vN, 2) : V × Int)).1.k, .int .i64 (((vN, 2) : V × Int)).1.n, .string ⟨List.toArray (((vN, 2) : V × Int)).1.t⟩], .int .i64 (((vN, 2) : V × Int)).2]) ∧ Below w.heap.size w w' := by
  have HE := Lib.hid hE
  obtain ⟨n0, n1, n2, hpos⟩ := hE.nul
  have HA := Lib.hid (fun W (hN : Nul W) (hS : Sl W A n l) => all_any A n c l W hN hS)
  rw [hv] at HA
  have HS := Lib.hid hS
  clear hE hS hv
  go_enter Tryz.func37, Tryz.ntmps37
  go_wp2_with fail
  refine (HA.out _ ((HE.out.later (by (repeat' (first | (with_reducible exact Below.refl _ _) | (with_reducible assumption) | (with_reducible refine Below.alloc ?_ ?_ _) | (with_reducible refine Below.drew ?_) | (with_reducible refine Below.drewN' ?_ _) | (with_reducible refine Below.setCell ?_ ?_ _) | (refine Below.via ?_ (by assumption) ?_) | go_size)))).nul) (HS.out.later (by (repeat' (first | (with_reducible exact Below.refl _ _) | (with_reducible assumption) | (with_reducible refine Below.alloc ?_ ?_ _) | (with_reducible refine Below.drew ?_) | (with_reducible refine Below.drewN' ?_ _) | (with_reducible refine Below.setCell ?_ ?_ _) | (refine Below.via ?_ (by assumption) ?_) | go_size))))).mono ?_; rintro e w1 ⟨rfl, hbw1⟩; obtain ⟨hcw1, hfw1⟩ := bfacts hbw1; have hzw1 := hbw1.size; (try simp only [World.size_alloc, World.size_setCell, World.size_drew] at hzw1); (try have hpw1 : 0 < w1.heap.size := by omega); (try have : w.heap.size < w1.heap.size := by omega); (try have : w.heap.size + 1 < w1.heap.size := by omega); (try have : w.heap.size + 1 + 1 < w1.heap.size := by omega); (try have : w.heap.size + 1 + 1 + 1 < w1.heap.size := by omega); (try have : w.heap.size + 1 + 1 + 1 + 1 < w1.heap.size := by omega); (try have : w.heap.size + 1 + 1 + 1 + 1 + 1 < w1.heap.size := by omega); (try have : w.heap.size < w1.heap.size + 1 := by omega); (try have : w.heap.size + 1 < w1.heap.size + 1 := by omega); (try have : w.heap.size + 1 + 1 < w1.heap.size + 1 := by omega); (try have : w.heap.size + 1 + 1 + 1 < w1.heap.size + 1 := by omega); (try have : w.heap.size + 1 + 1 + 1 + 1 < w1.heap.size + 1 := by omega)
  (have qw10 : w1.cell? ⟨w.heap.size, 0, none⟩ = some (.int .i64 0) := (hcw1 _ _ (by go_size)).trans (by go_simp); have qw11 : w1.cell? ⟨w.heap.size, 1, none⟩ = some (.int .i64 0) := (hcw1 _ _ (by go_size)).trans (by go_simp); have qw12 : w1.cell? ⟨w.heap.size, 2, none⟩ = some (.string ⟨#[]⟩) := (hcw1 _ _ (by go_size)).trans (by go_simp))
  go_wp2
  ((try simp only [Exit.inBlock, Exit.then]); refine bodyPost_ret (by simp only [results, Tryz.results37]; go_simp; try rfl) rfl ?_)
  refine ⟨rfl, ?_⟩
  (repeat' (first | (with_reducible exact Below.refl _ _) | (with_reducible assumption) | (with_reducible refine Below.alloc ?_ ?_ _) | (with_reducible refine Below.drew ?_) | (with_reducible refine Below.drewN' ?_ _) | (with_reducible refine Below.setCell ?_ ?_ _) | (refine Below.via ?_ (by assumption) ?_) | go_size))
set_option maxRecDepth 100000 in
set_option maxHeartbeats 4000000 in
theorem agg_not (op : List UInt8) (A : Option Addr) (n c : Nat) (l : List V) (w : World) (hE : Env w) (hS : Sl w A n l) (hv : l.all sValid = true) (hs : sIsAgg op = false) :
    Calls Tryz.prog 37 #[.string ⟨op.toArray⟩, .slice A n c] w fun e w' => e = .returned (.tuple #[.agg #[.int .i64 (((vN, 13) : V × Int)).1.k, .int .i64 (((vN, 13) : V × Int)).1.n, .string ⟨List.toArray (((vN, 13) : V × Int)).1.t⟩], .int .i64 (((vN, 13) : V × Int)).2]) ∧ Below w.heap.size w w' := by
  have HE := Lib.hid hE
  obtain ⟨n0, n1, n2, hpos⟩ := hE.nul
  have HA := Lib.hid (fun W (hN : Nul W) (hS : Sl W A n l) => all_any A n c l W hN hS)
  rw [hv] at HA
  have HS := Lib.hid hS
  clear hE hS hv
  go_enter Tryz.func37, Tryz.ntmps37
  go_wp2_with fail
  refine (HA.out _ ((HE.out.later (by (repeat' (first | (with_reducible exact Below.refl _ _) | (with_reducible assumption) | (with_reducible refine Below.alloc ?_ ?_ _) | (with_reducible refine Below.drew ?_) | (with_reducible refine Below.drewN' ?_ _) | (with_reducible refine Below.setCell ?_ ?_ _) | (refine Below.via ?_ (by assumption) ?_) | go_size)))).nul) (HS.out.later (by (repeat' (first | (with_reducible exact Below.refl _ _) | (with_reducible assumption) | (with_reducible refine Below.alloc ?_ ?_ _) | (with_reducible refine Below.drew ?_) | (with_reducible refine Below.drewN' ?_ _) | (with_reducible refine Below.setCell ?_ ?_ _) | (refine Below.via ?_ (by assumption) ?_) | go_size))))).mono ?_; rintro e w1 ⟨rfl, hbw1⟩; obtain ⟨hcw1, hfw1⟩ := bfacts hbw1; have hzw1 := hbw1.size; (try simp only [World.size_alloc, World.size_setCell, World.size_drew] at hzw1); (try have hpw1 : 0 < w1.heap.size := by omega); (try have : w.heap.size < w1.heap.size := by omega); (try have : w.heap.size + 1 < w1.heap.size := by omega); (try have : w.heap.size + 1 + 1 < w1.heap.size := by omega); (try have : w.heap.size + 1 + 1 + 1 < w1.heap.size := by omega); (try have : w.heap.size + 1 + 1 + 1 + 1 < w1.heap.size := by omega); (try have : w.heap.size + 1 + 1 + 1 + 1 + 1 < w1.heap.size := by omega); (try have : w.heap.size < w1.heap.size + 1 := by omega); (try have : w.heap.size + 1 < w1.heap.size + 1 := by omega); (try have : w.heap.size + 1 + 1 < w1.heap.size + 1 := by omega); (try have : w.heap.size + 1 + 1 + 1 < w1.heap.size + 1 := by omega); (try have : w.heap.size + 1 + 1 + 1 + 1 < w1.heap.size + 1 := by omega)
  (have qw10 : w1.cell? ⟨w.heap.size, 0, none⟩ = some (.int .i64 0) := (hcw1 _ _ (by go_size)).trans (by go_simp); have qw11 : w1.cell? ⟨w.heap.size, 1, none⟩ = some (.int .i64 0) := (hcw1 _ _ (by go_size)).trans (by go_simp); have qw12 : w1.cell? ⟨w.heap.size, 2, none⟩ = some (.string ⟨#[]⟩) := (hcw1 _ _ (by go_size)).trans (by go_simp))
  go_wp2_with ((go_at_call 41; refine (isAgg_any _ _).mono ?_; rintro e w2 ⟨rfl, hbw2⟩; obtain ⟨hcw2, hfw2⟩ := bfacts hbw2; have hzw2 := hbw2.size; (try simp only [World.size_alloc, World.size_setCell, World.size_drew] at hzw2); (try have hpw2 : 0 < w2.heap.size := by omega); (try have : w.heap.size < w2.heap.size := by omega); (try have : w.heap.size + 1 < w2.heap.size := by omega); (try have : w.heap.size + 1 + 1 < w2.heap.size := by omega); (try have : w.heap.size + 1 + 1 + 1 < w2.heap.size := by omega); (try have : w.heap.size + 1 + 1 + 1 + 1 < w2.heap.size := by omega); (try have : w.heap.size + 1 + 1 + 1 + 1 + 1 < w2.heap.size := by omega); (try have : w.heap.size < w2.heap.size + 1 := by omega); (try have : w.heap.size + 1 < w2.heap.size + 1 := by omega); (try have : w.heap.size + 1 + 1 < w2.heap.size + 1 := by omega); (try have : w.heap.size + 1 + 1 + 1 < w2.heap.size + 1 := by omega); (try have : w.heap.size + 1 + 1 + 1 + 1 < w2.heap.size + 1 := by omega); (try have : w1.heap.size < w2.heap.size := by omega); (try have : w1.heap.size + 1 < w2.heap.size := by omega); (try have : w1.heap.size + 1 + 1 < w2.heap.size := by omega); (try have : w1.heap.size + 1 + 1 + 1 < w2.heap.size := by omega); (try have : w1.heap.size + 1 + 1 + 1 + 1 < w2.heap.size := by omega); (try have : w1.heap.size + 1 + 1 + 1 + 1 + 1 < w2.heap.size := by omega); (try have : w1.heap.size < w2.heap.size + 1 := by omega); (try have : w1.heap.size + 1 < w2.heap.size + 1 := by omega); (try have : w1.heap.size + 1 + 1 < w2.heap.size + 1 := by omega); (try have : w1.heap.size + 1 + 1 + 1 < w2.heap.size + 1 := by omega); (try have : w1.heap.size + 1 + 1 + 1 + 1 < w2.heap.size + 1 := by omega)); (have qw20 : w2.cell? ⟨w.heap.size, 0, none⟩ = some (.int .i64 0) := (hcw2 _ _ (by go_size)).trans (by go_simp); have qw21 : w2.cell? ⟨w.heap.size, 1, none⟩ = some (.int .i64 0) := (hcw2 _ _ (by go_size)).trans (by go_simp); have qw22 : w2.cell? ⟨w.heap.size, 2, none⟩ = some (.string ⟨#[]⟩) := (hcw2 _ _ (by go_size)).trans (by go_simp)))
  ((try simp only [Exit.inBlock, Exit.then]); refine bodyPost_ret (by simp only [results, Tryz.results37]; go_simp; try rfl) rfl ?_)
  refine ⟨rfl, ?_⟩
  (repeat' (first | (with_reducible exact Below.refl _ _) | (with_reducible assumption) | (with_reducible refine Below.alloc ?_ ?_ _) | (with_reducible refine Below.drew ?_) | (with_reducible refine Below.drewN' ?_ _) | (with_reducible refine Below.setCell ?_ ?_ _) | (refine Below.via ?_ (by assumption) ?_) | go_size))
theorem kind1_pays (w : World) (b : Nat) (cm : Int) (hb : b < w.heap.size) (hc : w.cell? ⟨b, 0, none⟩ = some (.int .i64 cm)) : PredBelow Tryz.prog 91 #[.pointer (some ⟨b, 0, none⟩)] (fun x => .agg (encL x).toArray) (fun v => v.k != cm) w := fun W x hB => by
  obtain ⟨k, n, t⟩ := x
  have hc1 : W.cell? ⟨b, 0, none⟩ = some (.int .i64 cm) := (hB.cell (p := ⟨b, 0, none⟩) hb).trans hc
  have hbW : b < W.heap.size := Nat.lt_of_lt_of_le hb hB.size
  show Calls Tryz.prog 91 #[(.agg #[.int .i64 (k), .int .i64 (n), .string ⟨List.toArray (t)⟩]), .pointer (some ⟨b, 0, none⟩)] W fun e w' => e = .returned (.bool (k != cm)) ∧ Below w.heap.size w w'
  go_enter Tryz.func91, Tryz.ntmps91
  go_wp2
  ((try simp only [Exit.inBlock, Exit.then]); refine bodyPost_ret (by simp only [results, Tryz.results91]; go_simp; try rfl) rfl ?_)
  exact ⟨rfl, hB.trans (((Below.refl _ _).alloc (Nat.le_refl _) _).mono hB.size)⟩
set_option maxRecDepth 100000 in
set_option maxHeartbeats 8000000 in
theorem agg_go (op : List UInt8) (A : Option Addr) (n c : Nat) (l : List V) (w : World) (hE : Env w) (hS : Sl w A n l) (hv : l.all sValid = true) (hs : sIsAgg op = true) :
    Calls Tryz.prog 37 #[.string ⟨op.toArray⟩, .slice A n c] w fun e w' => e = .returned (.tuple #[.agg #[.int .i64 (aggOf op (present l)).1.k, .int .i64 (aggOf op (present l)).1.n, .string ⟨List.toArray (aggOf op (present l)).1.t⟩], .int .i64 (aggOf op (present l)).2]) ∧ Below w.heap.size w w' := by
  have HE := Lib.hid hE
  obtain ⟨n0, n1, n2, hpos⟩ := hE.nul
  obtain ⟨i0, hi, hz0, hz1, hz2⟩ := info_parts info27
  have HA := Lib.hid (fun W (hN : Nul W) (hS : Sl W A n l) => all_any A n c l W hN hS)
  rw [hv] at HA
  have HS := Lib.hid hS
  have hbig := hS.big
  have HLen := Lib.hid hS.len
  have HV := Lib.hid hv
  clear hE hS hv
  go_enter Tryz.func37, Tryz.ntmps37
  go_wp2_with fail
  refine (HA.out _ ((HE.out.later (by (repeat' (first | (with_reducible exact Below.refl _ _) | (with_reducible assumption) | (with_reducible refine Below.alloc ?_ ?_ _) | (with_reducible refine Below.drew ?_) | (with_reducible refine Below.drewN' ?_ _) | (with_reducible refine Below.setCell ?_ ?_ _) | (refine Below.via ?_ (by assumption) ?_) | go_size)))).nul) (HS.out.later (by (repeat' (first | (with_reducible exact Below.refl _ _) | (with_reducible assumption) | (with_reducible refine Below.alloc ?_ ?_ _) | (with_reducible refine Below.drew ?_) | (with_reducible refine Below.drewN' ?_ _) | (with_reducible refine Below.setCell ?_ ?_ _) | (refine Below.via ?_ (by assumption) ?_) | go_size))))).mono ?_; rintro e w1 ⟨rfl, hbw1⟩; obtain ⟨hcw1, hfw1⟩ := bfacts hbw1; have hzw1 := hbw1.size; (try simp only [World.size_alloc, World.size_setCell, World.size_drew] at hzw1); (try have hpw1 : 0 < w1.heap.size := by omega); (try have : w.heap.size < w1.heap.size := by omega); (try have : w.heap.size + 1 < w1.heap.size := by omega); (try have : w.heap.size + 1 + 1 < w1.heap.size := by omega); (try have : w.heap.size + 1 + 1 + 1 < w1.heap.size := by omega); (try have : w.heap.size + 1 + 1 + 1 + 1 < w1.heap.size := by omega); (try have : w.heap.size + 1 + 1 + 1 + 1 + 1 < w1.heap.size := by omega); (try have : w.heap.size < w1.heap.size + 1 := by omega); (try have : w.heap.size + 1 < w1.heap.size + 1 := by omega); (try have : w.heap.size + 1 + 1 < w1.heap.size + 1 := by omega); (try have : w.heap.size + 1 + 1 + 1 < w1.heap.size + 1 := by omega); (try have : w.heap.size + 1 + 1 + 1 + 1 < w1.heap.size + 1 := by omega)
  (have qw10 : w1.cell? ⟨w.heap.size, 0, none⟩ = some (.int .i64 0) := (hcw1 _ _ (by go_size)).trans (by go_simp); have qw11 : w1.cell? ⟨w.heap.size, 1, none⟩ = some (.int .i64 0) := (hcw1 _ _ (by go_size)).trans (by go_simp); have qw12 : w1.cell? ⟨w.heap.size, 2, none⟩ = some (.string ⟨#[]⟩) := (hcw1 _ _ (by go_size)).trans (by go_simp))
  go_wp2_with fail
  refine (isAgg_any op w1).mono ?_; rintro e w2 ⟨rfl, hbw2⟩; obtain ⟨hcw2, hfw2⟩ := bfacts hbw2; have hzw2 := hbw2.size; (try simp only [World.size_alloc, World.size_setCell, World.size_drew] at hzw2); (try have hpw2 : 0 < w2.heap.size := by omega); (try have : w.heap.size < w2.heap.size := by omega); (try have : w.heap.size + 1 < w2.heap.size := by omega); (try have : w.heap.size + 1 + 1 < w2.heap.size := by omega); (try have : w.heap.size + 1 + 1 + 1 < w2.heap.size := by omega); (try have : w.heap.size + 1 + 1 + 1 + 1 < w2.heap.size := by omega); (try have : w.heap.size + 1 + 1 + 1 + 1 + 1 < w2.heap.size := by omega); (try have : w.heap.size < w2.heap.size + 1 := by omega); (try have : w.heap.size + 1 < w2.heap.size + 1 := by omega); (try have : w.heap.size + 1 + 1 < w2.heap.size + 1 := by omega); (try have : w.heap.size + 1 + 1 + 1 < w2.heap.size + 1 := by omega); (try have : w.heap.size + 1 + 1 + 1 + 1 < w2.heap.size + 1 := by omega); (try have : w1.heap.size < w2.heap.size := by omega); (try have : w1.heap.size + 1 < w2.heap.size := by omega); (try have : w1.heap.size + 1 + 1 < w2.heap.size := by omega); (try have : w1.heap.size + 1 + 1 + 1 < w2.heap.size := by omega); (try have : w1.heap.size + 1 + 1 + 1 + 1 < w2.heap.size := by omega); (try have : w1.heap.size + 1 + 1 + 1 + 1 + 1 < w2.heap.size := by omega); (try have : w1.heap.size < w2.heap.size + 1 := by omega); (try have : w1.heap.size + 1 < w2.heap.size + 1 := by omega); (try have : w1.heap.size + 1 + 1 < w2.heap.size + 1 := by omega); (try have : w1.heap.size + 1 + 1 + 1 < w2.heap.size + 1 := by omega); (try have : w1.heap.size + 1 + 1 + 1 + 1 < w2.heap.size + 1 := by omega)
  (have qw20 : w2.cell? ⟨w.heap.size, 0, none⟩ = some (.int .i64 0) := (hcw2 _ _ (by go_size)).trans (by go_simp); have qw21 : w2.cell? ⟨w.heap.size, 1, none⟩ = some (.int .i64 0) := (hcw2 _ _ (by go_size)).trans (by go_simp); have qw22 : w2.cell? ⟨w.heap.size, 2, none⟩ = some (.string ⟨#[]⟩) := (hcw2 _ _ (by go_size)).trans (by go_simp))
  have hB2 : Below w.heap.size w w2 := by (repeat' (first | (with_reducible exact Below.refl _ _) | (with_reducible assumption) | (with_reducible refine Below.alloc ?_ ?_ _) | (with_reducible refine Below.drew ?_) | (with_reducible refine Below.drewN' ?_ _) | (with_reducible refine Below.setCell ?_ ?_ _) | (refine Below.via ?_ (by assumption) ?_) | go_size))
  have HB2 := Lib.hid hB2
  have f2 : ∀ i, w2.frozen? ⟨w.heap.size, i, none⟩ = false := fun i => (hfw2 _ _ (by go_size)).trans ((hfw1 _ _ (by go_size)).trans (by go_simp))
  have m0 : w2.cell? ⟨0, 0, none⟩ = _ := (hB2.cell (p := ⟨0, 0, none⟩) hpos).trans n0
  have m1 : w2.cell? ⟨0, 1, none⟩ = _ := (hB2.cell (p := ⟨0, 1, none⟩) hpos).trans n1
  have m2 : w2.cell? ⟨0, 2, none⟩ = _ := (hB2.cell (p := ⟨0, 2, none⟩) hpos).trans n2
  clear hcw1 hcw2 hfw1 hfw2 hbw1 hbw2 hB2 n0 n1 n2 qw10 qw11 qw12
  go_wp2
  go_loopw [6, 20] (fun v i wr => ∃ j : Nat, j ≤ n ∧ i = .int .i64 j ∧ Hid (Below w2.heap.size w2 wr) ∧ Hid (wr.ownsRow w2.heap.size 27 3 v (present (l.take j)).length ((present (l.take j)).flatMap encL))) (fun _ i wr => n - (intOf i).toNat)
  case atStart => exact ⟨0, Nat.zero_le _, rfl, Lib.hid (Below.refl _ _), Lib.hid (World.ownsRow_nil _ _ _ _)⟩
  case round =>
    obtain ⟨j, hj, rfl, HB, HO⟩ := hrel
    have z2 : w2.heap.size ≤ wr.heap.size := HB.out.size
    by_cases hlt : j < n
    · have HBW : Hid (Below w.heap.size w wr) := Lib.hid (HB2.out.trans (HB.out.mono HB2.out.size))
      obtain ⟨b, off, rfl, hbl, hc⟩ := (HS.out.later HBW.out).at_ (by omega)
      have hl : j < l.length := by rw [HLen.out]; exact hlt
      obtain ⟨c0, c1, c2⟩ := hc j hl
      have HTk : Hid (l.take (j + 1) = l.take j ++ [l[j]]) := Lib.hid (List.take_succ_eq_append_getElem hl)
      have hpl : (present (l.take j)).length ≤ j := Nat.le_trans (List.length_filter_le _ _) (by rw [List.length_take]; omega)
      generalize l[j] = x at c0 c1 c2 HTk
      obtain ⟨k, a, t⟩ := x
      clear hc
      simp only at c0 c1 c2
      cases hk : (k != 0) with
      | true =>
        go_wp2_with (at_builtin; refine wpList_append_own _ rfl _ _ 22 rfl w2.heap.size 27 i0 (.agg #[.int .i64 0, .int .i64 0, .string ⟨#[]⟩]) 3 32 Tryz.underlying22 hi hz0 hz1 hz2 rfl (by decide) _ _ _ rfl ((HO.out.alloc _).alloc _) ⟨wr.heap.size + 1, 0, none⟩ 1 1 [.int .i64 k, .int .i64 a, .string ⟨t.toArray⟩] rfl rfl ?c1 ?c2 ?c3 ?c4 ?c5 ?_)
        case c1 =>
          intro j u hj
          match j, hj with
          | 0, hj => simp at hj; subst hj; simp [Addr.add]
          | 1, hj => simp at hj; subst hj; simp [Addr.add]
          | 2, hj => simp at hj; subst hj; simp [Addr.add]
        case c2 => intro u hu; simp at hu; rcases hu with rfl | rfl | rfl <;> rfl
        case c3 => unfold maxLen; omega
        case c4 => omega
        case c5 => simp; omega
        · intro v' w3 hown' hgrow _
          have hB : Below w2.heap.size w2 w3 := (((HB.out.alloc z2 _).alloc (by simp; omega) _)).grown hgrow (by simp; omega) (fun k hk => own_block HO.out k hk)
          have HP : Hid (present (l.take (j + 1)) = present (l.take j) ++ [⟨k, a, t⟩]) := Lib.hid (by rw [HTk.out, present_append]; simp [present, hk])
          have KK := Lib.hid (And.intro hown' hB)
          clear hown' hgrow hB
          go_wp2
          go_roundw
          case rel => exact ⟨j + 1, by omega, by go_num, KK.out.2, Lib.hid (by rw [HP.out, List.length_append, List.flatMap_append]; exact KK.out.1)⟩
          case measure => simp [intOf]; omega
      | false =>
        have HP : Hid (present (l.take (j + 1)) = present (l.take j)) := Lib.hid (by rw [HTk.out, present_append]; simp [present, hk])
        go_wp2
        exact ⟨⟨j + 1, by omega, by go_num, Lib.hid (HB.out.alloc z2 _), Lib.hid (by rw [HP.out]; exact HO.out.alloc _)⟩, by simp [intOf]; omega⟩
    · obtain rfl : n = j := by omega
      have HO2 := HO.out
      rw [List.take_of_length_le (by rw [HLen.out]; exact Nat.le_refl _)] at HO2
      have hpl : (present l).length ≤ n := Nat.le_trans (List.length_filter_le _ _) (by rw [HLen.out]; exact Nat.le_refl _)
      obtain ⟨A3, c3, hv3, hs3⟩ := sl_of_owns HO2 (by omega)
      subst hv3
      have HS3 := Lib.hid hs3
      have HPV : Hid ((present l).all sValid = true) := Lib.hid (List.all_eq_true.2 fun v hm => List.all_eq_true.1 HV.out v (List.mem_filter.1 hm).1)
      have HPN : Hid (∀ v ∈ present l, v.k ≠ 0) := Lib.hid fun v hm => by
        have := (List.mem_filter.1 hm).2
        simpa using this
      clear HO2 hs3 HO
      have zr : w.heap.size < wr.heap.size := by omega
      have zp : 0 < wr.heap.size := by omega
      have r0 := (HB.out.cell (p := ⟨w.heap.size, 0, none⟩) (by show w.heap.size < _; omega)).trans qw20
      have r1 := (HB.out.cell (p := ⟨w.heap.size, 1, none⟩) (by show w.heap.size < _; omega)).trans qw21
      have r2 := (HB.out.cell (p := ⟨w.heap.size, 2, none⟩) (by show w.heap.size < _; omega)).trans qw22
      have rf : ∀ i, wr.frozen? ⟨w.heap.size, i, none⟩ = false := fun i => (HB.out.frozen (p := ⟨w.heap.size, i, none⟩) (by show w.heap.size < _; omega)).trans (f2 i)
      have g0 := (HB.out.cell (p := ⟨0, 0, none⟩) (by show 0 < _; omega)).trans m0
      have g1 := (HB.out.cell (p := ⟨0, 1, none⟩) (by show 0 < _; omega)).trans m1
      have g2 := (HB.out.cell (p := ⟨0, 2, none⟩) (by show 0 < _; omega)).trans m2
      have hbX : Below w.heap.size w wr := HB2.out.trans (HB.out.mono HB2.out.size)
      have HPe : Hid (aggOf op (present l) = aggOf op (present l)) := rfl
      by_cases ho1 : op = [99, 111, 117, 110, 116]
      · subst ho1
        go_wp2_with ((go_at_call 65; refine (whole_e _ _ ((HE.out.later (by (repeat' (first | (with_reducible exact Below.refl _ _) | (with_reducible assumption) | (with_reducible refine Below.alloc ?_ ?_ _) | (with_reducible refine Below.drew ?_) | (with_reducible refine Below.drewN' ?_ _) | (with_reducible refine Below.setCell ?_ ?_ _) | (refine Below.via ?_ (by assumption) ?_) | go_size)))).nul)).mono ?_; rintro e v1 ⟨rfl, hbv1⟩; obtain ⟨hcv1, hfv1⟩ := bfacts hbv1; have hzv1 := hbv1.size; (try simp only [World.size_alloc, World.size_setCell, World.size_drew] at hzv1); (try have hpv1 : 0 < v1.heap.size := by omega); (try have : w.heap.size < v1.heap.size := by omega); (try have : w.heap.size + 1 < v1.heap.size := by omega); (try have : w.heap.size + 1 + 1 < v1.heap.size := by omega); (try have : w.heap.size + 1 + 1 + 1 < v1.heap.size := by omega); (try have : w.heap.size + 1 + 1 + 1 + 1 < v1.heap.size := by omega); (try have : w.heap.size + 1 + 1 + 1 + 1 + 1 < v1.heap.size := by omega); (try have : w.heap.size < v1.heap.size + 1 := by omega); (try have : w.heap.size + 1 < v1.heap.size + 1 := by omega); (try have : w.heap.size + 1 + 1 < v1.heap.size + 1 := by omega); (try have : w.heap.size + 1 + 1 + 1 < v1.heap.size + 1 := by omega); (try have : w.heap.size + 1 + 1 + 1 + 1 < v1.heap.size + 1 := by omega); (try have : wr.heap.size < v1.heap.size := by omega); (try have : wr.heap.size + 1 < v1.heap.size := by omega); (try have : wr.heap.size + 1 + 1 < v1.heap.size := by omega); (try have : wr.heap.size + 1 + 1 + 1 < v1.heap.size := by omega); (try have : wr.heap.size + 1 + 1 + 1 + 1 < v1.heap.size := by omega); (try have : wr.heap.size + 1 + 1 + 1 + 1 + 1 < v1.heap.size := by omega); (try have : wr.heap.size < v1.heap.size + 1 := by omega); (try have : wr.heap.size + 1 < v1.heap.size + 1 := by omega); (try have : wr.heap.size + 1 + 1 < v1.heap.size + 1 := by omega); (try have : wr.heap.size + 1 + 1 + 1 < v1.heap.size + 1 := by omega); (try have : wr.heap.size + 1 + 1 + 1 + 1 < v1.heap.size + 1 := by omega)); have qv10 : v1.cell? ⟨w.heap.size, 0, none⟩ = some (.int .i64 0) := (hcv1 _ _ (by go_size)).trans (by go_simp); have qv11 : v1.cell? ⟨w.heap.size, 1, none⟩ = some (.int .i64 0) := (hcv1 _ _ (by go_size)).trans (by go_simp); have qv12 : v1.cell? ⟨w.heap.size, 2, none⟩ = some (.string ⟨#[]⟩) := (hcv1 _ _ (by go_size)).trans (by go_simp))
        ((try simp only [Exit.inBlock, Exit.then]); refine bodyPost_ret (by simp only [results, Tryz.results37]; go_simp; try rfl) rfl ?_)
        refine ⟨rfl, ?_⟩
        (repeat' (first | (with_reducible exact Below.refl _ _) | (with_reducible assumption) | (with_reducible refine Below.alloc ?_ ?_ _) | (with_reducible refine Below.drew ?_) | (with_reducible refine Below.drewN' ?_ _) | (with_reducible refine Below.setCell ?_ ?_ _) | (refine Below.via ?_ (by assumption) ?_) | go_size))
      · have hb1 : (op == [99, 111, 117, 110, 116]) = false := by simpa using ho1
        obtain ⟨p, hP⟩ : ∃ p, p = present l := ⟨_, rfl⟩
        rw [← hP] at HS3 hpl HPV HPN
        rw [← hP]
        have HPx := Lib.hid hP
        clear hP HPe
        cases p with
        | nil =>
          have HR : Hid (aggOf op (present l) = (vN, 0)) := Lib.hid (by rw [← HPx.out]; unfold aggOf; rw [hb1]; rfl)
          go_wp2
          ((try simp only [Exit.inBlock, Exit.then]); refine bodyPost_ret (by simp only [results, Tryz.results37]; go_simp; try rfl) rfl ?_)
          refine ⟨by rw [HR.out]; rfl, ?_⟩
          (repeat' (first | (with_reducible exact Below.refl _ _) | (with_reducible assumption) | (with_reducible refine Below.alloc ?_ ?_ _) | (with_reducible refine Below.drew ?_) | (with_reducible refine Below.drewN' ?_ _) | (with_reducible refine Below.setCell ?_ ?_ _) | (refine Below.via ?_ (by assumption) ?_) | go_size))
        | cons x r =>
          obtain ⟨bp, po, rfl, hbp, hpn, p0, p1, p2⟩ := HS3.out.first
          have hpn2 : 0 < r.length + 1 := by omega
          have hpn3 : ((r.length : Int) + 1 == 0) = false := by simp; omega
          by_cases ho2 : op = [115, 117, 109]
          · subst ho2
            have hal : Below wr.heap.size wr (wr.alloc (.cells #[.int .i64 1] 25)) := (Below.refl _ _).alloc (Nat.le_refl _) _
            have hany := anyb_any (some ⟨bp, po, none⟩) (r.length + 1) c3 91 #[.pointer (some ⟨wr.heap.size, 0, none⟩)] (x :: r) (fun v => v.k != 1) (wr.alloc (.cells #[.int .i64 1] 25)) (by omega) (HS3.out.alloc _) (enters_of Tryz.func91 (by kernel_rfl) rfl) (kind1_pays _ wr.heap.size 1 (by simp) (by rw [World.cell?_alloc_new]; rfl))
            have HAny := Lib.hid hany
            clear hany
            cases ha : (x :: r).any (fun v => v.k != 1) with
            | true =>
              rw [ha] at HAny
              have HR : Hid (aggOf [115, 117, 109] (present l) = (vN, 16)) := Lib.hid (by rw [← HPx.out]; unfold aggOf; simp only [show (([115, 117, 109] : List UInt8) == [99, 111, 117, 110, 116]) = false from rfl, show (([115, 117, 109] : List UInt8) == [115, 117, 109]) = true from rfl, Bool.false_eq_true, if_false, if_true]; rw [ha]; rfl)
              go_wp2_with fail
              refine HAny.out.mono ?_; rintro e u1 ⟨rfl, hbu1⟩
              have z8 : w.heap.size < u1.heap.size := by have := hbu1.size; simp at this; omega
              have z7 : 0 < u1.heap.size := by omega
              have t0 := (hbu1.cell (p := ⟨w.heap.size, 0, none⟩) (by show w.heap.size < _; simp; omega)).trans ((hal.cell (p := ⟨w.heap.size, 0, none⟩) (by show w.heap.size < _; omega)).trans r0)
              have t1 := (hbu1.cell (p := ⟨w.heap.size, 1, none⟩) (by show w.heap.size < _; simp; omega)).trans ((hal.cell (p := ⟨w.heap.size, 1, none⟩) (by show w.heap.size < _; omega)).trans r1)
              have t2 := (hbu1.cell (p := ⟨w.heap.size, 2, none⟩) (by show w.heap.size < _; simp; omega)).trans ((hal.cell (p := ⟨w.heap.size, 2, none⟩) (by show w.heap.size < _; omega)).trans r2)
              have tf : ∀ i, u1.frozen? ⟨w.heap.size, i, none⟩ = false := fun i => (hbu1.frozen (p := ⟨w.heap.size, i, none⟩) (by show w.heap.size < _; simp; omega)).trans ((hal.frozen (p := ⟨w.heap.size, i, none⟩) (by show w.heap.size < _; omega)).trans (rf i))
              have h0 := (hbu1.cell (p := ⟨0, 0, none⟩) (by show 0 < _; simp)).trans ((hal.cell (p := ⟨0, 0, none⟩) (by show 0 < _; omega)).trans g0)
              have h1 := (hbu1.cell (p := ⟨0, 1, none⟩) (by show 0 < _; simp)).trans ((hal.cell (p := ⟨0, 1, none⟩) (by show 0 < _; omega)).trans g1)
              have h2 := (hbu1.cell (p := ⟨0, 2, none⟩) (by show 0 < _; simp)).trans ((hal.cell (p := ⟨0, 2, none⟩) (by show 0 < _; omega)).trans g2)
              clear r0 r1 r2 rf g0 g1 g2 HAny
              go_wp2
              ((try simp only [Exit.inBlock, Exit.then]); refine bodyPost_ret (by simp only [results, Tryz.results37]; go_simp; try rfl) rfl ?_)
              refine ⟨by rw [HR.out]; rfl, ?_⟩
              (repeat' (first | (with_reducible exact Below.refl _ _) | (with_reducible assumption) | (with_reducible refine Below.alloc ?_ ?_ _) | (with_reducible refine Below.drew ?_) | (with_reducible refine Below.drewN' ?_ _) | (with_reducible refine Below.setCell ?_ ?_ _) | (refine Below.via ?_ (by assumption) ?_) | go_size))
            | false =>
              rw [ha] at HAny
              have HKd : Hid (∀ v ∈ x :: r, v.k = 1) := Lib.hid fun v hm => by
                have := List.any_eq_false.1 ha v hm
                simpa using this
              go_wp2_with fail
              refine HAny.out.mono ?_; rintro e u1 ⟨rfl, hbu1⟩
              have hbU : Below w.heap.size w u1 := hbX.trans ((hal.trans (hbu1.mono (by simp))).mono hbX.size)
              have HSU : Hid (Sl u1 (some ⟨bp, po, none⟩) (r.length + 1) (x :: r)) := Lib.hid (HS3.out.later (hal.trans (hbu1.mono (by simp))))
              have z8 : w.heap.size < u1.heap.size := by have := hbu1.size; simp at this; omega
              have z7 : 0 < u1.heap.size := by omega
              have t0 := (hbu1.cell (p := ⟨w.heap.size, 0, none⟩) (by show w.heap.size < _; simp; omega)).trans ((hal.cell (p := ⟨w.heap.size, 0, none⟩) (by show w.heap.size < _; omega)).trans r0)
              have t1 := (hbu1.cell (p := ⟨w.heap.size, 1, none⟩) (by show w.heap.size < _; simp; omega)).trans ((hal.cell (p := ⟨w.heap.size, 1, none⟩) (by show w.heap.size < _; omega)).trans r1)
              have t2 := (hbu1.cell (p := ⟨w.heap.size, 2, none⟩) (by show w.heap.size < _; simp; omega)).trans ((hal.cell (p := ⟨w.heap.size, 2, none⟩) (by show w.heap.size < _; omega)).trans r2)
              have tf : ∀ i, u1.frozen? ⟨w.heap.size, i, none⟩ = false := fun i => (hbu1.frozen (p := ⟨w.heap.size, i, none⟩) (by show w.heap.size < _; simp; omega)).trans ((hal.frozen (p := ⟨w.heap.size, i, none⟩) (by show w.heap.size < _; omega)).trans (rf i))
              have h0 := (hbu1.cell (p := ⟨0, 0, none⟩) (by show 0 < _; simp)).trans ((hal.cell (p := ⟨0, 0, none⟩) (by show 0 < _; omega)).trans g0)
              have h1 := (hbu1.cell (p := ⟨0, 1, none⟩) (by show 0 < _; simp)).trans ((hal.cell (p := ⟨0, 1, none⟩) (by show 0 < _; omega)).trans g1)
              have h2 := (hbu1.cell (p := ⟨0, 2, none⟩) (by show 0 < _; simp)).trans ((hal.cell (p := ⟨0, 2, none⟩) (by show 0 < _; omega)).trans g2)
              clear r0 r1 r2 rf g0 g1 g2 HAny
              have HR : Hid (aggOf [115, 117, 109] (present l) = sWhole (sumN (x :: r))) := Lib.hid (by rw [← HPx.out]; unfold aggOf; simp only [show (([115, 117, 109] : List UInt8) == [99, 111, 117, 110, 116]) = false from rfl, show (([115, 117, 109] : List UInt8) == [115, 117, 109]) = true from rfl, show (([115, 117, 109] : List UInt8) == [109, 105, 110]) = false from rfl, show (([115, 117, 109] : List UInt8) == [109, 97, 120]) = false from rfl, Bool.false_eq_true, if_false, if_true]; rw [ha]; rfl)
              have HBd : Hid (∀ v ∈ x :: r, -1099511627776 ≤ v.n ∧ v.n ≤ 1099511627776) := Lib.hid fun v hm => sValid_int (List.all_eq_true.1 HPV.out v hm) (HKd.out v hm)
              go_wp2_with fail
              refine (sum_any _ _ c3 (x :: r) u1 (HE.out.later hbU) HSU.out HBd.out).mono ?_; rintro e u2 ⟨rfl, hbu2⟩
              have z9 : w.heap.size < u2.heap.size := by have := hbu2.size; omega
              have s0 := (hbu2.cell (p := ⟨w.heap.size, 0, none⟩) z8).trans t0
              have s1 := (hbu2.cell (p := ⟨w.heap.size, 1, none⟩) z8).trans t1
              have s2 := (hbu2.cell (p := ⟨w.heap.size, 2, none⟩) z8).trans t2
              have sf : ∀ i, u2.frozen? ⟨w.heap.size, i, none⟩ = false := fun i => (hbu2.frozen (p := ⟨w.heap.size, i, none⟩) z8).trans (tf i)
              clear t0 t1 t2 tf h0 h1 h2
              go_wp2
              ((try simp only [Exit.inBlock, Exit.then]); refine bodyPost_ret (by simp only [results, Tryz.results37]; go_simp; try rfl) rfl ?_)
              refine ⟨by rw [HR.out], ?_⟩
              (repeat' (first | (with_reducible exact Below.refl _ _) | (with_reducible assumption) | (with_reducible refine Below.alloc ?_ ?_ _) | (with_reducible refine Below.drew ?_) | (with_reducible refine Below.drewN' ?_ _) | (with_reducible refine Below.setCell ?_ ?_ _) | (refine Below.via ?_ (by assumption) ?_) | go_size))
          · have hb2 : (op == [115, 117, 109]) = false := by simpa using ho2
            have hal : Below wr.heap.size wr (wr.alloc (.cells #[.int .i64 x.k] 25)) := (Below.refl _ _).alloc (Nat.le_refl _) _
            have hany := anyb_any (some ⟨bp, po, none⟩) (r.length + 1) c3 91 #[.pointer (some ⟨wr.heap.size, 0, none⟩)] (x :: r) (fun v => v.k != x.k) (wr.alloc (.cells #[.int .i64 x.k] 25)) (by omega) (HS3.out.alloc _) (enters_of Tryz.func91 (by kernel_rfl) rfl) (kind1_pays _ wr.heap.size x.k (by simp) (by rw [World.cell?_alloc_new]; rfl))
            have HAny := Lib.hid hany
            clear hany
            cases ha : (x :: r).any (fun v => v.k != x.k) with
            | true =>
              rw [ha] at HAny
              have HR : Hid (aggOf op (present l) = (vN, 16)) := Lib.hid (by rw [← HPx.out]; unfold aggOf; simp only [hb1, hb2, Bool.false_eq_true, if_false, if_true]; rw [ha]; rfl)
              go_wp2_with fail
              refine HAny.out.mono ?_; rintro e u1 ⟨rfl, hbu1⟩
              have z8 : w.heap.size < u1.heap.size := by have := hbu1.size; simp at this; omega
              have z7 : 0 < u1.heap.size := by omega
              have t0 := (hbu1.cell (p := ⟨w.heap.size, 0, none⟩) (by show w.heap.size < _; simp; omega)).trans ((hal.cell (p := ⟨w.heap.size, 0, none⟩) (by show w.heap.size < _; omega)).trans r0)
              have t1 := (hbu1.cell (p := ⟨w.heap.size, 1, none⟩) (by show w.heap.size < _; simp; omega)).trans ((hal.cell (p := ⟨w.heap.size, 1, none⟩) (by show w.heap.size < _; omega)).trans r1)
              have t2 := (hbu1.cell (p := ⟨w.heap.size, 2, none⟩) (by show w.heap.size < _; simp; omega)).trans ((hal.cell (p := ⟨w.heap.size, 2, none⟩) (by show w.heap.size < _; omega)).trans r2)
              have tf : ∀ i, u1.frozen? ⟨w.heap.size, i, none⟩ = false := fun i => (hbu1.frozen (p := ⟨w.heap.size, i, none⟩) (by show w.heap.size < _; simp; omega)).trans ((hal.frozen (p := ⟨w.heap.size, i, none⟩) (by show w.heap.size < _; omega)).trans (rf i))
              have h0 := (hbu1.cell (p := ⟨0, 0, none⟩) (by show 0 < _; simp)).trans ((hal.cell (p := ⟨0, 0, none⟩) (by show 0 < _; omega)).trans g0)
              have h1 := (hbu1.cell (p := ⟨0, 1, none⟩) (by show 0 < _; simp)).trans ((hal.cell (p := ⟨0, 1, none⟩) (by show 0 < _; omega)).trans g1)
              have h2 := (hbu1.cell (p := ⟨0, 2, none⟩) (by show 0 < _; simp)).trans ((hal.cell (p := ⟨0, 2, none⟩) (by show 0 < _; omega)).trans g2)
              clear r0 r1 r2 rf g0 g1 g2 HAny
              go_wp2
              ((try simp only [Exit.inBlock, Exit.then]); refine bodyPost_ret (by simp only [results, Tryz.results37]; go_simp; try rfl) rfl ?_)
              refine ⟨by rw [HR.out]; rfl, ?_⟩
              (repeat' (first | (with_reducible exact Below.refl _ _) | (with_reducible assumption) | (with_reducible refine Below.alloc ?_ ?_ _) | (with_reducible refine Below.drew ?_) | (with_reducible refine Below.drewN' ?_ _) | (with_reducible refine Below.setCell ?_ ?_ _) | (refine Below.via ?_ (by assumption) ?_) | go_size))
            | false =>
              rw [ha] at HAny
              have HKd : Hid (∀ v ∈ x :: r, v.k = x.k) := Lib.hid fun v hm => by
                have := List.any_eq_false.1 ha v hm
                simpa using this
              go_wp2_with fail
              refine HAny.out.mono ?_; rintro e u1 ⟨rfl, hbu1⟩
              have hbU : Below w.heap.size w u1 := hbX.trans ((hal.trans (hbu1.mono (by simp))).mono hbX.size)
              have HSU : Hid (Sl u1 (some ⟨bp, po, none⟩) (r.length + 1) (x :: r)) := Lib.hid (HS3.out.later (hal.trans (hbu1.mono (by simp))))
              have z8 : w.heap.size < u1.heap.size := by have := hbu1.size; simp at this; omega
              have z7 : 0 < u1.heap.size := by omega
              have t0 := (hbu1.cell (p := ⟨w.heap.size, 0, none⟩) (by show w.heap.size < _; simp; omega)).trans ((hal.cell (p := ⟨w.heap.size, 0, none⟩) (by show w.heap.size < _; omega)).trans r0)
              have t1 := (hbu1.cell (p := ⟨w.heap.size, 1, none⟩) (by show w.heap.size < _; simp; omega)).trans ((hal.cell (p := ⟨w.heap.size, 1, none⟩) (by show w.heap.size < _; omega)).trans r1)
              have t2 := (hbu1.cell (p := ⟨w.heap.size, 2, none⟩) (by show w.heap.size < _; simp; omega)).trans ((hal.cell (p := ⟨w.heap.size, 2, none⟩) (by show w.heap.size < _; omega)).trans r2)
              have tf : ∀ i, u1.frozen? ⟨w.heap.size, i, none⟩ = false := fun i => (hbu1.frozen (p := ⟨w.heap.size, i, none⟩) (by show w.heap.size < _; simp; omega)).trans ((hal.frozen (p := ⟨w.heap.size, i, none⟩) (by show w.heap.size < _; omega)).trans (rf i))
              have h0 := (hbu1.cell (p := ⟨0, 0, none⟩) (by show 0 < _; simp)).trans ((hal.cell (p := ⟨0, 0, none⟩) (by show 0 < _; omega)).trans g0)
              have h1 := (hbu1.cell (p := ⟨0, 1, none⟩) (by show 0 < _; simp)).trans ((hal.cell (p := ⟨0, 1, none⟩) (by show 0 < _; omega)).trans g1)
              have h2 := (hbu1.cell (p := ⟨0, 2, none⟩) (by show 0 < _; simp)).trans ((hal.cell (p := ⟨0, 2, none⟩) (by show 0 < _; omega)).trans g2)
              clear r0 r1 r2 rf g0 g1 g2 HAny
              by_cases ho3 : op = [109, 105, 110]
              · subst ho3
                have HR : Hid (aggOf [109, 105, 110] (present l) = (minGo x r, 0)) := Lib.hid (by rw [← HPx.out]; unfold aggOf; simp only [hb1, hb2, Bool.false_eq_true, if_false]; rw [ha]; rfl)
                go_wp2_with fail
                refine (minF_any _ _ c3 x r u1 HSU.out).mono ?_; rintro e u2 ⟨rfl, hbu2⟩
                have z9 : w.heap.size < u2.heap.size := by have := hbu2.size; omega
                have s0 := (hbu2.cell (p := ⟨w.heap.size, 0, none⟩) z8).trans t0
                have s1 := (hbu2.cell (p := ⟨w.heap.size, 1, none⟩) z8).trans t1
                have s2 := (hbu2.cell (p := ⟨w.heap.size, 2, none⟩) z8).trans t2
                have sf : ∀ i, u2.frozen? ⟨w.heap.size, i, none⟩ = false := fun i => (hbu2.frozen (p := ⟨w.heap.size, i, none⟩) z8).trans (tf i)
                clear t0 t1 t2 tf h0 h1 h2
                go_wp2
                ((try simp only [Exit.inBlock, Exit.then]); refine bodyPost_ret (by simp only [results, Tryz.results37]; go_simp; try rfl) rfl ?_)
                refine ⟨by rw [HR.out], ?_⟩
                (repeat' (first | (with_reducible exact Below.refl _ _) | (with_reducible assumption) | (with_reducible refine Below.alloc ?_ ?_ _) | (with_reducible refine Below.drew ?_) | (with_reducible refine Below.drewN' ?_ _) | (with_reducible refine Below.setCell ?_ ?_ _) | (refine Below.via ?_ (by assumption) ?_) | go_size))
              · by_cases ho4 : op = [109, 97, 120]
                · subst ho4
                  have HR : Hid (aggOf [109, 97, 120] (present l) = (maxGo x r, 0)) := Lib.hid (by rw [← HPx.out]; unfold aggOf; simp only [hb1, hb2, Bool.false_eq_true, if_false]; rw [ha]; rfl)
                  go_wp2_with fail
                  refine (maxF_any _ _ c3 x r u1 HSU.out).mono ?_; rintro e u2 ⟨rfl, hbu2⟩
                  have z9 : w.heap.size < u2.heap.size := by have := hbu2.size; omega
                  have s0 := (hbu2.cell (p := ⟨w.heap.size, 0, none⟩) z8).trans t0
                  have s1 := (hbu2.cell (p := ⟨w.heap.size, 1, none⟩) z8).trans t1
                  have s2 := (hbu2.cell (p := ⟨w.heap.size, 2, none⟩) z8).trans t2
                  have sf : ∀ i, u2.frozen? ⟨w.heap.size, i, none⟩ = false := fun i => (hbu2.frozen (p := ⟨w.heap.size, i, none⟩) z8).trans (tf i)
                  clear t0 t1 t2 tf h0 h1 h2
                  go_wp2
                  ((try simp only [Exit.inBlock, Exit.then]); refine bodyPost_ret (by simp only [results, Tryz.results37]; go_simp; try rfl) rfl ?_)
                  refine ⟨by rw [HR.out], ?_⟩
                  (repeat' (first | (with_reducible exact Below.refl _ _) | (with_reducible assumption) | (with_reducible refine Below.alloc ?_ ?_ _) | (with_reducible refine Below.drew ?_) | (with_reducible refine Below.drewN' ?_ _) | (with_reducible refine Below.setCell ?_ ?_ _) | (refine Below.via ?_ (by assumption) ?_) | go_size))
                · exact absurd hs (by simp [sIsAgg, hasL, aggL, ho1, ho2, ho3, ho4])
theorem agg_any (op : List UInt8) (A : Option Addr) (n c : Nat) (l : List V) (w : World) (hE : Env w) (hS : Sl w A n l) :
    Calls Tryz.prog 37 #[.string ⟨op.toArray⟩, .slice A n c] w fun e w' => e = .returned (.tuple #[.agg #[.int .i64 (vAgg op l).1.k, .int .i64 (vAgg op l).1.n, .string ⟨List.toArray (vAgg op l).1.t⟩], .int .i64 (vAgg op l).2]) ∧ Below w.heap.size w w' := by
  unfold vAgg
  cases hv : l.all sValid with
  | false => exact agg_bad op A n c l w hE hS hv
  | true =>
  rw [if_neg (by simp)]
  cases hs : sIsAgg op with
  | false => exact agg_not op A n c l w hE hS hv hs
  | true => exact agg_go op A n c l w hE hS hv hs
end Go.Proofs.YtpmfpfkahanlaaaGreatDoor
