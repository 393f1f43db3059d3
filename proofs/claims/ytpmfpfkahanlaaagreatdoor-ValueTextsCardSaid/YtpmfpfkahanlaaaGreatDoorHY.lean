/- The reference's Args, Builtin and Fits, walked. -/
import Derived.Test.YtpmfpfkahanlaaaGreatDoorHX
import Derived.Test.YtpmfpfkahanlaaaGreatDoorHE
import Derived.Test.YtpmfpfkahanlaaaGreatDoorHV
import Derived.StillTailTactics
import Derived.Test.YtpmfpfkahanlaaaGreatDoorHB
import Derived.Deep.RegionLaw
import Derived.Test.YtpmfpfkahanlaaaGreatDoorHG
import Derived.Test.YtpmfpfkahanlaaaGreatDoorHM
import Derived.Test.YtpmfpfkahanlaaaGreatDoorHW
namespace Go.Proofs.YtpmfpfkahanlaaaGreatDoor
open Go.RowKit
set_option linter.unusedSimpArgs false
set_option linter.unusedVariables false
attribute [local go_sem] Later.cell Later.lt
attribute [local go_sem high] run_eqV run_neV

def ArgsAt (op : List UInt8) (w : World) (e : Ending) (w' : World) : Prop := ∃ (A : Option Addr) (c : Nat), e = .returned (.tuple #[.slice A (sKinds op).length c, .bool (isSig op)]) ∧ Ks w' A (sKinds op).length (sKinds op) ∧ Below w.heap.size w w'
theorem args_lit {op : List UInt8} {w : World} {l : List Int} {n b : Nat} (hb : b = w.heap.size) (h : sKinds op = l) (hs : isSig op = true) (hn : n = l.length) :
    ArgsAt op w (.returned (.tuple #[.slice (some ⟨b, 0, none⟩) n n, .bool true])) (w.alloc (.cells (l.map (Value.int .i64)).toArray 25)) := by
  subst hn hb
  refine ⟨_, l.length, by rw [h, hs], by rw [h]; exact ks_new w l, (Below.refl _ _).alloc (Nat.le_refl _) _⟩
theorem look_none {α : Type} {s : List UInt8} : ∀ {l : List (List UInt8 × α)}, look l s = none → ∀ p ∈ l, (s == p.1) = false
  | [], _, p, hp => by cases hp
  | (k, x) :: r, h, p, hp => by
    unfold look at h
    by_cases e : (s == k) = true
    · rw [if_pos e] at h
      cases h
    · rw [if_neg e] at h
      rcases List.mem_cons.1 hp with rfl | hp
      · simpa using e
      · exact look_none h p hp
set_option maxHeartbeats 4000000 in
theorem rArgs_any (op : List UInt8) (w : World) : Calls Tryz.prog 97 #[.string ⟨op.toArray⟩] w (ArgsAt op w) := by
  cases hs : isSig op with
  | true =>
    rcases sig_cases hs with rfl | rfl | rfl | rfl | rfl | rfl | rfl | rfl | rfl | rfl | rfl | rfl
    · clear hs
      go_enter Tryz.func97, Tryz.ntmps97
      go_wp2
      ((try simp only [Exit.inBlock, Exit.then]); refine bodyPost_ret (by simp only [results, Tryz.results97]; go_simp; try rfl) rfl ?_)
      exact args_lit (l := [1]) rfl rfl rfl rfl
    · clear hs
      go_enter Tryz.func97, Tryz.ntmps97
      go_wp2
      ((try simp only [Exit.inBlock, Exit.then]); refine bodyPost_ret (by simp only [results, Tryz.results97]; go_simp; try rfl) rfl ?_)
      exact args_lit (l := [1]) rfl rfl rfl rfl
    · clear hs
      go_enter Tryz.func97, Tryz.ntmps97
      go_wp2
      ((try simp only [Exit.inBlock, Exit.then]); refine bodyPost_ret (by simp only [results, Tryz.results97]; go_simp; try rfl) rfl ?_)
      exact args_lit (l := [2]) rfl rfl rfl rfl
    · clear hs
      go_enter Tryz.func97, Tryz.ntmps97
      go_wp2
      ((try simp only [Exit.inBlock, Exit.then]); refine bodyPost_ret (by simp only [results, Tryz.results97]; go_simp; try rfl) rfl ?_)
      exact args_lit (l := [2]) rfl rfl rfl rfl
    · clear hs
      go_enter Tryz.func97, Tryz.ntmps97
      go_wp2
      ((try simp only [Exit.inBlock, Exit.then]); refine bodyPost_ret (by simp only [results, Tryz.results97]; go_simp; try rfl) rfl ?_)
      exact args_lit (l := [2]) rfl rfl rfl rfl
    · clear hs
      go_enter Tryz.func97, Tryz.ntmps97
      go_wp2
      ((try simp only [Exit.inBlock, Exit.then]); refine bodyPost_ret (by simp only [results, Tryz.results97]; go_simp; try rfl) rfl ?_)
      exact args_lit (l := [2, 1, 1]) rfl rfl rfl rfl
    · clear hs
      go_enter Tryz.func97, Tryz.ntmps97
      go_wp2
      ((try simp only [Exit.inBlock, Exit.then]); refine bodyPost_ret (by simp only [results, Tryz.results97]; go_simp; try rfl) rfl ?_)
      exact args_lit (l := [1]) rfl rfl rfl rfl
    · clear hs
      go_enter Tryz.func97, Tryz.ntmps97
      go_wp2
      ((try simp only [Exit.inBlock, Exit.then]); refine bodyPost_ret (by simp only [results, Tryz.results97]; go_simp; try rfl) rfl ?_)
      exact args_lit (l := [2]) rfl rfl rfl rfl
    · clear hs
      go_enter Tryz.func97, Tryz.ntmps97
      go_wp2
      ((try simp only [Exit.inBlock, Exit.then]); refine bodyPost_ret (by simp only [results, Tryz.results97]; go_simp; try rfl) rfl ?_)
      exact args_lit (l := [0, 0]) rfl rfl rfl rfl
    · clear hs
      go_enter Tryz.func97, Tryz.ntmps97
      go_wp2
      ((try simp only [Exit.inBlock, Exit.then]); refine bodyPost_ret (by simp only [results, Tryz.results97]; go_simp; try rfl) rfl ?_)
      exact args_lit (l := [0, 0]) rfl rfl rfl rfl
    · clear hs
      go_enter Tryz.func97, Tryz.ntmps97
      go_wp2
      ((try simp only [Exit.inBlock, Exit.then]); refine bodyPost_ret (by simp only [results, Tryz.results97]; go_simp; try rfl) rfl ?_)
      exact args_lit (l := [0, 0]) rfl rfl rfl rfl
    · clear hs
      go_enter Tryz.func97, Tryz.ntmps97
      go_wp2
      ((try simp only [Exit.inBlock, Exit.then]); refine bodyPost_ret (by simp only [results, Tryz.results97]; go_simp; try rfl) rfl ?_)
      exact args_lit (l := [0, 0]) rfl rfl rfl rfl
  | false =>
    have hk : sKinds op = [] := by
      unfold sKinds sigOf
      unfold isSig at hs
      cases h : look sigT op with
      | none => rfl
      | some v => rw [h] at hs; cases hs
    have hl : look sigT op = none := by
      unfold isSig at hs
      cases h : look sigT op with
      | none => rfl
      | some v => rw [h] at hs; cases hs
    have hn := look_none hl
    unfold sigT at hn
    have t0 : (op == [97, 98, 115]) = false := hn ([97, 98, 115], [105]) (by simp)
    have t1 : (op == [115, 105, 103, 110]) = false := hn ([115, 105, 103, 110], [105]) (by simp)
    have t2 : (op == [108, 101, 110, 103, 116, 104]) = false := hn ([108, 101, 110, 103, 116, 104], [116]) (by simp)
    have t3 : (op == [117, 112, 112, 101, 114]) = false := hn ([117, 112, 112, 101, 114], [116]) (by simp)
    have t4 : (op == [108, 111, 119, 101, 114]) = false := hn ([108, 111, 119, 101, 114], [116]) (by simp)
    have t5 : (op == [115, 117, 98, 115, 116, 114]) = false := hn ([115, 117, 98, 115, 116, 114], [116, 105, 105]) (by simp)
    have t6 : (op == [116, 111, 95, 116, 101, 120, 116]) = false := hn ([116, 111, 95, 116, 101, 120, 116], [105]) (by simp)
    have t7 : (op == [116, 111, 95, 105, 110, 116]) = false := hn ([116, 111, 95, 105, 110, 116], [116]) (by simp)
    have t8 : (op == [110, 118, 108]) = false := hn ([110, 118, 108], [97, 97]) (by simp)
    have t9 : (op == [110, 117, 108, 108, 105, 102]) = false := hn ([110, 117, 108, 108, 105, 102], [97, 97]) (by simp)
    have t10 : (op == [108, 101, 97, 115, 116]) = false := hn ([108, 101, 97, 115, 116], [97, 97]) (by simp)
    have t11 : (op == [103, 114, 101, 97, 116, 101, 115, 116]) = false := hn ([103, 114, 101, 97, 116, 101, 115, 116], [97, 97]) (by simp)
    have HS := Lib.hid hs
    have HK := Lib.hid hk
    clear hs hk hn hl
    go_enter Tryz.func97, Tryz.ntmps97
    go_wp2
    ((try simp only [Exit.inBlock, Exit.then]); refine bodyPost_ret (by simp only [results, Tryz.results97]; go_simp; try rfl) rfl ?_)
    exact ⟨none, 0, by rw [HK.out, HS.out]; rfl, by rw [HK.out]; exact Ks.nil, Below.refl _ _⟩
theorem rBuiltin_any (op : List UInt8) (w : World) :
    Calls Tryz.prog 40 #[.string ⟨op.toArray⟩] w fun e w' => e = .returned (.bool (isSig op)) ∧ Below w.heap.size w w' := by
  go_enter Tryz.func40, Tryz.ntmps40
  go_wp2_with fail
  refine (rArgs_any _ _).mono ?_; rintro e w1 ⟨A, c, rfl, hk, hb⟩
  have HB := Lib.hid hb
  clear hb hk
  go_wp2
  ((try simp only [Exit.inBlock, Exit.then]); refine bodyPost_ret (by simp only [results, Tryz.results40]; go_simp; try rfl) rfl ?_)
  exact ⟨rfl, HB.out⟩
theorem fitGo_step {ws ks : List Int} {j : Nat} {o : Int} (h1 : j < ws.length) (h2 : j < ks.length) :
    rFitGo (ws.drop j) (ks.drop j) o = if ks[j] == 0 then rFitGo (ws.drop (j + 1)) (ks.drop (j + 1)) o else if (ws[j] != 0 && ws[j] != ks[j]) || (ws[j] == 0 && (o != 0 && o != ks[j])) then 16 else rFitGo (ws.drop (j + 1)) (ks.drop (j + 1)) ks[j] := by
  rw [List.drop_eq_getElem_cons h1, List.drop_eq_getElem_cons h2, rFitGo]
set_option maxHeartbeats 4000000 in
theorem rFits_any (op : List UInt8) (A : Option Addr) (n c : Nat) (ks : List Int) (w : World) (hS : Ks w A n ks) (hn : n ≤ 4398046511104) :
    Calls Tryz.prog 89 #[.string ⟨op.toArray⟩, .slice A n c] w fun e w' => e = .returned (.int .i64 (rFits op ks)) ∧ Below w.heap.size w w' := by
  have HS := Lib.hid hS
  have HLen := Lib.hid hS.len
  have HR : Hid (rFits op ks = if (sKinds op).length != n then 17 else rFitGo (sKinds op) ks 0) := Lib.hid (by unfold rFits; rw [hS.len])
  clear hS
  have hk3 : (sKinds op).length ≤ 3 := by unfold sKinds; rw [List.length_map]; exact (sigOf_ok op).1
  go_enter Tryz.func89, Tryz.ntmps89
  go_wp2_with fail
  refine (rArgs_any _ _).mono ?_; rintro e w1 ⟨A1, c1, rfl, hk, hb⟩
  have HW := Lib.hid hk
  have HB := Lib.hid hb
  clear hb hk
  by_cases hl : (sKinds op).length = n
  case neg =>
    have hl1 : (((sKinds op).length : Int) == (n : Int)) = false := by simpa using (by omega : ¬ ((sKinds op).length : Int) = (n : Int))
    have hl2 : (((sKinds op).length : Int) != (n : Int)) = true := by rw [bne, hl1]; rfl
    go_wp2
    ((try simp only [Exit.inBlock, Exit.then]); refine bodyPost_ret (by simp only [results, Tryz.results89]; go_simp; try rfl) rfl ?_)
    exact ⟨ret_int (by rw [HR.out, if_pos (by simpa using hl)]), HB.out⟩
  have HR2 : Hid (rFits op ks = rFitGo (sKinds op) ks 0) := Lib.hid (by rw [HR.out, if_neg (by simpa using hl)])
  obtain ⟨m, hm⟩ : ∃ m, (sKinds op).length = m := ⟨_, rfl⟩
  have HLW := Lib.hid hm
  rw [hm] at hl HW hk3 ⊢
  clear hm
  subst hl
  clear HR
  go_wp2
  go_loop [7, 22] (fun v i => ∃ (j : Nat) (o : Int), j ≤ m ∧ i = .int .i64 j ∧ v = .int .i64 o ∧ Hid (rFits op ks = rFitGo ((sKinds op).drop j) (ks.drop j) o)) (fun _ i => m - (intOf i).toNat)
  case atStart => exact ⟨0, 0, Nat.zero_le _, rfl, rfl, HR2⟩
  case round =>
    obtain ⟨j, o, hj, rfl, rfl, HG⟩ := hrel
    by_cases hlt : j < m
    case neg =>
      obtain rfl : j = m := by omega
      have hd : rFits op ks = 0 := by
        rw [HG.out, List.drop_of_length_le (by rw [HLW.out]; exact Nat.le_refl _)]
        rfl
      have HD := Lib.hid hd
      clear hd
      go_wp2
      ((try simp only [Exit.inBlock, Exit.then]); refine bodyPost_ret (by simp only [results, Tryz.results89]; go_simp; try rfl) rfl ?_)
      exact ⟨ret_int HD.out.symm, HB.out⟩
    have hl1 : j < (sKinds op).length := by rw [HLW.out]; exact hlt
    have hl2 : j < ks.length := by rw [HLen.out]; exact hlt
    have hg := HG.out.trans (fitGo_step hl1 hl2)
    obtain ⟨b, off, rfl, _, hc⟩ := (HS.out.later HB.out).at_ (by omega)
    obtain ⟨b', off', rfl, _, hc'⟩ := HW.out.at_ (by omega)
    have k0 := hc j hl2
    have w0 := hc' j hl1
    clear hc hc'
    generalize ks[j] = k at hg k0
    generalize (sKinds op)[j] = u at hg w0
    by_cases hk : k = 0
    case pos =>
      subst hk
      have HG2 : Hid (rFits op ks = rFitGo ((sKinds op).drop (j + 1)) (ks.drop (j + 1)) o) := Lib.hid (by rw [hg]; rfl)
      clear hg
      go_wp2
      exact ⟨⟨j + 1, o, by omega, by go_num, rfl, HG2⟩, by simp [intOf]; omega⟩
    have hk1 : (k == 0) = false := by simpa using hk
    by_cases hu : u = 0
    · subst hu
      by_cases ho : o = 0
      · subst ho
        have HG2 : Hid (rFits op ks = rFitGo ((sKinds op).drop (j + 1)) (ks.drop (j + 1)) k) := Lib.hid (by rw [hg, hk1]; rfl)
        clear hg
        go_wp2
        exact ⟨⟨j + 1, k, by omega, by go_num, rfl, HG2⟩, by simp [intOf]; omega⟩
      · have ho1 : (o == 0) = false := by simpa using ho
        have ho2 : (o != 0) = true := by simpa using ho
        by_cases hok : o = k
        · subst hok
          have HG2 : Hid (rFits op ks = rFitGo ((sKinds op).drop (j + 1)) (ks.drop (j + 1)) o) := Lib.hid (by rw [hg, hk1]; simp)
          have hz : (o != o) = false := by simp
          clear hg
          go_wp2
          exact ⟨⟨j + 1, o, by omega, by go_num, rfl, HG2⟩, by simp [intOf]; omega⟩
        · have hok1 : (o == k) = false := by simpa using hok
          have hok2 : (o != k) = true := by simpa using hok
          have HG2 : Hid (rFits op ks = 16) := Lib.hid (by rw [hg, hk1, ho2, hok2]; rfl)
          clear hg
          go_wp2
          ((try simp only [Exit.inBlock, Exit.then]); refine bodyPost_ret (by simp only [results, Tryz.results89]; go_simp; try rfl) rfl ?_)
          exact ⟨ret_int HG2.out.symm, HB.out⟩
    · have hu1 : (u == 0) = false := by simpa using hu
      have hu2 : (u != 0) = true := by simpa using hu
      by_cases huk : u = k
      · subst huk
        have HG2 : Hid (rFits op ks = rFitGo ((sKinds op).drop (j + 1)) (ks.drop (j + 1)) u) := Lib.hid (by rw [hg, hk1]; simp)
        have hz : (u != u) = false := by simp
        clear hg
        go_wp2
        exact ⟨⟨j + 1, u, by omega, by go_num, rfl, HG2⟩, by simp [intOf]; omega⟩
      · have huk1 : (u == k) = false := by simpa using huk
        have huk2 : (u != k) = true := by simpa using huk
        have HG2 : Hid (rFits op ks = 16) := Lib.hid (by rw [hg, hk1, hu2, huk2]; rfl)
        clear hg
        go_wp2
        ((try simp only [Exit.inBlock, Exit.then]); refine bodyPost_ret (by simp only [results, Tryz.results89]; go_simp; try rfl) rfl ?_)
        exact ⟨ret_int HG2.out.symm, HB.out⟩
end Go.Proofs.YtpmfpfkahanlaaaGreatDoor

/- called of the reference, walked. -/
namespace Go.Proofs.YtpmfpfkahanlaaaGreatDoor
open Go.RowKit
set_option linter.unusedSimpArgs false
set_option linter.unusedVariables false
attribute [local go_sem] Later.cell Later.lt
attribute [local go_sem high] run_eqV run_neV
attribute [local go_sem] cell_set_same
theorem wp_still_tail {P : Program} {id : Nat} {Q : Exit → Act → World → Prop} {a : Act} {w : World} {l : List Oper} (n : Nat) (hm : P.follows .mixedOrders = true) (hB : Region.lexTailB .any l.toArray n = true)
    (h : wpStill P l.toArray w.drew (fun a' => wpList P l.toArray Q (l.drop n) a' w.drew) (l.take n) a) : (Code.region id l.toArray true).wp P Q a w := wp_region_still_tail n hm hB h

set_option maxRecDepth 100000 in
set_option maxHeartbeats 4000000 in
theorem rcalled_abs (A : Option Addr) (n c : Nat) (x : V) (r : List V) (w : World) (hE : Env w) (hS : Sl w A n (x :: r)) (h1 : -1099511627776 ≤ x.n) (h2 : x.n ≤ 1099511627776) :
    Calls Tryz.prog 90 #[.string ⟨#[97, 98, 115]⟩, .slice A n c] w fun e w' => e = .returned (.tuple #[.agg #[.int .i64 (((vI (max x.n (-x.n)), 0) : V × Int)).1.k, .int .i64 (((vI (max x.n (-x.n)), 0) : V × Int)).1.n, .string ⟨List.toArray (((vI (max x.n (-x.n)), 0) : V × Int)).1.t⟩], .int .i64 (((vI (max x.n (-x.n)), 0) : V × Int)).2]) ∧ Below w.heap.size w w' := by
  obtain ⟨b, off, rfl, hb, hn, c0, c1, c2⟩ := hS.first
  have HE := Lib.hid hE
  obtain ⟨k, m, t⟩ := x
  clear hE hS
  simp only at *
  go_enter Tryz.func90, Tryz.ntmps90
  go_wp2_with (first | (go_at_call 118; refine (rSize_any _ _ (by omega) (by omega)).mono ?_; rintro e w' ⟨rfl, rfl⟩) | (go_at_call 57; refine (rInt_any _ _).mono ?_; rintro e w1 ⟨rfl, hbw1⟩; obtain ⟨hcw1, hfw1⟩ := bfacts hbw1; have hzw1 := hbw1.size; (try simp only [World.size_alloc, World.size_setCell, World.size_drew] at hzw1); (try have hpw1 : 0 < w1.heap.size := by omega); (try have : w.heap.size < w1.heap.size := by omega); (try have : w.heap.size + 1 < w1.heap.size := by omega); (try have : w.heap.size + 1 + 1 < w1.heap.size := by omega); (try have : w.heap.size + 1 + 1 + 1 < w1.heap.size := by omega); (try have : w.heap.size + 1 + 1 + 1 + 1 < w1.heap.size := by omega); (try have : w.heap.size + 1 + 1 + 1 + 1 + 1 < w1.heap.size := by omega); (try have : w.heap.size < w1.heap.size + 1 := by omega); (try have : w.heap.size + 1 < w1.heap.size + 1 := by omega); (try have : w.heap.size + 1 + 1 < w1.heap.size + 1 := by omega); (try have : w.heap.size + 1 + 1 + 1 < w1.heap.size + 1 := by omega); (try have : w.heap.size + 1 + 1 + 1 + 1 < w1.heap.size + 1 := by omega)))
  ((try simp only [Exit.inBlock, Exit.then]); refine bodyPost_ret (by simp only [results, Tryz.results90]; go_simp; try rfl) rfl ?_)
  refine ⟨rfl, ?_⟩
  (repeat' (first | (with_reducible exact Below.refl _ _) | (with_reducible assumption) | (with_reducible refine Below.alloc ?_ ?_ _) | (with_reducible refine Below.drew ?_) | (with_reducible refine Below.drewN' ?_ _) | (with_reducible refine Below.setCell ?_ ?_ _) | (refine Below.via ?_ (by assumption) ?_) | go_size))
set_option maxRecDepth 100000 in
set_option maxHeartbeats 4000000 in
theorem rcalled_sign (A : Option Addr) (n c : Nat) (x : V) (r : List V) (w : World) (hE : Env w) (hS : Sl w A n (x :: r)) :
    Calls Tryz.prog 90 #[.string ⟨#[115, 105, 103, 110]⟩, .slice A n c] w fun e w' => e = .returned (.tuple #[.agg #[.int .i64 (((vI (min (max x.n (-1)) 1), 0) : V × Int)).1.k, .int .i64 (((vI (min (max x.n (-1)) 1), 0) : V × Int)).1.n, .string ⟨List.toArray (((vI (min (max x.n (-1)) 1), 0) : V × Int)).1.t⟩], .int .i64 (((vI (min (max x.n (-1)) 1), 0) : V × Int)).2]) ∧ Below w.heap.size w w' := by
  obtain ⟨b, off, rfl, hb, hn, c0, c1, c2⟩ := hS.first
  have HE := Lib.hid hE
  obtain ⟨k, m, t⟩ := x
  clear hE hS
  simp only at *
  go_enter Tryz.func90, Tryz.ntmps90
  go_wp2_with ((go_at_call 57; refine (rInt_any _ _).mono ?_; rintro e w1 ⟨rfl, hbw1⟩; obtain ⟨hcw1, hfw1⟩ := bfacts hbw1; have hzw1 := hbw1.size; (try simp only [World.size_alloc, World.size_setCell, World.size_drew] at hzw1); (try have hpw1 : 0 < w1.heap.size := by omega); (try have : w.heap.size < w1.heap.size := by omega); (try have : w.heap.size + 1 < w1.heap.size := by omega); (try have : w.heap.size + 1 + 1 < w1.heap.size := by omega); (try have : w.heap.size + 1 + 1 + 1 < w1.heap.size := by omega); (try have : w.heap.size + 1 + 1 + 1 + 1 < w1.heap.size := by omega); (try have : w.heap.size + 1 + 1 + 1 + 1 + 1 < w1.heap.size := by omega); (try have : w.heap.size < w1.heap.size + 1 := by omega); (try have : w.heap.size + 1 < w1.heap.size + 1 := by omega); (try have : w.heap.size + 1 + 1 < w1.heap.size + 1 := by omega); (try have : w.heap.size + 1 + 1 + 1 < w1.heap.size + 1 := by omega); (try have : w.heap.size + 1 + 1 + 1 + 1 < w1.heap.size + 1 := by omega)))
  ((try simp only [Exit.inBlock, Exit.then]); refine bodyPost_ret (by simp only [results, Tryz.results90]; go_simp; try rfl) rfl ?_)
  refine ⟨rfl, ?_⟩
  (repeat' (first | (with_reducible exact Below.refl _ _) | (with_reducible assumption) | (with_reducible refine Below.alloc ?_ ?_ _) | (with_reducible refine Below.drew ?_) | (with_reducible refine Below.drewN' ?_ _) | (with_reducible refine Below.setCell ?_ ?_ _) | (refine Below.via ?_ (by assumption) ?_) | go_size))
set_option maxRecDepth 100000 in
set_option maxHeartbeats 4000000 in
theorem rcalled_to_text (A : Option Addr) (n c : Nat) (x : V) (r : List V) (w : World) (hE : Env w) (hS : Sl w A n (x :: r)) (h1 : -1099511627776 ≤ x.n) (h2 : x.n ≤ 1099511627776) :
    Calls Tryz.prog 90 #[.string ⟨#[116, 111, 95, 116, 101, 120, 116]⟩, .slice A n c] w fun e w' => e = .returned (.tuple #[.agg #[.int .i64 (((vS (Lib.itoa x.n), 0) : V × Int)).1.k, .int .i64 (((vS (Lib.itoa x.n), 0) : V × Int)).1.n, .string ⟨List.toArray (((vS (Lib.itoa x.n), 0) : V × Int)).1.t⟩], .int .i64 (((vS (Lib.itoa x.n), 0) : V × Int)).2]) ∧ Below w.heap.size w w' := by
  obtain ⟨b, off, rfl, hb, hn, c0, c1, c2⟩ := hS.first
  have HE := Lib.hid hE
  obtain ⟨k, m, t⟩ := x
  clear hE hS
  simp only at *
  go_enter Tryz.func90, Tryz.ntmps90
  go_wp2_with (first | (go_at_call 101; refine (digits_any _ _ (by omega) (by omega)).mono ?_; rintro e w' ⟨rfl, rfl⟩) | (go_at_call 54; refine (rString_any _ _).mono ?_; rintro e w1 ⟨rfl, hbw1⟩; obtain ⟨hcw1, hfw1⟩ := bfacts hbw1; have hzw1 := hbw1.size; (try simp only [World.size_alloc, World.size_setCell, World.size_drew] at hzw1); (try have hpw1 : 0 < w1.heap.size := by omega); (try have : w.heap.size < w1.heap.size := by omega); (try have : w.heap.size + 1 < w1.heap.size := by omega); (try have : w.heap.size + 1 + 1 < w1.heap.size := by omega); (try have : w.heap.size + 1 + 1 + 1 < w1.heap.size := by omega); (try have : w.heap.size + 1 + 1 + 1 + 1 < w1.heap.size := by omega); (try have : w.heap.size + 1 + 1 + 1 + 1 + 1 < w1.heap.size := by omega); (try have : w.heap.size < w1.heap.size + 1 := by omega); (try have : w.heap.size + 1 < w1.heap.size + 1 := by omega); (try have : w.heap.size + 1 + 1 < w1.heap.size + 1 := by omega); (try have : w.heap.size + 1 + 1 + 1 < w1.heap.size + 1 := by omega); (try have : w.heap.size + 1 + 1 + 1 + 1 < w1.heap.size + 1 := by omega)))
  ((try simp only [Exit.inBlock, Exit.then]); refine bodyPost_ret (by simp only [results, Tryz.results90]; go_simp; try rfl) rfl ?_)
  refine ⟨rfl, ?_⟩
  (repeat' (first | (with_reducible exact Below.refl _ _) | (with_reducible assumption) | (with_reducible refine Below.alloc ?_ ?_ _) | (with_reducible refine Below.drew ?_) | (with_reducible refine Below.drewN' ?_ _) | (with_reducible refine Below.setCell ?_ ?_ _) | (refine Below.via ?_ (by assumption) ?_) | go_size))
set_option maxRecDepth 100000 in
set_option maxHeartbeats 4000000 in
theorem rcalled_length (A : Option Addr) (n c : Nat) (x : V) (r : List V) (w : World) (hE : Env w) (hS : Sl w A n (x :: r)) (h1 : x.t.length ≤ 200) :
    Calls Tryz.prog 90 #[.string ⟨#[108, 101, 110, 103, 116, 104]⟩, .slice A n c] w fun e w' => e = .returned (.tuple #[.agg #[.int .i64 (((vI (x.t.length : Int), 0) : V × Int)).1.k, .int .i64 (((vI (x.t.length : Int), 0) : V × Int)).1.n, .string ⟨List.toArray (((vI (x.t.length : Int), 0) : V × Int)).1.t⟩], .int .i64 (((vI (x.t.length : Int), 0) : V × Int)).2]) ∧ Below w.heap.size w w' := by
  obtain ⟨b, off, rfl, hb, hn, c0, c1, c2⟩ := hS.first
  have HE := Lib.hid hE
  obtain ⟨k, m, t⟩ := x
  clear hE hS
  simp only at *
  go_enter Tryz.func90, Tryz.ntmps90
  go_wp2_with ((go_at_call 57; refine (rInt_any _ _).mono ?_; rintro e w1 ⟨rfl, hbw1⟩; obtain ⟨hcw1, hfw1⟩ := bfacts hbw1; have hzw1 := hbw1.size; (try simp only [World.size_alloc, World.size_setCell, World.size_drew] at hzw1); (try have hpw1 : 0 < w1.heap.size := by omega); (try have : w.heap.size < w1.heap.size := by omega); (try have : w.heap.size + 1 < w1.heap.size := by omega); (try have : w.heap.size + 1 + 1 < w1.heap.size := by omega); (try have : w.heap.size + 1 + 1 + 1 < w1.heap.size := by omega); (try have : w.heap.size + 1 + 1 + 1 + 1 < w1.heap.size := by omega); (try have : w.heap.size + 1 + 1 + 1 + 1 + 1 < w1.heap.size := by omega); (try have : w.heap.size < w1.heap.size + 1 := by omega); (try have : w.heap.size + 1 < w1.heap.size + 1 := by omega); (try have : w.heap.size + 1 + 1 < w1.heap.size + 1 := by omega); (try have : w.heap.size + 1 + 1 + 1 < w1.heap.size + 1 := by omega); (try have : w.heap.size + 1 + 1 + 1 + 1 < w1.heap.size + 1 := by omega)))
  ((try simp only [Exit.inBlock, Exit.then]); refine bodyPost_ret (by simp only [results, Tryz.results90]; go_simp; try rfl) rfl ?_)
  refine ⟨rfl, ?_⟩
  (repeat' (first | (with_reducible exact Below.refl _ _) | (with_reducible assumption) | (with_reducible refine Below.alloc ?_ ?_ _) | (with_reducible refine Below.drew ?_) | (with_reducible refine Below.drewN' ?_ _) | (with_reducible refine Below.setCell ?_ ?_ _) | (refine Below.via ?_ (by assumption) ?_) | go_size))
set_option maxRecDepth 100000 in
set_option maxHeartbeats 4000000 in
theorem rcalled_upper (A : Option Addr) (n c : Nat) (x : V) (r : List V) (w : World) (hE : Env w) (hS : Sl w A n (x :: r)) (h1 : x.t.length ≤ 200) :
    Calls Tryz.prog 90 #[.string ⟨#[117, 112, 112, 101, 114]⟩, .slice A n c] w fun e w' => e = .returned (.tuple #[.agg #[.int .i64 (((vS (x.t.map (rCasedB 97 65)), 0) : V × Int)).1.k, .int .i64 (((vS (x.t.map (rCasedB 97 65)), 0) : V × Int)).1.n, .string ⟨List.toArray (((vS (x.t.map (rCasedB 97 65)), 0) : V × Int)).1.t⟩], .int .i64 (((vS (x.t.map (rCasedB 97 65)), 0) : V × Int)).2]) ∧ Below w.heap.size w w' := by
  obtain ⟨b, off, rfl, hb, hn, c0, c1, c2⟩ := hS.first
  have HE := Lib.hid hE
  obtain ⟨k, m, t⟩ := x
  clear hE hS
  simp only at *
  go_enter Tryz.func90, Tryz.ntmps90
  go_wp2_with (first | (go_at_call 124; refine (upper_c _ _ (by omega)).mono ?_; rintro e w1 ⟨rfl, hbw1⟩; obtain ⟨hcw1, hfw1⟩ := bfacts hbw1; have hzw1 := hbw1.size; (try simp only [World.size_alloc, World.size_setCell, World.size_drew] at hzw1); (try have hpw1 : 0 < w1.heap.size := by omega); (try have : w.heap.size < w1.heap.size := by omega); (try have : w.heap.size + 1 < w1.heap.size := by omega); (try have : w.heap.size + 1 + 1 < w1.heap.size := by omega); (try have : w.heap.size + 1 + 1 + 1 < w1.heap.size := by omega); (try have : w.heap.size + 1 + 1 + 1 + 1 < w1.heap.size := by omega); (try have : w.heap.size + 1 + 1 + 1 + 1 + 1 < w1.heap.size := by omega); (try have : w.heap.size < w1.heap.size + 1 := by omega); (try have : w.heap.size + 1 < w1.heap.size + 1 := by omega); (try have : w.heap.size + 1 + 1 < w1.heap.size + 1 := by omega); (try have : w.heap.size + 1 + 1 + 1 < w1.heap.size + 1 := by omega); (try have : w.heap.size + 1 + 1 + 1 + 1 < w1.heap.size + 1 := by omega)) | (go_at_call 54; refine (rString_any _ _).mono ?_; rintro e w2 ⟨rfl, hbw2⟩; obtain ⟨hcw2, hfw2⟩ := bfacts hbw2; have hzw2 := hbw2.size; (try simp only [World.size_alloc, World.size_setCell, World.size_drew] at hzw2); (try have hpw2 : 0 < w2.heap.size := by omega); (try have : w.heap.size < w2.heap.size := by omega); (try have : w.heap.size + 1 < w2.heap.size := by omega); (try have : w.heap.size + 1 + 1 < w2.heap.size := by omega); (try have : w.heap.size + 1 + 1 + 1 < w2.heap.size := by omega); (try have : w.heap.size + 1 + 1 + 1 + 1 < w2.heap.size := by omega); (try have : w.heap.size + 1 + 1 + 1 + 1 + 1 < w2.heap.size := by omega); (try have : w.heap.size < w2.heap.size + 1 := by omega); (try have : w.heap.size + 1 < w2.heap.size + 1 := by omega); (try have : w.heap.size + 1 + 1 < w2.heap.size + 1 := by omega); (try have : w.heap.size + 1 + 1 + 1 < w2.heap.size + 1 := by omega); (try have : w.heap.size + 1 + 1 + 1 + 1 < w2.heap.size + 1 := by omega); (try have : w1.heap.size < w2.heap.size := by omega); (try have : w1.heap.size + 1 < w2.heap.size := by omega); (try have : w1.heap.size + 1 + 1 < w2.heap.size := by omega); (try have : w1.heap.size + 1 + 1 + 1 < w2.heap.size := by omega); (try have : w1.heap.size + 1 + 1 + 1 + 1 < w2.heap.size := by omega); (try have : w1.heap.size + 1 + 1 + 1 + 1 + 1 < w2.heap.size := by omega); (try have : w1.heap.size < w2.heap.size + 1 := by omega); (try have : w1.heap.size + 1 < w2.heap.size + 1 := by omega); (try have : w1.heap.size + 1 + 1 < w2.heap.size + 1 := by omega); (try have : w1.heap.size + 1 + 1 + 1 < w2.heap.size + 1 := by omega); (try have : w1.heap.size + 1 + 1 + 1 + 1 < w2.heap.size + 1 := by omega)))
  ((try simp only [Exit.inBlock, Exit.then]); refine bodyPost_ret (by simp only [results, Tryz.results90]; go_simp; try rfl) rfl ?_)
  refine ⟨rfl, ?_⟩
  (repeat' (first | (with_reducible exact Below.refl _ _) | (with_reducible assumption) | (with_reducible refine Below.alloc ?_ ?_ _) | (with_reducible refine Below.drew ?_) | (with_reducible refine Below.drewN' ?_ _) | (with_reducible refine Below.setCell ?_ ?_ _) | (refine Below.via ?_ (by assumption) ?_) | go_size))
set_option maxRecDepth 100000 in
set_option maxHeartbeats 4000000 in
theorem rcalled_lower (A : Option Addr) (n c : Nat) (x : V) (r : List V) (w : World) (hE : Env w) (hS : Sl w A n (x :: r)) (h1 : x.t.length ≤ 200) :
    Calls Tryz.prog 90 #[.string ⟨#[108, 111, 119, 101, 114]⟩, .slice A n c] w fun e w' => e = .returned (.tuple #[.agg #[.int .i64 (((vS (x.t.map (rCasedB 65 97)), 0) : V × Int)).1.k, .int .i64 (((vS (x.t.map (rCasedB 65 97)), 0) : V × Int)).1.n, .string ⟨List.toArray (((vS (x.t.map (rCasedB 65 97)), 0) : V × Int)).1.t⟩], .int .i64 (((vS (x.t.map (rCasedB 65 97)), 0) : V × Int)).2]) ∧ Below w.heap.size w w' := by
  obtain ⟨b, off, rfl, hb, hn, c0, c1, c2⟩ := hS.first
  have HE := Lib.hid hE
  obtain ⟨k, m, t⟩ := x
  clear hE hS
  simp only at *
  go_enter Tryz.func90, Tryz.ntmps90
  go_wp2_with (first | (go_at_call 124; refine (lower_c _ _ (by omega)).mono ?_; rintro e w1 ⟨rfl, hbw1⟩; obtain ⟨hcw1, hfw1⟩ := bfacts hbw1; have hzw1 := hbw1.size; (try simp only [World.size_alloc, World.size_setCell, World.size_drew] at hzw1); (try have hpw1 : 0 < w1.heap.size := by omega); (try have : w.heap.size < w1.heap.size := by omega); (try have : w.heap.size + 1 < w1.heap.size := by omega); (try have : w.heap.size + 1 + 1 < w1.heap.size := by omega); (try have : w.heap.size + 1 + 1 + 1 < w1.heap.size := by omega); (try have : w.heap.size + 1 + 1 + 1 + 1 < w1.heap.size := by omega); (try have : w.heap.size + 1 + 1 + 1 + 1 + 1 < w1.heap.size := by omega); (try have : w.heap.size < w1.heap.size + 1 := by omega); (try have : w.heap.size + 1 < w1.heap.size + 1 := by omega); (try have : w.heap.size + 1 + 1 < w1.heap.size + 1 := by omega); (try have : w.heap.size + 1 + 1 + 1 < w1.heap.size + 1 := by omega); (try have : w.heap.size + 1 + 1 + 1 + 1 < w1.heap.size + 1 := by omega)) | (go_at_call 54; refine (rString_any _ _).mono ?_; rintro e w2 ⟨rfl, hbw2⟩; obtain ⟨hcw2, hfw2⟩ := bfacts hbw2; have hzw2 := hbw2.size; (try simp only [World.size_alloc, World.size_setCell, World.size_drew] at hzw2); (try have hpw2 : 0 < w2.heap.size := by omega); (try have : w.heap.size < w2.heap.size := by omega); (try have : w.heap.size + 1 < w2.heap.size := by omega); (try have : w.heap.size + 1 + 1 < w2.heap.size := by omega); (try have : w.heap.size + 1 + 1 + 1 < w2.heap.size := by omega); (try have : w.heap.size + 1 + 1 + 1 + 1 < w2.heap.size := by omega); (try have : w.heap.size + 1 + 1 + 1 + 1 + 1 < w2.heap.size := by omega); (try have : w.heap.size < w2.heap.size + 1 := by omega); (try have : w.heap.size + 1 < w2.heap.size + 1 := by omega); (try have : w.heap.size + 1 + 1 < w2.heap.size + 1 := by omega); (try have : w.heap.size + 1 + 1 + 1 < w2.heap.size + 1 := by omega); (try have : w.heap.size + 1 + 1 + 1 + 1 < w2.heap.size + 1 := by omega); (try have : w1.heap.size < w2.heap.size := by omega); (try have : w1.heap.size + 1 < w2.heap.size := by omega); (try have : w1.heap.size + 1 + 1 < w2.heap.size := by omega); (try have : w1.heap.size + 1 + 1 + 1 < w2.heap.size := by omega); (try have : w1.heap.size + 1 + 1 + 1 + 1 < w2.heap.size := by omega); (try have : w1.heap.size + 1 + 1 + 1 + 1 + 1 < w2.heap.size := by omega); (try have : w1.heap.size < w2.heap.size + 1 := by omega); (try have : w1.heap.size + 1 < w2.heap.size + 1 := by omega); (try have : w1.heap.size + 1 + 1 < w2.heap.size + 1 := by omega); (try have : w1.heap.size + 1 + 1 + 1 < w2.heap.size + 1 := by omega); (try have : w1.heap.size + 1 + 1 + 1 + 1 < w2.heap.size + 1 := by omega)))
  ((try simp only [Exit.inBlock, Exit.then]); refine bodyPost_ret (by simp only [results, Tryz.results90]; go_simp; try rfl) rfl ?_)
  refine ⟨rfl, ?_⟩
  (repeat' (first | (with_reducible exact Below.refl _ _) | (with_reducible assumption) | (with_reducible refine Below.alloc ?_ ?_ _) | (with_reducible refine Below.drew ?_) | (with_reducible refine Below.drewN' ?_ _) | (with_reducible refine Below.setCell ?_ ?_ _) | (refine Below.via ?_ (by assumption) ?_) | go_size))
set_option maxRecDepth 100000 in
set_option maxHeartbeats 4000000 in
theorem rcalled_to_int (A : Option Addr) (n c : Nat) (x : V) (r : List V) (w : World) (hE : Env w) (hS : Sl w A n (x :: r)) (h1 : x.t.length ≤ 200) (res : V × Int) (hres : (match rWh x.t with | some n => (vI n, 0) | none => (vN, 21)) = res) :
    Calls Tryz.prog 90 #[.string ⟨#[116, 111, 95, 105, 110, 116]⟩, .slice A n c] w fun e w' => e = .returned (.tuple #[.agg #[.int .i64 ((res : V × Int)).1.k, .int .i64 ((res : V × Int)).1.n, .string ⟨List.toArray ((res : V × Int)).1.t⟩], .int .i64 ((res : V × Int)).2]) ∧ Below w.heap.size w w' := by
  obtain ⟨b, off, rfl, hb, hn, c0, c1, c2⟩ := hS.first
  have HE := Lib.hid hE
  obtain ⟨k, m, t⟩ := x
  clear hE hS
  simp only at *
  have HRes := Lib.hid hres
  clear hres
  go_enter Tryz.func90, Tryz.ntmps90
  go_wp2_with fail
  have hres := HRes.out
  refine (whole_r _ _ (by omega)).mono ?_; rintro e w' ⟨N, q, rfl, hw, rfl⟩
  cases q with
  | false =>
    have HW : Hid (res = (vN, 21)) := Lib.hid (by rw [← hres, hw]; rfl)
    clear hw hres
    go_wp2_with fail
    ((try simp only [Exit.inBlock, Exit.then]); refine bodyPost_ret (by simp only [results, Tryz.results90]; go_simp; try rfl) rfl ?_)
    refine ⟨by rw [HW.out]; try rfl, ?_⟩
    (repeat' (first | (with_reducible exact Below.refl _ _) | (with_reducible assumption) | (with_reducible refine Below.alloc ?_ ?_ _) | (with_reducible refine Below.drew ?_) | (with_reducible refine Below.drewN' ?_ _) | (with_reducible refine Below.setCell ?_ ?_ _) | (refine Below.via ?_ (by assumption) ?_) | go_size))
  | true =>
    have HW : Hid (res = (vI N, 0)) := Lib.hid (by rw [← hres, hw]; rfl)
    clear hw hres
    go_wp2_with ((go_at_call 57; refine (rInt_any _ _).mono ?_; rintro e w1 ⟨rfl, hbw1⟩; obtain ⟨hcw1, hfw1⟩ := bfacts hbw1; have hzw1 := hbw1.size; (try simp only [World.size_alloc, World.size_setCell, World.size_drew] at hzw1); (try have hpw1 : 0 < w1.heap.size := by omega); (try have : w.heap.size < w1.heap.size := by omega); (try have : w.heap.size + 1 < w1.heap.size := by omega); (try have : w.heap.size + 1 + 1 < w1.heap.size := by omega); (try have : w.heap.size + 1 + 1 + 1 < w1.heap.size := by omega); (try have : w.heap.size + 1 + 1 + 1 + 1 < w1.heap.size := by omega); (try have : w.heap.size + 1 + 1 + 1 + 1 + 1 < w1.heap.size := by omega); (try have : w.heap.size < w1.heap.size + 1 := by omega); (try have : w.heap.size + 1 < w1.heap.size + 1 := by omega); (try have : w.heap.size + 1 + 1 < w1.heap.size + 1 := by omega); (try have : w.heap.size + 1 + 1 + 1 < w1.heap.size + 1 := by omega); (try have : w.heap.size + 1 + 1 + 1 + 1 < w1.heap.size + 1 := by omega)))
    ((try simp only [Exit.inBlock, Exit.then]); refine bodyPost_ret (by simp only [results, Tryz.results90]; go_simp; try rfl) rfl ?_)
    refine ⟨by rw [HW.out]; try rfl, ?_⟩
    (repeat' (first | (with_reducible exact Below.refl _ _) | (with_reducible assumption) | (with_reducible refine Below.alloc ?_ ?_ _) | (with_reducible refine Below.drew ?_) | (with_reducible refine Below.drewN' ?_ _) | (with_reducible refine Below.setCell ?_ ?_ _) | (refine Below.via ?_ (by assumption) ?_) | go_size))
set_option maxRecDepth 100000 in
set_option maxHeartbeats 4000000 in
theorem rcalled_substr (A : Option Addr) (n c : Nat) (x y z : V) (r : List V) (w : World) (hE : Env w) (hS : Sl w A n (x :: y :: z :: r)) (h1 : x.t.length ≤ 200) (hy : -1099511627776 ≤ y.n) (hy' : y.n ≤ 1099511627776) (hz : -1099511627776 ≤ z.n) (hz' : z.n ≤ 1099511627776) :
    Calls Tryz.prog 90 #[.string ⟨#[115, 117, 98, 115, 116, 114]⟩, .slice A n c] w fun e w' => e = .returned (.tuple #[.agg #[.int .i64 (((vS (rPart x.t y.n z.n), 0) : V × Int)).1.k, .int .i64 (((vS (rPart x.t y.n z.n), 0) : V × Int)).1.n, .string ⟨List.toArray (((vS (rPart x.t y.n z.n), 0) : V × Int)).1.t⟩], .int .i64 (((vS (rPart x.t y.n z.n), 0) : V × Int)).2]) ∧ Below w.heap.size w w' := by
  obtain ⟨b, off, rfl, hb, hn, ⟨c0, c1, c2⟩, d1, e1⟩ := hS.third
  have HE := Lib.hid hE
  obtain ⟨k, m, t⟩ := x
  obtain ⟨k', m', t'⟩ := y
  obtain ⟨k2, m2, t2⟩ := z
  clear hE hS
  simp only at *
  have hn2 : (2 : Int) < (n : Int) := by omega
  have hn1 : (1 : Int) < (n : Int) := by omega
  have hn0 : 0 < n := by omega
  have hn3 : 1 < n := by omega
  go_enter Tryz.func90, Tryz.ntmps90
  go_wp2_with (fail)
  refine wp_still_tail 12 (by kernel_rfl) (by kernel_rfl) ?_
  simp only [List.take_succ_cons, List.take_zero, List.drop_succ_cons, List.drop_zero]
  repeat still_step
  refine wpStill_nil ?_
  go_wp2_with (first | (go_at_call 125; refine (part_any _ _ _ _ h1 hy hy' hz hz').mono ?_; rintro e w' ⟨rfl, rfl⟩) | (go_at_call 54; refine (rString_any _ _).mono ?_; rintro e w1 ⟨rfl, hbw1⟩; obtain ⟨hcw1, hfw1⟩ := bfacts hbw1; have hzw1 := hbw1.size; (try simp only [World.size_alloc, World.size_setCell, World.size_drew] at hzw1); (try have hpw1 : 0 < w1.heap.size := by omega); (try have : w.heap.size < w1.heap.size := by omega); (try have : w.heap.size + 1 < w1.heap.size := by omega); (try have : w.heap.size + 1 + 1 < w1.heap.size := by omega); (try have : w.heap.size + 1 + 1 + 1 < w1.heap.size := by omega); (try have : w.heap.size + 1 + 1 + 1 + 1 < w1.heap.size := by omega); (try have : w.heap.size + 1 + 1 + 1 + 1 + 1 < w1.heap.size := by omega); (try have : w.heap.size < w1.heap.size + 1 := by omega); (try have : w.heap.size + 1 < w1.heap.size + 1 := by omega); (try have : w.heap.size + 1 + 1 < w1.heap.size + 1 := by omega); (try have : w.heap.size + 1 + 1 + 1 < w1.heap.size + 1 := by omega); (try have : w.heap.size + 1 + 1 + 1 + 1 < w1.heap.size + 1 := by omega)))
  ((try simp only [Exit.inBlock, Exit.then]); refine bodyPost_ret (by simp only [results, Tryz.results90]; go_simp; try rfl) rfl ?_)
  refine ⟨rfl, ?_⟩
  (repeat' (first | (with_reducible exact Below.refl _ _) | (with_reducible assumption) | (with_reducible refine Below.alloc ?_ ?_ _) | (with_reducible refine Below.drew ?_) | (with_reducible refine Below.drewN' ?_ _) | (with_reducible refine Below.setCell ?_ ?_ _) | (refine Below.via ?_ (by assumption) ?_) | go_size))
set_option maxRecDepth 100000 in
set_option maxHeartbeats 4000000 in
theorem rcalled_least (A : Option Addr) (n c : Nat) (x y : V) (r : List V) (w : World) (hE : Env w) (hS : Sl w A n (x :: y :: r)) (res : V) (hres : (if decide (rLess x y ≤ 0) == true then x else y) = res) :
    Calls Tryz.prog 90 #[.string ⟨#[108, 101, 97, 115, 116]⟩, .slice A n c] w fun e w' => e = .returned (.tuple #[.agg #[.int .i64 (((res, 0) : V × Int)).1.k, .int .i64 (((res, 0) : V × Int)).1.n, .string ⟨List.toArray (((res, 0) : V × Int)).1.t⟩], .int .i64 (((res, 0) : V × Int)).2]) ∧ Below w.heap.size w w' := by
  obtain ⟨b, off, rfl, hb0, hn, ⟨c0, c1, c2⟩, d0, d1, d2⟩ := hS.second
  have HE := Lib.hid hE
  obtain ⟨k, m, t⟩ := x
  obtain ⟨k', m', t'⟩ := y
  clear hE hS
  simp only at *
  have hn1 : (1 : Int) < (n : Int) := by omega
  have hn0 : 0 < n := by omega
  obtain ⟨L, hL⟩ : ∃ L, rLess ⟨k, m, t⟩ ⟨k', m', t'⟩ = L := ⟨_, rfl⟩
  have HL := Lib.hid hL
  clear hL
  have HRes := Lib.hid hres
  clear hres
  by_cases hl : L ≤ 0
  · have HR : Hid (res = ⟨k, m, t⟩) := Lib.hid (by rw [← HRes.out, HL.out, decide_eq_true hl]; rfl)
    have hd : (!decide (L ≤ 0)) = false := by rw [decide_eq_true hl]; rfl
    go_enter Tryz.func90, Tryz.ntmps90
    go_wp2_with fail
    refine wp_region_later (by kernel_rfl) (by kernel_rfl) ?_; (repeat (quiet_step ((go_at_call 80; exact later _ (rLess_any _ _ _ _ _ _ _))))); refine wpQuiet_nil ?_; intro w' hw'; obtain ⟨⟨w', hb⟩, hw''⟩ := hw'; subst hw''
    have hW : Below w.heap.size w w' := ((Below.refl _ _).alloc (Nat.le_refl _) _).trans (hb.mono (by simp))
    have x0 := (hW.cell (p := ⟨b, off, none⟩) hb0).trans c0
    have x1 := (hW.cell (p := ⟨b, off + 1, none⟩) hb0).trans c1
    have x2 := (hW.cell (p := ⟨b, off + 2, none⟩) hb0).trans c2
    have y0 := (hW.cell (p := ⟨b, off + 3, none⟩) hb0).trans d0
    have y1 := (hW.cell (p := ⟨b, off + 3 + 1, none⟩) hb0).trans d1
    have y2 := (hW.cell (p := ⟨b, off + 3 + 2, none⟩) hb0).trans d2
    have zz := hb.size
    simp only [World.size_alloc] at zz
    have zr : w.heap.size < w'.heap.size := by omega
    have zb : b < w'.heap.size := by omega
    have z0 : w'.cell? ⟨w.heap.size, 0, none⟩ = some (.int .i64 0) := (hb.cell (p := ⟨w.heap.size, 0, none⟩) (by simp)).trans (by go_simp)
    have z1 : w'.cell? ⟨w.heap.size, 1, none⟩ = some (.int .i64 0) := (hb.cell (p := ⟨w.heap.size, 1, none⟩) (by simp)).trans (by go_simp)
    have z2 : w'.cell? ⟨w.heap.size, 2, none⟩ = some (.string ⟨#[]⟩) := (hb.cell (p := ⟨w.heap.size, 2, none⟩) (by simp)).trans (by go_simp)
    have fz : ∀ i, w'.frozen? ⟨w.heap.size, i, none⟩ = false := fun i => (hb.frozen (p := ⟨w.heap.size, i, none⟩) (by simp)).trans (by go_simp)
    clear c0 c1 c2 d0 d1 d2
    have HW := Lib.hid hW
    clear hW hb
    rw [HL.out]
    go_wp2
    all_goals first | (rename_i hh; exact absurd hh (by rw [hd]; decide)) | skip
    ((try simp only [Exit.inBlock, Exit.then]); refine bodyPost_ret (by simp only [results, Tryz.results90]; go_simp; try rfl) rfl ?_)
    exact ⟨by rw [HR.out], ((HW.out.setCell (Nat.le_refl _) _).setCell (Nat.le_refl _) _).setCell (Nat.le_refl _) _⟩
  · have HR : Hid (res = ⟨k', m', t'⟩) := Lib.hid (by rw [← HRes.out, HL.out, decide_eq_false hl]; rfl)
    have hd : (!decide (L ≤ 0)) = true := by rw [decide_eq_false hl]; rfl
    go_enter Tryz.func90, Tryz.ntmps90
    go_wp2_with fail
    refine wp_region_later (by kernel_rfl) (by kernel_rfl) ?_; (repeat (quiet_step ((go_at_call 80; exact later _ (rLess_any _ _ _ _ _ _ _))))); refine wpQuiet_nil ?_; intro w' hw'; obtain ⟨⟨w', hb⟩, hw''⟩ := hw'; subst hw''
    have hW : Below w.heap.size w w' := ((Below.refl _ _).alloc (Nat.le_refl _) _).trans (hb.mono (by simp))
    have x0 := (hW.cell (p := ⟨b, off, none⟩) hb0).trans c0
    have x1 := (hW.cell (p := ⟨b, off + 1, none⟩) hb0).trans c1
    have x2 := (hW.cell (p := ⟨b, off + 2, none⟩) hb0).trans c2
    have y0 := (hW.cell (p := ⟨b, off + 3, none⟩) hb0).trans d0
    have y1 := (hW.cell (p := ⟨b, off + 3 + 1, none⟩) hb0).trans d1
    have y2 := (hW.cell (p := ⟨b, off + 3 + 2, none⟩) hb0).trans d2
    have zz := hb.size
    simp only [World.size_alloc] at zz
    have zr : w.heap.size < w'.heap.size := by omega
    have zb : b < w'.heap.size := by omega
    have z0 : w'.cell? ⟨w.heap.size, 0, none⟩ = some (.int .i64 0) := (hb.cell (p := ⟨w.heap.size, 0, none⟩) (by simp)).trans (by go_simp)
    have z1 : w'.cell? ⟨w.heap.size, 1, none⟩ = some (.int .i64 0) := (hb.cell (p := ⟨w.heap.size, 1, none⟩) (by simp)).trans (by go_simp)
    have z2 : w'.cell? ⟨w.heap.size, 2, none⟩ = some (.string ⟨#[]⟩) := (hb.cell (p := ⟨w.heap.size, 2, none⟩) (by simp)).trans (by go_simp)
    have fz : ∀ i, w'.frozen? ⟨w.heap.size, i, none⟩ = false := fun i => (hb.frozen (p := ⟨w.heap.size, i, none⟩) (by simp)).trans (by go_simp)
    clear c0 c1 c2 d0 d1 d2
    have HW := Lib.hid hW
    clear hW hb
    rw [HL.out]
    go_wp2
    all_goals first | (rename_i hh; exact absurd hh (by rw [hd]; decide)) | skip
    ((try simp only [Exit.inBlock, Exit.then]); refine bodyPost_ret (by simp only [results, Tryz.results90]; go_simp; try rfl) rfl ?_)
    exact ⟨by rw [HR.out], ((HW.out.setCell (Nat.le_refl _) _).setCell (Nat.le_refl _) _).setCell (Nat.le_refl _) _⟩
set_option maxRecDepth 100000 in
set_option maxHeartbeats 4000000 in
theorem rcalled_greatest (A : Option Addr) (n c : Nat) (x y : V) (r : List V) (w : World) (hE : Env w) (hS : Sl w A n (x :: y :: r)) (res : V) (hres : (if decide (rLess x y ≤ 0) == false then x else y) = res) :
    Calls Tryz.prog 90 #[.string ⟨#[103, 114, 101, 97, 116, 101, 115, 116]⟩, .slice A n c] w fun e w' => e = .returned (.tuple #[.agg #[.int .i64 (((res, 0) : V × Int)).1.k, .int .i64 (((res, 0) : V × Int)).1.n, .string ⟨List.toArray (((res, 0) : V × Int)).1.t⟩], .int .i64 (((res, 0) : V × Int)).2]) ∧ Below w.heap.size w w' := by
  obtain ⟨b, off, rfl, hb0, hn, ⟨c0, c1, c2⟩, d0, d1, d2⟩ := hS.second
  have HE := Lib.hid hE
  obtain ⟨k, m, t⟩ := x
  obtain ⟨k', m', t'⟩ := y
  clear hE hS
  simp only at *
  have hn1 : (1 : Int) < (n : Int) := by omega
  have hn0 : 0 < n := by omega
  obtain ⟨L, hL⟩ : ∃ L, rLess ⟨k, m, t⟩ ⟨k', m', t'⟩ = L := ⟨_, rfl⟩
  have HL := Lib.hid hL
  clear hL
  have HRes := Lib.hid hres
  clear hres
  by_cases hl : L ≤ 0
  · have HR : Hid (res = ⟨k', m', t'⟩) := Lib.hid (by rw [← HRes.out, HL.out, decide_eq_true hl]; rfl)
    have hd : (!decide (L ≤ 0)) = false := by rw [decide_eq_true hl]; rfl
    go_enter Tryz.func90, Tryz.ntmps90
    go_wp2_with fail
    refine wp_region_later (by kernel_rfl) (by kernel_rfl) ?_; (repeat (quiet_step ((go_at_call 80; exact later _ (rLess_any _ _ _ _ _ _ _))))); refine wpQuiet_nil ?_; intro w' hw'; obtain ⟨⟨w', hb⟩, hw''⟩ := hw'; subst hw''
    have hW : Below w.heap.size w w' := ((Below.refl _ _).alloc (Nat.le_refl _) _).trans (hb.mono (by simp))
    have x0 := (hW.cell (p := ⟨b, off, none⟩) hb0).trans c0
    have x1 := (hW.cell (p := ⟨b, off + 1, none⟩) hb0).trans c1
    have x2 := (hW.cell (p := ⟨b, off + 2, none⟩) hb0).trans c2
    have y0 := (hW.cell (p := ⟨b, off + 3, none⟩) hb0).trans d0
    have y1 := (hW.cell (p := ⟨b, off + 3 + 1, none⟩) hb0).trans d1
    have y2 := (hW.cell (p := ⟨b, off + 3 + 2, none⟩) hb0).trans d2
    have zz := hb.size
    simp only [World.size_alloc] at zz
    have zr : w.heap.size < w'.heap.size := by omega
    have zb : b < w'.heap.size := by omega
    have z0 : w'.cell? ⟨w.heap.size, 0, none⟩ = some (.int .i64 0) := (hb.cell (p := ⟨w.heap.size, 0, none⟩) (by simp)).trans (by go_simp)
    have z1 : w'.cell? ⟨w.heap.size, 1, none⟩ = some (.int .i64 0) := (hb.cell (p := ⟨w.heap.size, 1, none⟩) (by simp)).trans (by go_simp)
    have z2 : w'.cell? ⟨w.heap.size, 2, none⟩ = some (.string ⟨#[]⟩) := (hb.cell (p := ⟨w.heap.size, 2, none⟩) (by simp)).trans (by go_simp)
    have fz : ∀ i, w'.frozen? ⟨w.heap.size, i, none⟩ = false := fun i => (hb.frozen (p := ⟨w.heap.size, i, none⟩) (by simp)).trans (by go_simp)
    clear c0 c1 c2 d0 d1 d2
    have HW := Lib.hid hW
    clear hW hb
    rw [HL.out]
    go_wp2
    all_goals first | (rename_i hh; exact absurd hh (by rw [hd]; decide)) | skip
    ((try simp only [Exit.inBlock, Exit.then]); refine bodyPost_ret (by simp only [results, Tryz.results90]; go_simp; try rfl) rfl ?_)
    exact ⟨by rw [HR.out], ((HW.out.setCell (Nat.le_refl _) _).setCell (Nat.le_refl _) _).setCell (Nat.le_refl _) _⟩
  · have HR : Hid (res = ⟨k, m, t⟩) := Lib.hid (by rw [← HRes.out, HL.out, decide_eq_false hl]; rfl)
    have hd : (!decide (L ≤ 0)) = true := by rw [decide_eq_false hl]; rfl
    go_enter Tryz.func90, Tryz.ntmps90
    go_wp2_with fail
    refine wp_region_later (by kernel_rfl) (by kernel_rfl) ?_; (repeat (quiet_step ((go_at_call 80; exact later _ (rLess_any _ _ _ _ _ _ _))))); refine wpQuiet_nil ?_; intro w' hw'; obtain ⟨⟨w', hb⟩, hw''⟩ := hw'; subst hw''
    have hW : Below w.heap.size w w' := ((Below.refl _ _).alloc (Nat.le_refl _) _).trans (hb.mono (by simp))
    have x0 := (hW.cell (p := ⟨b, off, none⟩) hb0).trans c0
    have x1 := (hW.cell (p := ⟨b, off + 1, none⟩) hb0).trans c1
    have x2 := (hW.cell (p := ⟨b, off + 2, none⟩) hb0).trans c2
    have y0 := (hW.cell (p := ⟨b, off + 3, none⟩) hb0).trans d0
    have y1 := (hW.cell (p := ⟨b, off + 3 + 1, none⟩) hb0).trans d1
    have y2 := (hW.cell (p := ⟨b, off + 3 + 2, none⟩) hb0).trans d2
    have zz := hb.size
    simp only [World.size_alloc] at zz
    have zr : w.heap.size < w'.heap.size := by omega
    have zb : b < w'.heap.size := by omega
    have z0 : w'.cell? ⟨w.heap.size, 0, none⟩ = some (.int .i64 0) := (hb.cell (p := ⟨w.heap.size, 0, none⟩) (by simp)).trans (by go_simp)
    have z1 : w'.cell? ⟨w.heap.size, 1, none⟩ = some (.int .i64 0) := (hb.cell (p := ⟨w.heap.size, 1, none⟩) (by simp)).trans (by go_simp)
    have z2 : w'.cell? ⟨w.heap.size, 2, none⟩ = some (.string ⟨#[]⟩) := (hb.cell (p := ⟨w.heap.size, 2, none⟩) (by simp)).trans (by go_simp)
    have fz : ∀ i, w'.frozen? ⟨w.heap.size, i, none⟩ = false := fun i => (hb.frozen (p := ⟨w.heap.size, i, none⟩) (by simp)).trans (by go_simp)
    clear c0 c1 c2 d0 d1 d2
    have HW := Lib.hid hW
    clear hW hb
    rw [HL.out]
    go_wp2
    all_goals first | (rename_i hh; exact absurd hh (by rw [hd]; decide)) | skip
    ((try simp only [Exit.inBlock, Exit.then]); refine bodyPost_ret (by simp only [results, Tryz.results90]; go_simp; try rfl) rfl ?_)
    exact ⟨by rw [HR.out], ((HW.out.setCell (Nat.le_refl _) _).setCell (Nat.le_refl _) _).setCell (Nat.le_refl _) _⟩
end Go.Proofs.YtpmfpfkahanlaaaGreatDoor

/- Call of the reference, walked. -/
namespace Go.Proofs.YtpmfpfkahanlaaaGreatDoor
open Go.RowKit
set_option linter.unusedSimpArgs false
set_option linter.unusedVariables false
attribute [local go_sem] Later.cell Later.lt veq_self
attribute [local go_sem high] run_eqV run_neV
attribute [local go_sem] cell_set_same

theorem fits_len {op : List UInt8} {ks : List Int} (h : rFits op ks = 0) : (sKinds op).length = ks.length := by
  unfold rFits at h
  split at h
  · cases h
  · rename_i h1
    simpa using h1
theorem rc_fit {op : List UInt8} {l : List V} {F : Int} (hv : l.all sValid = true) (hs : isSig op = true) (hf : rFits op (l.map V.k) = F) (h0 : F ≠ 0) : rCall op l = (vN, F) := by
  unfold rCall
  rw [hv, hs, hf]
  simp [h0]
theorem rc_nvl {l : List V} (hv : l.all sValid = true) (hf : rFits [110, 118, 108] (l.map V.k) = 0) : rCall [110, 118, 108] l = (if (v0 l).k == 0 then v1 l else v0 l, 0) := by
  unfold rCall
  rw [hv, hf, show isSig [110, 118, 108] = true from rfl]
  rfl
theorem rc_nullif {l : List V} (hv : l.all sValid = true) (hf : rFits [110, 117, 108, 108, 105, 102] (l.map V.k) = 0) : rCall [110, 117, 108, 108, 105, 102] l = (if veq (v0 l) (v1 l) then vN else v0 l, 0) := by
  unfold rCall
  rw [hv, hf, show isSig [110, 117, 108, 108, 105, 102] = true from rfl]
  rfl
theorem rc_rest {op : List UInt8} {l : List V} {b : Bool} (hv : l.all sValid = true) (hs : isSig op = true) (hf : rFits op (l.map V.k) = 0) (h1 : (op == [110, 118, 108]) = false) (h2 : (op == [110, 117, 108, 108, 105, 102]) = false) (hb : (l.any fun x => x.k == 0) = b) : rCall op l = if b then (vN, 0) else rCalled op l := by
  unfold rCall
  rw [hv, hs, hf, h1, h2, hb]
  rfl
theorem hg_of {op : List UInt8} {l : List V} (h : rFits op (l.map V.k) = 0) : rFitGo (sKinds op) (l.map V.k) 0 = 0 := by
  unfold rFits at h
  split at h
  · cases h
  · exact h
theorem fit1 {u : Int} {x : V} (hu : u ≠ 0) (h : rFitGo [u] [x.k] 0 = 0) (hx : x.k ≠ 0) : x.k = u := by
  simp only [rFitGo] at h
  have h1 : (x.k == 0) = false := by simpa using hx
  have h2 : (u != 0) = true := by simpa using hu
  rw [h1, h2] at h
  by_cases he : u = x.k
  · exact he.symm
  · have h3 : (u != x.k) = true := by simpa using he
    rw [h3] at h
    cases h
theorem fit3 {x y z : V} (h : rFitGo [2, 1, 1] [x.k, y.k, z.k] 0 = 0) (hx : x.k ≠ 0) (hy : y.k ≠ 0) (hz : z.k ≠ 0) : x.k = 2 ∧ y.k = 1 ∧ z.k = 1 := by
  simp only [rFitGo] at h
  have h1 : (x.k == 0) = false := by simpa using hx
  have h2 : (y.k == 0) = false := by simpa using hy
  have h3 : (z.k == 0) = false := by simpa using hz
  rw [h1, h2, h3] at h
  by_cases e1 : x.k = 2
  · by_cases e2 : y.k = 1
    · by_cases e3 : z.k = 1
      · exact ⟨e1, e2, e3⟩
      · have : ((1 : Int) != z.k) = true := by simpa using fun e => e3 e.symm
        rw [this] at h
        rw [e1, e2] at h
        simp at h
    · have : ((1 : Int) != y.k) = true := by simpa using fun e => e2 e.symm
      rw [this] at h
      rw [e1] at h
      simp at h
  · have : ((2 : Int) != x.k) = true := by simpa using fun e => e1 e.symm
    rw [this] at h
    simp at h
theorem own_lt {w : World} {B : Nat} {e : TypeId} {size : Nat} {v : Value} {n : Nat} {xs : List Value} (h : w.ownsRow B e size v n xs) : ∀ k, v.ownBlock = some k → B ≤ k ∧ k < w.heap.size := by
  obtain ⟨_, h⟩ := h
  rcases h with ⟨rfl, _⟩ | ⟨g, cap, cur, rfl, hg, hh, _⟩
  · intro k hk; cases hk
  · intro k hk; cases hk; exact ⟨hg, (Array.getElem?_eq_some_iff.1 hh).1⟩
theorem step_own {P : Program} {ops : Array Oper} {o : Oper} {a : Act} {w : World} {K : Act → World → Prop} {Q : Exit → Act → World → Prop} {E : Prop} (hgd : o.guard = none) (s x : Operand) (t : TypeId)
    (ho : o.op = .call { callee := .builtin .append, args := #[s, x], argTypes := #[t, t] })
    (base : Nat) (e : TypeId) (i : TypeInfo) (z : Value) (size bytes : Nat) (ht : P.underlying t = some (.slice e)) (hi : P.info? e = some i) (hz : i.zero = some z)
    (hsize : i.size = size) (hby : i.bytes = bytes) (hzs : z.cells.size = size) (hsz : 0 < size)
    (v : Value) (n : Nat) (xs : List Value) (hs : a.eval s = v) (hown : w.ownsRow base e size v n xs)
    (ad : Addr) (m c : Nat) (news : List Value) (hx : a.eval x = .slice (some ad) m c) (hl : news.length = m * size) (hnews : ∀ j u, news[j]? = some u → w.cell? (ad.add j) = some u) (h1 : ∀ u ∈ news, u.oneCell' = true)
    (h63 : n + m ≤ maxLen) (hbytes : (n + m) * bytes ≤ 140737488355328) (hbase : base ≤ w.heap.size)
    (h : ∀ v' w', w'.ownsRow base e size v' (n + m) (xs ++ news) → w.grownBy w' v.ownBlock → K (a.put o.dst v') w') :
    if Region.wanted o (yielded ops a.tmps) = true then Oper.wp P o a w K Q else E := by
  rw [if_pos (by simp [Region.wanted, hgd])]
  exact wp_append_own w s x t ho base e i z size bytes ht hi hz hsize hby hzs hsz v n xs hs hown ad m c news hx hl hnews h1 h63 hbytes hbase fun v' w' h2 h3 _ => h v' w' h2 h3
theorem BW.grownV {w0 w w' : World} {l : List (Nat × V)} {B e size n : Nat} {v : Value} {xs : List Value} (hE0 : Env w0) (h : BW w0 w l) (ho : w.ownsRow B e size v n xs) (hg : w.grownBy w' v.ownBlock) (hne : ∀ p ∈ l, p.1 < B) (hb : w0.heap.size ≤ B) : BW w0 w' l := by
  have hk := own_lt ho
  have B' : Below w0.heap.size w0 w' := h.b.grown hg h.b.size fun k e => Nat.le_trans hb (hk k e).1
  exact ⟨fun p hp => blk_grown (h.all p hp) hg (fun e => by have := (hk _ e.symm).1; have := hne p hp; omega), hE0.later B', B'⟩
theorem BW.drew {w0 w : World} {l : List (Nat × V)} (h : BW w0 w l) : BW w0 w.drew l := h.later ((Below.refl _ _).drew)
set_option maxRecDepth 100000 in
set_option maxHeartbeats 4000000 in
theorem rcall_bad (op : List UInt8) (A : Option Addr) (n c : Nat) (l : List V) (w : World) (hE : Env w) (hS : Sl w A n l) (tl : ∀ v ∈ l, v.t.length ≤ 140737488355328) (hv : l.all sValid = false) :
    Calls Tryz.prog 36 #[.string ⟨op.toArray⟩, .slice A n c] w fun e w' => e = .returned (.tuple #[.agg #[.int .i64 (((vN, 2) : V × Int)).1.k, .int .i64 (((vN, 2) : V × Int)).1.n, .string ⟨List.toArray (((vN, 2) : V × Int)).1.t⟩], .int .i64 (((vN, 2) : V × Int)).2]) ∧ Below w.heap.size w w' := by
  have HA := Lib.hid (fun W (hS : Sl W A n l) => rAll_any A n c l W hS tl)
  rw [hv] at HA
  have HS := Lib.hid hS
  clear hE hS hv tl
  go_enter Tryz.func36, Tryz.ntmps36
  go_wp2_with fail
  refine (HA.out _ (HS.out.later (by (repeat' (first | (with_reducible exact Below.refl _ _) | (with_reducible assumption) | (with_reducible refine Below.alloc ?_ ?_ _) | (with_reducible refine Below.drew ?_) | (with_reducible refine Below.drewN' ?_ _) | (with_reducible refine Below.setCell ?_ ?_ _) | (refine Below.via ?_ (by assumption) ?_) | go_size))))).mono ?_; rintro e w1 ⟨rfl, hbw1⟩; obtain ⟨hcw1, hfw1⟩ := bfacts hbw1; have hzw1 := hbw1.size; (try simp only [World.size_alloc, World.size_setCell, World.size_drew] at hzw1); (try have hpw1 : 0 < w1.heap.size := by omega); (try have : w.heap.size < w1.heap.size := by omega); (try have : w.heap.size + 1 < w1.heap.size := by omega); (try have : w.heap.size + 1 + 1 < w1.heap.size := by omega); (try have : w.heap.size + 1 + 1 + 1 < w1.heap.size := by omega); (try have : w.heap.size + 1 + 1 + 1 + 1 < w1.heap.size := by omega); (try have : w.heap.size + 1 + 1 + 1 + 1 + 1 < w1.heap.size := by omega); (try have : w.heap.size < w1.heap.size + 1 := by omega); (try have : w.heap.size + 1 < w1.heap.size + 1 := by omega); (try have : w.heap.size + 1 + 1 < w1.heap.size + 1 := by omega); (try have : w.heap.size + 1 + 1 + 1 < w1.heap.size + 1 := by omega); (try have : w.heap.size + 1 + 1 + 1 + 1 < w1.heap.size + 1 := by omega)
  have qw10 : w1.cell? ⟨w.heap.size, 0, none⟩ = some (.int .i64 0) := (hcw1 _ _ (by go_size)).trans (by go_simp); have qw11 : w1.cell? ⟨w.heap.size, 1, none⟩ = some (.int .i64 0) := (hcw1 _ _ (by go_size)).trans (by go_simp); have qw12 : w1.cell? ⟨w.heap.size, 2, none⟩ = some (.string ⟨#[]⟩) := (hcw1 _ _ (by go_size)).trans (by go_simp)
  go_wp2
  ((try simp only [Exit.inBlock, Exit.then]); refine bodyPost_ret (by simp only [results, Tryz.results36]; go_simp; try rfl) rfl ?_)
  refine ⟨rfl, ?_⟩
  (repeat' (first | (with_reducible exact Below.refl _ _) | (with_reducible assumption) | (with_reducible refine Below.alloc ?_ ?_ _) | (with_reducible refine Below.drew ?_) | (with_reducible refine Below.drewN' ?_ _) | (with_reducible refine Below.setCell ?_ ?_ _) | (refine Below.via ?_ (by assumption) ?_) | go_size))
set_option maxRecDepth 100000 in
set_option maxHeartbeats 4000000 in
theorem rcall_not (op : List UInt8) (A : Option Addr) (n c : Nat) (l : List V) (w : World) (hE : Env w) (hS : Sl w A n l) (tl : ∀ v ∈ l, v.t.length ≤ 140737488355328) (hv : l.all sValid = true) (hs : isSig op = false) :
    Calls Tryz.prog 36 #[.string ⟨op.toArray⟩, .slice A n c] w fun e w' => e = .returned (.tuple #[.agg #[.int .i64 (((vN, 13) : V × Int)).1.k, .int .i64 (((vN, 13) : V × Int)).1.n, .string ⟨List.toArray (((vN, 13) : V × Int)).1.t⟩], .int .i64 (((vN, 13) : V × Int)).2]) ∧ Below w.heap.size w w' := by
  have HA := Lib.hid (fun W (hS : Sl W A n l) => rAll_any A n c l W hS tl)
  rw [hv] at HA
  have HS := Lib.hid hS
  clear hE hS hv tl
  go_enter Tryz.func36, Tryz.ntmps36
  go_wp2_with fail
  refine (HA.out _ (HS.out.later (by (repeat' (first | (with_reducible exact Below.refl _ _) | (with_reducible assumption) | (with_reducible refine Below.alloc ?_ ?_ _) | (with_reducible refine Below.drew ?_) | (with_reducible refine Below.drewN' ?_ _) | (with_reducible refine Below.setCell ?_ ?_ _) | (refine Below.via ?_ (by assumption) ?_) | go_size))))).mono ?_; rintro e w1 ⟨rfl, hbw1⟩; obtain ⟨hcw1, hfw1⟩ := bfacts hbw1; have hzw1 := hbw1.size; (try simp only [World.size_alloc, World.size_setCell, World.size_drew] at hzw1); (try have hpw1 : 0 < w1.heap.size := by omega); (try have : w.heap.size < w1.heap.size := by omega); (try have : w.heap.size + 1 < w1.heap.size := by omega); (try have : w.heap.size + 1 + 1 < w1.heap.size := by omega); (try have : w.heap.size + 1 + 1 + 1 < w1.heap.size := by omega); (try have : w.heap.size + 1 + 1 + 1 + 1 < w1.heap.size := by omega); (try have : w.heap.size + 1 + 1 + 1 + 1 + 1 < w1.heap.size := by omega); (try have : w.heap.size < w1.heap.size + 1 := by omega); (try have : w.heap.size + 1 < w1.heap.size + 1 := by omega); (try have : w.heap.size + 1 + 1 < w1.heap.size + 1 := by omega); (try have : w.heap.size + 1 + 1 + 1 < w1.heap.size + 1 := by omega); (try have : w.heap.size + 1 + 1 + 1 + 1 < w1.heap.size + 1 := by omega)
  have qw10 : w1.cell? ⟨w.heap.size, 0, none⟩ = some (.int .i64 0) := (hcw1 _ _ (by go_size)).trans (by go_simp); have qw11 : w1.cell? ⟨w.heap.size, 1, none⟩ = some (.int .i64 0) := (hcw1 _ _ (by go_size)).trans (by go_simp); have qw12 : w1.cell? ⟨w.heap.size, 2, none⟩ = some (.string ⟨#[]⟩) := (hcw1 _ _ (by go_size)).trans (by go_simp)
  go_wp2_with ((go_at_call 40; refine (rBuiltin_any _ _).mono ?_; rintro e w2 ⟨rfl, hbw2⟩; obtain ⟨hcw2, hfw2⟩ := bfacts hbw2; have hzw2 := hbw2.size; (try simp only [World.size_alloc, World.size_setCell, World.size_drew] at hzw2); (try have hpw2 : 0 < w2.heap.size := by omega); (try have : w.heap.size < w2.heap.size := by omega); (try have : w.heap.size + 1 < w2.heap.size := by omega); (try have : w.heap.size + 1 + 1 < w2.heap.size := by omega); (try have : w.heap.size + 1 + 1 + 1 < w2.heap.size := by omega); (try have : w.heap.size + 1 + 1 + 1 + 1 < w2.heap.size := by omega); (try have : w.heap.size + 1 + 1 + 1 + 1 + 1 < w2.heap.size := by omega); (try have : w.heap.size < w2.heap.size + 1 := by omega); (try have : w.heap.size + 1 < w2.heap.size + 1 := by omega); (try have : w.heap.size + 1 + 1 < w2.heap.size + 1 := by omega); (try have : w.heap.size + 1 + 1 + 1 < w2.heap.size + 1 := by omega); (try have : w.heap.size + 1 + 1 + 1 + 1 < w2.heap.size + 1 := by omega); (try have : w1.heap.size < w2.heap.size := by omega); (try have : w1.heap.size + 1 < w2.heap.size := by omega); (try have : w1.heap.size + 1 + 1 < w2.heap.size := by omega); (try have : w1.heap.size + 1 + 1 + 1 < w2.heap.size := by omega); (try have : w1.heap.size + 1 + 1 + 1 + 1 < w2.heap.size := by omega); (try have : w1.heap.size + 1 + 1 + 1 + 1 + 1 < w2.heap.size := by omega); (try have : w1.heap.size < w2.heap.size + 1 := by omega); (try have : w1.heap.size + 1 < w2.heap.size + 1 := by omega); (try have : w1.heap.size + 1 + 1 < w2.heap.size + 1 := by omega); (try have : w1.heap.size + 1 + 1 + 1 < w2.heap.size + 1 := by omega); (try have : w1.heap.size + 1 + 1 + 1 + 1 < w2.heap.size + 1 := by omega)); have qw20 : w2.cell? ⟨w.heap.size, 0, none⟩ = some (.int .i64 0) := (hcw2 _ _ (by go_size)).trans (by go_simp); have qw21 : w2.cell? ⟨w.heap.size, 1, none⟩ = some (.int .i64 0) := (hcw2 _ _ (by go_size)).trans (by go_simp); have qw22 : w2.cell? ⟨w.heap.size, 2, none⟩ = some (.string ⟨#[]⟩) := (hcw2 _ _ (by go_size)).trans (by go_simp))
  ((try simp only [Exit.inBlock, Exit.then]); refine bodyPost_ret (by simp only [results, Tryz.results36]; go_simp; try rfl) rfl ?_)
  refine ⟨rfl, ?_⟩
  (repeat' (first | (with_reducible exact Below.refl _ _) | (with_reducible assumption) | (with_reducible refine Below.alloc ?_ ?_ _) | (with_reducible refine Below.drew ?_) | (with_reducible refine Below.drewN' ?_ _) | (with_reducible refine Below.setCell ?_ ?_ _) | (refine Below.via ?_ (by assumption) ?_) | go_size))
set_option maxRecDepth 100000 in
set_option maxHeartbeats 8000000 in
theorem rcall_go (op : List UInt8) (A : Option Addr) (n c : Nat) (l : List V) (w : World) (hE : Env w) (hS : Sl w A n l) (tl : ∀ v ∈ l, v.t.length ≤ 140737488355328) (hv : l.all sValid = true) (hs : isSig op = true) :
    Calls Tryz.prog 36 #[.string ⟨op.toArray⟩, .slice A n c] w fun e w' => e = .returned (.tuple #[.agg #[.int .i64 (rCall op l).1.k, .int .i64 (rCall op l).1.n, .string ⟨List.toArray (rCall op l).1.t⟩], .int .i64 (rCall op l).2]) ∧ Below w.heap.size w w' := by
  have HA := Lib.hid (fun W (hS : Sl W A n l) => rAll_any A n c l W hS tl)
  rw [hv] at HA
  have HE := Lib.hid hE
  have HS := Lib.hid hS
  have hbig := hS.big
  have HLen := Lib.hid hS.len
  have HV := Lib.hid hv
  have HSig := Lib.hid hs
  obtain ⟨i0, hi, hz0, hz1, hz2⟩ := info_parts info25
  clear hE hS hv tl
  go_enter Tryz.func36, Tryz.ntmps36
  go_wp2_with fail
  refine (HA.out _ (HS.out.later (by (repeat' (first | (with_reducible exact Below.refl _ _) | (with_reducible assumption) | (with_reducible refine Below.alloc ?_ ?_ _) | (with_reducible refine Below.drew ?_) | (with_reducible refine Below.drewN' ?_ _) | (with_reducible refine Below.setCell ?_ ?_ _) | (refine Below.via ?_ (by assumption) ?_) | go_size))))).mono ?_; rintro e w1 ⟨rfl, hbw1⟩
  go_wp2_with fail
  refine (rBuiltin_any _ _).mono ?_; rintro e w2 ⟨rfl, hbw2⟩
  rw [hs]
  clear hs
  have P0 := Lib.hid (((BW.start HE.out).push vN (g := w.heap.size) rfl).later hbw1 |>.later hbw2)
  clear hbw1 hbw2 HA
  go_wp2
  go_loopw [6, 7, 21] (fun v q i wr => ∃ (j : Nat) (b : Bool), j ≤ n ∧ i = .int .i64 j ∧ q = .bool b ∧ Hid ((l.take j).any (fun x => x.k == 0) = b) ∧ Hid (BW w wr [(w.heap.size, vN)]) ∧ Hid (wr.ownsRow w2.heap.size 25 1 v j (((l.take j).map V.k).map (Value.int .i64))) ∧ w2.heap.size ≤ wr.heap.size) (fun _ _ i wr => n - (intOf i).toNat)
  case atStart => exact ⟨0, false, Nat.zero_le _, rfl, rfl, (show Hid _ from by simp [Hid]), P0, Lib.hid (World.ownsRow_nil _ _ _ _), Nat.le_refl _⟩
  case round =>
    obtain ⟨j, b, hj, rfl, rfl, HB, PW, HO, hz⟩ := hrel
    by_cases hlt : j < n
    case neg =>
      obtain rfl : j = n := by omega
      have hO := HO.out
      have hB := HB.out
      rw [List.take_of_length_le (by rw [HLen.out]; exact Nat.le_refl _)] at hO hB
      obtain ⟨A3, c3, rfl, hks⟩ := ks_of_owns hO
      have HK := Lib.hid hks
      have HBn := Lib.hid hB
      clear hO hB hks HO HB
      go_wp2_with fail
      refine (rFits_any op A3 j c3 (l.map V.k) wr HK.out hbig).mono ?_; rintro e w4 ⟨rfl, hb4⟩
      have P4 := Lib.hid (PW.out.later hb4)
      clear hb4
      have hbx := P4.out.b
      obtain ⟨⟨x0, x1, x2⟩, zx⟩ := P4.out.at_ (List.Mem.head _)
      simp only [vN] at x0 x1 x2
      have fz : ∀ i, w4.frozen? ⟨w.heap.size, i, none⟩ = false := fun i => blk_frozen (P4.out.all _ (List.Mem.head _)) i
      obtain ⟨F, hF⟩ : ∃ F, rFits op (l.map V.k) = F := ⟨_, rfl⟩
      rw [hF]
      by_cases h0 : F = 0
      case neg =>
        have HR := Lib.hid (rc_fit HV.out HSig.out hF h0)
        have h1 : (F == 0) = false := by simpa using h0
        have h2 : (F != 0) = true := by simpa using h0
        clear hF
        go_wp2
        ((try simp only [Exit.inBlock, Exit.then]); refine bodyPost_ret (by simp only [results, Tryz.results36]; go_simp; try rfl) rfl ?_)
        refine ⟨by rw [HR.out]; try rfl, ?_⟩
        (repeat' (first | (with_reducible exact Below.refl _ _) | (with_reducible assumption) | (with_reducible refine Below.alloc ?_ ?_ _) | (with_reducible refine Below.drew ?_) | (with_reducible refine Below.drewN' ?_ _) | (with_reducible refine Below.setCell ?_ ?_ _) | (refine Below.via ?_ (by assumption) ?_) | go_size))

      subst h0
      have hsig := HSig.out
      rcases sig_cases hsig with rfl | rfl | rfl | rfl | rfl | rfl | rfl | rfl | rfl | rfl | rfl | rfl
      · have hlen : j = 1 := by have := fits_len hF; rw [List.length_map, HLen.out] at this; exact this.symm
        subst hlen
        obtain ⟨x, rfl⟩ := len1 HLen.out
        have hr := rc_rest HV.out (by rfl) hF rfl rfl HBn.out
        cases b with
        | true =>
          have HR := Lib.hid hr
          clear hr hF hsig
          go_wp2_with fail
          refine (rNull_any _).mono ?_; rintro e w5 ⟨rfl, hb5⟩
          have P5 := Lib.hid (P4.out.later hb5)
          clear hbx x0 x1 x2 zx fz
          have hbx := P5.out.b
          obtain ⟨⟨x0, x1, x2⟩, zx⟩ := P5.out.at_ (List.Mem.head _)
          simp only [vN] at x0 x1 x2
          have fz : ∀ i, w5.frozen? ⟨w.heap.size, i, none⟩ = false := fun i => blk_frozen (P5.out.all _ (List.Mem.head _)) i
          go_wp2
          ((try simp only [Exit.inBlock, Exit.then]); refine bodyPost_ret (by simp only [results, Tryz.results36]; go_simp; try rfl) rfl ?_)
          refine ⟨by rw [HR.out]; try rfl, ?_⟩
          (repeat' (first | (with_reducible exact Below.refl _ _) | (with_reducible assumption) | (with_reducible refine Below.alloc ?_ ?_ _) | (with_reducible refine Below.drew ?_) | (with_reducible refine Below.drewN' ?_ _) | (with_reducible refine Below.setCell ?_ ?_ _) | (refine Below.via ?_ (by assumption) ?_) | go_size))

        | false =>
          have hk := HBn.out
          simp only [List.any_cons, List.any_nil, Bool.or_false, Bool.or_eq_false_iff, beq_eq_false_iff_ne, ne_eq] at hk
          have hv := HV.out
          simp only [List.all_cons, List.all_nil, Bool.and_true, Bool.and_eq_true] at hv
          have hg := hg_of hF
          obtain ⟨b1, b2⟩ := sValid_int hv (fit1 (u := 1) (by decide) hg hk)
          have HR := Lib.hid hr
          clear hr hF hsig hg
          go_wp2_with fail
          refine (rcalled_abs A _ c x [] _ (HE.out.later P4.out.b) (HS.out.later P4.out.b) b1 b2).mono ?_; rintro e w5 ⟨rfl, hb5⟩
          have P5 := Lib.hid (P4.out.later hb5)
          clear hbx x0 x1 x2 zx fz
          have hbx := P5.out.b
          obtain ⟨⟨x0, x1, x2⟩, zx⟩ := P5.out.at_ (List.Mem.head _)
          simp only [vN] at x0 x1 x2
          have fz : ∀ i, w5.frozen? ⟨w.heap.size, i, none⟩ = false := fun i => blk_frozen (P5.out.all _ (List.Mem.head _)) i
          go_wp2
          ((try simp only [Exit.inBlock, Exit.then]); refine bodyPost_ret (by simp only [results, Tryz.results36]; go_simp; try rfl) rfl ?_)
          refine ⟨by rw [HR.out]; try rfl, ?_⟩
          (repeat' (first | (with_reducible exact Below.refl _ _) | (with_reducible assumption) | (with_reducible refine Below.alloc ?_ ?_ _) | (with_reducible refine Below.drew ?_) | (with_reducible refine Below.drewN' ?_ _) | (with_reducible refine Below.setCell ?_ ?_ _) | (refine Below.via ?_ (by assumption) ?_) | go_size))
      · have hlen : j = 1 := by have := fits_len hF; rw [List.length_map, HLen.out] at this; exact this.symm
        subst hlen
        obtain ⟨x, rfl⟩ := len1 HLen.out
        have hr := rc_rest HV.out (by rfl) hF rfl rfl HBn.out
        cases b with
        | true =>
          have HR := Lib.hid hr
          clear hr hF hsig
          go_wp2_with fail
          refine (rNull_any _).mono ?_; rintro e w5 ⟨rfl, hb5⟩
          have P5 := Lib.hid (P4.out.later hb5)
          clear hbx x0 x1 x2 zx fz
          have hbx := P5.out.b
          obtain ⟨⟨x0, x1, x2⟩, zx⟩ := P5.out.at_ (List.Mem.head _)
          simp only [vN] at x0 x1 x2
          have fz : ∀ i, w5.frozen? ⟨w.heap.size, i, none⟩ = false := fun i => blk_frozen (P5.out.all _ (List.Mem.head _)) i
          go_wp2
          ((try simp only [Exit.inBlock, Exit.then]); refine bodyPost_ret (by simp only [results, Tryz.results36]; go_simp; try rfl) rfl ?_)
          refine ⟨by rw [HR.out]; try rfl, ?_⟩
          (repeat' (first | (with_reducible exact Below.refl _ _) | (with_reducible assumption) | (with_reducible refine Below.alloc ?_ ?_ _) | (with_reducible refine Below.drew ?_) | (with_reducible refine Below.drewN' ?_ _) | (with_reducible refine Below.setCell ?_ ?_ _) | (refine Below.via ?_ (by assumption) ?_) | go_size))

        | false =>
          have hk := HBn.out
          simp only [List.any_cons, List.any_nil, Bool.or_false, Bool.or_eq_false_iff, beq_eq_false_iff_ne, ne_eq] at hk
          have hv := HV.out
          simp only [List.all_cons, List.all_nil, Bool.and_true, Bool.and_eq_true] at hv
          have hg := hg_of hF
          have HR := Lib.hid hr
          clear hr hF hsig hg
          go_wp2_with fail
          refine (rcalled_sign A _ c x [] _ (HE.out.later P4.out.b) (HS.out.later P4.out.b)).mono ?_; rintro e w5 ⟨rfl, hb5⟩
          have P5 := Lib.hid (P4.out.later hb5)
          clear hbx x0 x1 x2 zx fz
          have hbx := P5.out.b
          obtain ⟨⟨x0, x1, x2⟩, zx⟩ := P5.out.at_ (List.Mem.head _)
          simp only [vN] at x0 x1 x2
          have fz : ∀ i, w5.frozen? ⟨w.heap.size, i, none⟩ = false := fun i => blk_frozen (P5.out.all _ (List.Mem.head _)) i
          go_wp2
          ((try simp only [Exit.inBlock, Exit.then]); refine bodyPost_ret (by simp only [results, Tryz.results36]; go_simp; try rfl) rfl ?_)
          refine ⟨by rw [HR.out]; try rfl, ?_⟩
          (repeat' (first | (with_reducible exact Below.refl _ _) | (with_reducible assumption) | (with_reducible refine Below.alloc ?_ ?_ _) | (with_reducible refine Below.drew ?_) | (with_reducible refine Below.drewN' ?_ _) | (with_reducible refine Below.setCell ?_ ?_ _) | (refine Below.via ?_ (by assumption) ?_) | go_size))
      · have hlen : j = 1 := by have := fits_len hF; rw [List.length_map, HLen.out] at this; exact this.symm
        subst hlen
        obtain ⟨x, rfl⟩ := len1 HLen.out
        have hr := rc_rest HV.out (by rfl) hF rfl rfl HBn.out
        cases b with
        | true =>
          have HR := Lib.hid hr
          clear hr hF hsig
          go_wp2_with fail
          refine (rNull_any _).mono ?_; rintro e w5 ⟨rfl, hb5⟩
          have P5 := Lib.hid (P4.out.later hb5)
          clear hbx x0 x1 x2 zx fz
          have hbx := P5.out.b
          obtain ⟨⟨x0, x1, x2⟩, zx⟩ := P5.out.at_ (List.Mem.head _)
          simp only [vN] at x0 x1 x2
          have fz : ∀ i, w5.frozen? ⟨w.heap.size, i, none⟩ = false := fun i => blk_frozen (P5.out.all _ (List.Mem.head _)) i
          go_wp2
          ((try simp only [Exit.inBlock, Exit.then]); refine bodyPost_ret (by simp only [results, Tryz.results36]; go_simp; try rfl) rfl ?_)
          refine ⟨by rw [HR.out]; try rfl, ?_⟩
          (repeat' (first | (with_reducible exact Below.refl _ _) | (with_reducible assumption) | (with_reducible refine Below.alloc ?_ ?_ _) | (with_reducible refine Below.drew ?_) | (with_reducible refine Below.drewN' ?_ _) | (with_reducible refine Below.setCell ?_ ?_ _) | (refine Below.via ?_ (by assumption) ?_) | go_size))

        | false =>
          have hk := HBn.out
          simp only [List.any_cons, List.any_nil, Bool.or_false, Bool.or_eq_false_iff, beq_eq_false_iff_ne, ne_eq] at hk
          have hv := HV.out
          simp only [List.all_cons, List.all_nil, Bool.and_true, Bool.and_eq_true] at hv
          have hg := hg_of hF
          have b1 := (sValid_str hv (fit1 (u := 2) (by decide) hg hk)).1
          have HR := Lib.hid hr
          clear hr hF hsig hg
          go_wp2_with fail
          refine (rcalled_length A _ c x [] _ (HE.out.later P4.out.b) (HS.out.later P4.out.b) b1).mono ?_; rintro e w5 ⟨rfl, hb5⟩
          have P5 := Lib.hid (P4.out.later hb5)
          clear hbx x0 x1 x2 zx fz
          have hbx := P5.out.b
          obtain ⟨⟨x0, x1, x2⟩, zx⟩ := P5.out.at_ (List.Mem.head _)
          simp only [vN] at x0 x1 x2
          have fz : ∀ i, w5.frozen? ⟨w.heap.size, i, none⟩ = false := fun i => blk_frozen (P5.out.all _ (List.Mem.head _)) i
          go_wp2
          ((try simp only [Exit.inBlock, Exit.then]); refine bodyPost_ret (by simp only [results, Tryz.results36]; go_simp; try rfl) rfl ?_)
          refine ⟨by rw [HR.out]; try rfl, ?_⟩
          (repeat' (first | (with_reducible exact Below.refl _ _) | (with_reducible assumption) | (with_reducible refine Below.alloc ?_ ?_ _) | (with_reducible refine Below.drew ?_) | (with_reducible refine Below.drewN' ?_ _) | (with_reducible refine Below.setCell ?_ ?_ _) | (refine Below.via ?_ (by assumption) ?_) | go_size))
      · have hlen : j = 1 := by have := fits_len hF; rw [List.length_map, HLen.out] at this; exact this.symm
        subst hlen
        obtain ⟨x, rfl⟩ := len1 HLen.out
        have hr := rc_rest HV.out (by rfl) hF rfl rfl HBn.out
        cases b with
        | true =>
          have HR := Lib.hid hr
          clear hr hF hsig
          go_wp2_with fail
          refine (rNull_any _).mono ?_; rintro e w5 ⟨rfl, hb5⟩
          have P5 := Lib.hid (P4.out.later hb5)
          clear hbx x0 x1 x2 zx fz
          have hbx := P5.out.b
          obtain ⟨⟨x0, x1, x2⟩, zx⟩ := P5.out.at_ (List.Mem.head _)
          simp only [vN] at x0 x1 x2
          have fz : ∀ i, w5.frozen? ⟨w.heap.size, i, none⟩ = false := fun i => blk_frozen (P5.out.all _ (List.Mem.head _)) i
          go_wp2
          ((try simp only [Exit.inBlock, Exit.then]); refine bodyPost_ret (by simp only [results, Tryz.results36]; go_simp; try rfl) rfl ?_)
          refine ⟨by rw [HR.out]; try rfl, ?_⟩
          (repeat' (first | (with_reducible exact Below.refl _ _) | (with_reducible assumption) | (with_reducible refine Below.alloc ?_ ?_ _) | (with_reducible refine Below.drew ?_) | (with_reducible refine Below.drewN' ?_ _) | (with_reducible refine Below.setCell ?_ ?_ _) | (refine Below.via ?_ (by assumption) ?_) | go_size))

        | false =>
          have hk := HBn.out
          simp only [List.any_cons, List.any_nil, Bool.or_false, Bool.or_eq_false_iff, beq_eq_false_iff_ne, ne_eq] at hk
          have hv := HV.out
          simp only [List.all_cons, List.all_nil, Bool.and_true, Bool.and_eq_true] at hv
          have hg := hg_of hF
          have b1 := (sValid_str hv (fit1 (u := 2) (by decide) hg hk)).1
          have HR := Lib.hid hr
          clear hr hF hsig hg
          go_wp2_with fail
          refine (rcalled_upper A _ c x [] _ (HE.out.later P4.out.b) (HS.out.later P4.out.b) b1).mono ?_; rintro e w5 ⟨rfl, hb5⟩
          have P5 := Lib.hid (P4.out.later hb5)
          clear hbx x0 x1 x2 zx fz
          have hbx := P5.out.b
          obtain ⟨⟨x0, x1, x2⟩, zx⟩ := P5.out.at_ (List.Mem.head _)
          simp only [vN] at x0 x1 x2
          have fz : ∀ i, w5.frozen? ⟨w.heap.size, i, none⟩ = false := fun i => blk_frozen (P5.out.all _ (List.Mem.head _)) i
          go_wp2
          ((try simp only [Exit.inBlock, Exit.then]); refine bodyPost_ret (by simp only [results, Tryz.results36]; go_simp; try rfl) rfl ?_)
          refine ⟨by rw [HR.out]; try rfl, ?_⟩
          (repeat' (first | (with_reducible exact Below.refl _ _) | (with_reducible assumption) | (with_reducible refine Below.alloc ?_ ?_ _) | (with_reducible refine Below.drew ?_) | (with_reducible refine Below.drewN' ?_ _) | (with_reducible refine Below.setCell ?_ ?_ _) | (refine Below.via ?_ (by assumption) ?_) | go_size))
      · have hlen : j = 1 := by have := fits_len hF; rw [List.length_map, HLen.out] at this; exact this.symm
        subst hlen
        obtain ⟨x, rfl⟩ := len1 HLen.out
        have hr := rc_rest HV.out (by rfl) hF rfl rfl HBn.out
        cases b with
        | true =>
          have HR := Lib.hid hr
          clear hr hF hsig
          go_wp2_with fail
          refine (rNull_any _).mono ?_; rintro e w5 ⟨rfl, hb5⟩
          have P5 := Lib.hid (P4.out.later hb5)
          clear hbx x0 x1 x2 zx fz
          have hbx := P5.out.b
          obtain ⟨⟨x0, x1, x2⟩, zx⟩ := P5.out.at_ (List.Mem.head _)
          simp only [vN] at x0 x1 x2
          have fz : ∀ i, w5.frozen? ⟨w.heap.size, i, none⟩ = false := fun i => blk_frozen (P5.out.all _ (List.Mem.head _)) i
          go_wp2
          ((try simp only [Exit.inBlock, Exit.then]); refine bodyPost_ret (by simp only [results, Tryz.results36]; go_simp; try rfl) rfl ?_)
          refine ⟨by rw [HR.out]; try rfl, ?_⟩
          (repeat' (first | (with_reducible exact Below.refl _ _) | (with_reducible assumption) | (with_reducible refine Below.alloc ?_ ?_ _) | (with_reducible refine Below.drew ?_) | (with_reducible refine Below.drewN' ?_ _) | (with_reducible refine Below.setCell ?_ ?_ _) | (refine Below.via ?_ (by assumption) ?_) | go_size))

        | false =>
          have hk := HBn.out
          simp only [List.any_cons, List.any_nil, Bool.or_false, Bool.or_eq_false_iff, beq_eq_false_iff_ne, ne_eq] at hk
          have hv := HV.out
          simp only [List.all_cons, List.all_nil, Bool.and_true, Bool.and_eq_true] at hv
          have hg := hg_of hF
          have b1 := (sValid_str hv (fit1 (u := 2) (by decide) hg hk)).1
          have HR := Lib.hid hr
          clear hr hF hsig hg
          go_wp2_with fail
          refine (rcalled_lower A _ c x [] _ (HE.out.later P4.out.b) (HS.out.later P4.out.b) b1).mono ?_; rintro e w5 ⟨rfl, hb5⟩
          have P5 := Lib.hid (P4.out.later hb5)
          clear hbx x0 x1 x2 zx fz
          have hbx := P5.out.b
          obtain ⟨⟨x0, x1, x2⟩, zx⟩ := P5.out.at_ (List.Mem.head _)
          simp only [vN] at x0 x1 x2
          have fz : ∀ i, w5.frozen? ⟨w.heap.size, i, none⟩ = false := fun i => blk_frozen (P5.out.all _ (List.Mem.head _)) i
          go_wp2
          ((try simp only [Exit.inBlock, Exit.then]); refine bodyPost_ret (by simp only [results, Tryz.results36]; go_simp; try rfl) rfl ?_)
          refine ⟨by rw [HR.out]; try rfl, ?_⟩
          (repeat' (first | (with_reducible exact Below.refl _ _) | (with_reducible assumption) | (with_reducible refine Below.alloc ?_ ?_ _) | (with_reducible refine Below.drew ?_) | (with_reducible refine Below.drewN' ?_ _) | (with_reducible refine Below.setCell ?_ ?_ _) | (refine Below.via ?_ (by assumption) ?_) | go_size))
      · have hlen : j = 3 := by have := fits_len hF; rw [List.length_map, HLen.out] at this; exact this.symm
        subst hlen
        obtain ⟨x, y, z, rfl⟩ := len3 HLen.out
        have hr := rc_rest HV.out (by rfl) hF rfl rfl HBn.out
        cases b with
        | true =>
          have HR := Lib.hid hr
          clear hr hF hsig
          go_wp2_with fail
          refine (rNull_any _).mono ?_; rintro e w5 ⟨rfl, hb5⟩
          have P5 := Lib.hid (P4.out.later hb5)
          clear hbx x0 x1 x2 zx fz
          have hbx := P5.out.b
          obtain ⟨⟨x0, x1, x2⟩, zx⟩ := P5.out.at_ (List.Mem.head _)
          simp only [vN] at x0 x1 x2
          have fz : ∀ i, w5.frozen? ⟨w.heap.size, i, none⟩ = false := fun i => blk_frozen (P5.out.all _ (List.Mem.head _)) i
          go_wp2
          ((try simp only [Exit.inBlock, Exit.then]); refine bodyPost_ret (by simp only [results, Tryz.results36]; go_simp; try rfl) rfl ?_)
          refine ⟨by rw [HR.out]; try rfl, ?_⟩
          (repeat' (first | (with_reducible exact Below.refl _ _) | (with_reducible assumption) | (with_reducible refine Below.alloc ?_ ?_ _) | (with_reducible refine Below.drew ?_) | (with_reducible refine Below.drewN' ?_ _) | (with_reducible refine Below.setCell ?_ ?_ _) | (refine Below.via ?_ (by assumption) ?_) | go_size))

        | false =>
          have hk := HBn.out
          simp only [List.any_cons, List.any_nil, Bool.or_false, Bool.or_eq_false_iff, beq_eq_false_iff_ne, ne_eq] at hk
          have hv := HV.out
          simp only [List.all_cons, List.all_nil, Bool.and_true, Bool.and_eq_true] at hv
          have hg := hg_of hF
          obtain ⟨k1, k2, k3⟩ := fit3 hg hk.1 hk.2.1 hk.2.2
          have b1 := (sValid_str hv.1 k1).1
          obtain ⟨b2, b3⟩ := sValid_int hv.2.1 k2
          obtain ⟨b4, b5⟩ := sValid_int hv.2.2 k3
          have HR := Lib.hid hr
          clear hr hF hsig hg
          go_wp2_with fail
          refine (rcalled_substr A _ c x y z [] _ (HE.out.later P4.out.b) (HS.out.later P4.out.b) b1 b2 b3 b4 b5).mono ?_; rintro e w5 ⟨rfl, hb5⟩
          have P5 := Lib.hid (P4.out.later hb5)
          clear hbx x0 x1 x2 zx fz
          have hbx := P5.out.b
          obtain ⟨⟨x0, x1, x2⟩, zx⟩ := P5.out.at_ (List.Mem.head _)
          simp only [vN] at x0 x1 x2
          have fz : ∀ i, w5.frozen? ⟨w.heap.size, i, none⟩ = false := fun i => blk_frozen (P5.out.all _ (List.Mem.head _)) i
          go_wp2
          ((try simp only [Exit.inBlock, Exit.then]); refine bodyPost_ret (by simp only [results, Tryz.results36]; go_simp; try rfl) rfl ?_)
          refine ⟨by rw [HR.out]; try rfl, ?_⟩
          (repeat' (first | (with_reducible exact Below.refl _ _) | (with_reducible assumption) | (with_reducible refine Below.alloc ?_ ?_ _) | (with_reducible refine Below.drew ?_) | (with_reducible refine Below.drewN' ?_ _) | (with_reducible refine Below.setCell ?_ ?_ _) | (refine Below.via ?_ (by assumption) ?_) | go_size))
      · have hlen : j = 1 := by have := fits_len hF; rw [List.length_map, HLen.out] at this; exact this.symm
        subst hlen
        obtain ⟨x, rfl⟩ := len1 HLen.out
        have hr := rc_rest HV.out (by rfl) hF rfl rfl HBn.out
        cases b with
        | true =>
          have HR := Lib.hid hr
          clear hr hF hsig
          go_wp2_with fail
          refine (rNull_any _).mono ?_; rintro e w5 ⟨rfl, hb5⟩
          have P5 := Lib.hid (P4.out.later hb5)
          clear hbx x0 x1 x2 zx fz
          have hbx := P5.out.b
          obtain ⟨⟨x0, x1, x2⟩, zx⟩ := P5.out.at_ (List.Mem.head _)
          simp only [vN] at x0 x1 x2
          have fz : ∀ i, w5.frozen? ⟨w.heap.size, i, none⟩ = false := fun i => blk_frozen (P5.out.all _ (List.Mem.head _)) i
          go_wp2
          ((try simp only [Exit.inBlock, Exit.then]); refine bodyPost_ret (by simp only [results, Tryz.results36]; go_simp; try rfl) rfl ?_)
          refine ⟨by rw [HR.out]; try rfl, ?_⟩
          (repeat' (first | (with_reducible exact Below.refl _ _) | (with_reducible assumption) | (with_reducible refine Below.alloc ?_ ?_ _) | (with_reducible refine Below.drew ?_) | (with_reducible refine Below.drewN' ?_ _) | (with_reducible refine Below.setCell ?_ ?_ _) | (refine Below.via ?_ (by assumption) ?_) | go_size))

        | false =>
          have hk := HBn.out
          simp only [List.any_cons, List.any_nil, Bool.or_false, Bool.or_eq_false_iff, beq_eq_false_iff_ne, ne_eq] at hk
          have hv := HV.out
          simp only [List.all_cons, List.all_nil, Bool.and_true, Bool.and_eq_true] at hv
          have hg := hg_of hF
          obtain ⟨b1, b2⟩ := sValid_int hv (fit1 (u := 1) (by decide) hg hk)
          have HR := Lib.hid hr
          clear hr hF hsig hg
          go_wp2_with fail
          refine (rcalled_to_text A _ c x [] _ (HE.out.later P4.out.b) (HS.out.later P4.out.b) b1 b2).mono ?_; rintro e w5 ⟨rfl, hb5⟩
          have P5 := Lib.hid (P4.out.later hb5)
          clear hbx x0 x1 x2 zx fz
          have hbx := P5.out.b
          obtain ⟨⟨x0, x1, x2⟩, zx⟩ := P5.out.at_ (List.Mem.head _)
          simp only [vN] at x0 x1 x2
          have fz : ∀ i, w5.frozen? ⟨w.heap.size, i, none⟩ = false := fun i => blk_frozen (P5.out.all _ (List.Mem.head _)) i
          go_wp2
          ((try simp only [Exit.inBlock, Exit.then]); refine bodyPost_ret (by simp only [results, Tryz.results36]; go_simp; try rfl) rfl ?_)
          refine ⟨by rw [HR.out]; try rfl, ?_⟩
          (repeat' (first | (with_reducible exact Below.refl _ _) | (with_reducible assumption) | (with_reducible refine Below.alloc ?_ ?_ _) | (with_reducible refine Below.drew ?_) | (with_reducible refine Below.drewN' ?_ _) | (with_reducible refine Below.setCell ?_ ?_ _) | (refine Below.via ?_ (by assumption) ?_) | go_size))
      · have hlen : j = 1 := by have := fits_len hF; rw [List.length_map, HLen.out] at this; exact this.symm
        subst hlen
        obtain ⟨x, rfl⟩ := len1 HLen.out
        have hr := rc_rest HV.out (by rfl) hF rfl rfl HBn.out
        cases b with
        | true =>
          have HR := Lib.hid hr
          clear hr hF hsig
          go_wp2_with fail
          refine (rNull_any _).mono ?_; rintro e w5 ⟨rfl, hb5⟩
          have P5 := Lib.hid (P4.out.later hb5)
          clear hbx x0 x1 x2 zx fz
          have hbx := P5.out.b
          obtain ⟨⟨x0, x1, x2⟩, zx⟩ := P5.out.at_ (List.Mem.head _)
          simp only [vN] at x0 x1 x2
          have fz : ∀ i, w5.frozen? ⟨w.heap.size, i, none⟩ = false := fun i => blk_frozen (P5.out.all _ (List.Mem.head _)) i
          go_wp2
          ((try simp only [Exit.inBlock, Exit.then]); refine bodyPost_ret (by simp only [results, Tryz.results36]; go_simp; try rfl) rfl ?_)
          refine ⟨by rw [HR.out]; try rfl, ?_⟩
          (repeat' (first | (with_reducible exact Below.refl _ _) | (with_reducible assumption) | (with_reducible refine Below.alloc ?_ ?_ _) | (with_reducible refine Below.drew ?_) | (with_reducible refine Below.drewN' ?_ _) | (with_reducible refine Below.setCell ?_ ?_ _) | (refine Below.via ?_ (by assumption) ?_) | go_size))

        | false =>
          have hk := HBn.out
          simp only [List.any_cons, List.any_nil, Bool.or_false, Bool.or_eq_false_iff, beq_eq_false_iff_ne, ne_eq] at hk
          have hv := HV.out
          simp only [List.all_cons, List.all_nil, Bool.and_true, Bool.and_eq_true] at hv
          have hg := hg_of hF
          have b1 := (sValid_str hv (fit1 (u := 2) (by decide) hg hk)).1
          obtain ⟨res, hres⟩ : ∃ r : V × Int, (match rWh x.t with | some n => (vI n, 0) | none => (vN, 21)) = r := ⟨_, rfl⟩
          have HR : Hid (rCall _ _ = res) := Lib.hid (hr.trans hres)
          clear hr hF hsig hg
          go_wp2_with fail
          have HX := Lib.hid hres
          clear hres
          refine (rcalled_to_int A _ c x [] _ (HE.out.later P4.out.b) (HS.out.later P4.out.b) b1 _ HX.out).mono ?_; rintro e w5 ⟨rfl, hb5⟩
          have P5 := Lib.hid (P4.out.later hb5)
          clear hbx x0 x1 x2 zx fz
          have hbx := P5.out.b
          obtain ⟨⟨x0, x1, x2⟩, zx⟩ := P5.out.at_ (List.Mem.head _)
          simp only [vN] at x0 x1 x2
          have fz : ∀ i, w5.frozen? ⟨w.heap.size, i, none⟩ = false := fun i => blk_frozen (P5.out.all _ (List.Mem.head _)) i
          go_wp2
          ((try simp only [Exit.inBlock, Exit.then]); refine bodyPost_ret (by simp only [results, Tryz.results36]; go_simp; try rfl) rfl ?_)
          refine ⟨by rw [HR.out]; try rfl, ?_⟩
          (repeat' (first | (with_reducible exact Below.refl _ _) | (with_reducible assumption) | (with_reducible refine Below.alloc ?_ ?_ _) | (with_reducible refine Below.drew ?_) | (with_reducible refine Below.drewN' ?_ _) | (with_reducible refine Below.setCell ?_ ?_ _) | (refine Below.via ?_ (by assumption) ?_) | go_size))
      · have hlen : j = 2 := by have := fits_len hF; rw [List.length_map, HLen.out] at this; exact this.symm
        subst hlen
        obtain ⟨x, y, rfl⟩ := len2 HLen.out
        have hr := rc_nvl HV.out hF
        clear hF hsig
        obtain ⟨b, off, rfl, hb0, hn, ⟨c0, c1, c2⟩, d0, d1, d2⟩ := (HS.out.later P4.out.b).second
        obtain ⟨k, m, t⟩ := x
        obtain ⟨k', m', t'⟩ := y
        simp only at c0 c1 c2 d0 d1 d2
        by_cases hk : k = 0
        · have HR : Hid (rCall _ _ = ((⟨k', m', t'⟩ : V), (0 : Int))) := Lib.hid (hr.trans (by subst hk; rfl))
          clear hr
          subst hk
          go_wp2
          ((try simp only [Exit.inBlock, Exit.then]); refine bodyPost_ret (by simp only [results, Tryz.results36]; go_simp; try rfl) rfl ?_)
          refine ⟨by rw [HR.out]; try rfl, ?_⟩
          (repeat' (first | (with_reducible exact Below.refl _ _) | (with_reducible assumption) | (with_reducible refine Below.alloc ?_ ?_ _) | (with_reducible refine Below.drew ?_) | (with_reducible refine Below.drewN' ?_ _) | (with_reducible refine Below.setCell ?_ ?_ _) | (refine Below.via ?_ (by assumption) ?_) | go_size))

        · have hk1 : (k == 0) = false := by simpa using hk
          have HR : Hid (rCall _ _ = ((⟨k, m, t⟩ : V), (0 : Int))) := Lib.hid (hr.trans (by simp [v0, hk]))
          clear hr
          go_wp2
          ((try simp only [Exit.inBlock, Exit.then]); refine bodyPost_ret (by simp only [results, Tryz.results36]; go_simp; try rfl) rfl ?_)
          refine ⟨by rw [HR.out]; try rfl, ?_⟩
          (repeat' (first | (with_reducible exact Below.refl _ _) | (with_reducible assumption) | (with_reducible refine Below.alloc ?_ ?_ _) | (with_reducible refine Below.drew ?_) | (with_reducible refine Below.drewN' ?_ _) | (with_reducible refine Below.setCell ?_ ?_ _) | (refine Below.via ?_ (by assumption) ?_) | go_size))
      · have hlen : j = 2 := by have := fits_len hF; rw [List.length_map, HLen.out] at this; exact this.symm
        subst hlen
        obtain ⟨x, y, rfl⟩ := len2 HLen.out
        have hr := rc_nullif HV.out hF
        clear hF hsig
        obtain ⟨b, off, rfl, hb0, hn, ⟨c0, c1, c2⟩, d0, d1, d2⟩ := (HS.out.later P4.out.b).second
        obtain ⟨k, m, t⟩ := x
        obtain ⟨k', m', t'⟩ := y
        simp only at c0 c1 c2 d0 d1 d2
        obtain ⟨q, hq⟩ : ∃ q, veq ⟨k, m, t⟩ ⟨k', m', t'⟩ = q := ⟨_, rfl⟩
        have HR0 := Lib.hid hr
        clear hr
        go_wp2_with fail
        refine wp_region_later (by kernel_rfl) (by kernel_rfl) ?_; (repeat (quiet_step ((fail)))); refine wpQuiet_nil ?_; intro w' hw'; obtain ⟨⟨w', hb⟩, hw''⟩ := hw'; subst hw''

        have P5 := Lib.hid (P4.out.later hb)
        have y0 := (hb.cell (p := ⟨b, off, none⟩) hb0).trans c0
        have y1 := (hb.cell (p := ⟨b, off + 1, none⟩) hb0).trans c1
        have y2 := (hb.cell (p := ⟨b, off + 2, none⟩) hb0).trans c2
        have zb : b < w'.heap.size := Nat.lt_of_lt_of_le hb0 hb.size
        clear hb c0 c1 c2 d0 d1 d2 hbx x0 x1 x2 zx fz
        have hbx := P5.out.b
        obtain ⟨⟨x0, x1, x2⟩, zx⟩ := P5.out.at_ (List.Mem.head _)
        simp only [vN] at x0 x1 x2
        have fz : ∀ i, w'.frozen? ⟨w.heap.size, i, none⟩ = false := fun i => blk_frozen (P5.out.all _ (List.Mem.head _)) i
        cases q with
        | true =>
          have HR : Hid (rCall _ _ = (vN, (0 : Int))) := Lib.hid (HR0.out.trans (by simp [v0, v1, hq]))
          clear hq
          go_wp2_with fail
          refine (rNull_any _).mono ?_; rintro e w6 ⟨rfl, hb6⟩
          have P6 := Lib.hid (P5.out.later hb6)
          clear hbx x0 x1 x2 zx fz
          have hbx := P6.out.b
          obtain ⟨⟨x0, x1, x2⟩, zx⟩ := P6.out.at_ (List.Mem.head _)
          simp only [vN] at x0 x1 x2
          have fz : ∀ i, w6.frozen? ⟨w.heap.size, i, none⟩ = false := fun i => blk_frozen (P6.out.all _ (List.Mem.head _)) i
          go_wp2
          ((try simp only [Exit.inBlock, Exit.then]); refine bodyPost_ret (by simp only [results, Tryz.results36]; go_simp; try rfl) rfl ?_)
          refine ⟨by rw [HR.out]; try rfl, ?_⟩
          (repeat' (first | (with_reducible exact Below.refl _ _) | (with_reducible assumption) | (with_reducible refine Below.alloc ?_ ?_ _) | (with_reducible refine Below.drew ?_) | (with_reducible refine Below.drewN' ?_ _) | (with_reducible refine Below.setCell ?_ ?_ _) | (refine Below.via ?_ (by assumption) ?_) | go_size))

        | false =>
          have HR : Hid (rCall _ _ = ((⟨k, m, t⟩ : V), (0 : Int))) := Lib.hid (HR0.out.trans (by simp [v0, v1, hq]))
          clear hq
          go_wp2
          ((try simp only [Exit.inBlock, Exit.then]); refine bodyPost_ret (by simp only [results, Tryz.results36]; go_simp; try rfl) rfl ?_)
          refine ⟨by rw [HR.out]; try rfl, ?_⟩
          (repeat' (first | (with_reducible exact Below.refl _ _) | (with_reducible assumption) | (with_reducible refine Below.alloc ?_ ?_ _) | (with_reducible refine Below.drew ?_) | (with_reducible refine Below.drewN' ?_ _) | (with_reducible refine Below.setCell ?_ ?_ _) | (refine Below.via ?_ (by assumption) ?_) | go_size))
      · have hlen : j = 2 := by have := fits_len hF; rw [List.length_map, HLen.out] at this; exact this.symm
        subst hlen
        obtain ⟨x, y, rfl⟩ := len2 HLen.out
        have hr := rc_rest HV.out (by rfl) hF rfl rfl HBn.out
        cases b with
        | true =>
          have HR := Lib.hid hr
          clear hr hF hsig
          go_wp2_with fail
          refine (rNull_any _).mono ?_; rintro e w5 ⟨rfl, hb5⟩
          have P5 := Lib.hid (P4.out.later hb5)
          clear hbx x0 x1 x2 zx fz
          have hbx := P5.out.b
          obtain ⟨⟨x0, x1, x2⟩, zx⟩ := P5.out.at_ (List.Mem.head _)
          simp only [vN] at x0 x1 x2
          have fz : ∀ i, w5.frozen? ⟨w.heap.size, i, none⟩ = false := fun i => blk_frozen (P5.out.all _ (List.Mem.head _)) i
          go_wp2
          ((try simp only [Exit.inBlock, Exit.then]); refine bodyPost_ret (by simp only [results, Tryz.results36]; go_simp; try rfl) rfl ?_)
          refine ⟨by rw [HR.out]; try rfl, ?_⟩
          (repeat' (first | (with_reducible exact Below.refl _ _) | (with_reducible assumption) | (with_reducible refine Below.alloc ?_ ?_ _) | (with_reducible refine Below.drew ?_) | (with_reducible refine Below.drewN' ?_ _) | (with_reducible refine Below.setCell ?_ ?_ _) | (refine Below.via ?_ (by assumption) ?_) | go_size))

        | false =>
          have hk := HBn.out
          simp only [List.any_cons, List.any_nil, Bool.or_false, Bool.or_eq_false_iff, beq_eq_false_iff_ne, ne_eq] at hk
          have hv := HV.out
          simp only [List.all_cons, List.all_nil, Bool.and_true, Bool.and_eq_true] at hv
          have hg := hg_of hF
          obtain ⟨res, hres⟩ : ∃ r : V, (if decide (rLess x y ≤ 0) == true then x else y) = r := ⟨_, rfl⟩
          have HR : Hid (rCall _ _ = ((res, 0) : V × Int)) := Lib.hid (hr.trans (congrArg (fun q : V => (q, (0 : Int))) hres))
          clear hr hF hsig hg
          go_wp2_with fail
          have HX := Lib.hid hres
          clear hres
          refine (rcalled_least A _ c x y [] _ (HE.out.later P4.out.b) (HS.out.later P4.out.b) _ HX.out).mono ?_; rintro e w5 ⟨rfl, hb5⟩
          have P5 := Lib.hid (P4.out.later hb5)
          clear hbx x0 x1 x2 zx fz
          have hbx := P5.out.b
          obtain ⟨⟨x0, x1, x2⟩, zx⟩ := P5.out.at_ (List.Mem.head _)
          simp only [vN] at x0 x1 x2
          have fz : ∀ i, w5.frozen? ⟨w.heap.size, i, none⟩ = false := fun i => blk_frozen (P5.out.all _ (List.Mem.head _)) i
          go_wp2
          ((try simp only [Exit.inBlock, Exit.then]); refine bodyPost_ret (by simp only [results, Tryz.results36]; go_simp; try rfl) rfl ?_)
          refine ⟨by rw [HR.out]; try rfl, ?_⟩
          (repeat' (first | (with_reducible exact Below.refl _ _) | (with_reducible assumption) | (with_reducible refine Below.alloc ?_ ?_ _) | (with_reducible refine Below.drew ?_) | (with_reducible refine Below.drewN' ?_ _) | (with_reducible refine Below.setCell ?_ ?_ _) | (refine Below.via ?_ (by assumption) ?_) | go_size))
      · have hlen : j = 2 := by have := fits_len hF; rw [List.length_map, HLen.out] at this; exact this.symm
        subst hlen
        obtain ⟨x, y, rfl⟩ := len2 HLen.out
        have hr := rc_rest HV.out (by rfl) hF rfl rfl HBn.out
        cases b with
        | true =>
          have HR := Lib.hid hr
          clear hr hF hsig
          go_wp2_with fail
          refine (rNull_any _).mono ?_; rintro e w5 ⟨rfl, hb5⟩
          have P5 := Lib.hid (P4.out.later hb5)
          clear hbx x0 x1 x2 zx fz
          have hbx := P5.out.b
          obtain ⟨⟨x0, x1, x2⟩, zx⟩ := P5.out.at_ (List.Mem.head _)
          simp only [vN] at x0 x1 x2
          have fz : ∀ i, w5.frozen? ⟨w.heap.size, i, none⟩ = false := fun i => blk_frozen (P5.out.all _ (List.Mem.head _)) i
          go_wp2
          ((try simp only [Exit.inBlock, Exit.then]); refine bodyPost_ret (by simp only [results, Tryz.results36]; go_simp; try rfl) rfl ?_)
          refine ⟨by rw [HR.out]; try rfl, ?_⟩
          (repeat' (first | (with_reducible exact Below.refl _ _) | (with_reducible assumption) | (with_reducible refine Below.alloc ?_ ?_ _) | (with_reducible refine Below.drew ?_) | (with_reducible refine Below.drewN' ?_ _) | (with_reducible refine Below.setCell ?_ ?_ _) | (refine Below.via ?_ (by assumption) ?_) | go_size))

        | false =>
          have hk := HBn.out
          simp only [List.any_cons, List.any_nil, Bool.or_false, Bool.or_eq_false_iff, beq_eq_false_iff_ne, ne_eq] at hk
          have hv := HV.out
          simp only [List.all_cons, List.all_nil, Bool.and_true, Bool.and_eq_true] at hv
          have hg := hg_of hF
          obtain ⟨res, hres⟩ : ∃ r : V, (if decide (rLess x y ≤ 0) == false then x else y) = r := ⟨_, rfl⟩
          have HR : Hid (rCall _ _ = ((res, 0) : V × Int)) := Lib.hid (hr.trans (congrArg (fun q : V => (q, (0 : Int))) hres))
          clear hr hF hsig hg
          go_wp2_with fail
          have HX := Lib.hid hres
          clear hres
          refine (rcalled_greatest A _ c x y [] _ (HE.out.later P4.out.b) (HS.out.later P4.out.b) _ HX.out).mono ?_; rintro e w5 ⟨rfl, hb5⟩
          have P5 := Lib.hid (P4.out.later hb5)
          clear hbx x0 x1 x2 zx fz
          have hbx := P5.out.b
          obtain ⟨⟨x0, x1, x2⟩, zx⟩ := P5.out.at_ (List.Mem.head _)
          simp only [vN] at x0 x1 x2
          have fz : ∀ i, w5.frozen? ⟨w.heap.size, i, none⟩ = false := fun i => blk_frozen (P5.out.all _ (List.Mem.head _)) i
          go_wp2
          ((try simp only [Exit.inBlock, Exit.then]); refine bodyPost_ret (by simp only [results, Tryz.results36]; go_simp; try rfl) rfl ?_)
          refine ⟨by rw [HR.out]; try rfl, ?_⟩
          (repeat' (first | (with_reducible exact Below.refl _ _) | (with_reducible assumption) | (with_reducible refine Below.alloc ?_ ?_ _) | (with_reducible refine Below.drew ?_) | (with_reducible refine Below.drewN' ?_ _) | (with_reducible refine Below.setCell ?_ ?_ _) | (refine Below.via ?_ (by assumption) ?_) | go_size))
    obtain ⟨bs, off, rfl, hbl, hc⟩ := (HS.out.later PW.out.b).at_ (by omega)
    have hl : j < l.length := by rw [HLen.out]; exact hlt
    obtain ⟨c0, c1, c2⟩ := hc j hl
    clear hc
    have HT : Hid ((l.take (j + 1)).any (fun x => x.k == 0) = (b || (l[j].k == 0))) := Lib.hid (by rw [List.take_succ_eq_append_getElem hl, List.any_append, HB.out]; simp)
    have HM : Hid (((l.take (j + 1)).map V.k).map (Value.int .i64) = ((l.take j).map V.k).map (Value.int .i64) ++ [.int .i64 l[j].k]) := Lib.hid (by rw [List.take_succ_eq_append_getElem hl, List.map_append, List.map_append]; rfl)
    generalize l[j] = x at c0 c1 c2 HT HM
    generalize ((l.take j).map V.k).map (Value.int .i64) = xs at HM HO
    obtain ⟨k, a, t⟩ := x
    simp only at c0 c1 c2 HT HM
    go_upto_region 10 with fail
    have HX : Hid (((wr.alloc (.cells #[.int .i64 k, .int .i64 a, .string ⟨t.toArray⟩] 27)).alloc (.cells #[.int .i64 k] 25)).drew.ownsRow w2.heap.size 25 1 u6 j xs) := Lib.hid ((HO.out.alloc _).alloc _)
    have HP : Hid (BW w ((wr.alloc (.cells #[.int .i64 k, .int .i64 a, .string ⟨t.toArray⟩] 27)).alloc (.cells #[.int .i64 k] 25)).drew [(w.heap.size, vN)]) := Lib.hid ((PW.out.alloc _).alloc _).drew
    have hsz : w2.heap.size ≤ ((wr.alloc (.cells #[.int .i64 k, .int .i64 a, .string ⟨t.toArray⟩] 27)).alloc (.cells #[.int .i64 k] 25)).drew.heap.size := by simp; omega
    have hm1 : j + 1 ≤ maxLen := by unfold maxLen; omega
    have hm2 : (j + 1) * 8 ≤ 140737488355328 := by omega
    have hcell : ∀ i u, [Value.int .i64 k][i]? = some u → ((wr.alloc (.cells #[.int .i64 k, .int .i64 a, .string ⟨t.toArray⟩] 27)).alloc (.cells #[.int .i64 k] 25)).drew.cell? ((⟨wr.heap.size + 1, 0, none⟩ : Addr).add i) = some u := by
      intro i u hu
      match i, hu with
      | 0, hu => simp at hu; subst hu; simp [Addr.add]
    have hone : ∀ u ∈ [Value.int .i64 k], u.oneCell' = true := by
      intro u hu
      simp at hu
      subst hu
      rfl
    have HC := Lib.hid hcell
    have HN := Lib.hid hone
    have HS0 := Lib.hid hsz
    clear hcell hone hsz
    have hz2w : w.heap.size < w2.heap.size := (P0.out.at_ (List.Mem.head _)).2
    have hz0w : w.heap.size ≤ w2.heap.size := Nat.le_of_lt hz2w
    have hnb : some wr.heap.size ≠ Value.ownBlock u6 := fun e => by have := (own_lt HO.out _ e.symm).2; omega
    cases b with
    | true =>
      first | go_region_law (refine step_own rfl (.tmp 25) (.tmp 28) 79 rfl w2.heap.size 25 i0 (.int .i64 0) 1 8 Tryz.underlying79 hi hz0 hz1 hz2 rfl (by decide) _ j xs rfl HX.out ⟨wr.heap.size + 1, 0, none⟩ 1 1 [.int .i64 k] rfl rfl HC.out HN.out hm1 hm2 HS0.out ?_; intro v3 w3 hown hgrow; have HO2 := Lib.hid hown; have P3 := Lib.hid (BW.grownV HE.out HP.out HX.out hgrow (by intro p hp; simp only [List.mem_cons, List.not_mem_nil, or_false] at hp; subst hp; exact hz2w) hz0w); have hz3 := hgrow.size; clear hown hgrow) | fail
      have hz4 : w2.heap.size ≤ w3.heap.size := by simp at hz3; omega
      clear hz3
      go_simp
      go_wp2
      go_roundw
      case rel => exact ⟨j + 1, true, by omega, by go_num, rfl, Lib.hid (by rw [HT.out]; rfl), P3, Lib.hid (by rw [HM.out]; exact HO2.out), hz4⟩
      case measure => simp [intOf]; omega
    | false =>
      first | go_region_law (refine step_own rfl (.tmp 25) (.tmp 28) 79 rfl w2.heap.size 25 i0 (.int .i64 0) 1 8 Tryz.underlying79 hi hz0 hz1 hz2 rfl (by decide) _ j xs rfl HX.out ⟨wr.heap.size + 1, 0, none⟩ 1 1 [.int .i64 k] rfl rfl HC.out HN.out hm1 hm2 HS0.out ?_; intro v3 w3 hown hgrow; have HO2 := Lib.hid hown; have P3 := Lib.hid (BW.grownV HE.out HP.out HX.out hgrow (by intro p hp; simp only [List.mem_cons, List.not_mem_nil, or_false] at hp; subst hp; exact hz2w) hz0w); have hz3 := hgrow.size; have v0 : w3.cell? ⟨wr.heap.size, 0, none⟩ = some (.int .i64 k) := hgrow.cell (a := ⟨wr.heap.size, 0, none⟩) (by go_simp) hnb; clear hown hgrow) | fail
      have hz4 : w2.heap.size ≤ w3.heap.size := by simp at hz3; omega
      clear hz3
      go_simp
      go_wp2
      go_roundw
      case rel => exact ⟨j + 1, k == 0, by omega, by go_num, rfl, Lib.hid (by rw [HT.out]; rfl), P3, Lib.hid (by rw [HM.out]; exact HO2.out), hz4⟩
      case measure => simp [intOf]; omega
end Go.Proofs.YtpmfpfkahanlaaaGreatDoor

/- Aggregate of the reference, walked. -/
namespace Go.Proofs.YtpmfpfkahanlaaaGreatDoor
open Go.RowKit
set_option linter.unusedSimpArgs false
set_option linter.unusedVariables false
attribute [local go_sem] Later.cell Later.lt veq_self
attribute [local go_sem high] run_eqV run_neV
attribute [local go_sem] cell_set_same

theorem rcall_any (op : List UInt8) (A : Option Addr) (n c : Nat) (l : List V) (w : World) (hE : Env w) (hS : Sl w A n l) (tl : ∀ v ∈ l, v.t.length ≤ 140737488355328) :
    Calls Tryz.prog 36 #[.string ⟨op.toArray⟩, .slice A n c] w fun e w' => e = .returned (.tuple #[.agg #[.int .i64 (rCall op l).1.k, .int .i64 (rCall op l).1.n, .string ⟨List.toArray (rCall op l).1.t⟩], .int .i64 (rCall op l).2]) ∧ Below w.heap.size w w' := by
  cases hv : l.all sValid with
  | false =>
    have h : rCall op l = (vN, 2) := by unfold rCall; rw [hv]; rfl
    rw [h]
    exact rcall_bad op A n c l w hE hS tl hv
  | true =>
    cases hs : isSig op with
    | false =>
      have h : rCall op l = (vN, 13) := by unfold rCall; rw [hv, hs]; rfl
      rw [h]
      exact rcall_not op A n c l w hE hS tl hv hs
    | true => exact rcall_go op A n c l w hE hS tl hv hs
/-- append(some, v) of a slice of values of the call's own. -/
theorem wpList_pushV {ops : Array Oper} {rest : List Oper} {o : Oper} {a : Act} {w : World} {Q : Exit → Act → World → Prop} (hgd : o.guard = none) (s y : Operand)
    (ho : o.op = .call { callee := .builtin .append, args := #[s, y], argTypes := #[22, 22] }) (B : Nat) (v : Value) (p : List V) (hs : a.eval s = v) (W0 : World) (hown : W0.ownsRow B 27 3 v p.length (p.flatMap encL))
    (x : V) (hw : w = W0.alloc (.cells (cellsV x) 27)) (hx : a.eval y = .slice (some ⟨W0.heap.size, 0, none⟩) 1 1) (hn : p.length ≤ 1000000) (w0 : World) (L : List (Nat × V)) (hE0 : Env w0) (hb : BW w0 W0 L) (hL : ∀ q ∈ L, q.1 < B) (hZ : w0.heap.size ≤ B) (hB : B ≤ W0.heap.size)
    (q : List V) (hq : q = p ++ [x]) (h : ∀ v' w', w'.ownsRow B 27 3 v' q.length (q.flatMap encL) → BW w0 w' L → B ≤ w'.heap.size → wpList Tryz.prog ops Q rest (a.put o.dst v') w') : wpList Tryz.prog ops Q (o :: rest) a w := by
  subst hw hq
  obtain ⟨i0, hi, hz0, hz1, hz2⟩ := info_parts info27
  have hox := hown.alloc (.cells (cellsV x) 27)
  refine wpList_append_own _ hgd s y 22 ho B 27 i0 (.agg #[.int .i64 0, .int .i64 0, .string ⟨#[]⟩]) 3 32 Tryz.underlying22 hi hz0 hz1 hz2 rfl (by decide) v p.length (p.flatMap encL) hs hox ⟨W0.heap.size, 0, none⟩ 1 1 (encL x) hx rfl ?_ ?_ (by unfold maxLen; omega) (by omega) (by simp; omega) ?_
  · intro j u hj
    obtain ⟨k, m, t⟩ := x
    match j, hj with
    | 0, hj => simp [encL] at hj; subst hj; simp [Addr.add, cellsV]
    | 1, hj => simp [encL] at hj; subst hj; simp [Addr.add, cellsV]
    | 2, hj => simp [encL] at hj; subst hj; simp [Addr.add, cellsV]
    | j + 3, hj => simp [encL] at hj
  · intro u hu
    simp [encL] at hu
    rcases hu with rfl | rfl | rfl <;> rfl
  · intro v' w' h1 h2 _
    have z := h2.size
    simp at z
    exact h v' w' (by simpa using h1) (BW.grownV hE0 (hb.alloc _) hox h2 hL hZ) (by omega)
def rBad (op : List UInt8) (x v : V) : Bool := v.k != x.k || (op == [115, 117, 109] && v.k != 1)
set_option maxRecDepth 100000 in
set_option maxHeartbeats 8000000 in
theorem ragg_bad (op : List UInt8) (A : Option Addr) (n c : Nat) (l : List V) (w : World) (hE : Env w) (hS : Sl w A n l) (tl : ∀ v ∈ l, v.t.length ≤ 140737488355328) (hv : l.all sValid = false) :
    Calls Tryz.prog 38 #[.string ⟨op.toArray⟩, .slice A n c] w fun e w' => e = .returned (.tuple #[.agg #[.int .i64 (((vN, 2) : V × Int)).1.k, .int .i64 (((vN, 2) : V × Int)).1.n, .string ⟨List.toArray (((vN, 2) : V × Int)).1.t⟩], .int .i64 (((vN, 2) : V × Int)).2]) ∧ Below w.heap.size w w' := by
  have HA := Lib.hid (fun W (hS : Sl W A n l) => rAll_any A n c l W hS tl)
  rw [hv] at HA
  have HS := Lib.hid hS
  clear hE hS hv tl
  go_enter Tryz.func38, Tryz.ntmps38
  go_wp2_with fail
  refine (HA.out _ (HS.out.later (by (repeat' (first | (with_reducible exact Below.refl _ _) | (with_reducible assumption) | (with_reducible refine Below.alloc ?_ ?_ _) | (with_reducible refine Below.drew ?_) | (with_reducible refine Below.drewN' ?_ _) | (with_reducible refine Below.setCell ?_ ?_ _) | (refine Below.via ?_ (by assumption) ?_) | go_size))))).mono ?_; rintro e w1 ⟨rfl, hbw1⟩; obtain ⟨hcw1, hfw1⟩ := bfacts hbw1; have hzw1 := hbw1.size; (try simp only [World.size_alloc, World.size_setCell, World.size_drew] at hzw1); (try have hpw1 : 0 < w1.heap.size := by omega); (try have : w.heap.size < w1.heap.size := by omega); (try have : w.heap.size + 1 < w1.heap.size := by omega); (try have : w.heap.size + 1 + 1 < w1.heap.size := by omega); (try have : w.heap.size + 1 + 1 + 1 < w1.heap.size := by omega); (try have : w.heap.size + 1 + 1 + 1 + 1 < w1.heap.size := by omega); (try have : w.heap.size + 1 + 1 + 1 + 1 + 1 < w1.heap.size := by omega); (try have : w.heap.size < w1.heap.size + 1 := by omega); (try have : w.heap.size + 1 < w1.heap.size + 1 := by omega); (try have : w.heap.size + 1 + 1 < w1.heap.size + 1 := by omega); (try have : w.heap.size + 1 + 1 + 1 < w1.heap.size + 1 := by omega); (try have : w.heap.size + 1 + 1 + 1 + 1 < w1.heap.size + 1 := by omega)
  have qw10 : w1.cell? ⟨w.heap.size, 0, none⟩ = some (.int .i64 0) := (hcw1 _ _ (by go_size)).trans (by go_simp); have qw11 : w1.cell? ⟨w.heap.size, 1, none⟩ = some (.int .i64 0) := (hcw1 _ _ (by go_size)).trans (by go_simp); have qw12 : w1.cell? ⟨w.heap.size, 2, none⟩ = some (.string ⟨#[]⟩) := (hcw1 _ _ (by go_size)).trans (by go_simp)
  go_wp2
  ((try simp only [Exit.inBlock, Exit.then]); refine bodyPost_ret (by simp only [results, Tryz.results38]; go_simp; try rfl) rfl ?_)
  refine ⟨rfl, ?_⟩
  (repeat' (first | (with_reducible exact Below.refl _ _) | (with_reducible assumption) | (with_reducible refine Below.alloc ?_ ?_ _) | (with_reducible refine Below.drew ?_) | (with_reducible refine Below.drewN' ?_ _) | (with_reducible refine Below.setCell ?_ ?_ _) | (refine Below.via ?_ (by assumption) ?_) | go_size))
set_option maxRecDepth 100000 in
set_option maxHeartbeats 8000000 in
theorem ragg_not (op : List UInt8) (A : Option Addr) (n c : Nat) (l : List V) (w : World) (hE : Env w) (hS : Sl w A n l) (tl : ∀ v ∈ l, v.t.length ≤ 140737488355328) (hv : l.all sValid = true) (hs : sIsAgg op = false) :
    Calls Tryz.prog 38 #[.string ⟨op.toArray⟩, .slice A n c] w fun e w' => e = .returned (.tuple #[.agg #[.int .i64 (((vN, 13) : V × Int)).1.k, .int .i64 (((vN, 13) : V × Int)).1.n, .string ⟨List.toArray (((vN, 13) : V × Int)).1.t⟩], .int .i64 (((vN, 13) : V × Int)).2]) ∧ Below w.heap.size w w' := by
  have HA := Lib.hid (fun W (hS : Sl W A n l) => rAll_any A n c l W hS tl)
  rw [hv] at HA
  have HS := Lib.hid hS
  clear hE hS hv tl
  go_enter Tryz.func38, Tryz.ntmps38
  go_wp2_with fail
  refine (HA.out _ (HS.out.later (by (repeat' (first | (with_reducible exact Below.refl _ _) | (with_reducible assumption) | (with_reducible refine Below.alloc ?_ ?_ _) | (with_reducible refine Below.drew ?_) | (with_reducible refine Below.drewN' ?_ _) | (with_reducible refine Below.setCell ?_ ?_ _) | (refine Below.via ?_ (by assumption) ?_) | go_size))))).mono ?_; rintro e w1 ⟨rfl, hbw1⟩; obtain ⟨hcw1, hfw1⟩ := bfacts hbw1; have hzw1 := hbw1.size; (try simp only [World.size_alloc, World.size_setCell, World.size_drew] at hzw1); (try have hpw1 : 0 < w1.heap.size := by omega); (try have : w.heap.size < w1.heap.size := by omega); (try have : w.heap.size + 1 < w1.heap.size := by omega); (try have : w.heap.size + 1 + 1 < w1.heap.size := by omega); (try have : w.heap.size + 1 + 1 + 1 < w1.heap.size := by omega); (try have : w.heap.size + 1 + 1 + 1 + 1 < w1.heap.size := by omega); (try have : w.heap.size + 1 + 1 + 1 + 1 + 1 < w1.heap.size := by omega); (try have : w.heap.size < w1.heap.size + 1 := by omega); (try have : w.heap.size + 1 < w1.heap.size + 1 := by omega); (try have : w.heap.size + 1 + 1 < w1.heap.size + 1 := by omega); (try have : w.heap.size + 1 + 1 + 1 < w1.heap.size + 1 := by omega); (try have : w.heap.size + 1 + 1 + 1 + 1 < w1.heap.size + 1 := by omega)
  have qw10 : w1.cell? ⟨w.heap.size, 0, none⟩ = some (.int .i64 0) := (hcw1 _ _ (by go_size)).trans (by go_simp); have qw11 : w1.cell? ⟨w.heap.size, 1, none⟩ = some (.int .i64 0) := (hcw1 _ _ (by go_size)).trans (by go_simp); have qw12 : w1.cell? ⟨w.heap.size, 2, none⟩ = some (.string ⟨#[]⟩) := (hcw1 _ _ (by go_size)).trans (by go_simp)
  go_wp2_with ((go_at_call 42; refine (rIsAgg_any _ _).mono ?_; rintro e w2 ⟨rfl, hbw2⟩; obtain ⟨hcw2, hfw2⟩ := bfacts hbw2; have hzw2 := hbw2.size; (try simp only [World.size_alloc, World.size_setCell, World.size_drew] at hzw2); (try have hpw2 : 0 < w2.heap.size := by omega); (try have : w.heap.size < w2.heap.size := by omega); (try have : w.heap.size + 1 < w2.heap.size := by omega); (try have : w.heap.size + 1 + 1 < w2.heap.size := by omega); (try have : w.heap.size + 1 + 1 + 1 < w2.heap.size := by omega); (try have : w.heap.size + 1 + 1 + 1 + 1 < w2.heap.size := by omega); (try have : w.heap.size + 1 + 1 + 1 + 1 + 1 < w2.heap.size := by omega); (try have : w.heap.size < w2.heap.size + 1 := by omega); (try have : w.heap.size + 1 < w2.heap.size + 1 := by omega); (try have : w.heap.size + 1 + 1 < w2.heap.size + 1 := by omega); (try have : w.heap.size + 1 + 1 + 1 < w2.heap.size + 1 := by omega); (try have : w.heap.size + 1 + 1 + 1 + 1 < w2.heap.size + 1 := by omega); (try have : w1.heap.size < w2.heap.size := by omega); (try have : w1.heap.size + 1 < w2.heap.size := by omega); (try have : w1.heap.size + 1 + 1 < w2.heap.size := by omega); (try have : w1.heap.size + 1 + 1 + 1 < w2.heap.size := by omega); (try have : w1.heap.size + 1 + 1 + 1 + 1 < w2.heap.size := by omega); (try have : w1.heap.size + 1 + 1 + 1 + 1 + 1 < w2.heap.size := by omega); (try have : w1.heap.size < w2.heap.size + 1 := by omega); (try have : w1.heap.size + 1 < w2.heap.size + 1 := by omega); (try have : w1.heap.size + 1 + 1 < w2.heap.size + 1 := by omega); (try have : w1.heap.size + 1 + 1 + 1 < w2.heap.size + 1 := by omega); (try have : w1.heap.size + 1 + 1 + 1 + 1 < w2.heap.size + 1 := by omega)); have qw20 : w2.cell? ⟨w.heap.size, 0, none⟩ = some (.int .i64 0) := (hcw2 _ _ (by go_size)).trans (by go_simp); have qw21 : w2.cell? ⟨w.heap.size, 1, none⟩ = some (.int .i64 0) := (hcw2 _ _ (by go_size)).trans (by go_simp); have qw22 : w2.cell? ⟨w.heap.size, 2, none⟩ = some (.string ⟨#[]⟩) := (hcw2 _ _ (by go_size)).trans (by go_simp))
  ((try simp only [Exit.inBlock, Exit.then]); refine bodyPost_ret (by simp only [results, Tryz.results38]; go_simp; try rfl) rfl ?_)
  refine ⟨rfl, ?_⟩
  (repeat' (first | (with_reducible exact Below.refl _ _) | (with_reducible assumption) | (with_reducible refine Below.alloc ?_ ?_ _) | (with_reducible refine Below.drew ?_) | (with_reducible refine Below.drewN' ?_ _) | (with_reducible refine Below.setCell ?_ ?_ _) | (refine Below.via ?_ (by assumption) ?_) | go_size))
set_option maxRecDepth 100000 in
set_option maxHeartbeats 8000000 in
theorem ragg_go (op : List UInt8) (A : Option Addr) (n c : Nat) (l : List V) (w : World) (hE : Env w) (hS : Sl w A n l) (tl : ∀ v ∈ l, v.t.length ≤ 140737488355328) (hv : l.all sValid = true) (hs : sIsAgg op = true) (hlen : n ≤ 1000) :
    Calls Tryz.prog 38 #[.string ⟨op.toArray⟩, .slice A n c] w fun e w' => e = .returned (.tuple #[.agg #[.int .i64 (rAggOf op (present l)).1.k, .int .i64 (rAggOf op (present l)).1.n, .string ⟨List.toArray (rAggOf op (present l)).1.t⟩], .int .i64 (rAggOf op (present l)).2]) ∧ Below w.heap.size w w' := by
  have HA := Lib.hid (fun W (hS : Sl W A n l) => rAll_any A n c l W hS tl)
  rw [hv] at HA
  have HS := Lib.hid hS
  have HE := Lib.hid hE
  have hbig := hS.big
  have HLen := Lib.hid hS.len
  have HV := Lib.hid hv
  have HSig := Lib.hid hs
  obtain ⟨i0, hi, hz0, hz1, hz2⟩ := info_parts info27
  clear hE hS hv tl
  go_enter Tryz.func38, Tryz.ntmps38
  go_wp2_with fail
  refine (HA.out _ (HS.out.later (by (repeat' (first | (with_reducible exact Below.refl _ _) | (with_reducible assumption) | (with_reducible refine Below.alloc ?_ ?_ _) | (with_reducible refine Below.drew ?_) | (with_reducible refine Below.drewN' ?_ _) | (with_reducible refine Below.setCell ?_ ?_ _) | (refine Below.via ?_ (by assumption) ?_) | go_size))))).mono ?_; rintro e w1 ⟨rfl, hbw1⟩
  go_wp2_with fail
  refine (rIsAgg_any _ _).mono ?_; rintro e w2 ⟨rfl, hbw2⟩
  rw [hs]
  clear hs
  have P0 := Lib.hid (((BW.start HE.out).push vN (g := w.heap.size) rfl).later hbw1 |>.later hbw2)
  clear hbw1 hbw2 HA
  have hz2w : w.heap.size < w2.heap.size := (P0.out.at_ (List.Mem.head _)).2
  have hz0w : w.heap.size ≤ w2.heap.size := Nat.le_of_lt hz2w
  have hLL : Hid (∀ q ∈ [(w.heap.size, vN)], q.1 < w2.heap.size) := Lib.hid (by intro q hq; simp only [List.mem_cons, List.not_mem_nil, or_false] at hq; subst hq; exact hz2w)
  go_wp2
  go_loopw [6, 28] (fun v i wr => ∃ j : Nat, j ≤ n ∧ i = .int .i64 j ∧ Hid (BW w wr [(w.heap.size, vN)]) ∧ Hid (wr.ownsRow w2.heap.size 27 3 v (present (l.take j)).length ((present (l.take j)).flatMap encL)) ∧ w2.heap.size ≤ wr.heap.size) (fun _ i wr => n - (intOf i).toNat)
  case atStart => exact ⟨0, Nat.zero_le _, rfl, P0, Lib.hid (World.ownsRow_nil _ _ _ _), Nat.le_refl _⟩
  case round =>
    obtain ⟨j, hj, rfl, PW, HO, hz⟩ := hrel
    by_cases hlt : j < n
    case pos =>
      obtain ⟨b, off, rfl, hbl, hc⟩ := (HS.out.later PW.out.b).at_ (by omega)
      have hl : j < l.length := by rw [HLen.out]; exact hlt
      obtain ⟨c0, c1, c2⟩ := hc j hl
      have HTk : Hid (l.take (j + 1) = l.take j ++ [l[j]]) := Lib.hid (List.take_succ_eq_append_getElem hl)
      have hpl : (present (l.take j)).length ≤ j := Nat.le_trans (List.length_filter_le _ _) (by rw [List.length_take]; omega)
      generalize l[j] = x at c0 c1 c2 HTk
      obtain ⟨k, a, t⟩ := x
      clear hc
      simp only at c0 c1 c2
      cases hk : (k != 0) with
      | true =>
        obtain ⟨q, hq⟩ : ∃ q, q = present (l.take j) ++ [⟨k, a, t⟩] := ⟨_, rfl⟩
        have HP : Hid (present (l.take (j + 1)) = q) := Lib.hid (by rw [hq, HTk.out, present_append]; simp [present, hk])
        generalize present (l.take j) = p at hq HO hpl
        have HQ := Lib.hid hq
        clear hq
        go_wp2_with (at_builtin; refine wpList_pushV rfl _ _ rfl w2.heap.size _ p rfl (wr.alloc (.cells #[.int .i64 k, .int .i64 a, .string ⟨t.toArray⟩] 27)) (HO.out.alloc _) ⟨k, a, t⟩ rfl (by show Value.slice (some ⟨wr.heap.size + 1, 0, none⟩) 1 1 = _; simp) (by omega) w [(w.heap.size, vN)] HE.out (PW.out.alloc _) hLL.out hz0w (by simp; omega) q HQ.out ?_)
        intro v' w3 h1 h2 h3
        have HO1 := Lib.hid h1
        have HB1 := Lib.hid h2
        clear h1 h2
        go_wp2
        go_roundw
        case rel => exact ⟨j + 1, by omega, by go_num, HB1, Lib.hid (by rw [HP.out]; exact HO1.out), h3⟩
        case measure => simp [intOf]; omega
      | false =>
        have HP : Hid (present (l.take (j + 1)) = present (l.take j)) := Lib.hid (by rw [HTk.out, present_append]; simp [present, hk])
        go_wp2
        exact ⟨⟨j + 1, by omega, by go_num, Lib.hid (PW.out.alloc _), Lib.hid (by rw [HP.out]; exact HO.out.alloc _), by simp; omega⟩, by simp [intOf]; omega⟩
    obtain rfl : j = n := by omega
    have hO := HO.out
    rw [List.take_of_length_le (by rw [HLen.out]; exact Nat.le_refl _)] at hO
    have hpl : (present l).length ≤ j := Nat.le_trans (List.length_filter_le _ _) (by rw [HLen.out]; exact Nat.le_refl _)
    obtain ⟨A3, c3, hv3, hs3⟩ := sl_of_owns hO (by omega)
    subst hv3
    have HS3 := Lib.hid hs3
    have HPV : Hid ((present l).all sValid = true) := Lib.hid (List.all_eq_true.2 fun v hm => List.all_eq_true.1 HV.out v (List.mem_filter.1 hm).1)
    clear hO hs3 HO HS HLen HV
    obtain ⟨p, hP⟩ : ∃ p, present l = p := ⟨_, rfl⟩
    rw [hP] at hpl HS3 HPV ⊢
    have HPe := Lib.hid hP
    clear hP
    have hbx := PW.out.b
    obtain ⟨⟨x0, x1, x2⟩, zx⟩ := PW.out.at_ (List.Mem.head _)
    simp only [vN] at x0 x1 x2
    have fz : ∀ i, wr.frozen? ⟨w.heap.size, i, none⟩ = false := fun i => blk_frozen (PW.out.all _ (List.Mem.head _)) i
    by_cases ho1 : op = [99, 111, 117, 110, 116]
    · subst ho1
      go_wp2_with ((go_at_call 57; refine (rInt_any _ _).mono ?_; rintro e w4 ⟨rfl, hbw4⟩; obtain ⟨hcw4, hfw4⟩ := bfacts hbw4; have hzw4 := hbw4.size; (try simp only [World.size_alloc, World.size_setCell, World.size_drew] at hzw4); (try have hpw4 : 0 < w4.heap.size := by omega); (try have : w.heap.size < w4.heap.size := by omega); (try have : w.heap.size + 1 < w4.heap.size := by omega); (try have : w.heap.size + 1 + 1 < w4.heap.size := by omega); (try have : w.heap.size + 1 + 1 + 1 < w4.heap.size := by omega); (try have : w.heap.size + 1 + 1 + 1 + 1 < w4.heap.size := by omega); (try have : w.heap.size + 1 + 1 + 1 + 1 + 1 < w4.heap.size := by omega); (try have : w.heap.size < w4.heap.size + 1 := by omega); (try have : w.heap.size + 1 < w4.heap.size + 1 := by omega); (try have : w.heap.size + 1 + 1 < w4.heap.size + 1 := by omega); (try have : w.heap.size + 1 + 1 + 1 < w4.heap.size + 1 := by omega); (try have : w.heap.size + 1 + 1 + 1 + 1 < w4.heap.size + 1 := by omega); (try have : wr.heap.size < w4.heap.size := by omega); (try have : wr.heap.size + 1 < w4.heap.size := by omega); (try have : wr.heap.size + 1 + 1 < w4.heap.size := by omega); (try have : wr.heap.size + 1 + 1 + 1 < w4.heap.size := by omega); (try have : wr.heap.size + 1 + 1 + 1 + 1 < w4.heap.size := by omega); (try have : wr.heap.size + 1 + 1 + 1 + 1 + 1 < w4.heap.size := by omega); (try have : wr.heap.size < w4.heap.size + 1 := by omega); (try have : wr.heap.size + 1 < w4.heap.size + 1 := by omega); (try have : wr.heap.size + 1 + 1 < w4.heap.size + 1 := by omega); (try have : wr.heap.size + 1 + 1 + 1 < w4.heap.size + 1 := by omega); (try have : wr.heap.size + 1 + 1 + 1 + 1 < w4.heap.size + 1 := by omega)); have qw40 : w4.cell? ⟨w.heap.size, 0, none⟩ = some (.int .i64 0) := (hcw4 _ _ (by go_size)).trans (by go_simp); have qw41 : w4.cell? ⟨w.heap.size, 1, none⟩ = some (.int .i64 0) := (hcw4 _ _ (by go_size)).trans (by go_simp); have qw42 : w4.cell? ⟨w.heap.size, 2, none⟩ = some (.string ⟨#[]⟩) := (hcw4 _ _ (by go_size)).trans (by go_simp))
      ((try simp only [Exit.inBlock, Exit.then]); refine bodyPost_ret (by simp only [results, Tryz.results38]; go_simp; try rfl) rfl ?_)
      refine ⟨by rw [HPe.out]; rfl, ?_⟩
      (repeat' (first | (with_reducible exact Below.refl _ _) | (with_reducible assumption) | (with_reducible refine Below.alloc ?_ ?_ _) | (with_reducible refine Below.drew ?_) | (with_reducible refine Below.drewN' ?_ _) | (with_reducible refine Below.setCell ?_ ?_ _) | (refine Below.via ?_ (by assumption) ?_) | go_size))
    · have hb1 : (op == [99, 111, 117, 110, 116]) = false := by simpa using ho1
      cases p with
      | nil =>
        have HR : Hid (rAggOf op (present l) = (vN, 0)) := Lib.hid (by rw [HPe.out]; unfold rAggOf; rw [hb1]; rfl)
        go_wp2
        refine wp_loop_rounds 1 ?_
        rw [rounds_succ]
        go_wp2_with ((go_at_call 56; refine (rNull_any _).mono ?_; rintro e w4 ⟨rfl, hbw4⟩; obtain ⟨hcw4, hfw4⟩ := bfacts hbw4; have hzw4 := hbw4.size; (try simp only [World.size_alloc, World.size_setCell, World.size_drew] at hzw4); (try have hpw4 : 0 < w4.heap.size := by omega); (try have : w.heap.size < w4.heap.size := by omega); (try have : w.heap.size + 1 < w4.heap.size := by omega); (try have : w.heap.size + 1 + 1 < w4.heap.size := by omega); (try have : w.heap.size + 1 + 1 + 1 < w4.heap.size := by omega); (try have : w.heap.size + 1 + 1 + 1 + 1 < w4.heap.size := by omega); (try have : w.heap.size + 1 + 1 + 1 + 1 + 1 < w4.heap.size := by omega); (try have : w.heap.size < w4.heap.size + 1 := by omega); (try have : w.heap.size + 1 < w4.heap.size + 1 := by omega); (try have : w.heap.size + 1 + 1 < w4.heap.size + 1 := by omega); (try have : w.heap.size + 1 + 1 + 1 < w4.heap.size + 1 := by omega); (try have : w.heap.size + 1 + 1 + 1 + 1 < w4.heap.size + 1 := by omega); (try have : wr.heap.size < w4.heap.size := by omega); (try have : wr.heap.size + 1 < w4.heap.size := by omega); (try have : wr.heap.size + 1 + 1 < w4.heap.size := by omega); (try have : wr.heap.size + 1 + 1 + 1 < w4.heap.size := by omega); (try have : wr.heap.size + 1 + 1 + 1 + 1 < w4.heap.size := by omega); (try have : wr.heap.size + 1 + 1 + 1 + 1 + 1 < w4.heap.size := by omega); (try have : wr.heap.size < w4.heap.size + 1 := by omega); (try have : wr.heap.size + 1 < w4.heap.size + 1 := by omega); (try have : wr.heap.size + 1 + 1 < w4.heap.size + 1 := by omega); (try have : wr.heap.size + 1 + 1 + 1 < w4.heap.size + 1 := by omega); (try have : wr.heap.size + 1 + 1 + 1 + 1 < w4.heap.size + 1 := by omega)); have qw40 : w4.cell? ⟨w.heap.size, 0, none⟩ = some (.int .i64 0) := (hcw4 _ _ (by go_size)).trans (by go_simp); have qw41 : w4.cell? ⟨w.heap.size, 1, none⟩ = some (.int .i64 0) := (hcw4 _ _ (by go_size)).trans (by go_simp); have qw42 : w4.cell? ⟨w.heap.size, 2, none⟩ = some (.string ⟨#[]⟩) := (hcw4 _ _ (by go_size)).trans (by go_simp))
        ((try simp only [Exit.inBlock, Exit.then]); refine bodyPost_ret (by simp only [results, Tryz.results38]; go_simp; try rfl) rfl ?_)
        refine ⟨by rw [HR.out]; try rfl, ?_⟩
        (repeat' (first | (with_reducible exact Below.refl _ _) | (with_reducible assumption) | (with_reducible refine Below.alloc ?_ ?_ _) | (with_reducible refine Below.drew ?_) | (with_reducible refine Below.drewN' ?_ _) | (with_reducible refine Below.setCell ?_ ?_ _) | (refine Below.via ?_ (by assumption) ?_) | go_size))
      | cons x r =>
        obtain ⟨b, off, rfl, hbl0, hn0, e0, e1, e2⟩ := HS3.out.first
        clear hn0
        obtain ⟨m, hm⟩ : ∃ m, (x :: r).length = m := ⟨_, rfl⟩
        have HM := Lib.hid hm
        rw [hm] at HS3 hpl ⊢
        have hm0 : 0 < m := by rw [← hm]; exact Nat.succ_pos _
        have hm3 : ((m : Int) == 0) = false := by
          have : ¬ (m : Int) = 0 := by omega
          simpa using this
        clear hm
        go_wp2
        have HS0 := Lib.hid (Below.refl wr.heap.size wr)
        clear hbx x0 x1 x2 zx fz
        go_loopw [47] (fun i wt => ∃ j : Nat, j ≤ m ∧ i = .int .i64 j ∧ Hid (Below wr.heap.size wr wt) ∧ Hid (((x :: r).take j).any (rBad op x) = false)) (fun i wt => m - (intOf i).toNat)
        case atStart => exact ⟨0, Nat.zero_le _, rfl, HS0, (show Hid _ from by simp [Hid])⟩
        case round =>
          obtain ⟨i, hi2, rfl, HB, HA⟩ := hrel
          have PT := Lib.hid (PW.out.later HB.out)
          have HT := Lib.hid (HS3.out.later HB.out)
          have d0 := (HB.out.cell (p := ⟨b, off, none⟩) hbl0).trans e0
          have d1 := (HB.out.cell (p := ⟨b, off + 1, none⟩) hbl0).trans e1
          have d2 := (HB.out.cell (p := ⟨b, off + 2, none⟩) hbl0).trans e2
          by_cases hlt2 : i < m
          case pos =>
            obtain ⟨b', off', e', hbl, hc⟩ := HT.out.at_ hm0
            cases e'
            have hl2 : i < (x :: r).length := by rw [HM.out]; exact hlt2
            obtain ⟨c0, c1, c2⟩ := hc i hl2
            have HA2 : Hid (((x :: r).take (i + 1)).any (rBad op x) = rBad op x (x :: r)[i]) := Lib.hid (by rw [List.take_succ_eq_append_getElem hl2, List.any_append, HA.out]; simp)
            have HM2 : Hid ((x :: r)[i] ∈ x :: r) := Lib.hid (List.getElem_mem hl2)
            generalize (x :: r)[i] = v at c0 c1 c2 HA2 HM2
            obtain ⟨k, a, t⟩ := v
            clear hc
            simp only at c0 c1 c2
            go_upto_region 17 with fail
            have PX := Lib.hid (PT.out.alloc (.cells #[.int .i64 k, .int .i64 a, .string ⟨t.toArray⟩] 27))
            have hbx0 := HB.out.alloc (HB.out.size) (.cells #[.int .i64 k, .int .i64 a, .string ⟨t.toArray⟩] 27)
            have HBX := Lib.hid hbx0
            clear hbx0
            have hbad : rBad op x ⟨k, a, t⟩ = true → Hid (rAggOf op (present l) = (vN, 16)) := fun h => Lib.hid (by
              have ha : (x :: r).any (rBad op x) = true := List.any_eq_true.2 ⟨_, HM2.out, h⟩
              rw [HPe.out]
              unfold rAggOf
              rw [hb1]
              show (if (x :: r).any (rBad op x) = true then (vN, 16) else _) = _
              rw [if_pos ha])
            have HBd := Lib.hid hbad
            clear hbad
            cases q1 : (k != x.k) with
            | true =>
              have HR := HBd.out (by unfold rBad; simp only [q1]; rfl)
              refine wp_region_later (by kernel_rfl) (by kernel_rfl) ?_; (repeat (first | go_big_quiet_step (fail) | quiet_step (fail))); refine wpQuiet_nil ?_; intro w' hw'; obtain ⟨⟨w', hb⟩, hw''⟩ := hw'; subst hw''
              have PY := Lib.hid (PX.out.later hb)
              clear hb
              have hbx := PY.out.b
              obtain ⟨⟨x0, x1, x2⟩, zx⟩ := PY.out.at_ (List.Mem.head _)
              simp only [vN] at x0 x1 x2
              have fz : ∀ i, w'.frozen? ⟨w.heap.size, i, none⟩ = false := fun i => blk_frozen (PY.out.all _ (List.Mem.head _)) i
              go_wp2
              ((try simp only [Exit.inBlock, Exit.then]); refine bodyPost_ret (by simp only [results, Tryz.results38]; go_simp; try rfl) rfl ?_)
              refine ⟨by rw [HR.out]; rfl, ?_⟩
              (repeat' (first | (with_reducible exact Below.refl _ _) | (with_reducible assumption) | (with_reducible refine Below.alloc ?_ ?_ _) | (with_reducible refine Below.drew ?_) | (with_reducible refine Below.drewN' ?_ _) | (with_reducible refine Below.setCell ?_ ?_ _) | (refine Below.via ?_ (by assumption) ?_) | go_size))

            | false =>
              by_cases hs : op = [115, 117, 109]
              · subst hs
                cases q2 : (k != 1) with
                | true =>
                  have HR := HBd.out (by unfold rBad; simp only [q1, q2]; rfl)
                  refine wp_region_later (by kernel_rfl) (by kernel_rfl) ?_; (repeat (first | go_big_quiet_step (fail) | quiet_step (fail))); refine wpQuiet_nil ?_; intro w' hw'; obtain ⟨⟨w', hb⟩, hw''⟩ := hw'; subst hw''
                  have PY := Lib.hid (PX.out.later hb)
                  clear hb
                  have hbx := PY.out.b
                  obtain ⟨⟨x0, x1, x2⟩, zx⟩ := PY.out.at_ (List.Mem.head _)
                  simp only [vN] at x0 x1 x2
                  have fz : ∀ i, w'.frozen? ⟨w.heap.size, i, none⟩ = false := fun i => blk_frozen (PY.out.all _ (List.Mem.head _)) i
                  go_wp2
                  ((try simp only [Exit.inBlock, Exit.then]); refine bodyPost_ret (by simp only [results, Tryz.results38]; go_simp; try rfl) rfl ?_)
                  refine ⟨by rw [HR.out]; rfl, ?_⟩
                  (repeat' (first | (with_reducible exact Below.refl _ _) | (with_reducible assumption) | (with_reducible refine Below.alloc ?_ ?_ _) | (with_reducible refine Below.drew ?_) | (with_reducible refine Below.drewN' ?_ _) | (with_reducible refine Below.setCell ?_ ?_ _) | (refine Below.via ?_ (by assumption) ?_) | go_size))

                | false =>
                  have HN : Hid (rBad [115, 117, 109] x ⟨k, a, t⟩ = false) := Lib.hid (by unfold rBad; simp only [q1, q2]; rfl)
                  refine wp_region_later (by kernel_rfl) (by kernel_rfl) ?_; (repeat (first | go_big_quiet_step (fail) | quiet_step (fail))); refine wpQuiet_nil ?_; intro w' hw'; obtain ⟨⟨w', hb⟩, hw''⟩ := hw'; subst hw''
                  have PY := Lib.hid (HBX.out.trans (hb.mono HBX.out.size))
                  clear hb
                  go_wp2
                  exact ⟨⟨i + 1, by omega, by go_num, PY, Lib.hid (by rw [HA2.out, HN.out])⟩, by simp [intOf]; omega⟩

              · have hs1 : (op == [115, 117, 109]) = false := by simpa using hs
                have HN : Hid (rBad op x ⟨k, a, t⟩ = false) := Lib.hid (by unfold rBad; simp only [q1, hs1]; rfl)
                refine wp_region_later (by kernel_rfl) (by kernel_rfl) ?_; (repeat (first | go_big_quiet_step (fail) | quiet_step (fail))); refine wpQuiet_nil ?_; intro w' hw'; obtain ⟨⟨w', hb⟩, hw''⟩ := hw'; subst hw''
                have PY := Lib.hid (HBX.out.trans (hb.mono HBX.out.size))
                clear hb
                go_wp2
                exact ⟨⟨i + 1, by omega, by go_num, PY, Lib.hid (by rw [HA2.out, HN.out])⟩, by simp [intOf]; omega⟩

          case neg =>
            obtain rfl : i = m := by omega
            have hA := HA.out
            rw [List.take_of_length_le (by rw [HM.out]; exact Nat.le_refl _)] at hA
            have HA3 := Lib.hid hA
            clear hA HA
            have hbx := PT.out.b
            obtain ⟨⟨x0, x1, x2⟩, zx⟩ := PT.out.at_ (List.Mem.head _)
            simp only [vN] at x0 x1 x2
            have fz : ∀ i, wr.frozen? ⟨w.heap.size, i, none⟩ = false := fun i => blk_frozen (PT.out.all _ (List.Mem.head _)) i
            by_cases hs : op = [115, 117, 109]
            · subst hs
              have HR : Hid (rAggOf [115, 117, 109] (present l) = sWhole (sumN (x :: r))) := Lib.hid (by
                rw [HPe.out]
                unfold rAggOf
                rw [hb1]
                show (if (x :: r).any (rBad [115, 117, 109] x) = true then (vN, 16) else _) = _
                rw [if_neg (by rw [HA3.out]; simp)]
                rfl)
              have HK1 : Hid (∀ v ∈ x :: r, -1099511627776 ≤ v.n ∧ v.n ≤ 1099511627776) := Lib.hid fun v hm => by
                have hb := List.any_eq_false.1 HA3.out v hm
                have hk : v.k = 1 := by
                  unfold rBad at hb
                  simp only [Bool.or_eq_true, Bool.and_eq_true, not_or] at hb
                  have h2 := hb.2
                  by_cases h3 : v.k = 1
                  · exact h3
                  · exact absurd ⟨by rfl, by simpa using h3⟩ h2
                exact sValid_int (List.all_eq_true.1 HPV.out v hm) hk
              go_wp2
              have HS1 := Lib.hid (Below.refl wr.heap.size wr)
              clear hbx x0 x1 x2 zx fz d0 d1 d2 e0 e1 e2
              go_loopw [11, 77] (fun v q wt => ∃ (j : Nat) (s : Int), j ≤ i ∧ q = .int .i64 j ∧ v = .int .i64 s ∧ -((j : Int) * 1099511627776) ≤ s ∧ s ≤ (j : Int) * 1099511627776 ∧ Hid (sumN ((x :: r).take j) = s) ∧ Hid (Below wr.heap.size wr wt)) (fun _ q wt => i - (intOf q).toNat)
              case atStart => exact ⟨0, 0, Nat.zero_le _, rfl, rfl, by decide, by decide, (show Hid _ from by simp [Hid, sumN]), HS1⟩
              case round =>
                obtain ⟨j2, s, hj2, rfl, rfl, s0, s1, HSm, HB2⟩ := hrel
                have PT2 := Lib.hid (PT.out.later HB2.out)
                have HT2 := Lib.hid (HT.out.later HB2.out)
                by_cases hlt3 : j2 < i
                case pos =>
                  obtain ⟨b', off', e', hbl, hc⟩ := HT2.out.at_ hm0
                  cases e'
                  have hl2 : j2 < (x :: r).length := by rw [HM.out]; exact hlt3
                  obtain ⟨c0, c1, c2⟩ := hc j2 hl2
                  obtain ⟨n0, n1⟩ := HK1.out _ (List.getElem_mem hl2)
                  have HS2 : Hid (sumN ((x :: r).take (j2 + 1)) = s + (x :: r)[j2].n) := Lib.hid (by rw [List.take_succ_eq_append_getElem hl2, sumN_append, HSm.out]; simp [sumN])
                  generalize (x :: r)[j2] = v at c0 c1 c2 HS2 n0 n1
                  obtain ⟨k, a, t⟩ := v
                  clear hc
                  simp only at c0 c1 c2 n0 n1 HS2
                  have hj3 : j2 < 1000 := by omega
                  go_wp2
                  exact ⟨⟨j2 + 1, s + a, by omega, by go_num, rfl, by omega, by omega, HS2, Lib.hid (HB2.out.alloc HB2.out.size _)⟩, by simp [intOf]; omega⟩
                case neg =>
                  obtain rfl : j2 = i := by omega
                  have hs2 := HSm.out
                  rw [List.take_of_length_le (by rw [HM.out]; exact Nat.le_refl _)] at hs2
                  have HS3' := Lib.hid hs2
                  clear hs2 HSm
                  have HR2 : Hid (rAggOf [115, 117, 109] (present l) = sWhole s) := Lib.hid (by rw [HR.out, HS3'.out])
                  have hbx := PT2.out.b
                  obtain ⟨⟨x0, x1, x2⟩, zx⟩ := PT2.out.at_ (List.Mem.head _)
                  simp only [vN] at x0 x1 x2
                  have fz : ∀ i, wr.frozen? ⟨w.heap.size, i, none⟩ = false := fun i => blk_frozen (PT2.out.all _ (List.Mem.head _)) i
                  go_wp2_with fail
                  refine (rNumber_any _ _).mono ?_; rintro e w6 ⟨rfl, hb6⟩
                  have P6 := Lib.hid (PT2.out.later hb6)
                  clear hbx x0 x1 x2 zx fz
                  have hbx := P6.out.b
                  obtain ⟨⟨x0, x1, x2⟩, zx⟩ := P6.out.at_ (List.Mem.head _)
                  simp only [vN] at x0 x1 x2
                  have fz : ∀ i, w6.frozen? ⟨w.heap.size, i, none⟩ = false := fun i => blk_frozen (P6.out.all _ (List.Mem.head _)) i
                  go_wp2
                  ((try simp only [Exit.inBlock, Exit.then]); refine bodyPost_ret (by simp only [results, Tryz.results38]; go_simp; try rfl) rfl ?_)
                  refine ⟨by rw [HR2.out], ?_⟩
                  (repeat' (first | (with_reducible exact Below.refl _ _) | (with_reducible assumption) | (with_reducible refine Below.alloc ?_ ?_ _) | (with_reducible refine Below.drew ?_) | (with_reducible refine Below.drewN' ?_ _) | (with_reducible refine Below.setCell ?_ ?_ _) | (refine Below.via ?_ (by assumption) ?_) | go_size))
            · have hs1 : (op == [115, 117, 109]) = false := by simpa using hs
              have HR : Hid (rAggOf op (present l) = (rMinMax op x (x :: r), 0)) := Lib.hid (by
                rw [HPe.out]
                unfold rAggOf
                rw [hb1]
                show (if (x :: r).any (rBad op x) = true then (vN, 16) else _) = _
                rw [if_neg (by rw [HA3.out]; simp), hs1]
                rfl)
              go_wp2
              obtain ⟨wm, hwm⟩ : ∃ W, W = wr := ⟨wr, rfl⟩
              subst hwm
              have P7 := Lib.hid ((PT.out.push x (g := wm.heap.size) rfl))
              have HS1 := Lib.hid ((Below.refl wm.heap.size wm).alloc (Nat.le_refl _) (.cells (cellsV x) 27))
              clear hbx x0 x1 x2 zx fz d0 d1 d2 e0 e1 e2
              have hgz : w.heap.size ≤ wm.heap.size := PT.out.b.size
              have hgn : w.heap.size < wm.heap.size := (PT.out.at_ (List.Mem.head _)).2
              have hop : op = [109, 105, 110] ∨ op = [109, 97, 120] := by
                have := HSig.out
                unfold sIsAgg hasL aggL at this
                simp only [List.contains_cons, List.contains_nil, Bool.or_false, Bool.or_eq_true, beq_iff_eq] at this
                rcases this with h | h | h | h
                · exact absurd h ho1
                · exact absurd h hs
                · exact .inl h
                · exact .inr h
              go_loopw [95] (fun q wt => ∃ (j : Nat) (o : V), j ≤ i ∧ q = .int .i64 j ∧ Hid (rMinMax op x (x :: r) = rMinMax op o ((x :: r).drop j)) ∧ Hid (BW w wt [(wm.heap.size, o), (w.heap.size, vN)]) ∧ Hid (Below wm.heap.size wm wt)) (fun q wt => i - (intOf q).toNat)
              case atStart => exact ⟨0, x, Nat.zero_le _, rfl, (show Hid _ from by simp [Hid]), P7, HS1⟩
              case round =>
                obtain ⟨j2, o, hj2, rfl, HMn, PO, HB2⟩ := hrel
                have HT2 := Lib.hid (HT.out.later HB2.out)
                by_cases hlt3 : j2 < i
                case pos =>
                  obtain ⟨b', off', e', hbl, hc⟩ := HT2.out.at_ hm0
                  cases e'
                  have hl2 : j2 < (x :: r).length := by rw [HM.out]; exact hlt3
                  obtain ⟨c0, c1, c2⟩ := hc j2 hl2
                  have HD : Hid ((x :: r).drop j2 = (x :: r)[j2] :: (x :: r).drop (j2 + 1)) := Lib.hid (List.drop_eq_getElem_cons hl2)
                  generalize (x :: r)[j2] = v at c0 c1 c2 HD
                  clear hc
                  obtain ⟨L, hL⟩ : ∃ L, rLess v o = L := ⟨_, rfl⟩
                  have HL := Lib.hid hL
                  have HM3 : Hid (rMinMax op x (x :: r) = rMinMax op (if (op == [109, 105, 110] && decide (L < 0)) || (op == [109, 97, 120] && decide (0 < L)) then v else o) ((x :: r).drop (j2 + 1))) := Lib.hid (by rw [HMn.out, HD.out, rMinMax, hL])
                  clear hL HMn HD
                  obtain ⟨⟨o0, o1, o2⟩, oz⟩ := PO.out.at_ (List.Mem.head _)
                  go_wp2_with fail
                  refine (rLess_any _ _ _ _ _ _ _).mono ?_; rintro e w7 ⟨rfl, hb7⟩
                  have PV := Lib.hid ((PO.out.push v (g := _) rfl).later hb7)
                  have HB7 := Lib.hid ((HB2.out.alloc HB2.out.size (.cells (cellsV v) 27)).trans (hb7.mono (by have := HB2.out.size; simp; omega)))
                  clear hb7 c0 c1 c2 o0 o1 o2 oz hbl
                  rw [show rLess ⟨v.k, v.n, v.t⟩ ⟨o.k, o.n, o.t⟩ = L from HL.out]
                  obtain ⟨⟨v0, v1, v2⟩, vz⟩ := PV.out.at_ (List.Mem.head _)
                  have fo : ∀ i, w7.frozen? ⟨wm.heap.size, i, none⟩ = false := fun i => blk_frozen (PV.out.all _ (List.Mem.tail _ (List.Mem.head _))) i
                  obtain ⟨⟨o0, o1, o2⟩, oz⟩ := PV.out.at_ (List.Mem.tail _ (List.Mem.head _))
                  rcases hop with rfl | rfl
                  · by_cases hl0 : L < 0
                    · have HM4 := HM3.out
                      rw [decide_eq_true hl0] at HM4
                      have HM5 : Hid (rMinMax [109, 105, 110] x (x :: r) = rMinMax [109, 105, 110] v ((x :: r).drop (j2 + 1))) := Lib.hid HM4
                      clear HM4
                      have PB := Lib.hid (BW.put HE.out PV.out.drop (by intro p hp; simp only [List.mem_cons, List.not_mem_nil, or_false] at hp; subst hp; exact Nat.ne_of_lt hgn) hgz v)
                      have HB8 := Lib.hid (((HB7.out.setCell (p := ⟨wm.heap.size, 0, none⟩) (Nat.le_refl _) (.int .i64 v.k)).setCell (p := ⟨wm.heap.size, 1, none⟩) (Nat.le_refl _) (.int .i64 v.n)).setCell (p := ⟨wm.heap.size, 2, none⟩) (Nat.le_refl _) (.string ⟨v.t.toArray⟩))
                      go_wp2
                      exact ⟨⟨j2 + 1, v, by omega, by go_num, HM5, PB, HB8⟩, by simp [intOf]; omega⟩
                    · have HM4 := HM3.out
                      rw [decide_eq_false hl0] at HM4
                      have HM5 : Hid (rMinMax [109, 105, 110] x (x :: r) = rMinMax [109, 105, 110] o ((x :: r).drop (j2 + 1))) := Lib.hid HM4
                      clear HM4
                      go_wp2
                      exact ⟨⟨j2 + 1, o, by omega, by go_num, HM5, Lib.hid PV.out.drop, HB7⟩, by simp [intOf]; omega⟩
                  · by_cases hl0 : 0 < L
                    · have HM4 := HM3.out
                      rw [decide_eq_true hl0] at HM4
                      have HM5 : Hid (rMinMax [109, 97, 120] x (x :: r) = rMinMax [109, 97, 120] v ((x :: r).drop (j2 + 1))) := Lib.hid HM4
                      clear HM4
                      have PB := Lib.hid (BW.put HE.out PV.out.drop (by intro p hp; simp only [List.mem_cons, List.not_mem_nil, or_false] at hp; subst hp; exact Nat.ne_of_lt hgn) hgz v)
                      have HB8 := Lib.hid (((HB7.out.setCell (p := ⟨wm.heap.size, 0, none⟩) (Nat.le_refl _) (.int .i64 v.k)).setCell (p := ⟨wm.heap.size, 1, none⟩) (Nat.le_refl _) (.int .i64 v.n)).setCell (p := ⟨wm.heap.size, 2, none⟩) (Nat.le_refl _) (.string ⟨v.t.toArray⟩))
                      go_wp2
                      exact ⟨⟨j2 + 1, v, by omega, by go_num, HM5, PB, HB8⟩, by simp [intOf]; omega⟩
                    · have HM4 := HM3.out
                      rw [decide_eq_false hl0] at HM4
                      have HM5 : Hid (rMinMax [109, 97, 120] x (x :: r) = rMinMax [109, 97, 120] o ((x :: r).drop (j2 + 1))) := Lib.hid HM4
                      clear HM4
                      go_wp2
                      exact ⟨⟨j2 + 1, o, by omega, by go_num, HM5, Lib.hid PV.out.drop, HB7⟩, by simp [intOf]; omega⟩
                case neg =>
                  obtain rfl : j2 = i := by omega
                  have HR2 : Hid (rAggOf op (present l) = (o, 0)) := Lib.hid (by rw [HR.out, HMn.out, List.drop_of_length_le (by rw [HM.out]; exact Nat.le_refl _)]; rfl)
                  have hbx := PO.out.b
                  obtain ⟨⟨x0, x1, x2⟩, zx⟩ := PO.out.at_ (List.Mem.tail _ (List.Mem.head _))
                  simp only [vN] at x0 x1 x2
                  have fz : ∀ i, wr.frozen? ⟨w.heap.size, i, none⟩ = false := fun i => blk_frozen (PO.out.all _ (List.Mem.tail _ (List.Mem.head _))) i
                  obtain ⟨⟨o0, o1, o2⟩, oz⟩ := PO.out.at_ (List.Mem.head _)
                  go_wp2
                  ((try simp only [Exit.inBlock, Exit.then]); refine bodyPost_ret (by simp only [results, Tryz.results38]; go_simp; try rfl) rfl ?_)
                  refine ⟨by rw [HR2.out], ?_⟩
                  (repeat' (first | (with_reducible exact Below.refl _ _) | (with_reducible assumption) | (with_reducible refine Below.alloc ?_ ?_ _) | (with_reducible refine Below.drew ?_) | (with_reducible refine Below.drewN' ?_ _) | (with_reducible refine Below.setCell ?_ ?_ _) | (refine Below.via ?_ (by assumption) ?_) | go_size))
theorem ragg_any (op : List UInt8) (A : Option Addr) (n c : Nat) (l : List V) (w : World) (hE : Env w) (hS : Sl w A n l) (tl : ∀ v ∈ l, v.t.length ≤ 140737488355328) (hb : l.all sValid = true → n ≤ 1000) :
    Calls Tryz.prog 38 #[.string ⟨op.toArray⟩, .slice A n c] w fun e w' => e = .returned (.tuple #[.agg #[.int .i64 (rAgg op l).1.k, .int .i64 (rAgg op l).1.n, .string ⟨List.toArray (rAgg op l).1.t⟩], .int .i64 (rAgg op l).2]) ∧ Below w.heap.size w w' := by
  cases hv : l.all sValid with
  | false =>
    have h : rAgg op l = (vN, 2) := by unfold rAgg; rw [hv]; rfl
    rw [h]
    exact ragg_bad op A n c l w hE hS tl hv
  | true =>
    cases hs : sIsAgg op with
    | false =>
      have h : rAgg op l = (vN, 13) := by unfold rAgg; rw [hv, hs]; rfl
      rw [h]
      exact ragg_not op A n c l w hE hS tl hv hs
    | true =>
      have h : rAgg op l = rAggOf op (present l) := by unfold rAgg; rw [hv, hs]; rfl
      rw [h]
      exact ragg_go op A n c l w hE hS tl hv hs (hb hv)
end Go.Proofs.YtpmfpfkahanlaaaGreatDoor

/- Text and Parse of the reference, walked. -/
namespace Go.Proofs.YtpmfpfkahanlaaaGreatDoor
open Go.RowKit
set_option linter.unusedSimpArgs false
set_option linter.unusedVariables false
attribute [local go_sem] Later.cell Later.lt veq_self
attribute [local go_sem high] run_eqV run_neV
attribute [local go_sem] cell_set_same

set_option maxRecDepth 100000 in
set_option maxHeartbeats 4000000 in
theorem rtext_any (v : V) (w : World) (tv : v.t.length ≤ 140737488355328) :
    Calls Tryz.prog 44 #[(.agg #[.int .i64 (v).k, .int .i64 (v).n, .string ⟨List.toArray (v).t⟩])] w fun e w' => e = .returned (.tuple #[.string ⟨(vText v).1.toArray⟩, .int .i64 (vText v).2]) ∧ Below w.heap.size w w' := by
  obtain ⟨k, n, t⟩ := v
  cases hv : sValid ⟨k, n, t⟩ with
  | false =>
    have HR : Hid (vText ⟨k, n, t⟩ = ([], 2)) := Lib.hid (by unfold vText; rw [hv]; rfl)
    have HC := fun W => kval hv W tv
    have HC1 := Lib.hid HC
    clear hv HC
    go_enter Tryz.func44, Tryz.ntmps44
    go_wp2_with fail
    refine (HC1.out _).mono ?_; rintro e w1 ⟨rfl, hbw1⟩
    go_wp2
    ((try simp only [Exit.inBlock, Exit.then]); refine bodyPost_ret (by simp only [results, Tryz.results44]; go_simp; try rfl) rfl ?_)
    refine ⟨by rw [HR.out]; try rfl, ?_⟩
    (repeat' (first | (with_reducible exact Below.refl _ _) | (with_reducible assumption) | (with_reducible refine Below.alloc ?_ ?_ _) | (with_reducible refine Below.drew ?_) | (with_reducible refine Below.drewN' ?_ _) | (with_reducible refine Below.setCell ?_ ?_ _) | (refine Below.via ?_ (by assumption) ?_) | go_size))
  | true =>
    have HR : Hid (vText ⟨k, n, t⟩ = (sWr ⟨k, n, t⟩, 0)) := Lib.hid (by unfold vText; rw [hv]; rfl)
    have HC := fun W => kval hv W tv
    rcases sv_cases hv with h | ⟨m, h, h1, h2⟩ | ⟨s, h, hs⟩ | ⟨b, h⟩
    · unfold vN at h
      cases h
      have HC1 := Lib.hid HC
      clear hv HC
      go_enter Tryz.func44, Tryz.ntmps44
      go_wp2_with fail
      refine (HC1.out _).mono ?_; rintro e w1 ⟨rfl, hbw1⟩
      obtain ⟨hcw1, hfw1⟩ := bfacts hbw1; have hzw1 := hbw1.size; (try simp only [World.size_alloc, World.size_setCell, World.size_drew] at hzw1); (try have hpw1 : 0 < w1.heap.size := by omega); (try have : w.heap.size < w1.heap.size := by omega); (try have : w.heap.size + 1 < w1.heap.size := by omega); (try have : w.heap.size + 1 + 1 < w1.heap.size := by omega); (try have : w.heap.size + 1 + 1 + 1 < w1.heap.size := by omega); (try have : w.heap.size + 1 + 1 + 1 + 1 < w1.heap.size := by omega); (try have : w.heap.size + 1 + 1 + 1 + 1 + 1 < w1.heap.size := by omega); (try have : w.heap.size < w1.heap.size + 1 := by omega); (try have : w.heap.size + 1 < w1.heap.size + 1 := by omega); (try have : w.heap.size + 1 + 1 < w1.heap.size + 1 := by omega); (try have : w.heap.size + 1 + 1 + 1 < w1.heap.size + 1 := by omega); (try have : w.heap.size + 1 + 1 + 1 + 1 < w1.heap.size + 1 := by omega)
      have qw10 : w1.cell? ⟨w.heap.size, 0, none⟩ = some (.int .i64 0) := (hcw1 _ _ (by go_size)).trans (by go_simp); have qw11 : w1.cell? ⟨w.heap.size, 1, none⟩ = some (.int .i64 0) := (hcw1 _ _ (by go_size)).trans (by go_simp); have qw12 : w1.cell? ⟨w.heap.size, 2, none⟩ = some (.string ⟨#[]⟩) := (hcw1 _ _ (by go_size)).trans (by go_simp)
      go_wp2
      ((try simp only [Exit.inBlock, Exit.then]); refine bodyPost_ret (by simp only [results, Tryz.results44]; go_simp; try rfl) rfl ?_)
      refine ⟨by rw [HR.out]; try rfl, ?_⟩
      (repeat' (first | (with_reducible exact Below.refl _ _) | (with_reducible assumption) | (with_reducible refine Below.alloc ?_ ?_ _) | (with_reducible refine Below.drew ?_) | (with_reducible refine Below.drewN' ?_ _) | (with_reducible refine Below.setCell ?_ ?_ _) | (refine Below.via ?_ (by assumption) ?_) | go_size))
    · unfold vI at h
      cases h
      have HC1 := Lib.hid HC
      clear hv HC
      go_enter Tryz.func44, Tryz.ntmps44
      go_wp2_with fail
      refine (HC1.out _).mono ?_; rintro e w1 ⟨rfl, hbw1⟩
      obtain ⟨hcw1, hfw1⟩ := bfacts hbw1; have hzw1 := hbw1.size; (try simp only [World.size_alloc, World.size_setCell, World.size_drew] at hzw1); (try have hpw1 : 0 < w1.heap.size := by omega); (try have : w.heap.size < w1.heap.size := by omega); (try have : w.heap.size + 1 < w1.heap.size := by omega); (try have : w.heap.size + 1 + 1 < w1.heap.size := by omega); (try have : w.heap.size + 1 + 1 + 1 < w1.heap.size := by omega); (try have : w.heap.size + 1 + 1 + 1 + 1 < w1.heap.size := by omega); (try have : w.heap.size + 1 + 1 + 1 + 1 + 1 < w1.heap.size := by omega); (try have : w.heap.size < w1.heap.size + 1 := by omega); (try have : w.heap.size + 1 < w1.heap.size + 1 := by omega); (try have : w.heap.size + 1 + 1 < w1.heap.size + 1 := by omega); (try have : w.heap.size + 1 + 1 + 1 < w1.heap.size + 1 := by omega); (try have : w.heap.size + 1 + 1 + 1 + 1 < w1.heap.size + 1 := by omega)
      have qw10 : w1.cell? ⟨w.heap.size, 0, none⟩ = some (.int .i64 1) := (hcw1 _ _ (by go_size)).trans (by go_simp); have qw11 : w1.cell? ⟨w.heap.size, 1, none⟩ = some (.int .i64 n) := (hcw1 _ _ (by go_size)).trans (by go_simp); have qw12 : w1.cell? ⟨w.heap.size, 2, none⟩ = some (.string ⟨#[]⟩) := (hcw1 _ _ (by go_size)).trans (by go_simp)
      go_wp2_with ((go_at_call 101; refine (digits_any _ _ (by omega) (by omega)).mono ?_; rintro e w' ⟨rfl, rfl⟩))
      ((try simp only [Exit.inBlock, Exit.then]); refine bodyPost_ret (by simp only [results, Tryz.results44]; go_simp; try rfl) rfl ?_)
      refine ⟨by rw [HR.out]; try rfl, ?_⟩
      (repeat' (first | (with_reducible exact Below.refl _ _) | (with_reducible assumption) | (with_reducible refine Below.alloc ?_ ?_ _) | (with_reducible refine Below.drew ?_) | (with_reducible refine Below.drewN' ?_ _) | (with_reducible refine Below.setCell ?_ ?_ _) | (refine Below.via ?_ (by assumption) ?_) | go_size))
    · unfold vS at h
      cases h
      have hl := (sValid_str hv rfl).1
      simp only at hl
      have HC1 := Lib.hid HC
      clear hv HC hs
      go_enter Tryz.func44, Tryz.ntmps44
      go_wp2_with fail
      refine (HC1.out _).mono ?_; rintro e w1 ⟨rfl, hbw1⟩
      obtain ⟨hcw1, hfw1⟩ := bfacts hbw1; have hzw1 := hbw1.size; (try simp only [World.size_alloc, World.size_setCell, World.size_drew] at hzw1); (try have hpw1 : 0 < w1.heap.size := by omega); (try have : w.heap.size < w1.heap.size := by omega); (try have : w.heap.size + 1 < w1.heap.size := by omega); (try have : w.heap.size + 1 + 1 < w1.heap.size := by omega); (try have : w.heap.size + 1 + 1 + 1 < w1.heap.size := by omega); (try have : w.heap.size + 1 + 1 + 1 + 1 < w1.heap.size := by omega); (try have : w.heap.size + 1 + 1 + 1 + 1 + 1 < w1.heap.size := by omega); (try have : w.heap.size < w1.heap.size + 1 := by omega); (try have : w.heap.size + 1 < w1.heap.size + 1 := by omega); (try have : w.heap.size + 1 + 1 < w1.heap.size + 1 := by omega); (try have : w.heap.size + 1 + 1 + 1 < w1.heap.size + 1 := by omega); (try have : w.heap.size + 1 + 1 + 1 + 1 < w1.heap.size + 1 := by omega)
      have qw10 : w1.cell? ⟨w.heap.size, 0, none⟩ = some (.int .i64 2) := (hcw1 _ _ (by go_size)).trans (by go_simp); have qw11 : w1.cell? ⟨w.heap.size, 1, none⟩ = some (.int .i64 0) := (hcw1 _ _ (by go_size)).trans (by go_simp); have qw12 : w1.cell? ⟨w.heap.size, 2, none⟩ = some (.string ⟨t.toArray⟩) := (hcw1 _ _ (by go_size)).trans (by go_simp)
      go_wp2_with ((go_at_call 102; refine (quoted_any _ _ (by omega)).mono ?_; rintro e w2 ⟨rfl, hbw2⟩; obtain ⟨hcw2, hfw2⟩ := bfacts hbw2; have hzw2 := hbw2.size; (try simp only [World.size_alloc, World.size_setCell, World.size_drew] at hzw2); (try have hpw2 : 0 < w2.heap.size := by omega); (try have : w.heap.size < w2.heap.size := by omega); (try have : w.heap.size + 1 < w2.heap.size := by omega); (try have : w.heap.size + 1 + 1 < w2.heap.size := by omega); (try have : w.heap.size + 1 + 1 + 1 < w2.heap.size := by omega); (try have : w.heap.size + 1 + 1 + 1 + 1 < w2.heap.size := by omega); (try have : w.heap.size + 1 + 1 + 1 + 1 + 1 < w2.heap.size := by omega); (try have : w.heap.size < w2.heap.size + 1 := by omega); (try have : w.heap.size + 1 < w2.heap.size + 1 := by omega); (try have : w.heap.size + 1 + 1 < w2.heap.size + 1 := by omega); (try have : w.heap.size + 1 + 1 + 1 < w2.heap.size + 1 := by omega); (try have : w.heap.size + 1 + 1 + 1 + 1 < w2.heap.size + 1 := by omega); (try have : w1.heap.size < w2.heap.size := by omega); (try have : w1.heap.size + 1 < w2.heap.size := by omega); (try have : w1.heap.size + 1 + 1 < w2.heap.size := by omega); (try have : w1.heap.size + 1 + 1 + 1 < w2.heap.size := by omega); (try have : w1.heap.size + 1 + 1 + 1 + 1 < w2.heap.size := by omega); (try have : w1.heap.size + 1 + 1 + 1 + 1 + 1 < w2.heap.size := by omega); (try have : w1.heap.size < w2.heap.size + 1 := by omega); (try have : w1.heap.size + 1 < w2.heap.size + 1 := by omega); (try have : w1.heap.size + 1 + 1 < w2.heap.size + 1 := by omega); (try have : w1.heap.size + 1 + 1 + 1 < w2.heap.size + 1 := by omega); (try have : w1.heap.size + 1 + 1 + 1 + 1 < w2.heap.size + 1 := by omega)))
      ((try simp only [Exit.inBlock, Exit.then]); refine bodyPost_ret (by simp only [results, Tryz.results44]; go_simp; try rfl) rfl ?_)
      refine ⟨by rw [HR.out]; try rfl, ?_⟩
      (repeat' (first | (with_reducible exact Below.refl _ _) | (with_reducible assumption) | (with_reducible refine Below.alloc ?_ ?_ _) | (with_reducible refine Below.drew ?_) | (with_reducible refine Below.drewN' ?_ _) | (with_reducible refine Below.setCell ?_ ?_ _) | (refine Below.via ?_ (by assumption) ?_) | go_size))
    · cases b
      · have h' : (⟨k, n, t⟩ : V) = ⟨3, 0, []⟩ := h
        cases h'
        have HC1 := Lib.hid HC
        clear hv HC h
        go_enter Tryz.func44, Tryz.ntmps44
        go_wp2_with fail
        refine (HC1.out _).mono ?_; rintro e w1 ⟨rfl, hbw1⟩
        obtain ⟨hcw1, hfw1⟩ := bfacts hbw1; have hzw1 := hbw1.size; (try simp only [World.size_alloc, World.size_setCell, World.size_drew] at hzw1); (try have hpw1 : 0 < w1.heap.size := by omega); (try have : w.heap.size < w1.heap.size := by omega); (try have : w.heap.size + 1 < w1.heap.size := by omega); (try have : w.heap.size + 1 + 1 < w1.heap.size := by omega); (try have : w.heap.size + 1 + 1 + 1 < w1.heap.size := by omega); (try have : w.heap.size + 1 + 1 + 1 + 1 < w1.heap.size := by omega); (try have : w.heap.size + 1 + 1 + 1 + 1 + 1 < w1.heap.size := by omega); (try have : w.heap.size < w1.heap.size + 1 := by omega); (try have : w.heap.size + 1 < w1.heap.size + 1 := by omega); (try have : w.heap.size + 1 + 1 < w1.heap.size + 1 := by omega); (try have : w.heap.size + 1 + 1 + 1 < w1.heap.size + 1 := by omega); (try have : w.heap.size + 1 + 1 + 1 + 1 < w1.heap.size + 1 := by omega)
        have qw10 : w1.cell? ⟨w.heap.size, 0, none⟩ = some (.int .i64 3) := (hcw1 _ _ (by go_size)).trans (by go_simp); have qw11 : w1.cell? ⟨w.heap.size, 1, none⟩ = some (.int .i64 0) := (hcw1 _ _ (by go_size)).trans (by go_simp); have qw12 : w1.cell? ⟨w.heap.size, 2, none⟩ = some (.string ⟨#[]⟩) := (hcw1 _ _ (by go_size)).trans (by go_simp)
        go_wp2
        ((try simp only [Exit.inBlock, Exit.then]); refine bodyPost_ret (by simp only [results, Tryz.results44]; go_simp; try rfl) rfl ?_)
        refine ⟨by rw [HR.out]; try rfl, ?_⟩
        (repeat' (first | (with_reducible exact Below.refl _ _) | (with_reducible assumption) | (with_reducible refine Below.alloc ?_ ?_ _) | (with_reducible refine Below.drew ?_) | (with_reducible refine Below.drewN' ?_ _) | (with_reducible refine Below.setCell ?_ ?_ _) | (refine Below.via ?_ (by assumption) ?_) | go_size))
      · have h' : (⟨k, n, t⟩ : V) = ⟨3, 1, []⟩ := h
        cases h'
        have HC1 := Lib.hid HC
        clear hv HC h
        go_enter Tryz.func44, Tryz.ntmps44
        go_wp2_with fail
        refine (HC1.out _).mono ?_; rintro e w1 ⟨rfl, hbw1⟩
        obtain ⟨hcw1, hfw1⟩ := bfacts hbw1; have hzw1 := hbw1.size; (try simp only [World.size_alloc, World.size_setCell, World.size_drew] at hzw1); (try have hpw1 : 0 < w1.heap.size := by omega); (try have : w.heap.size < w1.heap.size := by omega); (try have : w.heap.size + 1 < w1.heap.size := by omega); (try have : w.heap.size + 1 + 1 < w1.heap.size := by omega); (try have : w.heap.size + 1 + 1 + 1 < w1.heap.size := by omega); (try have : w.heap.size + 1 + 1 + 1 + 1 < w1.heap.size := by omega); (try have : w.heap.size + 1 + 1 + 1 + 1 + 1 < w1.heap.size := by omega); (try have : w.heap.size < w1.heap.size + 1 := by omega); (try have : w.heap.size + 1 < w1.heap.size + 1 := by omega); (try have : w.heap.size + 1 + 1 < w1.heap.size + 1 := by omega); (try have : w.heap.size + 1 + 1 + 1 < w1.heap.size + 1 := by omega); (try have : w.heap.size + 1 + 1 + 1 + 1 < w1.heap.size + 1 := by omega)
        have qw10 : w1.cell? ⟨w.heap.size, 0, none⟩ = some (.int .i64 3) := (hcw1 _ _ (by go_size)).trans (by go_simp); have qw11 : w1.cell? ⟨w.heap.size, 1, none⟩ = some (.int .i64 1) := (hcw1 _ _ (by go_size)).trans (by go_simp); have qw12 : w1.cell? ⟨w.heap.size, 2, none⟩ = some (.string ⟨#[]⟩) := (hcw1 _ _ (by go_size)).trans (by go_simp)
        go_wp2
        ((try simp only [Exit.inBlock, Exit.then]); refine bodyPost_ret (by simp only [results, Tryz.results44]; go_simp; try rfl) rfl ?_)
        refine ⟨by rw [HR.out]; try rfl, ?_⟩
        (repeat' (first | (with_reducible exact Below.refl _ _) | (with_reducible assumption) | (with_reducible refine Below.alloc ?_ ?_ _) | (with_reducible refine Below.drew ?_) | (with_reducible refine Below.drewN' ?_ _) | (with_reducible refine Below.setCell ?_ ?_ _) | (refine Below.via ?_ (by assumption) ?_) | go_size))
theorem rp_bad {t X : List UInt8} {c : V} {E : Int} (hc : rcand t = some c) (hx : vText c = (X, E)) (h : E ≠ 0 ∨ X ≠ t) : rParse t = (vN, 30) := by
  unfold rParse
  rw [hc]
  simp only [hx]
  rw [if_pos (by rcases h with h | h <;> simp [h])]
theorem rp_good {t X : List UInt8} {c : V} (hc : rcand t = some c) (hx : vText c = (X, 0)) (h : X = t) : rParse t = (c, 0) := by
  unfold rParse
  rw [hc]
  simp only [hx]
  rw [if_neg (by simp [h])]
theorem rp_none {t : List UInt8} (hc : rcand t = none) : rParse t = (vN, 30) := by
  unfold rParse
  rw [hc]
theorem rq_q (r : List UInt8) : rq (39 :: r) = 39 :: rq (r.drop 1) := by
  cases r with
  | nil => rfl
  | cons d r => simp [rq]
theorem rq_n {c : UInt8} (h : c ≠ 39) (r : List UInt8) : rq (c :: r) = c :: rq r := by
  cases r with
  | nil => rfl
  | cons d r => simp [rq, h]
set_option maxRecDepth 100000 in
set_option maxHeartbeats 8000000 in
theorem rparse_null (t : List UInt8) (w : World) (hE : Env w) (ht : t.length ≤ 4000000) (hn : (t == [110, 117, 108, 108]) = true) :
    Calls Tryz.prog 46 #[.string ⟨t.toArray⟩] w fun e w' => e = .returned (.tuple #[.agg #[.int .i64 (rParse t).1.k, .int .i64 (rParse t).1.n, .string ⟨List.toArray (rParse t).1.t⟩], .int .i64 (rParse t).2]) ∧ Below w.heap.size w w' := by
  have HC : Hid (rcand t = some vN) := Lib.hid (by unfold rcand; rw [hn]; rfl)
  have P0 := Lib.hid (((BW.start hE).push vN (g := w.heap.size) rfl).push vN (g := w.heap.size + 1) (by simp))
  have HE := Lib.hid hE
  clear hE
  obtain rfl : t = [110, 117, 108, 108] := by simpa using hn
  clear hn
  go_enter Tryz.func46, Tryz.ntmps46
  obtain ⟨X, hX⟩ : ∃ X, vText (vN) = X := ⟨_, rfl⟩
  obtain ⟨X, E⟩ := X
  have HX := Lib.hid hX
  clear hX
  go_wp2_with fail
  refine (rtext_any (vN) _ (by simp [vN])).mono ?_; rintro e w8 ⟨rfl, hb8⟩
  rw [HX.out]
  have P8 := Lib.hid (P0.out.later hb8)
  clear hb8
  have hbx := P8.out.b
  obtain ⟨⟨x0, x1, x2⟩, zx⟩ := P8.out.at_ (List.Mem.tail _ (List.Mem.head _))
  simp only [vN] at x0 x1 x2
  have fz : ∀ i, w8.frozen? ⟨w.heap.size, i, none⟩ = false := fun i => blk_frozen (P8.out.all _ (List.Mem.tail _ (List.Mem.head _))) i
  obtain ⟨⟨v0, v1, v2⟩, zv⟩ := P8.out.at_ (List.Mem.head _)
  have fv : ∀ i, w8.frozen? ⟨w.heap.size + 1, i, none⟩ = false := fun i => blk_frozen (P8.out.all _ (List.Mem.head _)) i
  by_cases hE : E = 0
  case neg =>
    have hE1 : (E != 0) = true := by simpa using hE
    have hE2 : (E == 0) = false := by simpa using hE
    have HR : Hid (rParse _ = (vN, 30)) := Lib.hid (rp_bad HC.out HX.out (.inl hE))
    go_wp2
    ((try simp only [Exit.inBlock, Exit.then]); refine bodyPost_ret (by simp only [results, Tryz.results46]; go_simp; try rfl) rfl ?_)
    refine ⟨by rw [HR.out]; try rfl, ?_⟩
    (repeat' (first | (with_reducible exact Below.refl _ _) | (with_reducible assumption) | (with_reducible refine Below.alloc ?_ ?_ _) | (with_reducible refine Below.drew ?_) | (with_reducible refine Below.drewN' ?_ _) | (with_reducible refine Below.setCell ?_ ?_ _) | (refine Below.via ?_ (by assumption) ?_) | go_size))

  subst hE
  by_cases hXt : X = [110, 117, 108, 108]
  case neg =>
    have hX1 : (X == [110, 117, 108, 108]) = false := by simpa using hXt
    have hX2 : (X != [110, 117, 108, 108]) = true := by simpa using hXt
    have HR : Hid (rParse _ = (vN, 30)) := Lib.hid (rp_bad HC.out HX.out (.inr hXt))
    go_wp2
    ((try simp only [Exit.inBlock, Exit.then]); refine bodyPost_ret (by simp only [results, Tryz.results46]; go_simp; try rfl) rfl ?_)
    refine ⟨by rw [HR.out]; try rfl, ?_⟩
    (repeat' (first | (with_reducible exact Below.refl _ _) | (with_reducible assumption) | (with_reducible refine Below.alloc ?_ ?_ _) | (with_reducible refine Below.drew ?_) | (with_reducible refine Below.drewN' ?_ _) | (with_reducible refine Below.setCell ?_ ?_ _) | (refine Below.via ?_ (by assumption) ?_) | go_size))

  have HR : Hid (rParse _ = ((vN, 0) : V × Int)) := Lib.hid (rp_good HC.out HX.out hXt)
  have hX1 : (X == [110, 117, 108, 108]) = true := by simpa using hXt
  have hX2 : (X != [110, 117, 108, 108]) = false := by simpa using hXt
  go_wp2
  ((try simp only [Exit.inBlock, Exit.then]); refine bodyPost_ret (by simp only [results, Tryz.results46]; go_simp; try rfl) rfl ?_)
  refine ⟨by rw [HR.out]; try rfl, ?_⟩
  (repeat' (first | (with_reducible exact Below.refl _ _) | (with_reducible assumption) | (with_reducible refine Below.alloc ?_ ?_ _) | (with_reducible refine Below.drew ?_) | (with_reducible refine Below.drewN' ?_ _) | (with_reducible refine Below.setCell ?_ ?_ _) | (refine Below.via ?_ (by assumption) ?_) | go_size))

set_option maxRecDepth 100000 in
set_option maxHeartbeats 8000000 in
theorem rparse_bool (t : List UInt8) (w : World) (hE : Env w) (ht : t.length ≤ 4000000) (hn : (t == [110, 117, 108, 108]) = false) (hb : (t == [116, 114, 117, 101] || t == [102, 97, 108, 115, 101]) = true) :
    Calls Tryz.prog 46 #[.string ⟨t.toArray⟩] w fun e w' => e = .returned (.tuple #[.agg #[.int .i64 (rParse t).1.k, .int .i64 (rParse t).1.n, .string ⟨List.toArray (rParse t).1.t⟩], .int .i64 (rParse t).2]) ∧ Below w.heap.size w w' := by
  have HC : Hid (rcand t = some (vB (t == [116, 114, 117, 101]))) := Lib.hid (by unfold rcand; rw [hn, hb]; rfl)
  have P0 := Lib.hid (((BW.start hE).push vN (g := w.heap.size) rfl).push vN (g := w.heap.size + 1) (by simp))
  have HE := Lib.hid hE
  clear hE
  have h3 : t = [116, 114, 117, 101] ∨ t = [102, 97, 108, 115, 101] := by simpa using hb
  clear hn hb
  rcases h3 with rfl | rfl
  · have HC : Hid (rcand _ = some (vB true)) := HC
    go_enter Tryz.func46, Tryz.ntmps46
    go_wp2_with fail
    refine (rBool_any _ _).mono ?_; rintro e w3 ⟨rfl, hb3⟩
    have P3 := Lib.hid (P0.out.later hb3)
    clear hb3
    have hbx := P3.out.b
    obtain ⟨⟨x0, x1, x2⟩, zx⟩ := P3.out.at_ (List.Mem.tail _ (List.Mem.head _))
    simp only [vN] at x0 x1 x2
    have fz : ∀ i, w3.frozen? ⟨w.heap.size, i, none⟩ = false := fun i => blk_frozen (P3.out.all _ (List.Mem.tail _ (List.Mem.head _))) i
    obtain ⟨⟨v0, v1, v2⟩, zv⟩ := P3.out.at_ (List.Mem.head _)
    have fv : ∀ i, w3.frozen? ⟨w.heap.size + 1, i, none⟩ = false := fun i => blk_frozen (P3.out.all _ (List.Mem.head _)) i
    have P4 := Lib.hid (BW.put HE.out P3.out (by intro p hp; simp only [List.mem_cons, List.not_mem_nil, or_false] at hp; subst hp; simp) (Nat.le_succ _) (vB true))
    obtain ⟨X, hX⟩ : ∃ X, vText (vB true) = X := ⟨_, rfl⟩
    obtain ⟨X, E⟩ := X
    have HX := Lib.hid hX
    clear hX
    go_wp2_with fail
    refine (rtext_any (vB true) _ (by simp [vB])).mono ?_; rintro e w8 ⟨rfl, hb8⟩
    rw [HX.out]
    have P8 := Lib.hid (P4.out.later hb8)
    clear hb8
    clear hbx x0 x1 x2 zx fz v0 v1 v2 zv fv
    have hbx := P8.out.b
    obtain ⟨⟨x0, x1, x2⟩, zx⟩ := P8.out.at_ (List.Mem.tail _ (List.Mem.head _))
    simp only [vN] at x0 x1 x2
    have fz : ∀ i, w8.frozen? ⟨w.heap.size, i, none⟩ = false := fun i => blk_frozen (P8.out.all _ (List.Mem.tail _ (List.Mem.head _))) i
    obtain ⟨⟨v0, v1, v2⟩, zv⟩ := P8.out.at_ (List.Mem.head _)
    have fv : ∀ i, w8.frozen? ⟨w.heap.size + 1, i, none⟩ = false := fun i => blk_frozen (P8.out.all _ (List.Mem.head _)) i
    by_cases hE : E = 0
    case neg =>
      have hE1 : (E != 0) = true := by simpa using hE
      have hE2 : (E == 0) = false := by simpa using hE
      have HR : Hid (rParse _ = (vN, 30)) := Lib.hid (rp_bad HC.out HX.out (.inl hE))
      go_wp2
      ((try simp only [Exit.inBlock, Exit.then]); refine bodyPost_ret (by simp only [results, Tryz.results46]; go_simp; try rfl) rfl ?_)
      refine ⟨by rw [HR.out]; try rfl, ?_⟩
      (repeat' (first | (with_reducible exact Below.refl _ _) | (with_reducible assumption) | (with_reducible refine Below.alloc ?_ ?_ _) | (with_reducible refine Below.drew ?_) | (with_reducible refine Below.drewN' ?_ _) | (with_reducible refine Below.setCell ?_ ?_ _) | (refine Below.via ?_ (by assumption) ?_) | go_size))

    subst hE
    by_cases hXt : X = [116, 114, 117, 101]
    case neg =>
      have hX1 : (X == [116, 114, 117, 101]) = false := by simpa using hXt
      have hX2 : (X != [116, 114, 117, 101]) = true := by simpa using hXt
      have HR : Hid (rParse _ = (vN, 30)) := Lib.hid (rp_bad HC.out HX.out (.inr hXt))
      go_wp2
      ((try simp only [Exit.inBlock, Exit.then]); refine bodyPost_ret (by simp only [results, Tryz.results46]; go_simp; try rfl) rfl ?_)
      refine ⟨by rw [HR.out]; try rfl, ?_⟩
      (repeat' (first | (with_reducible exact Below.refl _ _) | (with_reducible assumption) | (with_reducible refine Below.alloc ?_ ?_ _) | (with_reducible refine Below.drew ?_) | (with_reducible refine Below.drewN' ?_ _) | (with_reducible refine Below.setCell ?_ ?_ _) | (refine Below.via ?_ (by assumption) ?_) | go_size))

    have HR : Hid (rParse _ = ((vB true, 0) : V × Int)) := Lib.hid (rp_good HC.out HX.out hXt)
    have hX1 : (X == [116, 114, 117, 101]) = true := by simpa using hXt
    have hX2 : (X != [116, 114, 117, 101]) = false := by simpa using hXt
    go_wp2
    ((try simp only [Exit.inBlock, Exit.then]); refine bodyPost_ret (by simp only [results, Tryz.results46]; go_simp; try rfl) rfl ?_)
    refine ⟨by rw [HR.out]; try rfl, ?_⟩
    (repeat' (first | (with_reducible exact Below.refl _ _) | (with_reducible assumption) | (with_reducible refine Below.alloc ?_ ?_ _) | (with_reducible refine Below.drew ?_) | (with_reducible refine Below.drewN' ?_ _) | (with_reducible refine Below.setCell ?_ ?_ _) | (refine Below.via ?_ (by assumption) ?_) | go_size))

  · have HC : Hid (rcand _ = some (vB false)) := HC
    go_enter Tryz.func46, Tryz.ntmps46
    go_wp2_with fail
    refine (rBool_any _ _).mono ?_; rintro e w3 ⟨rfl, hb3⟩
    have P3 := Lib.hid (P0.out.later hb3)
    clear hb3
    have hbx := P3.out.b
    obtain ⟨⟨x0, x1, x2⟩, zx⟩ := P3.out.at_ (List.Mem.tail _ (List.Mem.head _))
    simp only [vN] at x0 x1 x2
    have fz : ∀ i, w3.frozen? ⟨w.heap.size, i, none⟩ = false := fun i => blk_frozen (P3.out.all _ (List.Mem.tail _ (List.Mem.head _))) i
    obtain ⟨⟨v0, v1, v2⟩, zv⟩ := P3.out.at_ (List.Mem.head _)
    have fv : ∀ i, w3.frozen? ⟨w.heap.size + 1, i, none⟩ = false := fun i => blk_frozen (P3.out.all _ (List.Mem.head _)) i
    have P4 := Lib.hid (BW.put HE.out P3.out (by intro p hp; simp only [List.mem_cons, List.not_mem_nil, or_false] at hp; subst hp; simp) (Nat.le_succ _) (vB false))
    obtain ⟨X, hX⟩ : ∃ X, vText (vB false) = X := ⟨_, rfl⟩
    obtain ⟨X, E⟩ := X
    have HX := Lib.hid hX
    clear hX
    go_wp2_with fail
    refine (rtext_any (vB false) _ (by simp [vB])).mono ?_; rintro e w8 ⟨rfl, hb8⟩
    rw [HX.out]
    have P8 := Lib.hid (P4.out.later hb8)
    clear hb8
    clear hbx x0 x1 x2 zx fz v0 v1 v2 zv fv
    have hbx := P8.out.b
    obtain ⟨⟨x0, x1, x2⟩, zx⟩ := P8.out.at_ (List.Mem.tail _ (List.Mem.head _))
    simp only [vN] at x0 x1 x2
    have fz : ∀ i, w8.frozen? ⟨w.heap.size, i, none⟩ = false := fun i => blk_frozen (P8.out.all _ (List.Mem.tail _ (List.Mem.head _))) i
    obtain ⟨⟨v0, v1, v2⟩, zv⟩ := P8.out.at_ (List.Mem.head _)
    have fv : ∀ i, w8.frozen? ⟨w.heap.size + 1, i, none⟩ = false := fun i => blk_frozen (P8.out.all _ (List.Mem.head _)) i
    by_cases hE : E = 0
    case neg =>
      have hE1 : (E != 0) = true := by simpa using hE
      have hE2 : (E == 0) = false := by simpa using hE
      have HR : Hid (rParse _ = (vN, 30)) := Lib.hid (rp_bad HC.out HX.out (.inl hE))
      go_wp2
      ((try simp only [Exit.inBlock, Exit.then]); refine bodyPost_ret (by simp only [results, Tryz.results46]; go_simp; try rfl) rfl ?_)
      refine ⟨by rw [HR.out]; try rfl, ?_⟩
      (repeat' (first | (with_reducible exact Below.refl _ _) | (with_reducible assumption) | (with_reducible refine Below.alloc ?_ ?_ _) | (with_reducible refine Below.drew ?_) | (with_reducible refine Below.drewN' ?_ _) | (with_reducible refine Below.setCell ?_ ?_ _) | (refine Below.via ?_ (by assumption) ?_) | go_size))

    subst hE
    by_cases hXt : X = [102, 97, 108, 115, 101]
    case neg =>
      have hX1 : (X == [102, 97, 108, 115, 101]) = false := by simpa using hXt
      have hX2 : (X != [102, 97, 108, 115, 101]) = true := by simpa using hXt
      have HR : Hid (rParse _ = (vN, 30)) := Lib.hid (rp_bad HC.out HX.out (.inr hXt))
      go_wp2
      ((try simp only [Exit.inBlock, Exit.then]); refine bodyPost_ret (by simp only [results, Tryz.results46]; go_simp; try rfl) rfl ?_)
      refine ⟨by rw [HR.out]; try rfl, ?_⟩
      (repeat' (first | (with_reducible exact Below.refl _ _) | (with_reducible assumption) | (with_reducible refine Below.alloc ?_ ?_ _) | (with_reducible refine Below.drew ?_) | (with_reducible refine Below.drewN' ?_ _) | (with_reducible refine Below.setCell ?_ ?_ _) | (refine Below.via ?_ (by assumption) ?_) | go_size))

    have HR : Hid (rParse _ = ((vB false, 0) : V × Int)) := Lib.hid (rp_good HC.out HX.out hXt)
    have hX1 : (X == [102, 97, 108, 115, 101]) = true := by simpa using hXt
    have hX2 : (X != [102, 97, 108, 115, 101]) = false := by simpa using hXt
    go_wp2
    ((try simp only [Exit.inBlock, Exit.then]); refine bodyPost_ret (by simp only [results, Tryz.results46]; go_simp; try rfl) rfl ?_)
    refine ⟨by rw [HR.out]; try rfl, ?_⟩
    (repeat' (first | (with_reducible exact Below.refl _ _) | (with_reducible assumption) | (with_reducible refine Below.alloc ?_ ?_ _) | (with_reducible refine Below.drew ?_) | (with_reducible refine Below.drewN' ?_ _) | (with_reducible refine Below.setCell ?_ ?_ _) | (refine Below.via ?_ (by assumption) ?_) | go_size))

set_option maxRecDepth 100000 in
set_option maxHeartbeats 8000000 in
theorem rparse_num (t : List UInt8) (w : World) (hE : Env w) (ht : t.length ≤ 4000000) (hn : (t == [110, 117, 108, 108]) = false) (hb1 : (t == [116, 114, 117, 101]) = false) (hb2 : (t == [102, 97, 108, 115, 101]) = false) (hq : (decide (2 ≤ t.length) && t[0]? == some 39) = false) :
    Calls Tryz.prog 46 #[.string ⟨t.toArray⟩] w fun e w' => e = .returned (.tuple #[.agg #[.int .i64 (rParse t).1.k, .int .i64 (rParse t).1.n, .string ⟨List.toArray (rParse t).1.t⟩], .int .i64 (rParse t).2]) ∧ Below w.heap.size w w' := by
  have HC0 : Hid (rcand t = (rWh t).map vI) := Lib.hid (by unfold rcand; rw [hn, hb1, hb2, hq]; rfl)
  have P0 := Lib.hid (((BW.start hE).push vN (g := w.heap.size) rfl).push vN (g := w.heap.size + 1) (by simp))
  have HE := Lib.hid hE
  clear hE
  by_cases h2 : 2 ≤ t.length
  · have h2i : (2 : Int) ≤ (t.length : Int) := by omega
    have h0 : 0 < t.length := by omega
    have he0 : ({ data := t.toArray } : ByteArray)[0]'(show 0 < t.length from h0) = t[0] := rfl
    have x1 : ((t[0].toNat : Int) == 39) = false := by
      rw [decide_eq_true h2, List.getElem?_eq_getElem h0] at hq
      have : ¬ (t[0].toNat : Int) = 39 := fun e => by
        have : t[0] = 39 := by
          apply UInt8.toNat_inj.1
          rw [show (39 : UInt8).toNat = 39 from rfl]
          omega
        rw [this] at hq
        simp at hq
      simpa using this
    generalize t[0] = c0 at he0 x1
    clear hq
    go_enter Tryz.func46, Tryz.ntmps46
    go_wp2_with fail
    refine (whole_r _ _ (by omega)).mono ?_; rintro e w' ⟨N, q, rfl, hw, rfl⟩
    cases q with
    | false =>
      have HR : Hid (rParse t = (vN, 30)) := Lib.hid (rp_none (by rw [HC0.out, hw]; rfl))
      clear hw
      go_wp2
      ((try simp only [Exit.inBlock, Exit.then]); refine bodyPost_ret (by simp only [results, Tryz.results46]; go_simp; try rfl) rfl ?_)
      refine ⟨by rw [HR.out]; try rfl, ?_⟩
      (repeat' (first | (with_reducible exact Below.refl _ _) | (with_reducible assumption) | (with_reducible refine Below.alloc ?_ ?_ _) | (with_reducible refine Below.drew ?_) | (with_reducible refine Below.drewN' ?_ _) | (with_reducible refine Below.setCell ?_ ?_ _) | (refine Below.via ?_ (by assumption) ?_) | go_size))

    | true =>
      have HC : Hid (rcand t = some (vI N)) := Lib.hid (by rw [HC0.out, hw]; rfl)
      clear hw
      go_wp2_with fail
      refine (rInt_any _ _).mono ?_; rintro e w3 ⟨rfl, hb3⟩
      have P3 := Lib.hid (P0.out.later hb3)
      clear hb3
      have hbx := P3.out.b
      obtain ⟨⟨x0, x1, x2⟩, zx⟩ := P3.out.at_ (List.Mem.tail _ (List.Mem.head _))
      simp only [vN] at x0 x1 x2
      have fz : ∀ i, w3.frozen? ⟨w.heap.size, i, none⟩ = false := fun i => blk_frozen (P3.out.all _ (List.Mem.tail _ (List.Mem.head _))) i
      obtain ⟨⟨v0, v1, v2⟩, zv⟩ := P3.out.at_ (List.Mem.head _)
      have fv : ∀ i, w3.frozen? ⟨w.heap.size + 1, i, none⟩ = false := fun i => blk_frozen (P3.out.all _ (List.Mem.head _)) i
      have P4 := Lib.hid (BW.put HE.out P3.out (by intro p hp; simp only [List.mem_cons, List.not_mem_nil, or_false] at hp; subst hp; simp) (Nat.le_succ _) (vI N))
      obtain ⟨X, hX⟩ : ∃ X, vText (vI N) = X := ⟨_, rfl⟩
      obtain ⟨X, E⟩ := X
      have HX := Lib.hid hX
      clear hX
      go_wp2_with fail
      refine (rtext_any (vI N) _ (by simp [vI])).mono ?_; rintro e w8 ⟨rfl, hb8⟩
      rw [HX.out]
      have P8 := Lib.hid (P4.out.later hb8)
      clear hb8
      clear hbx x0 x1 x2 zx fz v0 v1 v2 zv fv
      have hbx := P8.out.b
      obtain ⟨⟨x0, x1, x2⟩, zx⟩ := P8.out.at_ (List.Mem.tail _ (List.Mem.head _))
      simp only [vN] at x0 x1 x2
      have fz : ∀ i, w8.frozen? ⟨w.heap.size, i, none⟩ = false := fun i => blk_frozen (P8.out.all _ (List.Mem.tail _ (List.Mem.head _))) i
      obtain ⟨⟨v0, v1, v2⟩, zv⟩ := P8.out.at_ (List.Mem.head _)
      have fv : ∀ i, w8.frozen? ⟨w.heap.size + 1, i, none⟩ = false := fun i => blk_frozen (P8.out.all _ (List.Mem.head _)) i
      by_cases hE : E = 0
      case neg =>
        have hE1 : (E != 0) = true := by simpa using hE
        have hE2 : (E == 0) = false := by simpa using hE
        have HR : Hid (rParse _ = (vN, 30)) := Lib.hid (rp_bad HC.out HX.out (.inl hE))
        go_wp2
        ((try simp only [Exit.inBlock, Exit.then]); refine bodyPost_ret (by simp only [results, Tryz.results46]; go_simp; try rfl) rfl ?_)
        refine ⟨by rw [HR.out]; try rfl, ?_⟩
        (repeat' (first | (with_reducible exact Below.refl _ _) | (with_reducible assumption) | (with_reducible refine Below.alloc ?_ ?_ _) | (with_reducible refine Below.drew ?_) | (with_reducible refine Below.drewN' ?_ _) | (with_reducible refine Below.setCell ?_ ?_ _) | (refine Below.via ?_ (by assumption) ?_) | go_size))

      subst hE
      by_cases hXt : X = t
      case neg =>
        have hX1 : (X == t) = false := by simpa using hXt
        have hX2 : (X != t) = true := by simpa using hXt
        have HR : Hid (rParse _ = (vN, 30)) := Lib.hid (rp_bad HC.out HX.out (.inr hXt))
        go_wp2
        ((try simp only [Exit.inBlock, Exit.then]); refine bodyPost_ret (by simp only [results, Tryz.results46]; go_simp; try rfl) rfl ?_)
        refine ⟨by rw [HR.out]; try rfl, ?_⟩
        (repeat' (first | (with_reducible exact Below.refl _ _) | (with_reducible assumption) | (with_reducible refine Below.alloc ?_ ?_ _) | (with_reducible refine Below.drew ?_) | (with_reducible refine Below.drewN' ?_ _) | (with_reducible refine Below.setCell ?_ ?_ _) | (refine Below.via ?_ (by assumption) ?_) | go_size))

      have HR : Hid (rParse _ = ((vI N, 0) : V × Int)) := Lib.hid (rp_good HC.out HX.out hXt)
      have hX1 : (X == t) = true := by simpa using hXt
      have hX2 : (X != t) = false := by simpa using hXt
      go_wp2
      ((try simp only [Exit.inBlock, Exit.then]); refine bodyPost_ret (by simp only [results, Tryz.results46]; go_simp; try rfl) rfl ?_)
      refine ⟨by rw [HR.out]; try rfl, ?_⟩
      (repeat' (first | (with_reducible exact Below.refl _ _) | (with_reducible assumption) | (with_reducible refine Below.alloc ?_ ?_ _) | (with_reducible refine Below.drew ?_) | (with_reducible refine Below.drewN' ?_ _) | (with_reducible refine Below.setCell ?_ ?_ _) | (refine Below.via ?_ (by assumption) ?_) | go_size))

  · have h2i : ¬ (2 : Int) ≤ (t.length : Int) := by omega
    clear hq
    go_enter Tryz.func46, Tryz.ntmps46
    go_wp2_with fail
    refine (whole_r _ _ (by omega)).mono ?_; rintro e w' ⟨N, q, rfl, hw, rfl⟩
    cases q with
    | false =>
      have HR : Hid (rParse t = (vN, 30)) := Lib.hid (rp_none (by rw [HC0.out, hw]; rfl))
      clear hw
      go_wp2
      ((try simp only [Exit.inBlock, Exit.then]); refine bodyPost_ret (by simp only [results, Tryz.results46]; go_simp; try rfl) rfl ?_)
      refine ⟨by rw [HR.out]; try rfl, ?_⟩
      (repeat' (first | (with_reducible exact Below.refl _ _) | (with_reducible assumption) | (with_reducible refine Below.alloc ?_ ?_ _) | (with_reducible refine Below.drew ?_) | (with_reducible refine Below.drewN' ?_ _) | (with_reducible refine Below.setCell ?_ ?_ _) | (refine Below.via ?_ (by assumption) ?_) | go_size))

    | true =>
      have HC : Hid (rcand t = some (vI N)) := Lib.hid (by rw [HC0.out, hw]; rfl)
      clear hw
      go_wp2_with fail
      refine (rInt_any _ _).mono ?_; rintro e w3 ⟨rfl, hb3⟩
      have P3 := Lib.hid (P0.out.later hb3)
      clear hb3
      have hbx := P3.out.b
      obtain ⟨⟨x0, x1, x2⟩, zx⟩ := P3.out.at_ (List.Mem.tail _ (List.Mem.head _))
      simp only [vN] at x0 x1 x2
      have fz : ∀ i, w3.frozen? ⟨w.heap.size, i, none⟩ = false := fun i => blk_frozen (P3.out.all _ (List.Mem.tail _ (List.Mem.head _))) i
      obtain ⟨⟨v0, v1, v2⟩, zv⟩ := P3.out.at_ (List.Mem.head _)
      have fv : ∀ i, w3.frozen? ⟨w.heap.size + 1, i, none⟩ = false := fun i => blk_frozen (P3.out.all _ (List.Mem.head _)) i
      have P4 := Lib.hid (BW.put HE.out P3.out (by intro p hp; simp only [List.mem_cons, List.not_mem_nil, or_false] at hp; subst hp; simp) (Nat.le_succ _) (vI N))
      obtain ⟨X, hX⟩ : ∃ X, vText (vI N) = X := ⟨_, rfl⟩
      obtain ⟨X, E⟩ := X
      have HX := Lib.hid hX
      clear hX
      go_wp2_with fail
      refine (rtext_any (vI N) _ (by simp [vI])).mono ?_; rintro e w8 ⟨rfl, hb8⟩
      rw [HX.out]
      have P8 := Lib.hid (P4.out.later hb8)
      clear hb8
      clear hbx x0 x1 x2 zx fz v0 v1 v2 zv fv
      have hbx := P8.out.b
      obtain ⟨⟨x0, x1, x2⟩, zx⟩ := P8.out.at_ (List.Mem.tail _ (List.Mem.head _))
      simp only [vN] at x0 x1 x2
      have fz : ∀ i, w8.frozen? ⟨w.heap.size, i, none⟩ = false := fun i => blk_frozen (P8.out.all _ (List.Mem.tail _ (List.Mem.head _))) i
      obtain ⟨⟨v0, v1, v2⟩, zv⟩ := P8.out.at_ (List.Mem.head _)
      have fv : ∀ i, w8.frozen? ⟨w.heap.size + 1, i, none⟩ = false := fun i => blk_frozen (P8.out.all _ (List.Mem.head _)) i
      by_cases hE : E = 0
      case neg =>
        have hE1 : (E != 0) = true := by simpa using hE
        have hE2 : (E == 0) = false := by simpa using hE
        have HR : Hid (rParse _ = (vN, 30)) := Lib.hid (rp_bad HC.out HX.out (.inl hE))
        go_wp2
        ((try simp only [Exit.inBlock, Exit.then]); refine bodyPost_ret (by simp only [results, Tryz.results46]; go_simp; try rfl) rfl ?_)
        refine ⟨by rw [HR.out]; try rfl, ?_⟩
        (repeat' (first | (with_reducible exact Below.refl _ _) | (with_reducible assumption) | (with_reducible refine Below.alloc ?_ ?_ _) | (with_reducible refine Below.drew ?_) | (with_reducible refine Below.drewN' ?_ _) | (with_reducible refine Below.setCell ?_ ?_ _) | (refine Below.via ?_ (by assumption) ?_) | go_size))

      subst hE
      by_cases hXt : X = t
      case neg =>
        have hX1 : (X == t) = false := by simpa using hXt
        have hX2 : (X != t) = true := by simpa using hXt
        have HR : Hid (rParse _ = (vN, 30)) := Lib.hid (rp_bad HC.out HX.out (.inr hXt))
        go_wp2
        ((try simp only [Exit.inBlock, Exit.then]); refine bodyPost_ret (by simp only [results, Tryz.results46]; go_simp; try rfl) rfl ?_)
        refine ⟨by rw [HR.out]; try rfl, ?_⟩
        (repeat' (first | (with_reducible exact Below.refl _ _) | (with_reducible assumption) | (with_reducible refine Below.alloc ?_ ?_ _) | (with_reducible refine Below.drew ?_) | (with_reducible refine Below.drewN' ?_ _) | (with_reducible refine Below.setCell ?_ ?_ _) | (refine Below.via ?_ (by assumption) ?_) | go_size))

      have HR : Hid (rParse _ = ((vI N, 0) : V × Int)) := Lib.hid (rp_good HC.out HX.out hXt)
      have hX1 : (X == t) = true := by simpa using hXt
      have hX2 : (X != t) = false := by simpa using hXt
      go_wp2
      ((try simp only [Exit.inBlock, Exit.then]); refine bodyPost_ret (by simp only [results, Tryz.results46]; go_simp; try rfl) rfl ?_)
      refine ⟨by rw [HR.out]; try rfl, ?_⟩
      (repeat' (first | (with_reducible exact Below.refl _ _) | (with_reducible assumption) | (with_reducible refine Below.alloc ?_ ?_ _) | (with_reducible refine Below.drew ?_) | (with_reducible refine Below.drewN' ?_ _) | (with_reducible refine Below.setCell ?_ ?_ _) | (refine Below.via ?_ (by assumption) ?_) | go_size))

set_option maxRecDepth 100000 in
set_option maxHeartbeats 8000000 in
theorem rparse_quot (t : List UInt8) (w : World) (hE : Env w) (ht : t.length ≤ 4000000) (hn : (t == [110, 117, 108, 108]) = false) (hb1 : (t == [116, 114, 117, 101]) = false) (hb2 : (t == [102, 97, 108, 115, 101]) = false) (h2 : 2 ≤ t.length) (hq : t[0]? = some 39) :
    Calls Tryz.prog 46 #[.string ⟨t.toArray⟩] w fun e w' => e = .returned (.tuple #[.agg #[.int .i64 (rParse t).1.k, .int .i64 (rParse t).1.n, .string ⟨List.toArray (rParse t).1.t⟩], .int .i64 (rParse t).2]) ∧ Below w.heap.size w w' := by
  obtain ⟨L, hL⟩ : ∃ L, L = (t.drop 1).take (t.length - 2) := ⟨_, rfl⟩
  have HC0 : Hid (rcand t = some (vS (rq L))) := Lib.hid (by unfold rcand; rw [hn, hb1, hb2, hq, decide_eq_true h2, hL]; rfl)
  have HLl : Hid (L.length = t.length - 2) := Lib.hid (by rw [hL, List.length_take, List.length_drop]; omega)
  have HLg : Hid (∀ j (h : j + 1 < t.length) (h' : j < L.length), L[j] = t[j + 1]) := Lib.hid (by
    intro j h h'
    subst hL
    simp only [List.getElem_take, List.getElem_drop]
    congr 1
    omega)
  clear hL
  have P0 := Lib.hid (((BW.start hE).push vN (g := w.heap.size) rfl).push vN (g := w.heap.size + 1) (by simp))
  have HE := Lib.hid hE
  clear hE
  have h2i : (2 : Int) ≤ (t.length : Int) := by omega
  have h0 : 0 < t.length := by omega
  have he0 : ({ data := t.toArray } : ByteArray)[0]'(show 0 < t.length from h0) = t[0] := rfl
  have x1 : ((t[0].toNat : Int) == 39) = true := by
    rw [List.getElem?_eq_getElem h0] at hq
    simp only [Option.some.injEq] at hq
    rw [hq]
    rfl
  generalize t[0] = c0 at he0 x1
  clear hq
  obtain ⟨W0, hW0⟩ : ∃ W, W = ((w.alloc (.cells (cellsV vN) 27)).alloc (.cells (cellsV vN) 27)) := ⟨_, rfl⟩
  go_enter Tryz.func46, Tryz.ntmps46
  go_wp2_with fail
  refine (show Code.wp Tryz.prog _ _ _ ((w.alloc (.cells (cellsV vN) 27)).alloc (.cells (cellsV vN) 27)) from ?_)
  rw [← hW0] at P0 ⊢
  clear hW0
  go_loopw [5, 6] (fun v i wr => ∃ (j : Nat) (p : List UInt8), 1 ≤ j ∧ j ≤ t.length ∧ i = .int .i64 j ∧ p.length ≤ j ∧ Hid (rq L = p ++ rq (L.drop (j - 1))) ∧ Hid (BW w wr [(w.heap.size + 1, vN), (w.heap.size, vN)]) ∧ Hid (Below W0.heap.size W0 wr) ∧ Hid (wr.ownsRow W0.heap.size 5 1 v p.length (p.map byteV))) (fun _ i wr => t.length - (intOf i).toNat)
  case atStart => exact ⟨1, [], Nat.le_refl _, by omega, rfl, by simp, (show Hid _ from by simp [Hid]), P0, Lib.hid (Below.refl _ _), Lib.hid (World.ownsRow_nil _ _ _ _)⟩
  case round =>
    obtain ⟨j, p, hj1, hj, rfl, hpl, HG, PW, HB, HO⟩ := hrel
    have hz := HB.out.size
    by_cases hlt : j + 1 < t.length
    · have hlt1 : j < t.length := by omega
      have i1 : (j : Int) < (t.length : Int) - 1 := by omega
      have he : ({ data := t.toArray } : ByteArray)[j]'(show j < t.length from hlt1) = t[j] := rfl
      have hlL : j - 1 < L.length := by rw [HLl.out]; omega
      have hg : L[j - 1] = t[j] := by
        rw [HLg.out (j - 1) (by omega) hlL]
        congr 1
        omega
      have hd : L.drop (j - 1) = L[j - 1] :: L.drop j := by
        rw [List.drop_eq_getElem_cons hlL, show j - 1 + 1 = j by omega]
      rw [hg] at hd
      generalize t[j] = c at he hd
      clear hg
      obtain ⟨q1, hq1⟩ : ∃ q, q = p ++ [c] := ⟨_, rfl⟩
      have hql : q1.length ≤ j + 1 := by rw [hq1]; simp; omega
      by_cases hc : c = 39
      case pos =>
        have hc1 : ((c.toNat : Int) == 39) = true := by subst hc; rfl
        have HG2 : Hid (rq L = q1 ++ rq (L.drop (j + 1))) := Lib.hid (by rw [HG.out, hd, hc, rq_q, hq1, hc, List.drop_drop, List.append_assoc]; rfl)
        have HQ1e := Lib.hid hq1
        clear hc hd hq1
        go_wp2_with (at_builtin; refine wpList_push8 rfl _ _ rfl W0.heap.size _ p rfl wr HO.out c rfl rfl (by omega) W0.heap.size W0 HB.out (Nat.le_refl _) hz q1 HQ1e.out ?_)
        intro v' w3 h1 h2 h3
        have HO1 := Lib.hid h1
        have HB1 := Lib.hid h2
        clear h1 h2
        go_wp2
        go_roundw
        case rel => exact ⟨j + 2, q1, by omega, by omega, by go_num, by omega, HG2, Lib.hid (P0.out.later HB1.out), HB1, HO1⟩
        case measure => simp [intOf]; omega
      case neg =>
        have hc1 : ((c.toNat : Int) == 39) = false := by
          have : ¬ (c.toNat : Int) = 39 := fun e => hc (by apply UInt8.toNat_inj.1; rw [show (39 : UInt8).toNat = 39 from rfl]; omega)
          simpa using this
        have HG2 : Hid (rq L = q1 ++ rq (L.drop j)) := Lib.hid (by rw [HG.out, hd, rq_n hc, hq1, List.append_assoc]; rfl)
        have HQ1e := Lib.hid hq1
        clear hc hd hq1
        go_wp2_with (at_builtin; refine wpList_push8 rfl _ _ rfl W0.heap.size _ p rfl wr HO.out c rfl rfl (by omega) W0.heap.size W0 HB.out (Nat.le_refl _) hz q1 HQ1e.out ?_)
        intro v' w3 h1 h2 h3
        have HO1 := Lib.hid h1
        have HB1 := Lib.hid h2
        clear h1 h2
        go_wp2
        go_roundw
        case rel => exact ⟨j + 1, q1, by omega, by omega, by go_num, hql, HG2, Lib.hid (P0.out.later HB1.out), HB1, HO1⟩
        case measure => simp [intOf]; omega
    · have i1 : ¬ (j : Int) < (t.length : Int) - 1 := by omega
      have hcv := conv_own HO.out
      have HC : Hid (rcand t = some (vS p)) := Lib.hid (by rw [HC0.out, HG.out, List.drop_of_length_le (by rw [HLl.out]; omega)]; simp [rq])
      clear HO HG
      go_wp2_with fail
      refine (rString_any _ _).mono ?_; rintro e w4 ⟨rfl, hb4⟩
      have P4 := Lib.hid (PW.out.later hb4)
      clear hb4
      have hbx := P4.out.b
      obtain ⟨⟨x0, x1, x2⟩, zx⟩ := P4.out.at_ (List.Mem.tail _ (List.Mem.head _))
      simp only [vN] at x0 x1 x2
      have fz : ∀ i, w4.frozen? ⟨w.heap.size, i, none⟩ = false := fun i => blk_frozen (P4.out.all _ (List.Mem.tail _ (List.Mem.head _))) i
      obtain ⟨⟨v0, v1, v2⟩, zv⟩ := P4.out.at_ (List.Mem.head _)
      have fv : ∀ i, w4.frozen? ⟨w.heap.size + 1, i, none⟩ = false := fun i => blk_frozen (P4.out.all _ (List.Mem.head _)) i
      have P5 := Lib.hid (BW.put HE.out P4.out (by intro p hp; simp only [List.mem_cons, List.not_mem_nil, or_false] at hp; subst hp; simp) (Nat.le_succ _) (vS p))
      obtain ⟨X, hX⟩ : ∃ X, vText (vS p) = X := ⟨_, rfl⟩
      obtain ⟨X, E⟩ := X
      have HX := Lib.hid hX
      clear hX
      go_wp2_with fail
      refine (rtext_any (vS p) _ (by simp [vS]; omega)).mono ?_; rintro e w8 ⟨rfl, hb8⟩
      rw [HX.out]
      have P8 := Lib.hid (P5.out.later hb8)
      clear hb8
      clear hbx x0 x1 x2 zx fz v0 v1 v2 zv fv
      have hbx := P8.out.b
      obtain ⟨⟨x0, x1, x2⟩, zx⟩ := P8.out.at_ (List.Mem.tail _ (List.Mem.head _))
      simp only [vN] at x0 x1 x2
      have fz : ∀ i, w8.frozen? ⟨w.heap.size, i, none⟩ = false := fun i => blk_frozen (P8.out.all _ (List.Mem.tail _ (List.Mem.head _))) i
      obtain ⟨⟨v0, v1, v2⟩, zv⟩ := P8.out.at_ (List.Mem.head _)
      have fv : ∀ i, w8.frozen? ⟨w.heap.size + 1, i, none⟩ = false := fun i => blk_frozen (P8.out.all _ (List.Mem.head _)) i
      by_cases hE : E = 0
      case neg =>
        have hE1 : (E != 0) = true := by simpa using hE
        have hE2 : (E == 0) = false := by simpa using hE
        have HR : Hid (rParse _ = (vN, 30)) := Lib.hid (rp_bad HC.out HX.out (.inl hE))
        go_wp2
        ((try simp only [Exit.inBlock, Exit.then]); refine bodyPost_ret (by simp only [results, Tryz.results46]; go_simp; try rfl) rfl ?_)
        refine ⟨by rw [HR.out]; try rfl, ?_⟩
        (repeat' (first | (with_reducible exact Below.refl _ _) | (with_reducible assumption) | (with_reducible refine Below.alloc ?_ ?_ _) | (with_reducible refine Below.drew ?_) | (with_reducible refine Below.drewN' ?_ _) | (with_reducible refine Below.setCell ?_ ?_ _) | (refine Below.via ?_ (by assumption) ?_) | go_size))

      subst hE
      by_cases hXt : X = t
      case neg =>
        have hX1 : (X == t) = false := by simpa using hXt
        have hX2 : (X != t) = true := by simpa using hXt
        have HR : Hid (rParse _ = (vN, 30)) := Lib.hid (rp_bad HC.out HX.out (.inr hXt))
        go_wp2
        ((try simp only [Exit.inBlock, Exit.then]); refine bodyPost_ret (by simp only [results, Tryz.results46]; go_simp; try rfl) rfl ?_)
        refine ⟨by rw [HR.out]; try rfl, ?_⟩
        (repeat' (first | (with_reducible exact Below.refl _ _) | (with_reducible assumption) | (with_reducible refine Below.alloc ?_ ?_ _) | (with_reducible refine Below.drew ?_) | (with_reducible refine Below.drewN' ?_ _) | (with_reducible refine Below.setCell ?_ ?_ _) | (refine Below.via ?_ (by assumption) ?_) | go_size))

      have HR : Hid (rParse _ = ((vS p, 0) : V × Int)) := Lib.hid (rp_good HC.out HX.out hXt)
      have hX1 : (X == t) = true := by simpa using hXt
      have hX2 : (X != t) = false := by simpa using hXt
      go_wp2
      ((try simp only [Exit.inBlock, Exit.then]); refine bodyPost_ret (by simp only [results, Tryz.results46]; go_simp; try rfl) rfl ?_)
      refine ⟨by rw [HR.out]; try rfl, ?_⟩
      (repeat' (first | (with_reducible exact Below.refl _ _) | (with_reducible assumption) | (with_reducible refine Below.alloc ?_ ?_ _) | (with_reducible refine Below.drew ?_) | (with_reducible refine Below.drewN' ?_ _) | (with_reducible refine Below.setCell ?_ ?_ _) | (refine Below.via ?_ (by assumption) ?_) | go_size))

theorem rparse_any (t : List UInt8) (w : World) (hE : Env w) (ht : t.length ≤ 4000000) :
    Calls Tryz.prog 46 #[.string ⟨t.toArray⟩] w fun e w' => e = .returned (.tuple #[.agg #[.int .i64 (rParse t).1.k, .int .i64 (rParse t).1.n, .string ⟨List.toArray (rParse t).1.t⟩], .int .i64 (rParse t).2]) ∧ Below w.heap.size w w' := by
  cases hn : (t == [110, 117, 108, 108]) with
  | true => exact rparse_null t w hE ht hn
  | false =>
    cases hb : (t == [116, 114, 117, 101] || t == [102, 97, 108, 115, 101]) with
    | true => exact rparse_bool t w hE ht hn hb
    | false =>
      obtain ⟨hb1, hb2⟩ := Bool.or_eq_false_iff.1 hb
      cases hq : (decide (2 ≤ t.length) && t[0]? == some 39) with
      | true =>
        simp only [Bool.and_eq_true, decide_eq_true_eq, beq_iff_eq] at hq
        exact rparse_quot t w hE ht hn hb1 hb2 hq.1 hq.2
      | false => exact rparse_num t w hE ht hn hb1 hb2 hq
end Go.Proofs.YtpmfpfkahanlaaaGreatDoor
