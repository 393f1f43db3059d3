/- The statement ValueLike is proved: the laws of like; for every input, under the row's own condition alone (the listed package-level variables hold what the program's text lays; the card ties them). -/
import Derived.Test.YtpmfpfkahanlaaaGreatDoorHW
import Derived.Test.YtpmfpfkahanlaaaGreatDoorHR
namespace Go.Proofs.YtpmfpfkahanlaaaGreatDoor
open Go.RowKit
set_option linter.unusedSimpArgs false
set_option linter.unusedVariables false
attribute [local go_sem] Later.cell Later.lt
attribute [local go_sem high] run_eqV run_neV
attribute [local go_sem] cat_bytes

theorem plain_step {s : List UInt8} {j : Nat} (h : j < s.length) (ha : plainS (s.take j) = true) (h1 : s[j] ≠ 37) (h2 : s[j] ≠ 95) : plainS (s.take (j + 1)) = true := by
  unfold plainS at ha ⊢
  rw [List.take_succ_eq_append_getElem h, List.all_append, ha]
  simp [h1, h2]
set_option maxRecDepth 100000 in
set_option maxHeartbeats 8000000 in
theorem law_like (s t : List UInt8) (w : World) (hE : Env w) (hs : s.length ≤ 140737488355328) (ht : t.length ≤ 140737488355328) :
    Calls Tryz.prog 12 #[.string ⟨s.toArray⟩, .string ⟨t.toArray⟩] w fun e w' => e = .returned (.bool true) ∧ Below w.heap.size w w' := by
  have HE := Lib.hid hE
  clear hE
  by_cases hl : s.length + t.length ≤ 1000
  · have hl1 : (s.length : Int) + (t.length : Int) ≤ 1000 := by omega
    have hl2 : (s ++ t).length ≤ 140737488355328 := by rw [List.length_append]; omega
    have C0 := Lib.hid fun W => rIsString_any (s ++ t) W hl2
    clear hl2
    cases hv : sIsStr (s ++ t) with
    | false =>
      rw [hv] at C0
      clear hv
      go_enter Tryz.func12, Tryz.ntmps12
      go_wp2_with fail
      refine (C0.out _).mono ?_; rintro e w' ⟨rfl, rfl⟩
      go_wp2_with fail
      refine (awake_any _ HE.out).mono ?_; rintro e w1 ⟨rfl, hb1⟩
      have G1 := Lib.hid hb1
      clear hb1
      go_wp2_with fail
      go_ret
      exact ⟨rfl, G1.out⟩
    | true =>
      rw [hv] at C0
      have HV := Lib.hid hv
      have C1 := Lib.hid (kbin (lk_all hv))
      clear hv
      go_enter Tryz.func12, Tryz.ntmps12
      go_wp2_with fail
      refine (C0.out _).mono ?_; rintro e w' ⟨rfl, rfl⟩
      go_wp2_with fail
      refine (kstr s _).mono ?_; rintro e w1 ⟨rfl, hb1⟩
      have G1 := Lib.hid hb1
      clear hb1
      go_wp2_with fail
      refine (kstr [37] _).mono ?_; rintro e w2 ⟨rfl, hb2⟩
      have G2 := Lib.hid (G1.out.trans (hb2.mono G1.out.size))
      clear hb2 G1
      go_wp2_with fail
      refine (C1.out _ (HE.out.later G2.out)).mono ?_; rintro e w3 ⟨rfl, hb3⟩
      have G3 := Lib.hid (G2.out.trans (hb3.mono G2.out.size))
      clear hb3 G2
      go_wp2_with fail
      refine (aw23 _ (HE.out.later (by have := G3.out; have h2 := this.size; (repeat' (first | (with_reducible exact Below.refl _ _) | (with_reducible assumption) | (with_reducible refine Below.alloc ?_ ?_ _) | (with_reducible refine Below.drew ?_) | (with_reducible refine Below.drewN' ?_ _) | (with_reducible refine Below.setCell ?_ ?_ _) | (refine Below.via ?_ (by assumption) ?_) | go_size))))).mono ?_; rintro e w4 ⟨rfl, hb4⟩
      have G4 := Lib.hid (show Below w.heap.size w w4 by have := G3.out; have h2 := this.size; (repeat' (first | (with_reducible exact Below.refl _ _) | (with_reducible assumption) | (with_reducible refine Below.alloc ?_ ?_ _) | (with_reducible refine Below.drew ?_) | (with_reducible refine Below.drewN' ?_ _) | (with_reducible refine Below.setCell ?_ ?_ _) | (refine Below.via ?_ (by assumption) ?_) | go_size)))
      clear hb4 G3
      go_wp2
      go_loopw [7] (fun i wr => ∃ j : Nat, j ≤ s.length ∧ i = .int .i64 j ∧ Hid (plainS (s.take j) = true) ∧ Hid (Below w.heap.size w wr)) (fun i wr => s.length - (intOf i).toNat)
      case atStart => exact ⟨0, Nat.zero_le _, rfl, (show Hid _ from rfl), G4⟩
      case round =>
        obtain ⟨j, hj, rfl, HP, HB⟩ := hrel
        clear G4
        by_cases hlt : j < s.length
        · have hgj : ({ data := s.toArray } : ByteArray)[j]'(show j < s.length from hlt) = s[j] := rfl
          by_cases h1 : s[j] = 37
          · rw [h1] at hgj
            clear h1
            go_wp2_with fail
            refine (awake_any _ (HE.out.later HB.out)).mono ?_; rintro e w5 ⟨rfl, hb5⟩
            have G5 := Lib.hid (HB.out.trans (hb5.mono HB.out.size))
            clear hb5 HB
            go_wp2_with fail
            go_ret
            exact ⟨rfl, G5.out⟩
          · by_cases h2 : s[j] = 95
            · rw [h2] at hgj
              clear h1 h2
              go_wp2_with fail
              refine (awake_any _ (HE.out.later HB.out)).mono ?_; rintro e w5 ⟨rfl, hb5⟩
              have G5 := Lib.hid (HB.out.trans (hb5.mono HB.out.size))
              clear hb5 HB
              go_wp2_with fail
              go_ret
              exact ⟨rfl, G5.out⟩
            · have HN := Lib.hid (plain_step hlt HP.out h1 h2)
              have n1 : ¬ (s[j].toNat : Int) = 37 := fun e => h1 (UInt8.toNat_inj.1 (show s[j].toNat = 37 by omega))
              have n2 : ¬ (s[j].toNat : Int) = 95 := fun e => h2 (UInt8.toNat_inj.1 (show s[j].toNat = 95 by omega))
              have n3 : ((s[j].toNat : Int) == 37) = false := beq_eq_false_iff_ne.2 n1
              have n4 : ((s[j].toNat : Int) == 95) = false := beq_eq_false_iff_ne.2 n2
              generalize s[j] = ch at hgj n1 n2 n3 n4
              clear h1 h2
              go_wp2_with fail
              go_roundw
              case rel => exact ⟨j + 1, by omega, by go_num, HN, HB⟩
              case measure => simp [intOf]; omega
        · obtain rfl : j = s.length := by omega
          have hp := HP.out
          rw [List.take_length] at hp
          have C2 := Lib.hid (kbin (lk_self HV.out hp))
          have HPS := Lib.hid hp
          clear hp
          go_wp2_with fail
          refine (kstr s _).mono ?_; rintro e w5 ⟨rfl, hb5⟩
          have G5 := Lib.hid (HB.out.trans (hb5.mono HB.out.size))
          clear hb5 HB
          go_wp2_with fail
          refine (kstr s _).mono ?_; rintro e w6 ⟨rfl, hb6⟩
          have G6 := Lib.hid (G5.out.trans (hb6.mono G5.out.size))
          clear hb6 G5
          go_wp2_with fail
          refine (C2.out _ (HE.out.later G6.out)).mono ?_; rintro e w7 ⟨rfl, hb7⟩
          have G7 := Lib.hid (G6.out.trans (hb7.mono G6.out.size))
          clear hb7 G6
          go_wp2_with fail
          refine (aw23 _ (HE.out.later (by have := G7.out; have h2 := this.size; (repeat' (first | (with_reducible exact Below.refl _ _) | (with_reducible assumption) | (with_reducible refine Below.alloc ?_ ?_ _) | (with_reducible refine Below.drew ?_) | (with_reducible refine Below.drewN' ?_ _) | (with_reducible refine Below.setCell ?_ ?_ _) | (refine Below.via ?_ (by assumption) ?_) | go_size))))).mono ?_; rintro e w8 ⟨rfl, hb8⟩
          have G8 := Lib.hid (show Below w.heap.size w w8 by have := G7.out; have h2 := this.size; (repeat' (first | (with_reducible exact Below.refl _ _) | (with_reducible assumption) | (with_reducible refine Below.alloc ?_ ?_ _) | (with_reducible refine Below.drew ?_) | (with_reducible refine Below.drewN' ?_ _) | (with_reducible refine Below.setCell ?_ ?_ _) | (refine Below.via ?_ (by assumption) ?_) | go_size)))
          clear hb8 G7
          by_cases h200 : s.length + 1 ≤ 200
          · have h201 : (s.length : Int) + 1 ≤ 200 := by omega
            have C3 := Lib.hid (kbin (lk_more HV.out HPS.out h200))
            go_wp2_with fail
            refine (kstr (s ++ t) _).mono ?_; rintro e w9 ⟨rfl, hb9⟩
            have G9 := Lib.hid (G8.out.trans (hb9.mono G8.out.size))
            clear hb9 G8
            go_wp2_with fail
            refine (kstr (s ++ [37]) _).mono ?_; rintro e wa ⟨rfl, hba⟩
            have GA := Lib.hid (G9.out.trans (hba.mono G9.out.size))
            clear hba G9
            go_wp2_with fail
            refine (C3.out _ (HE.out.later GA.out)).mono ?_; rintro e wb ⟨rfl, hbb⟩
            have GB := Lib.hid (GA.out.trans (hbb.mono GA.out.size))
            clear hbb GA
            go_wp2_with fail
            refine (aw23 _ (HE.out.later (by have := GB.out; have h2 := this.size; (repeat' (first | (with_reducible exact Below.refl _ _) | (with_reducible assumption) | (with_reducible refine Below.alloc ?_ ?_ _) | (with_reducible refine Below.drew ?_) | (with_reducible refine Below.drewN' ?_ _) | (with_reducible refine Below.setCell ?_ ?_ _) | (refine Below.via ?_ (by assumption) ?_) | go_size))))).mono ?_; rintro e wc ⟨rfl, hbc⟩
            have GC := Lib.hid (show Below w.heap.size w wc by have := GB.out; have h2 := this.size; (repeat' (first | (with_reducible exact Below.refl _ _) | (with_reducible assumption) | (with_reducible refine Below.alloc ?_ ?_ _) | (with_reducible refine Below.drew ?_) | (with_reducible refine Below.drewN' ?_ _) | (with_reducible refine Below.setCell ?_ ?_ _) | (refine Below.via ?_ (by assumption) ?_) | go_size)))
            clear hbc GB
            go_wp2_with fail
            refine (awake_any _ (HE.out.later GC.out)).mono ?_; rintro e wd ⟨rfl, hbd⟩
            have GD := Lib.hid (GC.out.trans (hbd.mono GC.out.size))
            clear hbd GC
            go_wp2_with fail
            go_ret
            exact ⟨rfl, GD.out⟩
          · have h201 : ¬ (s.length : Int) + 1 ≤ 200 := by omega
            go_wp2_with fail
            refine (awake_any _ (HE.out.later G8.out)).mono ?_; rintro e wd ⟨rfl, hbd⟩
            have GD := Lib.hid (G8.out.trans (hbd.mono G8.out.size))
            clear hbd G8
            go_wp2_with fail
            go_ret
            exact ⟨rfl, GD.out⟩
  · have hl1 : ¬ (s.length : Int) + (t.length : Int) ≤ 1000 := by omega
    go_enter Tryz.func12, Tryz.ntmps12
    go_wp2_with fail
    refine (awake_any _ HE.out).mono ?_; rintro e w1 ⟨rfl, hb1⟩
    have G1 := Lib.hid hb1
    clear hb1
    go_wp2_with fail
    go_ret
    exact ⟨rfl, G1.out⟩
end Go.Proofs.YtpmfpfkahanlaaaGreatDoor

/- The statement ValueLike is proved: the laws of like; for every input, under the row's own condition alone (the listed package-level variables hold what the program's text lays; the card ties them). -/
namespace Go.Proofs.YtpmfpfkahanlaaaGreatDoor
open Go.ChangeShapes Go.Joins Go.Deep Go.WideShapes Go.ChangeAt Go.RowKit
open Go.ChangeMaps (open_string shut_string)
set_option linter.unusedVariables false

set_option maxRecDepth 100000 in
set_option maxHeartbeats 4000000 in
theorem valueLike_lifted (os : Os) (started : os.Started) (H : Type) (enc : TypeId × Value → H) :
    ReturnsInHanded {} Tryz.checked os 12 .any (fun w args => (Rows.valueLikeSpec.pre enc Tryz.prog Tryz.f12 [] false w args ∧ laidMetH Tryz.prog laid w) ∧ sizedMet enc Tryz.prog Tryz.f12 (OpenSpec.ofChange Rows.valueLikeSpec) false w args)
      (Rows.valueLikeSpec.post enc Tryz.prog Tryz.f12 false true false false) := by
  refine returns_listed (C := Tryz.checked) (X := fun w _ => laidMetH Tryz.prog laid w) (fun _ _ _ hh h => h.of_heap hh) own started (by kernel_rfl) Tryz.func12
    (ChangeSpec.witness_shaped (enc := enc) (C := Tryz.checked) (os := os) (X := fun w _ => laidMetH Tryz.prog laid w) false (World.laidAll Tryz.prog os laid) #[.string ByteArray.empty, .string ByteArray.empty] 8 (World.laidAll_os _ _ _)
      (World.shaped_of_ZipB (by kernel_rfl) (by kernel_rfl)) (by kernel_rfl) (by kernel_rfl) (by kernel_rfl)
      (by rw [MakeChecks.laidMetH_plain _ _ _ (by kernel_rfl)]; exact laidMet_laidAll _ (by kernel_rfl) (by kernel_rfl))) ?_
  intro W base args ds gs before hval0 hW hcnd hsz0 hL hsh _
  have hsz : (DataW.weightsEach Tryz.prog (Tryz.f12.params.toList ++ Rows.valueLikeSpec.plain.varTypes Tryz.prog) (ds ++ gs)).all (· ≤ reachBytes) = true := hsz0
  have hval : ∀ (j : Nat) t v, Tryz.f12.params[j]? = some t → args[j]? = some v → Value.okWide Tryz.prog W .any base t v := hval0
  have hW' := hW
  obtain ⟨p, q, hA0, hV, rfl, hfz, hnd⟩ := hW
  have hA : DataW.TrodAll enc Tryz.prog W 0 (fun _ => true) true Tryz.f12.params.toList args.toList ds p := hA0
  rw [Tryz.params12] at hA hval hsz
  obtain ⟨v0, vs0, d0, ds0, p0, q0, hargs, rfl, rfl, h0, r0⟩ := trodAll_cons hA
  obtain ⟨v1, vs1, d1, ds1, p1, q1, rfl, rfl, rfl, h1, r1⟩ := trodAll_cons r0
  obtain ⟨rfl, rfl, rfl⟩ := trodAll_nil r1
  obtain rfl : args = #[v0, v1] := by cases args; simp_all
  obtain ⟨rfl, rfl⟩ := trodVars_none hV
  have hEnv := env_of_laid hL hsh
  have k0 := h0
  have lt0 : ∀ x ∈ p0, x.block < W.heap.size := by obtain ⟨m, hm⟩ := k0; exact DataW.trod_lt m _ _ _ hm
  obtain ⟨a0, rfl, e0, _, _⟩ := open_string Tryz.underlying9 (hval 0 9 v0 rfl rfl) h0
  have T0 : a0.data.toList.length ≤ 140737488351232 := sized_string hsz (j := 0) (t := 9) rfl (by rw [← e0]; rfl)
  obtain ⟨t0, rfl⟩ : ∃ t : List UInt8, a0 = ⟨t.toArray⟩ := ⟨a0.data.toList, by simp⟩
  rw [List.toList_toArray] at T0
  have k1 := h1
  have lt1 : ∀ x ∈ p1, x.block < W.heap.size := by obtain ⟨m, hm⟩ := k1; exact DataW.trod_lt m _ _ _ hm
  obtain ⟨a1, rfl, e1, _, _⟩ := open_string Tryz.underlying9 (hval 1 9 v1 rfl rfl) h1
  have T1 : a1.data.toList.length ≤ 140737488351232 := sized_string hsz (j := 1) (t := 9) rfl (by rw [← e1]; rfl)
  obtain ⟨t1, rfl⟩ : ∃ t : List UInt8, a1 = ⟨t.toArray⟩ := ⟨a1.data.toList, by simp⟩
  rw [List.toList_toArray] at T1
  clear hA0 hval0 hsz0 hsz
  refine (law_like t0 t1 W hEnv (Nat.le_trans T0 (by decide)) (Nat.le_trans T1 (by decide))).mono fun e W' ⟨he, bel⟩ => ?_
  subst he
  exact ⟨_, rfl, _, _, _, [], _, [], hW', trodAll_mk1 (shut_bool Tryz.underlying4 _), (trodAll_cons_mk (Below.trod laidOut (by kernel_rfl) (of_decide_eq_true (by kernel_rfl)) k0 bel lt0) (trodAll_cons_mk (Below.trod laidOut (by kernel_rfl) (of_decide_eq_true (by kernel_rfl)) k1 bel lt1) trodAll_mk0)), rfl, bel.frame _, fun h => by cases h⟩
theorem valueLike_row : Rows.ValueLikeSaid :=
  OpenClaim.holds_of_wide 12 Tryz.f12 rfl rfl rfl rfl rfl rfl rfl ⟨rfl, rfl, rfl, rfl, rfl⟩ rfl rfl rfl rfl rfl (by kernel_rfl) Tryz.func12 (by kernel_rfl)
    (of_decide_eq_true (by kernel_rfl)) (by unfold Func.isWrapper; first | (rw [if_pos (by decide +kernel)]; kernel_rfl) | (rw [if_neg (by decide +kernel)]; exact ⟨rfl, rfl⟩))
    (fun os started H enc _ => valueLike_lifted os started H enc)
theorem valueLike_card : Rows.ValueLikeCardSaid :=
  Claim7.holds_tied_plain_at .later [] [.data, .data, .data, .data, .sentinel, .sentinel, .listed, .data, .data, .pinned, .pinned] true (true, "2df1776b52db89be618cb2cc9767f232203ddef2cbc80537f057adf05aab1a8a") true
    valueLike_row (fun _ h => by cases h) (by kernel_rfl) (fun _ h => by cases h) valueLike_row_tie rfl ⟨rfl, rfl⟩ (by kernel_rfl) rfl
    (fun f fn hf hfn => by
      obtain rfl : f = 12 := Option.some.inj ((show Tryz.prog.funcNamed "justiciar/justiciarlaw01.ValueLike" = some 12 by kernel_rfl).symm.trans hf) |>.symm
      obtain rfl : fn = Tryz.f12 := (Option.some.inj (Tryz.func12.symm.trans hfn)).symm
      exact ⟨by kernel_rfl, fun j t ht => by
        rw [Tryz.params12] at ht
        have hm : t ∈ [9, 9] := by simpa using Array.mem_of_getElem? ht
        have hall : ([9, 9].all fun u => !Tryz.prog.wantsStandIn u) = true := by kernel_rfl
        exact (show Tryz.prog.wantsStandIn t = false by simpa using List.all_eq_true.1 hall t hm)⟩)
    (by kernel_rfl)
#print axioms valueLike_card
end Go.Proofs.YtpmfpfkahanlaaaGreatDoor
