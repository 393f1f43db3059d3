/- The statement ValueTexts is proved: Text and Parse return what the chapter says, or the error, for any value and string; what is written is read so; for every input, under the row's own condition alone (the listed package-level variables hold what the program's text lays; the card ties them). -/
import Derived.Test.YtpmfpfkahanlaaaGreatDoorHW
import Derived.Test.YtpmfpfkahanlaaaGreatDoorHM
import Derived.Test.YtpmfpfkahanlaaaGreatDoorHY
import Derived.Test.YtpmfpfkahanlaaaGreatDoorHE
import Derived.Test.YtpmfpfkahanlaaaGreatDoorHR
namespace Go.Proofs.YtpmfpfkahanlaaaGreatDoor
open Go.RowKit
set_option linter.unusedSimpArgs false
set_option linter.unusedVariables false
attribute [local go_sem] Later.cell Later.lt veq_self
attribute [local go_sem high] run_eqV run_neV

theorem ktext {v : V} {X : List UInt8} {E : Int} (h : vText v = (X, E)) (w : World) (hE : Env w) :
    Calls Tryz.prog 43 #[(.agg #[.int .i64 (v).k, .int .i64 (v).n, .string ⟨List.toArray (v).t⟩])] w fun e w' => e = .returned (.tuple #[.string ⟨X.toArray⟩, .int .i64 E]) ∧ Below w.heap.size w w' := by
  have := text_any v w hE
  rw [h] at this
  exact this
theorem krtext {v : V} {X : List UInt8} {E : Int} (h : vText v = (X, E)) (w : World) (tv : v.t.length ≤ 140737488355328) :
    Calls Tryz.prog 44 #[(.agg #[.int .i64 (v).k, .int .i64 (v).n, .string ⟨List.toArray (v).t⟩])] w fun e w' => e = .returned (.tuple #[.string ⟨X.toArray⟩, .int .i64 E]) ∧ Below w.heap.size w w' := by
  have := rtext_any v w tv
  rw [h] at this
  exact this
theorem kparse {t : List UInt8} {r : V} {x : Int} (h : vParse t = (r, x)) (w : World) (hE : Env w) (ht : t.length ≤ 4000000) :
    Calls Tryz.prog 45 #[.string ⟨t.toArray⟩] w fun e w' => e = .returned (.tuple #[(.agg #[.int .i64 (r).k, .int .i64 (r).n, .string ⟨List.toArray (r).t⟩]), .int .i64 x]) ∧ Below w.heap.size w w' := by
  have := parse_any t w hE ht
  rw [h] at this
  exact this
theorem krparse {t : List UInt8} {r : V} {x : Int} (h : rParse t = (r, x)) (w : World) (hE : Env w) (ht : t.length ≤ 4000000) :
    Calls Tryz.prog 46 #[.string ⟨t.toArray⟩] w fun e w' => e = .returned (.tuple #[(.agg #[.int .i64 (r).k, .int .i64 (r).n, .string ⟨List.toArray (r).t⟩]), .int .i64 x]) ∧ Below w.heap.size w w' := by
  have := rparse_any t w hE ht
  rw [h] at this
  exact this
theorem text_short (v : V) (h : v.t.length ≤ 4000) : (vText v).1.length ≤ 4000000 := by
  cases hv : sValid v with
  | false =>
    have : vText v = ([], 2) := by unfold vText; rw [hv]; rfl
    rw [this]
    exact Nat.zero_le _
  | true =>
    have : vText v = (sWr v, 0) := by unfold vText; rw [hv]; rfl
    rw [this]
    rcases sv_cases hv with rfl | ⟨n, rfl, h1, h2⟩ | ⟨t, rfl, hs⟩ | ⟨b, rfl⟩
    · decide
    · rw [wr_i]
      have := Lib.itoa_length_le n (by omega) (by omega)
      show (Lib.itoa n).length ≤ _
      omega
    · rw [wr_s]
      have h3 := esc_length t
      have h4 : t.length ≤ 4000 := h
      simp only [List.length_cons, List.length_append, List.length_nil]
      omega
    · rw [wr_b]
      cases b <;> decide
set_option maxRecDepth 100000 in
set_option maxHeartbeats 16000000 in
theorem law_texts (v : V) (t : List UInt8) (w : World) (hE : Env w) (tv : v.t.length ≤ 140737488355328) (ts : t.length ≤ 140737488355328) :
    Calls Tryz.prog 7 #[(.agg #[.int .i64 (v).k, .int .i64 (v).n, .string ⟨List.toArray (v).t⟩]), .string ⟨t.toArray⟩] w fun e w' => e = .returned (.bool true) ∧ Below w.heap.size w w' := by
  have N0 := Lib.hid ((BW.start hE).push v (g := w.heap.size) rfl)
  clear hE
  go_enter Tryz.func7, Tryz.ntmps7
  by_cases hv1 : (4000 : Int) < (v.t.length : Int)
  case pos =>
    go_wp2_with fail
    refine (awake_any _ N0.out.env).mono ?_; rintro e w1 ⟨rfl, hb1⟩
    have N1 := Lib.hid (N0.out.later hb1)
    clear hb1 N0
    obtain ⟨⟨f0a, f0b, f0c⟩, f0z⟩ := N1.out.at_ (List.Mem.head _)
    go_wp2_with fail
    go_ret
    exact ⟨rfl, N1.out.b⟩
  by_cases ht1 : (4000 : Int) < (t.length : Int)
  case pos =>
    go_wp2_with fail
    refine (awake_any _ N0.out.env).mono ?_; rintro e w2 ⟨rfl, hb2⟩
    have N2 := Lib.hid (N0.out.later hb2)
    clear hb2 N0
    obtain ⟨⟨f0a, f0b, f0c⟩, f0z⟩ := N2.out.at_ (List.Mem.head _)
    go_wp2_with fail
    go_ret
    exact ⟨rfl, N2.out.b⟩
  have hv2 : v.t.length ≤ 4000 := by omega
  have ht2 : t.length ≤ 4000000 := by omega
  have hv3 : (v.t.length : Int) ≤ 4000 := by omega
  have ht3 : (t.length : Int) ≤ 4000 := by omega
  clear hv1 ht1
  obtain ⟨X, E, h1⟩ : ∃ x e, vText v = (x, e) := ⟨_, _, rfl⟩
  obtain ⟨a, g, h2⟩ : ∃ x e, vParse t = (x, e) := ⟨_, _, rfl⟩
  have hX := text_short v hv2
  rw [h1] at hX
  have hP : E = 0 → vParse X = (v, 0) := fun e => by
    have := text_parse (v := v) (by rw [h1]; exact e)
    rw [h1] at this
    exact this
  have HX := Lib.hid hX
  have HP := Lib.hid hP
  have H1 := Lib.hid h1
  have H2 := Lib.hid h2
  rw [parse_eq] at h2
  have H3 := Lib.hid h2
  clear h1 h2 hX hP
  go_wp2_with fail
  refine (ktext H1.out _ N0.out.env).mono ?_; rintro e w3 ⟨rfl, hb3⟩
  have N3 := Lib.hid (N0.out.later hb3)
  clear hb3 N0
  obtain ⟨⟨f0a, f0b, f0c⟩, f0z⟩ := N3.out.at_ (List.Mem.head _)
  go_wp2_with fail
  refine (krtext H1.out _ tv).mono ?_; rintro e w4 ⟨rfl, hb4⟩
  have N4 := Lib.hid (N3.out.later hb4)
  clear f0a f0b f0c f0z
  clear hb4 N3
  obtain ⟨⟨f0a, f0b, f0c⟩, f0z⟩ := N4.out.at_ (List.Mem.head _)
  go_wp2_with fail
  refine (kparse H2.out _ N4.out.env ht2).mono ?_; rintro e w5 ⟨rfl, hb5⟩
  have N5 := Lib.hid (N4.out.later hb5)
  clear f0a f0b f0c f0z
  clear hb5 N4
  obtain ⟨⟨f0a, f0b, f0c⟩, f0z⟩ := N5.out.at_ (List.Mem.head _)
  go_wp2_with fail
  refine (krparse H3.out _ (N5.out.push a (by first | rfl | simp)).env ht2).mono ?_; rintro e w6 ⟨rfl, hb6⟩
  have N6 := Lib.hid ((N5.out.push a (by first | rfl | simp)).later hb6)
  clear f0a f0b f0c f0z
  clear hb6 N5
  obtain ⟨⟨f0a, f0b, f0c⟩, f0z⟩ := N6.out.at_ (List.Mem.head _)
  obtain ⟨⟨f1a, f1b, f1c⟩, f1z⟩ := N6.out.at_ (List.Mem.tail _ (List.Mem.head _))
  by_cases hE0 : E = 0
  case neg =>
    have hE1 : (E == 0) = false := by simpa using hE0
    go_wp2_with fail
    refine (awake_any _ (N6.out.push a (by first | rfl | simp)).env).mono ?_; rintro e w7 ⟨rfl, hb7⟩
    have N7 := Lib.hid ((N6.out.push a (by first | rfl | simp)).later hb7)
    clear f0a f0b f0c f0z f1a f1b f1c f1z
    clear hb7 N6
    obtain ⟨⟨f0a, f0b, f0c⟩, f0z⟩ := N7.out.at_ (List.Mem.head _)
    obtain ⟨⟨f1a, f1b, f1c⟩, f1z⟩ := N7.out.at_ (List.Mem.tail _ (List.Mem.head _))
    obtain ⟨⟨f2a, f2b, f2c⟩, f2z⟩ := N7.out.at_ (List.Mem.tail _ (List.Mem.tail _ (List.Mem.head _)))
    go_wp2_with fail
    go_ret
    exact ⟨rfl, N7.out.b⟩
  subst hE0
  go_wp2_with fail
  refine (kparse (HP.out (by trivial)) _ (N6.out.push a (by first | rfl | simp)).env HX.out).mono ?_; rintro e w8 ⟨rfl, hb8⟩
  have N8 := Lib.hid ((N6.out.push a (by first | rfl | simp)).later hb8)
  clear f0a f0b f0c f0z f1a f1b f1c f1z
  clear hb8 N6
  obtain ⟨⟨f0a, f0b, f0c⟩, f0z⟩ := N8.out.at_ (List.Mem.head _)
  obtain ⟨⟨f1a, f1b, f1c⟩, f1z⟩ := N8.out.at_ (List.Mem.tail _ (List.Mem.head _))
  obtain ⟨⟨f2a, f2b, f2c⟩, f2z⟩ := N8.out.at_ (List.Mem.tail _ (List.Mem.tail _ (List.Mem.head _)))
  go_wp2_with fail
  refine (awake_any _ (N8.out.push v (by first | rfl | simp)).env).mono ?_; rintro e w9 ⟨rfl, hb9⟩
  have N9 := Lib.hid ((N8.out.push v (by first | rfl | simp)).later hb9)
  clear f0a f0b f0c f0z f1a f1b f1c f1z f2a f2b f2c f2z
  clear hb9 N8
  obtain ⟨⟨f0a, f0b, f0c⟩, f0z⟩ := N9.out.at_ (List.Mem.head _)
  obtain ⟨⟨f1a, f1b, f1c⟩, f1z⟩ := N9.out.at_ (List.Mem.tail _ (List.Mem.head _))
  obtain ⟨⟨f2a, f2b, f2c⟩, f2z⟩ := N9.out.at_ (List.Mem.tail _ (List.Mem.tail _ (List.Mem.head _)))
  obtain ⟨⟨f3a, f3b, f3c⟩, f3z⟩ := N9.out.at_ (List.Mem.tail _ (List.Mem.tail _ (List.Mem.tail _ (List.Mem.head _))))
  go_wp2_with fail
  go_ret
  exact ⟨rfl, N9.out.b⟩
end Go.Proofs.YtpmfpfkahanlaaaGreatDoor

/- The statement ValueTexts is proved: Text and Parse return what the chapter says, or the error, for any value and string; what is written is read so; for every input, under the row's own condition alone (the listed package-level variables hold what the program's text lays; the card ties them). -/
namespace Go.Proofs.YtpmfpfkahanlaaaGreatDoor
open Go.ChangeShapes Go.Joins Go.Deep Go.WideShapes Go.ChangeAt Go.RowKit
open Go.ChangeMaps (open_string shut_string)
set_option linter.unusedVariables false

set_option maxRecDepth 100000 in
set_option maxHeartbeats 4000000 in
theorem valueTexts_lifted (os : Os) (started : os.Started) (H : Type) (enc : TypeId × Value → H) :
    ReturnsInHanded {} Tryz.checked os 7 .any (fun w args => (Rows.valueTextsSpec.pre enc Tryz.prog Tryz.f7 [] false w args ∧ laidMetH Tryz.prog laid w) ∧ sizedMet enc Tryz.prog Tryz.f7 (OpenSpec.ofChange Rows.valueTextsSpec) false w args)
      (Rows.valueTextsSpec.post enc Tryz.prog Tryz.f7 false true false false) := by
  refine returns_listed (C := Tryz.checked) (X := fun w _ => laidMetH Tryz.prog laid w) (fun _ _ _ hh h => h.of_heap hh) own started (by kernel_rfl) Tryz.func7
    (ChangeSpec.witness_shaped (enc := enc) (C := Tryz.checked) (os := os) (X := fun w _ => laidMetH Tryz.prog laid w) false (World.laidAll Tryz.prog os laid) #[.agg #[.int .i64 0, .int .i64 0, .string ByteArray.empty], .string ByteArray.empty] 8 (World.laidAll_os _ _ _)
      (World.shaped_of_ZipB (by kernel_rfl) (by kernel_rfl)) (by kernel_rfl) (by kernel_rfl) (by kernel_rfl)
      (by rw [MakeChecks.laidMetH_plain _ _ _ (by kernel_rfl)]; exact laidMet_laidAll _ (by kernel_rfl) (by kernel_rfl))) ?_
  intro W base args ds gs before hval0 hW hcnd hsz0 hL hsh _
  have hsz : (DataW.weightsEach Tryz.prog (Tryz.f7.params.toList ++ Rows.valueTextsSpec.plain.varTypes Tryz.prog) (ds ++ gs)).all (· ≤ reachBytes) = true := hsz0
  have hval : ∀ (j : Nat) t v, Tryz.f7.params[j]? = some t → args[j]? = some v → Value.okWide Tryz.prog W .any base t v := hval0
  have hW' := hW
  obtain ⟨p, q, hA0, hV, rfl, hfz, hnd⟩ := hW
  have hA : DataW.TrodAll enc Tryz.prog W 0 (fun _ => true) true Tryz.f7.params.toList args.toList ds p := hA0
  rw [Tryz.params7] at hA hval hsz
  obtain ⟨v0, vs0, d0, ds0, p0, q0, hargs, rfl, rfl, h0, r0⟩ := trodAll_cons hA
  obtain ⟨v1, vs1, d1, ds1, p1, q1, rfl, rfl, rfl, h1, r1⟩ := trodAll_cons r0
  obtain ⟨rfl, rfl, rfl⟩ := trodAll_nil r1
  obtain rfl : args = #[v0, v1] := by cases args; simp_all
  obtain ⟨rfl, rfl⟩ := trodVars_none hV
  have hEnv := env_of_laid hL hsh
  have k0 := h0
  have lt0 : ∀ x ∈ p0, x.block < W.heap.size := by obtain ⟨m, hm⟩ := k0; exact DataW.trod_lt m _ _ _ hm
  obtain ⟨x0, rfl, e0, _⟩ := open_value (hval 0 27 v0 rfl rfl) h0
  have T0 : x0.t.length ≤ 140737488351232 := sized_v hsz (j := 0) (x := x0) rfl (by rw [← e0]; rfl)
  have k1 := h1
  have lt1 : ∀ x ∈ p1, x.block < W.heap.size := by obtain ⟨m, hm⟩ := k1; exact DataW.trod_lt m _ _ _ hm
  obtain ⟨a1, rfl, e1, _, _⟩ := open_string Tryz.underlying9 (hval 1 9 v1 rfl rfl) h1
  have T1 : a1.data.toList.length ≤ 140737488351232 := sized_string hsz (j := 1) (t := 9) rfl (by rw [← e1]; rfl)
  obtain ⟨t1, rfl⟩ : ∃ t : List UInt8, a1 = ⟨t.toArray⟩ := ⟨a1.data.toList, by simp⟩
  rw [List.toList_toArray] at T1
  clear hA0 hval0 hsz0 hsz
  refine (law_texts x0 t1 W hEnv (Nat.le_trans T0 (by decide)) (Nat.le_trans T1 (by decide))).mono fun e W' ⟨he, bel⟩ => ?_
  subst he
  exact ⟨_, rfl, _, _, _, [], _, [], hW', trodAll_mk1 (shut_bool Tryz.underlying4 _), (trodAll_cons_mk (Below.trod laidOut (by kernel_rfl) (of_decide_eq_true (by kernel_rfl)) k0 bel lt0) (trodAll_cons_mk (Below.trod laidOut (by kernel_rfl) (of_decide_eq_true (by kernel_rfl)) k1 bel lt1) trodAll_mk0)), rfl, bel.frame _, fun h => by cases h⟩
theorem valueTexts_row : Rows.ValueTextsSaid :=
  OpenClaim.holds_of_wide 7 Tryz.f7 rfl rfl rfl rfl rfl rfl rfl ⟨rfl, rfl, rfl, rfl, rfl⟩ rfl rfl rfl rfl rfl (by kernel_rfl) Tryz.func7 (by kernel_rfl)
    (of_decide_eq_true (by kernel_rfl)) (by unfold Func.isWrapper; first | (rw [if_pos (by decide +kernel)]; kernel_rfl) | (rw [if_neg (by decide +kernel)]; exact ⟨rfl, rfl⟩))
    (fun os started H enc _ => valueTexts_lifted os started H enc)
theorem valueTexts_card : Rows.ValueTextsCardSaid :=
  Claim7.holds_tied_plain_at .later [] [.data, .data, .data, .data, .sentinel, .sentinel, .listed, .data, .data, .pinned, .pinned] true (true, "2df1776b52db89be618cb2cc9767f232203ddef2cbc80537f057adf05aab1a8a") true
    valueTexts_row (fun _ h => by cases h) (by kernel_rfl) (fun _ h => by cases h) valueTexts_row_tie rfl ⟨rfl, rfl⟩ (by kernel_rfl) rfl
    (fun f fn hf hfn => by
      obtain rfl : f = 7 := Option.some.inj ((show Tryz.prog.funcNamed "justiciar/justiciarlaw01.ValueTexts" = some 7 by kernel_rfl).symm.trans hf) |>.symm
      obtain rfl : fn = Tryz.f7 := (Option.some.inj (Tryz.func7.symm.trans hfn)).symm
      exact ⟨by kernel_rfl, fun j t ht => by
        rw [Tryz.params7] at ht
        have hm : t ∈ [27, 9] := by simpa using Array.mem_of_getElem? ht
        have hall : ([27, 9].all fun u => !Tryz.prog.wantsStandIn u) = true := by kernel_rfl
        exact (show Tryz.prog.wantsStandIn t = false by simpa using List.all_eq_true.1 hall t hm)⟩)
    (by kernel_rfl)
#print axioms valueTexts_card
end Go.Proofs.YtpmfpfkahanlaaaGreatDoor
