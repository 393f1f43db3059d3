/- The statement ValueCalls is proved: Call and Aggregate return what the chapter says, or the error, for any name and values; for every input, under the row's own condition alone (the listed package-level variables hold what the program's text lays; the card ties them). -/
import Derived.Test.YtpmfpfkahanlaaaGreatDoorHW
import Derived.Test.YtpmfpfkahanlaaaGreatDoorHM
import Derived.Test.YtpmfpfkahanlaaaGreatDoorHY
import Derived.Test.YtpmfpfkahanlaaaGreatDoorHG
import Derived.Test.YtpmfpfkahanlaaaGreatDoorHF
import Derived.Test.YtpmfpfkahanlaaaGreatDoorHE
import Derived.Test.YtpmfpfkahanlaaaGreatDoorHB
import Derived.Test.YtpmfpfkahanlaaaGreatDoorHR
namespace Go.Proofs.YtpmfpfkahanlaaaGreatDoor
open Go.RowKit
set_option linter.unusedSimpArgs false
set_option linter.unusedVariables false
attribute [local go_sem] Later.cell Later.lt veq_self
attribute [local go_sem high] run_eqV run_neV

theorem kcall {op : List UInt8} {A : Option Addr} {n c : Nat} {l : List V} {r : V} {x : Int} (h : vCall op l = (r, x)) (w : World) (hE : Env w) (hS : Sl w A n l) :
    Calls Tryz.prog 35 #[.string ⟨op.toArray⟩, .slice A n c] w fun e w' => e = .returned (.tuple #[(.agg #[.int .i64 (r).k, .int .i64 (r).n, .string ⟨List.toArray (r).t⟩]), .int .i64 x]) ∧ Below w.heap.size w w' := by
  have := call_any op A n c l w hE hS
  rw [h] at this
  exact this
theorem krcall {op : List UInt8} {A : Option Addr} {n c : Nat} {l : List V} {r : V} {x : Int} (h : rCall op l = (r, x)) (w : World) (hE : Env w) (hS : Sl w A n l) (tl : ∀ v ∈ l, v.t.length ≤ 140737488355328) :
    Calls Tryz.prog 36 #[.string ⟨op.toArray⟩, .slice A n c] w fun e w' => e = .returned (.tuple #[(.agg #[.int .i64 (r).k, .int .i64 (r).n, .string ⟨List.toArray (r).t⟩]), .int .i64 x]) ∧ Below w.heap.size w w' := by
  have := rcall_any op A n c l w hE hS tl
  rw [h] at this
  exact this
theorem kagg {op : List UInt8} {A : Option Addr} {n c : Nat} {l : List V} {r : V} {x : Int} (h : vAgg op l = (r, x)) (w : World) (hE : Env w) (hS : Sl w A n l) :
    Calls Tryz.prog 37 #[.string ⟨op.toArray⟩, .slice A n c] w fun e w' => e = .returned (.tuple #[(.agg #[.int .i64 (r).k, .int .i64 (r).n, .string ⟨List.toArray (r).t⟩]), .int .i64 x]) ∧ Below w.heap.size w w' := by
  have := agg_any op A n c l w hE hS
  rw [h] at this
  exact this
theorem kragg {op : List UInt8} {A : Option Addr} {n c : Nat} {l : List V} {r : V} {x : Int} (h : rAgg op l = (r, x)) (w : World) (hE : Env w) (hS : Sl w A n l) (tl : ∀ v ∈ l, v.t.length ≤ 140737488355328) (hb : l.all sValid = true → n ≤ 1000) :
    Calls Tryz.prog 38 #[.string ⟨op.toArray⟩, .slice A n c] w fun e w' => e = .returned (.tuple #[(.agg #[.int .i64 (r).k, .int .i64 (r).n, .string ⟨List.toArray (r).t⟩]), .int .i64 x]) ∧ Below w.heap.size w w' := by
  have := ragg_any op A n c l w hE hS tl hb
  rw [h] at this
  exact this
theorem agg_same (op : List UInt8) (l : List V) (h : l.all sValid = true → l.length ≤ 1000) : vAgg op l = rAgg op l := by
  cases hv : l.all sValid with
  | false => unfold vAgg rAgg; rw [hv]; rfl
  | true => exact agg_eq op l (by have := h hv; omega)
theorem sv_short {v : V} (h : sValid v = true) : v.t.length ≤ 200 := by
  rcases sv_cases h with rfl | ⟨n, rfl, _⟩ | ⟨t, rfl, h⟩ | ⟨x, rfl⟩
  · simp [vN]
  · simp [vI]
  · exact (sValid_str (a := vS t) (by assumption) rfl).1
  · simp [vB]
set_option maxRecDepth 100000 in
set_option maxHeartbeats 16000000 in
theorem law_calls (op : List UInt8) (A : Option Addr) (n cp : Nat) (l : List V) (w : World) (hE : Env w) (to_ : op.length ≤ 140737488355328) (hS : Sl w A n l) (tl : ∀ v ∈ l, v.t.length ≤ 140737488355328) :
    Calls Tryz.prog 6 #[.string ⟨op.toArray⟩, .slice A n cp] w fun e w' => e = .returned (.bool true) ∧ Below w.heap.size w w' := by
  have N0 := Lib.hid (BW.start hE)
  have HS := Lib.hid hS
  have TL := Lib.hid tl
  have HLen := Lib.hid hS.len
  clear hE hS tl
  go_enter Tryz.func6, Tryz.ntmps6
  go_wp2_with fail
  refine (few_any A n cp l _ (HS.out.later N0.out.b) TL.out).mono ?_; rintro e w1 ⟨q, rfl, hb1, hf⟩
  have HF := Lib.hid hf
  have N1 := Lib.hid (N0.out.later hb1)
  clear hf hb1 N0
  cases q with
  | false =>
    go_wp2_with fail
    refine (awake_any _ N1.out.env).mono ?_; rintro e w2 ⟨rfl, hb2⟩
    have N2 := Lib.hid (N1.out.later hb2)
    clear hb2 N1
    go_wp2_with fail
    go_ret
    exact ⟨rfl, N2.out.b⟩
  | true =>
    by_cases hop : (1000 : Int) < (op.length : Int)
    case pos =>
      go_wp2_with fail
      refine (awake_any _ N1.out.env).mono ?_; rintro e w3 ⟨rfl, hb3⟩
      have N3 := Lib.hid (N1.out.later hb3)
      clear hb3 N1
      go_wp2_with fail
      go_ret
      exact ⟨rfl, N3.out.b⟩
    have hop1 : (op.length : Int) ≤ 1000 := by omega
    clear hop
    have H600 : Hid (l.all sValid = true → n ≤ 1000) := Lib.hid fun hv => Nat.le_trans (HF.out rfl fun v hm => sv_short (List.all_eq_true.1 hv v hm)) (by decide)
    obtain ⟨x, e, h1⟩ : ∃ x e, vCall op l = (x, e) := ⟨_, _, rfl⟩
    obtain ⟨z, g, h2⟩ : ∃ x e, vAgg op l = (x, e) := ⟨_, _, rfl⟩
    have H1 := Lib.hid h1
    have H2 := Lib.hid h2
    rw [call_eq] at h1
    rw [agg_same op l (by rw [HLen.out]; exact H600.out)] at h2
    have H3 := Lib.hid h1
    have H4 := Lib.hid h2
    clear h1 h2
    go_wp2_with fail
    refine (kcall H1.out _ N1.out.env (HS.out.later N1.out.b)).mono ?_; rintro e w4 ⟨rfl, hb4⟩
    have N4 := Lib.hid (N1.out.later hb4)
    clear hb4 N1
    go_wp2_with fail
    refine (krcall H3.out _ (N4.out.push x (by first | rfl | simp)).env (HS.out.later (N4.out.push x (by first | rfl | simp)).b) TL.out).mono ?_; rintro e w5 ⟨rfl, hb5⟩
    have N5 := Lib.hid ((N4.out.push x (by first | rfl | simp)).later hb5)
    clear hb5 N4
    obtain ⟨⟨f0a, f0b, f0c⟩, f0z⟩ := N5.out.at_ (List.Mem.head _)
    go_wp2_with fail
    refine (kagg H2.out _ (N5.out.push x (by first | rfl | simp)).env (HS.out.later (N5.out.push x (by first | rfl | simp)).b)).mono ?_; rintro e w6 ⟨rfl, hb6⟩
    have N6 := Lib.hid ((N5.out.push x (by first | rfl | simp)).later hb6)
    clear f0a f0b f0c f0z
    clear hb6 N5
    obtain ⟨⟨f0a, f0b, f0c⟩, f0z⟩ := N6.out.at_ (List.Mem.head _)
    obtain ⟨⟨f1a, f1b, f1c⟩, f1z⟩ := N6.out.at_ (List.Mem.tail _ (List.Mem.head _))
    go_wp2_with fail
    refine (kragg H4.out _ (N6.out.push z (by first | rfl | simp)).env (HS.out.later (N6.out.push z (by first | rfl | simp)).b) TL.out H600.out).mono ?_; rintro e w7 ⟨rfl, hb7⟩
    have N7 := Lib.hid ((N6.out.push z (by first | rfl | simp)).later hb7)
    clear f0a f0b f0c f0z f1a f1b f1c f1z
    clear hb7 N6
    obtain ⟨⟨f0a, f0b, f0c⟩, f0z⟩ := N7.out.at_ (List.Mem.head _)
    obtain ⟨⟨f1a, f1b, f1c⟩, f1z⟩ := N7.out.at_ (List.Mem.tail _ (List.Mem.head _))
    obtain ⟨⟨f2a, f2b, f2c⟩, f2z⟩ := N7.out.at_ (List.Mem.tail _ (List.Mem.tail _ (List.Mem.head _)))
    go_wp2_with fail
    refine (builtin_any op _).mono ?_; rintro e w8 ⟨rfl, hb8⟩
    have N8 := Lib.hid ((N7.out.push z (by first | rfl | simp)).later hb8)
    clear f0a f0b f0c f0z f1a f1b f1c f1z f2a f2b f2c f2z
    clear hb8 N7
    obtain ⟨⟨f0a, f0b, f0c⟩, f0z⟩ := N8.out.at_ (List.Mem.head _)
    obtain ⟨⟨f1a, f1b, f1c⟩, f1z⟩ := N8.out.at_ (List.Mem.tail _ (List.Mem.head _))
    obtain ⟨⟨f2a, f2b, f2c⟩, f2z⟩ := N8.out.at_ (List.Mem.tail _ (List.Mem.tail _ (List.Mem.head _)))
    obtain ⟨⟨f3a, f3b, f3c⟩, f3z⟩ := N8.out.at_ (List.Mem.tail _ (List.Mem.tail _ (List.Mem.tail _ (List.Mem.head _))))
    go_wp2_with fail
    refine (rBuiltin_any op _).mono ?_; rintro e w9 ⟨rfl, hb9⟩
    have N9 := Lib.hid (N8.out.later hb9)
    clear f0a f0b f0c f0z f1a f1b f1c f1z f2a f2b f2c f2z f3a f3b f3c f3z
    clear hb9 N8
    obtain ⟨⟨f0a, f0b, f0c⟩, f0z⟩ := N9.out.at_ (List.Mem.head _)
    obtain ⟨⟨f1a, f1b, f1c⟩, f1z⟩ := N9.out.at_ (List.Mem.tail _ (List.Mem.head _))
    obtain ⟨⟨f2a, f2b, f2c⟩, f2z⟩ := N9.out.at_ (List.Mem.tail _ (List.Mem.tail _ (List.Mem.head _)))
    obtain ⟨⟨f3a, f3b, f3c⟩, f3z⟩ := N9.out.at_ (List.Mem.tail _ (List.Mem.tail _ (List.Mem.tail _ (List.Mem.head _))))
    go_wp2_with fail
    refine (isAgg_any op _).mono ?_; rintro e w10 ⟨rfl, hb10⟩
    have N10 := Lib.hid (N9.out.later hb10)
    clear f0a f0b f0c f0z f1a f1b f1c f1z f2a f2b f2c f2z f3a f3b f3c f3z
    clear hb10 N9
    obtain ⟨⟨f0a, f0b, f0c⟩, f0z⟩ := N10.out.at_ (List.Mem.head _)
    obtain ⟨⟨f1a, f1b, f1c⟩, f1z⟩ := N10.out.at_ (List.Mem.tail _ (List.Mem.head _))
    obtain ⟨⟨f2a, f2b, f2c⟩, f2z⟩ := N10.out.at_ (List.Mem.tail _ (List.Mem.tail _ (List.Mem.head _)))
    obtain ⟨⟨f3a, f3b, f3c⟩, f3z⟩ := N10.out.at_ (List.Mem.tail _ (List.Mem.tail _ (List.Mem.tail _ (List.Mem.head _))))
    go_wp2_with fail
    refine (rIsAgg_any op _).mono ?_; rintro e w11 ⟨rfl, hb11⟩
    have N11 := Lib.hid (N10.out.later hb11)
    clear f0a f0b f0c f0z f1a f1b f1c f1z f2a f2b f2c f2z f3a f3b f3c f3z
    clear hb11 N10
    obtain ⟨⟨f0a, f0b, f0c⟩, f0z⟩ := N11.out.at_ (List.Mem.head _)
    obtain ⟨⟨f1a, f1b, f1c⟩, f1z⟩ := N11.out.at_ (List.Mem.tail _ (List.Mem.head _))
    obtain ⟨⟨f2a, f2b, f2c⟩, f2z⟩ := N11.out.at_ (List.Mem.tail _ (List.Mem.tail _ (List.Mem.head _)))
    obtain ⟨⟨f3a, f3b, f3c⟩, f3z⟩ := N11.out.at_ (List.Mem.tail _ (List.Mem.tail _ (List.Mem.tail _ (List.Mem.head _))))
    go_wp2_with fail
    refine (awake_any _ N11.out.env).mono ?_; rintro e w12 ⟨rfl, hb12⟩
    have N12 := Lib.hid (N11.out.later hb12)
    clear f0a f0b f0c f0z f1a f1b f1c f1z f2a f2b f2c f2z f3a f3b f3c f3z
    clear hb12 N11
    obtain ⟨⟨f0a, f0b, f0c⟩, f0z⟩ := N12.out.at_ (List.Mem.head _)
    obtain ⟨⟨f1a, f1b, f1c⟩, f1z⟩ := N12.out.at_ (List.Mem.tail _ (List.Mem.head _))
    obtain ⟨⟨f2a, f2b, f2c⟩, f2z⟩ := N12.out.at_ (List.Mem.tail _ (List.Mem.tail _ (List.Mem.head _)))
    obtain ⟨⟨f3a, f3b, f3c⟩, f3z⟩ := N12.out.at_ (List.Mem.tail _ (List.Mem.tail _ (List.Mem.tail _ (List.Mem.head _))))
    go_wp2_with fail
    go_ret
    exact ⟨rfl, N12.out.b⟩
end Go.Proofs.YtpmfpfkahanlaaaGreatDoor

/- The statement ValueCalls is proved: Call and Aggregate return what the chapter says, or the error, for any name and values; for every input, under the row's own condition alone (the listed package-level variables hold what the program's text lays; the card ties them). -/
namespace Go.Proofs.YtpmfpfkahanlaaaGreatDoor
open Go.ChangeShapes Go.Joins Go.Deep Go.WideShapes Go.ChangeAt Go.RowKit
open Go.ChangeMaps (open_string shut_string)
set_option linter.unusedVariables false

set_option maxRecDepth 100000 in
set_option maxHeartbeats 4000000 in
theorem valueCalls_lifted (os : Os) (started : os.Started) (H : Type) (enc : TypeId × Value → H) :
    ReturnsInHanded {} Tryz.checked os 6 .any (fun w args => (Rows.valueCallsSpec.pre enc Tryz.prog Tryz.f6 [] false w args ∧ laidMetH Tryz.prog laid w) ∧ sizedMet enc Tryz.prog Tryz.f6 (OpenSpec.ofChange Rows.valueCallsSpec) false w args)
      (Rows.valueCallsSpec.post enc Tryz.prog Tryz.f6 false true false false) := by
  refine returns_listed (C := Tryz.checked) (X := fun w _ => laidMetH Tryz.prog laid w) (fun _ _ _ hh h => h.of_heap hh) own started (by kernel_rfl) Tryz.func6
    (ChangeSpec.witness_shaped (enc := enc) (C := Tryz.checked) (os := os) (X := fun w _ => laidMetH Tryz.prog laid w) false (World.laidAll Tryz.prog os laid) #[.string ByteArray.empty, .slice none 0 0] 8 (World.laidAll_os _ _ _)
      (World.shaped_of_ZipB (by kernel_rfl) (by kernel_rfl)) (by kernel_rfl) (by kernel_rfl) (by kernel_rfl)
      (by rw [MakeChecks.laidMetH_plain _ _ _ (by kernel_rfl)]; exact laidMet_laidAll _ (by kernel_rfl) (by kernel_rfl))) ?_
  intro W base args ds gs before hval0 hW hcnd hsz0 hL hsh _
  have hsz : (DataW.weightsEach Tryz.prog (Tryz.f6.params.toList ++ Rows.valueCallsSpec.plain.varTypes Tryz.prog) (ds ++ gs)).all (· ≤ reachBytes) = true := hsz0
  have hval : ∀ (j : Nat) t v, Tryz.f6.params[j]? = some t → args[j]? = some v → Value.okWide Tryz.prog W .any base t v := hval0
  have hW' := hW
  obtain ⟨p, q, hA0, hV, rfl, hfz, hnd⟩ := hW
  have hA : DataW.TrodAll enc Tryz.prog W 0 (fun _ => true) true Tryz.f6.params.toList args.toList ds p := hA0
  rw [Tryz.params6] at hA hval hsz
  obtain ⟨v0, vs0, d0, ds0, p0, q0, hargs, rfl, rfl, h0, r0⟩ := trodAll_cons hA
  obtain ⟨v1, vs1, d1, ds1, p1, q1, rfl, rfl, rfl, h1, r1⟩ := trodAll_cons r0
  obtain ⟨rfl, rfl, rfl⟩ := trodAll_nil r1
  obtain rfl : args = #[v0, v1] := by cases args; simp_all
  obtain ⟨rfl, rfl⟩ := trodVars_none hV
  have hEnv := env_of_laid hL hsh
  have k0 := h0
  have lt0 : ∀ x ∈ p0, x.block < W.heap.size := by obtain ⟨m, hm⟩ := k0; exact DataW.trod_lt m _ _ _ hm
  obtain ⟨a0, rfl, e0, _, _⟩ := open_string Tryz.underlying9 (hval 0 9 v0 rfl rfl) h0
  have T0 : a0.data.toList.length ≤ 140737488351232 := sized_string hsz (j := 0) (t := 9) rfl (by rw [← e0]; rfl)
  obtain ⟨t0, rfl⟩ : ∃ t : List UInt8, a0 = ⟨t.toArray⟩ := ⟨a0.data.toList, by simp⟩
  rw [List.toList_toArray] at T0
  have k1 := h1
  have lt1 : ∀ x ∈ p1, x.block < W.heap.size := by obtain ⟨m, hm⟩ := k1; exact DataW.trod_lt m _ _ _ hm
  obtain ⟨A1, n1, c1, l1, rfl, S1, T1⟩ := open_values hsz (j := 1) rfl rfl (hval 1 22 v1 rfl rfl) h1
  clear hA0 hval0 hsz0 hsz
  refine (law_calls t0 A1 n1 c1 l1 W hEnv (Nat.le_trans T0 (by decide)) S1 (fun x hx => Nat.le_trans (T1 x hx) (by decide))).mono fun e W' ⟨he, bel⟩ => ?_
  subst he
  exact ⟨_, rfl, _, _, _, [], _, [], hW', trodAll_mk1 (shut_bool Tryz.underlying4 _), (trodAll_cons_mk (Below.trod laidOut (by kernel_rfl) (of_decide_eq_true (by kernel_rfl)) k0 bel lt0) (trodAll_cons_mk (Below.trod laidOut (by kernel_rfl) (of_decide_eq_true (by kernel_rfl)) k1 bel lt1) trodAll_mk0)), rfl, bel.frame _, fun h => by cases h⟩
theorem valueCalls_row : Rows.ValueCallsSaid :=
  OpenClaim.holds_of_wide 6 Tryz.f6 rfl rfl rfl rfl rfl rfl rfl ⟨rfl, rfl, rfl, rfl, rfl⟩ rfl rfl rfl rfl rfl (by kernel_rfl) Tryz.func6 (by kernel_rfl)
    (of_decide_eq_true (by kernel_rfl)) (by unfold Func.isWrapper; first | (rw [if_pos (by decide +kernel)]; kernel_rfl) | (rw [if_neg (by decide +kernel)]; exact ⟨rfl, rfl⟩))
    (fun os started H enc _ => valueCalls_lifted os started H enc)
theorem valueCalls_card : Rows.ValueCallsCardSaid :=
  Claim7.holds_tied_plain_at .later [] [.data, .data, .data, .data, .sentinel, .sentinel, .listed, .data, .data, .pinned, .pinned] true (true, "2df1776b52db89be618cb2cc9767f232203ddef2cbc80537f057adf05aab1a8a") true
    valueCalls_row (fun _ h => by cases h) (by kernel_rfl) (fun _ h => by cases h) valueCalls_row_tie rfl ⟨rfl, rfl⟩ (by kernel_rfl) rfl
    (fun f fn hf hfn => by
      obtain rfl : f = 6 := Option.some.inj ((show Tryz.prog.funcNamed "justiciar/justiciarlaw01.ValueCalls" = some 6 by kernel_rfl).symm.trans hf) |>.symm
      obtain rfl : fn = Tryz.f6 := (Option.some.inj (Tryz.func6.symm.trans hfn)).symm
      exact ⟨by kernel_rfl, fun j t ht => by
        rw [Tryz.params6] at ht
        have hm : t ∈ [9, 22] := by simpa using Array.mem_of_getElem? ht
        have hall : ([9, 22].all fun u => !Tryz.prog.wantsStandIn u) = true := by kernel_rfl
        exact (show Tryz.prog.wantsStandIn t = false by simpa using List.all_eq_true.1 hall t hm)⟩)
    (by kernel_rfl)
#print axioms valueCalls_card
end Go.Proofs.YtpmfpfkahanlaaaGreatDoor
