/- The statement ValueTruths is proved: the laws of the three truths, of commuting operations and of comparisons; for every input, under the row's own condition alone (the listed package-level variables hold what the program's text lays; the card ties them). -/
import Derived.Test.YtpmfpfkahanlaaaGreatDoorHW
import Derived.Test.YtpmfpfkahanlaaaGreatDoorHA
import Derived.Test.YtpmfpfkahanlaaaGreatDoorHB
import Derived.Deep.DeepCutAuto
import Derived.Test.YtpmfpfkahanlaaaGreatDoorHR
namespace Go.Proofs.YtpmfpfkahanlaaaGreatDoor
open Go.RowKit
set_option linter.unusedSimpArgs false
set_option linter.unusedVariables false
attribute [local go_sem] Later.cell Later.lt veq_self
attribute [local go_sem high] run_eqV run_neV

theorem k2few (a b : V) (w : World) (g : Nat) (hg : g = w.heap.size) (ha : a.t.length ≤ 140737488355328) (hb : b.t.length ≤ 140737488355328) :
    Calls Tryz.prog 13 #[.slice (some ⟨g, 0, none⟩) 2 2] (w.alloc (.cells #[.int .i64 a.k, .int .i64 a.n, .string ⟨a.t.toArray⟩, .int .i64 b.k, .int .i64 b.n, .string ⟨b.t.toArray⟩] 27)) fun e w' => ∃ q : Bool, e = .returned (.bool q) ∧ Below (w.alloc (.cells #[.int .i64 a.k, .int .i64 a.n, .string ⟨a.t.toArray⟩, .int .i64 b.k, .int .i64 b.n, .string ⟨b.t.toArray⟩] 27)).heap.size (w.alloc (.cells #[.int .i64 a.k, .int .i64 a.n, .string ⟨a.t.toArray⟩, .int .i64 b.k, .int .i64 b.n, .string ⟨b.t.toArray⟩] 27)) w' :=
  kfew [a, b] 2 rfl w g hg (by simp) fun v hv => by
    simp only [List.mem_cons, List.not_mem_nil, or_false] at hv
    rcases hv with rfl | rfl
    · exact ha
    · exact hb
theorem strs_cell {w : World} {g : Nat} {l : List (List UInt8)} (h : Blk w g 9 (l.map fun x => Value.string ⟨x.toArray⟩).toArray) (j : Nat) (hj : j < l.length) : w.cell? ⟨g, j, none⟩ = some (.string ⟨l[j].toArray⟩) := by
  rw [blk_cell h j]
  simp [List.getElem?_eq_getElem hj]
/-- Values in blocks of the call's own, and one block more. -/
structure TW (w0 w : World) (l : List (Nat × V)) (g : Nat) (t : TypeId) (cs : Array Value) : Prop where
  bw : BW w0 w l
  bk : Blk w g t cs
theorem TW.later {w0 w w' : World} {l : List (Nat × V)} {g : Nat} {t : TypeId} {cs : Array Value} (h : TW w0 w l g t cs) (hb : Below w.heap.size w w') : TW w0 w' l g t cs := ⟨h.bw.later hb, blk_later h.bk hb⟩
theorem TW.alloc {w0 w : World} {l : List (Nat × V)} {g : Nat} {t : TypeId} {cs : Array Value} (h : TW w0 w l g t cs) (o : Obj) : TW w0 (w.alloc o) l g t cs := ⟨h.bw.alloc o, blk_alloc h.bk o⟩
theorem TW.push {w0 w : World} {l : List (Nat × V)} {g : Nat} {t : TypeId} {cs : Array Value} (h : TW w0 w l g t cs) (v : V) {k : Nat} (hk : k = w.heap.size) : TW w0 (w.alloc (.cells (cellsV v) 27)) ((k, v) :: l) g t cs := ⟨h.bw.push v hk, blk_alloc h.bk _⟩
theorem TW.at_ {w0 w : World} {l : List (Nat × V)} {g : Nat} {t : TypeId} {cs : Array Value} (h : TW w0 w l g t cs) {k : Nat} {v : V} (hm : (k, v) ∈ l) : (w.cell? ⟨k, 0, none⟩ = some (.int .i64 v.k) ∧ w.cell? ⟨k, 1, none⟩ = some (.int .i64 v.n) ∧ w.cell? ⟨k, 2, none⟩ = some (.string ⟨v.t.toArray⟩)) ∧ k < w.heap.size := h.bw.at_ hm
theorem TW.env {w0 w : World} {l : List (Nat × V)} {g : Nat} {t : TypeId} {cs : Array Value} (h : TW w0 w l g t cs) : Env w := h.bw.env
theorem TW.b {w0 w : World} {l : List (Nat × V)} {g : Nat} {t : TypeId} {cs : Array Value} (h : TW w0 w l g t cs) : Below w0.heap.size w0 w := h.bw.b
theorem TW.drop {w0 w : World} {x : Nat × V} {l : List (Nat × V)} {g : Nat} {t : TypeId} {cs : Array Value} (h : TW w0 w (x :: l) g t cs) : TW w0 w l g t cs := ⟨h.bw.drop, h.bk⟩
/-- ... and a second block more. -/
structure TX (w0 w : World) (l : List (Nat × V)) (g : Nat) (t : TypeId) (cs : Array Value) (g2 : Nat) (t2 : TypeId) (cs2 : Array Value) : Prop where
  tw : TW w0 w l g t cs
  bk2 : Blk w g2 t2 cs2
section
variable {w0 w w' : World} {l : List (Nat × V)} {g : Nat} {t : TypeId} {cs : Array Value} {g2 : Nat} {t2 : TypeId} {cs2 : Array Value}
theorem TX.later (h : TX w0 w l g t cs g2 t2 cs2) (hb : Below w.heap.size w w') : TX w0 w' l g t cs g2 t2 cs2 := ⟨h.tw.later hb, blk_later h.bk2 hb⟩
theorem TX.push (h : TX w0 w l g t cs g2 t2 cs2) (v : V) {k : Nat} (hk : k = w.heap.size) : TX w0 (w.alloc (.cells (cellsV v) 27)) ((k, v) :: l) g t cs g2 t2 cs2 := ⟨h.tw.push v hk, blk_alloc h.bk2 _⟩
theorem TX.at_ (h : TX w0 w l g t cs g2 t2 cs2) {k : Nat} {v : V} (hm : (k, v) ∈ l) : (w.cell? ⟨k, 0, none⟩ = some (.int .i64 v.k) ∧ w.cell? ⟨k, 1, none⟩ = some (.int .i64 v.n) ∧ w.cell? ⟨k, 2, none⟩ = some (.string ⟨v.t.toArray⟩)) ∧ k < w.heap.size := h.tw.at_ hm
theorem TX.env (h : TX w0 w l g t cs g2 t2 cs2) : Env w := h.tw.env
end
theorem cntT_snoc (a b : V) (op : List UInt8) : ∀ l, cntT a b (l ++ [op]) = cntT a b l + if sTrue (vBinary op a b).1 then 1 else 0
  | [] => by simp [cntT]
  | x :: r => by simp only [List.cons_append, cntT, cntT_snoc a b op r]; omega
theorem cntN_snoc (a b : V) (op : List UInt8) : ∀ l, cntN a b (l ++ [op]) = cntN a b l + if (vBinary op a b).1.k == 0 then 1 else 0
  | [] => by simp [cntN]
  | x :: r => by simp only [List.cons_append, cntN, cntN_snoc a b op r]; omega
theorem cnt_range (a b : V) : ∀ l, 0 ≤ cntT a b l ∧ cntT a b l ≤ l.length ∧ 0 ≤ cntN a b l ∧ cntN a b l ≤ l.length
  | [] => by simp [cntT, cntN]
  | x :: r => by
    have := cnt_range a b r
    simp only [cntT, cntN, List.length_cons]
    split <;> split <;> omega
def pairs4 : Array Value := #[.string ⟨#[97, 110, 100]⟩, .string ⟨#[111, 114]⟩, .string ⟨#[111, 114]⟩, .string ⟨#[97, 110, 100]⟩]
theorem pair_at {w : World} {g j : Nat} (h : Blk w g 54 pairs4) (hj : j < 2) : ∃ o1 o2 : List UInt8, ((o1 = [97, 110, 100] ∧ o2 = [111, 114]) ∨ (o1 = [111, 114] ∧ o2 = [97, 110, 100])) ∧ w.cell? ⟨g, j * 2, none⟩ = some (.string ⟨o1.toArray⟩) ∧ w.cell? ⟨g, j * 2 + 1, none⟩ = some (.string ⟨o2.toArray⟩) := by
  match j, hj with
  | 0, _ => exact ⟨_, _, .inl ⟨rfl, rfl⟩, blk_cell h 0, blk_cell h 1⟩
  | 1, _ => exact ⟨_, _, .inr ⟨rfl, rfl⟩, blk_cell h 2, blk_cell h 3⟩
set_option maxRecDepth 100000 in
set_option maxHeartbeats 16000000 in
theorem law_truths (a b : V) (w : World) (hE : Env w) (ta : a.t.length ≤ 140737488355328) (tb : b.t.length ≤ 140737488355328) :
    Calls Tryz.prog 9 #[(.agg #[.int .i64 (a).k, .int .i64 (a).n, .string ⟨List.toArray (a).t⟩]), (.agg #[.int .i64 (b).k, .int .i64 (b).n, .string ⟨List.toArray (b).t⟩])] w fun e w' => e = .returned (.bool true) ∧ Below w.heap.size w w' := by
  have N0 := Lib.hid (((BW.start hE).push a (g := w.heap.size) rfl).push b (g := w.heap.size + 1) (by simp))
  clear hE
  go_enter Tryz.func9, Tryz.ntmps9
  go_wp2_with fail
  refine (k2few a b _ _ (by simp) ta tb).mono ?_; rintro e w1 ⟨q, rfl, hb1⟩
  have N1 := Lib.hid ((N0.out.alloc (.cells #[.int .i64 a.k, .int .i64 a.n, .string ⟨a.t.toArray⟩, .int .i64 b.k, .int .i64 b.n, .string ⟨b.t.toArray⟩] 27)).later hb1)
  clear hb1 N0
  obtain ⟨⟨f0a, f0b, f0c⟩, f0z⟩ := N1.out.at_ (List.Mem.head _)
  obtain ⟨⟨f1a, f1b, f1c⟩, f1z⟩ := N1.out.at_ (List.Mem.tail _ (List.Mem.head _))
  cases q with
  | false =>
    go_wp2_with fail
    refine (awake_any _ N1.out.env).mono ?_; rintro e w2 ⟨rfl, hb2⟩
    have N2 := Lib.hid (N1.out.later hb2)
    clear f0a f0b f0c f0z f1a f1b f1c f1z
    clear hb2 N1
    obtain ⟨⟨f0a, f0b, f0c⟩, f0z⟩ := N2.out.at_ (List.Mem.head _)
    obtain ⟨⟨f1a, f1b, f1c⟩, f1z⟩ := N2.out.at_ (List.Mem.tail _ (List.Mem.head _))
    go_wp2_with fail
    go_ret
    exact ⟨rfl, N2.out.b⟩
  | true =>
    cases hva : sValid a with
    | false =>
      have HV := Lib.hid hva
      clear hva
      go_wp2_with fail
      refine (kval HV.out _ (Nat.le_trans ta (by decide))).mono ?_; rintro e w3 ⟨rfl, hb3⟩
      have N3 := Lib.hid (N1.out.later hb3)
      clear f0a f0b f0c f0z f1a f1b f1c f1z
      clear hb3 N1
      obtain ⟨⟨f0a, f0b, f0c⟩, f0z⟩ := N3.out.at_ (List.Mem.head _)
      obtain ⟨⟨f1a, f1b, f1c⟩, f1z⟩ := N3.out.at_ (List.Mem.tail _ (List.Mem.head _))
      go_wp2_with fail
      refine (awake_any _ N3.out.env).mono ?_; rintro e w4 ⟨rfl, hb4⟩
      have N4 := Lib.hid (N3.out.later hb4)
      clear f0a f0b f0c f0z f1a f1b f1c f1z
      clear hb4 N3
      obtain ⟨⟨f0a, f0b, f0c⟩, f0z⟩ := N4.out.at_ (List.Mem.head _)
      obtain ⟨⟨f1a, f1b, f1c⟩, f1z⟩ := N4.out.at_ (List.Mem.tail _ (List.Mem.head _))
      go_wp2_with fail
      go_ret
      exact ⟨rfl, N4.out.b⟩
    | true =>
      have HVa := Lib.hid hva
      clear hva
      go_wp2_with fail
      refine (kval HVa.out _ (Nat.le_trans ta (by decide))).mono ?_; rintro e w5 ⟨rfl, hb5⟩
      have N5 := Lib.hid (N1.out.later hb5)
      clear f0a f0b f0c f0z f1a f1b f1c f1z
      clear hb5 N1
      obtain ⟨⟨f0a, f0b, f0c⟩, f0z⟩ := N5.out.at_ (List.Mem.head _)
      obtain ⟨⟨f1a, f1b, f1c⟩, f1z⟩ := N5.out.at_ (List.Mem.tail _ (List.Mem.head _))
      cases hvb : sValid b with
      | false =>
        have HV := Lib.hid hvb
        clear hvb
        go_wp2_with fail
        refine (kval HV.out _ (Nat.le_trans tb (by decide))).mono ?_; rintro e w6 ⟨rfl, hb6⟩
        have N6 := Lib.hid (N5.out.later hb6)
        clear f0a f0b f0c f0z f1a f1b f1c f1z
        clear hb6 N5
        obtain ⟨⟨f0a, f0b, f0c⟩, f0z⟩ := N6.out.at_ (List.Mem.head _)
        obtain ⟨⟨f1a, f1b, f1c⟩, f1z⟩ := N6.out.at_ (List.Mem.tail _ (List.Mem.head _))
        go_wp2_with fail
        refine (awake_any _ N6.out.env).mono ?_; rintro e w7 ⟨rfl, hb7⟩
        have N7 := Lib.hid (N6.out.later hb7)
        clear f0a f0b f0c f0z f1a f1b f1c f1z
        clear hb7 N6
        obtain ⟨⟨f0a, f0b, f0c⟩, f0z⟩ := N7.out.at_ (List.Mem.head _)
        obtain ⟨⟨f1a, f1b, f1c⟩, f1z⟩ := N7.out.at_ (List.Mem.tail _ (List.Mem.head _))
        go_wp2_with fail
        go_ret
        exact ⟨rfl, N7.out.b⟩
      | true =>
        have HVb := Lib.hid hvb
        clear hvb
        go_wp2_with fail
        refine (kval HVb.out _ (Nat.le_trans tb (by decide))).mono ?_; rintro e w8 ⟨rfl, hb8⟩
        have N8 := Lib.hid (N5.out.later hb8)
        clear f0a f0b f0c f0z f1a f1b f1c f1z
        clear hb8 N5
        obtain ⟨⟨f0a, f0b, f0c⟩, f0z⟩ := N8.out.at_ (List.Mem.head _)
        obtain ⟨⟨f1a, f1b, f1c⟩, f1z⟩ := N8.out.at_ (List.Mem.tail _ (List.Mem.head _))
        go_wp2_with fail
        go_loopw [49] (fun i wr => ∃ j : Nat, j ≤ 4 ∧ i = .int .i64 j ∧ Hid (TW w wr [(w.heap.size + 1, b), (w.heap.size, a)] w8.heap.size 9 (tOps.map fun x => Value.string ⟨x.toArray⟩).toArray)) (fun i wr => 4 - (intOf i).toNat)
        case atStart => exact ⟨0, by omega, rfl, Lib.hid ⟨N8.out.alloc _, blk_new _ 9 _⟩⟩
        case round =>
          obtain ⟨j, hj, rfl, LA⟩ := hrel
          clear f0a f0b f0c f0z f1a f1b f1c f1z
          clear N8
          obtain ⟨⟨f0a, f0b, f0c⟩, f0z⟩ := LA.out.at_ (List.Mem.head _)
          obtain ⟨⟨f1a, f1b, f1c⟩, f1z⟩ := LA.out.at_ (List.Mem.tail _ (List.Mem.head _))
          by_cases hlt : j < 4
          · have hl : j < tOps.length := hlt
            have cs := strs_cell LA.out.bk j hl
            have zs : w8.heap.size < wr.heap.size := blk_lt LA.out.bk
            have hcm := comm_ops (List.getElem_mem hl) HVa.out HVb.out
            generalize tOps[j] = op at cs hcm
            obtain ⟨x, e, h1⟩ : ∃ x e, vBinary op a b = (x, e) := ⟨_, _, rfl⟩
            rw [h1] at hcm
            have H1 := Lib.hid h1
            have H2 := Lib.hid hcm.symm
            clear h1 hcm
            go_wp2_with fail
            refine (kbin H1.out _ LA.out.env).mono ?_; rintro e w9 ⟨rfl, hb9⟩
            have N9 := Lib.hid (LA.out.later hb9)
            clear f0a f0b f0c f0z f1a f1b f1c f1z
            clear hb9 LA
            obtain ⟨⟨f0a, f0b, f0c⟩, f0z⟩ := N9.out.at_ (List.Mem.head _)
            obtain ⟨⟨f1a, f1b, f1c⟩, f1z⟩ := N9.out.at_ (List.Mem.tail _ (List.Mem.head _))
            go_wp2_with fail
            refine (kbin H2.out _ (N9.out.push x (by first | rfl | simp)).env).mono ?_; rintro e w10 ⟨rfl, hb10⟩
            have N10 := Lib.hid ((N9.out.push x (by first | rfl | simp)).later hb10)
            clear f0a f0b f0c f0z f1a f1b f1c f1z
            clear hb10 N9
            obtain ⟨⟨f0a, f0b, f0c⟩, f0z⟩ := N10.out.at_ (List.Mem.head _)
            obtain ⟨⟨f1a, f1b, f1c⟩, f1z⟩ := N10.out.at_ (List.Mem.tail _ (List.Mem.head _))
            obtain ⟨⟨f2a, f2b, f2c⟩, f2z⟩ := N10.out.at_ (List.Mem.tail _ (List.Mem.tail _ (List.Mem.head _)))
            go_wp2_with fail
            go_roundw
            case rel => exact ⟨j + 1, by omega, by go_num, Lib.hid ((N10.out.push x (by first | rfl | simp)).drop.drop)⟩
            case measure => simp [intOf]; omega
          · obtain rfl : j = 4 := by omega
            obtain ⟨wa, rfl⟩ : ∃ wa, wa = wr := ⟨wr, rfl⟩
            go_wp2_with fail
            go_loopw [80] (fun i wr => ∃ j : Nat, j ≤ 2 ∧ i = .int .i64 j ∧ Hid (TW w wr [(w.heap.size + 1, b), (w.heap.size, a)] wa.heap.size 54 pairs4)) (fun i wr => 2 - (intOf i).toNat)
            case atStart => exact ⟨0, by omega, rfl, Lib.hid ⟨LA.out.bw.alloc _, blk_new _ 54 _⟩⟩
            case round =>
              obtain ⟨j, hj2, rfl, LB⟩ := hrel
              clear f0a f0b f0c f0z f1a f1b f1c f1z
              clear LA
              obtain ⟨⟨f0a, f0b, f0c⟩, f0z⟩ := LB.out.at_ (List.Mem.head _)
              obtain ⟨⟨f1a, f1b, f1c⟩, f1z⟩ := LB.out.at_ (List.Mem.tail _ (List.Mem.head _))
              by_cases hlt : j < 2
              · obtain ⟨o1, o2, ho, co1, co2⟩ := pair_at LB.out.bk hlt
                have zs : wa.heap.size < wr.heap.size := blk_lt LB.out.bk
                obtain ⟨x, e, h1⟩ : ∃ x e, vBinary o1 a b = (x, e) := ⟨_, _, rfl⟩
                have hm : e = 0 → _ := fun he => morgan ho HVa.out HVb.out (by rw [h1]; exact he)
                rw [h1] at hm
                simp only at hm
                have H1 := Lib.hid h1
                have HM := Lib.hid hm
                clear h1 hm ho
                go_wp2_with fail
                refine (kbin H1.out _ (TX.mk (LB.out.alloc (.cells #[.string ⟨o1.toArray⟩, .string ⟨o2.toArray⟩] 54)) (blk_new wr 54 #[.string ⟨o1.toArray⟩, .string ⟨o2.toArray⟩])).env).mono ?_; rintro e w11 ⟨rfl, hb11⟩
                have N11 := Lib.hid ((TX.mk (LB.out.alloc (.cells #[.string ⟨o1.toArray⟩, .string ⟨o2.toArray⟩] 54)) (blk_new wr 54 #[.string ⟨o1.toArray⟩, .string ⟨o2.toArray⟩])).later hb11)
                clear f0a f0b f0c f0z f1a f1b f1c f1z
                clear co1 co2 zs hb11 LB
                obtain ⟨⟨f0a, f0b, f0c⟩, f0z⟩ := N11.out.at_ (List.Mem.head _)
                obtain ⟨⟨f1a, f1b, f1c⟩, f1z⟩ := N11.out.at_ (List.Mem.tail _ (List.Mem.head _))
                have oxa : w11.cell? ⟨wr.heap.size, 0, none⟩ = some (.string ⟨o1.toArray⟩) := blk_cell N11.out.bk2 0
                have oxb : w11.cell? ⟨wr.heap.size, 1, none⟩ = some (.string ⟨o2.toArray⟩) := blk_cell N11.out.bk2 1
                have oxz := blk_lt N11.out.bk2
                by_cases he : e = 0
                case neg =>
                  have he1 : (e == 0) = false := by simpa using he
                  go_wp2_with fail
                  refine ⟨?_, ?measure⟩
                  case measure => simp [intOf]; omega
                  (repeat apply Exists.intro)
                  refine ⟨?rel, rfl⟩
                  case rel => exact ⟨j + 1, by omega, by go_num, Lib.hid (N11.out.push x (by first | rfl | simp)).tw.drop⟩
                subst he
                obtain ⟨nx, ex, hx⟩ : ∃ r e, vUnary [110, 111, 116] x = (r, e) := ⟨_, _, rfl⟩
                obtain ⟨na, ea, ha⟩ : ∃ r e, vUnary [110, 111, 116] a = (r, e) := ⟨_, _, rfl⟩
                obtain ⟨nb, eb, hb⟩ : ∃ r e, vUnary [110, 111, 116] b = (r, e) := ⟨_, _, rfl⟩
                obtain ⟨nna, en, hn⟩ : ∃ r e, vUnary [110, 111, 116] na = (r, e) := ⟨_, _, rfl⟩
                obtain ⟨y, ey, hy⟩ : ∃ r e, vBinary o2 na nb = (r, e) := ⟨_, _, rfl⟩
                obtain ⟨m1, m2, m3⟩ := HM.out rfl
                rw [ha, hb] at m1 m2
                rw [ha] at m3
                simp only at m1 m2 m3
                rw [hy] at m1 m2
                rw [hx] at m2
                rw [hn] at m3
                simp only at m1 m2 m3
                have HX := Lib.hid hx
                have HA := Lib.hid ha
                have HB := Lib.hid hb
                have HN := Lib.hid hn
                have HY := Lib.hid hy
                clear hx ha hb hn hy HM
                subst m1 m2 m3
                go_wp2_with fail
                refine (kun HX.out _ (N11.out.push x (by first | rfl | simp)).env).mono ?_; rintro e w12 ⟨rfl, hb12⟩
                have N12 := Lib.hid ((N11.out.push x (by first | rfl | simp)).later hb12)
                clear f0a f0b f0c f0z f1a f1b f1c f1z oxa oxb oxz
                clear hb12 N11
                obtain ⟨⟨f0a, f0b, f0c⟩, f0z⟩ := N12.out.at_ (List.Mem.head _)
                obtain ⟨⟨f1a, f1b, f1c⟩, f1z⟩ := N12.out.at_ (List.Mem.tail _ (List.Mem.head _))
                obtain ⟨⟨f2a, f2b, f2c⟩, f2z⟩ := N12.out.at_ (List.Mem.tail _ (List.Mem.tail _ (List.Mem.head _)))
                have oxa : w12.cell? ⟨wr.heap.size, 0, none⟩ = some (.string ⟨o1.toArray⟩) := blk_cell N12.out.bk2 0
                have oxb : w12.cell? ⟨wr.heap.size, 1, none⟩ = some (.string ⟨o2.toArray⟩) := blk_cell N12.out.bk2 1
                have oxz := blk_lt N12.out.bk2
                go_wp2_with fail
                refine (kun HA.out _ (N12.out.push nx (by first | rfl | simp)).env).mono ?_; rintro e w13 ⟨rfl, hb13⟩
                have N13 := Lib.hid ((N12.out.push nx (by first | rfl | simp)).later hb13)
                clear f0a f0b f0c f0z f1a f1b f1c f1z f2a f2b f2c f2z oxa oxb oxz
                clear hb13 N12
                obtain ⟨⟨f0a, f0b, f0c⟩, f0z⟩ := N13.out.at_ (List.Mem.head _)
                obtain ⟨⟨f1a, f1b, f1c⟩, f1z⟩ := N13.out.at_ (List.Mem.tail _ (List.Mem.head _))
                obtain ⟨⟨f2a, f2b, f2c⟩, f2z⟩ := N13.out.at_ (List.Mem.tail _ (List.Mem.tail _ (List.Mem.head _)))
                obtain ⟨⟨f3a, f3b, f3c⟩, f3z⟩ := N13.out.at_ (List.Mem.tail _ (List.Mem.tail _ (List.Mem.tail _ (List.Mem.head _))))
                have oxa : w13.cell? ⟨wr.heap.size, 0, none⟩ = some (.string ⟨o1.toArray⟩) := blk_cell N13.out.bk2 0
                have oxb : w13.cell? ⟨wr.heap.size, 1, none⟩ = some (.string ⟨o2.toArray⟩) := blk_cell N13.out.bk2 1
                have oxz := blk_lt N13.out.bk2
                go_wp2_with fail
                refine (kun HB.out _ (N13.out.push na (by first | rfl | simp)).env).mono ?_; rintro e w14 ⟨rfl, hb14⟩
                have N14 := Lib.hid ((N13.out.push na (by first | rfl | simp)).later hb14)
                clear f0a f0b f0c f0z f1a f1b f1c f1z f2a f2b f2c f2z f3a f3b f3c f3z oxa oxb oxz
                clear hb14 N13
                obtain ⟨⟨f0a, f0b, f0c⟩, f0z⟩ := N14.out.at_ (List.Mem.head _)
                obtain ⟨⟨f1a, f1b, f1c⟩, f1z⟩ := N14.out.at_ (List.Mem.tail _ (List.Mem.head _))
                obtain ⟨⟨f2a, f2b, f2c⟩, f2z⟩ := N14.out.at_ (List.Mem.tail _ (List.Mem.tail _ (List.Mem.head _)))
                obtain ⟨⟨f3a, f3b, f3c⟩, f3z⟩ := N14.out.at_ (List.Mem.tail _ (List.Mem.tail _ (List.Mem.tail _ (List.Mem.head _))))
                obtain ⟨⟨f4a, f4b, f4c⟩, f4z⟩ := N14.out.at_ (List.Mem.tail _ (List.Mem.tail _ (List.Mem.tail _ (List.Mem.tail _ (List.Mem.head _)))))
                have oxa : w14.cell? ⟨wr.heap.size, 0, none⟩ = some (.string ⟨o1.toArray⟩) := blk_cell N14.out.bk2 0
                have oxb : w14.cell? ⟨wr.heap.size, 1, none⟩ = some (.string ⟨o2.toArray⟩) := blk_cell N14.out.bk2 1
                have oxz := blk_lt N14.out.bk2
                go_wp2_with fail
                refine (kbin HY.out _ (N14.out.push nb (by first | rfl | simp)).env).mono ?_; rintro e w15 ⟨rfl, hb15⟩
                have N15 := Lib.hid ((N14.out.push nb (by first | rfl | simp)).later hb15)
                clear f0a f0b f0c f0z f1a f1b f1c f1z f2a f2b f2c f2z f3a f3b f3c f3z f4a f4b f4c f4z oxa oxb oxz
                clear hb15 N14
                obtain ⟨⟨f0a, f0b, f0c⟩, f0z⟩ := N15.out.at_ (List.Mem.head _)
                obtain ⟨⟨f1a, f1b, f1c⟩, f1z⟩ := N15.out.at_ (List.Mem.tail _ (List.Mem.head _))
                obtain ⟨⟨f2a, f2b, f2c⟩, f2z⟩ := N15.out.at_ (List.Mem.tail _ (List.Mem.tail _ (List.Mem.head _)))
                obtain ⟨⟨f3a, f3b, f3c⟩, f3z⟩ := N15.out.at_ (List.Mem.tail _ (List.Mem.tail _ (List.Mem.tail _ (List.Mem.head _))))
                obtain ⟨⟨f4a, f4b, f4c⟩, f4z⟩ := N15.out.at_ (List.Mem.tail _ (List.Mem.tail _ (List.Mem.tail _ (List.Mem.tail _ (List.Mem.head _)))))
                obtain ⟨⟨f5a, f5b, f5c⟩, f5z⟩ := N15.out.at_ (List.Mem.tail _ (List.Mem.tail _ (List.Mem.tail _ (List.Mem.tail _ (List.Mem.tail _ (List.Mem.head _))))))
                have oxa : w15.cell? ⟨wr.heap.size, 0, none⟩ = some (.string ⟨o1.toArray⟩) := blk_cell N15.out.bk2 0
                have oxb : w15.cell? ⟨wr.heap.size, 1, none⟩ = some (.string ⟨o2.toArray⟩) := blk_cell N15.out.bk2 1
                have oxz := blk_lt N15.out.bk2
                go_wp2_with fail
                refine (kun HN.out _ (N15.out.push nx (by first | rfl | simp)).env).mono ?_; rintro e w16 ⟨rfl, hb16⟩
                have N16 := Lib.hid ((N15.out.push nx (by first | rfl | simp)).later hb16)
                clear f0a f0b f0c f0z f1a f1b f1c f1z f2a f2b f2c f2z f3a f3b f3c f3z f4a f4b f4c f4z f5a f5b f5c f5z oxa oxb oxz
                clear hb16 N15
                obtain ⟨⟨f0a, f0b, f0c⟩, f0z⟩ := N16.out.at_ (List.Mem.head _)
                obtain ⟨⟨f1a, f1b, f1c⟩, f1z⟩ := N16.out.at_ (List.Mem.tail _ (List.Mem.head _))
                obtain ⟨⟨f2a, f2b, f2c⟩, f2z⟩ := N16.out.at_ (List.Mem.tail _ (List.Mem.tail _ (List.Mem.head _)))
                obtain ⟨⟨f3a, f3b, f3c⟩, f3z⟩ := N16.out.at_ (List.Mem.tail _ (List.Mem.tail _ (List.Mem.tail _ (List.Mem.head _))))
                obtain ⟨⟨f4a, f4b, f4c⟩, f4z⟩ := N16.out.at_ (List.Mem.tail _ (List.Mem.tail _ (List.Mem.tail _ (List.Mem.tail _ (List.Mem.head _)))))
                obtain ⟨⟨f5a, f5b, f5c⟩, f5z⟩ := N16.out.at_ (List.Mem.tail _ (List.Mem.tail _ (List.Mem.tail _ (List.Mem.tail _ (List.Mem.tail _ (List.Mem.head _))))))
                obtain ⟨⟨f6a, f6b, f6c⟩, f6z⟩ := N16.out.at_ (List.Mem.tail _ (List.Mem.tail _ (List.Mem.tail _ (List.Mem.tail _ (List.Mem.tail _ (List.Mem.tail _ (List.Mem.head _)))))))
                have oxa : w16.cell? ⟨wr.heap.size, 0, none⟩ = some (.string ⟨o1.toArray⟩) := blk_cell N16.out.bk2 0
                have oxb : w16.cell? ⟨wr.heap.size, 1, none⟩ = some (.string ⟨o2.toArray⟩) := blk_cell N16.out.bk2 1
                have oxz := blk_lt N16.out.bk2
                go_wp2_with fail
                refine ⟨?_, ?measure⟩
                case measure => simp [intOf]; omega
                (repeat apply Exists.intro)
                refine ⟨?rel, rfl⟩
                case rel => exact ⟨j + 1, by omega, by go_num, Lib.hid (N16.out.push nna (by first | rfl | simp)).tw.drop.drop.drop.drop.drop.drop⟩
              · obtain rfl : j = 2 := by omega
                obtain ⟨wb, rfl⟩ : ∃ wb, wb = wr := ⟨wr, rfl⟩
                go_wp2_with fail
                go_loopw [25, 26, 137] (fun m n i wr => ∃ (j : Nat) (y z : Int), j ≤ 3 ∧ i = .int .i64 j ∧ m = .int .i64 y ∧ n = .int .i64 z ∧ (0 ≤ y ∧ y ≤ j) ∧ (0 ≤ z ∧ z ≤ j) ∧ Hid (y = cntT a b (cOps.take j) ∧ z = cntN a b (cOps.take j) ∧ ∀ op ∈ cOps.take j, (vBinary op a b).2 = 0) ∧ Hid (TW w wr [(w.heap.size + 1, b), (w.heap.size, a)] wb.heap.size 9 (cOps.map fun x => Value.string ⟨x.toArray⟩).toArray)) (fun m n i wr => 3 - (intOf i).toNat)
                case atStart => exact ⟨0, 0, 0, by omega, rfl, rfl, rfl, by omega, by omega, Lib.hid ⟨rfl, rfl, by simp⟩, Lib.hid ⟨LB.out.bw.alloc _, blk_new _ 9 _⟩⟩
                case round =>
                  obtain ⟨j, y, z, hj3, rfl, rfl, rfl, hy, hz, HC, LC⟩ := hrel
                  clear f0a f0b f0c f0z f1a f1b f1c f1z
                  clear LB
                  obtain ⟨⟨f0a, f0b, f0c⟩, f0z⟩ := LC.out.at_ (List.Mem.head _)
                  obtain ⟨⟨f1a, f1b, f1c⟩, f1z⟩ := LC.out.at_ (List.Mem.tail _ (List.Mem.head _))
                  by_cases hlt : j < 3
                  · have hl : j < cOps.length := hlt
                    have cs := strs_cell LC.out.bk j hl
                    have zs : wb.heap.size < wr.heap.size := blk_lt LC.out.bk
                    have ht : cOps.take (j + 1) = cOps.take j ++ [cOps[j]] := match j, hlt with | 0, _ => rfl | 1, _ => rfl | 2, _ => rfl
                    have HT := Lib.hid ht
                    clear ht
                    generalize cOps[j] = op at cs HT
                    obtain ⟨x, e, h1⟩ : ∃ x e, vBinary op a b = (x, e) := ⟨_, _, rfl⟩
                    have H1 := Lib.hid h1
                    clear h1
                    go_wp2_with fail
                    refine (kbin H1.out _ LC.out.env).mono ?_; rintro e w17 ⟨rfl, hb17⟩
                    have N17 := Lib.hid (LC.out.later hb17)
                    clear f0a f0b f0c f0z f1a f1b f1c f1z
                    clear hb17 LC
                    obtain ⟨⟨f0a, f0b, f0c⟩, f0z⟩ := N17.out.at_ (List.Mem.head _)
                    obtain ⟨⟨f1a, f1b, f1c⟩, f1z⟩ := N17.out.at_ (List.Mem.tail _ (List.Mem.head _))
                    by_cases he : e = 0
                    case neg =>
                      have he1 : (e == 0) = false := by simpa using he
                      go_wp2_with fail
                      refine (awake_any _ (N17.out.push x (by first | rfl | simp)).env).mono ?_; rintro e w18 ⟨rfl, hb18⟩
                      have N18 := Lib.hid ((N17.out.push x (by first | rfl | simp)).later hb18)
                      clear f0a f0b f0c f0z f1a f1b f1c f1z
                      clear hb18 N17
                      obtain ⟨⟨f0a, f0b, f0c⟩, f0z⟩ := N18.out.at_ (List.Mem.head _)
                      obtain ⟨⟨f1a, f1b, f1c⟩, f1z⟩ := N18.out.at_ (List.Mem.tail _ (List.Mem.head _))
                      obtain ⟨⟨f2a, f2b, f2c⟩, f2z⟩ := N18.out.at_ (List.Mem.tail _ (List.Mem.tail _ (List.Mem.head _)))
                      go_wp2_with fail
                      go_ret
                      exact ⟨rfl, N18.out.b⟩
                    subst he
                    obtain ⟨st, hst⟩ : ∃ st, sTrue x = st := ⟨_, rfl⟩
                    have HST := Lib.hid hst
                    clear hst
                    have HS : Hid (∀ (y' z' : Int), y' = y + (if st then 1 else 0) → z' = z + (if x.k == 0 then 1 else 0) → y' = cntT a b (cOps.take (j + 1)) ∧ z' = cntN a b (cOps.take (j + 1)) ∧ ∀ op ∈ cOps.take (j + 1), (vBinary op a b).2 = 0) := Lib.hid fun y' z' e1 e2 => by
                      obtain ⟨h1, h2, h3⟩ := HC.out
                      rw [HT.out]
                      refine ⟨?_, ?_, ?_⟩
                      · rw [cntT_snoc, H1.out, HST.out, ← h1, e1]
                      · rw [cntN_snoc, H1.out, ← h2, e2]
                      · intro o ho
                        simp only [List.mem_append, List.mem_singleton] at ho
                        rcases ho with ho | rfl
                        · exact h3 o ho
                        · rw [H1.out]
                    clear HC HT
                    go_wp2_with fail
                    refine (ktrue HST.out _).mono ?_; rintro e w19 ⟨rfl, hb19⟩
                    have N19 := Lib.hid ((N17.out.push x (by first | rfl | simp)).later hb19)
                    clear f0a f0b f0c f0z f1a f1b f1c f1z
                    clear hb19 N17
                    obtain ⟨⟨f0a, f0b, f0c⟩, f0z⟩ := N19.out.at_ (List.Mem.head _)
                    obtain ⟨⟨f1a, f1b, f1c⟩, f1z⟩ := N19.out.at_ (List.Mem.tail _ (List.Mem.head _))
                    obtain ⟨⟨f2a, f2b, f2c⟩, f2z⟩ := N19.out.at_ (List.Mem.tail _ (List.Mem.tail _ (List.Mem.head _)))
                    cases st with
                    | false =>
                      by_cases hk : x.k = 0
                      case pos =>
                        have hk1 : (x.k == 0) = true := by simpa using hk
                        go_wp2_with fail
                        refine ⟨?_, ?measure⟩
                        case measure => simp [intOf]; omega
                        (repeat apply Exists.intro)
                        refine ⟨?rel, rfl⟩
                        case rel => exact ⟨j + 1, y, z + 1, by omega, by go_num, by go_num, by go_num, by omega, by omega, Lib.hid (HS.out _ _ (by simp) (by simp [hk])), Lib.hid N19.out.drop⟩
                      case neg =>
                        have hk1 : (x.k == 0) = false := by simpa using hk
                        go_wp2_with fail
                        refine ⟨?_, ?measure⟩
                        case measure => simp [intOf]; omega
                        (repeat apply Exists.intro)
                        refine ⟨?rel, rfl⟩
                        case rel => exact ⟨j + 1, y, z, by omega, by go_num, by go_num, by go_num, by omega, by omega, Lib.hid (HS.out _ _ (by simp) (by simp [hk])), Lib.hid N19.out.drop⟩
                    | true =>
                      by_cases hk : x.k = 0
                      case pos =>
                        have hk1 : (x.k == 0) = true := by simpa using hk
                        go_wp2_with fail
                        refine ⟨?_, ?measure⟩
                        case measure => simp [intOf]; omega
                        (repeat apply Exists.intro)
                        refine ⟨?rel, rfl⟩
                        case rel => exact ⟨j + 1, y + 1, z + 1, by omega, by go_num, by go_num, by go_num, by omega, by omega, Lib.hid (HS.out _ _ (by simp) (by simp [hk])), Lib.hid N19.out.drop⟩
                      case neg =>
                        have hk1 : (x.k == 0) = false := by simpa using hk
                        go_wp2_with fail
                        refine ⟨?_, ?measure⟩
                        case measure => simp [intOf]; omega
                        (repeat apply Exists.intro)
                        refine ⟨?rel, rfl⟩
                        case rel => exact ⟨j + 1, y + 1, z, by omega, by go_num, by go_num, by go_num, by omega, by omega, Lib.hid (HS.out _ _ (by simp) (by simp [hk])), Lib.hid N19.out.drop⟩
                  · obtain rfl : j = 3 := by omega
                    by_cases k1 : a.k = 0
                    case pos =>
                      obtain ⟨h1, h2, h3⟩ := HC.out
                      have hz3 := cnt_null HVa.out HVb.out (by simp [k1]) h3
                      have hz4 : z = 3 := h2.trans hz3
                      clear h1 h2 h3 hz3 hy hz
                      subst hz4
                      have k1b : (a.k == 0) = true := by simpa using k1
                      go_wp2_with fail
                      refine (awake_any _ LC.out.env).mono ?_; rintro e w20 ⟨rfl, hb20⟩
                      have N20 := Lib.hid (LC.out.later hb20)
                      clear f0a f0b f0c f0z f1a f1b f1c f1z
                      clear hb20 LC
                      obtain ⟨⟨f0a, f0b, f0c⟩, f0z⟩ := N20.out.at_ (List.Mem.head _)
                      obtain ⟨⟨f1a, f1b, f1c⟩, f1z⟩ := N20.out.at_ (List.Mem.tail _ (List.Mem.head _))
                      go_wp2_with fail
                      go_ret
                      exact ⟨rfl, N20.out.b⟩
                    have k1b : (a.k == 0) = false := by simpa using k1
                    by_cases k2 : b.k = 0
                    case pos =>
                      obtain ⟨h1, h2, h3⟩ := HC.out
                      have hz3 := cnt_null HVa.out HVb.out (by simp [k2]) h3
                      have hz4 : z = 3 := h2.trans hz3
                      clear h1 h2 h3 hz3 hy hz
                      subst hz4
                      have k2b : (b.k == 0) = true := by simpa using k2
                      go_wp2_with fail
                      refine (awake_any _ LC.out.env).mono ?_; rintro e w21 ⟨rfl, hb21⟩
                      have N21 := Lib.hid (LC.out.later hb21)
                      clear f0a f0b f0c f0z f1a f1b f1c f1z
                      clear hb21 LC
                      obtain ⟨⟨f0a, f0b, f0c⟩, f0z⟩ := N21.out.at_ (List.Mem.head _)
                      obtain ⟨⟨f1a, f1b, f1c⟩, f1z⟩ := N21.out.at_ (List.Mem.tail _ (List.Mem.head _))
                      go_wp2_with fail
                      go_ret
                      exact ⟨rfl, N21.out.b⟩
                    have k2b : (b.k == 0) = false := by simpa using k2
                    obtain ⟨h1, h2, h3⟩ := HC.out
                    have hz3 := cnt_one HVa.out HVb.out (by simp [k1, k2]) h3
                    have hy4 : y = 1 := h1.trans hz3.1
                    have hz4 : z = 0 := h2.trans hz3.2
                    clear h1 h2 h3 hz3 hy hz
                    subst hy4 hz4
                    go_wp2_with fail
                    refine (awake_any _ LC.out.env).mono ?_; rintro e w22 ⟨rfl, hb22⟩
                    have N22 := Lib.hid (LC.out.later hb22)
                    clear f0a f0b f0c f0z f1a f1b f1c f1z
                    clear hb22 LC
                    obtain ⟨⟨f0a, f0b, f0c⟩, f0z⟩ := N22.out.at_ (List.Mem.head _)
                    obtain ⟨⟨f1a, f1b, f1c⟩, f1z⟩ := N22.out.at_ (List.Mem.tail _ (List.Mem.head _))
                    go_wp2_with fail
                    go_ret
                    exact ⟨rfl, N22.out.b⟩
end Go.Proofs.YtpmfpfkahanlaaaGreatDoor

/- The statement ValueTruths is proved: the laws of the three truths, of commuting operations and of comparisons; for every input, under the row's own condition alone (the listed package-level variables hold what the program's text lays; the card ties them). -/
namespace Go.Proofs.YtpmfpfkahanlaaaGreatDoor
open Go.ChangeShapes Go.Joins Go.Deep Go.WideShapes Go.ChangeAt Go.RowKit
open Go.ChangeMaps (open_string shut_string)
set_option linter.unusedVariables false

set_option maxRecDepth 100000 in
set_option maxHeartbeats 4000000 in
theorem valueTruths_lifted (os : Os) (started : os.Started) (H : Type) (enc : TypeId × Value → H) :
    ReturnsInHanded {} Tryz.checked os 9 .any (fun w args => (Rows.valueTruthsSpec.pre enc Tryz.prog Tryz.f9 [] false w args ∧ laidMetH Tryz.prog laid w) ∧ sizedMet enc Tryz.prog Tryz.f9 (OpenSpec.ofChange Rows.valueTruthsSpec) false w args)
      (Rows.valueTruthsSpec.post enc Tryz.prog Tryz.f9 false true false false) := by
  refine returns_listed (C := Tryz.checked) (X := fun w _ => laidMetH Tryz.prog laid w) (fun _ _ _ hh h => h.of_heap hh) own started (by kernel_rfl) Tryz.func9
    (ChangeSpec.witness_shaped (enc := enc) (C := Tryz.checked) (os := os) (X := fun w _ => laidMetH Tryz.prog laid w) false (World.laidAll Tryz.prog os laid) #[.agg #[.int .i64 0, .int .i64 0, .string ByteArray.empty], .agg #[.int .i64 0, .int .i64 0, .string ByteArray.empty]] 8 (World.laidAll_os _ _ _)
      (World.shaped_of_ZipB (by kernel_rfl) (by kernel_rfl)) (by kernel_rfl) (by kernel_rfl) (by kernel_rfl)
      (by rw [MakeChecks.laidMetH_plain _ _ _ (by kernel_rfl)]; exact laidMet_laidAll _ (by kernel_rfl) (by kernel_rfl))) ?_
  intro W base args ds gs before hval0 hW hcnd hsz0 hL hsh _
  have hsz : (DataW.weightsEach Tryz.prog (Tryz.f9.params.toList ++ Rows.valueTruthsSpec.plain.varTypes Tryz.prog) (ds ++ gs)).all (· ≤ reachBytes) = true := hsz0
  have hval : ∀ (j : Nat) t v, Tryz.f9.params[j]? = some t → args[j]? = some v → Value.okWide Tryz.prog W .any base t v := hval0
  have hW' := hW
  obtain ⟨p, q, hA0, hV, rfl, hfz, hnd⟩ := hW
  have hA : DataW.TrodAll enc Tryz.prog W 0 (fun _ => true) true Tryz.f9.params.toList args.toList ds p := hA0
  rw [Tryz.params9] at hA hval hsz
  obtain ⟨v0, vs0, d0, ds0, p0, q0, hargs, rfl, rfl, h0, r0⟩ := trodAll_cons hA
  obtain ⟨v1, vs1, d1, ds1, p1, q1, rfl, rfl, rfl, h1, r1⟩ := trodAll_cons r0
  obtain ⟨rfl, rfl, rfl⟩ := trodAll_nil r1
  obtain rfl : args = #[v0, v1] := by cases args; simp_all
  obtain ⟨rfl, rfl⟩ := trodVars_none hV
  have hEnv := env_of_laid hL hsh
  have k0 := h0
  have lt0 : ∀ x ∈ p0, x.block < W.heap.size := by obtain ⟨m, hm⟩ := k0; exact DataW.trod_lt m _ _ _ hm
  obtain ⟨x0, rfl, e0, _⟩ := open_value (hval 0 27 v0 rfl rfl) h0
  have T0 : x0.t.length ≤ 140737488351232 := sized_v hsz (j := 0) (x := x0) rfl (by rw [← e0]; rfl)
  have k1 := h1
  have lt1 : ∀ x ∈ p1, x.block < W.heap.size := by obtain ⟨m, hm⟩ := k1; exact DataW.trod_lt m _ _ _ hm
  obtain ⟨x1, rfl, e1, _⟩ := open_value (hval 1 27 v1 rfl rfl) h1
  have T1 : x1.t.length ≤ 140737488351232 := sized_v hsz (j := 1) (x := x1) rfl (by rw [← e1]; rfl)
  clear hA0 hval0 hsz0 hsz
  refine (law_truths x0 x1 W hEnv (Nat.le_trans T0 (by decide)) (Nat.le_trans T1 (by decide))).mono fun e W' ⟨he, bel⟩ => ?_
  subst he
  exact ⟨_, rfl, _, _, _, [], _, [], hW', trodAll_mk1 (shut_bool Tryz.underlying4 _), (trodAll_cons_mk (Below.trod laidOut (by kernel_rfl) (of_decide_eq_true (by kernel_rfl)) k0 bel lt0) (trodAll_cons_mk (Below.trod laidOut (by kernel_rfl) (of_decide_eq_true (by kernel_rfl)) k1 bel lt1) trodAll_mk0)), rfl, bel.frame _, fun h => by cases h⟩
theorem valueTruths_row : Rows.ValueTruthsSaid :=
  OpenClaim.holds_of_wide 9 Tryz.f9 rfl rfl rfl rfl rfl rfl rfl ⟨rfl, rfl, rfl, rfl, rfl⟩ rfl rfl rfl rfl rfl (by kernel_rfl) Tryz.func9 (by kernel_rfl)
    (of_decide_eq_true (by kernel_rfl)) (by unfold Func.isWrapper; first | (rw [if_pos (by decide +kernel)]; kernel_rfl) | (rw [if_neg (by decide +kernel)]; exact ⟨rfl, rfl⟩))
    (fun os started H enc _ => valueTruths_lifted os started H enc)
theorem valueTruths_card : Rows.ValueTruthsCardSaid :=
  Claim7.holds_tied_plain_at .later [] [.data, .data, .data, .data, .sentinel, .sentinel, .listed, .data, .data, .pinned, .pinned] true (true, "2df1776b52db89be618cb2cc9767f232203ddef2cbc80537f057adf05aab1a8a") true
    valueTruths_row (fun _ h => by cases h) (by kernel_rfl) (fun _ h => by cases h) valueTruths_row_tie rfl ⟨rfl, rfl⟩ (by kernel_rfl) rfl
    (fun f fn hf hfn => by
      obtain rfl : f = 9 := Option.some.inj ((show Tryz.prog.funcNamed "justiciar/justiciarlaw01.ValueTruths" = some 9 by kernel_rfl).symm.trans hf) |>.symm
      obtain rfl : fn = Tryz.f9 := (Option.some.inj (Tryz.func9.symm.trans hfn)).symm
      exact ⟨by kernel_rfl, fun j t ht => by
        rw [Tryz.params9] at ht
        have hm : t ∈ [27, 27] := by simpa using Array.mem_of_getElem? ht
        have hall : ([27, 27].all fun u => !Tryz.prog.wantsStandIn u) = true := by kernel_rfl
        exact (show Tryz.prog.wantsStandIn t = false by simpa using List.all_eq_true.1 hall t hm)⟩)
    (by kernel_rfl)
#print axioms valueTruths_card
end Go.Proofs.YtpmfpfkahanlaaaGreatDoor
