/- signatures and Builtin of package value, walked. -/
import Derived.Test.YtpmfpfkahanlaaaGreatDoorHA
import Derived.Test.YtpmfpfkahanlaaaGreatDoorHD
import Derived.Test.YtpmfpfkahanlaaaGreatDoorHB
import Derived.Lib.OthersKept
import Derived.WalkSmall
import Derived.OwnWalk
import Derived.Laws.AppendOwn
import Derived.Lib.LaidTab
import Derived.Lib.AppendIntMem
import Derived.Lib.ItoaLen
import Derived.Lib.AtoiAllCases
import Derived.Lib.SplitLaws
namespace Go.Proofs.YtpmfpfkahanlaaaGreatDoor
open Go.RowKit
set_option linter.unusedSimpArgs false
set_option linter.unusedVariables false
attribute [local go_sem] Later.cell Later.lt
attribute [local go_sem high] run_eqV run_neV

def sigV : List (List UInt8 × Value) := sigT.map fun p => (p.1, .string ⟨p.2.toArray⟩)
def sigObj : Obj := .map (ents 0 sigV).toArray 12
set_option maxRecDepth 100000 in
set_option maxHeartbeats 1000000 in
theorem sigs_any (w : World) :
    Calls Tryz.prog 96 #[] w fun e w' => e = .returned (.map (some w.heap.size)) ∧ w' = w.alloc sigObj := by
  have hmm := @run_makeMap Tryz.prog
  go_enter Tryz.func96, Tryz.ntmps96
  go_wp2_with (refine wpList_ins _ rfl rfl _ _ _ 88 9 rfl Tryz.underlying88 _ _ _ (by simp) rfl _ _ rfl rfl rfl ?_)
  ((try simp only [Exit.inBlock, Exit.then]); refine bodyPost_ret (by simp only [results, Tryz.results96]; go_simp; try rfl) rfl ?_)
  exact ⟨rfl, rfl⟩
theorem look_sig (w : World) (b : Nat) (hb : b = w.heap.size) (op : List UInt8) :
    Sem.run Tryz.prog (Instr.lookup 88 (.map (some b)) (.string ⟨op.toArray⟩) true) (w.alloc sigObj) =
      .ok (.tuple #[.string ⟨(sigOf op).toArray⟩, .bool (isSig op)]) (w.alloc sigObj) := by
  subst hb
  have h := run_look (T := 88) (et := 9) (z := .string ⟨#[]⟩) sigV op w.heap.size 12 (w.alloc sigObj) Tryz.underlying88 (Tryz.zeroValue9 _) (MapKept.heap_alloc _ _).1 true
  rw [h]
  have hk : (look sigV op).getD (.string ⟨#[]⟩) = .string ⟨(sigOf op).toArray⟩ := by
    unfold sigV sigOf
    rw [look_map (fun q => Value.string ⟨q.toArray⟩) op sigT]
    cases look sigT op <;> rfl
  have hi : (look sigV op).isSome = isSig op := by
    unfold sigV isSig
    rw [look_map (fun q => Value.string ⟨q.toArray⟩) op sigT]
    cases look sigT op <;> rfl
  rw [hk, hi]
  rfl
attribute [local go_sem] look_sig
theorem builtin_any (s : List UInt8) (w : World) :
    Calls Tryz.prog 39 #[.string ⟨s.toArray⟩] w fun e w' => e = .returned (.bool (isSig s)) ∧ Below w.heap.size w w' := by
  go_enter Tryz.func39, Tryz.ntmps39
  go_wp2_with (go_at_call 96; refine (sigs_any _).mono ?_; rintro e w1 ⟨rfl, rfl⟩)
  ((try simp only [Exit.inBlock, Exit.then]); refine bodyPost_ret (by simp only [results, Tryz.results39]; go_simp; try rfl) rfl ?_)
  refine ⟨rfl, ?_⟩
  (repeat' (first | (with_reducible exact Below.refl _ _) | (with_reducible assumption) | (with_reducible refine Below.alloc ?_ ?_ _) | (with_reducible refine Below.drew ?_) | (with_reducible refine Below.drewN' ?_ _) | (with_reducible refine Below.setCell ?_ ?_ _) | (refine Below.via ?_ (by assumption) ?_) | go_size))
end Go.Proofs.YtpmfpfkahanlaaaGreatDoor

/- Signature of package value, walked. -/
namespace Go.Proofs.YtpmfpfkahanlaaaGreatDoor
open Go.RowKit
set_option linter.unusedSimpArgs false
set_option linter.unusedVariables false
attribute [local go_sem] Later.cell Later.lt
attribute [local go_sem high] run_eqV run_neV

set_option maxRecDepth 100000 in
theorem wpList_insK {ops : Array Oper} {rest : List Oper} {o : Oper} {a : Act} {Q : Exit → Act → World → Prop} (w : World) (hg : o.guard = none) (hd : o.dst = none) (m x v : Operand) (T kt et : TypeId) (kd : TypeDesc) (hkd : Tryz.prog.underlying kt = some kd) (hop : o.op = Op.insert T m x v) (ht : Tryz.prog.underlying T = some (.map kt et))
    (es : List MapEntry) (c b : Nat) (hbw : b = w.heap.size) (hm : a.eval m = .map (some b)) (k : Value) (val : Value) (hx : a.eval x = k) (hv : a.eval v = val) (hik : MapKept.IsKey kd k)
    (hf : Instr.findNow kd k es 0 = some none)
    (hK : wpList Tryz.prog ops Q rest a (w.alloc (.map (es ++ [MapEntry.mk k val c]).toArray (c + 1)))) :
    wpList Tryz.prog ops Q (o :: rest) a (w.alloc (.map es.toArray c)) := by
  subst hbw
  refine wpList_plain hg fun K' hK' => ?_
  have hb := (MapKept.heap_alloc w (.map es.toArray c)).1
  have hc : ∀ W, (Instr.checkKey false 10000 kt k).run Tryz.prog W = .ok () W := fun W => MapKept.run_checkKey hkd hik false 9999
  have hfk : ∀ W, (Instr.findKey kt k es).run Tryz.prog W = .ok none W := fun W => MapKept.run_findKey hkd hf
  have hrun : (Instr.mapUpdate T (.map (some w.heap.size)) k val).run Tryz.prog (w.alloc (.map es.toArray c)) = .ok () (w.alloc (.map (es ++ [MapEntry.mk k val c]).toArray (c + 1))) := by
    simp only [Instr.mapUpdate, Sem.run_bind, run_underlying ht, Result.andThen_ok, MapKept.run_getObj_map hb, hc, hfk, MapKept.run_setObj_map _ hb]
    show Result.ok () _ = Result.ok () _
    congr 1
    show World.mk _ _ _ _ _ = World.mk _ _ _ _ _
    congr 1
    show (w.heap.push _).setIfInBounds w.heap.size _ = w.heap.push _
    have key : ∀ (h : Array Obj) (x y y' : Obj), y = y' → (h.push x).setIfInBounds h.size y = h.push y' := by
      rintro ⟨l⟩ x y y' rfl
      simp
    exact key _ _ _ _ (by simp)
  unfold Oper.wp
  simp [execOp, hop, hm, hx, hv, hrun, Result.andThen]
  show K' (a.put o.dst undef) _
  rw [show a.put o.dst undef = a by rw [hd]; rfl]
  exact hK' _ _ hK
def kindObj : Obj := .map #[MapEntry.mk (.int .i32 105) (.int .i64 1) 0, MapEntry.mk (.int .i32 116) (.int .i64 2) 1] 2
theorem look_kind (w : World) (b : Nat) (hb : b = w.heap.size) (r : Int) :
    Sem.run Tryz.prog (Instr.lookup 112 (.map (some b)) (.int .i32 r) false) (w.alloc (.map #[MapEntry.mk (.int .i32 105) (.int .i64 1) 0, MapEntry.mk (.int .i32 116) (.int .i64 2) 1] 2)) =
      .ok (.int .i64 (kindOf r)) (w.alloc (.map #[MapEntry.mk (.int .i32 105) (.int .i64 1) 0, MapEntry.mk (.int .i32 116) (.int .i64 2) 1] 2)) := by
  subst hb
  have hgo := MapKept.run_getObj_map (P := Tryz.prog) (MapKept.heap_alloc w (.map #[MapEntry.mk (.int .i32 105) (.int .i64 1) 0, MapEntry.mk (.int .i32 116) (.int .i64 2) 1] 2)).1
  have hc : ∀ e W, (Instr.checkKey e 10000 21 (.int .i32 r)).run Tryz.prog W = .ok () W := fun e W => MapKept.run_checkKey Tryz.underlying21 (by simp [MapKept.IsKey]) e 9999
  have hz : ∀ W, (zeroValue 25).run Tryz.prog W = .ok (.int .i64 0) W := fun W => Tryz.zeroValue25 W
  simp only [Instr.lookup, Sem.run_bind, run_underlying Tryz.underlying112, Result.andThen_ok, hgo, Sem.run_pure, hc]
  unfold kindOf
  by_cases h1 : r = 105
  · subst h1
    have hf : ∀ W, (Instr.findKey 21 (.int .i32 105) [MapEntry.mk (.int .i32 105) (.int .i64 1) 0, MapEntry.mk (.int .i32 116) (.int .i64 2) 1]).run Tryz.prog W = .ok (some (0, .int .i64 1)) W := fun W => MapKept.run_findKey Tryz.underlying21 (by simp [Instr.findNow, Instr.sameNow])
    simp [hf]
  · by_cases h2 : r = 116
    · subst h2
      have hf : ∀ W, (Instr.findKey 21 (.int .i32 116) [MapEntry.mk (.int .i32 105) (.int .i64 1) 0, MapEntry.mk (.int .i32 116) (.int .i64 2) 1]).run Tryz.prog W = .ok (some (1, .int .i64 2)) W := fun W => MapKept.run_findKey Tryz.underlying21 (by simp [Instr.findNow, Instr.sameNow])
      simp [hf]
    · have b1 : (r == 105) = false := by simpa using h1
      have b2 : (r == 116) = false := by simpa using h2
      have hf : ∀ W, (Instr.findKey 21 (.int .i32 r) [MapEntry.mk (.int .i32 105) (.int .i64 1) 0, MapEntry.mk (.int .i32 116) (.int .i64 2) 1]).run Tryz.prog W = .ok none W := fun W => MapKept.run_findKey Tryz.underlying21 (by simp [Instr.findNow, Instr.sameNow, b1, b2])
      simp [hf, hz, h1, h2]
theorem info25 : (Tryz.prog.info? 25).map (fun i => (i.zero, i.size, i.bytes)) = some (some (.int .i64 0), 1, 8) := by kernel_rfl
def tyT : List (List UInt8 × Int) :=
  [([97, 98, 115], 1), ([115, 105, 103, 110], 1), ([108, 101, 110, 103, 116, 104], 1), ([116, 111, 95, 105, 110, 116], 1), ([117, 112, 112, 101, 114], 2), ([108, 111, 119, 101, 114], 2), ([115, 117, 98, 115, 116, 114], 2), ([116, 111, 95, 116, 101, 120, 116], 2)]
def tyV : List (List UInt8 × Value) := tyT.map fun p => (p.1, .int .i64 p.2)
def tyObj : Obj := .map (ents 0 tyV).toArray 8
def sigTy (s : List UInt8) : Int := (look tyT s).getD 0
theorem look_ty (w : World) (b : Nat) (hb : b = w.heap.size) (op : List UInt8) :
    Sem.run Tryz.prog (Instr.lookup 68 (.map (some b)) (.string ⟨op.toArray⟩) false) (w.alloc tyObj) = .ok (.int .i64 (sigTy op)) (w.alloc tyObj) := by
  subst hb
  have h := run_look (T := 68) (et := 25) (z := .int .i64 0) tyV op w.heap.size 8 (w.alloc tyObj) Tryz.underlying68 (Tryz.zeroValue25 _) (MapKept.heap_alloc _ _).1 false
  rw [h]
  have hk : (look tyV op).getD (.int .i64 0) = .int .i64 (sigTy op) := by
    unfold tyV sigTy
    rw [look_map (fun q => Value.int .i64 q) op tyT]
    cases look tyT op <;> rfl
  rw [if_neg (by simp), hk]
theorem ks_of_owns {w : World} {B : Nat} {v : Value} {n : Nat} {l : List Int} (h : w.ownsRow B 25 1 v n (l.map (Value.int .i64))) : ∃ A c, v = .slice A n c ∧ Ks w A n l := by
  obtain ⟨hl, h⟩ := h
  have hlen : l.length = n := by simpa using hl
  rcases h with ⟨rfl, rfl⟩ | ⟨g, cap, cur, rfl, hg, hh, h1, h2, h3, h4⟩
  · exact ⟨none, 0, rfl, hlen, fun h => absurd h (Nat.lt_irrefl _)⟩
  · refine ⟨_, cap, rfl, hlen, fun _ => ⟨g, 0, rfl, (Array.getElem?_eq_some_iff.1 hh).1, fun j hj => ?_⟩⟩
    have e : cur[j]? = some (.int .i64 l[j]) := by
      have h5 : (cur.toList.take (n * 1))[j]? = (l.map (Value.int .i64))[j]? := by rw [h4]
      rw [List.getElem?_take_of_lt (by omega)] at h5
      simpa [hj] using h5
    simp [World.cell?, hh, e]
end Go.Proofs.YtpmfpfkahanlaaaGreatDoor

/- Signature of package value, the walk. -/
namespace Go.Proofs.YtpmfpfkahanlaaaGreatDoor
open Go.RowKit
set_option linter.unusedSimpArgs false
set_option linter.unusedVariables false
attribute [local go_sem] Later.cell Later.lt look_sig look_kind
attribute [local go_sem high] run_eqV run_neV

theorem sigOf_ok (s : List UInt8) : (sigOf s).length ≤ 3 ∧ ∀ c ∈ sigOf s, c.toNat < 128 := by
  unfold sigOf
  cases h : look sigT s with
  | none => simp
  | some v =>
    have hm := look_mem h
    unfold sigT at hm
    simp only [List.mem_cons, Prod.mk.injEq, List.not_mem_nil, or_false] at hm
    rcases hm with ⟨h1, h2⟩ | ⟨h1, h2⟩ | ⟨h1, h2⟩ | ⟨h1, h2⟩ | ⟨h1, h2⟩ | ⟨h1, h2⟩ | ⟨h1, h2⟩ | ⟨h1, h2⟩ | ⟨h1, h2⟩ | ⟨h1, h2⟩ | ⟨h1, h2⟩ | ⟨h1, h2⟩
    all_goals (subst h2; decide)
theorem own_block {w : World} {B : Nat} {e : TypeId} {size : Nat} {v : Value} {n : Nat} {xs : List Value} (h : w.ownsRow B e size v n xs) : ∀ k, v.ownBlock = some k → B ≤ k := by
  obtain ⟨_, h⟩ := h
  rcases h with ⟨rfl, _⟩ | ⟨g, cap, cur, rfl, hg, _⟩
  · intro k hk; cases hk
  · intro k hk; cases hk; exact hg
theorem own_keep {w w' : World} {B : Nat} {e : TypeId} {size : Nat} {v : Value} {n : Nat} {xs : List Value} (h : w.ownsRow B e size v n xs) (hk : ∀ g, B ≤ g → w'.heap[g]? = w.heap[g]?) : w'.ownsRow B e size v n xs := by
  obtain ⟨hl, h⟩ := h
  refine ⟨hl, ?_⟩
  rcases h with h | ⟨g, cap, cur, hv, hg, hh, r⟩
  · exact .inl h
  · exact .inr ⟨g, cap, cur, hv, hg, (hk g hg).trans hh, r⟩
theorem look_ty_lit (w : World) (b : Nat) (hb : b = w.heap.size) (op : List UInt8) :
    Sem.run Tryz.prog (Instr.lookup 68 (.map (some b)) (.string ⟨op.toArray⟩) false) (w.alloc (.map #[MapEntry.mk (.string ⟨#[97, 98, 115]⟩) (.int .i64 1) 0, MapEntry.mk (.string ⟨#[115, 105, 103, 110]⟩) (.int .i64 1) 1, MapEntry.mk (.string ⟨#[108, 101, 110, 103, 116, 104]⟩) (.int .i64 1) 2, MapEntry.mk (.string ⟨#[116, 111, 95, 105, 110, 116]⟩) (.int .i64 1) 3, MapEntry.mk (.string ⟨#[117, 112, 112, 101, 114]⟩) (.int .i64 2) 4, MapEntry.mk (.string ⟨#[108, 111, 119, 101, 114]⟩) (.int .i64 2) 5, MapEntry.mk (.string ⟨#[115, 117, 98, 115, 116, 114]⟩) (.int .i64 2) 6, MapEntry.mk (.string ⟨#[116, 111, 95, 116, 101, 120, 116]⟩) (.int .i64 2) 7] 8)) =
      .ok (.int .i64 (sigTy op)) (w.alloc (.map #[MapEntry.mk (.string ⟨#[97, 98, 115]⟩) (.int .i64 1) 0, MapEntry.mk (.string ⟨#[115, 105, 103, 110]⟩) (.int .i64 1) 1, MapEntry.mk (.string ⟨#[108, 101, 110, 103, 116, 104]⟩) (.int .i64 1) 2, MapEntry.mk (.string ⟨#[116, 111, 95, 105, 110, 116]⟩) (.int .i64 1) 3, MapEntry.mk (.string ⟨#[117, 112, 112, 101, 114]⟩) (.int .i64 2) 4, MapEntry.mk (.string ⟨#[108, 111, 119, 101, 114]⟩) (.int .i64 2) 5, MapEntry.mk (.string ⟨#[115, 117, 98, 115, 116, 114]⟩) (.int .i64 2) 6, MapEntry.mk (.string ⟨#[116, 111, 95, 116, 101, 120, 116]⟩) (.int .i64 2) 7] 8)) := look_ty w b hb op
attribute [local go_sem] look_ty_lit
set_option maxRecDepth 100000 in
set_option maxHeartbeats 4000000 in
theorem signature_any (op : List UInt8) (w : World) :
    Calls Tryz.prog 84 #[.string ⟨op.toArray⟩] w fun e w' => ∃ (A : Option Addr) (c : Nat), e = .returned (.tuple #[.slice A (sKinds op).length c, .int .i64 (sigTy op), .bool (isSig op)]) ∧ Ks w' A (sKinds op).length (sKinds op) ∧ Below w.heap.size w w' := by
  have hmm := @run_makeMap Tryz.prog
  obtain ⟨i0, hi, hz0, hz1, hz2⟩ := info_parts info25
  unfold sKinds
  rw [List.length_map]
  obtain ⟨hs1, hs2⟩ := sigOf_ok op
  have HL := Lib.hid hs2
  clear hs2
  generalize hs : sigOf op = s at HL hs1
  go_enter Tryz.func84, Tryz.ntmps84
  go_wp2_with (go_at_call 96; refine (sigs_any _).mono ?_; rintro e w1 ⟨rfl, rfl⟩)
  go_loopw [2] (fun v wr => ∃ pos : Nat, pos ≤ s.length ∧ Hid (wr.heap[w.heap.size + 1]? = some (.stringIter ⟨s.toArray⟩ pos)) ∧ Hid (wr.ownsRow (w.heap.size + 2) 25 1 v pos ((s.take pos).map fun c => Value.int .i64 (kindOf (c.toNat : Int)))) ∧ Hid (Below w.heap.size w wr) ∧ w.heap.size + 2 ≤ wr.heap.size) (fun _ wr => s.length - wr.iterPos (w.heap.size + 1))
  case atStart =>
    refine ⟨0, Nat.zero_le _, ?_, World.ownsRow_nil _ _ _ _, ?_, ?_⟩
    · have := World.iter_heap (w.alloc sigObj) ⟨s.toArray⟩ 0
      rw [World.size_alloc] at this
      exact this
    · exact Lib.hid (((Below.refl w.heap.size w).alloc (Nat.le_refl _) sigObj).alloc (o := .stringIter ⟨s.toArray⟩ 0) (by simp))
    · show w.heap.size + 2 ≤ ((w.alloc sigObj).alloc (.stringIter ⟨s.toArray⟩ 0)).heap.size
      simp
  case round =>
    obtain ⟨pos, hpos, HI, HO, HB, hsz⟩ := hrel
    by_cases hl : pos < s.length
    · have hnx : ∀ ty, (Instr.next (.pointer (some ⟨w.heap.size + 1, 0, none⟩)) true ty).run Tryz.prog wr = _ := fun ty => Lib.run_next_ascii_at wr (w.heap.size + 1) ⟨s.toArray⟩ pos ty HI.out hl (HL.out _ (List.getElem_mem hl))
      have KI := Lib.iterAt_heap wr (w.heap.size + 1) ⟨s.toArray⟩ pos (pos + 1) HI.out
      have KO := own_keep (w' := wr.iterAt (w.heap.size + 1) ⟨s.toArray⟩ (pos + 1)) HO.out (fun g hg => Lib.iterAt_other _ _ _ _ _ (by omega))
      have KB := Lib.below_iterAt HB.out (show w.heap.size ≤ w.heap.size + 1 by omega) ⟨s.toArray⟩ (pos + 1)
      have KZ : (wr.iterAt (w.heap.size + 1) ⟨s.toArray⟩ (pos + 1)).heap.size = wr.heap.size := Lib.iterAt_size _ _ _ _
      have hpos0 := iterPos_at HI.out
      generalize hW1 : wr.iterAt (w.heap.size + 1) ⟨s.toArray⟩ (pos + 1) = W1 at hnx KI KO KB KZ
      clear hW1
      have he : ({ data := s.toArray } : ByteArray)[pos]'(show pos < s.length from hl) = s[pos] := rfl
      have HT : Hid ((s.take (pos + 1)).map (fun c => Value.int .i64 (kindOf (c.toNat : Int))) = (s.take pos).map (fun c => Value.int .i64 (kindOf (c.toNat : Int))) ++ [.int .i64 (kindOf (s[pos].toNat : Int))]) := Lib.hid (by rw [List.take_succ_eq_append_getElem hl, List.map_append]; rfl)
      generalize s[pos] = ch at he HT hnx
      have HH := Lib.hid (And.intro KI (And.intro KO (And.intro KB KZ)))
      clear KI KO KB KZ
      go_wp2_with (first | (refine wpList_insK _ rfl rfl _ _ _ 112 21 25 _ Tryz.underlying21 rfl Tryz.underlying112 _ _ _ (by simp) rfl _ _ rfl rfl (by simp [MapKept.IsKey, Act.eval]) rfl ?_) | (at_builtin; refine wpList_append_own _ rfl _ _ 79 rfl (w.heap.size + 2) 25 i0 (.int .i64 0) 1 8 Tryz.underlying79 hi hz0 hz1 hz2 rfl (by decide) _ _ _ rfl ((HH.out.2.1.alloc _).alloc _) ⟨W1.heap.size + 1, 0, none⟩ 1 1 [.int .i64 (kindOf (ch.toNat : Int))] rfl rfl ?c1 ?c2 ?c3 ?c4 ?c5 ?_))
      case c1 =>
        intro j u hj
        match j, hj with
        | 0, hj => simp at hj; subst hj; simp [Addr.add]
      case c2 => intro u hu; simp at hu; subst hu; rfl
      case c3 => unfold maxLen; omega
      case c4 => omega
      case c5 => have := HH.out.2.2.2; simp; omega
      · intro v' w1 hown' hgrow _
        have hz : wr.heap.size ≤ W1.heap.size := by rw [HH.out.2.2.2]; exact Nat.le_refl _
        have hob : some (w.heap.size + 1) ≠ Value.ownBlock u2 := fun e => by have := own_block HH.out.2.1 _ e.symm; omega
        have hI := (hgrow.block (w.heap.size + 1) (by simp; omega) hob).trans (((MapKept.heap_alloc _ _).2 _ (by simp; omega)).trans (((MapKept.heap_alloc _ _).2 _ (by omega)).trans HH.out.1))
        have hB : Below w.heap.size w w1 := (((HH.out.2.2.1.alloc (by omega) _).alloc (by simp; omega) _)).grown hgrow (by simp; omega) (fun k hk => by have := own_block HH.out.2.1 k hk; omega)
        have hZ : w.heap.size + 2 ≤ w1.heap.size := by have := hgrow.size; simp at this; omega
        have KK := Lib.hid (And.intro hown' (And.intro hI (And.intro hB hZ)))
        clear hown' hgrow hI hB
        go_wp2
        go_roundw
        case rel => exact ⟨pos + 1, by omega, KK.out.2.1, Lib.hid (by rw [HT.out]; have := KK.out.1; rw [← List.map_take] at this; exact this), KK.out.2.2.1, hZ⟩
        case measure => rw [iterPos_at KK.out.2.1, hpos0]; omega
    · obtain rfl : pos = s.length := by omega
      have hnx : ∀ ty, (Instr.next (.pointer (some ⟨w.heap.size + 1, 0, none⟩)) true ty).run Tryz.prog wr = _ := fun ty => Lib.run_next_end_at wr (w.heap.size + 1) ⟨s.toArray⟩ s.length ty HI.out (show ¬ s.length < s.length by omega)
      have hv := HO.out
      rw [List.take_length, show (s.map fun c => Value.int .i64 (kindOf (c.toNat : Int))) = (s.map fun c => kindOf (c.toNat : Int)).map (Value.int .i64) by rw [List.map_map]; rfl] at hv
      obtain ⟨A, c, hv1, hv2⟩ := ks_of_owns hv
      subst hv1
      have HV := Lib.hid hv2
      clear hv hv2
      have hB := Lib.hid (And.intro HB.out hsz)
      go_wp2_with (refine wpList_ins _ rfl rfl _ _ _ 68 25 rfl Tryz.underlying68 _ _ _ (by simp) rfl _ _ rfl rfl rfl ?_)
      have hlook : ∀ p : Later (wr.alloc tyObj), Sem.run Tryz.prog (Instr.lookup 68 (.map (some wr.heap.size)) (.string ⟨op.toArray⟩) false) p.w = .ok (.int .i64 (sigTy op)) p.w := fun p => by
        have h := run_look (T := 68) (et := 25) (z := .int .i64 0) tyV op wr.heap.size 8 p.w Tryz.underlying68 (Tryz.zeroValue25 _) ((p.b.block _ (by simp)).trans (MapKept.heap_alloc _ _).1) false
        rw [h]
        have hk : (look tyV op).getD (.int .i64 0) = .int .i64 (sigTy op) := by
          unfold tyV sigTy
          rw [look_map (fun q => Value.int .i64 q) op tyT]
          cases look tyT op <;> rfl
        rw [if_neg (by simp), hk]
      have hWB : Below w.heap.size w (wr.alloc tyObj) := hB.out.1.alloc (by have := hB.out.2; omega) _
      have hWK : Ks (wr.alloc tyObj) A s.length (s.map fun c => kindOf (c.toNat : Int)) := HV.out.later ((Below.refl _ _).alloc (Nat.le_refl _) _)
      refine (show Code.wp Tryz.prog _ _ _ (wr.alloc tyObj) from ?_)
      generalize wr.alloc tyObj = WW at hlook hWB hWK
      generalize wr.heap.size = bb at hlook
      have HWB := Lib.hid (And.intro hWB hWK)
      clear hWB hWK
      refine wp_region_later (by kernel_rfl) (by kernel_rfl) ?_; (repeat (quiet_step ((fail)))); refine wpQuiet_nil ?_; intro w' hw'; obtain ⟨⟨w', hb⟩, hw''⟩ := hw'; subst hw''
      go_wp2
      ((try simp only [Exit.inBlock, Exit.then]); refine bodyPost_ret (by simp only [results, Tryz.results84]; go_simp; try rfl) rfl ?_)
      exact ⟨A, c, rfl, HWB.out.2.later hb, HWB.out.1.trans (hb.mono HWB.out.1.size)⟩
end Go.Proofs.YtpmfpfkahanlaaaGreatDoor

/- What the package-level variables read as, kept by calls; the library's functions over them. -/
namespace Go.Proofs.YtpmfpfkahanlaaaGreatDoor
open Go.RowKit
set_option linter.unusedSimpArgs false
set_option linter.unusedVariables false

theorem var_later {n : String} {g : Nat} {w w' : World} {cs : Array Value} (hg : Tryz.prog.globalNamed n = some g) (hb : Below w.heap.size w w') (h : w.var? Tryz.prog n = some cs) : w'.var? Tryz.prog n = some cs := by
  unfold World.var? at h ⊢
  rw [hg] at h ⊢
  simp only [Option.bind_some] at h ⊢
  cases hh : w.heap[g]? with
  | none => rw [hh] at h; cases h
  | some o =>
    have hlt : g < w.heap.size := (Array.getElem?_eq_some_iff.1 hh).1
    rw [hb.block g hlt]
    exact h
structure Env (w : World) : Prop where
  nul : Nul w
  sp : Lib.TabIs Tryz.prog w "strings.asciiSpace" .u8 Lib.asciiSpaceTab
  p10 : Lib.TabIs Tryz.prog w "internal/strconv.uint64pow10" .u64 Lib.pow10Tab
  esx : ∃ tp p, w.var? Tryz.prog "strconv.ErrSyntax" = some #[.iface tp p]
  erg : ∃ tp p, w.var? Tryz.prog "strconv.ErrRange" = some #[.iface tp p]
  ml : ∃ m, w.cell? ⟨2, 0, none⟩ = some (.int .i64 m)
theorem Env.later {w w' : World} (h : Env w) (hb : Below w.heap.size w w') : Env w' := by
  refine ⟨h.nul.later hb, ?_, ?_, ?_, ?_, ?_⟩
  · exact var_later (g := 1) (by kernel_rfl) hb h.sp
  · exact var_later (g := 9) (by kernel_rfl) hb h.p10
  · obtain ⟨tp, p, hv⟩ := h.esx
    exact ⟨tp, p, var_later (g := 3) (by kernel_rfl) hb hv⟩
  · obtain ⟨tp, p, hv⟩ := h.erg
    exact ⟨tp, p, var_later (g := 4) (by kernel_rfl) hb hv⟩
  · obtain ⟨m, hm⟩ := h.ml
    refine ⟨m, ?_⟩
    have hlt : 2 < w.heap.size := by
      rcases Nat.lt_or_ge 2 w.heap.size with h | h
      · exact h
      · rw [World.cell?, Array.getElem?_eq_none (show w.heap.size ≤ 2 from h)] at hm
        cases hm
    rw [hb.cell (p := ⟨2, 0, none⟩) hlt]
    exact hm
theorem upper_any (t : List UInt8) (w : World) (ht : t.length ≤ 140737488355328) (hlow : ∀ c ∈ t, c.toNat < 128) :
    Calls Tryz.prog 121 #[.string ⟨t.toArray⟩] w fun e w' => e = .returned (.string ⟨(Lib.toUpperA t).toArray⟩) ∧ Below w.heap.size w w' :=
  Tryz.strings_ToUpper_ascii ⟨t.toArray⟩ w ht fun j b hb => hlow b (List.mem_of_getElem? hb)
theorem lower_any (t : List UInt8) (w : World) (ht : t.length ≤ 140737488355328) (hlow : ∀ c ∈ t, c.toNat < 128) :
    Calls Tryz.prog 122 #[.string ⟨t.toArray⟩] w fun e w' => e = .returned (.string ⟨(Lib.toLowerA t).toArray⟩) ∧ Below w.heap.size w w' :=
  Tryz.strings_ToLower_ascii ⟨t.toArray⟩ w ht fun j b hb => hlow b (List.mem_of_getElem? hb)
theorem itoa_any (n : Int) (w : World) (h0 : -9223372036854775808 ≤ n) (h1 : n ≤ 9223372036854775807) (hE : Env w) :
    Calls Tryz.prog 123 #[.int .i64 n] w fun e w' => e = .returned (.string ⟨(Lib.itoa n).toArray⟩) ∧ Below w.heap.size w w' :=
  (Tryz.strconv_Itoa n h0 h1 w hE.p10).mono fun _ _ ⟨h, k, os, hw⟩ => ⟨h, hw ▸ Lib.below_grow _ _ (Nat.le_refl _) _ _⟩
theorem below_bytesWorld (w : World) (e : TypeId) (s : ByteArray) : Below w.heap.size w (Lib.bytesWorld w e s) := by
  have h : Below w.heap.size w (w.drew.alloc (.cells (Lib.bytesCells w e s) e)) := ((Below.refl _ _).drew).alloc (Nat.le_refl _) _
  refine ⟨h.os, h.tape, h.output, ?_, fun k hk => ?_⟩
  · have := h.size
    simp [Lib.bytesWorld, World.freeze]
  · rw [← h.block k hk]
    simp only [Lib.bytesWorld, World.freeze]
    rw [if_neg (by decide)]
    simp only []
    rw [Array.getElem?_modify, if_neg (by show ¬ w.heap.size = k; omega)]
theorem atoi_any (t : List UInt8) (w : World) (ht : t.length ≤ 281474976710656) (hE : Env w) :
    Calls Tryz.prog 105 #[.string ⟨t.toArray⟩] w fun e w' => ∃ (n : Int) (er : Value), e = .returned (.tuple #[.int .i64 n, er]) ∧ Below w.heap.size w w' ∧ (atoiV t = some n ∧ er = .nilIface ∨ atoiV t = none ∧ ∃ N, er = .iface 135 (.pointer (some ⟨N, 0, none⟩))) := by
  rcases h : Lib.atoiAll t with v | _ | _
  · refine (Tryz.strconv_Atoi_ok ⟨t.toArray⟩ (show t.length ≤ _ by omega) v h w).mono ?_
    rintro e w' ⟨rfl, hw⟩
    refine ⟨v, _, rfl, ?_, .inl ⟨by unfold atoiV; rw [h], rfl⟩⟩
    rcases hw with rfl | ⟨s, rfl⟩
    · exact Below.refl _ _
    · exact below_bytesWorld _ _ _
  · obtain ⟨tp, p, hv⟩ := hE.esx
    refine (Tryz.strconv_Atoi_syntax_var ⟨t.toArray⟩ ht h tp p w hv).mono ?_
    rintro e w' ⟨N, rfl, _, _, hb⟩
    exact ⟨_, _, rfl, hb, .inr ⟨by unfold atoiV; rw [h], N, rfl⟩⟩
  · obtain ⟨tp, p, hv⟩ := hE.erg
    refine (Tryz.strconv_Atoi_range_var ⟨t.toArray⟩ ht h tp p w hv).mono ?_
    rintro e w' ⟨N, rfl, _, _, hb⟩
    exact ⟨_, _, rfl, hb, .inr ⟨by unfold atoiV; rw [h], N, rfl⟩⟩
end Go.Proofs.YtpmfpfkahanlaaaGreatDoor

/- called of package value, walked. -/
namespace Go.Proofs.YtpmfpfkahanlaaaGreatDoor
open Go.RowKit
set_option linter.unusedSimpArgs false
set_option linter.unusedVariables false
attribute [local go_sem] Later.cell Later.lt
attribute [local go_sem high] run_eqV run_neV
attribute [local go_sem] cell_set_same

theorem whole_e (n : Int) (w : World) (hN : Nul w) : Calls Tryz.prog 65 #[.int .i64 n] w fun e w' => e = .returned (.tuple #[.agg #[.int .i64 (sWhole n).1.k, .int .i64 (sWhole n).1.n, .string ⟨List.toArray (sWhole n).1.t⟩], .int .i64 (sWhole n).2]) ∧ Below w.heap.size w w' := whole_any n w hN.n0 hN.n1 hN.n2 hN.pos
theorem written_e (t : List UInt8) (w : World) (ht : t.length ≤ 9223372036854775807) (hN : Nul w) : Calls Tryz.prog 71 #[.string ⟨t.toArray⟩] w fun e w' => e = .returned (.tuple #[.agg #[.int .i64 (sWritten t).1.k, .int .i64 (sWritten t).1.n, .string ⟨List.toArray (sWritten t).1.t⟩], .int .i64 (sWritten t).2]) ∧ Below w.heap.size w w' := written_any t w ht hN.n0 hN.n1 hN.n2 hN.pos
/-- A slice of at least one value: where it lies. -/
theorem Sl.first {w : World} {A : Option Addr} {n : Nat} {x : V} {r : List V} (h : Sl w A n (x :: r)) : ∃ b off, A = some ⟨b, off, none⟩ ∧ b < w.heap.size ∧ 0 < n ∧
    w.cell? ⟨b, off, none⟩ = some (.int .i64 x.k) ∧ w.cell? ⟨b, off + 1, none⟩ = some (.int .i64 x.n) ∧ w.cell? ⟨b, off + 2, none⟩ = some (.string ⟨x.t.toArray⟩) := by
  have hn : 0 < n := by have := h.len; simp at this; omega
  obtain ⟨b, off, rfl, hb, hc⟩ := h.at_ hn
  have := hc 0 (by simp)
  exact ⟨b, off, rfl, hb, hn, by simpa using this⟩
set_option maxRecDepth 100000 in
set_option maxHeartbeats 4000000 in
theorem called_abs (A : Option Addr) (n c : Nat) (x : V) (r : List V) (w : World) (hE : Env w) (hS : Sl w A n (x :: r)) (h1 : -1099511627776 ≤ x.n) (h2 : x.n ≤ 1099511627776) :
    Calls Tryz.prog 88 #[.string ⟨#[97, 98, 115]⟩, .slice A n c] w fun e w' => e = .returned (.tuple #[.agg #[.int .i64 (sWhole (max x.n (-x.n))).1.k, .int .i64 (sWhole (max x.n (-x.n))).1.n, .string ⟨List.toArray (sWhole (max x.n (-x.n))).1.t⟩], .int .i64 (sWhole (max x.n (-x.n))).2]) ∧ Below w.heap.size w w' := by
  obtain ⟨b, off, rfl, hb, hn, c0, c1, c2⟩ := hS.first
  have HE := Lib.hid hE
  obtain ⟨k, m, t⟩ := x
  clear hE hS
  simp only at *
  go_enter Tryz.func88, Tryz.ntmps88
  go_wp2_with ((go_at_call 65; refine (whole_e _ _ ((HE.out.later (by (repeat' (first | (with_reducible exact Below.refl _ _) | (with_reducible assumption) | (with_reducible refine Below.alloc ?_ ?_ _) | (with_reducible refine Below.drew ?_) | (with_reducible refine Below.drewN' ?_ _) | (with_reducible refine Below.setCell ?_ ?_ _) | (refine Below.via ?_ (by assumption) ?_) | go_size)))).nul)).mono ?_; rintro e w1 ⟨rfl, hbw1⟩; obtain ⟨hcw1, hfw1⟩ := bfacts hbw1; have hzw1 := hbw1.size; (try simp only [World.size_alloc, World.size_setCell, World.size_drew] at hzw1); (try have hpw1 : 0 < w1.heap.size := by omega); (try have : w.heap.size < w1.heap.size := by omega); (try have : w.heap.size + 1 < w1.heap.size := by omega); (try have : w.heap.size + 1 + 1 < w1.heap.size := by omega); (try have : w.heap.size + 1 + 1 + 1 < w1.heap.size := by omega); (try have : w.heap.size + 1 + 1 + 1 + 1 < w1.heap.size := by omega); (try have : w.heap.size + 1 + 1 + 1 + 1 + 1 < w1.heap.size := by omega); (try have : w.heap.size < w1.heap.size + 1 := by omega); (try have : w.heap.size + 1 < w1.heap.size + 1 := by omega); (try have : w.heap.size + 1 + 1 < w1.heap.size + 1 := by omega); (try have : w.heap.size + 1 + 1 + 1 < w1.heap.size + 1 := by omega); (try have : w.heap.size + 1 + 1 + 1 + 1 < w1.heap.size + 1 := by omega)); (have qw10 : w1.cell? ⟨w.heap.size, 0, none⟩ = some (.int .i64 0) := (hcw1 _ _ (by go_size)).trans (by go_simp); have qw11 : w1.cell? ⟨w.heap.size, 1, none⟩ = some (.int .i64 0) := (hcw1 _ _ (by go_size)).trans (by go_simp); have qw12 : w1.cell? ⟨w.heap.size, 2, none⟩ = some (.string ⟨#[]⟩) := (hcw1 _ _ (by go_size)).trans (by go_simp)))
  ((try simp only [Exit.inBlock, Exit.then]); refine bodyPost_ret (by simp only [results, Tryz.results88]; go_simp; try rfl) rfl ?_)
  refine ⟨rfl, ?_⟩
  (repeat' (first | (with_reducible exact Below.refl _ _) | (with_reducible assumption) | (with_reducible refine Below.alloc ?_ ?_ _) | (with_reducible refine Below.drew ?_) | (with_reducible refine Below.drewN' ?_ _) | (with_reducible refine Below.setCell ?_ ?_ _) | (refine Below.via ?_ (by assumption) ?_) | go_size))
set_option maxRecDepth 100000 in
set_option maxHeartbeats 4000000 in
theorem called_sign (A : Option Addr) (n c : Nat) (x : V) (r : List V) (w : World) (hE : Env w) (hS : Sl w A n (x :: r)) :
    Calls Tryz.prog 88 #[.string ⟨#[115, 105, 103, 110]⟩, .slice A n c] w fun e w' => e = .returned (.tuple #[.agg #[.int .i64 (sWhole (min (max x.n (-1)) 1)).1.k, .int .i64 (sWhole (min (max x.n (-1)) 1)).1.n, .string ⟨List.toArray (sWhole (min (max x.n (-1)) 1)).1.t⟩], .int .i64 (sWhole (min (max x.n (-1)) 1)).2]) ∧ Below w.heap.size w w' := by
  obtain ⟨b, off, rfl, hb, hn, c0, c1, c2⟩ := hS.first
  have HE := Lib.hid hE
  obtain ⟨k, m, t⟩ := x
  clear hE hS
  simp only at *
  go_enter Tryz.func88, Tryz.ntmps88
  go_wp2_with ((go_at_call 65; refine (whole_e _ _ ((HE.out.later (by (repeat' (first | (with_reducible exact Below.refl _ _) | (with_reducible assumption) | (with_reducible refine Below.alloc ?_ ?_ _) | (with_reducible refine Below.drew ?_) | (with_reducible refine Below.drewN' ?_ _) | (with_reducible refine Below.setCell ?_ ?_ _) | (refine Below.via ?_ (by assumption) ?_) | go_size)))).nul)).mono ?_; rintro e w1 ⟨rfl, hbw1⟩; obtain ⟨hcw1, hfw1⟩ := bfacts hbw1; have hzw1 := hbw1.size; (try simp only [World.size_alloc, World.size_setCell, World.size_drew] at hzw1); (try have hpw1 : 0 < w1.heap.size := by omega); (try have : w.heap.size < w1.heap.size := by omega); (try have : w.heap.size + 1 < w1.heap.size := by omega); (try have : w.heap.size + 1 + 1 < w1.heap.size := by omega); (try have : w.heap.size + 1 + 1 + 1 < w1.heap.size := by omega); (try have : w.heap.size + 1 + 1 + 1 + 1 < w1.heap.size := by omega); (try have : w.heap.size + 1 + 1 + 1 + 1 + 1 < w1.heap.size := by omega); (try have : w.heap.size < w1.heap.size + 1 := by omega); (try have : w.heap.size + 1 < w1.heap.size + 1 := by omega); (try have : w.heap.size + 1 + 1 < w1.heap.size + 1 := by omega); (try have : w.heap.size + 1 + 1 + 1 < w1.heap.size + 1 := by omega); (try have : w.heap.size + 1 + 1 + 1 + 1 < w1.heap.size + 1 := by omega)); (have qw10 : w1.cell? ⟨w.heap.size, 0, none⟩ = some (.int .i64 0) := (hcw1 _ _ (by go_size)).trans (by go_simp); have qw11 : w1.cell? ⟨w.heap.size, 1, none⟩ = some (.int .i64 0) := (hcw1 _ _ (by go_size)).trans (by go_simp); have qw12 : w1.cell? ⟨w.heap.size, 2, none⟩ = some (.string ⟨#[]⟩) := (hcw1 _ _ (by go_size)).trans (by go_simp)))
  ((try simp only [Exit.inBlock, Exit.then]); refine bodyPost_ret (by simp only [results, Tryz.results88]; go_simp; try rfl) rfl ?_)
  refine ⟨rfl, ?_⟩
  (repeat' (first | (with_reducible exact Below.refl _ _) | (with_reducible assumption) | (with_reducible refine Below.alloc ?_ ?_ _) | (with_reducible refine Below.drew ?_) | (with_reducible refine Below.drewN' ?_ _) | (with_reducible refine Below.setCell ?_ ?_ _) | (refine Below.via ?_ (by assumption) ?_) | go_size))
set_option maxRecDepth 100000 in
set_option maxHeartbeats 4000000 in
theorem called_length (A : Option Addr) (n c : Nat) (x : V) (r : List V) (w : World) (hE : Env w) (hS : Sl w A n (x :: r)) (h1 : x.t.length ≤ 200) :
    Calls Tryz.prog 88 #[.string ⟨#[108, 101, 110, 103, 116, 104]⟩, .slice A n c] w fun e w' => e = .returned (.tuple #[.agg #[.int .i64 (sWhole (x.t.length : Int)).1.k, .int .i64 (sWhole (x.t.length : Int)).1.n, .string ⟨List.toArray (sWhole (x.t.length : Int)).1.t⟩], .int .i64 (sWhole (x.t.length : Int)).2]) ∧ Below w.heap.size w w' := by
  obtain ⟨b, off, rfl, hb, hn, c0, c1, c2⟩ := hS.first
  have HE := Lib.hid hE
  obtain ⟨k, m, t⟩ := x
  clear hE hS
  simp only at *
  go_enter Tryz.func88, Tryz.ntmps88
  go_wp2_with ((go_at_call 65; refine (whole_e _ _ ((HE.out.later (by (repeat' (first | (with_reducible exact Below.refl _ _) | (with_reducible assumption) | (with_reducible refine Below.alloc ?_ ?_ _) | (with_reducible refine Below.drew ?_) | (with_reducible refine Below.drewN' ?_ _) | (with_reducible refine Below.setCell ?_ ?_ _) | (refine Below.via ?_ (by assumption) ?_) | go_size)))).nul)).mono ?_; rintro e w1 ⟨rfl, hbw1⟩; obtain ⟨hcw1, hfw1⟩ := bfacts hbw1; have hzw1 := hbw1.size; (try simp only [World.size_alloc, World.size_setCell, World.size_drew] at hzw1); (try have hpw1 : 0 < w1.heap.size := by omega); (try have : w.heap.size < w1.heap.size := by omega); (try have : w.heap.size + 1 < w1.heap.size := by omega); (try have : w.heap.size + 1 + 1 < w1.heap.size := by omega); (try have : w.heap.size + 1 + 1 + 1 < w1.heap.size := by omega); (try have : w.heap.size + 1 + 1 + 1 + 1 < w1.heap.size := by omega); (try have : w.heap.size + 1 + 1 + 1 + 1 + 1 < w1.heap.size := by omega); (try have : w.heap.size < w1.heap.size + 1 := by omega); (try have : w.heap.size + 1 < w1.heap.size + 1 := by omega); (try have : w.heap.size + 1 + 1 < w1.heap.size + 1 := by omega); (try have : w.heap.size + 1 + 1 + 1 < w1.heap.size + 1 := by omega); (try have : w.heap.size + 1 + 1 + 1 + 1 < w1.heap.size + 1 := by omega)); (have qw10 : w1.cell? ⟨w.heap.size, 0, none⟩ = some (.int .i64 0) := (hcw1 _ _ (by go_size)).trans (by go_simp); have qw11 : w1.cell? ⟨w.heap.size, 1, none⟩ = some (.int .i64 0) := (hcw1 _ _ (by go_size)).trans (by go_simp); have qw12 : w1.cell? ⟨w.heap.size, 2, none⟩ = some (.string ⟨#[]⟩) := (hcw1 _ _ (by go_size)).trans (by go_simp)))
  ((try simp only [Exit.inBlock, Exit.then]); refine bodyPost_ret (by simp only [results, Tryz.results88]; go_simp; try rfl) rfl ?_)
  refine ⟨rfl, ?_⟩
  (repeat' (first | (with_reducible exact Below.refl _ _) | (with_reducible assumption) | (with_reducible refine Below.alloc ?_ ?_ _) | (with_reducible refine Below.drew ?_) | (with_reducible refine Below.drewN' ?_ _) | (with_reducible refine Below.setCell ?_ ?_ _) | (refine Below.via ?_ (by assumption) ?_) | go_size))
theorem upperA_length (t : List UInt8) : (Lib.toUpperA t).length = t.length := by simp [Lib.toUpperA]
theorem lowerA_length (t : List UInt8) : (Lib.toLowerA t).length = t.length := by simp [Lib.toLowerA]
set_option maxRecDepth 100000 in
set_option maxHeartbeats 4000000 in
theorem called_upper (A : Option Addr) (n c : Nat) (x : V) (r : List V) (w : World) (hE : Env w) (hS : Sl w A n (x :: r)) (h1 : x.t.length ≤ 200) (hl : ∀ c ∈ x.t, c.toNat < 128) :
    Calls Tryz.prog 88 #[.string ⟨#[117, 112, 112, 101, 114]⟩, .slice A n c] w fun e w' => e = .returned (.tuple #[.agg #[.int .i64 (sWritten (Lib.toUpperA x.t)).1.k, .int .i64 (sWritten (Lib.toUpperA x.t)).1.n, .string ⟨List.toArray (sWritten (Lib.toUpperA x.t)).1.t⟩], .int .i64 (sWritten (Lib.toUpperA x.t)).2]) ∧ Below w.heap.size w w' := by
  obtain ⟨b, off, rfl, hb, hn, c0, c1, c2⟩ := hS.first
  have HE := Lib.hid hE
  obtain ⟨k, m, t⟩ := x
  clear hE hS
  simp only at *
  have HT := Lib.hid hl
  clear hl
  go_enter Tryz.func88, Tryz.ntmps88
  go_wp2_with (first | (go_at_call 121; refine (upper_any _ _ (by omega) HT.out).mono ?_; rintro e w1 ⟨rfl, hbw1⟩; obtain ⟨hcw1, hfw1⟩ := bfacts hbw1; have hzw1 := hbw1.size; (try simp only [World.size_alloc, World.size_setCell, World.size_drew] at hzw1); (try have hpw1 : 0 < w1.heap.size := by omega); (try have : w.heap.size < w1.heap.size := by omega); (try have : w.heap.size + 1 < w1.heap.size := by omega); (try have : w.heap.size + 1 + 1 < w1.heap.size := by omega); (try have : w.heap.size + 1 + 1 + 1 < w1.heap.size := by omega); (try have : w.heap.size + 1 + 1 + 1 + 1 < w1.heap.size := by omega); (try have : w.heap.size + 1 + 1 + 1 + 1 + 1 < w1.heap.size := by omega); (try have : w.heap.size < w1.heap.size + 1 := by omega); (try have : w.heap.size + 1 < w1.heap.size + 1 := by omega); (try have : w.heap.size + 1 + 1 < w1.heap.size + 1 := by omega); (try have : w.heap.size + 1 + 1 + 1 < w1.heap.size + 1 := by omega); (try have : w.heap.size + 1 + 1 + 1 + 1 < w1.heap.size + 1 := by omega)); (have qw10 : w1.cell? ⟨w.heap.size, 0, none⟩ = some (.int .i64 0) := (hcw1 _ _ (by go_size)).trans (by go_simp); have qw11 : w1.cell? ⟨w.heap.size, 1, none⟩ = some (.int .i64 0) := (hcw1 _ _ (by go_size)).trans (by go_simp); have qw12 : w1.cell? ⟨w.heap.size, 2, none⟩ = some (.string ⟨#[]⟩) := (hcw1 _ _ (by go_size)).trans (by go_simp)) | (go_at_call 71; refine (written_e _ _ (by rw [upperA_length]; omega) ((HE.out.later (by (repeat' (first | (with_reducible exact Below.refl _ _) | (with_reducible assumption) | (with_reducible refine Below.alloc ?_ ?_ _) | (with_reducible refine Below.drew ?_) | (with_reducible refine Below.drewN' ?_ _) | (with_reducible refine Below.setCell ?_ ?_ _) | (refine Below.via ?_ (by assumption) ?_) | go_size)))).nul)).mono ?_; rintro e w2 ⟨rfl, hbw2⟩; obtain ⟨hcw2, hfw2⟩ := bfacts hbw2; have hzw2 := hbw2.size; (try simp only [World.size_alloc, World.size_setCell, World.size_drew] at hzw2); (try have hpw2 : 0 < w2.heap.size := by omega); (try have : w.heap.size < w2.heap.size := by omega); (try have : w.heap.size + 1 < w2.heap.size := by omega); (try have : w.heap.size + 1 + 1 < w2.heap.size := by omega); (try have : w.heap.size + 1 + 1 + 1 < w2.heap.size := by omega); (try have : w.heap.size + 1 + 1 + 1 + 1 < w2.heap.size := by omega); (try have : w.heap.size + 1 + 1 + 1 + 1 + 1 < w2.heap.size := by omega); (try have : w.heap.size < w2.heap.size + 1 := by omega); (try have : w.heap.size + 1 < w2.heap.size + 1 := by omega); (try have : w.heap.size + 1 + 1 < w2.heap.size + 1 := by omega); (try have : w.heap.size + 1 + 1 + 1 < w2.heap.size + 1 := by omega); (try have : w.heap.size + 1 + 1 + 1 + 1 < w2.heap.size + 1 := by omega); (try have : w1.heap.size < w2.heap.size := by omega); (try have : w1.heap.size + 1 < w2.heap.size := by omega); (try have : w1.heap.size + 1 + 1 < w2.heap.size := by omega); (try have : w1.heap.size + 1 + 1 + 1 < w2.heap.size := by omega); (try have : w1.heap.size + 1 + 1 + 1 + 1 < w2.heap.size := by omega); (try have : w1.heap.size + 1 + 1 + 1 + 1 + 1 < w2.heap.size := by omega); (try have : w1.heap.size < w2.heap.size + 1 := by omega); (try have : w1.heap.size + 1 < w2.heap.size + 1 := by omega); (try have : w1.heap.size + 1 + 1 < w2.heap.size + 1 := by omega); (try have : w1.heap.size + 1 + 1 + 1 < w2.heap.size + 1 := by omega); (try have : w1.heap.size + 1 + 1 + 1 + 1 < w2.heap.size + 1 := by omega)); (have qw20 : w2.cell? ⟨w.heap.size, 0, none⟩ = some (.int .i64 0) := (hcw2 _ _ (by go_size)).trans (by go_simp); have qw21 : w2.cell? ⟨w.heap.size, 1, none⟩ = some (.int .i64 0) := (hcw2 _ _ (by go_size)).trans (by go_simp); have qw22 : w2.cell? ⟨w.heap.size, 2, none⟩ = some (.string ⟨#[]⟩) := (hcw2 _ _ (by go_size)).trans (by go_simp)))
  ((try simp only [Exit.inBlock, Exit.then]); refine bodyPost_ret (by simp only [results, Tryz.results88]; go_simp; try rfl) rfl ?_)
  refine ⟨rfl, ?_⟩
  (repeat' (first | (with_reducible exact Below.refl _ _) | (with_reducible assumption) | (with_reducible refine Below.alloc ?_ ?_ _) | (with_reducible refine Below.drew ?_) | (with_reducible refine Below.drewN' ?_ _) | (with_reducible refine Below.setCell ?_ ?_ _) | (refine Below.via ?_ (by assumption) ?_) | go_size))
set_option maxRecDepth 100000 in
set_option maxHeartbeats 4000000 in
theorem called_lower (A : Option Addr) (n c : Nat) (x : V) (r : List V) (w : World) (hE : Env w) (hS : Sl w A n (x :: r)) (h1 : x.t.length ≤ 200) (hl : ∀ c ∈ x.t, c.toNat < 128) :
    Calls Tryz.prog 88 #[.string ⟨#[108, 111, 119, 101, 114]⟩, .slice A n c] w fun e w' => e = .returned (.tuple #[.agg #[.int .i64 (sWritten (Lib.toLowerA x.t)).1.k, .int .i64 (sWritten (Lib.toLowerA x.t)).1.n, .string ⟨List.toArray (sWritten (Lib.toLowerA x.t)).1.t⟩], .int .i64 (sWritten (Lib.toLowerA x.t)).2]) ∧ Below w.heap.size w w' := by
  obtain ⟨b, off, rfl, hb, hn, c0, c1, c2⟩ := hS.first
  have HE := Lib.hid hE
  obtain ⟨k, m, t⟩ := x
  clear hE hS
  simp only at *
  have HT := Lib.hid hl
  clear hl
  go_enter Tryz.func88, Tryz.ntmps88
  go_wp2_with (first | (go_at_call 122; refine (lower_any _ _ (by omega) HT.out).mono ?_; rintro e w1 ⟨rfl, hbw1⟩; obtain ⟨hcw1, hfw1⟩ := bfacts hbw1; have hzw1 := hbw1.size; (try simp only [World.size_alloc, World.size_setCell, World.size_drew] at hzw1); (try have hpw1 : 0 < w1.heap.size := by omega); (try have : w.heap.size < w1.heap.size := by omega); (try have : w.heap.size + 1 < w1.heap.size := by omega); (try have : w.heap.size + 1 + 1 < w1.heap.size := by omega); (try have : w.heap.size + 1 + 1 + 1 < w1.heap.size := by omega); (try have : w.heap.size + 1 + 1 + 1 + 1 < w1.heap.size := by omega); (try have : w.heap.size + 1 + 1 + 1 + 1 + 1 < w1.heap.size := by omega); (try have : w.heap.size < w1.heap.size + 1 := by omega); (try have : w.heap.size + 1 < w1.heap.size + 1 := by omega); (try have : w.heap.size + 1 + 1 < w1.heap.size + 1 := by omega); (try have : w.heap.size + 1 + 1 + 1 < w1.heap.size + 1 := by omega); (try have : w.heap.size + 1 + 1 + 1 + 1 < w1.heap.size + 1 := by omega)); (have qw10 : w1.cell? ⟨w.heap.size, 0, none⟩ = some (.int .i64 0) := (hcw1 _ _ (by go_size)).trans (by go_simp); have qw11 : w1.cell? ⟨w.heap.size, 1, none⟩ = some (.int .i64 0) := (hcw1 _ _ (by go_size)).trans (by go_simp); have qw12 : w1.cell? ⟨w.heap.size, 2, none⟩ = some (.string ⟨#[]⟩) := (hcw1 _ _ (by go_size)).trans (by go_simp)) | (go_at_call 71; refine (written_e _ _ (by rw [lowerA_length]; omega) ((HE.out.later (by (repeat' (first | (with_reducible exact Below.refl _ _) | (with_reducible assumption) | (with_reducible refine Below.alloc ?_ ?_ _) | (with_reducible refine Below.drew ?_) | (with_reducible refine Below.drewN' ?_ _) | (with_reducible refine Below.setCell ?_ ?_ _) | (refine Below.via ?_ (by assumption) ?_) | go_size)))).nul)).mono ?_; rintro e w2 ⟨rfl, hbw2⟩; obtain ⟨hcw2, hfw2⟩ := bfacts hbw2; have hzw2 := hbw2.size; (try simp only [World.size_alloc, World.size_setCell, World.size_drew] at hzw2); (try have hpw2 : 0 < w2.heap.size := by omega); (try have : w.heap.size < w2.heap.size := by omega); (try have : w.heap.size + 1 < w2.heap.size := by omega); (try have : w.heap.size + 1 + 1 < w2.heap.size := by omega); (try have : w.heap.size + 1 + 1 + 1 < w2.heap.size := by omega); (try have : w.heap.size + 1 + 1 + 1 + 1 < w2.heap.size := by omega); (try have : w.heap.size + 1 + 1 + 1 + 1 + 1 < w2.heap.size := by omega); (try have : w.heap.size < w2.heap.size + 1 := by omega); (try have : w.heap.size + 1 < w2.heap.size + 1 := by omega); (try have : w.heap.size + 1 + 1 < w2.heap.size + 1 := by omega); (try have : w.heap.size + 1 + 1 + 1 < w2.heap.size + 1 := by omega); (try have : w.heap.size + 1 + 1 + 1 + 1 < w2.heap.size + 1 := by omega); (try have : w1.heap.size < w2.heap.size := by omega); (try have : w1.heap.size + 1 < w2.heap.size := by omega); (try have : w1.heap.size + 1 + 1 < w2.heap.size := by omega); (try have : w1.heap.size + 1 + 1 + 1 < w2.heap.size := by omega); (try have : w1.heap.size + 1 + 1 + 1 + 1 < w2.heap.size := by omega); (try have : w1.heap.size + 1 + 1 + 1 + 1 + 1 < w2.heap.size := by omega); (try have : w1.heap.size < w2.heap.size + 1 := by omega); (try have : w1.heap.size + 1 < w2.heap.size + 1 := by omega); (try have : w1.heap.size + 1 + 1 < w2.heap.size + 1 := by omega); (try have : w1.heap.size + 1 + 1 + 1 < w2.heap.size + 1 := by omega); (try have : w1.heap.size + 1 + 1 + 1 + 1 < w2.heap.size + 1 := by omega)); (have qw20 : w2.cell? ⟨w.heap.size, 0, none⟩ = some (.int .i64 0) := (hcw2 _ _ (by go_size)).trans (by go_simp); have qw21 : w2.cell? ⟨w.heap.size, 1, none⟩ = some (.int .i64 0) := (hcw2 _ _ (by go_size)).trans (by go_simp); have qw22 : w2.cell? ⟨w.heap.size, 2, none⟩ = some (.string ⟨#[]⟩) := (hcw2 _ _ (by go_size)).trans (by go_simp)))
  ((try simp only [Exit.inBlock, Exit.then]); refine bodyPost_ret (by simp only [results, Tryz.results88]; go_simp; try rfl) rfl ?_)
  refine ⟨rfl, ?_⟩
  (repeat' (first | (with_reducible exact Below.refl _ _) | (with_reducible assumption) | (with_reducible refine Below.alloc ?_ ?_ _) | (with_reducible refine Below.drew ?_) | (with_reducible refine Below.drewN' ?_ _) | (with_reducible refine Below.setCell ?_ ?_ _) | (refine Below.via ?_ (by assumption) ?_) | go_size))
end Go.Proofs.YtpmfpfkahanlaaaGreatDoor

/- called of package value, walked to the end. -/
namespace Go.Proofs.YtpmfpfkahanlaaaGreatDoor
open Go.RowKit
set_option linter.unusedSimpArgs false
set_option linter.unusedVariables false
attribute [local go_sem] Later.cell Later.lt
attribute [local go_sem high] run_eqV run_neV
attribute [local go_sem] cell_set_same

set_option maxRecDepth 100000 in
set_option maxHeartbeats 4000000 in
theorem called_to_text (A : Option Addr) (n c : Nat) (x : V) (r : List V) (w : World) (hE : Env w) (hS : Sl w A n (x :: r)) (h1 : -1099511627776 ≤ x.n) (h2 : x.n ≤ 1099511627776) :
    Calls Tryz.prog 88 #[.string ⟨#[116, 111, 95, 116, 101, 120, 116]⟩, .slice A n c] w fun e w' => e = .returned (.tuple #[.agg #[.int .i64 (sWritten (Lib.itoa x.n)).1.k, .int .i64 (sWritten (Lib.itoa x.n)).1.n, .string ⟨List.toArray (sWritten (Lib.itoa x.n)).1.t⟩], .int .i64 (sWritten (Lib.itoa x.n)).2]) ∧ Below w.heap.size w w' := by
  obtain ⟨b, off, rfl, hb, hn, c0, c1, c2⟩ := hS.first
  have HE := Lib.hid hE
  obtain ⟨k, m, t⟩ := x
  clear hE hS
  simp only at *
  have HT : Hid ((Lib.itoa m).length ≤ 9223372036854775807) := Lib.hid (by have := Lib.itoa_length_le m (by omega) (by omega); omega)
  go_enter Tryz.func88, Tryz.ntmps88
  go_wp2_with (first | (go_at_call 123; refine (itoa_any _ _ (by omega) (by omega) (HE.out.later (by (repeat' (first | (with_reducible exact Below.refl _ _) | (with_reducible assumption) | (with_reducible refine Below.alloc ?_ ?_ _) | (with_reducible refine Below.drew ?_) | (with_reducible refine Below.drewN' ?_ _) | (with_reducible refine Below.setCell ?_ ?_ _) | (refine Below.via ?_ (by assumption) ?_) | go_size))))).mono ?_; rintro e w1 ⟨rfl, hbw1⟩; obtain ⟨hcw1, hfw1⟩ := bfacts hbw1; have hzw1 := hbw1.size; (try simp only [World.size_alloc, World.size_setCell, World.size_drew] at hzw1); (try have hpw1 : 0 < w1.heap.size := by omega); (try have : w.heap.size < w1.heap.size := by omega); (try have : w.heap.size + 1 < w1.heap.size := by omega); (try have : w.heap.size + 1 + 1 < w1.heap.size := by omega); (try have : w.heap.size + 1 + 1 + 1 < w1.heap.size := by omega); (try have : w.heap.size + 1 + 1 + 1 + 1 < w1.heap.size := by omega); (try have : w.heap.size + 1 + 1 + 1 + 1 + 1 < w1.heap.size := by omega); (try have : w.heap.size < w1.heap.size + 1 := by omega); (try have : w.heap.size + 1 < w1.heap.size + 1 := by omega); (try have : w.heap.size + 1 + 1 < w1.heap.size + 1 := by omega); (try have : w.heap.size + 1 + 1 + 1 < w1.heap.size + 1 := by omega); (try have : w.heap.size + 1 + 1 + 1 + 1 < w1.heap.size + 1 := by omega)); (have qw10 : w1.cell? ⟨w.heap.size, 0, none⟩ = some (.int .i64 0) := (hcw1 _ _ (by go_size)).trans (by go_simp); have qw11 : w1.cell? ⟨w.heap.size, 1, none⟩ = some (.int .i64 0) := (hcw1 _ _ (by go_size)).trans (by go_simp); have qw12 : w1.cell? ⟨w.heap.size, 2, none⟩ = some (.string ⟨#[]⟩) := (hcw1 _ _ (by go_size)).trans (by go_simp)) | (go_at_call 71; refine (written_e _ _ HT.out ((HE.out.later (by (repeat' (first | (with_reducible exact Below.refl _ _) | (with_reducible assumption) | (with_reducible refine Below.alloc ?_ ?_ _) | (with_reducible refine Below.drew ?_) | (with_reducible refine Below.drewN' ?_ _) | (with_reducible refine Below.setCell ?_ ?_ _) | (refine Below.via ?_ (by assumption) ?_) | go_size)))).nul)).mono ?_; rintro e w2 ⟨rfl, hbw2⟩; obtain ⟨hcw2, hfw2⟩ := bfacts hbw2; have hzw2 := hbw2.size; (try simp only [World.size_alloc, World.size_setCell, World.size_drew] at hzw2); (try have hpw2 : 0 < w2.heap.size := by omega); (try have : w.heap.size < w2.heap.size := by omega); (try have : w.heap.size + 1 < w2.heap.size := by omega); (try have : w.heap.size + 1 + 1 < w2.heap.size := by omega); (try have : w.heap.size + 1 + 1 + 1 < w2.heap.size := by omega); (try have : w.heap.size + 1 + 1 + 1 + 1 < w2.heap.size := by omega); (try have : w.heap.size + 1 + 1 + 1 + 1 + 1 < w2.heap.size := by omega); (try have : w.heap.size < w2.heap.size + 1 := by omega); (try have : w.heap.size + 1 < w2.heap.size + 1 := by omega); (try have : w.heap.size + 1 + 1 < w2.heap.size + 1 := by omega); (try have : w.heap.size + 1 + 1 + 1 < w2.heap.size + 1 := by omega); (try have : w.heap.size + 1 + 1 + 1 + 1 < w2.heap.size + 1 := by omega); (try have : w1.heap.size < w2.heap.size := by omega); (try have : w1.heap.size + 1 < w2.heap.size := by omega); (try have : w1.heap.size + 1 + 1 < w2.heap.size := by omega); (try have : w1.heap.size + 1 + 1 + 1 < w2.heap.size := by omega); (try have : w1.heap.size + 1 + 1 + 1 + 1 < w2.heap.size := by omega); (try have : w1.heap.size + 1 + 1 + 1 + 1 + 1 < w2.heap.size := by omega); (try have : w1.heap.size < w2.heap.size + 1 := by omega); (try have : w1.heap.size + 1 < w2.heap.size + 1 := by omega); (try have : w1.heap.size + 1 + 1 < w2.heap.size + 1 := by omega); (try have : w1.heap.size + 1 + 1 + 1 < w2.heap.size + 1 := by omega); (try have : w1.heap.size + 1 + 1 + 1 + 1 < w2.heap.size + 1 := by omega)); (have qw20 : w2.cell? ⟨w.heap.size, 0, none⟩ = some (.int .i64 0) := (hcw2 _ _ (by go_size)).trans (by go_simp); have qw21 : w2.cell? ⟨w.heap.size, 1, none⟩ = some (.int .i64 0) := (hcw2 _ _ (by go_size)).trans (by go_simp); have qw22 : w2.cell? ⟨w.heap.size, 2, none⟩ = some (.string ⟨#[]⟩) := (hcw2 _ _ (by go_size)).trans (by go_simp)))
  ((try simp only [Exit.inBlock, Exit.then]); refine bodyPost_ret (by simp only [results, Tryz.results88]; go_simp; try rfl) rfl ?_)
  refine ⟨rfl, ?_⟩
  (repeat' (first | (with_reducible exact Below.refl _ _) | (with_reducible assumption) | (with_reducible refine Below.alloc ?_ ?_ _) | (with_reducible refine Below.drew ?_) | (with_reducible refine Below.drewN' ?_ _) | (with_reducible refine Below.setCell ?_ ?_ _) | (refine Below.via ?_ (by assumption) ?_) | go_size))
theorem atoiV_bounds {t : List UInt8} {n : Int} (h : atoiV t = some n) : -9223372036854775808 ≤ n ∧ n ≤ 9223372036854775807 := by
  unfold atoiV at h
  split at h
  · rename_i v hv
    cases h
    exact Lib.atoiAll_bounds hv
  · cases h
set_option maxRecDepth 100000 in
set_option maxHeartbeats 4000000 in
theorem called_to_int (A : Option Addr) (n c : Nat) (x : V) (r : List V) (w : World) (hE : Env w) (hS : Sl w A n (x :: r)) (h1 : x.t.length ≤ 200) :
    Calls Tryz.prog 88 #[.string ⟨#[116, 111, 95, 105, 110, 116]⟩, .slice A n c] w fun e w' => e = .returned (.tuple #[.agg #[.int .i64 (sToInt x.t).1.k, .int .i64 (sToInt x.t).1.n, .string ⟨List.toArray (sToInt x.t).1.t⟩], .int .i64 (sToInt x.t).2]) ∧ Below w.heap.size w w' := by
  obtain ⟨b, off, rfl, hb, hn, c0, c1, c2⟩ := hS.first
  have HE := Lib.hid hE
  obtain ⟨n0, n1, n2, hpos⟩ := hE.nul
  obtain ⟨k, m, t⟩ := x
  clear hE hS
  simp only at *
  go_enter Tryz.func88, Tryz.ntmps88
  go_wp2_with fail
  refine (atoi_any _ _ (by omega) (HE.out.later (by (repeat' (first | (with_reducible exact Below.refl _ _) | (with_reducible assumption) | (with_reducible refine Below.alloc ?_ ?_ _) | (with_reducible refine Below.drew ?_) | (with_reducible refine Below.drewN' ?_ _) | (with_reducible refine Below.setCell ?_ ?_ _) | (refine Below.via ?_ (by assumption) ?_) | go_size))))).mono ?_; rintro e w1 ⟨v, er, rfl, hbw1, hres⟩; obtain ⟨hcw1, hfw1⟩ := bfacts hbw1; have hzw1 := hbw1.size; (try simp only [World.size_alloc, World.size_setCell, World.size_drew] at hzw1); (try have hpw1 : 0 < w1.heap.size := by omega); (try have : w.heap.size < w1.heap.size := by omega); (try have : w.heap.size + 1 < w1.heap.size := by omega); (try have : w.heap.size + 1 + 1 < w1.heap.size := by omega); (try have : w.heap.size + 1 + 1 + 1 < w1.heap.size := by omega); (try have : w.heap.size + 1 + 1 + 1 + 1 < w1.heap.size := by omega); (try have : w.heap.size + 1 + 1 + 1 + 1 + 1 < w1.heap.size := by omega); (try have : w.heap.size < w1.heap.size + 1 := by omega); (try have : w.heap.size + 1 < w1.heap.size + 1 := by omega); (try have : w.heap.size + 1 + 1 < w1.heap.size + 1 := by omega); (try have : w.heap.size + 1 + 1 + 1 < w1.heap.size + 1 := by omega); (try have : w.heap.size + 1 + 1 + 1 + 1 < w1.heap.size + 1 := by omega)
  (have qw10 : w1.cell? ⟨w.heap.size, 0, none⟩ = some (.int .i64 0) := (hcw1 _ _ (by go_size)).trans (by go_simp); have qw11 : w1.cell? ⟨w.heap.size, 1, none⟩ = some (.int .i64 0) := (hcw1 _ _ (by go_size)).trans (by go_simp); have qw12 : w1.cell? ⟨w.heap.size, 2, none⟩ = some (.string ⟨#[]⟩) := (hcw1 _ _ (by go_size)).trans (by go_simp))
  have qt : w1.cell? ⟨w.heap.size + 1, 2, none⟩ = some (.string ⟨t.toArray⟩) := (hcw1 _ _ (by go_size)).trans (by go_simp)
  rcases hres with ⟨hv, rfl⟩ | ⟨hv, N, rfl⟩
  · have hbd := atoiV_bounds hv
    have HR : Hid (sToInt t = if Lib.itoa v == t then sWhole v else (vN, 21)) := Lib.hid (by unfold sToInt; rw [hv])
    clear hv
    have HEW := Lib.hid (show Env w1 from (HE.out.later (by (repeat' (first | (with_reducible exact Below.refl _ _) | (with_reducible assumption) | (with_reducible refine Below.alloc ?_ ?_ _) | (with_reducible refine Below.drew ?_) | (with_reducible refine Below.drewN' ?_ _) | (with_reducible refine Below.setCell ?_ ?_ _) | (refine Below.via ?_ (by assumption) ?_) | go_size)))))
    obtain ⟨hb1, hb2⟩ := hbd
    cases hq : (Lib.itoa v == t) with
    | true =>
      go_wp2_with fail
      refine wp_region_later (by kernel_rfl) (by kernel_rfl) ?_; (repeat (quiet_step ((go_at_call 123; exact later _ (itoa_any _ _ hb1 hb2 (HEW.out.later (Later.b _))))))); refine wpQuiet_nil ?_; intro w' hw'; obtain ⟨⟨w', hb⟩, hw''⟩ := hw'; subst hw''
      obtain ⟨w2, rfl⟩ : ∃ w2, w2 = w' := ⟨w', rfl⟩
      have hbw2 : Below w1.heap.size w1 w2 := hb
      obtain ⟨hcw2, hfw2⟩ := bfacts hbw2; have hzw2 := hbw2.size; (try simp only [World.size_alloc, World.size_setCell, World.size_drew] at hzw2); (try have hpw2 : 0 < w2.heap.size := by omega); (try have : w.heap.size < w2.heap.size := by omega); (try have : w.heap.size + 1 < w2.heap.size := by omega); (try have : w.heap.size + 1 + 1 < w2.heap.size := by omega); (try have : w.heap.size + 1 + 1 + 1 < w2.heap.size := by omega); (try have : w.heap.size + 1 + 1 + 1 + 1 < w2.heap.size := by omega); (try have : w.heap.size + 1 + 1 + 1 + 1 + 1 < w2.heap.size := by omega); (try have : w.heap.size < w2.heap.size + 1 := by omega); (try have : w.heap.size + 1 < w2.heap.size + 1 := by omega); (try have : w.heap.size + 1 + 1 < w2.heap.size + 1 := by omega); (try have : w.heap.size + 1 + 1 + 1 < w2.heap.size + 1 := by omega); (try have : w.heap.size + 1 + 1 + 1 + 1 < w2.heap.size + 1 := by omega); (try have : w1.heap.size < w2.heap.size := by omega); (try have : w1.heap.size + 1 < w2.heap.size := by omega); (try have : w1.heap.size + 1 + 1 < w2.heap.size := by omega); (try have : w1.heap.size + 1 + 1 + 1 < w2.heap.size := by omega); (try have : w1.heap.size + 1 + 1 + 1 + 1 < w2.heap.size := by omega); (try have : w1.heap.size + 1 + 1 + 1 + 1 + 1 < w2.heap.size := by omega); (try have : w1.heap.size < w2.heap.size + 1 := by omega); (try have : w1.heap.size + 1 < w2.heap.size + 1 := by omega); (try have : w1.heap.size + 1 + 1 < w2.heap.size + 1 := by omega); (try have : w1.heap.size + 1 + 1 + 1 < w2.heap.size + 1 := by omega); (try have : w1.heap.size + 1 + 1 + 1 + 1 < w2.heap.size + 1 := by omega)
      (have qw20 : w2.cell? ⟨w.heap.size, 0, none⟩ = some (.int .i64 0) := (hcw2 _ _ (by go_size)).trans (by go_simp); have qw21 : w2.cell? ⟨w.heap.size, 1, none⟩ = some (.int .i64 0) := (hcw2 _ _ (by go_size)).trans (by go_simp); have qw22 : w2.cell? ⟨w.heap.size, 2, none⟩ = some (.string ⟨#[]⟩) := (hcw2 _ _ (by go_size)).trans (by go_simp))
      go_wp2_with ((go_at_call 65; refine (whole_e _ _ ((HE.out.later (by (repeat' (first | (with_reducible exact Below.refl _ _) | (with_reducible assumption) | (with_reducible refine Below.alloc ?_ ?_ _) | (with_reducible refine Below.drew ?_) | (with_reducible refine Below.drewN' ?_ _) | (with_reducible refine Below.setCell ?_ ?_ _) | (refine Below.via ?_ (by assumption) ?_) | go_size)))).nul)).mono ?_; rintro e w3 ⟨rfl, hbw3⟩; obtain ⟨hcw3, hfw3⟩ := bfacts hbw3; have hzw3 := hbw3.size; (try simp only [World.size_alloc, World.size_setCell, World.size_drew] at hzw3); (try have hpw3 : 0 < w3.heap.size := by omega); (try have : w.heap.size < w3.heap.size := by omega); (try have : w.heap.size + 1 < w3.heap.size := by omega); (try have : w.heap.size + 1 + 1 < w3.heap.size := by omega); (try have : w.heap.size + 1 + 1 + 1 < w3.heap.size := by omega); (try have : w.heap.size + 1 + 1 + 1 + 1 < w3.heap.size := by omega); (try have : w.heap.size + 1 + 1 + 1 + 1 + 1 < w3.heap.size := by omega); (try have : w.heap.size < w3.heap.size + 1 := by omega); (try have : w.heap.size + 1 < w3.heap.size + 1 := by omega); (try have : w.heap.size + 1 + 1 < w3.heap.size + 1 := by omega); (try have : w.heap.size + 1 + 1 + 1 < w3.heap.size + 1 := by omega); (try have : w.heap.size + 1 + 1 + 1 + 1 < w3.heap.size + 1 := by omega); (try have : w1.heap.size < w3.heap.size := by omega); (try have : w1.heap.size + 1 < w3.heap.size := by omega); (try have : w1.heap.size + 1 + 1 < w3.heap.size := by omega); (try have : w1.heap.size + 1 + 1 + 1 < w3.heap.size := by omega); (try have : w1.heap.size + 1 + 1 + 1 + 1 < w3.heap.size := by omega); (try have : w1.heap.size + 1 + 1 + 1 + 1 + 1 < w3.heap.size := by omega); (try have : w1.heap.size < w3.heap.size + 1 := by omega); (try have : w1.heap.size + 1 < w3.heap.size + 1 := by omega); (try have : w1.heap.size + 1 + 1 < w3.heap.size + 1 := by omega); (try have : w1.heap.size + 1 + 1 + 1 < w3.heap.size + 1 := by omega); (try have : w1.heap.size + 1 + 1 + 1 + 1 < w3.heap.size + 1 := by omega); (try have : w2.heap.size < w3.heap.size := by omega); (try have : w2.heap.size + 1 < w3.heap.size := by omega); (try have : w2.heap.size + 1 + 1 < w3.heap.size := by omega); (try have : w2.heap.size + 1 + 1 + 1 < w3.heap.size := by omega); (try have : w2.heap.size + 1 + 1 + 1 + 1 < w3.heap.size := by omega); (try have : w2.heap.size + 1 + 1 + 1 + 1 + 1 < w3.heap.size := by omega); (try have : w2.heap.size < w3.heap.size + 1 := by omega); (try have : w2.heap.size + 1 < w3.heap.size + 1 := by omega); (try have : w2.heap.size + 1 + 1 < w3.heap.size + 1 := by omega); (try have : w2.heap.size + 1 + 1 + 1 < w3.heap.size + 1 := by omega); (try have : w2.heap.size + 1 + 1 + 1 + 1 < w3.heap.size + 1 := by omega)); have qw30 : w3.cell? ⟨w.heap.size, 0, none⟩ = some (.int .i64 0) := (hcw3 _ _ (by go_size)).trans (by go_simp); have qw31 : w3.cell? ⟨w.heap.size, 1, none⟩ = some (.int .i64 0) := (hcw3 _ _ (by go_size)).trans (by go_simp); have qw32 : w3.cell? ⟨w.heap.size, 2, none⟩ = some (.string ⟨#[]⟩) := (hcw3 _ _ (by go_size)).trans (by go_simp))
      ((try simp only [Exit.inBlock, Exit.then]); refine bodyPost_ret (by simp only [results, Tryz.results88]; go_simp; try rfl) rfl ?_)
      refine ⟨by rw [HR.out, hq]; rfl, ?_⟩
      (repeat' (first | (with_reducible exact Below.refl _ _) | (with_reducible assumption) | (with_reducible refine Below.alloc ?_ ?_ _) | (with_reducible refine Below.drew ?_) | (with_reducible refine Below.drewN' ?_ _) | (with_reducible refine Below.setCell ?_ ?_ _) | (refine Below.via ?_ (by assumption) ?_) | go_size))
    | false =>
      go_wp2_with fail
      refine wp_region_later (by kernel_rfl) (by kernel_rfl) ?_; (repeat (quiet_step ((go_at_call 123; exact later _ (itoa_any _ _ hb1 hb2 (HEW.out.later (Later.b _))))))); refine wpQuiet_nil ?_; intro w' hw'; obtain ⟨⟨w', hb⟩, hw''⟩ := hw'; subst hw''
      obtain ⟨w2, rfl⟩ : ∃ w2, w2 = w' := ⟨w', rfl⟩
      have hbw2 : Below w1.heap.size w1 w2 := hb
      obtain ⟨hcw2, hfw2⟩ := bfacts hbw2; have hzw2 := hbw2.size; (try simp only [World.size_alloc, World.size_setCell, World.size_drew] at hzw2); (try have hpw2 : 0 < w2.heap.size := by omega); (try have : w.heap.size < w2.heap.size := by omega); (try have : w.heap.size + 1 < w2.heap.size := by omega); (try have : w.heap.size + 1 + 1 < w2.heap.size := by omega); (try have : w.heap.size + 1 + 1 + 1 < w2.heap.size := by omega); (try have : w.heap.size + 1 + 1 + 1 + 1 < w2.heap.size := by omega); (try have : w.heap.size + 1 + 1 + 1 + 1 + 1 < w2.heap.size := by omega); (try have : w.heap.size < w2.heap.size + 1 := by omega); (try have : w.heap.size + 1 < w2.heap.size + 1 := by omega); (try have : w.heap.size + 1 + 1 < w2.heap.size + 1 := by omega); (try have : w.heap.size + 1 + 1 + 1 < w2.heap.size + 1 := by omega); (try have : w.heap.size + 1 + 1 + 1 + 1 < w2.heap.size + 1 := by omega); (try have : w1.heap.size < w2.heap.size := by omega); (try have : w1.heap.size + 1 < w2.heap.size := by omega); (try have : w1.heap.size + 1 + 1 < w2.heap.size := by omega); (try have : w1.heap.size + 1 + 1 + 1 < w2.heap.size := by omega); (try have : w1.heap.size + 1 + 1 + 1 + 1 < w2.heap.size := by omega); (try have : w1.heap.size + 1 + 1 + 1 + 1 + 1 < w2.heap.size := by omega); (try have : w1.heap.size < w2.heap.size + 1 := by omega); (try have : w1.heap.size + 1 < w2.heap.size + 1 := by omega); (try have : w1.heap.size + 1 + 1 < w2.heap.size + 1 := by omega); (try have : w1.heap.size + 1 + 1 + 1 < w2.heap.size + 1 := by omega); (try have : w1.heap.size + 1 + 1 + 1 + 1 < w2.heap.size + 1 := by omega)
      (have qw20 : w2.cell? ⟨w.heap.size, 0, none⟩ = some (.int .i64 0) := (hcw2 _ _ (by go_size)).trans (by go_simp); have qw21 : w2.cell? ⟨w.heap.size, 1, none⟩ = some (.int .i64 0) := (hcw2 _ _ (by go_size)).trans (by go_simp); have qw22 : w2.cell? ⟨w.heap.size, 2, none⟩ = some (.string ⟨#[]⟩) := (hcw2 _ _ (by go_size)).trans (by go_simp))
      go_wp2
      ((try simp only [Exit.inBlock, Exit.then]); refine bodyPost_ret (by simp only [results, Tryz.results88]; go_simp; try rfl) rfl ?_)
      refine ⟨by rw [HR.out, hq]; rfl, ?_⟩
      (repeat' (first | (with_reducible exact Below.refl _ _) | (with_reducible assumption) | (with_reducible refine Below.alloc ?_ ?_ _) | (with_reducible refine Below.drew ?_) | (with_reducible refine Below.drewN' ?_ _) | (with_reducible refine Below.setCell ?_ ?_ _) | (refine Below.via ?_ (by assumption) ?_) | go_size))
  · have HR : Hid (sToInt t = (vN, 21)) := Lib.hid (by unfold sToInt; rw [hv])
    clear hv
    have HEW := Lib.hid (show Env w1 from (HE.out.later (by (repeat' (first | (with_reducible exact Below.refl _ _) | (with_reducible assumption) | (with_reducible refine Below.alloc ?_ ?_ _) | (with_reducible refine Below.drew ?_) | (with_reducible refine Below.drewN' ?_ _) | (with_reducible refine Below.setCell ?_ ?_ _) | (refine Below.via ?_ (by assumption) ?_) | go_size)))))
    go_wp2_with fail
    refine wp_region_later (by kernel_rfl) (by kernel_rfl) ?_; (repeat (quiet_step ((fail)))); refine wpQuiet_nil ?_; intro w' hw'; obtain ⟨⟨w', hb⟩, hw''⟩ := hw'; subst hw''
    obtain ⟨w2, rfl⟩ : ∃ w2, w2 = w' := ⟨w', rfl⟩
    have hbw2 : Below w1.heap.size w1 w2 := hb
    obtain ⟨hcw2, hfw2⟩ := bfacts hbw2; have hzw2 := hbw2.size; (try simp only [World.size_alloc, World.size_setCell, World.size_drew] at hzw2); (try have hpw2 : 0 < w2.heap.size := by omega); (try have : w.heap.size < w2.heap.size := by omega); (try have : w.heap.size + 1 < w2.heap.size := by omega); (try have : w.heap.size + 1 + 1 < w2.heap.size := by omega); (try have : w.heap.size + 1 + 1 + 1 < w2.heap.size := by omega); (try have : w.heap.size + 1 + 1 + 1 + 1 < w2.heap.size := by omega); (try have : w.heap.size + 1 + 1 + 1 + 1 + 1 < w2.heap.size := by omega); (try have : w.heap.size < w2.heap.size + 1 := by omega); (try have : w.heap.size + 1 < w2.heap.size + 1 := by omega); (try have : w.heap.size + 1 + 1 < w2.heap.size + 1 := by omega); (try have : w.heap.size + 1 + 1 + 1 < w2.heap.size + 1 := by omega); (try have : w.heap.size + 1 + 1 + 1 + 1 < w2.heap.size + 1 := by omega); (try have : w1.heap.size < w2.heap.size := by omega); (try have : w1.heap.size + 1 < w2.heap.size := by omega); (try have : w1.heap.size + 1 + 1 < w2.heap.size := by omega); (try have : w1.heap.size + 1 + 1 + 1 < w2.heap.size := by omega); (try have : w1.heap.size + 1 + 1 + 1 + 1 < w2.heap.size := by omega); (try have : w1.heap.size + 1 + 1 + 1 + 1 + 1 < w2.heap.size := by omega); (try have : w1.heap.size < w2.heap.size + 1 := by omega); (try have : w1.heap.size + 1 < w2.heap.size + 1 := by omega); (try have : w1.heap.size + 1 + 1 < w2.heap.size + 1 := by omega); (try have : w1.heap.size + 1 + 1 + 1 < w2.heap.size + 1 := by omega); (try have : w1.heap.size + 1 + 1 + 1 + 1 < w2.heap.size + 1 := by omega)
    (have qw20 : w2.cell? ⟨w.heap.size, 0, none⟩ = some (.int .i64 0) := (hcw2 _ _ (by go_size)).trans (by go_simp); have qw21 : w2.cell? ⟨w.heap.size, 1, none⟩ = some (.int .i64 0) := (hcw2 _ _ (by go_size)).trans (by go_simp); have qw22 : w2.cell? ⟨w.heap.size, 2, none⟩ = some (.string ⟨#[]⟩) := (hcw2 _ _ (by go_size)).trans (by go_simp))
    go_wp2
    ((try simp only [Exit.inBlock, Exit.then]); refine bodyPost_ret (by simp only [results, Tryz.results88]; go_simp; try rfl) rfl ?_)
    refine ⟨by rw [HR.out]; rfl, ?_⟩
    (repeat' (first | (with_reducible exact Below.refl _ _) | (with_reducible assumption) | (with_reducible refine Below.alloc ?_ ?_ _) | (with_reducible refine Below.drew ?_) | (with_reducible refine Below.drewN' ?_ _) | (with_reducible refine Below.setCell ?_ ?_ _) | (refine Below.via ?_ (by assumption) ?_) | go_size))
end Go.Proofs.YtpmfpfkahanlaaaGreatDoor

/- called of package value: substr, least, greatest. -/
namespace Go.Proofs.YtpmfpfkahanlaaaGreatDoor
open Go.RowKit
set_option linter.unusedSimpArgs false
set_option linter.unusedVariables false
attribute [local go_sem] Later.cell Later.lt
attribute [local go_sem high] run_eqV run_neV
attribute [local go_sem] cell_set_same


theorem Sl.second {w : World} {A : Option Addr} {n : Nat} {x y : V} {r : List V} (h : Sl w A n (x :: y :: r)) : ∃ b off, A = some ⟨b, off, none⟩ ∧ b < w.heap.size ∧ 1 < n ∧
    (w.cell? ⟨b, off, none⟩ = some (.int .i64 x.k) ∧ w.cell? ⟨b, off + 1, none⟩ = some (.int .i64 x.n) ∧ w.cell? ⟨b, off + 2, none⟩ = some (.string ⟨x.t.toArray⟩)) ∧
    (w.cell? ⟨b, off + 3, none⟩ = some (.int .i64 y.k) ∧ w.cell? ⟨b, off + 3 + 1, none⟩ = some (.int .i64 y.n) ∧ w.cell? ⟨b, off + 3 + 2, none⟩ = some (.string ⟨y.t.toArray⟩)) := by
  have hn : 1 < n := by have := h.len; simp at this; omega
  obtain ⟨b, off, rfl, hb, hc⟩ := h.at_ (by omega)
  have h0 := hc 0 (by simp)
  have h1 := hc 1 (by simp)
  exact ⟨b, off, rfl, hb, hn, by simpa using h0, by simpa using h1⟩
set_option maxRecDepth 100000 in
set_option maxHeartbeats 4000000 in
theorem called_least (A : Option Addr) (n c : Nat) (x y : V) (r : List V) (w : World) (hE : Env w) (hS : Sl w A n (x :: y :: r)) :
    Calls Tryz.prog 88 #[.string ⟨#[108, 101, 97, 115, 116]⟩, .slice A n c] w fun e w' => e = .returned (.tuple #[.agg #[.int .i64 ((sLeast x y, 0)).1.k, .int .i64 ((sLeast x y, 0)).1.n, .string ⟨List.toArray ((sLeast x y, 0)).1.t⟩], .int .i64 ((sLeast x y, 0)).2]) ∧ Below w.heap.size w w' := by
  obtain ⟨b, off, rfl, hb, hn, ⟨c0, c1, c2⟩, d0, d1, d2⟩ := hS.second
  obtain ⟨n0, n1, n2, hpos⟩ := hE.nul
  obtain ⟨k, m, t⟩ := x
  obtain ⟨k', m', t'⟩ := y
  clear hE hS
  simp only at *
  have hn1 : (1 : Int) < (n : Int) := by omega
  have hn0 : 0 < n := by omega
  go_enter Tryz.func88, Tryz.ntmps88
  go_wp2_with fail
  obtain ⟨W, hW⟩ : ∃ W, W = (w.alloc (.cells (cellsV vN) 27)).alloc (.cells (cellsV ⟨k, m, t⟩) 27) := ⟨_, rfl⟩
  refine (show Code.wp Tryz.prog _ _ _ ((w.alloc (.cells (cellsV vN) 27)).alloc (.cells (cellsV ⟨k, m, t⟩) 27)) from ?_)
  have bx : Blk W (w.heap.size + 1) 27 (cellsV ⟨k, m, t⟩) := by rw [hW]; have := blk_new (w.alloc (.cells (cellsV vN) 27)) 27 (cellsV ⟨k, m, t⟩); rw [World.size_alloc] at this; exact this
  have bo : Blk W w.heap.size 27 (cellsV vN) := by rw [hW]; exact blk_alloc (blk_new w 27 _) _
  have hB : Below w.heap.size w W := by rw [hW]; exact ((Below.refl _ _).alloc (Nat.le_refl _) _).alloc (by simp) _
  have z1 : w.heap.size + 1 < W.heap.size := blk_lt bx
  have z0 : w.heap.size < W.heap.size := blk_lt bo
  have zb : b < W.heap.size := by omega
  have x0 := blk_cell bx 0
  have x1 := blk_cell bx 1
  have x2 := blk_cell bx 2
  have o0 := blk_cell bo 0
  have o1 := blk_cell bo 1
  have o2 := blk_cell bo 2
  have fz : ∀ i, W.frozen? ⟨w.heap.size, i, none⟩ = false := fun i => blk_frozen bo i
  have y0 := (hB.cell (p := ⟨b, off + 3, none⟩) hb).trans d0
  have y1 := (hB.cell (p := ⟨b, off + 3 + 1, none⟩) hb).trans d1
  have y2 := (hB.cell (p := ⟨b, off + 3 + 2, none⟩) hb).trans d2
  simp only [cellsV, vN, List.getElem?_toArray, List.getElem?_cons_zero, List.getElem?_cons_succ] at x0 x1 x2 o0 o1 o2
  rw [← hW]
  clear hW bx bo
  generalize hs : sCmp ⟨k, m, t⟩ ⟨k', m', t'⟩ = q
  have HQ := Lib.hid hs
  refine wp_region_later (by kernel_rfl) (by kernel_rfl) ?_; (repeat (quiet_step ((go_at_call 70; exact later _ (compare_any _ _ _ _ _ _ _))))); refine wpQuiet_nil ?_; intro w' hw'; obtain ⟨⟨w', hb⟩, hw''⟩ := hw'; subst hw''

  clear hs
  obtain ⟨w2, rfl⟩ : ∃ w2, w2 = w' := ⟨w', rfl⟩
  have hbw2 : Below W.heap.size W w2 := hb
  obtain ⟨hcw2, hfw2⟩ := bfacts hbw2; have hzw2 := hbw2.size; (try simp only [World.size_alloc, World.size_setCell, World.size_drew] at hzw2); (try have hpw2 : 0 < w2.heap.size := by omega); (try have : w.heap.size < w2.heap.size := by omega); (try have : w.heap.size + 1 < w2.heap.size := by omega); (try have : w.heap.size + 1 + 1 < w2.heap.size := by omega); (try have : w.heap.size + 1 + 1 + 1 < w2.heap.size := by omega); (try have : w.heap.size + 1 + 1 + 1 + 1 < w2.heap.size := by omega); (try have : w.heap.size + 1 + 1 + 1 + 1 + 1 < w2.heap.size := by omega); (try have : w.heap.size < w2.heap.size + 1 := by omega); (try have : w.heap.size + 1 < w2.heap.size + 1 := by omega); (try have : w.heap.size + 1 + 1 < w2.heap.size + 1 := by omega); (try have : w.heap.size + 1 + 1 + 1 < w2.heap.size + 1 := by omega); (try have : w.heap.size + 1 + 1 + 1 + 1 < w2.heap.size + 1 := by omega); (try have : W.heap.size < w2.heap.size := by omega); (try have : W.heap.size + 1 < w2.heap.size := by omega); (try have : W.heap.size + 1 + 1 < w2.heap.size := by omega); (try have : W.heap.size + 1 + 1 + 1 < w2.heap.size := by omega); (try have : W.heap.size + 1 + 1 + 1 + 1 < w2.heap.size := by omega); (try have : W.heap.size + 1 + 1 + 1 + 1 + 1 < w2.heap.size := by omega); (try have : W.heap.size < w2.heap.size + 1 := by omega); (try have : W.heap.size + 1 < w2.heap.size + 1 := by omega); (try have : W.heap.size + 1 + 1 < w2.heap.size + 1 := by omega); (try have : W.heap.size + 1 + 1 + 1 < w2.heap.size + 1 := by omega); (try have : W.heap.size + 1 + 1 + 1 + 1 < w2.heap.size + 1 := by omega)
  have qw20 : w2.cell? ⟨w.heap.size, 0, none⟩ = some (.int .i64 0) := (hcw2 _ _ (by go_size)).trans (by go_simp); have qw21 : w2.cell? ⟨w.heap.size, 1, none⟩ = some (.int .i64 0) := (hcw2 _ _ (by go_size)).trans (by go_simp); have qw22 : w2.cell? ⟨w.heap.size, 2, none⟩ = some (.string ⟨#[]⟩) := (hcw2 _ _ (by go_size)).trans (by go_simp)
  by_cases hq : 0 < q
  · go_wp2
    ((try simp only [Exit.inBlock, Exit.then]); refine bodyPost_ret (by simp only [results, Tryz.results88]; go_simp; try rfl) rfl ?_)
    refine ⟨by unfold sLeast; rw [HQ.out, if_pos (by omega)], ?_⟩
    (repeat' (first | (with_reducible exact Below.refl _ _) | (with_reducible assumption) | (with_reducible refine Below.alloc ?_ ?_ _) | (with_reducible refine Below.drew ?_) | (with_reducible refine Below.drewN' ?_ _) | (with_reducible refine Below.setCell ?_ ?_ _) | (refine Below.via ?_ (by assumption) ?_) | go_size))
  · go_wp2
    ((try simp only [Exit.inBlock, Exit.then]); refine bodyPost_ret (by simp only [results, Tryz.results88]; go_simp; try rfl) rfl ?_)
    refine ⟨by unfold sLeast; rw [HQ.out, if_neg (by omega)], ?_⟩
    (repeat' (first | (with_reducible exact Below.refl _ _) | (with_reducible assumption) | (with_reducible refine Below.alloc ?_ ?_ _) | (with_reducible refine Below.drew ?_) | (with_reducible refine Below.drewN' ?_ _) | (with_reducible refine Below.setCell ?_ ?_ _) | (refine Below.via ?_ (by assumption) ?_) | go_size))
set_option maxRecDepth 100000 in
set_option maxHeartbeats 4000000 in
theorem called_greatest (A : Option Addr) (n c : Nat) (x y : V) (r : List V) (w : World) (hE : Env w) (hS : Sl w A n (x :: y :: r)) :
    Calls Tryz.prog 88 #[.string ⟨#[103, 114, 101, 97, 116, 101, 115, 116]⟩, .slice A n c] w fun e w' => e = .returned (.tuple #[.agg #[.int .i64 ((sGreatest x y, 0)).1.k, .int .i64 ((sGreatest x y, 0)).1.n, .string ⟨List.toArray ((sGreatest x y, 0)).1.t⟩], .int .i64 ((sGreatest x y, 0)).2]) ∧ Below w.heap.size w w' := by
  obtain ⟨b, off, rfl, hb, hn, ⟨c0, c1, c2⟩, d0, d1, d2⟩ := hS.second
  obtain ⟨n0, n1, n2, hpos⟩ := hE.nul
  obtain ⟨k, m, t⟩ := x
  obtain ⟨k', m', t'⟩ := y
  clear hE hS
  simp only at *
  have hn1 : (1 : Int) < (n : Int) := by omega
  have hn0 : 0 < n := by omega
  go_enter Tryz.func88, Tryz.ntmps88
  go_wp2_with fail
  obtain ⟨W, hW⟩ : ∃ W, W = (w.alloc (.cells (cellsV vN) 27)).alloc (.cells (cellsV ⟨k, m, t⟩) 27) := ⟨_, rfl⟩
  refine (show Code.wp Tryz.prog _ _ _ ((w.alloc (.cells (cellsV vN) 27)).alloc (.cells (cellsV ⟨k, m, t⟩) 27)) from ?_)
  have bx : Blk W (w.heap.size + 1) 27 (cellsV ⟨k, m, t⟩) := by rw [hW]; have := blk_new (w.alloc (.cells (cellsV vN) 27)) 27 (cellsV ⟨k, m, t⟩); rw [World.size_alloc] at this; exact this
  have bo : Blk W w.heap.size 27 (cellsV vN) := by rw [hW]; exact blk_alloc (blk_new w 27 _) _
  have hB : Below w.heap.size w W := by rw [hW]; exact ((Below.refl _ _).alloc (Nat.le_refl _) _).alloc (by simp) _
  have z1 : w.heap.size + 1 < W.heap.size := blk_lt bx
  have z0 : w.heap.size < W.heap.size := blk_lt bo
  have zb : b < W.heap.size := by omega
  have x0 := blk_cell bx 0
  have x1 := blk_cell bx 1
  have x2 := blk_cell bx 2
  have o0 := blk_cell bo 0
  have o1 := blk_cell bo 1
  have o2 := blk_cell bo 2
  have fz : ∀ i, W.frozen? ⟨w.heap.size, i, none⟩ = false := fun i => blk_frozen bo i
  have y0 := (hB.cell (p := ⟨b, off + 3, none⟩) hb).trans d0
  have y1 := (hB.cell (p := ⟨b, off + 3 + 1, none⟩) hb).trans d1
  have y2 := (hB.cell (p := ⟨b, off + 3 + 2, none⟩) hb).trans d2
  simp only [cellsV, vN, List.getElem?_toArray, List.getElem?_cons_zero, List.getElem?_cons_succ] at x0 x1 x2 o0 o1 o2
  rw [← hW]
  clear hW bx bo
  generalize hs : sCmp ⟨k, m, t⟩ ⟨k', m', t'⟩ = q
  have HQ := Lib.hid hs
  refine wp_region_later (by kernel_rfl) (by kernel_rfl) ?_; (repeat (quiet_step ((go_at_call 70; exact later _ (compare_any _ _ _ _ _ _ _))))); refine wpQuiet_nil ?_; intro w' hw'; obtain ⟨⟨w', hb⟩, hw''⟩ := hw'; subst hw''

  clear hs
  obtain ⟨w2, rfl⟩ : ∃ w2, w2 = w' := ⟨w', rfl⟩
  have hbw2 : Below W.heap.size W w2 := hb
  obtain ⟨hcw2, hfw2⟩ := bfacts hbw2; have hzw2 := hbw2.size; (try simp only [World.size_alloc, World.size_setCell, World.size_drew] at hzw2); (try have hpw2 : 0 < w2.heap.size := by omega); (try have : w.heap.size < w2.heap.size := by omega); (try have : w.heap.size + 1 < w2.heap.size := by omega); (try have : w.heap.size + 1 + 1 < w2.heap.size := by omega); (try have : w.heap.size + 1 + 1 + 1 < w2.heap.size := by omega); (try have : w.heap.size + 1 + 1 + 1 + 1 < w2.heap.size := by omega); (try have : w.heap.size + 1 + 1 + 1 + 1 + 1 < w2.heap.size := by omega); (try have : w.heap.size < w2.heap.size + 1 := by omega); (try have : w.heap.size + 1 < w2.heap.size + 1 := by omega); (try have : w.heap.size + 1 + 1 < w2.heap.size + 1 := by omega); (try have : w.heap.size + 1 + 1 + 1 < w2.heap.size + 1 := by omega); (try have : w.heap.size + 1 + 1 + 1 + 1 < w2.heap.size + 1 := by omega); (try have : W.heap.size < w2.heap.size := by omega); (try have : W.heap.size + 1 < w2.heap.size := by omega); (try have : W.heap.size + 1 + 1 < w2.heap.size := by omega); (try have : W.heap.size + 1 + 1 + 1 < w2.heap.size := by omega); (try have : W.heap.size + 1 + 1 + 1 + 1 < w2.heap.size := by omega); (try have : W.heap.size + 1 + 1 + 1 + 1 + 1 < w2.heap.size := by omega); (try have : W.heap.size < w2.heap.size + 1 := by omega); (try have : W.heap.size + 1 < w2.heap.size + 1 := by omega); (try have : W.heap.size + 1 + 1 < w2.heap.size + 1 := by omega); (try have : W.heap.size + 1 + 1 + 1 < w2.heap.size + 1 := by omega); (try have : W.heap.size + 1 + 1 + 1 + 1 < w2.heap.size + 1 := by omega)
  have qw20 : w2.cell? ⟨w.heap.size, 0, none⟩ = some (.int .i64 0) := (hcw2 _ _ (by go_size)).trans (by go_simp); have qw21 : w2.cell? ⟨w.heap.size, 1, none⟩ = some (.int .i64 0) := (hcw2 _ _ (by go_size)).trans (by go_simp); have qw22 : w2.cell? ⟨w.heap.size, 2, none⟩ = some (.string ⟨#[]⟩) := (hcw2 _ _ (by go_size)).trans (by go_simp)
  by_cases hq : q < 0
  · go_wp2
    ((try simp only [Exit.inBlock, Exit.then]); refine bodyPost_ret (by simp only [results, Tryz.results88]; go_simp; try rfl) rfl ?_)
    refine ⟨by unfold sGreatest; rw [HQ.out, if_pos (by omega)], ?_⟩
    (repeat' (first | (with_reducible exact Below.refl _ _) | (with_reducible assumption) | (with_reducible refine Below.alloc ?_ ?_ _) | (with_reducible refine Below.drew ?_) | (with_reducible refine Below.drewN' ?_ _) | (with_reducible refine Below.setCell ?_ ?_ _) | (refine Below.via ?_ (by assumption) ?_) | go_size))
  · go_wp2
    ((try simp only [Exit.inBlock, Exit.then]); refine bodyPost_ret (by simp only [results, Tryz.results88]; go_simp; try rfl) rfl ?_)
    refine ⟨by unfold sGreatest; rw [HQ.out, if_neg (by omega)], ?_⟩
    (repeat' (first | (with_reducible exact Below.refl _ _) | (with_reducible assumption) | (with_reducible refine Below.alloc ?_ ?_ _) | (with_reducible refine Below.drew ?_) | (with_reducible refine Below.drewN' ?_ _) | (with_reducible refine Below.setCell ?_ ?_ _) | (refine Below.via ?_ (by assumption) ?_) | go_size))
end Go.Proofs.YtpmfpfkahanlaaaGreatDoor

/- called of package value: substr. -/
namespace Go.Proofs.YtpmfpfkahanlaaaGreatDoor
open Go.RowKit
set_option linter.unusedSimpArgs false
set_option linter.unusedVariables false
attribute [local go_sem] Later.cell Later.lt
attribute [local go_sem high] run_eqV run_neV
attribute [local go_sem] cell_set_same


theorem Sl.third {w : World} {A : Option Addr} {n : Nat} {x y z : V} {r : List V} (h : Sl w A n (x :: y :: z :: r)) : ∃ b off, A = some ⟨b, off, none⟩ ∧ b < w.heap.size ∧ 2 < n ∧
    (w.cell? ⟨b, off, none⟩ = some (.int .i64 x.k) ∧ w.cell? ⟨b, off + 1, none⟩ = some (.int .i64 x.n) ∧ w.cell? ⟨b, off + 2, none⟩ = some (.string ⟨x.t.toArray⟩)) ∧
    w.cell? ⟨b, off + 3 + 1, none⟩ = some (.int .i64 y.n) ∧ w.cell? ⟨b, off + 6 + 1, none⟩ = some (.int .i64 z.n) := by
  have hn : 2 < n := by have := h.len; simp at this; omega
  obtain ⟨b, off, rfl, hb, hc⟩ := h.at_ (by omega)
  have h0 := hc 0 (by simp)
  have h1 := hc 1 (by simp)
  have h2 := hc 2 (by simp)
  exact ⟨b, off, rfl, hb, hn, by simpa using h0, by simpa using h1.2.1, by simpa using h2.2.1⟩
theorem extract_bytes (t : List UInt8) (a b : Nat) : (⟨t.toArray⟩ : ByteArray).extract a b = ⟨((t.drop a).take (b - a)).toArray⟩ := by
  apply ByteArray.ext
  rw [ByteArray.data_extract]
  simp [List.extract_toArray, List.extract_eq_take_drop]
set_option maxRecDepth 100000 in
set_option maxHeartbeats 4000000 in
theorem called_substr (A : Option Addr) (n c : Nat) (x y z : V) (r : List V) (w : World) (hE : Env w) (hS : Sl w A n (x :: y :: z :: r)) (h1 : x.t.length ≤ 200) (hy : -1099511627776 ≤ y.n) (hy' : y.n ≤ 1099511627776) (hz : -1099511627776 ≤ z.n) (hz' : z.n ≤ 1099511627776) :
    Calls Tryz.prog 88 #[.string ⟨#[115, 117, 98, 115, 116, 114]⟩, .slice A n c] w fun e w' => e = .returned (.tuple #[.agg #[.int .i64 (sWritten (sSub x.t y.n z.n)).1.k, .int .i64 (sWritten (sSub x.t y.n z.n)).1.n, .string ⟨List.toArray (sWritten (sSub x.t y.n z.n)).1.t⟩], .int .i64 (sWritten (sSub x.t y.n z.n)).2]) ∧ Below w.heap.size w w' := by
  obtain ⟨b, off, rfl, hb, hn, ⟨c0, c1, c2⟩, d1, e1⟩ := hS.third
  have HE := Lib.hid hE
  obtain ⟨n0, n1, n2, hpos⟩ := hE.nul
  obtain ⟨k, m, t⟩ := x
  obtain ⟨k', m', t'⟩ := y
  obtain ⟨k2, m2, t2⟩ := z
  clear hE hS
  simp only at *
  have hn2 : (2 : Int) < (n : Int) := by omega
  have hn1 : (1 : Int) < (n : Int) := by omega
  have hn0 : 0 < n := by omega
  have hn3 : 1 < n := by omega
  go_enter Tryz.func88, Tryz.ntmps88
  go_wp2_with fail
  obtain ⟨W, hW⟩ : ∃ W, W = (w.alloc (.cells (cellsV vN) 27)).alloc (.cells (cellsV ⟨k, m, t⟩) 27) := ⟨_, rfl⟩
  refine (show Code.wp Tryz.prog _ _ _ ((w.alloc (.cells (cellsV vN) 27)).alloc (.cells (cellsV ⟨k, m, t⟩) 27)) from ?_)
  have bx : Blk W (w.heap.size + 1) 27 (cellsV ⟨k, m, t⟩) := by rw [hW]; have := blk_new (w.alloc (.cells (cellsV vN) 27)) 27 (cellsV ⟨k, m, t⟩); rw [World.size_alloc] at this; exact this
  have bo : Blk W w.heap.size 27 (cellsV vN) := by rw [hW]; exact blk_alloc (blk_new w 27 _) _
  have hB : Below w.heap.size w W := by rw [hW]; exact ((Below.refl _ _).alloc (Nat.le_refl _) _).alloc (by simp) _
  have z1 : w.heap.size + 1 < W.heap.size := blk_lt bx
  have z0 : w.heap.size < W.heap.size := blk_lt bo
  have zb : b < W.heap.size := by omega
  have x2 := blk_cell bx 2
  have o0 := blk_cell bo 0
  have o1 := blk_cell bo 1
  have o2 := blk_cell bo 2
  have fz : ∀ i, W.frozen? ⟨w.heap.size, i, none⟩ = false := fun i => blk_frozen bo i
  have y1 := (hB.cell (p := ⟨b, off + 3 + 1, none⟩) hb).trans d1
  have y2 := (hB.cell (p := ⟨b, off + 6 + 1, none⟩) hb).trans e1
  simp only [cellsV, vN, List.getElem?_toArray, List.getElem?_cons_zero, List.getElem?_cons_succ] at x2 o0 o1 o2
  rw [← hW]
  clear hW bx bo c0 c1 c2 d1 e1 n0 n1 n2
  go_region
  have HP : Hid (subP t.length m' = min (max m' 1 - 1) (t.length : Int)) := rfl
  have p0 : 0 ≤ min (max m' 1 - 1) (t.length : Int) := by omega
  have p1 : min (max m' 1 - 1) (t.length : Int) ≤ t.length := by omega
  generalize min (max m' 1 - 1) (t.length : Int) = P at HP p0 p1
  go_wp2_with fail
  go_region
  have HQ : Hid (subC t.length P m2 = min (max m2 0) ((t.length : Int) - P)) := rfl
  have q0 : 0 ≤ min (max m2 0) ((t.length : Int) - P) := by omega
  have q1 : min (max m2 0) ((t.length : Int) - P) ≤ t.length - P := by omega
  generalize min (max m2 0) ((t.length : Int) - P) = Q at HQ q0 q1
  have q2 : P ≤ P + Q := by omega
  have q3 : P + Q ≤ t.length := by omega
  have q4 : 0 ≤ P + Q := by omega
  obtain ⟨P, rfl⟩ : ∃ p : Nat, P = (p : Int) := ⟨P.toNat, by omega⟩
  obtain ⟨Q, rfl⟩ : ∃ p : Nat, Q = (p : Int) := ⟨Q.toNat, by omega⟩
  go_wp2_with fail
  rw [extract_bytes]
  have HS : Hid (sSub t m' m2 = (t.drop P).take (P + Q - P)) := Lib.hid (by
    unfold sSub
    rw [HP.out, HQ.out]
    congr 1
    omega)
  have HL : Hid (((t.drop P).take (P + Q - P)).length ≤ 9223372036854775807) := Lib.hid (by simp only [List.length_take, List.length_drop]; omega)
  generalize (t.drop P).take (P + Q - P) = u at HS HL
  refine (written_e u W.drew.drew HL.out (HE.out.later (hB.drew.drew)).nul).mono ?_; rintro e w2 ⟨rfl, hbw2⟩; obtain ⟨hcw2, hfw2⟩ := bfacts hbw2; have hzw2 := hbw2.size; (try simp only [World.size_alloc, World.size_setCell, World.size_drew] at hzw2); (try have hpw2 : 0 < w2.heap.size := by omega); (try have : w.heap.size < w2.heap.size := by omega); (try have : w.heap.size + 1 < w2.heap.size := by omega); (try have : w.heap.size + 1 + 1 < w2.heap.size := by omega); (try have : w.heap.size + 1 + 1 + 1 < w2.heap.size := by omega); (try have : w.heap.size + 1 + 1 + 1 + 1 < w2.heap.size := by omega); (try have : w.heap.size + 1 + 1 + 1 + 1 + 1 < w2.heap.size := by omega); (try have : w.heap.size < w2.heap.size + 1 := by omega); (try have : w.heap.size + 1 < w2.heap.size + 1 := by omega); (try have : w.heap.size + 1 + 1 < w2.heap.size + 1 := by omega); (try have : w.heap.size + 1 + 1 + 1 < w2.heap.size + 1 := by omega); (try have : w.heap.size + 1 + 1 + 1 + 1 < w2.heap.size + 1 := by omega); (try have : W.heap.size < w2.heap.size := by omega); (try have : W.heap.size + 1 < w2.heap.size := by omega); (try have : W.heap.size + 1 + 1 < w2.heap.size := by omega); (try have : W.heap.size + 1 + 1 + 1 < w2.heap.size := by omega); (try have : W.heap.size + 1 + 1 + 1 + 1 < w2.heap.size := by omega); (try have : W.heap.size + 1 + 1 + 1 + 1 + 1 < w2.heap.size := by omega); (try have : W.heap.size < w2.heap.size + 1 := by omega); (try have : W.heap.size + 1 < w2.heap.size + 1 := by omega); (try have : W.heap.size + 1 + 1 < w2.heap.size + 1 := by omega); (try have : W.heap.size + 1 + 1 + 1 < w2.heap.size + 1 := by omega); (try have : W.heap.size + 1 + 1 + 1 + 1 < w2.heap.size + 1 := by omega)
  have qw20 : w2.cell? ⟨w.heap.size, 0, none⟩ = some (.int .i64 0) := (hcw2 _ _ (by go_size)).trans (by go_simp); have qw21 : w2.cell? ⟨w.heap.size, 1, none⟩ = some (.int .i64 0) := (hcw2 _ _ (by go_size)).trans (by go_simp); have qw22 : w2.cell? ⟨w.heap.size, 2, none⟩ = some (.string ⟨#[]⟩) := (hcw2 _ _ (by go_size)).trans (by go_simp)
  have fz2 : ∀ i, w2.frozen? ⟨w.heap.size, i, none⟩ = false := fun i => (hfw2 _ _ (by go_size)).trans (fz i)
  clear hcw2 hfw2
  go_wp2
  ((try simp only [Exit.inBlock, Exit.then]); refine bodyPost_ret (by simp only [results, Tryz.results88]; go_simp; try rfl) rfl ?_)
  refine ⟨by rw [HS.out], ?_⟩
  (repeat' (first | (with_reducible exact Below.refl _ _) | (with_reducible assumption) | (with_reducible refine Below.alloc ?_ ?_ _) | (with_reducible refine Below.drew ?_) | (with_reducible refine Below.drewN' ?_ _) | (with_reducible refine Below.setCell ?_ ?_ _) | (refine Below.via ?_ (by assumption) ?_) | go_size))
end Go.Proofs.YtpmfpfkahanlaaaGreatDoor

/- ContainsFunc with a captured variable; Contains at values. -/
namespace Go.Proofs.YtpmfpfkahanlaaaGreatDoor
open Go.RowKit
set_option linter.unusedSimpArgs false
set_option linter.unusedVariables false
attribute [local go_sem] Later.cell Later.lt
attribute [local go_sem high] run_eqV run_neV

theorem anyb_any (A : Option Addr) (n c g : Nat) (lb : Array Value) (l : List V) (p : V → Bool) (w : World) (hn : 0 < n) (hS : Sl w A n l) (eg : ∀ args w, (callFunc g args).run Tryz.prog w = .ok (.enter g args) w)
    (hp : PredBelow Tryz.prog g lb (fun x => .agg (encL x).toArray) p w) :
    Calls Tryz.prog 85 #[.slice A n c, .func (.func g) #[] lb] w fun e w' => e = .returned (.bool (l.any p)) ∧ Below w.heap.size w w' := by
  have hlen := hS.len
  obtain ⟨b, off, rfl, hb, hc⟩ := hS.at_ hn
  have := AnyQ.slices_ContainsFunc Tryz.anyV 3 Tryz.isAgg27 Tryz.sizeOf27 encL (fun _ => rfl) p g lb eg b off n c l w hp (by omega) (by have := hS.big; omega) hb (encL_at hc)
  rw [List.take_of_length_le (by omega)] at this
  exact this
theorem fits1_pays (w : World) (b : Nat) (cm : Int) (hb : b < w.heap.size) (hc : w.cell? ⟨b, 0, none⟩ = some (.int .i64 cm)) : PredBelow Tryz.prog 86 #[.pointer (some ⟨b, 0, none⟩)] (fun x => .agg (encL x).toArray) (fun v => !sFits v cm) w := fun W x hB => by
  obtain ⟨k, n, t⟩ := x
  have hc1 : W.cell? ⟨b, 0, none⟩ = some (.int .i64 cm) := (hB.cell (p := ⟨b, 0, none⟩) hb).trans hc
  have hbW : b < W.heap.size := Nat.lt_of_lt_of_le hb hB.size
  show Calls Tryz.prog 86 #[(.agg #[.int .i64 (k), .int .i64 (n), .string ⟨List.toArray (t)⟩]), .pointer (some ⟨b, 0, none⟩)] W fun e w' => e = .returned (.bool (!sFits ⟨k, n, t⟩ cm)) ∧ Below w.heap.size w w'
  go_enter Tryz.func86, Tryz.ntmps86
  go_wp2_with (go_at_call 64; refine (fits_any _ _ _ _ _).mono ?_; rintro e w1 ⟨rfl, hbw1⟩; obtain ⟨hcw1, hfw1⟩ := bfacts hbw1; have hzw1 := hbw1.size; (try simp only [World.size_alloc, World.size_setCell, World.size_drew] at hzw1); (try have hpw1 : 0 < w1.heap.size := by omega); (try have : W.heap.size < w1.heap.size := by omega); (try have : W.heap.size + 1 < w1.heap.size := by omega); (try have : W.heap.size + 1 + 1 < w1.heap.size := by omega); (try have : W.heap.size + 1 + 1 + 1 < w1.heap.size := by omega); (try have : W.heap.size + 1 + 1 + 1 + 1 < w1.heap.size := by omega); (try have : W.heap.size + 1 + 1 + 1 + 1 + 1 < w1.heap.size := by omega); (try have : W.heap.size < w1.heap.size + 1 := by omega); (try have : W.heap.size + 1 < w1.heap.size + 1 := by omega); (try have : W.heap.size + 1 + 1 < w1.heap.size + 1 := by omega); (try have : W.heap.size + 1 + 1 + 1 < w1.heap.size + 1 := by omega); (try have : W.heap.size + 1 + 1 + 1 + 1 < w1.heap.size + 1 := by omega))
  ((try simp only [Exit.inBlock, Exit.then]); refine bodyPost_ret (by simp only [results, Tryz.results86]; go_simp; try rfl) rfl ?_)
  refine ⟨rfl, ?_⟩
  exact hB.trans (((Below.refl _ _).alloc (Nat.le_refl _) _ |>.trans (hbw1.mono (by simp))).mono hB.size)
theorem hasV_any (A : Option Addr) (n c : Nat) (l : List V) (x : V) (w : World) (hn : 0 < n) (hS : Sl w A n l) :
    Calls Tryz.prog 87 #[.slice A n c, (.agg #[.int .i64 (x).k, .int .i64 (x).n, .string ⟨List.toArray (x).t⟩])] w fun e w' => e = .returned (.bool (l.any fun y => veq x y)) ∧ Below w.heap.size w w' := by
  have hlen := hS.len
  obtain ⟨b, off, rfl, hb, hc⟩ := hS.at_ hn
  have := AnyQ.slices_Contains Tryz.hasV 3 Tryz.isAgg27 Tryz.sizeOf27 encL (fun _ => rfl) veq ⟨fun x y w => run_eqV x.k x.n y.k y.n x.t y.t w, GuardAt.agg _ (by kernel_rfl)⟩ b off n c l x w (by omega) (by have := hS.big; omega) (encL_at hc)
  rw [List.take_of_length_le (by omega)] at this
  exact this
end Go.Proofs.YtpmfpfkahanlaaaGreatDoor

/- called of package value: all its names. -/
namespace Go.Proofs.YtpmfpfkahanlaaaGreatDoor
open Go.RowKit
set_option linter.unusedSimpArgs false
set_option linter.unusedVariables false

theorem not_null {v : V} (hv : sValid v = true) (hn : veq vN v = false) : v.k ≠ 0 := by
  intro h
  obtain ⟨k, n, t⟩ := v
  obtain rfl : k = 0 := h
  have h1 : sValid ⟨0, n, t⟩ = true := hv
  simp only [sValid, beq_self_eq_true, if_true] at h1
  have := veq_k h1
  rw [this] at hn
  simp [veq, vN] at hn
theorem goK1 {x : V} {k cm : Int} (hk : (k == 0) = false) (h : goK [k] [x] 0 = some cm) (h0 : x.k ≠ 0) : x.k = k := by
  unfold goK at h
  rw [hk] at h
  cases hf : sFits x k with
  | false => simp [hf] at h
  | true => exact fits_k hf h0
theorem called_any (op : List UInt8) (A : Option Addr) (n c : Nat) (l : List V) (w : World) (hE : Env w) (hS : Sl w A n l) (hsig : isSig op = true) (hno : op ≠ [110, 118, 108]) (hno2 : op ≠ [110, 117, 108, 108, 105, 102]) (hlen : l.length = (sKinds op).length)
    (hv : l.all sValid = true) (cm : Int) (hgo : goK (sKinds op) l 0 = some cm) (hnn : l.any (veq vN) = false) :
    Calls Tryz.prog 88 #[.string ⟨op.toArray⟩, .slice A n c] w fun e w' => e = .returned (.tuple #[.agg #[.int .i64 (vCalled op l).1.k, .int .i64 (vCalled op l).1.n, .string ⟨List.toArray (vCalled op l).1.t⟩], .int .i64 (vCalled op l).2]) ∧ Below w.heap.size w w' := by
  have one : ∀ x, l = [x] → sValid x = true ∧ x.k ≠ 0 := fun x h => by
    subst h
    simp only [List.all_cons, List.all_nil, Bool.and_true, List.any_cons, List.any_nil, Bool.or_false] at hv hnn
    exact ⟨hv, not_null hv hnn⟩
  rcases sig_cases hsig with rfl | rfl | rfl | rfl | rfl | rfl | rfl | rfl | rfl | rfl | rfl | rfl
  · obtain ⟨x, rfl⟩ := len1 hlen
    obtain ⟨hx, hx0⟩ := one x rfl
    have hk : x.k = 1 := goK1 (by decide) hgo hx0
    have hb := sValid_int hx hk
    exact called_abs A n c x [] w hE hS hb.1 hb.2
  · obtain ⟨x, rfl⟩ := len1 hlen
    obtain ⟨hx, hx0⟩ := one x rfl
    have hk : x.k = 1 := goK1 (by decide) hgo hx0
    exact called_sign A n c x [] w hE hS
  · obtain ⟨x, rfl⟩ := len1 hlen
    obtain ⟨hx, hx0⟩ := one x rfl
    have hk : x.k = 2 := goK1 (by decide) hgo hx0
    have hb := sValid_str hx hk
    exact called_length A n c x [] w hE hS hb.1
  · obtain ⟨x, rfl⟩ := len1 hlen
    obtain ⟨hx, hx0⟩ := one x rfl
    have hk : x.k = 2 := goK1 (by decide) hgo hx0
    have hb := sValid_str hx hk
    exact called_upper A n c x [] w hE hS hb.1 hb.2
  · obtain ⟨x, rfl⟩ := len1 hlen
    obtain ⟨hx, hx0⟩ := one x rfl
    have hk : x.k = 2 := goK1 (by decide) hgo hx0
    have hb := sValid_str hx hk
    exact called_lower A n c x [] w hE hS hb.1 hb.2
  · obtain ⟨x, y, z, rfl⟩ := len3 hlen
    simp only [List.all_cons, List.all_nil, Bool.and_true, Bool.and_eq_true] at hv
    simp only [List.any_cons, List.any_nil, Bool.or_false, Bool.or_eq_false_iff] at hnn
    have hgo2 : goK [2, 1, 1] [x, y, z] 0 = some cm := hgo
    have f1 : sFits x 2 = true := by cases hf : sFits x 2 <;> simp_all [goK]
    have f2 : sFits y 1 = true := by cases hf : sFits y 1 <;> simp_all [goK]
    have f3 : sFits z 1 = true := by cases hf : sFits z 1 <;> simp_all [goK]
    have k1 := fits_k f1 (not_null hv.1 hnn.1)
    have k2 := fits_k f2 (not_null hv.2.1 hnn.2.1)
    have k3 := fits_k f3 (not_null hv.2.2 hnn.2.2)
    exact called_substr A n c x y z [] w hE hS (sValid_str hv.1 k1).1 (sValid_int hv.2.1 k2).1 (sValid_int hv.2.1 k2).2 (sValid_int hv.2.2 k3).1 (sValid_int hv.2.2 k3).2
  · obtain ⟨x, rfl⟩ := len1 hlen
    obtain ⟨hx, hx0⟩ := one x rfl
    have hk : x.k = 1 := goK1 (by decide) hgo hx0
    have hb := sValid_int hx hk
    exact called_to_text A n c x [] w hE hS hb.1 hb.2
  · obtain ⟨x, rfl⟩ := len1 hlen
    obtain ⟨hx, hx0⟩ := one x rfl
    have hk : x.k = 2 := goK1 (by decide) hgo hx0
    have hb := sValid_str hx hk
    exact called_to_int A n c x [] w hE hS hb.1
  · exact absurd rfl hno
  · exact absurd rfl hno2
  · obtain ⟨x, y, rfl⟩ := len2 hlen
    exact called_least A n c x y [] w hE hS
  · obtain ⟨x, y, rfl⟩ := len2 hlen
    exact called_greatest A n c x y [] w hE hS
end Go.Proofs.YtpmfpfkahanlaaaGreatDoor

/- Written and Text of package value, walked. -/
namespace Go.Proofs.YtpmfpfkahanlaaaGreatDoor
open Go.RowKit
set_option linter.unusedSimpArgs false
set_option linter.unusedVariables false
attribute [local go_sem] Later.cell Later.lt
attribute [local go_sem high] run_eqV run_neV
attribute [local go_sem] cell_set_same cat_bytes

theorem repl_any (t old new : List UInt8) (w : World) (hE : Env w) (ht : t.length ≤ 4000000) (ho : 1 ≤ old.length) (hn : new.length ≤ 2) :
    Calls Tryz.prog 104 #[.string ⟨t.toArray⟩, .string ⟨old.toArray⟩, .string ⟨new.toArray⟩] w fun e w' => e = .returned (.string ⟨(Lib.replaceAll t old new).toArray⟩) ∧ Below w.heap.size w w' := by
  obtain ⟨m, hm⟩ := hE.ml
  have hc := Lib.countB_le ⟨old.toArray⟩ ho t.length ⟨t.toArray⟩ (Nat.le_refl _)
  have hcm : Lib.countB ⟨t.toArray⟩ ⟨old.toArray⟩ * new.length ≤ t.length * 2 := Nat.mul_le_mul hc hn
  exact Tryz.strings_ReplaceAll ⟨t.toArray⟩ ⟨old.toArray⟩ ⟨new.toArray⟩ m w (show t.length < _ by omega) hm ho (show t.length + Lib.countB ⟨t.toArray⟩ ⟨old.toArray⟩ * new.length ≤ _ by omega)
theorem fmtBool_any (b : Bool) (w : World) : Calls Tryz.prog 126 #[.bool b] w fun e w' => e = .returned (.string ⟨(Lib.formatBool b).toArray⟩) ∧ w = w' :=
  (Tryz.strconv_FormatBool b w).mono fun _ _ ⟨h1, h2⟩ => ⟨h1, h2.symm⟩
theorem ret_s {a b : List UInt8} (h : a = b) : Ending.returned (.string ⟨a.toArray⟩) = .returned (.string ⟨b.toArray⟩) := by rw [h]
theorem escq_any (t : List UInt8) (w : World) (hE : Env w) (ht : t.length ≤ 4000000) :
    Calls Tryz.prog 104 #[.string ⟨t.toArray⟩, .string ⟨#[39]⟩, .string ⟨#[39, 39]⟩] w fun e w' => e = .returned (.string ⟨(esc t).toArray⟩) ∧ Below w.heap.size w w' := by
  rw [← esc_eq]
  exact repl_any t [39] [39, 39] w hE ht (by decide) (by decide)
theorem unescq_any (t : List UInt8) (w : World) (hE : Env w) (ht : t.length ≤ 4000000) :
    Calls Tryz.prog 104 #[.string ⟨t.toArray⟩, .string ⟨#[39, 39]⟩, .string ⟨#[39]⟩] w fun e w' => e = .returned (.string ⟨(unesc t).toArray⟩) ∧ Below w.heap.size w w' := by
  rw [← unesc_eq]
  exact repl_any t [39, 39] [39] w hE ht (by decide) (by decide)
theorem cat_q1 (b : List UInt8) : (⟨#[39]⟩ : ByteArray) ++ ⟨b.toArray⟩ = ⟨(39 :: b).toArray⟩ := cat_bytes [39] b
theorem cat_q2 (b : List UInt8) : (⟨b.toArray⟩ : ByteArray) ++ ⟨#[39]⟩ = ⟨(b ++ [39]).toArray⟩ := cat_bytes b [39]
attribute [local go_sem] cat_q1 cat_q2
set_option maxRecDepth 100000 in
set_option maxHeartbeats 4000000 in
theorem wr_any (v : V) (w : World) (hE : Env w) (hv : sValid v = true) :
    Calls Tryz.prog 100 #[(.agg #[.int .i64 (v).k, .int .i64 (v).n, .string ⟨List.toArray (v).t⟩])] w fun e w' => e = .returned (.string ⟨(sWr v).toArray⟩) ∧ Below w.heap.size w w' := by
  have HE := Lib.hid hE
  obtain ⟨n0, n1, n2, hpos⟩ := hE.nul
  have HI := Lib.hid (fun h => sValid_int hv h)
  have HS := Lib.hid (fun h => sValid_str hv h)
  obtain ⟨k, n, t⟩ := v
  clear hE hv
  by_cases h1 : k = 1
  · subst h1
    obtain ⟨i1, i2⟩ := HI.out rfl
    simp only at i1 i2
    clear HI HS
    go_enter Tryz.func100, Tryz.ntmps100
    go_wp2_with (go_at_call 123; refine (itoa_any _ _ (by omega) (by omega) (HE.out.later (by (repeat' (first | (with_reducible exact Below.refl _ _) | (with_reducible assumption) | (with_reducible refine Below.alloc ?_ ?_ _) | (with_reducible refine Below.drew ?_) | (with_reducible refine Below.drewN' ?_ _) | (with_reducible refine Below.setCell ?_ ?_ _) | (refine Below.via ?_ (by assumption) ?_) | go_size))))).mono ?_; rintro e w1 ⟨rfl, hbw1⟩; obtain ⟨hcw1, hfw1⟩ := bfacts hbw1; have hzw1 := hbw1.size; (try simp only [World.size_alloc, World.size_setCell, World.size_drew] at hzw1); (try have hpw1 : 0 < w1.heap.size := by omega); (try have : w.heap.size < w1.heap.size := by omega); (try have : w.heap.size + 1 < w1.heap.size := by omega); (try have : w.heap.size + 1 + 1 < w1.heap.size := by omega); (try have : w.heap.size + 1 + 1 + 1 < w1.heap.size := by omega); (try have : w.heap.size + 1 + 1 + 1 + 1 < w1.heap.size := by omega); (try have : w.heap.size + 1 + 1 + 1 + 1 + 1 < w1.heap.size := by omega); (try have : w.heap.size < w1.heap.size + 1 := by omega); (try have : w.heap.size + 1 < w1.heap.size + 1 := by omega); (try have : w.heap.size + 1 + 1 < w1.heap.size + 1 := by omega); (try have : w.heap.size + 1 + 1 + 1 < w1.heap.size + 1 := by omega); (try have : w.heap.size + 1 + 1 + 1 + 1 < w1.heap.size + 1 := by omega))
    ((try simp only [Exit.inBlock, Exit.then]); refine bodyPost_ret (by simp only [results, Tryz.results100]; go_simp; try rfl) rfl ?_)
    refine ⟨rfl, ?_⟩
    (repeat' (first | (with_reducible exact Below.refl _ _) | (with_reducible assumption) | (with_reducible refine Below.alloc ?_ ?_ _) | (with_reducible refine Below.drew ?_) | (with_reducible refine Below.drewN' ?_ _) | (with_reducible refine Below.setCell ?_ ?_ _) | (refine Below.via ?_ (by assumption) ?_) | go_size))
  · have b1 : (k == 1) = false := by simpa using h1
    by_cases h2 : k = 2
    · subst h2
      obtain ⟨i1, i2⟩ := HS.out rfl
      simp only at i1
      have hl := esc_length t
      clear HI HS i2
      generalize hq : esc t = q at hl
      have hesc := fun W (hE : Env W) => escq_any t W hE (by omega)
      rw [hq] at hesc
      have HC := Lib.hid hesc
      have HQ := Lib.hid hq
      clear hesc hq
      go_enter Tryz.func100, Tryz.ntmps100
      go_wp2_with (go_at_call 104; refine (HC.out _ (HE.out.later (by (repeat' (first | (with_reducible exact Below.refl _ _) | (with_reducible assumption) | (with_reducible refine Below.alloc ?_ ?_ _) | (with_reducible refine Below.drew ?_) | (with_reducible refine Below.drewN' ?_ _) | (with_reducible refine Below.setCell ?_ ?_ _) | (refine Below.via ?_ (by assumption) ?_) | go_size))))).mono ?_; rintro e w1 ⟨rfl, hbw1⟩; obtain ⟨hcw1, hfw1⟩ := bfacts hbw1; have hzw1 := hbw1.size; (try simp only [World.size_alloc, World.size_setCell, World.size_drew] at hzw1); (try have hpw1 : 0 < w1.heap.size := by omega); (try have : w.heap.size < w1.heap.size := by omega); (try have : w.heap.size + 1 < w1.heap.size := by omega); (try have : w.heap.size + 1 + 1 < w1.heap.size := by omega); (try have : w.heap.size + 1 + 1 + 1 < w1.heap.size := by omega); (try have : w.heap.size + 1 + 1 + 1 + 1 < w1.heap.size := by omega); (try have : w.heap.size + 1 + 1 + 1 + 1 + 1 < w1.heap.size := by omega); (try have : w.heap.size < w1.heap.size + 1 := by omega); (try have : w.heap.size + 1 < w1.heap.size + 1 := by omega); (try have : w.heap.size + 1 + 1 < w1.heap.size + 1 := by omega); (try have : w.heap.size + 1 + 1 + 1 < w1.heap.size + 1 := by omega); (try have : w.heap.size + 1 + 1 + 1 + 1 < w1.heap.size + 1 := by omega))
      ((try simp only [Exit.inBlock, Exit.then]); refine bodyPost_ret (by simp only [results, Tryz.results100]; go_simp; try rfl) rfl ?_)
      refine ⟨ret_s (by unfold sWr; rw [HQ.out]; rfl), ?_⟩
      (repeat' (first | (with_reducible exact Below.refl _ _) | (with_reducible assumption) | (with_reducible refine Below.alloc ?_ ?_ _) | (with_reducible refine Below.drew ?_) | (with_reducible refine Below.drewN' ?_ _) | (with_reducible refine Below.setCell ?_ ?_ _) | (refine Below.via ?_ (by assumption) ?_) | go_size))
    · have b2 : (k == 2) = false := by simpa using h2
      by_cases h3 : k = 3
      · subst h3
        clear HI HS
        go_enter Tryz.func100, Tryz.ntmps100
        go_wp2_with (go_at_call 126; refine (fmtBool_any _ _).mono ?_; rintro e w' ⟨rfl, rfl⟩)
        ((try simp only [Exit.inBlock, Exit.then]); refine bodyPost_ret (by simp only [results, Tryz.results100]; go_simp; try rfl) rfl ?_)
        refine ⟨rfl, ?_⟩
        (repeat' (first | (with_reducible exact Below.refl _ _) | (with_reducible assumption) | (with_reducible refine Below.alloc ?_ ?_ _) | (with_reducible refine Below.drew ?_) | (with_reducible refine Below.drewN' ?_ _) | (with_reducible refine Below.setCell ?_ ?_ _) | (refine Below.via ?_ (by assumption) ?_) | go_size))
      · have b3 : (k == 3) = false := by simpa using h3
        clear HI HS
        go_enter Tryz.func100, Tryz.ntmps100
        go_wp2
        ((try simp only [Exit.inBlock, Exit.then]); refine bodyPost_ret (by simp only [results, Tryz.results100]; go_simp; try rfl) rfl ?_)
        refine ⟨ret_s (b := sWr ⟨k, n, t⟩) (a := [110, 117, 108, 108]) (by unfold sWr; simp only [b1, b2, b3]; rfl), ?_⟩
        (repeat' (first | (with_reducible exact Below.refl _ _) | (with_reducible assumption) | (with_reducible refine Below.alloc ?_ ?_ _) | (with_reducible refine Below.drew ?_) | (with_reducible refine Below.drewN' ?_ _) | (with_reducible refine Below.setCell ?_ ?_ _) | (refine Below.via ?_ (by assumption) ?_) | go_size))
end Go.Proofs.YtpmfpfkahanlaaaGreatDoor

/- Text of package value, walked; Parse. -/
namespace Go.Proofs.YtpmfpfkahanlaaaGreatDoor
open Go.RowKit
set_option linter.unusedSimpArgs false
set_option linter.unusedVariables false
attribute [local go_sem] Later.cell Later.lt
attribute [local go_sem high] run_eqV run_neV
attribute [local go_sem] cell_set_same cat_bytes

theorem valid_e (k n : Int) (t : List UInt8) (w : World) (hN : Nul w) : Calls Tryz.prog 15 #[(.agg #[.int .i64 (k), .int .i64 (n), .string ⟨List.toArray (t)⟩])] w fun e w' => e = .returned (.bool (sValid ⟨k, n, t⟩)) ∧ Below w.heap.size w w' := valid_any k n t w hN.n0 hN.n1 hN.n2 hN.pos
set_option maxRecDepth 100000 in
set_option maxHeartbeats 4000000 in
theorem text_any (v : V) (w : World) (hE : Env w) :
    Calls Tryz.prog 43 #[(.agg #[.int .i64 (v).k, .int .i64 (v).n, .string ⟨List.toArray (v).t⟩])] w fun e w' => e = .returned (.tuple #[.string ⟨(vText v).1.toArray⟩, .int .i64 (vText v).2]) ∧ Below w.heap.size w w' := by
  have HE := Lib.hid hE
  obtain ⟨k, n, t⟩ := v
  clear hE
  unfold vText
  cases hv : sValid ⟨k, n, t⟩ with
  | false =>
    rw [if_pos (by simp)]
    go_enter Tryz.func43, Tryz.ntmps43
    go_wp2_with (go_at_call 15; refine (valid_e _ _ _ _ ((HE.out.later (by (repeat' (first | (with_reducible exact Below.refl _ _) | (with_reducible assumption) | (with_reducible refine Below.alloc ?_ ?_ _) | (with_reducible refine Below.drew ?_) | (with_reducible refine Below.drewN' ?_ _) | (with_reducible refine Below.setCell ?_ ?_ _) | (refine Below.via ?_ (by assumption) ?_) | go_size)))).nul)).mono ?_; rintro e w1 ⟨rfl, hbw1⟩; obtain ⟨hcw1, hfw1⟩ := bfacts hbw1; have hzw1 := hbw1.size; (try simp only [World.size_alloc, World.size_setCell, World.size_drew] at hzw1); (try have hpw1 : 0 < w1.heap.size := by omega); (try have : w.heap.size < w1.heap.size := by omega); (try have : w.heap.size + 1 < w1.heap.size := by omega); (try have : w.heap.size + 1 + 1 < w1.heap.size := by omega); (try have : w.heap.size + 1 + 1 + 1 < w1.heap.size := by omega); (try have : w.heap.size + 1 + 1 + 1 + 1 < w1.heap.size := by omega); (try have : w.heap.size + 1 + 1 + 1 + 1 + 1 < w1.heap.size := by omega); (try have : w.heap.size < w1.heap.size + 1 := by omega); (try have : w.heap.size + 1 < w1.heap.size + 1 := by omega); (try have : w.heap.size + 1 + 1 < w1.heap.size + 1 := by omega); (try have : w.heap.size + 1 + 1 + 1 < w1.heap.size + 1 := by omega); (try have : w.heap.size + 1 + 1 + 1 + 1 < w1.heap.size + 1 := by omega))
    ((try simp only [Exit.inBlock, Exit.then]); refine bodyPost_ret (by simp only [results, Tryz.results43]; go_simp; try rfl) rfl ?_)
    refine ⟨rfl, ?_⟩
    (repeat' (first | (with_reducible exact Below.refl _ _) | (with_reducible assumption) | (with_reducible refine Below.alloc ?_ ?_ _) | (with_reducible refine Below.drew ?_) | (with_reducible refine Below.drewN' ?_ _) | (with_reducible refine Below.setCell ?_ ?_ _) | (refine Below.via ?_ (by assumption) ?_) | go_size))
  | true =>
    rw [if_neg (by simp)]
    go_enter Tryz.func43, Tryz.ntmps43
    go_wp2_with (first | (go_at_call 15; refine (valid_e _ _ _ _ ((HE.out.later (by (repeat' (first | (with_reducible exact Below.refl _ _) | (with_reducible assumption) | (with_reducible refine Below.alloc ?_ ?_ _) | (with_reducible refine Below.drew ?_) | (with_reducible refine Below.drewN' ?_ _) | (with_reducible refine Below.setCell ?_ ?_ _) | (refine Below.via ?_ (by assumption) ?_) | go_size)))).nul)).mono ?_; rintro e w1 ⟨rfl, hbw1⟩; obtain ⟨hcw1, hfw1⟩ := bfacts hbw1; have hzw1 := hbw1.size; (try simp only [World.size_alloc, World.size_setCell, World.size_drew] at hzw1); (try have hpw1 : 0 < w1.heap.size := by omega); (try have : w.heap.size < w1.heap.size := by omega); (try have : w.heap.size + 1 < w1.heap.size := by omega); (try have : w.heap.size + 1 + 1 < w1.heap.size := by omega); (try have : w.heap.size + 1 + 1 + 1 < w1.heap.size := by omega); (try have : w.heap.size + 1 + 1 + 1 + 1 < w1.heap.size := by omega); (try have : w.heap.size + 1 + 1 + 1 + 1 + 1 < w1.heap.size := by omega); (try have : w.heap.size < w1.heap.size + 1 := by omega); (try have : w.heap.size + 1 < w1.heap.size + 1 := by omega); (try have : w.heap.size + 1 + 1 < w1.heap.size + 1 := by omega); (try have : w.heap.size + 1 + 1 + 1 < w1.heap.size + 1 := by omega); (try have : w.heap.size + 1 + 1 + 1 + 1 < w1.heap.size + 1 := by omega)) | (go_at_call 100; refine (wr_any ⟨k, n, t⟩ _ (HE.out.later (by (repeat' (first | (with_reducible exact Below.refl _ _) | (with_reducible assumption) | (with_reducible refine Below.alloc ?_ ?_ _) | (with_reducible refine Below.drew ?_) | (with_reducible refine Below.drewN' ?_ _) | (with_reducible refine Below.setCell ?_ ?_ _) | (refine Below.via ?_ (by assumption) ?_) | go_size)))) hv).mono ?_; rintro e w2 ⟨rfl, hbw2⟩; obtain ⟨hcw2, hfw2⟩ := bfacts hbw2; have hzw2 := hbw2.size; (try simp only [World.size_alloc, World.size_setCell, World.size_drew] at hzw2); (try have hpw2 : 0 < w2.heap.size := by omega); (try have : w.heap.size < w2.heap.size := by omega); (try have : w.heap.size + 1 < w2.heap.size := by omega); (try have : w.heap.size + 1 + 1 < w2.heap.size := by omega); (try have : w.heap.size + 1 + 1 + 1 < w2.heap.size := by omega); (try have : w.heap.size + 1 + 1 + 1 + 1 < w2.heap.size := by omega); (try have : w.heap.size + 1 + 1 + 1 + 1 + 1 < w2.heap.size := by omega); (try have : w.heap.size < w2.heap.size + 1 := by omega); (try have : w.heap.size + 1 < w2.heap.size + 1 := by omega); (try have : w.heap.size + 1 + 1 < w2.heap.size + 1 := by omega); (try have : w.heap.size + 1 + 1 + 1 < w2.heap.size + 1 := by omega); (try have : w.heap.size + 1 + 1 + 1 + 1 < w2.heap.size + 1 := by omega); (try have : w1.heap.size < w2.heap.size := by omega); (try have : w1.heap.size + 1 < w2.heap.size := by omega); (try have : w1.heap.size + 1 + 1 < w2.heap.size := by omega); (try have : w1.heap.size + 1 + 1 + 1 < w2.heap.size := by omega); (try have : w1.heap.size + 1 + 1 + 1 + 1 < w2.heap.size := by omega); (try have : w1.heap.size + 1 + 1 + 1 + 1 + 1 < w2.heap.size := by omega); (try have : w1.heap.size < w2.heap.size + 1 := by omega); (try have : w1.heap.size + 1 < w2.heap.size + 1 := by omega); (try have : w1.heap.size + 1 + 1 < w2.heap.size + 1 := by omega); (try have : w1.heap.size + 1 + 1 + 1 < w2.heap.size + 1 := by omega); (try have : w1.heap.size + 1 + 1 + 1 + 1 < w2.heap.size + 1 := by omega)))
    ((try simp only [Exit.inBlock, Exit.then]); refine bodyPost_ret (by simp only [results, Tryz.results43]; go_simp; try rfl) rfl ?_)
    refine ⟨rfl, ?_⟩
    (repeat' (first | (with_reducible exact Below.refl _ _) | (with_reducible assumption) | (with_reducible refine Below.alloc ?_ ?_ _) | (with_reducible refine Below.drew ?_) | (with_reducible refine Below.drewN' ?_ _) | (with_reducible refine Below.setCell ?_ ?_ _) | (refine Below.via ?_ (by assumption) ?_) | go_size))
end Go.Proofs.YtpmfpfkahanlaaaGreatDoor

/- Parse of package value, walked. -/
namespace Go.Proofs.YtpmfpfkahanlaaaGreatDoor
open Go.RowKit
set_option linter.unusedSimpArgs false
set_option linter.unusedVariables false
attribute [local go_sem] Later.cell Later.lt
attribute [local go_sem high] run_eqV run_neV
attribute [local go_sem] cell_set_same cat_bytes


theorem atoiN_any (t : List UInt8) (w : World) (ht : t.length ≤ 281474976710656) (hE : Env w) :
    Calls Tryz.prog 105 #[.string ⟨t.toArray⟩] w fun e w' => ∃ er : Value, e = .returned (.tuple #[.int .i64 (atoiN t), er]) ∧ Below w.heap.size w w' := by
  rcases h : Lib.atoiAll t with v | _ | _
  · refine (Tryz.strconv_Atoi_ok ⟨t.toArray⟩ (show t.length ≤ _ by omega) v h w).mono ?_
    rintro e w' ⟨rfl, hw⟩
    refine ⟨_, by unfold atoiN; rw [h], ?_⟩
    rcases hw with rfl | ⟨s, rfl⟩
    · exact Below.refl _ _
    · exact below_bytesWorld _ _ _
  · obtain ⟨tp, p, hv⟩ := hE.esx
    refine (Tryz.strconv_Atoi_syntax_var ⟨t.toArray⟩ ht h tp p w hv).mono ?_
    rintro e w' ⟨N, rfl, _, _, hb⟩
    exact ⟨_, by unfold atoiN; rw [h], hb⟩
  · obtain ⟨tp, p, hv⟩ := hE.erg
    refine (Tryz.strconv_Atoi_range_var ⟨t.toArray⟩ ht h tp p w hv).mono ?_
    rintro e w' ⟨N, rfl, _, _, hb⟩
    exact ⟨_, by unfold atoiN; rw [h], hb⟩
end Go.Proofs.YtpmfpfkahanlaaaGreatDoor

/- Parse of package value, walked: the words. -/
namespace Go.Proofs.YtpmfpfkahanlaaaGreatDoor
open Go.RowKit
set_option linter.unusedSimpArgs false
set_option linter.unusedVariables false
attribute [local go_sem] Later.cell Later.lt
attribute [local go_sem high] run_eqV run_neV
attribute [local go_sem] cell_set_same cat_bytes



/-- What stands in Parse: the answer's cells, the candidate's. -/
structure PS (w X : World) (c : V) : Prop where
  o : Blk X w.heap.size 27 (cellsV vN)
  x : Blk X (w.heap.size + 1) 27 (cellsV c)
  b : Below w.heap.size w X
theorem PS.later {w X X' : World} {c : V} (h : PS w X c) (hb : Below X.heap.size X X') : PS w X' c := ⟨blk_later h.o hb, blk_later h.x hb, h.b.trans (hb.mono h.b.size)⟩
theorem PS.set {w X : World} {c : V} (h : PS w X c) (v : V) : PS w (((X.setCell ⟨w.heap.size + 1, 0, none⟩ (.int .i64 v.k)).setCell ⟨w.heap.size + 1, 1, none⟩ (.int .i64 v.n)).setCell ⟨w.heap.size + 1, 2, none⟩ (.string ⟨v.t.toArray⟩)) v := by
  refine ⟨blk_far (blk_far (blk_far h.o ?_ _) ?_ _) ?_ _, ?_, ((h.b.setCell ?_ _).setCell ?_ _).setCell ?_ _⟩
  · show w.heap.size ≠ w.heap.size + 1; omega
  · show w.heap.size ≠ w.heap.size + 1; omega
  · show w.heap.size ≠ w.heap.size + 1; omega
  · have := blk_set (blk_set (blk_set h.x 0 (.int .i64 v.k)) 1 (.int .i64 v.n)) 2 (.string ⟨v.t.toArray⟩)
    simpa [cellsV] using this
  · show w.heap.size ≤ w.heap.size + 1; omega
  · show w.heap.size ≤ w.heap.size + 1; omega
  · show w.heap.size ≤ w.heap.size + 1; omega
theorem PS.start (w : World) : PS w ((w.alloc (.cells (cellsV vN) 27)).alloc (.cells (cellsV vN) 27)) vN :=
  ⟨blk_alloc (blk_new w 27 _) _, by have := blk_new (w.alloc (.cells (cellsV vN) 27)) 27 (cellsV vN); rw [World.size_alloc] at this; exact this, ((Below.refl _ _).alloc (Nat.le_refl _) _).alloc (by simp) _⟩

theorem res_bad_v {c : V} {t : List UInt8} (hc : cand t = c) (hv : sValid c = false) : vParse t = (vN, 30) := by unfold vParse; rw [hc, hv]; rfl
theorem res_bad_w {c : V} {t : List UInt8} (hc : cand t = c) (hw : (sWr c == t) = false) : vParse t = (vN, 30) := by
  unfold vParse
  rw [hc, if_pos]
  have : (sWr c != t) = true := by rw [bne, hw]; rfl
  rw [this, Bool.or_true]
theorem res_ok {c : V} {t : List UInt8} (hc : cand t = c) (hv : sValid c = true) (hw : (sWr c == t) = true) : vParse t = (c, 0) := by
  unfold vParse
  rw [hc, hv, if_neg]
  have : (sWr c != t) = false := by rw [bne, hw]; rfl
  rw [this]
  simp
set_option maxRecDepth 100000 in
set_option maxHeartbeats 4000000 in
theorem parse_word (t : List UInt8) (ht : t = [116, 114, 117, 101] ∨ t = [102, 97, 108, 115, 101]) (w : World) (hE : Env w) :
    Calls Tryz.prog 45 #[.string ⟨t.toArray⟩] w fun e w' => e = .returned (.tuple #[.agg #[.int .i64 (vParse t).1.k, .int .i64 (vParse t).1.n, .string ⟨List.toArray (vParse t).1.t⟩], .int .i64 (vParse t).2]) ∧ Below w.heap.size w w' := by
  have HE := Lib.hid hE
  obtain ⟨n0, n1, n2, hpos⟩ := hE.nul
  clear hE
  have HC : Hid (cand t = vB (t == [116, 114, 117, 101])) := Lib.hid (by rcases ht with rfl | rfl <;> rfl)
  generalize hb : (t == [116, 114, 117, 101]) = b at HC
  have hb2 : b = true ∨ (t == [102, 97, 108, 115, 101]) = true := by
    rcases ht with rfl | rfl
    · exact .inl (by rw [← hb]; rfl)
    · exact .inr rfl
  have h3 : (t == [102, 97, 108, 115, 101]) = !b := by
    rcases ht with rfl | rfl
    · rw [← hb]; rfl
    · rw [← hb]; rfl
  clear ht hb2
  go_enter Tryz.func45, Tryz.ntmps45
  have P0 := PS.start w
  cases b
  · go_wp2_with fail
    refine (bool_any _ _).mono ?_; rintro e w1 ⟨rfl, hbw1⟩
    have PW := Lib.hid (P0.later hbw1)
    clear hbw1
    have x0 := blk_cell PW.out.x 0
    have x1 := blk_cell PW.out.x 1
    have x2 := blk_cell PW.out.x 2
    have o0 := blk_cell PW.out.o 0
    have o1 := blk_cell PW.out.o 1
    have o2 := blk_cell PW.out.o 2
    have of : ∀ i, w1.frozen? ⟨w.heap.size, i, none⟩ = false := fun i => blk_frozen PW.out.o i
    have xf : ∀ i, w1.frozen? ⟨w.heap.size + 1, i, none⟩ = false := fun i => blk_frozen PW.out.x i
    have zx : w.heap.size + 1 < w1.heap.size := blk_lt PW.out.x
    have zo : w.heap.size < w1.heap.size := blk_lt PW.out.o
    have zp : 0 < w1.heap.size := by omega
    have g0 := (PW.out.b.cell (p := ⟨0, 0, none⟩) hpos).trans n0
    have g1 := (PW.out.b.cell (p := ⟨0, 1, none⟩) hpos).trans n1
    have g2 := (PW.out.b.cell (p := ⟨0, 2, none⟩) hpos).trans n2
    have hbw := PW.out.b
    simp only [cellsV, vN, List.getElem?_toArray, List.getElem?_cons_zero, List.getElem?_cons_succ] at x0 x1 x2 o0 o1 o2
    go_wp2_with fail
    have PX := Lib.hid (PW.out.set (vB false))
    clear x0 x1 x2 o0 o1 o2 of xf zx zo zp g0 g1 g2 hbw
    refine (valid_e _ _ _ _ (HE.out.later PX.out.b).nul).mono ?_; rintro e u1 ⟨rfl, hbu1⟩
    have P1 := Lib.hid (PX.out.later hbu1)
    have x0 := blk_cell P1.out.x 0
    have x1 := blk_cell P1.out.x 1
    have x2 := blk_cell P1.out.x 2
    have o0 := blk_cell P1.out.o 0
    have o1 := blk_cell P1.out.o 1
    have o2 := blk_cell P1.out.o 2
    have of : ∀ i, u1.frozen? ⟨w.heap.size, i, none⟩ = false := fun i => blk_frozen P1.out.o i
    have xf : ∀ i, u1.frozen? ⟨w.heap.size + 1, i, none⟩ = false := fun i => blk_frozen P1.out.x i
    have zx : w.heap.size + 1 < u1.heap.size := blk_lt P1.out.x
    have zo : w.heap.size < u1.heap.size := blk_lt P1.out.o
    have zp : 0 < u1.heap.size := by omega
    have g0 := (P1.out.b.cell (p := ⟨0, 0, none⟩) hpos).trans n0
    have g1 := (P1.out.b.cell (p := ⟨0, 1, none⟩) hpos).trans n1
    have g2 := (P1.out.b.cell (p := ⟨0, 2, none⟩) hpos).trans n2
    have hbw := P1.out.b
    simp only [cellsV, vN, List.getElem?_toArray, List.getElem?_cons_zero, List.getElem?_cons_succ] at x0 x1 x2 o0 o1 o2
    cases hv : sValid (vB false) with
    | false =>
      have HR := Lib.hid (res_bad_v HC.out hv)
      go_wp2
      ((try simp only [Exit.inBlock, Exit.then]); refine bodyPost_ret (by simp only [results, Tryz.results45]; go_simp; try rfl) rfl ?_)
      refine ⟨by rw [HR.out]; rfl, ?_⟩
      (repeat' (first | (with_reducible exact Below.refl _ _) | (with_reducible assumption) | (with_reducible refine Below.alloc ?_ ?_ _) | (with_reducible refine Below.drew ?_) | (with_reducible refine Below.drewN' ?_ _) | (with_reducible refine Below.setCell ?_ ?_ _) | (refine Below.via ?_ (by assumption) ?_) | go_size))
    | true =>
      go_wp2_with fail
      refine (wr_any (vB false) u1 (HE.out.later P1.out.b) hv).mono ?_; rintro e u2 ⟨rfl, hbu2⟩
      have P2 := Lib.hid (P1.out.later hbu2)
      clear x0 x1 x2 o0 o1 o2 of xf zx zo zp g0 g1 g2 hbw
      have x0 := blk_cell P2.out.x 0
      have x1 := blk_cell P2.out.x 1
      have x2 := blk_cell P2.out.x 2
      have o0 := blk_cell P2.out.o 0
      have o1 := blk_cell P2.out.o 1
      have o2 := blk_cell P2.out.o 2
      have of : ∀ i, u2.frozen? ⟨w.heap.size, i, none⟩ = false := fun i => blk_frozen P2.out.o i
      have xf : ∀ i, u2.frozen? ⟨w.heap.size + 1, i, none⟩ = false := fun i => blk_frozen P2.out.x i
      have zx : w.heap.size + 1 < u2.heap.size := blk_lt P2.out.x
      have zo : w.heap.size < u2.heap.size := blk_lt P2.out.o
      have zp : 0 < u2.heap.size := by omega
      have g0 := (P2.out.b.cell (p := ⟨0, 0, none⟩) hpos).trans n0
      have g1 := (P2.out.b.cell (p := ⟨0, 1, none⟩) hpos).trans n1
      have g2 := (P2.out.b.cell (p := ⟨0, 2, none⟩) hpos).trans n2
      have hbw := P2.out.b
      simp only [cellsV, vN, List.getElem?_toArray, List.getElem?_cons_zero, List.getElem?_cons_succ] at x0 x1 x2 o0 o1 o2
      cases hw : (sWr (vB false) == t) with
      | true =>
        have HR := Lib.hid (res_ok HC.out hv hw)
        go_wp2
        ((try simp only [Exit.inBlock, Exit.then]); refine bodyPost_ret (by simp only [results, Tryz.results45]; go_simp; try rfl) rfl ?_)
        refine ⟨by (rw [HR.out]; first | done | rfl), ?_⟩
        (repeat' (first | (with_reducible exact Below.refl _ _) | (with_reducible assumption) | (with_reducible refine Below.alloc ?_ ?_ _) | (with_reducible refine Below.drew ?_) | (with_reducible refine Below.drewN' ?_ _) | (with_reducible refine Below.setCell ?_ ?_ _) | (refine Below.via ?_ (by assumption) ?_) | go_size))
      | false =>
        have HR := Lib.hid (res_bad_w HC.out hw)
        go_wp2
        ((try simp only [Exit.inBlock, Exit.then]); refine bodyPost_ret (by simp only [results, Tryz.results45]; go_simp; try rfl) rfl ?_)
        refine ⟨by rw [HR.out]; rfl, ?_⟩
        (repeat' (first | (with_reducible exact Below.refl _ _) | (with_reducible assumption) | (with_reducible refine Below.alloc ?_ ?_ _) | (with_reducible refine Below.drew ?_) | (with_reducible refine Below.drewN' ?_ _) | (with_reducible refine Below.setCell ?_ ?_ _) | (refine Below.via ?_ (by assumption) ?_) | go_size))
  · go_wp2_with fail
    refine (bool_any _ _).mono ?_; rintro e w1 ⟨rfl, hbw1⟩
    have PW := Lib.hid (P0.later hbw1)
    clear hbw1
    have x0 := blk_cell PW.out.x 0
    have x1 := blk_cell PW.out.x 1
    have x2 := blk_cell PW.out.x 2
    have o0 := blk_cell PW.out.o 0
    have o1 := blk_cell PW.out.o 1
    have o2 := blk_cell PW.out.o 2
    have of : ∀ i, w1.frozen? ⟨w.heap.size, i, none⟩ = false := fun i => blk_frozen PW.out.o i
    have xf : ∀ i, w1.frozen? ⟨w.heap.size + 1, i, none⟩ = false := fun i => blk_frozen PW.out.x i
    have zx : w.heap.size + 1 < w1.heap.size := blk_lt PW.out.x
    have zo : w.heap.size < w1.heap.size := blk_lt PW.out.o
    have zp : 0 < w1.heap.size := by omega
    have g0 := (PW.out.b.cell (p := ⟨0, 0, none⟩) hpos).trans n0
    have g1 := (PW.out.b.cell (p := ⟨0, 1, none⟩) hpos).trans n1
    have g2 := (PW.out.b.cell (p := ⟨0, 2, none⟩) hpos).trans n2
    have hbw := PW.out.b
    simp only [cellsV, vN, List.getElem?_toArray, List.getElem?_cons_zero, List.getElem?_cons_succ] at x0 x1 x2 o0 o1 o2
    go_wp2_with fail
    have PX := Lib.hid (PW.out.set (vB true))
    clear x0 x1 x2 o0 o1 o2 of xf zx zo zp g0 g1 g2 hbw
    refine (valid_e _ _ _ _ (HE.out.later PX.out.b).nul).mono ?_; rintro e u1 ⟨rfl, hbu1⟩
    have P1 := Lib.hid (PX.out.later hbu1)
    have x0 := blk_cell P1.out.x 0
    have x1 := blk_cell P1.out.x 1
    have x2 := blk_cell P1.out.x 2
    have o0 := blk_cell P1.out.o 0
    have o1 := blk_cell P1.out.o 1
    have o2 := blk_cell P1.out.o 2
    have of : ∀ i, u1.frozen? ⟨w.heap.size, i, none⟩ = false := fun i => blk_frozen P1.out.o i
    have xf : ∀ i, u1.frozen? ⟨w.heap.size + 1, i, none⟩ = false := fun i => blk_frozen P1.out.x i
    have zx : w.heap.size + 1 < u1.heap.size := blk_lt P1.out.x
    have zo : w.heap.size < u1.heap.size := blk_lt P1.out.o
    have zp : 0 < u1.heap.size := by omega
    have g0 := (P1.out.b.cell (p := ⟨0, 0, none⟩) hpos).trans n0
    have g1 := (P1.out.b.cell (p := ⟨0, 1, none⟩) hpos).trans n1
    have g2 := (P1.out.b.cell (p := ⟨0, 2, none⟩) hpos).trans n2
    have hbw := P1.out.b
    simp only [cellsV, vN, List.getElem?_toArray, List.getElem?_cons_zero, List.getElem?_cons_succ] at x0 x1 x2 o0 o1 o2
    cases hv : sValid (vB true) with
    | false =>
      have HR := Lib.hid (res_bad_v HC.out hv)
      go_wp2
      ((try simp only [Exit.inBlock, Exit.then]); refine bodyPost_ret (by simp only [results, Tryz.results45]; go_simp; try rfl) rfl ?_)
      refine ⟨by rw [HR.out]; rfl, ?_⟩
      (repeat' (first | (with_reducible exact Below.refl _ _) | (with_reducible assumption) | (with_reducible refine Below.alloc ?_ ?_ _) | (with_reducible refine Below.drew ?_) | (with_reducible refine Below.drewN' ?_ _) | (with_reducible refine Below.setCell ?_ ?_ _) | (refine Below.via ?_ (by assumption) ?_) | go_size))
    | true =>
      go_wp2_with fail
      refine (wr_any (vB true) u1 (HE.out.later P1.out.b) hv).mono ?_; rintro e u2 ⟨rfl, hbu2⟩
      have P2 := Lib.hid (P1.out.later hbu2)
      clear x0 x1 x2 o0 o1 o2 of xf zx zo zp g0 g1 g2 hbw
      have x0 := blk_cell P2.out.x 0
      have x1 := blk_cell P2.out.x 1
      have x2 := blk_cell P2.out.x 2
      have o0 := blk_cell P2.out.o 0
      have o1 := blk_cell P2.out.o 1
      have o2 := blk_cell P2.out.o 2
      have of : ∀ i, u2.frozen? ⟨w.heap.size, i, none⟩ = false := fun i => blk_frozen P2.out.o i
      have xf : ∀ i, u2.frozen? ⟨w.heap.size + 1, i, none⟩ = false := fun i => blk_frozen P2.out.x i
      have zx : w.heap.size + 1 < u2.heap.size := blk_lt P2.out.x
      have zo : w.heap.size < u2.heap.size := blk_lt P2.out.o
      have zp : 0 < u2.heap.size := by omega
      have g0 := (P2.out.b.cell (p := ⟨0, 0, none⟩) hpos).trans n0
      have g1 := (P2.out.b.cell (p := ⟨0, 1, none⟩) hpos).trans n1
      have g2 := (P2.out.b.cell (p := ⟨0, 2, none⟩) hpos).trans n2
      have hbw := P2.out.b
      simp only [cellsV, vN, List.getElem?_toArray, List.getElem?_cons_zero, List.getElem?_cons_succ] at x0 x1 x2 o0 o1 o2
      cases hw : (sWr (vB true) == t) with
      | true =>
        have HR := Lib.hid (res_ok HC.out hv hw)
        go_wp2
        ((try simp only [Exit.inBlock, Exit.then]); refine bodyPost_ret (by simp only [results, Tryz.results45]; go_simp; try rfl) rfl ?_)
        refine ⟨by (rw [HR.out]; first | done | rfl), ?_⟩
        (repeat' (first | (with_reducible exact Below.refl _ _) | (with_reducible assumption) | (with_reducible refine Below.alloc ?_ ?_ _) | (with_reducible refine Below.drew ?_) | (with_reducible refine Below.drewN' ?_ _) | (with_reducible refine Below.setCell ?_ ?_ _) | (refine Below.via ?_ (by assumption) ?_) | go_size))
      | false =>
        have HR := Lib.hid (res_bad_w HC.out hw)
        go_wp2
        ((try simp only [Exit.inBlock, Exit.then]); refine bodyPost_ret (by simp only [results, Tryz.results45]; go_simp; try rfl) rfl ?_)
        refine ⟨by rw [HR.out]; rfl, ?_⟩
        (repeat' (first | (with_reducible exact Below.refl _ _) | (with_reducible assumption) | (with_reducible refine Below.alloc ?_ ?_ _) | (with_reducible refine Below.drew ?_) | (with_reducible refine Below.drewN' ?_ _) | (with_reducible refine Below.setCell ?_ ?_ _) | (refine Below.via ?_ (by assumption) ?_) | go_size))
end Go.Proofs.YtpmfpfkahanlaaaGreatDoor

/- Parse of package value, walked: null, quoted strings, numbers. -/
namespace Go.Proofs.YtpmfpfkahanlaaaGreatDoor
open Go.RowKit
set_option linter.unusedSimpArgs false
set_option linter.unusedVariables false
attribute [local go_sem] Later.cell Later.lt
attribute [local go_sem high] run_eqV run_neV
attribute [local go_sem] cell_set_same cat_bytes



set_option maxRecDepth 100000 in
set_option maxHeartbeats 4000000 in
theorem parse_null (w : World) (hE : Env w) :
    Calls Tryz.prog 45 #[.string ⟨#[110, 117, 108, 108]⟩] w fun e w' => e = .returned (.tuple #[.agg #[.int .i64 (vParse [110, 117, 108, 108]).1.k, .int .i64 (vParse [110, 117, 108, 108]).1.n, .string ⟨List.toArray (vParse [110, 117, 108, 108]).1.t⟩], .int .i64 (vParse [110, 117, 108, 108]).2]) ∧ Below w.heap.size w w' := by
  have HE := Lib.hid hE
  obtain ⟨n0, n1, n2, hpos⟩ := hE.nul
  clear hE
  have HC : Hid (cand [110, 117, 108, 108] = vN) := Lib.hid rfl
  have P0 := Lib.hid (PS.start w)
  have he : ({ data := #[110, 117, 108, 108] } : ByteArray)[0]'(by decide) = 110 := rfl
  go_enter Tryz.func45, Tryz.ntmps45
  go_wp2_with fail
  refine (show Calls Tryz.prog 15 #[(.agg #[.int .i64 (vN).k, .int .i64 (vN).n, .string ⟨List.toArray (vN).t⟩])] _ _ from ?_)
  refine (valid_e _ _ _ _ (HE.out.later P0.out.b).nul).mono ?_; rintro e u1 ⟨rfl, hbu1⟩
  have P1 := Lib.hid (P0.out.later hbu1)
  have x0 := blk_cell P1.out.x 0
  have x1 := blk_cell P1.out.x 1
  have x2 := blk_cell P1.out.x 2
  have o0 := blk_cell P1.out.o 0
  have o1 := blk_cell P1.out.o 1
  have o2 := blk_cell P1.out.o 2
  have of : ∀ i, u1.frozen? ⟨w.heap.size, i, none⟩ = false := fun i => blk_frozen P1.out.o i
  have xf : ∀ i, u1.frozen? ⟨w.heap.size + 1, i, none⟩ = false := fun i => blk_frozen P1.out.x i
  have zx : w.heap.size + 1 < u1.heap.size := blk_lt P1.out.x
  have zo : w.heap.size < u1.heap.size := blk_lt P1.out.o
  have zp : 0 < u1.heap.size := by omega
  have g0 := (P1.out.b.cell (p := ⟨0, 0, none⟩) hpos).trans n0
  have g1 := (P1.out.b.cell (p := ⟨0, 1, none⟩) hpos).trans n1
  have g2 := (P1.out.b.cell (p := ⟨0, 2, none⟩) hpos).trans n2
  have hbw := P1.out.b
  simp only [cellsV, vN, List.getElem?_toArray, List.getElem?_cons_zero, List.getElem?_cons_succ] at x0 x1 x2 o0 o1 o2
  cases hv : sValid vN with
  | false =>
    have HR := Lib.hid (res_bad_v HC.out hv)
    go_wp2
    ((try simp only [Exit.inBlock, Exit.then]); refine bodyPost_ret (by simp only [results, Tryz.results45]; go_simp; try rfl) rfl ?_)
    refine ⟨by rw [HR.out]; rfl, ?_⟩
    (repeat' (first | (with_reducible exact Below.refl _ _) | (with_reducible assumption) | (with_reducible refine Below.alloc ?_ ?_ _) | (with_reducible refine Below.drew ?_) | (with_reducible refine Below.drewN' ?_ _) | (with_reducible refine Below.setCell ?_ ?_ _) | (refine Below.via ?_ (by assumption) ?_) | go_size))
  | true =>
    go_wp2_with fail
    refine (wr_any vN u1 (HE.out.later P1.out.b) hv).mono ?_; rintro e u2 ⟨rfl, hbu2⟩
    have P2 := Lib.hid (P1.out.later hbu2)
    clear x0 x1 x2 o0 o1 o2 of xf zx zo zp g0 g1 g2 hbw
    have x0 := blk_cell P2.out.x 0
    have x1 := blk_cell P2.out.x 1
    have x2 := blk_cell P2.out.x 2
    have o0 := blk_cell P2.out.o 0
    have o1 := blk_cell P2.out.o 1
    have o2 := blk_cell P2.out.o 2
    have of : ∀ i, u2.frozen? ⟨w.heap.size, i, none⟩ = false := fun i => blk_frozen P2.out.o i
    have xf : ∀ i, u2.frozen? ⟨w.heap.size + 1, i, none⟩ = false := fun i => blk_frozen P2.out.x i
    have zx : w.heap.size + 1 < u2.heap.size := blk_lt P2.out.x
    have zo : w.heap.size < u2.heap.size := blk_lt P2.out.o
    have zp : 0 < u2.heap.size := by omega
    have g0 := (P2.out.b.cell (p := ⟨0, 0, none⟩) hpos).trans n0
    have g1 := (P2.out.b.cell (p := ⟨0, 1, none⟩) hpos).trans n1
    have g2 := (P2.out.b.cell (p := ⟨0, 2, none⟩) hpos).trans n2
    have hbw := P2.out.b
    simp only [cellsV, vN, List.getElem?_toArray, List.getElem?_cons_zero, List.getElem?_cons_succ] at x0 x1 x2 o0 o1 o2
    cases hw : (sWr vN == [110, 117, 108, 108]) with
    | true =>
      have HR := Lib.hid (res_ok HC.out hv hw)
      go_wp2
      ((try simp only [Exit.inBlock, Exit.then]); refine bodyPost_ret (by simp only [results, Tryz.results45]; go_simp; try rfl) rfl ?_)
      refine ⟨by (rw [HR.out]; first | done | rfl), ?_⟩
      (repeat' (first | (with_reducible exact Below.refl _ _) | (with_reducible assumption) | (with_reducible refine Below.alloc ?_ ?_ _) | (with_reducible refine Below.drew ?_) | (with_reducible refine Below.drewN' ?_ _) | (with_reducible refine Below.setCell ?_ ?_ _) | (refine Below.via ?_ (by assumption) ?_) | go_size))
    | false =>
      have HR := Lib.hid (res_bad_w HC.out hw)
      go_wp2
      ((try simp only [Exit.inBlock, Exit.then]); refine bodyPost_ret (by simp only [results, Tryz.results45]; go_simp; try rfl) rfl ?_)
      refine ⟨by rw [HR.out]; rfl, ?_⟩
      (repeat' (first | (with_reducible exact Below.refl _ _) | (with_reducible assumption) | (with_reducible refine Below.alloc ?_ ?_ _) | (with_reducible refine Below.drew ?_) | (with_reducible refine Below.drewN' ?_ _) | (with_reducible refine Below.setCell ?_ ?_ _) | (refine Below.via ?_ (by assumption) ?_) | go_size))
end Go.Proofs.YtpmfpfkahanlaaaGreatDoor

/- Parse of package value, walked: quoted strings. -/
namespace Go.Proofs.YtpmfpfkahanlaaaGreatDoor
open Go.RowKit
set_option linter.unusedSimpArgs false
set_option linter.unusedVariables false
attribute [local go_sem] Later.cell Later.lt
attribute [local go_sem high] run_eqV run_neV
attribute [local go_sem] cell_set_same cat_bytes



set_option maxRecDepth 100000 in
set_option maxHeartbeats 4000000 in
theorem parse_quote (t : List UInt8) (w : World) (hE : Env w) (ht : t.length ≤ 4000000) (ht1 : (t == [116, 114, 117, 101]) = false) (ht2 : (t == [102, 97, 108, 115, 101]) = false) (hq : isQ t = true) :
    Calls Tryz.prog 45 #[.string ⟨t.toArray⟩] w fun e w' => e = .returned (.tuple #[.agg #[.int .i64 (vParse t).1.k, .int .i64 (vParse t).1.n, .string ⟨List.toArray (vParse t).1.t⟩], .int .i64 (vParse t).2]) ∧ Below w.heap.size w w' := by
  have HE := Lib.hid hE
  obtain ⟨n0, n1, n2, hpos⟩ := hE.nul
  clear hE
  have HC0 : cand t = vS (unesc ((t.drop 1).take (t.length - 2))) := by unfold cand; rw [ht1, ht2, hq]; rfl
  have P0 := Lib.hid (PS.start w)
  have hq0 := hq
  unfold isQ at hq0
  simp only [Bool.and_eq_true, decide_eq_true_eq, beq_iff_eq] at hq0
  obtain ⟨hl, a0, a1⟩ := hq0
  obtain ⟨m, hm⟩ : ∃ m, t.length = m + 2 := ⟨t.length - 2, by omega⟩
  have he0 : ({ data := t.toArray } : ByteArray)[0]'(show 0 < t.length by omega) = 39 := by
    rw [List.getElem?_eq_getElem (by omega)] at a0
    exact Option.some.inj a0
  have he1 : ({ data := t.toArray } : ByteArray)[m + 1]'(show m + 1 < t.length by omega) = 39 := by
    rw [show t.length - 1 = m + 1 by omega, List.getElem?_eq_getElem (by omega)] at a1
    exact Option.some.inj a1
  clear a0 a1 hq
  rw [show t.length - 2 = m by omega] at HC0
  have HC : Hid (cand t = vS (unesc ((t.drop 1).take m))) := Lib.hid HC0
  clear HC0
  go_enter Tryz.func45, Tryz.ntmps45
  go_wp2_with fail
  rw [extract_bytes, show m + 1 - 1 = m by omega]
  refine (unescq_any _ _ (HE.out.later P0.out.b) (by rw [List.length_take, List.length_drop]; omega)).mono ?_; rintro e w1 ⟨rfl, hbw1⟩
  have PW := Lib.hid (P0.out.later hbw1)
  clear hbw1
  have x0 := blk_cell PW.out.x 0
  have x1 := blk_cell PW.out.x 1
  have x2 := blk_cell PW.out.x 2
  have o0 := blk_cell PW.out.o 0
  have o1 := blk_cell PW.out.o 1
  have o2 := blk_cell PW.out.o 2
  have of : ∀ i, w1.frozen? ⟨w.heap.size, i, none⟩ = false := fun i => blk_frozen PW.out.o i
  have xf : ∀ i, w1.frozen? ⟨w.heap.size + 1, i, none⟩ = false := fun i => blk_frozen PW.out.x i
  have zx : w.heap.size + 1 < w1.heap.size := blk_lt PW.out.x
  have zo : w.heap.size < w1.heap.size := blk_lt PW.out.o
  have zp : 0 < w1.heap.size := by omega
  have g0 := (PW.out.b.cell (p := ⟨0, 0, none⟩) hpos).trans n0
  have g1 := (PW.out.b.cell (p := ⟨0, 1, none⟩) hpos).trans n1
  have g2 := (PW.out.b.cell (p := ⟨0, 2, none⟩) hpos).trans n2
  have hbw := PW.out.b
  simp only [cellsV, vN, List.getElem?_toArray, List.getElem?_cons_zero, List.getElem?_cons_succ] at x0 x1 x2 o0 o1 o2
  generalize unesc ((t.drop 1).take m) = X at HC ⊢
  go_wp2_with fail
  refine (str_any _ _).mono ?_; rintro e w2 ⟨rfl, hbw2⟩
  have PV := Lib.hid (PW.out.later hbw2)
  clear hbw2
  clear x0 x1 x2 o0 o1 o2 of xf zx zo zp g0 g1 g2 hbw
  have x0 := blk_cell PV.out.x 0
  have x1 := blk_cell PV.out.x 1
  have x2 := blk_cell PV.out.x 2
  have o0 := blk_cell PV.out.o 0
  have o1 := blk_cell PV.out.o 1
  have o2 := blk_cell PV.out.o 2
  have of : ∀ i, w2.frozen? ⟨w.heap.size, i, none⟩ = false := fun i => blk_frozen PV.out.o i
  have xf : ∀ i, w2.frozen? ⟨w.heap.size + 1, i, none⟩ = false := fun i => blk_frozen PV.out.x i
  have zx : w.heap.size + 1 < w2.heap.size := blk_lt PV.out.x
  have zo : w.heap.size < w2.heap.size := blk_lt PV.out.o
  have zp : 0 < w2.heap.size := by omega
  have g0 := (PV.out.b.cell (p := ⟨0, 0, none⟩) hpos).trans n0
  have g1 := (PV.out.b.cell (p := ⟨0, 1, none⟩) hpos).trans n1
  have g2 := (PV.out.b.cell (p := ⟨0, 2, none⟩) hpos).trans n2
  have hbw := PV.out.b
  simp only [cellsV, vN, List.getElem?_toArray, List.getElem?_cons_zero, List.getElem?_cons_succ] at x0 x1 x2 o0 o1 o2
  go_wp2_with fail
  have PX := Lib.hid (PV.out.set (vS X))
  clear x0 x1 x2 o0 o1 o2 of xf zx zo zp g0 g1 g2 hbw
  refine (valid_e _ _ _ _ (HE.out.later PX.out.b).nul).mono ?_; rintro e u1 ⟨rfl, hbu1⟩
  have P1 := Lib.hid (PX.out.later hbu1)
  have x0 := blk_cell P1.out.x 0
  have x1 := blk_cell P1.out.x 1
  have x2 := blk_cell P1.out.x 2
  have o0 := blk_cell P1.out.o 0
  have o1 := blk_cell P1.out.o 1
  have o2 := blk_cell P1.out.o 2
  have of : ∀ i, u1.frozen? ⟨w.heap.size, i, none⟩ = false := fun i => blk_frozen P1.out.o i
  have xf : ∀ i, u1.frozen? ⟨w.heap.size + 1, i, none⟩ = false := fun i => blk_frozen P1.out.x i
  have zx : w.heap.size + 1 < u1.heap.size := blk_lt P1.out.x
  have zo : w.heap.size < u1.heap.size := blk_lt P1.out.o
  have zp : 0 < u1.heap.size := by omega
  have g0 := (P1.out.b.cell (p := ⟨0, 0, none⟩) hpos).trans n0
  have g1 := (P1.out.b.cell (p := ⟨0, 1, none⟩) hpos).trans n1
  have g2 := (P1.out.b.cell (p := ⟨0, 2, none⟩) hpos).trans n2
  have hbw := P1.out.b
  simp only [cellsV, vN, List.getElem?_toArray, List.getElem?_cons_zero, List.getElem?_cons_succ] at x0 x1 x2 o0 o1 o2
  cases hv : sValid (vS X) with
  | false =>
    have HR := Lib.hid (res_bad_v HC.out hv)
    go_wp2
    ((try simp only [Exit.inBlock, Exit.then]); refine bodyPost_ret (by simp only [results, Tryz.results45]; go_simp; try rfl) rfl ?_)
    refine ⟨by rw [HR.out]; rfl, ?_⟩
    (repeat' (first | (with_reducible exact Below.refl _ _) | (with_reducible assumption) | (with_reducible refine Below.alloc ?_ ?_ _) | (with_reducible refine Below.drew ?_) | (with_reducible refine Below.drewN' ?_ _) | (with_reducible refine Below.setCell ?_ ?_ _) | (refine Below.via ?_ (by assumption) ?_) | go_size))
  | true =>
    go_wp2_with fail
    refine (wr_any (vS X) u1 (HE.out.later P1.out.b) hv).mono ?_; rintro e u2 ⟨rfl, hbu2⟩
    have P2 := Lib.hid (P1.out.later hbu2)
    clear x0 x1 x2 o0 o1 o2 of xf zx zo zp g0 g1 g2 hbw
    have x0 := blk_cell P2.out.x 0
    have x1 := blk_cell P2.out.x 1
    have x2 := blk_cell P2.out.x 2
    have o0 := blk_cell P2.out.o 0
    have o1 := blk_cell P2.out.o 1
    have o2 := blk_cell P2.out.o 2
    have of : ∀ i, u2.frozen? ⟨w.heap.size, i, none⟩ = false := fun i => blk_frozen P2.out.o i
    have xf : ∀ i, u2.frozen? ⟨w.heap.size + 1, i, none⟩ = false := fun i => blk_frozen P2.out.x i
    have zx : w.heap.size + 1 < u2.heap.size := blk_lt P2.out.x
    have zo : w.heap.size < u2.heap.size := blk_lt P2.out.o
    have zp : 0 < u2.heap.size := by omega
    have g0 := (P2.out.b.cell (p := ⟨0, 0, none⟩) hpos).trans n0
    have g1 := (P2.out.b.cell (p := ⟨0, 1, none⟩) hpos).trans n1
    have g2 := (P2.out.b.cell (p := ⟨0, 2, none⟩) hpos).trans n2
    have hbw := P2.out.b
    simp only [cellsV, vN, List.getElem?_toArray, List.getElem?_cons_zero, List.getElem?_cons_succ] at x0 x1 x2 o0 o1 o2
    cases hw : (sWr (vS X) == t) with
    | true =>
      have HR := Lib.hid (res_ok HC.out hv hw)
      go_wp2
      ((try simp only [Exit.inBlock, Exit.then]); refine bodyPost_ret (by simp only [results, Tryz.results45]; go_simp; try rfl) rfl ?_)
      refine ⟨by (rw [HR.out]; first | done | rfl), ?_⟩
      (repeat' (first | (with_reducible exact Below.refl _ _) | (with_reducible assumption) | (with_reducible refine Below.alloc ?_ ?_ _) | (with_reducible refine Below.drew ?_) | (with_reducible refine Below.drewN' ?_ _) | (with_reducible refine Below.setCell ?_ ?_ _) | (refine Below.via ?_ (by assumption) ?_) | go_size))
    | false =>
      have HR := Lib.hid (res_bad_w HC.out hw)
      go_wp2
      ((try simp only [Exit.inBlock, Exit.then]); refine bodyPost_ret (by simp only [results, Tryz.results45]; go_simp; try rfl) rfl ?_)
      refine ⟨by rw [HR.out]; rfl, ?_⟩
      (repeat' (first | (with_reducible exact Below.refl _ _) | (with_reducible assumption) | (with_reducible refine Below.alloc ?_ ?_ _) | (with_reducible refine Below.drew ?_) | (with_reducible refine Below.drewN' ?_ _) | (with_reducible refine Below.setCell ?_ ?_ _) | (refine Below.via ?_ (by assumption) ?_) | go_size))
end Go.Proofs.YtpmfpfkahanlaaaGreatDoor

/- Parse of package value, walked: numbers. -/
namespace Go.Proofs.YtpmfpfkahanlaaaGreatDoor
open Go.RowKit
set_option linter.unusedSimpArgs false
set_option linter.unusedVariables false
attribute [local go_sem] Later.cell Later.lt
attribute [local go_sem high] run_eqV run_neV
attribute [local go_sem] cell_set_same cat_bytes



set_option maxRecDepth 100000 in
set_option maxHeartbeats 4000000 in
theorem parse_num1 (t : List UInt8) (w : World) (hE : Env w) (ht : t.length ≤ 4000000) (ht1 : (t == [116, 114, 117, 101]) = false) (ht2 : (t == [102, 97, 108, 115, 101]) = false) (hn : (t == [110, 117, 108, 108]) = false) (hq : isQ t = false) (hl : ¬ 2 ≤ t.length) :
    Calls Tryz.prog 45 #[.string ⟨t.toArray⟩] w fun e w' => e = .returned (.tuple #[.agg #[.int .i64 (vParse t).1.k, .int .i64 (vParse t).1.n, .string ⟨List.toArray (vParse t).1.t⟩], .int .i64 (vParse t).2]) ∧ Below w.heap.size w w' := by
  have HE := Lib.hid hE
  obtain ⟨n0, n1, n2, hpos⟩ := hE.nul
  clear hE
  have HC0 : cand t = vI (atoiN t) := by unfold cand; rw [ht1, ht2, hq, bne, hn]; rfl
  have HC : Hid (cand t = vI (atoiN t)) := Lib.hid HC0
  clear HC0
  have P0 := Lib.hid (PS.start w)
  have hl2 : ¬ (2 : Int) ≤ (t.length : Int) := by omega
  clear hq
  have htl : t.length ≤ 281474976710656 := by omega
  go_enter Tryz.func45, Tryz.ntmps45
  go_wp2_with fail
  refine (atoiN_any _ _ htl (HE.out.later P0.out.b)).mono ?_; rintro e w1 ⟨er, rfl, hbw1⟩
  have PW := Lib.hid (P0.out.later hbw1)
  clear hbw1
  have x0 := blk_cell PW.out.x 0
  have x1 := blk_cell PW.out.x 1
  have x2 := blk_cell PW.out.x 2
  have o0 := blk_cell PW.out.o 0
  have o1 := blk_cell PW.out.o 1
  have o2 := blk_cell PW.out.o 2
  have of : ∀ i, w1.frozen? ⟨w.heap.size, i, none⟩ = false := fun i => blk_frozen PW.out.o i
  have xf : ∀ i, w1.frozen? ⟨w.heap.size + 1, i, none⟩ = false := fun i => blk_frozen PW.out.x i
  have zx : w.heap.size + 1 < w1.heap.size := blk_lt PW.out.x
  have zo : w.heap.size < w1.heap.size := blk_lt PW.out.o
  have zp : 0 < w1.heap.size := by omega
  have g0 := (PW.out.b.cell (p := ⟨0, 0, none⟩) hpos).trans n0
  have g1 := (PW.out.b.cell (p := ⟨0, 1, none⟩) hpos).trans n1
  have g2 := (PW.out.b.cell (p := ⟨0, 2, none⟩) hpos).trans n2
  have hbw := PW.out.b
  simp only [cellsV, vN, List.getElem?_toArray, List.getElem?_cons_zero, List.getElem?_cons_succ] at x0 x1 x2 o0 o1 o2
  generalize atoiN t = X at HC ⊢
  go_wp2_with fail
  refine (int_any _ _).mono ?_; rintro e w2 ⟨rfl, hbw2⟩
  have PV := Lib.hid (PW.out.later hbw2)
  clear hbw2
  clear x0 x1 x2 o0 o1 o2 of xf zx zo zp g0 g1 g2 hbw
  have x0 := blk_cell PV.out.x 0
  have x1 := blk_cell PV.out.x 1
  have x2 := blk_cell PV.out.x 2
  have o0 := blk_cell PV.out.o 0
  have o1 := blk_cell PV.out.o 1
  have o2 := blk_cell PV.out.o 2
  have of : ∀ i, w2.frozen? ⟨w.heap.size, i, none⟩ = false := fun i => blk_frozen PV.out.o i
  have xf : ∀ i, w2.frozen? ⟨w.heap.size + 1, i, none⟩ = false := fun i => blk_frozen PV.out.x i
  have zx : w.heap.size + 1 < w2.heap.size := blk_lt PV.out.x
  have zo : w.heap.size < w2.heap.size := blk_lt PV.out.o
  have zp : 0 < w2.heap.size := by omega
  have g0 := (PV.out.b.cell (p := ⟨0, 0, none⟩) hpos).trans n0
  have g1 := (PV.out.b.cell (p := ⟨0, 1, none⟩) hpos).trans n1
  have g2 := (PV.out.b.cell (p := ⟨0, 2, none⟩) hpos).trans n2
  have hbw := PV.out.b
  simp only [cellsV, vN, List.getElem?_toArray, List.getElem?_cons_zero, List.getElem?_cons_succ] at x0 x1 x2 o0 o1 o2
  go_wp2_with fail
  have PX := Lib.hid (PV.out.set (vI X))
  clear x0 x1 x2 o0 o1 o2 of xf zx zo zp g0 g1 g2 hbw
  refine (valid_e _ _ _ _ (HE.out.later PX.out.b).nul).mono ?_; rintro e u1 ⟨rfl, hbu1⟩
  have P1 := Lib.hid (PX.out.later hbu1)
  have x0 := blk_cell P1.out.x 0
  have x1 := blk_cell P1.out.x 1
  have x2 := blk_cell P1.out.x 2
  have o0 := blk_cell P1.out.o 0
  have o1 := blk_cell P1.out.o 1
  have o2 := blk_cell P1.out.o 2
  have of : ∀ i, u1.frozen? ⟨w.heap.size, i, none⟩ = false := fun i => blk_frozen P1.out.o i
  have xf : ∀ i, u1.frozen? ⟨w.heap.size + 1, i, none⟩ = false := fun i => blk_frozen P1.out.x i
  have zx : w.heap.size + 1 < u1.heap.size := blk_lt P1.out.x
  have zo : w.heap.size < u1.heap.size := blk_lt P1.out.o
  have zp : 0 < u1.heap.size := by omega
  have g0 := (P1.out.b.cell (p := ⟨0, 0, none⟩) hpos).trans n0
  have g1 := (P1.out.b.cell (p := ⟨0, 1, none⟩) hpos).trans n1
  have g2 := (P1.out.b.cell (p := ⟨0, 2, none⟩) hpos).trans n2
  have hbw := P1.out.b
  simp only [cellsV, vN, List.getElem?_toArray, List.getElem?_cons_zero, List.getElem?_cons_succ] at x0 x1 x2 o0 o1 o2
  cases hv : sValid (vI X) with
  | false =>
    have HR := Lib.hid (res_bad_v HC.out hv)
    go_wp2
    ((try simp only [Exit.inBlock, Exit.then]); refine bodyPost_ret (by simp only [results, Tryz.results45]; go_simp; try rfl) rfl ?_)
    refine ⟨by rw [HR.out]; rfl, ?_⟩
    (repeat' (first | (with_reducible exact Below.refl _ _) | (with_reducible assumption) | (with_reducible refine Below.alloc ?_ ?_ _) | (with_reducible refine Below.drew ?_) | (with_reducible refine Below.drewN' ?_ _) | (with_reducible refine Below.setCell ?_ ?_ _) | (refine Below.via ?_ (by assumption) ?_) | go_size))
  | true =>
    go_wp2_with fail
    refine (wr_any (vI X) u1 (HE.out.later P1.out.b) hv).mono ?_; rintro e u2 ⟨rfl, hbu2⟩
    have P2 := Lib.hid (P1.out.later hbu2)
    clear x0 x1 x2 o0 o1 o2 of xf zx zo zp g0 g1 g2 hbw
    have x0 := blk_cell P2.out.x 0
    have x1 := blk_cell P2.out.x 1
    have x2 := blk_cell P2.out.x 2
    have o0 := blk_cell P2.out.o 0
    have o1 := blk_cell P2.out.o 1
    have o2 := blk_cell P2.out.o 2
    have of : ∀ i, u2.frozen? ⟨w.heap.size, i, none⟩ = false := fun i => blk_frozen P2.out.o i
    have xf : ∀ i, u2.frozen? ⟨w.heap.size + 1, i, none⟩ = false := fun i => blk_frozen P2.out.x i
    have zx : w.heap.size + 1 < u2.heap.size := blk_lt P2.out.x
    have zo : w.heap.size < u2.heap.size := blk_lt P2.out.o
    have zp : 0 < u2.heap.size := by omega
    have g0 := (P2.out.b.cell (p := ⟨0, 0, none⟩) hpos).trans n0
    have g1 := (P2.out.b.cell (p := ⟨0, 1, none⟩) hpos).trans n1
    have g2 := (P2.out.b.cell (p := ⟨0, 2, none⟩) hpos).trans n2
    have hbw := P2.out.b
    simp only [cellsV, vN, List.getElem?_toArray, List.getElem?_cons_zero, List.getElem?_cons_succ] at x0 x1 x2 o0 o1 o2
    cases hw : (sWr (vI X) == t) with
    | true =>
      have HR := Lib.hid (res_ok HC.out hv hw)
      go_wp2
      ((try simp only [Exit.inBlock, Exit.then]); refine bodyPost_ret (by simp only [results, Tryz.results45]; go_simp; try rfl) rfl ?_)
      refine ⟨by (rw [HR.out]; first | done | rfl), ?_⟩
      (repeat' (first | (with_reducible exact Below.refl _ _) | (with_reducible assumption) | (with_reducible refine Below.alloc ?_ ?_ _) | (with_reducible refine Below.drew ?_) | (with_reducible refine Below.drewN' ?_ _) | (with_reducible refine Below.setCell ?_ ?_ _) | (refine Below.via ?_ (by assumption) ?_) | go_size))
    | false =>
      have HR := Lib.hid (res_bad_w HC.out hw)
      go_wp2
      ((try simp only [Exit.inBlock, Exit.then]); refine bodyPost_ret (by simp only [results, Tryz.results45]; go_simp; try rfl) rfl ?_)
      refine ⟨by rw [HR.out]; rfl, ?_⟩
      (repeat' (first | (with_reducible exact Below.refl _ _) | (with_reducible assumption) | (with_reducible refine Below.alloc ?_ ?_ _) | (with_reducible refine Below.drew ?_) | (with_reducible refine Below.drewN' ?_ _) | (with_reducible refine Below.setCell ?_ ?_ _) | (refine Below.via ?_ (by assumption) ?_) | go_size))
set_option maxRecDepth 100000 in
set_option maxHeartbeats 4000000 in
theorem parse_num2 (t : List UInt8) (w : World) (hE : Env w) (ht : t.length ≤ 4000000) (ht1 : (t == [116, 114, 117, 101]) = false) (ht2 : (t == [102, 97, 108, 115, 101]) = false) (hn : (t == [110, 117, 108, 108]) = false) (hq : isQ t = false) (m : Nat) (hm : t.length = m + 2) (a0 : t[0]? ≠ some 39) :
    Calls Tryz.prog 45 #[.string ⟨t.toArray⟩] w fun e w' => e = .returned (.tuple #[.agg #[.int .i64 (vParse t).1.k, .int .i64 (vParse t).1.n, .string ⟨List.toArray (vParse t).1.t⟩], .int .i64 (vParse t).2]) ∧ Below w.heap.size w w' := by
  have HE := Lib.hid hE
  obtain ⟨n0, n1, n2, hpos⟩ := hE.nul
  clear hE
  have HC0 : cand t = vI (atoiN t) := by unfold cand; rw [ht1, ht2, hq, bne, hn]; rfl
  have HC : Hid (cand t = vI (atoiN t)) := Lib.hid HC0
  clear HC0
  have P0 := Lib.hid (PS.start w)
  have he0 : ¬ ({ data := t.toArray } : ByteArray)[0]'(show 0 < t.length by omega) = 39 := by
    rw [List.getElem?_eq_getElem (by omega)] at a0
    exact fun e => a0 (congrArg some e)
  have he1 : ((({ data := t.toArray } : ByteArray)[0]'(show 0 < t.length by omega)).toNat : Int) ≠ 39 := fun e => he0 (UInt8.toNat_inj.1 (by have h39 : (39 : UInt8).toNat = 39 := rfl; rw [h39]; omega))
  clear a0 he0
  clear hq
  have htl : t.length ≤ 281474976710656 := by omega
  go_enter Tryz.func45, Tryz.ntmps45
  go_wp2_with fail
  refine (atoiN_any _ _ htl (HE.out.later P0.out.b)).mono ?_; rintro e w1 ⟨er, rfl, hbw1⟩
  have PW := Lib.hid (P0.out.later hbw1)
  clear hbw1
  have x0 := blk_cell PW.out.x 0
  have x1 := blk_cell PW.out.x 1
  have x2 := blk_cell PW.out.x 2
  have o0 := blk_cell PW.out.o 0
  have o1 := blk_cell PW.out.o 1
  have o2 := blk_cell PW.out.o 2
  have of : ∀ i, w1.frozen? ⟨w.heap.size, i, none⟩ = false := fun i => blk_frozen PW.out.o i
  have xf : ∀ i, w1.frozen? ⟨w.heap.size + 1, i, none⟩ = false := fun i => blk_frozen PW.out.x i
  have zx : w.heap.size + 1 < w1.heap.size := blk_lt PW.out.x
  have zo : w.heap.size < w1.heap.size := blk_lt PW.out.o
  have zp : 0 < w1.heap.size := by omega
  have g0 := (PW.out.b.cell (p := ⟨0, 0, none⟩) hpos).trans n0
  have g1 := (PW.out.b.cell (p := ⟨0, 1, none⟩) hpos).trans n1
  have g2 := (PW.out.b.cell (p := ⟨0, 2, none⟩) hpos).trans n2
  have hbw := PW.out.b
  simp only [cellsV, vN, List.getElem?_toArray, List.getElem?_cons_zero, List.getElem?_cons_succ] at x0 x1 x2 o0 o1 o2
  generalize atoiN t = X at HC ⊢
  go_wp2_with fail
  refine (int_any _ _).mono ?_; rintro e w2 ⟨rfl, hbw2⟩
  have PV := Lib.hid (PW.out.later hbw2)
  clear hbw2
  clear x0 x1 x2 o0 o1 o2 of xf zx zo zp g0 g1 g2 hbw
  have x0 := blk_cell PV.out.x 0
  have x1 := blk_cell PV.out.x 1
  have x2 := blk_cell PV.out.x 2
  have o0 := blk_cell PV.out.o 0
  have o1 := blk_cell PV.out.o 1
  have o2 := blk_cell PV.out.o 2
  have of : ∀ i, w2.frozen? ⟨w.heap.size, i, none⟩ = false := fun i => blk_frozen PV.out.o i
  have xf : ∀ i, w2.frozen? ⟨w.heap.size + 1, i, none⟩ = false := fun i => blk_frozen PV.out.x i
  have zx : w.heap.size + 1 < w2.heap.size := blk_lt PV.out.x
  have zo : w.heap.size < w2.heap.size := blk_lt PV.out.o
  have zp : 0 < w2.heap.size := by omega
  have g0 := (PV.out.b.cell (p := ⟨0, 0, none⟩) hpos).trans n0
  have g1 := (PV.out.b.cell (p := ⟨0, 1, none⟩) hpos).trans n1
  have g2 := (PV.out.b.cell (p := ⟨0, 2, none⟩) hpos).trans n2
  have hbw := PV.out.b
  simp only [cellsV, vN, List.getElem?_toArray, List.getElem?_cons_zero, List.getElem?_cons_succ] at x0 x1 x2 o0 o1 o2
  go_wp2_with fail
  have PX := Lib.hid (PV.out.set (vI X))
  clear x0 x1 x2 o0 o1 o2 of xf zx zo zp g0 g1 g2 hbw
  refine (valid_e _ _ _ _ (HE.out.later PX.out.b).nul).mono ?_; rintro e u1 ⟨rfl, hbu1⟩
  have P1 := Lib.hid (PX.out.later hbu1)
  have x0 := blk_cell P1.out.x 0
  have x1 := blk_cell P1.out.x 1
  have x2 := blk_cell P1.out.x 2
  have o0 := blk_cell P1.out.o 0
  have o1 := blk_cell P1.out.o 1
  have o2 := blk_cell P1.out.o 2
  have of : ∀ i, u1.frozen? ⟨w.heap.size, i, none⟩ = false := fun i => blk_frozen P1.out.o i
  have xf : ∀ i, u1.frozen? ⟨w.heap.size + 1, i, none⟩ = false := fun i => blk_frozen P1.out.x i
  have zx : w.heap.size + 1 < u1.heap.size := blk_lt P1.out.x
  have zo : w.heap.size < u1.heap.size := blk_lt P1.out.o
  have zp : 0 < u1.heap.size := by omega
  have g0 := (P1.out.b.cell (p := ⟨0, 0, none⟩) hpos).trans n0
  have g1 := (P1.out.b.cell (p := ⟨0, 1, none⟩) hpos).trans n1
  have g2 := (P1.out.b.cell (p := ⟨0, 2, none⟩) hpos).trans n2
  have hbw := P1.out.b
  simp only [cellsV, vN, List.getElem?_toArray, List.getElem?_cons_zero, List.getElem?_cons_succ] at x0 x1 x2 o0 o1 o2
  cases hv : sValid (vI X) with
  | false =>
    have HR := Lib.hid (res_bad_v HC.out hv)
    go_wp2
    ((try simp only [Exit.inBlock, Exit.then]); refine bodyPost_ret (by simp only [results, Tryz.results45]; go_simp; try rfl) rfl ?_)
    refine ⟨by rw [HR.out]; rfl, ?_⟩
    (repeat' (first | (with_reducible exact Below.refl _ _) | (with_reducible assumption) | (with_reducible refine Below.alloc ?_ ?_ _) | (with_reducible refine Below.drew ?_) | (with_reducible refine Below.drewN' ?_ _) | (with_reducible refine Below.setCell ?_ ?_ _) | (refine Below.via ?_ (by assumption) ?_) | go_size))
  | true =>
    go_wp2_with fail
    refine (wr_any (vI X) u1 (HE.out.later P1.out.b) hv).mono ?_; rintro e u2 ⟨rfl, hbu2⟩
    have P2 := Lib.hid (P1.out.later hbu2)
    clear x0 x1 x2 o0 o1 o2 of xf zx zo zp g0 g1 g2 hbw
    have x0 := blk_cell P2.out.x 0
    have x1 := blk_cell P2.out.x 1
    have x2 := blk_cell P2.out.x 2
    have o0 := blk_cell P2.out.o 0
    have o1 := blk_cell P2.out.o 1
    have o2 := blk_cell P2.out.o 2
    have of : ∀ i, u2.frozen? ⟨w.heap.size, i, none⟩ = false := fun i => blk_frozen P2.out.o i
    have xf : ∀ i, u2.frozen? ⟨w.heap.size + 1, i, none⟩ = false := fun i => blk_frozen P2.out.x i
    have zx : w.heap.size + 1 < u2.heap.size := blk_lt P2.out.x
    have zo : w.heap.size < u2.heap.size := blk_lt P2.out.o
    have zp : 0 < u2.heap.size := by omega
    have g0 := (P2.out.b.cell (p := ⟨0, 0, none⟩) hpos).trans n0
    have g1 := (P2.out.b.cell (p := ⟨0, 1, none⟩) hpos).trans n1
    have g2 := (P2.out.b.cell (p := ⟨0, 2, none⟩) hpos).trans n2
    have hbw := P2.out.b
    simp only [cellsV, vN, List.getElem?_toArray, List.getElem?_cons_zero, List.getElem?_cons_succ] at x0 x1 x2 o0 o1 o2
    cases hw : (sWr (vI X) == t) with
    | true =>
      have HR := Lib.hid (res_ok HC.out hv hw)
      go_wp2
      ((try simp only [Exit.inBlock, Exit.then]); refine bodyPost_ret (by simp only [results, Tryz.results45]; go_simp; try rfl) rfl ?_)
      refine ⟨by (rw [HR.out]; first | done | rfl), ?_⟩
      (repeat' (first | (with_reducible exact Below.refl _ _) | (with_reducible assumption) | (with_reducible refine Below.alloc ?_ ?_ _) | (with_reducible refine Below.drew ?_) | (with_reducible refine Below.drewN' ?_ _) | (with_reducible refine Below.setCell ?_ ?_ _) | (refine Below.via ?_ (by assumption) ?_) | go_size))
    | false =>
      have HR := Lib.hid (res_bad_w HC.out hw)
      go_wp2
      ((try simp only [Exit.inBlock, Exit.then]); refine bodyPost_ret (by simp only [results, Tryz.results45]; go_simp; try rfl) rfl ?_)
      refine ⟨by rw [HR.out]; rfl, ?_⟩
      (repeat' (first | (with_reducible exact Below.refl _ _) | (with_reducible assumption) | (with_reducible refine Below.alloc ?_ ?_ _) | (with_reducible refine Below.drew ?_) | (with_reducible refine Below.drewN' ?_ _) | (with_reducible refine Below.setCell ?_ ?_ _) | (refine Below.via ?_ (by assumption) ?_) | go_size))
set_option maxRecDepth 100000 in
set_option maxHeartbeats 4000000 in
theorem parse_num3 (t : List UInt8) (w : World) (hE : Env w) (ht : t.length ≤ 4000000) (ht1 : (t == [116, 114, 117, 101]) = false) (ht2 : (t == [102, 97, 108, 115, 101]) = false) (hn : (t == [110, 117, 108, 108]) = false) (hq : isQ t = false) (m : Nat) (hm : t.length = m + 2) (a0 : t[0]? = some 39) (a1 : t[t.length - 1]? ≠ some 39) :
    Calls Tryz.prog 45 #[.string ⟨t.toArray⟩] w fun e w' => e = .returned (.tuple #[.agg #[.int .i64 (vParse t).1.k, .int .i64 (vParse t).1.n, .string ⟨List.toArray (vParse t).1.t⟩], .int .i64 (vParse t).2]) ∧ Below w.heap.size w w' := by
  have HE := Lib.hid hE
  obtain ⟨n0, n1, n2, hpos⟩ := hE.nul
  clear hE
  have HC0 : cand t = vI (atoiN t) := by unfold cand; rw [ht1, ht2, hq, bne, hn]; rfl
  have HC : Hid (cand t = vI (atoiN t)) := Lib.hid HC0
  clear HC0
  have P0 := Lib.hid (PS.start w)
  have he0 : ({ data := t.toArray } : ByteArray)[0]'(show 0 < t.length by omega) = 39 := by
    rw [List.getElem?_eq_getElem (by omega)] at a0
    exact Option.some.inj a0
  have he2 : ¬ ({ data := t.toArray } : ByteArray)[m + 1]'(show m + 1 < t.length by omega) = 39 := by
    rw [show t.length - 1 = m + 1 by omega, List.getElem?_eq_getElem (by omega)] at a1
    exact fun e => a1 (congrArg some e)
  have he1 : ((({ data := t.toArray } : ByteArray)[m + 1]'(show m + 1 < t.length by omega)).toNat : Int) ≠ 39 := fun e => he2 (UInt8.toNat_inj.1 (by have h39 : (39 : UInt8).toNat = 39 := rfl; rw [h39]; omega))
  clear a0 a1 he2
  clear hq
  have htl : t.length ≤ 281474976710656 := by omega
  go_enter Tryz.func45, Tryz.ntmps45
  go_wp2_with fail
  refine (atoiN_any _ _ htl (HE.out.later P0.out.b)).mono ?_; rintro e w1 ⟨er, rfl, hbw1⟩
  have PW := Lib.hid (P0.out.later hbw1)
  clear hbw1
  have x0 := blk_cell PW.out.x 0
  have x1 := blk_cell PW.out.x 1
  have x2 := blk_cell PW.out.x 2
  have o0 := blk_cell PW.out.o 0
  have o1 := blk_cell PW.out.o 1
  have o2 := blk_cell PW.out.o 2
  have of : ∀ i, w1.frozen? ⟨w.heap.size, i, none⟩ = false := fun i => blk_frozen PW.out.o i
  have xf : ∀ i, w1.frozen? ⟨w.heap.size + 1, i, none⟩ = false := fun i => blk_frozen PW.out.x i
  have zx : w.heap.size + 1 < w1.heap.size := blk_lt PW.out.x
  have zo : w.heap.size < w1.heap.size := blk_lt PW.out.o
  have zp : 0 < w1.heap.size := by omega
  have g0 := (PW.out.b.cell (p := ⟨0, 0, none⟩) hpos).trans n0
  have g1 := (PW.out.b.cell (p := ⟨0, 1, none⟩) hpos).trans n1
  have g2 := (PW.out.b.cell (p := ⟨0, 2, none⟩) hpos).trans n2
  have hbw := PW.out.b
  simp only [cellsV, vN, List.getElem?_toArray, List.getElem?_cons_zero, List.getElem?_cons_succ] at x0 x1 x2 o0 o1 o2
  generalize atoiN t = X at HC ⊢
  go_wp2_with fail
  refine (int_any _ _).mono ?_; rintro e w2 ⟨rfl, hbw2⟩
  have PV := Lib.hid (PW.out.later hbw2)
  clear hbw2
  clear x0 x1 x2 o0 o1 o2 of xf zx zo zp g0 g1 g2 hbw
  have x0 := blk_cell PV.out.x 0
  have x1 := blk_cell PV.out.x 1
  have x2 := blk_cell PV.out.x 2
  have o0 := blk_cell PV.out.o 0
  have o1 := blk_cell PV.out.o 1
  have o2 := blk_cell PV.out.o 2
  have of : ∀ i, w2.frozen? ⟨w.heap.size, i, none⟩ = false := fun i => blk_frozen PV.out.o i
  have xf : ∀ i, w2.frozen? ⟨w.heap.size + 1, i, none⟩ = false := fun i => blk_frozen PV.out.x i
  have zx : w.heap.size + 1 < w2.heap.size := blk_lt PV.out.x
  have zo : w.heap.size < w2.heap.size := blk_lt PV.out.o
  have zp : 0 < w2.heap.size := by omega
  have g0 := (PV.out.b.cell (p := ⟨0, 0, none⟩) hpos).trans n0
  have g1 := (PV.out.b.cell (p := ⟨0, 1, none⟩) hpos).trans n1
  have g2 := (PV.out.b.cell (p := ⟨0, 2, none⟩) hpos).trans n2
  have hbw := PV.out.b
  simp only [cellsV, vN, List.getElem?_toArray, List.getElem?_cons_zero, List.getElem?_cons_succ] at x0 x1 x2 o0 o1 o2
  go_wp2_with fail
  have PX := Lib.hid (PV.out.set (vI X))
  clear x0 x1 x2 o0 o1 o2 of xf zx zo zp g0 g1 g2 hbw
  refine (valid_e _ _ _ _ (HE.out.later PX.out.b).nul).mono ?_; rintro e u1 ⟨rfl, hbu1⟩
  have P1 := Lib.hid (PX.out.later hbu1)
  have x0 := blk_cell P1.out.x 0
  have x1 := blk_cell P1.out.x 1
  have x2 := blk_cell P1.out.x 2
  have o0 := blk_cell P1.out.o 0
  have o1 := blk_cell P1.out.o 1
  have o2 := blk_cell P1.out.o 2
  have of : ∀ i, u1.frozen? ⟨w.heap.size, i, none⟩ = false := fun i => blk_frozen P1.out.o i
  have xf : ∀ i, u1.frozen? ⟨w.heap.size + 1, i, none⟩ = false := fun i => blk_frozen P1.out.x i
  have zx : w.heap.size + 1 < u1.heap.size := blk_lt P1.out.x
  have zo : w.heap.size < u1.heap.size := blk_lt P1.out.o
  have zp : 0 < u1.heap.size := by omega
  have g0 := (P1.out.b.cell (p := ⟨0, 0, none⟩) hpos).trans n0
  have g1 := (P1.out.b.cell (p := ⟨0, 1, none⟩) hpos).trans n1
  have g2 := (P1.out.b.cell (p := ⟨0, 2, none⟩) hpos).trans n2
  have hbw := P1.out.b
  simp only [cellsV, vN, List.getElem?_toArray, List.getElem?_cons_zero, List.getElem?_cons_succ] at x0 x1 x2 o0 o1 o2
  cases hv : sValid (vI X) with
  | false =>
    have HR := Lib.hid (res_bad_v HC.out hv)
    go_wp2
    ((try simp only [Exit.inBlock, Exit.then]); refine bodyPost_ret (by simp only [results, Tryz.results45]; go_simp; try rfl) rfl ?_)
    refine ⟨by rw [HR.out]; rfl, ?_⟩
    (repeat' (first | (with_reducible exact Below.refl _ _) | (with_reducible assumption) | (with_reducible refine Below.alloc ?_ ?_ _) | (with_reducible refine Below.drew ?_) | (with_reducible refine Below.drewN' ?_ _) | (with_reducible refine Below.setCell ?_ ?_ _) | (refine Below.via ?_ (by assumption) ?_) | go_size))
  | true =>
    go_wp2_with fail
    refine (wr_any (vI X) u1 (HE.out.later P1.out.b) hv).mono ?_; rintro e u2 ⟨rfl, hbu2⟩
    have P2 := Lib.hid (P1.out.later hbu2)
    clear x0 x1 x2 o0 o1 o2 of xf zx zo zp g0 g1 g2 hbw
    have x0 := blk_cell P2.out.x 0
    have x1 := blk_cell P2.out.x 1
    have x2 := blk_cell P2.out.x 2
    have o0 := blk_cell P2.out.o 0
    have o1 := blk_cell P2.out.o 1
    have o2 := blk_cell P2.out.o 2
    have of : ∀ i, u2.frozen? ⟨w.heap.size, i, none⟩ = false := fun i => blk_frozen P2.out.o i
    have xf : ∀ i, u2.frozen? ⟨w.heap.size + 1, i, none⟩ = false := fun i => blk_frozen P2.out.x i
    have zx : w.heap.size + 1 < u2.heap.size := blk_lt P2.out.x
    have zo : w.heap.size < u2.heap.size := blk_lt P2.out.o
    have zp : 0 < u2.heap.size := by omega
    have g0 := (P2.out.b.cell (p := ⟨0, 0, none⟩) hpos).trans n0
    have g1 := (P2.out.b.cell (p := ⟨0, 1, none⟩) hpos).trans n1
    have g2 := (P2.out.b.cell (p := ⟨0, 2, none⟩) hpos).trans n2
    have hbw := P2.out.b
    simp only [cellsV, vN, List.getElem?_toArray, List.getElem?_cons_zero, List.getElem?_cons_succ] at x0 x1 x2 o0 o1 o2
    cases hw : (sWr (vI X) == t) with
    | true =>
      have HR := Lib.hid (res_ok HC.out hv hw)
      go_wp2
      ((try simp only [Exit.inBlock, Exit.then]); refine bodyPost_ret (by simp only [results, Tryz.results45]; go_simp; try rfl) rfl ?_)
      refine ⟨by (rw [HR.out]; first | done | rfl), ?_⟩
      (repeat' (first | (with_reducible exact Below.refl _ _) | (with_reducible assumption) | (with_reducible refine Below.alloc ?_ ?_ _) | (with_reducible refine Below.drew ?_) | (with_reducible refine Below.drewN' ?_ _) | (with_reducible refine Below.setCell ?_ ?_ _) | (refine Below.via ?_ (by assumption) ?_) | go_size))
    | false =>
      have HR := Lib.hid (res_bad_w HC.out hw)
      go_wp2
      ((try simp only [Exit.inBlock, Exit.then]); refine bodyPost_ret (by simp only [results, Tryz.results45]; go_simp; try rfl) rfl ?_)
      refine ⟨by rw [HR.out]; rfl, ?_⟩
      (repeat' (first | (with_reducible exact Below.refl _ _) | (with_reducible assumption) | (with_reducible refine Below.alloc ?_ ?_ _) | (with_reducible refine Below.drew ?_) | (with_reducible refine Below.drewN' ?_ _) | (with_reducible refine Below.setCell ?_ ?_ _) | (refine Below.via ?_ (by assumption) ?_) | go_size))
theorem parse_any (t : List UInt8) (w : World) (hE : Env w) (ht : t.length ≤ 4000000) :
    Calls Tryz.prog 45 #[.string ⟨t.toArray⟩] w fun e w' => e = .returned (.tuple #[.agg #[.int .i64 (vParse t).1.k, .int .i64 (vParse t).1.n, .string ⟨List.toArray (vParse t).1.t⟩], .int .i64 (vParse t).2]) ∧ Below w.heap.size w w' := by
  by_cases h1 : t = [116, 114, 117, 101]
  · exact parse_word t (.inl h1) w hE
  by_cases h2 : t = [102, 97, 108, 115, 101]
  · exact parse_word t (.inr h2) w hE
  have ht1 : (t == [116, 114, 117, 101]) = false := by simpa using h1
  have ht2 : (t == [102, 97, 108, 115, 101]) = false := by simpa using h2
  cases hq : isQ t with
  | true => exact parse_quote t w hE ht ht1 ht2 hq
  | false =>
    by_cases h3 : t = [110, 117, 108, 108]
    · subst h3
      exact parse_null w hE
    · have hn : (t == [110, 117, 108, 108]) = false := by simpa using h3
      by_cases hl : 2 ≤ t.length
      · obtain ⟨m, hm⟩ : ∃ m, t.length = m + 2 := ⟨t.length - 2, by omega⟩
        by_cases a0 : t[0]? = some 39
        · have a1 : t[t.length - 1]? ≠ some 39 := by
            intro a1
            unfold isQ at hq
            rw [a0, a1, decide_eq_true hl] at hq
            cases hq
          exact parse_num3 t w hE ht ht1 ht2 hn hq m hm a0 a1
        · exact parse_num2 t w hE ht ht1 ht2 hn hq m hm a0
      · exact parse_num1 t w hE ht ht1 ht2 hn hq hl
end Go.Proofs.YtpmfpfkahanlaaaGreatDoor
