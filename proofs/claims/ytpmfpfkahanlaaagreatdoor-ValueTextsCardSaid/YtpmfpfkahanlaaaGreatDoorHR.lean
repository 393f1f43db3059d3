/- The rows' common part: what a row's condition gives the walks; how the arguments are opened and shut. -/
import Derived.Test.YtpmfpfkahanlaaaGreatDoorHE
import Derived.Test.YtpmfpfkahanlaaaGreatDoorRows
import Derived.Test.YtpmfpfkahanlaaaGreatDoorTie
import Derived.Test.YtpmfpfkahanlaaaGreatDoorCards
import Derived.ProofKit
import Derived.OpenShut
import Derived.HandedShaped
import Derived.Carry
import Derived.Lay
import Derived.Lib.LaidTab
import Derived.Lib.LaidU8
import Derived.Lib.SmallJoins
import Derived.Stop.LaidErr
import Derived.Shelf.Vars
import Derived.Deep.Slices
import Derived.SevenTiedAt
import Derived.Test.YtpmfpfkahanlaaaGreatDoorHB
namespace Go.Proofs.YtpmfpfkahanlaaaGreatDoor
open Go.ChangeShapes Go.Joins Go.Deep Go.WideShapes Go.ChangeAt Go.RowKit
open Go.ChangeMaps (open_string shut_string)
set_option linter.unusedVariables false

def laid : List (String × DataW Unit) := [("math/bits.deBruijn32tab", Rows.laid_math_bits_deBruijn32tab), ("math/bits.deBruijn64tab", Rows.laid_math_bits_deBruijn64tab), ("internal/strconv.uint64pow10", Rows.laid_internal_strconv_uint64pow10), ("unicode/utf8.acceptRanges", Rows.laid_unicode_utf8_acceptRanges), ("strconv.ErrRange", Rows.laid_strconv_ErrRange), ("strconv.ErrSyntax", Rows.laid_strconv_ErrSyntax), ("unicode.White_Space", Rows.laid_unicode_White_Space), ("strings.asciiSpace", Rows.laid_strings_asciiSpace), ("justiciar/value.Null", Rows.laid_justiciar_value_Null), ("unicode.CaseRanges", Rows.laid_unicode_CaseRanges), ("unicode/utf8.first", Rows.laid_unicode_utf8_first)]
theorem own : ownKnob Tryz.prog.godebug = none := by kernel_rfl
theorem laidOut : laidOutB Tryz.prog = true := by kernel_rfl

theorem returns_listed {H : Type} {enc : TypeId × Value → H} {a : Assume} {C : Checked} {os : Os} {f : FuncId} {fn : Func} {s : ChangeSpec} {conds : List PathCond} {apart fresh handsOn again : Bool} {X : World → Array Value → Prop}
    (hX : ∀ (w w' : World) (args : Array Value), w.heap = w'.heap → X w args → X w' args)
    (own : ownKnob C.prog.godebug = none) (started : os.Started) (noInit : C.prog.inits.idxOf? f = none) (hfn : C.prog.funcs[f]? = some fn)
    (witness : ∃ (w : World) (tape : Tape) (i : Input), w.os = os ∧ (w.forCall tape i).Shaped C.prog ∧ i.vars = [] ∧ Input.okWide C.prog (w.forCall tape i) .any w.heap.size f i ∧
      ((s.pre enc C.prog fn conds apart (w.forCall tape i).memory i.args ∧ X (w.forCall tape i).memory i.args) ∧ sizedMet enc C.prog fn (OpenSpec.ofChange s) apart (w.forCall tape i).memory i.args) ∧ a.holds C.prog (lone (Frame.enter C.prog f i.args .normal) [] (w.forCall tape i)))
    (contract : ∀ (W : World) (base : Nat) (args : Array Value) (ds gs : List (DataW H)) (before : List MemPlace),
      (∀ (j : Nat) t v, fn.params[j]? = some t → args[j]? = some v → Value.okWide C.prog W .any base t v) →
      DataW.Whole enc C.prog fn.params.toList s.vars apart W args.toList ds gs before →
      conds.all (PathCond.test C.prog ⟨fn.params.toList, ds, s.plain.varTypes C.prog, gs⟩) = true →
      (DataW.weightsEach C.prog (fn.params.toList ++ s.plain.varTypes C.prog) (ds ++ gs)).all (· ≤ reachBytes) = true → X W args → W.ShapedOpen C.prog →
      a.holds C.prog (lone (Frame.enter C.prog f args .normal) [] W) →
      Calls C.prog f args W fun e W' => ∃ v, e = .returned v ∧ s.post enc C.prog fn apart fresh handsOn again W args v W') :
    ReturnsInHanded a C os f .any (fun w args => (s.pre enc C.prog fn conds apart w args ∧ X w args) ∧ sizedMet enc C.prog fn (OpenSpec.ofChange s) apart w args) (s.post enc C.prog fn apart fresh handsOn again) := by
  refine returnsInHanded_of_calls own started noInit witness ?_
  intro w tape i _ hsh _ hok hpre hholds
  obtain ⟨_, _, _, fn', hfn', _, _, _, _, hval⟩ := hok
  have e : fn' = fn := Option.some.inj (hfn'.symm.trans hfn)
  subst e
  obtain ⟨⟨⟨ds, gs, before, hw, hc⟩, hx⟩, hz⟩ := hpre
  have hw' := DataW.Whole.of_heap (w' := w.forCall tape i) (by rfl) hw
  refine (contract (w.forCall tape i) w.heap.size i.args ds gs before hval hw' hc (hz.weights hw) (hX _ _ _ (by rfl) hx) hsh hholds).mono fun e W' ⟨v, he, hp⟩ => ?_
  subst he
  exact ChangeSpec.post_blind hp

theorem tab_of_reads {W : World} {name : String} {k : IntKind} {zs : List Int} {g : Nat} {t e : TypeId} {n : Nat} (hg : Tryz.prog.globalNamed name = some g) (hT : (Tryz.prog.globals[g]?).map (·.type) = some t)
    (ht : Tryz.prog.underlying t = some (.array n e)) (he : Tryz.prog.underlying e = some (.int k)) (hce : Tryz.prog.cellsOf e = 1) (hct : Tryz.prog.cellsOf t = n) (h : Lib.VarReads Tryz.prog W name (Lib.tabData k zs)) : Lib.TabIs Tryz.prog W name k zs := by
  obtain ⟨g', t', cs, fuel, p, hg', ht', hv, hd⟩ := h
  obtain rfl := Option.some.inj (hg.symm.trans hg')
  obtain rfl := Option.some.inj (hT.symm.trans ht')
  have := Lib.cells_of_tab ht he hce hct hd
  unfold Lib.TabIs
  rw [hv, ← this]
theorem gNull : Tryz.prog.globalNamed "justiciar/value.Null" = some 0 := by kernel_rfl
theorem tNull : (Tryz.prog.globals[0]?).map (·.type) = some 27 := by kernel_rfl
theorem gSp : Tryz.prog.globalNamed "strings.asciiSpace" = some 1 := by kernel_rfl
theorem tSp : (Tryz.prog.globals[1]?).map (·.type) = some 138 := by kernel_rfl
theorem gEsx : Tryz.prog.globalNamed "strconv.ErrSyntax" = some 3 := by kernel_rfl
theorem tEsx : (Tryz.prog.globals[3]?).map (·.type) = some 97 := by kernel_rfl
theorem gErg : Tryz.prog.globalNamed "strconv.ErrRange" = some 4 := by kernel_rfl
theorem tErg : (Tryz.prog.globals[4]?).map (·.type) = some 97 := by kernel_rfl
theorem gP10 : Tryz.prog.globalNamed "internal/strconv.uint64pow10" = some 9 := by kernel_rfl
theorem tP10 : (Tryz.prog.globals[9]?).map (·.type) = some 194 := by kernel_rfl
theorem c5 : Tryz.prog.cellsOf 5 = 1 := by kernel_rfl
theorem c9 : Tryz.prog.cellsOf 9 = 1 := by kernel_rfl
theorem c138 : Tryz.prog.cellsOf 138 = 256 := by kernel_rfl
theorem c148 : Tryz.prog.cellsOf 148 = 1 := by kernel_rfl
theorem c179 : Tryz.prog.cellsOf 179 = 1 := by kernel_rfl
theorem c194 : Tryz.prog.cellsOf 194 = 20 := by kernel_rfl
theorem star : "*" ++ "errors.errorString" = "*errors.errorString" := by decide
theorem row177 (u : TypeId) (h : Tryz.prog.typeName? 3 u = some "*errors.errorString") : u = 177 :=
  typeName_ptr_named (nm := "errors.errorString") (by rw [star]; kernel_rfl) (by kernel_rfl) (by decide) u (by rw [star]; exact h)
theorem spData : Rows.laid_strings_asciiSpace = (Lib.tabData .u8 Lib.asciiSpaceTab : DataW Unit) := by kernel_rfl
theorem p10Data : Rows.laid_internal_strconv_uint64pow10 = (Lib.tabData .u64 Lib.pow10Tab : DataW Unit) := by kernel_rfl
theorem list3 {α : Type} {cs : List α} (h : cs.length = 3) : ∃ c0 c1 c2, cs = [c0, c1, c2] := by
  match cs, h with
  | [c0, c1, c2], _ => exact ⟨c0, c1, c2, rfl⟩
/-- The three fields of a value. -/
theorem trod_v {H : Type} {enc : TypeId × Value → H} {W : World} {base : Nat} {sp : Nat → Bool} {held : Bool} {fuel : Nat} {cs : List Value} {x : DataW H × List MemPlace} (h : DataW.trod enc Tryz.prog W base sp held fuel 27 cs = some x) :
    ∃ v : V, cs = encL v ∧ x = (.agg [.lit (.int .i64 v.k), .lit (.int .i64 v.n), .lit (.string v.t)], []) := by
  have hC : Tryz.prog.cellsOf 27 = 3 := by kernel_rfl
  have h3 : Tryz.prog.cellsOf 3 = 1 := by kernel_rfl
  have h9 : Tryz.prog.cellsOf 9 = 1 := by kernel_rfl
  have h25 : Tryz.prog.cellsOf 25 = 1 := by kernel_rfl
  obtain ⟨y0, y1, y2, n, hx, hl, h0, h1, h2⟩ := trod_struct3 Tryz.underlying27 h
  rw [hC] at hl
  obtain ⟨c0, c1, c2, rfl⟩ := list3 hl
  simp only [h25, h3, h9] at h0 h1 h2
  obtain ⟨k, e1, e2, _⟩ := DataW.trod_int Tryz.underlying25 h0
  obtain ⟨m, e3, e4, _⟩ := DataW.trod_int Tryz.underlying3 h1
  obtain ⟨s, e5, e6, _⟩ := DataW.trod_string Tryz.underlying9 h2
  simp at e1 e3 e5
  subst e1 e3 e5 e2 e4 e6
  exact ⟨⟨k, m, s.data.toList⟩, by simp [encL], by simpa using hx⟩
theorem env_of_laid {W : World} (h : laidMetH Tryz.prog laid W) (hs : W.ShapedOpen Tryz.prog) : Env W := by
  rw [MakeChecks.laidMetH_plain _ _ _ (by kernel_rfl)] at h
  have hN := Lib.laidMet.reads h (n := "justiciar/value.Null") (d := Rows.laid_justiciar_value_Null) (by simp [laid])
  have hp := Lib.laidMet.reads h (n := "internal/strconv.uint64pow10") (d := Rows.laid_internal_strconv_uint64pow10) (by simp [laid])
  have ha := Lib.laidMet.reads h (n := "strings.asciiSpace") (d := Rows.laid_strings_asciiSpace) (by simp [laid])
  have e4 := laid_sentinel h.tail.tail.tail.tail gErg tErg Tryz.underlying97 row177 Tryz.underlying177 Tryz.underlying179 rfl rfl Tryz.underlying9 c179 c9
  have e5 := laid_sentinel h.tail.tail.tail.tail.tail gEsx tEsx Tryz.underlying97 row177 Tryz.underlying177 Tryz.underlying179 rfl rfl Tryz.underlying9 c179 c9
  obtain ⟨a4, _, v4, _⟩ := e4
  obtain ⟨a5, _, v5, _⟩ := e5
  obtain ⟨g, t, cs, fuel, p, hg, ht, hv, hd⟩ := hN
  obtain rfl := Option.some.inj (gNull.symm.trans hg)
  obtain rfl := Option.some.inj (tNull.symm.trans ht)
  obtain ⟨v, hcs, hx⟩ := trod_v hd
  have hv0 : v = vN := by
    obtain ⟨k, n, t⟩ := v
    simp only [Rows.laid_justiciar_value_Null, Prod.mk.injEq, DataW.agg.injEq, List.cons.injEq, DataW.lit.injEq, Lit.int.injEq, Lit.string.injEq, and_true, true_and] at hx
    obtain ⟨⟨h1, h2, h3⟩, _⟩ := hx
    rw [← h1, ← h2, ← h3]
    rfl
  subst hv0
  have hc := fun i => World.var?_cell gNull hv i
  have hc0 : cs = #[.int .i64 0, .int .i64 0, .string ⟨#[]⟩] := by
    apply Array.toList_inj.1
    rw [hcs]
    rfl
  subst hc0
  have n0 := hc 0
  have n1 := hc 1
  have n2 := hc 2
  refine ⟨⟨n0, n1, n2, World.block_lt_of_cell? W _ n0⟩, ?_, ?_, ⟨_, _, v5⟩, ⟨_, _, v4⟩, ?_⟩
  · exact tab_of_reads gSp tSp Tryz.underlying138 Tryz.underlying5 c5 c138 (by rw [← spData]; exact ha)
  · exact tab_of_reads gP10 tP10 Tryz.underlying194 Tryz.underlying148 c148 c194 (by rw [← p10Data]; exact hp)
  · exact cell_of_shapedOpen_int (g := 2) (t := 3) (zero := #[.int .i64 0]) hs (of_decide_eq_true (by kernel_rfl)) (by kernel_rfl) rfl (by kernel_rfl) (by kernel_rfl) Tryz.underlying3
end Go.Proofs.YtpmfpfkahanlaaaGreatDoor

/- The rows' arguments: a value, a slice of values, opened. -/
namespace Go.Proofs.YtpmfpfkahanlaaaGreatDoor
open Go.ChangeShapes Go.Joins Go.Deep Go.WideShapes Go.ChangeAt Go.RowKit
open Go.ChangeMaps (open_string shut_string)
set_option linter.unusedVariables false
set_option maxRecDepth 20000

def vD {H : Type} (x : V) : DataW H := .agg [.lit (.int .i64 x.k), .lit (.int .i64 x.n), .lit (.string x.t)]
theorem open_value {H : Type} {enc : TypeId × Value → H} {W : World} {base b0 : Nat} {r : Reach} {sp : Nat → Bool} {held : Bool} {v : Value} {d : DataW H} {p : List MemPlace} (hval : Value.okWide Tryz.prog W r b0 27 v) (h : DataW.Trod enc Tryz.prog W base sp held 27 v d p) :
    ∃ x : V, v = (.agg #[.int .i64 (x).k, .int .i64 (x).n, .string ⟨List.toArray (x).t⟩]) ∧ d = vD x ∧ p = [] := by
  obtain ⟨cs, rfl, hsz⟩ := okWide_struct Tryz.underlying27 hval
  obtain ⟨fuel, hf⟩ := h
  obtain ⟨x, hx, e⟩ := trod_v hf
  have e1 : cs = (encL x).toArray := by
    apply Array.toList_inj.1
    rw [List.toList_toArray, ← hx]
    simp [Value.cells]
  subst e1
  obtain ⟨e2, e3⟩ := Prod.mk.inj e
  exact ⟨x, rfl, e2, e3⟩
theorem weights_v {H : Type} (x : V) : x.t.length ∈ DataW.weights Tryz.prog 27 (vD x : DataW H) := by
  simp [vD, DataW.weights, Tryz.underlying27, DataW.weightsEach]
theorem weightsAll_in {H : Type} {e : TypeId} : ∀ {l : List (DataW H)} {d : DataW H}, d ∈ l → ∀ n ∈ d.weights Tryz.prog e, n ∈ DataW.weightsAll Tryz.prog e l
  | d0 :: l, d, hm, n, hn => by
    simp only [DataW.weightsAll, List.mem_append]
    rcases List.mem_cons.1 hm with rfl | hm
    · exact .inl hn
    · exact .inr (weightsAll_in hm n hn)
theorem sized_v {H : Type} {ts : List TypeId} {ds : List (DataW H)} (hsz : (DataW.weightsEach Tryz.prog ts ds).all (· ≤ reachBytes) = true) {j : Nat} {x : V} (ht : ts[j]? = some 27) (hd : ds[j]? = some (vD x)) : x.t.length ≤ 140737488351232 := by
  have := List.all_eq_true.1 hsz _ (DataW.weights_mem_each ht hd _ (weights_v x))
  exact of_decide_eq_true this
theorem open_values {H : Type} {enc : TypeId × Value → H} {W : World} {b0 : Nat} {r : Reach} {sp : Nat → Bool} {held : Bool} {v : Value} {d : DataW H} {p : List MemPlace} {ts : List TypeId} {ds : List (DataW H)} {j : Nat} (hsz : (DataW.weightsEach Tryz.prog ts ds).all (· ≤ reachBytes) = true) (ht : ts[j]? = some 22) (hd : ds[j]? = some d)
    (hval : Value.okWide Tryz.prog W r b0 22 v) (h : DataW.Trod enc Tryz.prog W 0 sp held 22 v d p) :
    ∃ (A : Option Addr) (n c : Nat) (l : List V), v = .slice A n c ∧ Sl W A n l ∧ (∀ x ∈ l, x.t.length ≤ 140737488351232) := by
  obtain ⟨a, len, cap, rfl⟩ := okWide_slice Tryz.underlying22 hval
  obtain ⟨fuel, hf⟩ := h
  have hC : Tryz.prog.cellsOf 27 = 3 := by kernel_rfl
  have hB : Tryz.prog.bytesOf 27 = 32 := by kernel_rfl
  rcases open_slice Tryz.underlying22 hf with ⟨hcs, _⟩ | ⟨x, l, c, m, q, D, Pl, hcs, _, hl, hm, hmm, hx, hel⟩
  · simp [Value.cells] at hcs
    obtain ⟨rfl, rfl, rfl⟩ := hcs
    exact ⟨none, 0, 0, [], rfl, Sl.nil, fun x hx => absurd hx (by simp)⟩
  · simp [Value.cells] at hcs
    obtain ⟨rfl, rfl, rfl⟩ := hcs
    obtain ⟨hx, _⟩ := Prod.mk.inj hx
    subst hx
    have hle : len ≤ m := by rw [hmm]; split <;> omega
    have z := sized_slice hsz ht hd Tryz.underlying22
    rw [hB, List.length_map, List.length_range] at z
    rw [hC] at hel
    have hch : ∀ i, i < len → ∃ y : V, (W.cell? ((x.add (i * 3)).add 0) = some (.int .i64 y.k) ∧ W.cell? ((x.add (i * 3)).add 1) = some (.int .i64 y.n) ∧ W.cell? ((x.add (i * 3)).add 2) = some (.string ⟨y.t.toArray⟩)) ∧ D i = vD y := fun i hi => by
      obtain ⟨cs', h1, h2⟩ := hel i (by omega)
      obtain ⟨y, rfl, e⟩ := trod_v h2
      obtain ⟨_, _, hg⟩ := World.cells?_some h1
      exact ⟨y, ⟨hg 0 (by decide), hg 1 (by decide), hg 2 (by decide)⟩, (Prod.mk.inj e).1⟩
    obtain ⟨f, hf⟩ := choose_lt hch
    have hat : ∀ i (h : i < ((List.range len).map f).length), ((List.range len).map f)[i] = f i := fun i h => by simp
    refine ⟨some x, len, cap, (List.range len).map f, rfl, ⟨by simp, by unfold reachBytes at z; omega, fun h0 => ?_⟩, fun y hy => ?_⟩
    · obtain ⟨⟨g0, _, _⟩, _⟩ := hf 0 h0
      obtain ⟨b, off, spot⟩ := x
      cases spot with
      | some s =>
        have e : W.cell? ⟨b, off, some s⟩ = none := by
          unfold World.cell?
          split
          · simp
          · rfl
        have g0' : W.cell? ⟨b, off, some s⟩ = some (.int .i64 (f 0).k) := g0
        rw [e] at g0'
        cases g0'
      | none =>
        refine ⟨b, off, rfl, World.block_lt_of_cell? W _ g0, fun i hi => ?_⟩
        rw [hat i hi]
        obtain ⟨⟨g0, g1, g2⟩, _⟩ := hf i (by simpa using hi)
        rw [add_add] at g0 g1 g2
        have ea : ∀ q, (⟨b, off, none⟩ : Addr).add q = ⟨b, off + q, none⟩ := fun q => by
          unfold Addr.add
          split
          · rename_i h; subst h; rfl
          · rfl
        rw [ea] at g0 g1 g2
        exact ⟨g0, g1, g2⟩
    · obtain ⟨i, hi, rfl⟩ := List.mem_map.1 hy
      have hi' : i < len := by simpa using hi
      have hD := (hf i hi').2
      have hmem : D i ∈ (List.range len).map D := List.mem_map.2 ⟨i, hi, rfl⟩
      have hw : (f i).t.length ∈ (D i).weights Tryz.prog 27 := by rw [hD]; exact weights_v _
      have := List.all_eq_true.1 hsz _ (DataW.weights_mem_each ht hd (f i).t.length (by
        simp only [DataW.weights, Tryz.underlying22, List.mem_cons, List.mem_append]
        exact .inr (.inl (weightsAll_in hmem _ hw))))
      exact of_decide_eq_true this
end Go.Proofs.YtpmfpfkahanlaaaGreatDoor
