/- The law ReplyTells answers true at every input of its row and leaves its arguments as they were; conditions: those of the row alone (the listed tables of the library read as laid). A part of the proof. -/
import Derived.Test.YtokcllgekkhaaaaGreatDoorRT10
import Derived.Handed
import Derived.Deep.Slices
import Derived.Deep.Strs
import Derived.Lib.SmallJoins
import Derived.ChangeSame
namespace Go.Proofs.YtokcllgekkhaaaaGreatDoor.P
open Go.RowKit Go.Proofs.YtokcllgekkhaaaaGreatDoorW.PrintWords Go.Proofs.YtokcllgekkhaaaaGreatDoorW.PrintLast
open Go.ChangeShapes Go.WideShapes Go.ChangeAt Go.Deep
set_option maxRecDepth 100000
theorem handed_laid_shaped {H : Type} {enc : TypeId × Value → H} {a : Assume} {C : Checked} {os : Os} {f : FuncId} {fn : Func} {s : ChangeSpec} {conds : List PathCond} {apart fresh handsOn again : Bool} {X : World → Array Value → Prop}
    (hX : ∀ (w w' : World) (args : Array Value), w.heap = w'.heap → X w args → X w' args)
    (own : ownKnob C.prog.godebug = none) (started : os.Started) (noInit : C.prog.inits.idxOf? f = none) (hfn : C.prog.funcs[f]? = some fn)
    (witness : ∃ (w : World) (tape : Tape) (i : Input), w.os = os ∧ (w.forCall tape i).Shaped C.prog ∧ i.vars = [] ∧ Input.okWide C.prog (w.forCall tape i) .any w.heap.size f i ∧
      ((s.pre enc C.prog fn conds apart (w.forCall tape i).memory i.args ∧ X (w.forCall tape i).memory i.args) ∧ sizedMet enc C.prog fn (OpenSpec.ofChange s) apart (w.forCall tape i).memory i.args) ∧ a.holds C.prog (lone (Frame.enter C.prog f i.args .normal) [] (w.forCall tape i)))
    (contract : ∀ (W : World) (base : Nat) (args : Array Value) (ds gs : List (DataW H)) (before : List MemPlace),
      (∀ (j : Nat) t v, fn.params[j]? = some t → args[j]? = some v → Value.okWide C.prog W .any base t v) →
      DataW.Whole enc C.prog fn.params.toList s.vars apart W args.toList ds gs before →
      conds.all (PathCond.test C.prog ⟨fn.params.toList, ds, s.plain.varTypes C.prog, gs⟩) = true →
      (DataW.weightsEach C.prog (fn.params.toList ++ s.plain.varTypes C.prog) (ds ++ gs)).all (· ≤ reachBytes) = true → X W args → W.ShapedOpen C.prog →
      Calls C.prog f args W fun e W' => ∃ v, e = .returned v ∧ s.post enc C.prog fn apart fresh handsOn again W args v W') :
    ReturnsInHanded a C os f .any (fun w args => (s.pre enc C.prog fn conds apart w args ∧ X w args) ∧ sizedMet enc C.prog fn (OpenSpec.ofChange s) apart w args) (s.post enc C.prog fn apart fresh handsOn again) := by
  refine returnsInHanded_of_calls own started noInit witness ?_
  intro w tape i _ hsh _ hok hpre _
  obtain ⟨_, _, _, fn', hfn', _, _, _, _, hval⟩ := hok
  have e : fn' = fn := Option.some.inj (hfn'.symm.trans hfn)
  subst e
  obtain ⟨⟨⟨ds, gs, before, hw, hc⟩, hx⟩, hz⟩ := hpre
  have hw' := DataW.Whole.of_heap (w' := w.forCall tape i) (by rfl) hw
  refine (contract (w.forCall tape i) w.heap.size i.args ds gs before hval hw' hc (hz.weights hw) (hX _ _ _ (by rfl) hx) hsh).mono fun e W' ⟨v, he, hp⟩ => ?_
  subst he
  exact ChangeSpec.post_blind hp
section
variable {H : Type} {enc : TypeId × Value → H} {W : World} {base : Nat} {sp : Nat → Bool} {held : Bool}
def inR (n : Int) : Prop := -9223372036854775808 ≤ n ∧ n ≤ 9223372036854775807
theorem inR_of_wf {n : Int} (h : (Lit.int .i64 n).wf = true) : inR n := by
  have h2 : (decide (-9223372036854775808 ≤ n) && decide (n ≤ 9223372036854775807)) = true := h
  rw [Bool.and_eq_true, decide_eq_true_eq, decide_eq_true_eq] at h2
  exact h2
theorem c3_ : Tryz.prog.cellsOf 3 = 1 := by kernel_rfl
theorem c2_ : Tryz.prog.cellsOf 2 = 1 := by kernel_rfl
theorem c4_ : Tryz.prog.cellsOf 4 = 1 := by kernel_rfl
theorem c9_ : Tryz.prog.cellsOf 9 = 1 := by kernel_rfl
theorem c23_ : Tryz.prog.cellsOf 23 = 2 := by kernel_rfl
theorem c35_ : Tryz.prog.cellsOf 35 = 3 := by kernel_rfl
theorem c61_ : Tryz.prog.cellsOf 61 = 7 := by kernel_rfl
theorem C_of_trod {α : Type} [Inhabited α] (d : Kd α) (G : α → Prop) {t e : TypeId} {fuel : Nat} {x : DataW H × List MemPlace} {A : Option Addr} {len cap : Nat} (ht : Tryz.prog.underlying t = some (.slice e)) (hsz : Tryz.prog.cellsOf e = d.sz)
    (hel : ∀ n cs y, DataW.trod enc Tryz.prog W base sp held n e cs = some y → ∃ z : α, d.K W z cs ∧ G z)
    (h : DataW.trod enc Tryz.prog W base sp held fuel t [.slice A len cap] = some x) : ∃ zs : List α, d.C W A zs.length zs ∧ zs.length = len ∧ len ≤ cap ∧ ∀ z ∈ zs, G z := by
  rcases open_slice ht h with ⟨hcs, _⟩ | ⟨a, len', cap', m, n, D, Pl, hcs, _, hl, hm, hmm, _, hx⟩
  · simp only [List.cons.injEq, Value.slice.injEq, and_true] at hcs
    obtain ⟨rfl, rfl, rfl⟩ := hcs
    exact ⟨[], ⟨rfl, Nat.zero_le _, fun h => absurd h (Nat.lt_irrefl 0)⟩, rfl, Nat.le_refl _, fun z hz => by cases hz⟩
  · simp only [List.cons.injEq, Value.slice.injEq, and_true] at hcs
    obtain ⟨rfl, rfl, rfl⟩ := hcs
    have hlm : len ≤ m := by rw [hmm]; split <;> omega
    obtain ⟨Z, hZ⟩ := choose_lt (α := α) (p := fun i z => ∃ cs', W.cells? base (a.add (i * Tryz.prog.cellsOf e)) (Tryz.prog.cellsOf e) = some cs' ∧ d.K W z cs' ∧ G z) (fun i hi => by
      obtain ⟨cs', h1, h2⟩ := hx i hi
      obtain ⟨z, h3, h4⟩ := hel _ _ _ h2
      exact ⟨z, cs', h1, h3, h4⟩)
    have hlen : ((List.range len).map Z).length = len := by simp
    have hmax : maxLen ≤ 9223372036854775807 := by decide
    refine ⟨(List.range len).map Z, ⟨rfl, by rw [hlen]; omega, fun _ => ⟨a, rfl, fun j p hj => ?_⟩⟩, hlen, hl, fun z hz => ?_⟩
    · have hjl : j < len := by
        have := (List.getElem?_eq_some_iff.1 hj).1
        rwa [hlen] at this
      have hp : p = Z j := by
        rw [List.getElem?_map, List.getElem?_range hjl] at hj
        exact (Option.some.inj hj).symm
      subst hp
      obtain ⟨cs', h1, h2, _⟩ := hZ j (by omega)
      obtain ⟨_, hcl, hcell⟩ := World.cells?_some h1
      rw [hsz] at hcl hcell
      refine ⟨cs', hcl, h2, fun i u hu => ?_⟩
      have hi : i < d.sz := by rw [← hcl]; exact (List.getElem?_eq_some_iff.1 hu).1
      rw [← Go.Deep.add_add, hcell i hi]
      exact hu
    · obtain ⟨j, hj, rfl⟩ := List.mem_map.1 hz
      obtain ⟨_, _, _, h4⟩ := hZ j (by have := List.mem_range.1 hj; omega)
      exact h4
theorem tr23 {fuel : Nat} {cs : List Value} {x : DataW H × List MemPlace} (h : DataW.trod enc Tryz.prog W base sp held fuel 23 cs = some x) : ∃ s : S23, k23.K W s cs := by
  obtain ⟨y0, y1, n, rfl, hl, h0, h1⟩ := trod_struct2 Tryz.underlying23 h
  rw [c23_] at hl
  match cs, hl with
  | [v0, v1], _ =>
    obtain ⟨n0, e0, _, _⟩ := DataW.trod_int (k := .i64) (by kernel_rfl) h0
    obtain ⟨n1, e1, _, _⟩ := DataW.trod_int (k := .i64) (by kernel_rfl) h1
    simp [c3_] at e0 e1
    subst e0; subst e1
    exact ⟨⟨n0, n1⟩, k23_mk _ _⟩
theorem tr35 {fuel : Nat} {cs : List Value} {x : DataW H × List MemPlace} (h : DataW.trod enc Tryz.prog W base sp held fuel 35 cs = some x) : ∃ s : S35, k35.K W s cs ∧ inR s.f1 := by
  obtain ⟨y0, y1, y2, n, rfl, hl, h0, h1, h2⟩ := trod_struct3 Tryz.underlying35 h
  rw [c35_] at hl
  match cs, hl with
  | [v0, v1, v2], _ =>
    obtain ⟨n0, e0, _, _⟩ := DataW.trod_int (k := .i64) (by kernel_rfl) h0
    obtain ⟨n1, e1, _, w1⟩ := DataW.trod_int (k := .i64) (by kernel_rfl) h1
    obtain ⟨s2, e2, _, _⟩ := DataW.trod_string (by kernel_rfl) h2
    simp [c2_, c3_, c9_] at e0 e1 e2
    subst e0; subst e1; subst e2
    exact ⟨⟨n0, n1, s2⟩, k35_mk _ _, inR_of_wf w1⟩
theorem tr61 {fuel : Nat} {cs : List Value} {x : DataW H × List MemPlace} (h : DataW.trod enc Tryz.prog W base sp held fuel 61 cs = some x) : ∃ s : S61, k61.K W s cs ∧ numOk s := by
  obtain ⟨y0, y1, y2, y3, n, rfl, hl, h0, h1, h2, h3⟩ := Go.Joins.trod_struct4 Tryz.underlying61 h
  rw [c61_] at hl
  match cs, hl with
  | [v0, v1, v2, v3, v4, v5, v6], _ =>
    obtain ⟨s0, k0⟩ := tr23 h0
    obtain ⟨s1, e1, _, _⟩ := DataW.trod_string (by kernel_rfl) h1
    obtain ⟨b2, e2, _⟩ := DataW.trod_bool (by kernel_rfl) h2
    obtain ⟨s3, k3, r3⟩ := tr35 h3
    simp [c4_, c9_] at e1 e2
    simp [c23_] at k0
    simp [c35_] at k3
    subst e1; subst e2
    exact ⟨⟨s0, s1, b2, s3⟩, ⟨[v0, v1], [.string s1, .bool b2, v4, v5, v6], rfl, k0, ⟨[.string s1], [.bool b2, v4, v5, v6], rfl, rfl, ⟨[.bool b2], [v4, v5, v6], rfl, rfl, k3⟩⟩⟩, r3⟩
instance : Inhabited S61 := ⟨z61⟩
theorem c59 {fuel : Nat} {x : DataW H × List MemPlace} {A : Option Addr} {len cap : Nat} (h : DataW.trod enc Tryz.prog W base sp held fuel 59 [.slice A len cap] = some x) : ∃ zs : List S61, Kd.C k61 W A zs.length zs ∧ zs.length = len ∧ len ≤ cap ∧ ∀ z ∈ zs, numOk z :=
  C_of_trod k61 numOk Tryz.underlying59 c61_ (fun _ _ _ h => tr61 h) h
end
end Go.Proofs.YtokcllgekkhaaaaGreatDoor.P
