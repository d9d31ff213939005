/- THE WRAP OF A ROW THAT LISTS VARIABLES, ITS CONTRACT HANDED THE WORLD's SHAPE; and Gl out of both. -/
import Derived.Test.YtloonheabfdgbaaDoorJ
import Derived.Test.YtloonheabfdgbaaDoorCards
import Derived.Handed
import Derived.Shelf.Vars
import Derived.Stop.LaidErr
import Derived.LaidSub
import Derived.LaidMore
namespace Go.Proofs.YtloonheabfdgbaaDoor.P
open Go.RowKit
section
variable {H : Type} {enc : TypeId × Value → H}
theorem handed_shaped_and {a : Assume} {C : Checked} {os : Os} {f : FuncId} {fn : Func} {s : ChangeSpec} {conds : List PathCond} {apart fresh handsOn again : Bool} {X : World → Array Value → Prop}
    (hX : ∀ (w w' : World) (args : Array Value), w.heap = w'.heap → X w args → X w' args)
    (own : ownKnob C.prog.godebug = none) (started : os.Started) (noInit : C.prog.inits.idxOf? f = none) (hfn : C.prog.funcs[f]? = some fn)
    (witness : ∃ (w : World) (tape : Tape) (i : Input), w.os = os ∧ (w.forCall tape i).Shaped C.prog ∧ i.vars = [] ∧ Input.okWide C.prog (w.forCall tape i) .any w.heap.size f i ∧
      ((s.pre enc C.prog fn conds apart (w.forCall tape i).memory i.args ∧ X (w.forCall tape i).memory i.args) ∧ sizedMet enc C.prog fn (OpenSpec.ofChange s) apart (w.forCall tape i).memory i.args) ∧ a.holds C.prog (lone (Frame.enter C.prog f i.args .normal) [] (w.forCall tape i)))
    (contract : ∀ (W : World) (base : Nat) (args : Array Value) (ds gs : List (DataW H)) (before : List MemPlace),
      (∀ (j : Nat) t v, fn.params[j]? = some t → args[j]? = some v → Value.okWide C.prog W .any base t v) →
      DataW.Whole enc C.prog fn.params.toList s.vars apart W args.toList ds gs before →
      conds.all (PathCond.test C.prog ⟨fn.params.toList, ds, s.plain.varTypes C.prog, gs⟩) = true →
      (DataW.weightsEach C.prog (fn.params.toList ++ s.plain.varTypes C.prog) (ds ++ gs)).all (· ≤ reachBytes) = true → X W args → W.ShapedOpen C.prog →
      Calls C.prog f args W fun e W' => ∃ v, e = .returned v ∧ s.post enc C.prog fn apart fresh handsOn again W args v W') :
    ReturnsInHanded a C os f .any (fun w args => (s.pre enc C.prog fn conds apart w args ∧ X w args) ∧ sizedMet enc C.prog fn (OpenSpec.ofChange s) apart w args) (s.post enc C.prog fn apart fresh handsOn again) := by
  refine returnsInHanded_of_calls own started noInit witness ?_
  intro w tape i _ hsh _ hok hpre _
  obtain ⟨_, _, _, fn', hfn', _, _, _, _, hval⟩ := hok
  have e : fn' = fn := Option.some.inj (hfn'.symm.trans hfn)
  subst e
  obtain ⟨⟨⟨ds, gs, before, hw, hc⟩, hx⟩, hz⟩ := hpre
  have hw' := DataW.Whole.of_heap (w' := w.forCall tape i) (by rfl) hw
  refine (contract (w.forCall tape i) w.heap.size i.args ds gs before hval hw' hc (hz.weights hw) (hX _ _ _ (by rfl) hx) hsh).mono fun e W' ⟨v, he, hp⟩ => ?_
  subst he
  exact ChangeSpec.post_blind hp
end
theorem gRng : Tryd.prog.globalNamed "strconv.ErrRange" = some 1 := by kernel_rfl
theorem gSyn : Tryd.prog.globalNamed "strconv.ErrSyntax" = some 0 := by kernel_rfl
theorem gRngType : (Tryd.prog.globals[1]?).map (·.type) = some 50 := by kernel_rfl
theorem gSynType : (Tryd.prog.globals[0]?).map (·.type) = some 50 := by kernel_rfl
theorem cells113 : Tryd.prog.cellsOf 113 = 1 := by kernel_rfl
theorem cells9 : Tryd.prog.cellsOf 9 = 1 := by kernel_rfl
theorem starErr : "*" ++ "errors.errorString" = "*errors.errorString" := by decide
theorem row111 (u : TypeId) (h : Tryd.prog.typeName? 3 u = some "*errors.errorString") : u = 111 :=
  typeName_ptr_named (nm := "errors.errorString") (by rw [starErr]; kernel_rfl) (by kernel_rfl) (by decide) u (by rw [starErr]; exact h)
theorem gl_of {W : World} (hL : laidMetH Tryd.prog Rows.fnExactNetReadRow.laid W) (hS : W.ShapedOpen Tryd.prog) : Gl W := by
  have hF : (Rows.fnExactNetReadRow.laid.filter fun x => x.2.handleName?.isNone) = Rows.fnExactNetReadRow.laid := by rfl
  have h1 := (laidMetH_iff.1 hL).1
  rw [hF] at h1
  have h4 := h1.tail.tail.tail.tail
  obtain ⟨a0, s0, hv0, -, -, -⟩ := laid_sentinel h4 gRng gRngType Tryd.underlying50 row111 Tryd.underlying111 Tryd.underlying113 rfl rfl Tryd.underlying9 cells113 cells9
  obtain ⟨a1, s1, hv1, -, -, -⟩ := laid_sentinel h4.tail gSyn gSynType Tryd.underlying50 row111 Tryd.underlying111 Tryd.underlying113 rfl rfl Tryd.underlying9 cells113 cells9
  refine ⟨?_, ⟨_, _, by have h0 := World.var?_cell gSyn hv1 0; simpa using h0⟩, ⟨_, _, by have h0 := World.var?_cell gRng hv0 0; simpa using h0⟩⟩
  exact cell_of_shapedOpen_int (P := Tryd.prog) (g := 2) (t := 3) (zero := #[.int .i64 0]) hS (of_decide_eq_true (by kernel_rfl)) (by kernel_rfl) rfl (by kernel_rfl) (by kernel_rfl) Tryd.underlying3
end Go.Proofs.YtloonheabfdgbaaDoor.P
