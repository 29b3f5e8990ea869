/-
  Each function's printed code is what the compiler makes of the translation's text of it.
-/
import Derived.Test.YtaceeoghjgggjaaEvLaw
import Derived.Test.YtaceeoghjgggjaaCodeS
import Derived.Test.YtaceeoghjgggjaaSW1
import Derived.Test.YtaceeoghjgggjaaChecked
import Derived.KernelRfl
set_option linter.unusedSimpArgs false
set_option linter.unusedVariables false
namespace Go.Ev.Ytaceeoghjgggjaa
open Go Go.Ev Go.Proofs
set_option maxRecDepth 100000
theorem tab3 : ∃ fn, Try.prog.funcs[3]? = some fn ∧ compFun Try.prog fn = some a3.strip ∧ (fn.name == "runtime.NumGoroutine") = false := ⟨Try.f3, Try.func3, by kernel_rfl, by kernel_rfl⟩
theorem tab4 : ∃ fn, Try.prog.funcs[4]? = some fn ∧ compFun Try.prog fn = some a4.strip ∧ (fn.name == "runtime.NumGoroutine") = false := ⟨Try.f4, Try.func4, by kernel_rfl, by kernel_rfl⟩
theorem tab5 : ∃ fn, Try.prog.funcs[5]? = some fn ∧ compFun Try.prog fn = some a5.strip ∧ (fn.name == "runtime.NumGoroutine") = false := ⟨Try.f5, Try.func5, by kernel_rfl, by kernel_rfl⟩
theorem tab6 : ∃ fn, Try.prog.funcs[6]? = some fn ∧ compFun Try.prog fn = some a6.strip ∧ (fn.name == "runtime.NumGoroutine") = false := ⟨Try.f6, Try.func6, by kernel_rfl, by kernel_rfl⟩
theorem tab7 : ∃ fn, Try.prog.funcs[7]? = some fn ∧ compFun Try.prog fn = some a7.strip ∧ (fn.name == "runtime.NumGoroutine") = false := ⟨Try.f7, Try.func7, by kernel_rfl, by kernel_rfl⟩
theorem tab15 : ∃ fn, Try.prog.funcs[15]? = some fn ∧ compFun Try.prog fn = some a15.strip ∧ (fn.name == "runtime.NumGoroutine") = false := ⟨Try.f15, Try.func15, by kernel_rfl, by kernel_rfl⟩
theorem tab16 : ∃ fn, Try.prog.funcs[16]? = some fn ∧ compFun Try.prog fn = some a16.strip ∧ (fn.name == "runtime.NumGoroutine") = false := ⟨Try.f16, Try.func16, by kernel_rfl, by kernel_rfl⟩
theorem tab17 : ∃ fn, Try.prog.funcs[17]? = some fn ∧ compFun Try.prog fn = some a17.strip ∧ (fn.name == "runtime.NumGoroutine") = false := ⟨Try.f17, Try.func17, by kernel_rfl, by kernel_rfl⟩
theorem tab18 : ∃ fn, Try.prog.funcs[18]? = some fn ∧ compFun Try.prog fn = some a18.strip ∧ (fn.name == "runtime.NumGoroutine") = false := ⟨Try.f18, Try.func18, by kernel_rfl, by kernel_rfl⟩
theorem tab19 : ∃ fn, Try.prog.funcs[19]? = some fn ∧ compFun Try.prog fn = some a19.strip ∧ (fn.name == "runtime.NumGoroutine") = false := ⟨Try.f19, Try.func19, by kernel_rfl, by kernel_rfl⟩
theorem tab20 : ∃ fn, Try.prog.funcs[20]? = some fn ∧ compFun Try.prog fn = some a20.strip ∧ (fn.name == "runtime.NumGoroutine") = false := ⟨Try.f20, Try.func20, by kernel_rfl, by kernel_rfl⟩
theorem tab21 : ∃ fn, Try.prog.funcs[21]? = some fn ∧ compFun Try.prog fn = some a21.strip ∧ (fn.name == "runtime.NumGoroutine") = false := ⟨Try.f21, Try.func21, by kernel_rfl, by kernel_rfl⟩
theorem tab22 : ∃ fn, Try.prog.funcs[22]? = some fn ∧ compFun Try.prog fn = some a22.strip ∧ (fn.name == "runtime.NumGoroutine") = false := ⟨Try.f22, Try.func22, by kernel_rfl, by kernel_rfl⟩
theorem tab23 : ∃ fn, Try.prog.funcs[23]? = some fn ∧ compFun Try.prog fn = some a23.strip ∧ (fn.name == "runtime.NumGoroutine") = false := ⟨Try.f23, Try.func23, by kernel_rfl, by kernel_rfl⟩
theorem tab40 : ∃ fn, Try.prog.funcs[40]? = some fn ∧ compFun Try.prog fn = some a40.strip ∧ (fn.name == "runtime.NumGoroutine") = false := ⟨Try.f40, Try.func40, by kernel_rfl, by kernel_rfl⟩
theorem tab41 : ∃ fn, Try.prog.funcs[41]? = some fn ∧ compFun Try.prog fn = some a41.strip ∧ (fn.name == "runtime.NumGoroutine") = false := ⟨Try.f41, Try.func41, by kernel_rfl, by kernel_rfl⟩
theorem tab42 : ∃ fn, Try.prog.funcs[42]? = some fn ∧ compFun Try.prog fn = some a42.strip ∧ (fn.name == "runtime.NumGoroutine") = false := ⟨Try.f42, Try.func42, by kernel_rfl, by kernel_rfl⟩
theorem tab43 : ∃ fn, Try.prog.funcs[43]? = some fn ∧ compFun Try.prog fn = some a43.strip ∧ (fn.name == "runtime.NumGoroutine") = false := ⟨Try.f43, Try.func43, by kernel_rfl, by kernel_rfl⟩
theorem tab44 : ∃ fn, Try.prog.funcs[44]? = some fn ∧ compFun Try.prog fn = some a44.strip ∧ (fn.name == "runtime.NumGoroutine") = false := ⟨Try.f44, Try.func44, by kernel_rfl, by kernel_rfl⟩
theorem tab45 : ∃ fn, Try.prog.funcs[45]? = some fn ∧ compFun Try.prog fn = some a45.strip ∧ (fn.name == "runtime.NumGoroutine") = false := ⟨Try.f45, Try.func45, by kernel_rfl, by kernel_rfl⟩
theorem tab46 : ∃ fn, Try.prog.funcs[46]? = some fn ∧ compFun Try.prog fn = some a46.strip ∧ (fn.name == "runtime.NumGoroutine") = false := ⟨Try.f46, Try.func46, by kernel_rfl, by kernel_rfl⟩
theorem tab47 : ∃ fn, Try.prog.funcs[47]? = some fn ∧ compFun Try.prog fn = some a47.strip ∧ (fn.name == "runtime.NumGoroutine") = false := ⟨Try.f47, Try.func47, by kernel_rfl, by kernel_rfl⟩
theorem tab48 : ∃ fn, Try.prog.funcs[48]? = some fn ∧ compFun Try.prog fn = some a48.strip ∧ (fn.name == "runtime.NumGoroutine") = false := ⟨Try.f48, Try.func48, by kernel_rfl, by kernel_rfl⟩
theorem tab75 : ∃ fn, Try.prog.funcs[75]? = some fn ∧ compFun Try.prog fn = some a75.strip ∧ (fn.name == "runtime.NumGoroutine") = false := ⟨Try.f75, Try.func75, by kernel_rfl, by kernel_rfl⟩
theorem tab76 : ∃ fn, Try.prog.funcs[76]? = some fn ∧ compFun Try.prog fn = some a76.strip ∧ (fn.name == "runtime.NumGoroutine") = false := ⟨Try.f76, Try.func76, by kernel_rfl, by kernel_rfl⟩
theorem tabOk : TabOk Try.prog T := by
  refine ⟨fun f af h => ?_, fun f args v _ h => by cases h⟩
  have h' : fnS f = some af := h
  unfold fnS at h'
  split at h'
  · cases h'; exact tab3
  · cases h'; exact tab4
  · cases h'; exact tab5
  · cases h'; exact tab6
  · cases h'; exact tab7
  · cases h'; exact tab15
  · cases h'; exact tab16
  · cases h'; exact tab17
  · cases h'; exact tab18
  · cases h'; exact tab19
  · cases h'; exact tab20
  · cases h'; exact tab21
  · cases h'; exact tab22
  · cases h'; exact tab23
  · cases h'; exact tab40
  · cases h'; exact tab41
  · cases h'; exact tab42
  · cases h'; exact tab43
  · cases h'; exact tab44
  · cases h'; exact tab45
  · cases h'; exact tab46
  · cases h'; exact tab47
  · cases h'; exact tab48
  · cases h'; exact tab75
  · cases h'; exact tab76
  · cases h'
theorem mixed : Try.prog.follows .mixedOrders = true := by kernel_rfl
end Go.Ev.Ytaceeoghjgggjaa
