/-
  Each function's printed code is what the compiler makes of the translation's text of it.
-/
import Derived.Test.YtaceeoghjgggjaaBunB
import Derived.Test.YtaceeoghjgggjaaCodeS
import Derived.Test.YtaceeoghjgggjaaBunD
import Derived.Test.YtaceeoghjgggjaaChecked
import Derived.KernelRfl
import Derived.Laws.Externs
set_option linter.unusedSimpArgs false
set_option linter.unusedVariables false
namespace Go.Ev.Ytaceeoghjgggjaa
open Go Go.Ev Go.Proofs
set_option maxRecDepth 100000
theorem tab3 : ∃ fn, Try.prog.funcs[3]? = some fn ∧ compFun Try.prog fn = some a3.strip ∧ (fn.name == "runtime.NumGoroutine") = false := ⟨Try.f3, Try.func3, by kernel_rfl, by kernel_rfl⟩
theorem tab4 : ∃ fn, Try.prog.funcs[4]? = some fn ∧ compFun Try.prog fn = some a4.strip ∧ (fn.name == "runtime.NumGoroutine") = false := ⟨Try.f4, Try.func4, by kernel_rfl, by kernel_rfl⟩
theorem tab5 : ∃ fn, Try.prog.funcs[5]? = some fn ∧ compFun Try.prog fn = some a5.strip ∧ (fn.name == "runtime.NumGoroutine") = false := ⟨Try.f5, Try.func5, by kernel_rfl, by kernel_rfl⟩
theorem tab6 : ∃ fn, Try.prog.funcs[6]? = some fn ∧ compFun Try.prog fn = some a6.strip ∧ (fn.name == "runtime.NumGoroutine") = false := ⟨Try.f6, Try.func6, by kernel_rfl, by kernel_rfl⟩
theorem tab7 : ∃ fn, Try.prog.funcs[7]? = some fn ∧ compFun Try.prog fn = some a7.strip ∧ (fn.name == "runtime.NumGoroutine") = false := ⟨Try.f7, Try.func7, by kernel_rfl, by kernel_rfl⟩
theorem tab8 : ∃ fn, Try.prog.funcs[8]? = some fn ∧ compFun Try.prog fn = some a8.strip ∧ (fn.name == "runtime.NumGoroutine") = false := ⟨Try.f8, Try.func8, by kernel_rfl, by kernel_rfl⟩
theorem tab9 : ∃ fn, Try.prog.funcs[9]? = some fn ∧ compFun Try.prog fn = some a9.strip ∧ (fn.name == "runtime.NumGoroutine") = false := ⟨Try.f9, Try.func9, by kernel_rfl, by kernel_rfl⟩
theorem tab10 : ∃ fn, Try.prog.funcs[10]? = some fn ∧ compFun Try.prog fn = some a10.strip ∧ (fn.name == "runtime.NumGoroutine") = false := ⟨Try.f10, Try.func10, by kernel_rfl, by kernel_rfl⟩
theorem tab11 : ∃ fn, Try.prog.funcs[11]? = some fn ∧ compFun Try.prog fn = some a11.strip ∧ (fn.name == "runtime.NumGoroutine") = false := ⟨Try.f11, Try.func11, by kernel_rfl, by kernel_rfl⟩
theorem tab12 : ∃ fn, Try.prog.funcs[12]? = some fn ∧ compFun Try.prog fn = some a12.strip ∧ (fn.name == "runtime.NumGoroutine") = false := ⟨Try.f12, Try.func12, by kernel_rfl, by kernel_rfl⟩
theorem tab13 : ∃ fn, Try.prog.funcs[13]? = some fn ∧ compFun Try.prog fn = some a13.strip ∧ (fn.name == "runtime.NumGoroutine") = false := ⟨Try.f13, Try.func13, by kernel_rfl, by kernel_rfl⟩
theorem tab14 : ∃ fn, Try.prog.funcs[14]? = some fn ∧ compFun Try.prog fn = some a14.strip ∧ (fn.name == "runtime.NumGoroutine") = false := ⟨Try.f14, Try.func14, by kernel_rfl, by kernel_rfl⟩
theorem tab15 : ∃ fn, Try.prog.funcs[15]? = some fn ∧ compFun Try.prog fn = some a15.strip ∧ (fn.name == "runtime.NumGoroutine") = false := ⟨Try.f15, Try.func15, by kernel_rfl, by kernel_rfl⟩
theorem tab16 : ∃ fn, Try.prog.funcs[16]? = some fn ∧ compFun Try.prog fn = some a16.strip ∧ (fn.name == "runtime.NumGoroutine") = false := ⟨Try.f16, Try.func16, by kernel_rfl, by kernel_rfl⟩
theorem tab17 : ∃ fn, Try.prog.funcs[17]? = some fn ∧ compFun Try.prog fn = some a17.strip ∧ (fn.name == "runtime.NumGoroutine") = false := ⟨Try.f17, Try.func17, by kernel_rfl, by kernel_rfl⟩
theorem tab18 : ∃ fn, Try.prog.funcs[18]? = some fn ∧ compFun Try.prog fn = some a18.strip ∧ (fn.name == "runtime.NumGoroutine") = false := ⟨Try.f18, Try.func18, by kernel_rfl, by kernel_rfl⟩
theorem tab19 : ∃ fn, Try.prog.funcs[19]? = some fn ∧ compFun Try.prog fn = some a19.strip ∧ (fn.name == "runtime.NumGoroutine") = false := ⟨Try.f19, Try.func19, by kernel_rfl, by kernel_rfl⟩
theorem tab20 : ∃ fn, Try.prog.funcs[20]? = some fn ∧ compFun Try.prog fn = some a20.strip ∧ (fn.name == "runtime.NumGoroutine") = false := ⟨Try.f20, Try.func20, by kernel_rfl, by kernel_rfl⟩
theorem tab21 : ∃ fn, Try.prog.funcs[21]? = some fn ∧ compFun Try.prog fn = some a21.strip ∧ (fn.name == "runtime.NumGoroutine") = false := ⟨Try.f21, Try.func21, by kernel_rfl, by kernel_rfl⟩
theorem tab22 : ∃ fn, Try.prog.funcs[22]? = some fn ∧ compFun Try.prog fn = some a22.strip ∧ (fn.name == "runtime.NumGoroutine") = false := ⟨Try.f22, Try.func22, by kernel_rfl, by kernel_rfl⟩
theorem tab23 : ∃ fn, Try.prog.funcs[23]? = some fn ∧ compFun Try.prog fn = some a23.strip ∧ (fn.name == "runtime.NumGoroutine") = false := ⟨Try.f23, Try.func23, by kernel_rfl, by kernel_rfl⟩
theorem tab24 : ∃ fn, Try.prog.funcs[24]? = some fn ∧ compFun Try.prog fn = some a24.strip ∧ (fn.name == "runtime.NumGoroutine") = false := ⟨Try.f24, Try.func24, by kernel_rfl, by kernel_rfl⟩
theorem tab25 : ∃ fn, Try.prog.funcs[25]? = some fn ∧ compFun Try.prog fn = some a25.strip ∧ (fn.name == "runtime.NumGoroutine") = false := ⟨Try.f25, Try.func25, by kernel_rfl, by kernel_rfl⟩
theorem tab26 : ∃ fn, Try.prog.funcs[26]? = some fn ∧ compFun Try.prog fn = some a26.strip ∧ (fn.name == "runtime.NumGoroutine") = false := ⟨Try.f26, Try.func26, by kernel_rfl, by kernel_rfl⟩
theorem tab27 : ∃ fn, Try.prog.funcs[27]? = some fn ∧ compFun Try.prog fn = some a27.strip ∧ (fn.name == "runtime.NumGoroutine") = false := ⟨Try.f27, Try.func27, by kernel_rfl, by kernel_rfl⟩
theorem tab28 : ∃ fn, Try.prog.funcs[28]? = some fn ∧ compFun Try.prog fn = some a28.strip ∧ (fn.name == "runtime.NumGoroutine") = false := ⟨Try.f28, Try.func28, by kernel_rfl, by kernel_rfl⟩
theorem tab29 : ∃ fn, Try.prog.funcs[29]? = some fn ∧ compFun Try.prog fn = some a29.strip ∧ (fn.name == "runtime.NumGoroutine") = false := ⟨Try.f29, Try.func29, by kernel_rfl, by kernel_rfl⟩
theorem tab30 : ∃ fn, Try.prog.funcs[30]? = some fn ∧ compFun Try.prog fn = some a30.strip ∧ (fn.name == "runtime.NumGoroutine") = false := ⟨Try.f30, Try.func30, by kernel_rfl, by kernel_rfl⟩
theorem tab31 : ∃ fn, Try.prog.funcs[31]? = some fn ∧ compFun Try.prog fn = some a31.strip ∧ (fn.name == "runtime.NumGoroutine") = false := ⟨Try.f31, Try.func31, by kernel_rfl, by kernel_rfl⟩
theorem tab32 : ∃ fn, Try.prog.funcs[32]? = some fn ∧ compFun Try.prog fn = some a32.strip ∧ (fn.name == "runtime.NumGoroutine") = false := ⟨Try.f32, Try.func32, by kernel_rfl, by kernel_rfl⟩
theorem tab33 : ∃ fn, Try.prog.funcs[33]? = some fn ∧ compFun Try.prog fn = some a33.strip ∧ (fn.name == "runtime.NumGoroutine") = false := ⟨Try.f33, Try.func33, by kernel_rfl, by kernel_rfl⟩
theorem tab34 : ∃ fn, Try.prog.funcs[34]? = some fn ∧ compFun Try.prog fn = some a34.strip ∧ (fn.name == "runtime.NumGoroutine") = false := ⟨Try.f34, Try.func34, by kernel_rfl, by kernel_rfl⟩
theorem tab35 : ∃ fn, Try.prog.funcs[35]? = some fn ∧ compFun Try.prog fn = some a35.strip ∧ (fn.name == "runtime.NumGoroutine") = false := ⟨Try.f35, Try.func35, by kernel_rfl, by kernel_rfl⟩
theorem tab36 : ∃ fn, Try.prog.funcs[36]? = some fn ∧ compFun Try.prog fn = some a36.strip ∧ (fn.name == "runtime.NumGoroutine") = false := ⟨Try.f36, Try.func36, by kernel_rfl, by kernel_rfl⟩
theorem tab37 : ∃ fn, Try.prog.funcs[37]? = some fn ∧ compFun Try.prog fn = some a37.strip ∧ (fn.name == "runtime.NumGoroutine") = false := ⟨Try.f37, Try.func37, by kernel_rfl, by kernel_rfl⟩
theorem tab38 : ∃ fn, Try.prog.funcs[38]? = some fn ∧ compFun Try.prog fn = some a38.strip ∧ (fn.name == "runtime.NumGoroutine") = false := ⟨Try.f38, Try.func38, by kernel_rfl, by kernel_rfl⟩
theorem tab39 : ∃ fn, Try.prog.funcs[39]? = some fn ∧ compFun Try.prog fn = some a39.strip ∧ (fn.name == "runtime.NumGoroutine") = false := ⟨Try.f39, Try.func39, by kernel_rfl, by kernel_rfl⟩
theorem tab40 : ∃ fn, Try.prog.funcs[40]? = some fn ∧ compFun Try.prog fn = some a40.strip ∧ (fn.name == "runtime.NumGoroutine") = false := ⟨Try.f40, Try.func40, by kernel_rfl, by kernel_rfl⟩
theorem tab41 : ∃ fn, Try.prog.funcs[41]? = some fn ∧ compFun Try.prog fn = some a41.strip ∧ (fn.name == "runtime.NumGoroutine") = false := ⟨Try.f41, Try.func41, by kernel_rfl, by kernel_rfl⟩
theorem tab42 : ∃ fn, Try.prog.funcs[42]? = some fn ∧ compFun Try.prog fn = some a42.strip ∧ (fn.name == "runtime.NumGoroutine") = false := ⟨Try.f42, Try.func42, by kernel_rfl, by kernel_rfl⟩
theorem tab43 : ∃ fn, Try.prog.funcs[43]? = some fn ∧ compFun Try.prog fn = some a43.strip ∧ (fn.name == "runtime.NumGoroutine") = false := ⟨Try.f43, Try.func43, by kernel_rfl, by kernel_rfl⟩
theorem tab44 : ∃ fn, Try.prog.funcs[44]? = some fn ∧ compFun Try.prog fn = some a44.strip ∧ (fn.name == "runtime.NumGoroutine") = false := ⟨Try.f44, Try.func44, by kernel_rfl, by kernel_rfl⟩
theorem tab45 : ∃ fn, Try.prog.funcs[45]? = some fn ∧ compFun Try.prog fn = some a45.strip ∧ (fn.name == "runtime.NumGoroutine") = false := ⟨Try.f45, Try.func45, by kernel_rfl, by kernel_rfl⟩
theorem tab46 : ∃ fn, Try.prog.funcs[46]? = some fn ∧ compFun Try.prog fn = some a46.strip ∧ (fn.name == "runtime.NumGoroutine") = false := ⟨Try.f46, Try.func46, by kernel_rfl, by kernel_rfl⟩
theorem tab47 : ∃ fn, Try.prog.funcs[47]? = some fn ∧ compFun Try.prog fn = some a47.strip ∧ (fn.name == "runtime.NumGoroutine") = false := ⟨Try.f47, Try.func47, by kernel_rfl, by kernel_rfl⟩
theorem tab48 : ∃ fn, Try.prog.funcs[48]? = some fn ∧ compFun Try.prog fn = some a48.strip ∧ (fn.name == "runtime.NumGoroutine") = false := ⟨Try.f48, Try.func48, by kernel_rfl, by kernel_rfl⟩
theorem tab49 : ∃ fn, Try.prog.funcs[49]? = some fn ∧ compFun Try.prog fn = some a49.strip ∧ (fn.name == "runtime.NumGoroutine") = false := ⟨Try.f49, Try.func49, by kernel_rfl, by kernel_rfl⟩
theorem tab50 : ∃ fn, Try.prog.funcs[50]? = some fn ∧ compFun Try.prog fn = some a50.strip ∧ (fn.name == "runtime.NumGoroutine") = false := ⟨Try.f50, Try.func50, by kernel_rfl, by kernel_rfl⟩
theorem tab51 : ∃ fn, Try.prog.funcs[51]? = some fn ∧ compFun Try.prog fn = some a51.strip ∧ (fn.name == "runtime.NumGoroutine") = false := ⟨Try.f51, Try.func51, by kernel_rfl, by kernel_rfl⟩
theorem tab52 : ∃ fn, Try.prog.funcs[52]? = some fn ∧ compFun Try.prog fn = some a52.strip ∧ (fn.name == "runtime.NumGoroutine") = false := ⟨Try.f52, Try.func52, by kernel_rfl, by kernel_rfl⟩
theorem tab53 : ∃ fn, Try.prog.funcs[53]? = some fn ∧ compFun Try.prog fn = some a53.strip ∧ (fn.name == "runtime.NumGoroutine") = false := ⟨Try.f53, Try.func53, by kernel_rfl, by kernel_rfl⟩
theorem tab54 : ∃ fn, Try.prog.funcs[54]? = some fn ∧ compFun Try.prog fn = some a54.strip ∧ (fn.name == "runtime.NumGoroutine") = false := ⟨Try.f54, Try.func54, by kernel_rfl, by kernel_rfl⟩
theorem tab55 : ∃ fn, Try.prog.funcs[55]? = some fn ∧ compFun Try.prog fn = some a55.strip ∧ (fn.name == "runtime.NumGoroutine") = false := ⟨Try.f55, Try.func55, by kernel_rfl, by kernel_rfl⟩
theorem tab56 : ∃ fn, Try.prog.funcs[56]? = some fn ∧ compFun Try.prog fn = some a56.strip ∧ (fn.name == "runtime.NumGoroutine") = false := ⟨Try.f56, Try.func56, by kernel_rfl, by kernel_rfl⟩
theorem tab57 : ∃ fn, Try.prog.funcs[57]? = some fn ∧ compFun Try.prog fn = some a57.strip ∧ (fn.name == "runtime.NumGoroutine") = false := ⟨Try.f57, Try.func57, by kernel_rfl, by kernel_rfl⟩
theorem tab58 : ∃ fn, Try.prog.funcs[58]? = some fn ∧ compFun Try.prog fn = some a58.strip ∧ (fn.name == "runtime.NumGoroutine") = false := ⟨Try.f58, Try.func58, by kernel_rfl, by kernel_rfl⟩
theorem tab59 : ∃ fn, Try.prog.funcs[59]? = some fn ∧ compFun Try.prog fn = some a59.strip ∧ (fn.name == "runtime.NumGoroutine") = false := ⟨Try.f59, Try.func59, by kernel_rfl, by kernel_rfl⟩
theorem tab60 : ∃ fn, Try.prog.funcs[60]? = some fn ∧ compFun Try.prog fn = some a60.strip ∧ (fn.name == "runtime.NumGoroutine") = false := ⟨Try.f60, Try.func60, by kernel_rfl, by kernel_rfl⟩
theorem tab61 : ∃ fn, Try.prog.funcs[61]? = some fn ∧ compFun Try.prog fn = some a61.strip ∧ (fn.name == "runtime.NumGoroutine") = false := ⟨Try.f61, Try.func61, by kernel_rfl, by kernel_rfl⟩
theorem tab62 : ∃ fn, Try.prog.funcs[62]? = some fn ∧ compFun Try.prog fn = some a62.strip ∧ (fn.name == "runtime.NumGoroutine") = false := ⟨Try.f62, Try.func62, by kernel_rfl, by kernel_rfl⟩
theorem tab63 : ∃ fn, Try.prog.funcs[63]? = some fn ∧ compFun Try.prog fn = some a63.strip ∧ (fn.name == "runtime.NumGoroutine") = false := ⟨Try.f63, Try.func63, by kernel_rfl, by kernel_rfl⟩
theorem tab64 : ∃ fn, Try.prog.funcs[64]? = some fn ∧ compFun Try.prog fn = some a64.strip ∧ (fn.name == "runtime.NumGoroutine") = false := ⟨Try.f64, Try.func64, by kernel_rfl, by kernel_rfl⟩
theorem tab65 : ∃ fn, Try.prog.funcs[65]? = some fn ∧ compFun Try.prog fn = some a65.strip ∧ (fn.name == "runtime.NumGoroutine") = false := ⟨Try.f65, Try.func65, by kernel_rfl, by kernel_rfl⟩
theorem tab66 : ∃ fn, Try.prog.funcs[66]? = some fn ∧ compFun Try.prog fn = some a66.strip ∧ (fn.name == "runtime.NumGoroutine") = false := ⟨Try.f66, Try.func66, by kernel_rfl, by kernel_rfl⟩
theorem tab67 : ∃ fn, Try.prog.funcs[67]? = some fn ∧ compFun Try.prog fn = some a67.strip ∧ (fn.name == "runtime.NumGoroutine") = false := ⟨Try.f67, Try.func67, by kernel_rfl, by kernel_rfl⟩
theorem tab68 : ∃ fn, Try.prog.funcs[68]? = some fn ∧ compFun Try.prog fn = some a68.strip ∧ (fn.name == "runtime.NumGoroutine") = false := ⟨Try.f68, Try.func68, by kernel_rfl, by kernel_rfl⟩
theorem tab69 : ∃ fn, Try.prog.funcs[69]? = some fn ∧ compFun Try.prog fn = some a69.strip ∧ (fn.name == "runtime.NumGoroutine") = false := ⟨Try.f69, Try.func69, by kernel_rfl, by kernel_rfl⟩
theorem tab70 : ∃ fn, Try.prog.funcs[70]? = some fn ∧ compFun Try.prog fn = some a70.strip ∧ (fn.name == "runtime.NumGoroutine") = false := ⟨Try.f70, Try.func70, by kernel_rfl, by kernel_rfl⟩
theorem tab71 : ∃ fn, Try.prog.funcs[71]? = some fn ∧ compFun Try.prog fn = some a71.strip ∧ (fn.name == "runtime.NumGoroutine") = false := ⟨Try.f71, Try.func71, by kernel_rfl, by kernel_rfl⟩
theorem tab72 : ∃ fn, Try.prog.funcs[72]? = some fn ∧ compFun Try.prog fn = some a72.strip ∧ (fn.name == "runtime.NumGoroutine") = false := ⟨Try.f72, Try.func72, by kernel_rfl, by kernel_rfl⟩
theorem tab73 : ∃ fn, Try.prog.funcs[73]? = some fn ∧ compFun Try.prog fn = some a73.strip ∧ (fn.name == "runtime.NumGoroutine") = false := ⟨Try.f73, Try.func73, by kernel_rfl, by kernel_rfl⟩
theorem tab74 : ∃ fn, Try.prog.funcs[74]? = some fn ∧ compFun Try.prog fn = some a74.strip ∧ (fn.name == "runtime.NumGoroutine") = false := ⟨Try.f74, Try.func74, by kernel_rfl, by kernel_rfl⟩
theorem tab75 : ∃ fn, Try.prog.funcs[75]? = some fn ∧ compFun Try.prog fn = some a75.strip ∧ (fn.name == "runtime.NumGoroutine") = false := ⟨Try.f75, Try.func75, by kernel_rfl, by kernel_rfl⟩
theorem tab76 : ∃ fn, Try.prog.funcs[76]? = some fn ∧ compFun Try.prog fn = some a76.strip ∧ (fn.name == "runtime.NumGoroutine") = false := ⟨Try.f76, Try.func76, by kernel_rfl, by kernel_rfl⟩
theorem tab77 : ∃ fn, Try.prog.funcs[77]? = some fn ∧ compFun Try.prog fn = some a77.strip ∧ (fn.name == "runtime.NumGoroutine") = false := ⟨Try.f77, Try.func77, by kernel_rfl, by kernel_rfl⟩
theorem tab78 : ∃ fn, Try.prog.funcs[78]? = some fn ∧ compFun Try.prog fn = some a78.strip ∧ (fn.name == "runtime.NumGoroutine") = false := ⟨Try.f78, Try.func78, by kernel_rfl, by kernel_rfl⟩
theorem tab79 : ∃ fn, Try.prog.funcs[79]? = some fn ∧ compFun Try.prog fn = some a79.strip ∧ (fn.name == "runtime.NumGoroutine") = false := ⟨Try.f79, Try.func79, by kernel_rfl, by kernel_rfl⟩
theorem tab80 : ∃ fn, Try.prog.funcs[80]? = some fn ∧ compFun Try.prog fn = some a80.strip ∧ (fn.name == "runtime.NumGoroutine") = false := ⟨Try.f80, Try.func80, by kernel_rfl, by kernel_rfl⟩
theorem tab81 : ∃ fn, Try.prog.funcs[81]? = some fn ∧ compFun Try.prog fn = some a81.strip ∧ (fn.name == "runtime.NumGoroutine") = false := ⟨Try.f81, Try.func81, by kernel_rfl, by kernel_rfl⟩
theorem tab82 : ∃ fn, Try.prog.funcs[82]? = some fn ∧ compFun Try.prog fn = some a82.strip ∧ (fn.name == "runtime.NumGoroutine") = false := ⟨Try.f82, Try.func82, by kernel_rfl, by kernel_rfl⟩
theorem tab83 : ∃ fn, Try.prog.funcs[83]? = some fn ∧ compFun Try.prog fn = some a83.strip ∧ (fn.name == "runtime.NumGoroutine") = false := ⟨Try.f83, Try.func83, by kernel_rfl, by kernel_rfl⟩
theorem tab84 : ∃ fn, Try.prog.funcs[84]? = some fn ∧ compFun Try.prog fn = some a84.strip ∧ (fn.name == "runtime.NumGoroutine") = false := ⟨Try.f84, Try.func84, by kernel_rfl, by kernel_rfl⟩
theorem tab85 : ∃ fn, Try.prog.funcs[85]? = some fn ∧ compFun Try.prog fn = some a85.strip ∧ (fn.name == "runtime.NumGoroutine") = false := ⟨Try.f85, Try.func85, by kernel_rfl, by kernel_rfl⟩
theorem tab86 : ∃ fn, Try.prog.funcs[86]? = some fn ∧ compFun Try.prog fn = some a86.strip ∧ (fn.name == "runtime.NumGoroutine") = false := ⟨Try.f86, Try.func86, by kernel_rfl, by kernel_rfl⟩
theorem tab87 : ∃ fn, Try.prog.funcs[87]? = some fn ∧ compFun Try.prog fn = some a87.strip ∧ (fn.name == "runtime.NumGoroutine") = false := ⟨Try.f87, Try.func87, by kernel_rfl, by kernel_rfl⟩
theorem tab88 : ∃ fn, Try.prog.funcs[88]? = some fn ∧ compFun Try.prog fn = some a88.strip ∧ (fn.name == "runtime.NumGoroutine") = false := ⟨Try.f88, Try.func88, by kernel_rfl, by kernel_rfl⟩
theorem tab89 : ∃ fn, Try.prog.funcs[89]? = some fn ∧ compFun Try.prog fn = some a89.strip ∧ (fn.name == "runtime.NumGoroutine") = false := ⟨Try.f89, Try.func89, by kernel_rfl, by kernel_rfl⟩
theorem tab90 : ∃ fn, Try.prog.funcs[90]? = some fn ∧ compFun Try.prog fn = some a90.strip ∧ (fn.name == "runtime.NumGoroutine") = false := ⟨Try.f90, Try.func90, by kernel_rfl, by kernel_rfl⟩
theorem tab91 : ∃ fn, Try.prog.funcs[91]? = some fn ∧ compFun Try.prog fn = some a91.strip ∧ (fn.name == "runtime.NumGoroutine") = false := ⟨Try.f91, Try.func91, by kernel_rfl, by kernel_rfl⟩
theorem tab93 : ∃ fn, Try.prog.funcs[93]? = some fn ∧ compFun Try.prog fn = some a93.strip ∧ (fn.name == "runtime.NumGoroutine") = false := ⟨Try.f93, Try.func93, by kernel_rfl, by kernel_rfl⟩
theorem call_add64 (args : Array Value) (w : World) : (callFunc 92 args).run Try.prog w = (((do
    let (x, y, c) ← Extern.MathBitsCarry.three "Add64" args
    pure (Extern.MathBitsCarry.pair ((x + y + c) % Extern.MathBitsCarry.m64) ((x + y + c) / Extern.MathBitsCarry.m64))) : Sem Value).run Try.prog w).andThen fun v w' => .ok (.value v) w' :=
  run_callFunc_extern (e := fun args => do
    let (x, y, c) ← Extern.MathBitsCarry.three "Add64" args
    pure (Extern.MathBitsCarry.pair ((x + y + c) % Extern.MathBitsCarry.m64) ((x + y + c) / Extern.MathBitsCarry.m64))) Try.func92 (by kernel_rfl) (by kernel_rfl) (by kernel_rfl) (by kernel_rfl) args w
theorem run_add64 (P : Program) (w : World) (x y c : Int) (hc : c.toNat ≤ 1) : (((do
    let (x, y, c) ← Extern.MathBitsCarry.three "Add64" [Value.int .u64 x, .int .u64 y, .int .u64 c].toArray
    pure (Extern.MathBitsCarry.pair ((x + y + c) % Extern.MathBitsCarry.m64) ((x + y + c) / Extern.MathBitsCarry.m64))) : Sem Value).run P w) = .ok (.tuple #[.int .u64 ((x.toNat + y.toNat + c.toNat) % 18446744073709551616 : Nat), .int .u64 ((x.toNat + y.toNat + c.toNat) / 18446744073709551616 : Nat)]) w := by
  have hc' : ¬ c.toNat > 1 := by omega
  have e : Extern.MathBitsCarry.three "Add64" [Value.int .u64 x, .int .u64 y, .int .u64 c].toArray = (if c.toNat > 1 then (do unsupported (.noEntry ("extern/math/bits." ++ "Add64" ++ ": a carry that is neither 0 nor 1")); pure (x.toNat, y.toNat, c.toNat)) else pure (x.toNat, y.toNat, c.toNat) : Sem (Nat × Nat × Nat)) := by
    rfl
  rw [e, if_neg hc']
  rfl
theorem tabExt (f : Nat) (args : List Value) (v : Value) (h : T.ext f args = some v) : (∀ ρ, VRel ρ v v) ∧ ∀ w, (callFunc f args.toArray).run Try.prog w = .ok (.value v) w := by
  have h' : extS f args = some v := h
  unfold extS at h'
  split at h'
  · split at h'
    · rename_i hc
      cases h'
      refine ⟨fun ρ => VRel.tuple (.cons (.same rfl) (.cons (.same rfl) .nil)), fun w => ?_⟩
      rw [call_add64, run_add64 _ _ _ _ _ hc]
      rfl
    · cases h'
  · cases h'
theorem tabOk : TabOk Try.prog T := by
  refine ⟨fun f af h => ?_, fun f args v _ h _ => tabExt f args v h⟩
  have h' : fnS f = some af := h
  unfold fnS at h'
  split at h'
  · cases h'; exact tab3
  · cases h'; exact tab4
  · cases h'; exact tab5
  · cases h'; exact tab6
  · cases h'; exact tab7
  · cases h'; exact tab8
  · cases h'; exact tab9
  · cases h'; exact tab10
  · cases h'; exact tab11
  · cases h'; exact tab12
  · cases h'; exact tab13
  · cases h'; exact tab14
  · cases h'; exact tab15
  · cases h'; exact tab16
  · cases h'; exact tab17
  · cases h'; exact tab18
  · cases h'; exact tab19
  · cases h'; exact tab20
  · cases h'; exact tab21
  · cases h'; exact tab22
  · cases h'; exact tab23
  · cases h'; exact tab24
  · cases h'; exact tab25
  · cases h'; exact tab26
  · cases h'; exact tab27
  · cases h'; exact tab28
  · cases h'; exact tab29
  · cases h'; exact tab30
  · cases h'; exact tab31
  · cases h'; exact tab32
  · cases h'; exact tab33
  · cases h'; exact tab34
  · cases h'; exact tab35
  · cases h'; exact tab36
  · cases h'; exact tab37
  · cases h'; exact tab38
  · cases h'; exact tab39
  · cases h'; exact tab40
  · cases h'; exact tab41
  · cases h'; exact tab42
  · cases h'; exact tab43
  · cases h'; exact tab44
  · cases h'; exact tab45
  · cases h'; exact tab46
  · cases h'; exact tab47
  · cases h'; exact tab48
  · cases h'; exact tab49
  · cases h'; exact tab50
  · cases h'; exact tab51
  · cases h'; exact tab52
  · cases h'; exact tab53
  · cases h'; exact tab54
  · cases h'; exact tab55
  · cases h'; exact tab56
  · cases h'; exact tab57
  · cases h'; exact tab58
  · cases h'; exact tab59
  · cases h'; exact tab60
  · cases h'; exact tab61
  · cases h'; exact tab62
  · cases h'; exact tab63
  · cases h'; exact tab64
  · cases h'; exact tab65
  · cases h'; exact tab66
  · cases h'; exact tab67
  · cases h'; exact tab68
  · cases h'; exact tab69
  · cases h'; exact tab70
  · cases h'; exact tab71
  · cases h'; exact tab72
  · cases h'; exact tab73
  · cases h'; exact tab74
  · cases h'; exact tab75
  · cases h'; exact tab76
  · cases h'; exact tab77
  · cases h'; exact tab78
  · cases h'; exact tab79
  · cases h'; exact tab80
  · cases h'; exact tab81
  · cases h'; exact tab82
  · cases h'; exact tab83
  · cases h'; exact tab84
  · cases h'; exact tab85
  · cases h'; exact tab86
  · cases h'; exact tab87
  · cases h'; exact tab88
  · cases h'; exact tab89
  · cases h'; exact tab90
  · cases h'; exact tab91
  · cases h'; exact tab93
  · cases h'
theorem mixed : Try.prog.follows .mixedOrders = true := by kernel_rfl
end Go.Ev.Ytaceeoghjgggjaa
