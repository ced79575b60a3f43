/-
  What the translation says of its types and functions.
-/
import Derived.Test.YtdfiglhdjlmakaaGreatProg
import Derived.Test.YtdfiglhdjlmakaaGreatAlM
set_option linter.unusedVariables false
set_option linter.unusedSimpArgs false
namespace Go.Proofs.YtdfiglhdjlmakaaGreat
open Go.RowKit
theorem ag104 : agB Tryz.prog 104 4 = true := by kernel_rfl
theorem ag24 : agB Tryz.prog 24 2 = true := by kernel_rfl
theorem ag30 : agB Tryz.prog 30 2 = true := by kernel_rfl
theorem ag46 : agB Tryz.prog 46 3 = true := by kernel_rfl
theorem ag49 : agB Tryz.prog 49 3 = true := by kernel_rfl
theorem ag61 : agB Tryz.prog 61 5 = true := by kernel_rfl
theorem ag63 : agB Tryz.prog 63 5 = true := by kernel_rfl
theorem ag66 : agB Tryz.prog 66 2 = true := by kernel_rfl
theorem ag94 : agB Tryz.prog 94 2 = true := by kernel_rfl
theorem ag97 : agB Tryz.prog 97 20 = true := by kernel_rfl
theorem fl24_0 : ∀ (ad : Addr) (w : World), (Instr.fieldAt 24 (.pointer (some ad)) 0).run Tryz.prog w = .ok (.pointer (some (ad.add 0))) w := fun _ _ => by kernel_rfl
theorem fl24_1 : ∀ (ad : Addr) (w : World), (Instr.fieldAt 24 (.pointer (some ad)) 1).run Tryz.prog w = .ok (.pointer (some (ad.add 1))) w := fun _ _ => by kernel_rfl
theorem fl30_0 : ∀ (ad : Addr) (w : World), (Instr.fieldAt 30 (.pointer (some ad)) 0).run Tryz.prog w = .ok (.pointer (some (ad.add 0))) w := fun _ _ => by kernel_rfl
theorem fl30_1 : ∀ (ad : Addr) (w : World), (Instr.fieldAt 30 (.pointer (some ad)) 1).run Tryz.prog w = .ok (.pointer (some (ad.add 1))) w := fun _ _ => by kernel_rfl
theorem fl46_0 : ∀ (ad : Addr) (w : World), (Instr.fieldAt 46 (.pointer (some ad)) 0).run Tryz.prog w = .ok (.pointer (some (ad.add 0))) w := fun _ _ => by kernel_rfl
theorem fl46_1 : ∀ (ad : Addr) (w : World), (Instr.fieldAt 46 (.pointer (some ad)) 1).run Tryz.prog w = .ok (.pointer (some (ad.add 1))) w := fun _ _ => by kernel_rfl
theorem fl46_2 : ∀ (ad : Addr) (w : World), (Instr.fieldAt 46 (.pointer (some ad)) 2).run Tryz.prog w = .ok (.pointer (some (ad.add 2))) w := fun _ _ => by kernel_rfl
theorem fl49_0 : ∀ (ad : Addr) (w : World), (Instr.fieldAt 49 (.pointer (some ad)) 0).run Tryz.prog w = .ok (.pointer (some (ad.add 0))) w := fun _ _ => by kernel_rfl
theorem fl49_1 : ∀ (ad : Addr) (w : World), (Instr.fieldAt 49 (.pointer (some ad)) 1).run Tryz.prog w = .ok (.pointer (some (ad.add 1))) w := fun _ _ => by kernel_rfl
theorem fl49_2 : ∀ (ad : Addr) (w : World), (Instr.fieldAt 49 (.pointer (some ad)) 2).run Tryz.prog w = .ok (.pointer (some (ad.add 2))) w := fun _ _ => by kernel_rfl
theorem fl61_0 : ∀ (ad : Addr) (w : World), (Instr.fieldAt 61 (.pointer (some ad)) 0).run Tryz.prog w = .ok (.pointer (some (ad.add 0))) w := fun _ _ => by kernel_rfl
theorem fl61_1 : ∀ (ad : Addr) (w : World), (Instr.fieldAt 61 (.pointer (some ad)) 1).run Tryz.prog w = .ok (.pointer (some (ad.add 1))) w := fun _ _ => by kernel_rfl
theorem fl61_2 : ∀ (ad : Addr) (w : World), (Instr.fieldAt 61 (.pointer (some ad)) 2).run Tryz.prog w = .ok (.pointer (some (ad.add 2))) w := fun _ _ => by kernel_rfl
theorem fl61_3 : ∀ (ad : Addr) (w : World), (Instr.fieldAt 61 (.pointer (some ad)) 3).run Tryz.prog w = .ok (.pointer (some (ad.add 3))) w := fun _ _ => by kernel_rfl
theorem fl61_4 : ∀ (ad : Addr) (w : World), (Instr.fieldAt 61 (.pointer (some ad)) 4).run Tryz.prog w = .ok (.pointer (some (ad.add 4))) w := fun _ _ => by kernel_rfl
theorem fl63_0 : ∀ (ad : Addr) (w : World), (Instr.fieldAt 63 (.pointer (some ad)) 0).run Tryz.prog w = .ok (.pointer (some (ad.add 0))) w := fun _ _ => by kernel_rfl
theorem fl63_1 : ∀ (ad : Addr) (w : World), (Instr.fieldAt 63 (.pointer (some ad)) 1).run Tryz.prog w = .ok (.pointer (some (ad.add 1))) w := fun _ _ => by kernel_rfl
theorem fl63_2 : ∀ (ad : Addr) (w : World), (Instr.fieldAt 63 (.pointer (some ad)) 2).run Tryz.prog w = .ok (.pointer (some (ad.add 2))) w := fun _ _ => by kernel_rfl
theorem fl63_3 : ∀ (ad : Addr) (w : World), (Instr.fieldAt 63 (.pointer (some ad)) 3).run Tryz.prog w = .ok (.pointer (some (ad.add 3))) w := fun _ _ => by kernel_rfl
theorem fl63_4 : ∀ (ad : Addr) (w : World), (Instr.fieldAt 63 (.pointer (some ad)) 4).run Tryz.prog w = .ok (.pointer (some (ad.add 4))) w := fun _ _ => by kernel_rfl
theorem fl66_0 : ∀ (ad : Addr) (w : World), (Instr.fieldAt 66 (.pointer (some ad)) 0).run Tryz.prog w = .ok (.pointer (some (ad.add 0))) w := fun _ _ => by kernel_rfl
theorem fl66_1 : ∀ (ad : Addr) (w : World), (Instr.fieldAt 66 (.pointer (some ad)) 1).run Tryz.prog w = .ok (.pointer (some (ad.add 1))) w := fun _ _ => by kernel_rfl
theorem fl94_0 : ∀ (ad : Addr) (w : World), (Instr.fieldAt 94 (.pointer (some ad)) 0).run Tryz.prog w = .ok (.pointer (some (ad.add 0))) w := fun _ _ => by kernel_rfl
theorem fl94_1 : ∀ (ad : Addr) (w : World), (Instr.fieldAt 94 (.pointer (some ad)) 1).run Tryz.prog w = .ok (.pointer (some (ad.add 1))) w := fun _ _ => by kernel_rfl
theorem inf2 : (Tryz.prog.info? 2).map (fun i => (i.zero, i.size, i.bytes)) = some (some (.int .i64 0), 1, 8) := by kernel_rfl
theorem inf4 : (Tryz.prog.info? 4).map (fun i => (i.zero, i.size, i.bytes)) = some (some (.bool false), 1, 1) := by kernel_rfl
theorem inf46 : (Tryz.prog.info? 46).map (fun i => (i.zero, i.size, i.bytes)) = some (some (.agg #[.int .i64 0, .int .i64 0, .int .i64 0]), 3, 24) := by kernel_rfl
theorem inf61 : (Tryz.prog.info? 61).map (fun i => (i.zero, i.size, i.bytes)) = some (some (.agg #[.int .i64 0, .int .i64 0, .int .i64 0, .int .i64 0, .int .i64 0]), 5, 40) := by kernel_rfl
theorem inf74 : (Tryz.prog.info? 74).map (fun i => (i.zero, i.size, i.bytes)) = some (some (.slice none 0 0), 1, 24) := by kernel_rfl
theorem inf94 : (Tryz.prog.info? 94).map (fun i => (i.zero, i.size, i.bytes)) = some (some (.agg #[.int .i64 0, .int .i64 0]), 2, 16) := by kernel_rfl
theorem na120 : naB Tryz.prog 120 = true := by kernel_rfl
theorem na2 : naB Tryz.prog 2 = true := by kernel_rfl
theorem na22 : naB Tryz.prog 22 = true := by kernel_rfl
theorem na28 : naB Tryz.prog 28 = true := by kernel_rfl
theorem na4 : naB Tryz.prog 4 = true := by kernel_rfl
theorem na64 : naB Tryz.prog 64 = true := by kernel_rfl
theorem na74 : naB Tryz.prog 74 = true := by kernel_rfl
theorem sz2 : (Tryz.prog.info? 2).map (·.size) = some 1 := by kernel_rfl
theorem sz4 : (Tryz.prog.info? 4).map (·.size) = some 1 := by kernel_rfl
theorem sz46 : (Tryz.prog.info? 46).map (·.size) = some 3 := by kernel_rfl
theorem sz49 : (Tryz.prog.info? 49).map (·.size) = some 3 := by kernel_rfl
theorem sz61 : (Tryz.prog.info? 61).map (·.size) = some 5 := by kernel_rfl
theorem sz63 : (Tryz.prog.info? 63).map (·.size) = some 5 := by kernel_rfl
theorem sz74 : (Tryz.prog.info? 74).map (·.size) = some 1 := by kernel_rfl
theorem sz94 : (Tryz.prog.info? 94).map (·.size) = some 2 := by kernel_rfl
theorem zr104 : (Tryz.prog.info? 104).map (·.zero) = some (some (.agg #[.int .i64 0, .int .i64 0, .int .i64 0, .int .i64 0])) := by kernel_rfl
theorem zr120 : (Tryz.prog.info? 120).map (·.zero) = some (some (.nilFunc)) := by kernel_rfl
theorem zr2 : (Tryz.prog.info? 2).map (·.zero) = some (some (.int .i64 0)) := by kernel_rfl
theorem zr30 : (Tryz.prog.info? 30).map (·.zero) = some (some (.agg #[.slice none 0 0, .int .i64 0])) := by kernel_rfl
theorem zr46 : (Tryz.prog.info? 46).map (·.zero) = some (some (.agg #[.int .i64 0, .int .i64 0, .int .i64 0])) := by kernel_rfl
theorem zr61 : (Tryz.prog.info? 61).map (·.zero) = some (some (.agg #[.int .i64 0, .int .i64 0, .int .i64 0, .int .i64 0, .int .i64 0])) := by kernel_rfl
theorem zr66 : (Tryz.prog.info? 66).map (·.zero) = some (some (.agg #[.slice none 0 0, .slice none 0 0])) := by kernel_rfl
theorem zr74 : (Tryz.prog.info? 74).map (·.zero) = some (some (.slice none 0 0)) := by kernel_rfl
theorem zr94 : (Tryz.prog.info? 94).map (·.zero) = some (some (.agg #[.int .i64 0, .int .i64 0])) := by kernel_rfl
theorem zr97 : (Tryz.prog.info? 97).map (·.zero) = some (some (.agg #[.int .i64 0, .int .i64 0, .int .i64 0, .int .i64 0, .int .i64 0, .int .i64 0, .int .i64 0, .int .i64 0, .int .i64 0, .int .i64 0, .int .i64 0, .int .i64 0, .int .i64 0, .int .i64 0, .int .i64 0, .int .i64 0, .int .i64 0, .int .i64 0, .int .i64 0, .int .i64 0])) := by kernel_rfl
theorem fok4 : (Tryz.f4.name == "runtime.NumGoroutine") = false ∧ Tryz.f4.body.isNone = false := ⟨by kernel_rfl, rfl⟩
theorem fok5 : (Tryz.f5.name == "runtime.NumGoroutine") = false ∧ Tryz.f5.body.isNone = false := ⟨by kernel_rfl, rfl⟩
theorem fok6 : (Tryz.f6.name == "runtime.NumGoroutine") = false ∧ Tryz.f6.body.isNone = false := ⟨by kernel_rfl, rfl⟩
theorem fok7 : (Tryz.f7.name == "runtime.NumGoroutine") = false ∧ Tryz.f7.body.isNone = false := ⟨by kernel_rfl, rfl⟩
theorem fok8 : (Tryz.f8.name == "runtime.NumGoroutine") = false ∧ Tryz.f8.body.isNone = false := ⟨by kernel_rfl, rfl⟩
theorem fok9 : (Tryz.f9.name == "runtime.NumGoroutine") = false ∧ Tryz.f9.body.isNone = false := ⟨by kernel_rfl, rfl⟩
theorem fok10 : (Tryz.f10.name == "runtime.NumGoroutine") = false ∧ Tryz.f10.body.isNone = false := ⟨by kernel_rfl, rfl⟩
theorem fok11 : (Tryz.f11.name == "runtime.NumGoroutine") = false ∧ Tryz.f11.body.isNone = false := ⟨by kernel_rfl, rfl⟩
theorem fok12 : (Tryz.f12.name == "runtime.NumGoroutine") = false ∧ Tryz.f12.body.isNone = false := ⟨by kernel_rfl, rfl⟩
theorem fok13 : (Tryz.f13.name == "runtime.NumGoroutine") = false ∧ Tryz.f13.body.isNone = false := ⟨by kernel_rfl, rfl⟩
theorem fok14 : (Tryz.f14.name == "runtime.NumGoroutine") = false ∧ Tryz.f14.body.isNone = false := ⟨by kernel_rfl, rfl⟩
theorem fok15 : (Tryz.f15.name == "runtime.NumGoroutine") = false ∧ Tryz.f15.body.isNone = false := ⟨by kernel_rfl, rfl⟩
theorem fok16 : (Tryz.f16.name == "runtime.NumGoroutine") = false ∧ Tryz.f16.body.isNone = false := ⟨by kernel_rfl, rfl⟩
theorem fok17 : (Tryz.f17.name == "runtime.NumGoroutine") = false ∧ Tryz.f17.body.isNone = false := ⟨by kernel_rfl, rfl⟩
theorem fok18 : (Tryz.f18.name == "runtime.NumGoroutine") = false ∧ Tryz.f18.body.isNone = false := ⟨by kernel_rfl, rfl⟩
theorem fok19 : (Tryz.f19.name == "runtime.NumGoroutine") = false ∧ Tryz.f19.body.isNone = false := ⟨by kernel_rfl, rfl⟩
theorem fok20 : (Tryz.f20.name == "runtime.NumGoroutine") = false ∧ Tryz.f20.body.isNone = false := ⟨by kernel_rfl, rfl⟩
theorem fok21 : (Tryz.f21.name == "runtime.NumGoroutine") = false ∧ Tryz.f21.body.isNone = false := ⟨by kernel_rfl, rfl⟩
theorem fok22 : (Tryz.f22.name == "runtime.NumGoroutine") = false ∧ Tryz.f22.body.isNone = false := ⟨by kernel_rfl, rfl⟩
theorem fok23 : (Tryz.f23.name == "runtime.NumGoroutine") = false ∧ Tryz.f23.body.isNone = false := ⟨by kernel_rfl, rfl⟩
theorem fok24 : (Tryz.f24.name == "runtime.NumGoroutine") = false ∧ Tryz.f24.body.isNone = false := ⟨by kernel_rfl, rfl⟩
theorem fok25 : (Tryz.f25.name == "runtime.NumGoroutine") = false ∧ Tryz.f25.body.isNone = false := ⟨by kernel_rfl, rfl⟩
theorem fok26 : (Tryz.f26.name == "runtime.NumGoroutine") = false ∧ Tryz.f26.body.isNone = false := ⟨by kernel_rfl, rfl⟩
theorem fok27 : (Tryz.f27.name == "runtime.NumGoroutine") = false ∧ Tryz.f27.body.isNone = false := ⟨by kernel_rfl, rfl⟩
theorem fok28 : (Tryz.f28.name == "runtime.NumGoroutine") = false ∧ Tryz.f28.body.isNone = false := ⟨by kernel_rfl, rfl⟩
theorem fok29 : (Tryz.f29.name == "runtime.NumGoroutine") = false ∧ Tryz.f29.body.isNone = false := ⟨by kernel_rfl, rfl⟩
theorem fok30 : (Tryz.f30.name == "runtime.NumGoroutine") = false ∧ Tryz.f30.body.isNone = false := ⟨by kernel_rfl, rfl⟩
theorem fok31 : (Tryz.f31.name == "runtime.NumGoroutine") = false ∧ Tryz.f31.body.isNone = false := ⟨by kernel_rfl, rfl⟩
theorem fok32 : (Tryz.f32.name == "runtime.NumGoroutine") = false ∧ Tryz.f32.body.isNone = false := ⟨by kernel_rfl, rfl⟩
theorem fok33 : (Tryz.f33.name == "runtime.NumGoroutine") = false ∧ Tryz.f33.body.isNone = false := ⟨by kernel_rfl, rfl⟩
theorem fok34 : (Tryz.f34.name == "runtime.NumGoroutine") = false ∧ Tryz.f34.body.isNone = false := ⟨by kernel_rfl, rfl⟩
theorem fok35 : (Tryz.f35.name == "runtime.NumGoroutine") = false ∧ Tryz.f35.body.isNone = false := ⟨by kernel_rfl, rfl⟩
theorem fok36 : (Tryz.f36.name == "runtime.NumGoroutine") = false ∧ Tryz.f36.body.isNone = false := ⟨by kernel_rfl, rfl⟩
theorem fok37 : (Tryz.f37.name == "runtime.NumGoroutine") = false ∧ Tryz.f37.body.isNone = false := ⟨by kernel_rfl, rfl⟩
theorem fok38 : (Tryz.f38.name == "runtime.NumGoroutine") = false ∧ Tryz.f38.body.isNone = false := ⟨by kernel_rfl, rfl⟩
theorem fok39 : (Tryz.f39.name == "runtime.NumGoroutine") = false ∧ Tryz.f39.body.isNone = false := ⟨by kernel_rfl, rfl⟩
theorem fok40 : (Tryz.f40.name == "runtime.NumGoroutine") = false ∧ Tryz.f40.body.isNone = false := ⟨by kernel_rfl, rfl⟩
theorem fok41 : (Tryz.f41.name == "runtime.NumGoroutine") = false ∧ Tryz.f41.body.isNone = false := ⟨by kernel_rfl, rfl⟩
theorem fok42 : (Tryz.f42.name == "runtime.NumGoroutine") = false ∧ Tryz.f42.body.isNone = false := ⟨by kernel_rfl, rfl⟩
theorem fok43 : (Tryz.f43.name == "runtime.NumGoroutine") = false ∧ Tryz.f43.body.isNone = false := ⟨by kernel_rfl, rfl⟩
theorem fok44 : (Tryz.f44.name == "runtime.NumGoroutine") = false ∧ Tryz.f44.body.isNone = false := ⟨by kernel_rfl, rfl⟩
theorem fok45 : (Tryz.f45.name == "runtime.NumGoroutine") = false ∧ Tryz.f45.body.isNone = false := ⟨by kernel_rfl, rfl⟩
theorem fok46 : (Tryz.f46.name == "runtime.NumGoroutine") = false ∧ Tryz.f46.body.isNone = false := ⟨by kernel_rfl, rfl⟩
theorem fok47 : (Tryz.f47.name == "runtime.NumGoroutine") = false ∧ Tryz.f47.body.isNone = false := ⟨by kernel_rfl, rfl⟩
theorem fok48 : (Tryz.f48.name == "runtime.NumGoroutine") = false ∧ Tryz.f48.body.isNone = false := ⟨by kernel_rfl, rfl⟩
theorem fok49 : (Tryz.f49.name == "runtime.NumGoroutine") = false ∧ Tryz.f49.body.isNone = false := ⟨by kernel_rfl, rfl⟩
theorem fok50 : (Tryz.f50.name == "runtime.NumGoroutine") = false ∧ Tryz.f50.body.isNone = false := ⟨by kernel_rfl, rfl⟩
theorem fok51 : (Tryz.f51.name == "runtime.NumGoroutine") = false ∧ Tryz.f51.body.isNone = false := ⟨by kernel_rfl, rfl⟩
theorem fok52 : (Tryz.f52.name == "runtime.NumGoroutine") = false ∧ Tryz.f52.body.isNone = false := ⟨by kernel_rfl, rfl⟩
theorem fok53 : (Tryz.f53.name == "runtime.NumGoroutine") = false ∧ Tryz.f53.body.isNone = false := ⟨by kernel_rfl, rfl⟩
theorem fok54 : (Tryz.f54.name == "runtime.NumGoroutine") = false ∧ Tryz.f54.body.isNone = false := ⟨by kernel_rfl, rfl⟩
theorem fok55 : (Tryz.f55.name == "runtime.NumGoroutine") = false ∧ Tryz.f55.body.isNone = false := ⟨by kernel_rfl, rfl⟩
theorem fok56 : (Tryz.f56.name == "runtime.NumGoroutine") = false ∧ Tryz.f56.body.isNone = false := ⟨by kernel_rfl, rfl⟩
theorem fok57 : (Tryz.f57.name == "runtime.NumGoroutine") = false ∧ Tryz.f57.body.isNone = false := ⟨by kernel_rfl, rfl⟩
theorem fok58 : (Tryz.f58.name == "runtime.NumGoroutine") = false ∧ Tryz.f58.body.isNone = false := ⟨by kernel_rfl, rfl⟩
theorem fok59 : (Tryz.f59.name == "runtime.NumGoroutine") = false ∧ Tryz.f59.body.isNone = false := ⟨by kernel_rfl, rfl⟩
theorem fok60 : (Tryz.f60.name == "runtime.NumGoroutine") = false ∧ Tryz.f60.body.isNone = false := ⟨by kernel_rfl, rfl⟩
theorem fok61 : (Tryz.f61.name == "runtime.NumGoroutine") = false ∧ Tryz.f61.body.isNone = false := ⟨by kernel_rfl, rfl⟩
theorem fok62 : (Tryz.f62.name == "runtime.NumGoroutine") = false ∧ Tryz.f62.body.isNone = false := ⟨by kernel_rfl, rfl⟩
theorem fok63 : (Tryz.f63.name == "runtime.NumGoroutine") = false ∧ Tryz.f63.body.isNone = false := ⟨by kernel_rfl, rfl⟩
theorem fok64 : (Tryz.f64.name == "runtime.NumGoroutine") = false ∧ Tryz.f64.body.isNone = false := ⟨by kernel_rfl, rfl⟩
theorem fok65 : (Tryz.f65.name == "runtime.NumGoroutine") = false ∧ Tryz.f65.body.isNone = false := ⟨by kernel_rfl, rfl⟩
theorem fok66 : (Tryz.f66.name == "runtime.NumGoroutine") = false ∧ Tryz.f66.body.isNone = false := ⟨by kernel_rfl, rfl⟩
theorem fok67 : (Tryz.f67.name == "runtime.NumGoroutine") = false ∧ Tryz.f67.body.isNone = false := ⟨by kernel_rfl, rfl⟩
theorem fok68 : (Tryz.f68.name == "runtime.NumGoroutine") = false ∧ Tryz.f68.body.isNone = false := ⟨by kernel_rfl, rfl⟩
theorem fok69 : (Tryz.f69.name == "runtime.NumGoroutine") = false ∧ Tryz.f69.body.isNone = false := ⟨by kernel_rfl, rfl⟩
theorem fok70 : (Tryz.f70.name == "runtime.NumGoroutine") = false ∧ Tryz.f70.body.isNone = false := ⟨by kernel_rfl, rfl⟩
theorem fok71 : (Tryz.f71.name == "runtime.NumGoroutine") = false ∧ Tryz.f71.body.isNone = false := ⟨by kernel_rfl, rfl⟩
theorem fok72 : (Tryz.f72.name == "runtime.NumGoroutine") = false ∧ Tryz.f72.body.isNone = false := ⟨by kernel_rfl, rfl⟩
theorem fok73 : (Tryz.f73.name == "runtime.NumGoroutine") = false ∧ Tryz.f73.body.isNone = false := ⟨by kernel_rfl, rfl⟩
theorem fok74 : (Tryz.f74.name == "runtime.NumGoroutine") = false ∧ Tryz.f74.body.isNone = false := ⟨by kernel_rfl, rfl⟩
theorem fok75 : (Tryz.f75.name == "runtime.NumGoroutine") = false ∧ Tryz.f75.body.isNone = false := ⟨by kernel_rfl, rfl⟩
theorem fok76 : (Tryz.f76.name == "runtime.NumGoroutine") = false ∧ Tryz.f76.body.isNone = false := ⟨by kernel_rfl, rfl⟩
theorem fok77 : (Tryz.f77.name == "runtime.NumGoroutine") = false ∧ Tryz.f77.body.isNone = false := ⟨by kernel_rfl, rfl⟩
theorem fok78 : (Tryz.f78.name == "runtime.NumGoroutine") = false ∧ Tryz.f78.body.isNone = false := ⟨by kernel_rfl, rfl⟩
theorem fok79 : (Tryz.f79.name == "runtime.NumGoroutine") = false ∧ Tryz.f79.body.isNone = false := ⟨by kernel_rfl, rfl⟩
theorem fok80 : (Tryz.f80.name == "runtime.NumGoroutine") = false ∧ Tryz.f80.body.isNone = false := ⟨by kernel_rfl, rfl⟩
theorem fok81 : (Tryz.f81.name == "runtime.NumGoroutine") = false ∧ Tryz.f81.body.isNone = false := ⟨by kernel_rfl, rfl⟩
theorem fok82 : (Tryz.f82.name == "runtime.NumGoroutine") = false ∧ Tryz.f82.body.isNone = false := ⟨by kernel_rfl, rfl⟩
theorem fok83 : (Tryz.f83.name == "runtime.NumGoroutine") = false ∧ Tryz.f83.body.isNone = false := ⟨by kernel_rfl, rfl⟩
theorem fok84 : (Tryz.f84.name == "runtime.NumGoroutine") = false ∧ Tryz.f84.body.isNone = false := ⟨by kernel_rfl, rfl⟩
theorem fok85 : (Tryz.f85.name == "runtime.NumGoroutine") = false ∧ Tryz.f85.body.isNone = false := ⟨by kernel_rfl, rfl⟩
theorem fok86 : (Tryz.f86.name == "runtime.NumGoroutine") = false ∧ Tryz.f86.body.isNone = false := ⟨by kernel_rfl, rfl⟩
theorem fok87 : (Tryz.f87.name == "runtime.NumGoroutine") = false ∧ Tryz.f87.body.isNone = false := ⟨by kernel_rfl, rfl⟩
theorem fok88 : (Tryz.f88.name == "runtime.NumGoroutine") = false ∧ Tryz.f88.body.isNone = false := ⟨by kernel_rfl, rfl⟩
theorem fok89 : (Tryz.f89.name == "runtime.NumGoroutine") = false ∧ Tryz.f89.body.isNone = false := ⟨by kernel_rfl, rfl⟩
theorem fok90 : (Tryz.f90.name == "runtime.NumGoroutine") = false ∧ Tryz.f90.body.isNone = false := ⟨by kernel_rfl, rfl⟩
theorem fok91 : (Tryz.f91.name == "runtime.NumGoroutine") = false ∧ Tryz.f91.body.isNone = false := ⟨by kernel_rfl, rfl⟩
theorem fok92 : (Tryz.f92.name == "runtime.NumGoroutine") = false ∧ Tryz.f92.body.isNone = false := ⟨by kernel_rfl, rfl⟩
theorem fok93 : (Tryz.f93.name == "runtime.NumGoroutine") = false ∧ Tryz.f93.body.isNone = false := ⟨by kernel_rfl, rfl⟩
theorem fok94 : (Tryz.f94.name == "runtime.NumGoroutine") = false ∧ Tryz.f94.body.isNone = false := ⟨by kernel_rfl, rfl⟩
theorem fok95 : (Tryz.f95.name == "runtime.NumGoroutine") = false ∧ Tryz.f95.body.isNone = false := ⟨by kernel_rfl, rfl⟩
theorem fok96 : (Tryz.f96.name == "runtime.NumGoroutine") = false ∧ Tryz.f96.body.isNone = false := ⟨by kernel_rfl, rfl⟩
theorem fok97 : (Tryz.f97.name == "runtime.NumGoroutine") = false ∧ Tryz.f97.body.isNone = false := ⟨by kernel_rfl, rfl⟩
theorem fok98 : (Tryz.f98.name == "runtime.NumGoroutine") = false ∧ Tryz.f98.body.isNone = false := ⟨by kernel_rfl, rfl⟩
theorem fok99 : (Tryz.f99.name == "runtime.NumGoroutine") = false ∧ Tryz.f99.body.isNone = false := ⟨by kernel_rfl, rfl⟩
theorem fok100 : (Tryz.f100.name == "runtime.NumGoroutine") = false ∧ Tryz.f100.body.isNone = false := ⟨by kernel_rfl, rfl⟩
theorem fok101 : (Tryz.f101.name == "runtime.NumGoroutine") = false ∧ Tryz.f101.body.isNone = false := ⟨by kernel_rfl, rfl⟩
theorem fok102 : (Tryz.f102.name == "runtime.NumGoroutine") = false ∧ Tryz.f102.body.isNone = false := ⟨by kernel_rfl, rfl⟩
theorem fok103 : (Tryz.f103.name == "runtime.NumGoroutine") = false ∧ Tryz.f103.body.isNone = false := ⟨by kernel_rfl, rfl⟩
theorem fok104 : (Tryz.f104.name == "runtime.NumGoroutine") = false ∧ Tryz.f104.body.isNone = false := ⟨by kernel_rfl, rfl⟩
theorem fok105 : (Tryz.f105.name == "runtime.NumGoroutine") = false ∧ Tryz.f105.body.isNone = false := ⟨by kernel_rfl, rfl⟩
theorem fok106 : (Tryz.f106.name == "runtime.NumGoroutine") = false ∧ Tryz.f106.body.isNone = false := ⟨by kernel_rfl, rfl⟩
theorem fok107 : (Tryz.f107.name == "runtime.NumGoroutine") = false ∧ Tryz.f107.body.isNone = false := ⟨by kernel_rfl, rfl⟩
theorem fok108 : (Tryz.f108.name == "runtime.NumGoroutine") = false ∧ Tryz.f108.body.isNone = false := ⟨by kernel_rfl, rfl⟩
theorem fok109 : (Tryz.f109.name == "runtime.NumGoroutine") = false ∧ Tryz.f109.body.isNone = false := ⟨by kernel_rfl, rfl⟩
theorem fok110 : (Tryz.f110.name == "runtime.NumGoroutine") = false ∧ Tryz.f110.body.isNone = false := ⟨by kernel_rfl, rfl⟩
theorem fok111 : (Tryz.f111.name == "runtime.NumGoroutine") = false ∧ Tryz.f111.body.isNone = false := ⟨by kernel_rfl, rfl⟩
theorem fok112 : (Tryz.f112.name == "runtime.NumGoroutine") = false ∧ Tryz.f112.body.isNone = false := ⟨by kernel_rfl, rfl⟩
theorem fok113 : (Tryz.f113.name == "runtime.NumGoroutine") = false ∧ Tryz.f113.body.isNone = false := ⟨by kernel_rfl, rfl⟩
theorem fok114 : (Tryz.f114.name == "runtime.NumGoroutine") = false ∧ Tryz.f114.body.isNone = false := ⟨by kernel_rfl, rfl⟩
theorem fok115 : (Tryz.f115.name == "runtime.NumGoroutine") = false ∧ Tryz.f115.body.isNone = false := ⟨by kernel_rfl, rfl⟩
theorem fok116 : (Tryz.f116.name == "runtime.NumGoroutine") = false ∧ Tryz.f116.body.isNone = false := ⟨by kernel_rfl, rfl⟩
theorem fok117 : (Tryz.f117.name == "runtime.NumGoroutine") = false ∧ Tryz.f117.body.isNone = false := ⟨by kernel_rfl, rfl⟩
theorem fok118 : (Tryz.f118.name == "runtime.NumGoroutine") = false ∧ Tryz.f118.body.isNone = false := ⟨by kernel_rfl, rfl⟩
theorem fok119 : (Tryz.f119.name == "runtime.NumGoroutine") = false ∧ Tryz.f119.body.isNone = false := ⟨by kernel_rfl, rfl⟩
theorem fok121 : (Tryz.f121.name == "runtime.NumGoroutine") = false ∧ Tryz.f121.body.isNone = false := ⟨by kernel_rfl, rfl⟩
theorem fok122 : (Tryz.f122.name == "runtime.NumGoroutine") = false ∧ Tryz.f122.body.isNone = false := ⟨by kernel_rfl, rfl⟩
theorem fok128 : (Tryz.f128.name == "runtime.NumGoroutine") = false ∧ Tryz.f128.body.isNone = false := ⟨by kernel_rfl, rfl⟩
theorem fok132 : (Tryz.f132.name == "runtime.NumGoroutine") = false ∧ Tryz.f132.body.isNone = false := ⟨by kernel_rfl, rfl⟩
theorem fok138 : (Tryz.f138.name == "runtime.NumGoroutine") = false ∧ Tryz.f138.body.isNone = false := ⟨by kernel_rfl, rfl⟩
theorem mixed : Tryz.prog.follows .mixedOrders = true := by kernel_rfl
end Go.Proofs.YtdfiglhdjlmakaaGreat
