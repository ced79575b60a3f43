/-
  What the translation says of its types and functions.
-/
import Derived.Test.YtdafmbaeiefacaaProg
import Derived.Test.YtdafmbaeiefacaaAlM
set_option linter.unusedVariables false
set_option linter.unusedSimpArgs false
namespace Go.Proofs.Ytdafmbaeiefacaa
open Go.RowKit
theorem ag122 : agB Try.prog 122 5 = true := by kernel_rfl
theorem ag24 : agB Try.prog 24 2 = true := by kernel_rfl
theorem ag28 : agB Try.prog 28 2 = true := by kernel_rfl
theorem ag58 : agB Try.prog 58 5 = true := by kernel_rfl
theorem ag63 : agB Try.prog 63 2 = true := by kernel_rfl
theorem ag68 : agB Try.prog 68 2 = true := by kernel_rfl
theorem ag93 : agB Try.prog 93 4 = true := by kernel_rfl
theorem fl122_0 : ∀ (ad : Addr) (w : World), (Instr.fieldAt 122 (.pointer (some ad)) 0).run Try.prog w = .ok (.pointer (some (ad.add 0))) w := fun _ _ => by kernel_rfl
theorem fl122_1 : ∀ (ad : Addr) (w : World), (Instr.fieldAt 122 (.pointer (some ad)) 1).run Try.prog w = .ok (.pointer (some (ad.add 1))) w := fun _ _ => by kernel_rfl
theorem fl122_2 : ∀ (ad : Addr) (w : World), (Instr.fieldAt 122 (.pointer (some ad)) 2).run Try.prog w = .ok (.pointer (some (ad.add 2))) w := fun _ _ => by kernel_rfl
theorem fl122_3 : ∀ (ad : Addr) (w : World), (Instr.fieldAt 122 (.pointer (some ad)) 3).run Try.prog w = .ok (.pointer (some (ad.add 3))) w := fun _ _ => by kernel_rfl
theorem fl122_4 : ∀ (ad : Addr) (w : World), (Instr.fieldAt 122 (.pointer (some ad)) 4).run Try.prog w = .ok (.pointer (some (ad.add 4))) w := fun _ _ => by kernel_rfl
theorem fl24_0 : ∀ (ad : Addr) (w : World), (Instr.fieldAt 24 (.pointer (some ad)) 0).run Try.prog w = .ok (.pointer (some (ad.add 0))) w := fun _ _ => by kernel_rfl
theorem fl24_1 : ∀ (ad : Addr) (w : World), (Instr.fieldAt 24 (.pointer (some ad)) 1).run Try.prog w = .ok (.pointer (some (ad.add 1))) w := fun _ _ => by kernel_rfl
theorem fl28_0 : ∀ (ad : Addr) (w : World), (Instr.fieldAt 28 (.pointer (some ad)) 0).run Try.prog w = .ok (.pointer (some (ad.add 0))) w := fun _ _ => by kernel_rfl
theorem fl28_1 : ∀ (ad : Addr) (w : World), (Instr.fieldAt 28 (.pointer (some ad)) 1).run Try.prog w = .ok (.pointer (some (ad.add 1))) w := fun _ _ => by kernel_rfl
theorem fl58_0 : ∀ (ad : Addr) (w : World), (Instr.fieldAt 58 (.pointer (some ad)) 0).run Try.prog w = .ok (.pointer (some (ad.add 0))) w := fun _ _ => by kernel_rfl
theorem fl58_1 : ∀ (ad : Addr) (w : World), (Instr.fieldAt 58 (.pointer (some ad)) 1).run Try.prog w = .ok (.pointer (some (ad.add 1))) w := fun _ _ => by kernel_rfl
theorem fl58_2 : ∀ (ad : Addr) (w : World), (Instr.fieldAt 58 (.pointer (some ad)) 2).run Try.prog w = .ok (.pointer (some (ad.add 2))) w := fun _ _ => by kernel_rfl
theorem fl58_3 : ∀ (ad : Addr) (w : World), (Instr.fieldAt 58 (.pointer (some ad)) 3).run Try.prog w = .ok (.pointer (some (ad.add 3))) w := fun _ _ => by kernel_rfl
theorem fl58_4 : ∀ (ad : Addr) (w : World), (Instr.fieldAt 58 (.pointer (some ad)) 4).run Try.prog w = .ok (.pointer (some (ad.add 4))) w := fun _ _ => by kernel_rfl
theorem fl63_0 : ∀ (ad : Addr) (w : World), (Instr.fieldAt 63 (.pointer (some ad)) 0).run Try.prog w = .ok (.pointer (some (ad.add 0))) w := fun _ _ => by kernel_rfl
theorem fl63_1 : ∀ (ad : Addr) (w : World), (Instr.fieldAt 63 (.pointer (some ad)) 1).run Try.prog w = .ok (.pointer (some (ad.add 1))) w := fun _ _ => by kernel_rfl
theorem fl68_0 : ∀ (ad : Addr) (w : World), (Instr.fieldAt 68 (.pointer (some ad)) 0).run Try.prog w = .ok (.pointer (some (ad.add 0))) w := fun _ _ => by kernel_rfl
theorem fl68_1 : ∀ (ad : Addr) (w : World), (Instr.fieldAt 68 (.pointer (some ad)) 1).run Try.prog w = .ok (.pointer (some (ad.add 1))) w := fun _ _ => by kernel_rfl
theorem inf2 : (Try.prog.info? 2).map (fun i => (i.zero, i.size, i.bytes)) = some (some (.int .i64 0), 1, 8) := by kernel_rfl
theorem inf4 : (Try.prog.info? 4).map (fun i => (i.zero, i.size, i.bytes)) = some (some (.bool false), 1, 1) := by kernel_rfl
theorem inf43 : (Try.prog.info? 43).map (fun i => (i.zero, i.size, i.bytes)) = some (some (.slice none 0 0), 1, 24) := by kernel_rfl
theorem inf58 : (Try.prog.info? 58).map (fun i => (i.zero, i.size, i.bytes)) = some (some (.agg #[.int .i64 0, .int .i64 0, .int .i64 0, .int .i64 0, .int .i64 0]), 5, 40) := by kernel_rfl
theorem inf68 : (Try.prog.info? 68).map (fun i => (i.zero, i.size, i.bytes)) = some (some (.agg #[.int .i64 0, .int .i64 0]), 2, 16) := by kernel_rfl
theorem na138 : naB Try.prog 138 = true := by kernel_rfl
theorem na2 : naB Try.prog 2 = true := by kernel_rfl
theorem na22 : naB Try.prog 22 = true := by kernel_rfl
theorem na26 : naB Try.prog 26 = true := by kernel_rfl
theorem na4 : naB Try.prog 4 = true := by kernel_rfl
theorem na43 : naB Try.prog 43 = true := by kernel_rfl
theorem na61 : naB Try.prog 61 = true := by kernel_rfl
theorem sz122 : (Try.prog.info? 122).map (·.size) = some 5 := by kernel_rfl
theorem sz2 : (Try.prog.info? 2).map (·.size) = some 1 := by kernel_rfl
theorem sz4 : (Try.prog.info? 4).map (·.size) = some 1 := by kernel_rfl
theorem sz43 : (Try.prog.info? 43).map (·.size) = some 1 := by kernel_rfl
theorem sz58 : (Try.prog.info? 58).map (·.size) = some 5 := by kernel_rfl
theorem sz68 : (Try.prog.info? 68).map (·.size) = some 2 := by kernel_rfl
theorem zr138 : (Try.prog.info? 138).map (·.zero) = some (some (.nilFunc)) := by kernel_rfl
theorem zr2 : (Try.prog.info? 2).map (·.zero) = some (some (.int .i64 0)) := by kernel_rfl
theorem zr28 : (Try.prog.info? 28).map (·.zero) = some (some (.agg #[.slice none 0 0, .int .i64 0])) := by kernel_rfl
theorem zr58 : (Try.prog.info? 58).map (·.zero) = some (some (.agg #[.int .i64 0, .int .i64 0, .int .i64 0, .int .i64 0, .int .i64 0])) := by kernel_rfl
theorem zr63 : (Try.prog.info? 63).map (·.zero) = some (some (.agg #[.slice none 0 0, .slice none 0 0])) := by kernel_rfl
theorem zr68 : (Try.prog.info? 68).map (·.zero) = some (some (.agg #[.int .i64 0, .int .i64 0])) := by kernel_rfl
theorem zr93 : (Try.prog.info? 93).map (·.zero) = some (some (.agg #[.int .i64 0, .int .i64 0, .int .i64 0, .int .i64 0])) := by kernel_rfl
theorem fok12 : (Try.f12.name == "runtime.NumGoroutine") = false ∧ Try.f12.body.isNone = false := ⟨by kernel_rfl, rfl⟩
theorem fok14 : (Try.f14.name == "runtime.NumGoroutine") = false ∧ Try.f14.body.isNone = false := ⟨by kernel_rfl, rfl⟩
theorem fok16 : (Try.f16.name == "runtime.NumGoroutine") = false ∧ Try.f16.body.isNone = false := ⟨by kernel_rfl, rfl⟩
theorem fok17 : (Try.f17.name == "runtime.NumGoroutine") = false ∧ Try.f17.body.isNone = false := ⟨by kernel_rfl, rfl⟩
theorem fok18 : (Try.f18.name == "runtime.NumGoroutine") = false ∧ Try.f18.body.isNone = false := ⟨by kernel_rfl, rfl⟩
theorem fok31 : (Try.f31.name == "runtime.NumGoroutine") = false ∧ Try.f31.body.isNone = false := ⟨by kernel_rfl, rfl⟩
theorem fok32 : (Try.f32.name == "runtime.NumGoroutine") = false ∧ Try.f32.body.isNone = false := ⟨by kernel_rfl, rfl⟩
theorem fok39 : (Try.f39.name == "runtime.NumGoroutine") = false ∧ Try.f39.body.isNone = false := ⟨by kernel_rfl, rfl⟩
theorem fok40 : (Try.f40.name == "runtime.NumGoroutine") = false ∧ Try.f40.body.isNone = false := ⟨by kernel_rfl, rfl⟩
theorem fok41 : (Try.f41.name == "runtime.NumGoroutine") = false ∧ Try.f41.body.isNone = false := ⟨by kernel_rfl, rfl⟩
theorem fok42 : (Try.f42.name == "runtime.NumGoroutine") = false ∧ Try.f42.body.isNone = false := ⟨by kernel_rfl, rfl⟩
theorem fok44 : (Try.f44.name == "runtime.NumGoroutine") = false ∧ Try.f44.body.isNone = false := ⟨by kernel_rfl, rfl⟩
theorem fok45 : (Try.f45.name == "runtime.NumGoroutine") = false ∧ Try.f45.body.isNone = false := ⟨by kernel_rfl, rfl⟩
theorem fok46 : (Try.f46.name == "runtime.NumGoroutine") = false ∧ Try.f46.body.isNone = false := ⟨by kernel_rfl, rfl⟩
theorem fok47 : (Try.f47.name == "runtime.NumGoroutine") = false ∧ Try.f47.body.isNone = false := ⟨by kernel_rfl, rfl⟩
theorem fok48 : (Try.f48.name == "runtime.NumGoroutine") = false ∧ Try.f48.body.isNone = false := ⟨by kernel_rfl, rfl⟩
theorem fok49 : (Try.f49.name == "runtime.NumGoroutine") = false ∧ Try.f49.body.isNone = false := ⟨by kernel_rfl, rfl⟩
theorem fok50 : (Try.f50.name == "runtime.NumGoroutine") = false ∧ Try.f50.body.isNone = false := ⟨by kernel_rfl, rfl⟩
theorem fok51 : (Try.f51.name == "runtime.NumGoroutine") = false ∧ Try.f51.body.isNone = false := ⟨by kernel_rfl, rfl⟩
theorem fok52 : (Try.f52.name == "runtime.NumGoroutine") = false ∧ Try.f52.body.isNone = false := ⟨by kernel_rfl, rfl⟩
theorem fok53 : (Try.f53.name == "runtime.NumGoroutine") = false ∧ Try.f53.body.isNone = false := ⟨by kernel_rfl, rfl⟩
theorem fok56 : (Try.f56.name == "runtime.NumGoroutine") = false ∧ Try.f56.body.isNone = false := ⟨by kernel_rfl, rfl⟩
theorem fok58 : (Try.f58.name == "runtime.NumGoroutine") = false ∧ Try.f58.body.isNone = false := ⟨by kernel_rfl, rfl⟩
theorem fok64 : (Try.f64.name == "runtime.NumGoroutine") = false ∧ Try.f64.body.isNone = false := ⟨by kernel_rfl, rfl⟩
theorem fok66 : (Try.f66.name == "runtime.NumGoroutine") = false ∧ Try.f66.body.isNone = false := ⟨by kernel_rfl, rfl⟩
theorem fok68 : (Try.f68.name == "runtime.NumGoroutine") = false ∧ Try.f68.body.isNone = false := ⟨by kernel_rfl, rfl⟩
theorem fok75 : (Try.f75.name == "runtime.NumGoroutine") = false ∧ Try.f75.body.isNone = false := ⟨by kernel_rfl, rfl⟩
theorem fok79 : (Try.f79.name == "runtime.NumGoroutine") = false ∧ Try.f79.body.isNone = false := ⟨by kernel_rfl, rfl⟩
theorem fok80 : (Try.f80.name == "runtime.NumGoroutine") = false ∧ Try.f80.body.isNone = false := ⟨by kernel_rfl, rfl⟩
theorem fok82 : (Try.f82.name == "runtime.NumGoroutine") = false ∧ Try.f82.body.isNone = false := ⟨by kernel_rfl, rfl⟩
theorem fok84 : (Try.f84.name == "runtime.NumGoroutine") = false ∧ Try.f84.body.isNone = false := ⟨by kernel_rfl, rfl⟩
theorem fok85 : (Try.f85.name == "runtime.NumGoroutine") = false ∧ Try.f85.body.isNone = false := ⟨by kernel_rfl, rfl⟩
theorem fok90 : (Try.f90.name == "runtime.NumGoroutine") = false ∧ Try.f90.body.isNone = false := ⟨by kernel_rfl, rfl⟩
theorem fok103 : (Try.f103.name == "runtime.NumGoroutine") = false ∧ Try.f103.body.isNone = false := ⟨by kernel_rfl, rfl⟩
theorem fok104 : (Try.f104.name == "runtime.NumGoroutine") = false ∧ Try.f104.body.isNone = false := ⟨by kernel_rfl, rfl⟩
theorem fok105 : (Try.f105.name == "runtime.NumGoroutine") = false ∧ Try.f105.body.isNone = false := ⟨by kernel_rfl, rfl⟩
theorem fok106 : (Try.f106.name == "runtime.NumGoroutine") = false ∧ Try.f106.body.isNone = false := ⟨by kernel_rfl, rfl⟩
theorem fok107 : (Try.f107.name == "runtime.NumGoroutine") = false ∧ Try.f107.body.isNone = false := ⟨by kernel_rfl, rfl⟩
theorem fok108 : (Try.f108.name == "runtime.NumGoroutine") = false ∧ Try.f108.body.isNone = false := ⟨by kernel_rfl, rfl⟩
theorem fok109 : (Try.f109.name == "runtime.NumGoroutine") = false ∧ Try.f109.body.isNone = false := ⟨by kernel_rfl, rfl⟩
theorem fok110 : (Try.f110.name == "runtime.NumGoroutine") = false ∧ Try.f110.body.isNone = false := ⟨by kernel_rfl, rfl⟩
theorem fok111 : (Try.f111.name == "runtime.NumGoroutine") = false ∧ Try.f111.body.isNone = false := ⟨by kernel_rfl, rfl⟩
theorem fok112 : (Try.f112.name == "runtime.NumGoroutine") = false ∧ Try.f112.body.isNone = false := ⟨by kernel_rfl, rfl⟩
theorem fok113 : (Try.f113.name == "runtime.NumGoroutine") = false ∧ Try.f113.body.isNone = false := ⟨by kernel_rfl, rfl⟩
theorem fok114 : (Try.f114.name == "runtime.NumGoroutine") = false ∧ Try.f114.body.isNone = false := ⟨by kernel_rfl, rfl⟩
theorem fok116 : (Try.f116.name == "runtime.NumGoroutine") = false ∧ Try.f116.body.isNone = false := ⟨by kernel_rfl, rfl⟩
theorem fok117 : (Try.f117.name == "runtime.NumGoroutine") = false ∧ Try.f117.body.isNone = false := ⟨by kernel_rfl, rfl⟩
theorem fok118 : (Try.f118.name == "runtime.NumGoroutine") = false ∧ Try.f118.body.isNone = false := ⟨by kernel_rfl, rfl⟩
theorem fok119 : (Try.f119.name == "runtime.NumGoroutine") = false ∧ Try.f119.body.isNone = false := ⟨by kernel_rfl, rfl⟩
theorem fok127 : (Try.f127.name == "runtime.NumGoroutine") = false ∧ Try.f127.body.isNone = false := ⟨by kernel_rfl, rfl⟩
theorem fok130 : (Try.f130.name == "runtime.NumGoroutine") = false ∧ Try.f130.body.isNone = false := ⟨by kernel_rfl, rfl⟩
theorem fok131 : (Try.f131.name == "runtime.NumGoroutine") = false ∧ Try.f131.body.isNone = false := ⟨by kernel_rfl, rfl⟩
theorem fok132 : (Try.f132.name == "runtime.NumGoroutine") = false ∧ Try.f132.body.isNone = false := ⟨by kernel_rfl, rfl⟩
theorem fok133 : (Try.f133.name == "runtime.NumGoroutine") = false ∧ Try.f133.body.isNone = false := ⟨by kernel_rfl, rfl⟩
theorem fok134 : (Try.f134.name == "runtime.NumGoroutine") = false ∧ Try.f134.body.isNone = false := ⟨by kernel_rfl, rfl⟩
theorem fok135 : (Try.f135.name == "runtime.NumGoroutine") = false ∧ Try.f135.body.isNone = false := ⟨by kernel_rfl, rfl⟩
theorem fok136 : (Try.f136.name == "runtime.NumGoroutine") = false ∧ Try.f136.body.isNone = false := ⟨by kernel_rfl, rfl⟩
theorem fok141 : (Try.f141.name == "runtime.NumGoroutine") = false ∧ Try.f141.body.isNone = false := ⟨by kernel_rfl, rfl⟩
theorem fok142 : (Try.f142.name == "runtime.NumGoroutine") = false ∧ Try.f142.body.isNone = false := ⟨by kernel_rfl, rfl⟩
theorem fok143 : (Try.f143.name == "runtime.NumGoroutine") = false ∧ Try.f143.body.isNone = false := ⟨by kernel_rfl, rfl⟩
theorem fok144 : (Try.f144.name == "runtime.NumGoroutine") = false ∧ Try.f144.body.isNone = false := ⟨by kernel_rfl, rfl⟩
theorem fok153 : (Try.f153.name == "runtime.NumGoroutine") = false ∧ Try.f153.body.isNone = false := ⟨by kernel_rfl, rfl⟩
theorem fok154 : (Try.f154.name == "runtime.NumGoroutine") = false ∧ Try.f154.body.isNone = false := ⟨by kernel_rfl, rfl⟩
theorem fok160 : (Try.f160.name == "runtime.NumGoroutine") = false ∧ Try.f160.body.isNone = false := ⟨by kernel_rfl, rfl⟩
theorem fok161 : (Try.f161.name == "runtime.NumGoroutine") = false ∧ Try.f161.body.isNone = false := ⟨by kernel_rfl, rfl⟩
theorem fok162 : (Try.f162.name == "runtime.NumGoroutine") = false ∧ Try.f162.body.isNone = false := ⟨by kernel_rfl, rfl⟩
theorem fok164 : (Try.f164.name == "runtime.NumGoroutine") = false ∧ Try.f164.body.isNone = false := ⟨by kernel_rfl, rfl⟩
theorem fok165 : (Try.f165.name == "runtime.NumGoroutine") = false ∧ Try.f165.body.isNone = false := ⟨by kernel_rfl, rfl⟩
theorem fok175 : (Try.f175.name == "runtime.NumGoroutine") = false ∧ Try.f175.body.isNone = false := ⟨by kernel_rfl, rfl⟩
theorem fok176 : (Try.f176.name == "runtime.NumGoroutine") = false ∧ Try.f176.body.isNone = false := ⟨by kernel_rfl, rfl⟩
theorem fok179 : (Try.f179.name == "runtime.NumGoroutine") = false ∧ Try.f179.body.isNone = false := ⟨by kernel_rfl, rfl⟩
theorem fok182 : (Try.f182.name == "runtime.NumGoroutine") = false ∧ Try.f182.body.isNone = false := ⟨by kernel_rfl, rfl⟩
theorem fok188 : (Try.f188.name == "runtime.NumGoroutine") = false ∧ Try.f188.body.isNone = false := ⟨by kernel_rfl, rfl⟩
theorem fok192 : (Try.f192.name == "runtime.NumGoroutine") = false ∧ Try.f192.body.isNone = false := ⟨by kernel_rfl, rfl⟩
theorem fok198 : (Try.f198.name == "runtime.NumGoroutine") = false ∧ Try.f198.body.isNone = false := ⟨by kernel_rfl, rfl⟩
theorem mixed : Try.prog.follows .mixedOrders = true := by kernel_rfl
end Go.Proofs.Ytdafmbaeiefacaa
