/-
  What the translation says of its types and functions.
-/
import Derived.Test.YtgkcddpgmmmblaaGreatDoorProg
import Derived.Test.YtgkcddpgmmmblaaGreatDoorAlM
set_option linter.unusedVariables false
set_option linter.unusedSimpArgs false
namespace Go.Proofs.YtgkcddpgmmmblaaGreatDoor
open Go.RowKit
theorem ag166 : agB Tryz.prog 166 2 = true := by kernel_rfl
theorem ag176 : agB Tryz.prog 176 3 = true := by kernel_rfl
theorem ag181 : agB Tryz.prog 181 4 = true := by kernel_rfl
theorem ag203 : agB Tryz.prog 203 5 = true := by kernel_rfl
theorem ag225 : agB Tryz.prog 225 5 = true := by kernel_rfl
theorem ag227 : agB Tryz.prog 227 3 = true := by kernel_rfl
theorem ag235 : agB Tryz.prog 235 2 = true := by kernel_rfl
theorem ag24 : agB Tryz.prog 24 1 = true := by kernel_rfl
theorem ag251 : agB Tryz.prog 251 4 = true := by kernel_rfl
theorem ag265 : agB Tryz.prog 265 2 = true := by kernel_rfl
theorem ag27 : agB Tryz.prog 27 2 = true := by kernel_rfl
theorem ag294 : agB Tryz.prog 294 2 = true := by kernel_rfl
theorem ag30 : agB Tryz.prog 30 2 = true := by kernel_rfl
theorem ag33 : agB Tryz.prog 33 5 = true := by kernel_rfl
theorem ag35 : agB Tryz.prog 35 12 = true := by kernel_rfl
theorem ag40 : agB Tryz.prog 40 1 = true := by kernel_rfl
theorem ag43 : agB Tryz.prog 43 2 = true := by kernel_rfl
theorem ag44 : agB Tryz.prog 44 2 = true := by kernel_rfl
theorem ag47 : agB Tryz.prog 47 5 = true := by kernel_rfl
theorem ag49 : agB Tryz.prog 49 12 = true := by kernel_rfl
theorem eq166 {a0 a1 b0 b1 : Int} {w : World} : (Op.equal 166 (.agg [.int .i64 a0, .int .i64 a1].toArray) (.agg [.int .i64 b0, .int .i64 b1].toArray)).run Tryz.prog w = .ok (decide ((a0, a1) = (b0, b1))) w := eq_pair Tryz.underlying166 (by kernel_rfl) (by decide) Tryz.underlying2 Tryz.underlying2 (by kernel_rfl) (by kernel_rfl)
theorem eq181 {a0 a1 a2 a3 b0 b1 b2 b3 : Bool} {w : World} : (Op.equal 181 (.agg [.bool a0, .bool a1, .bool a2, .bool a3].toArray) (.agg [.bool b0, .bool b1, .bool b2, .bool b3].toArray)).run Tryz.prog w = .ok (decide ((a0, a1, a2, a3) = (b0, b1, b2, b3))) w := by
  obtain ⟨i, hi, _⟩ := Option.map_eq_some_iff.1 (by kernel_rfl : (Tryz.prog.info? 4).map (·.size) = some 1)
  exact eq_four Tryz.underlying181 hi (by kernel_rfl) Tryz.underlying4 (by kernel_rfl)
theorem fl166_0 : ∀ (ad : Addr) (w : World), (Instr.fieldAt 166 (.pointer (some ad)) 0).run Tryz.prog w = .ok (.pointer (some (ad.add 0))) w := fun _ _ => by kernel_rfl
theorem fl166_1 : ∀ (ad : Addr) (w : World), (Instr.fieldAt 166 (.pointer (some ad)) 1).run Tryz.prog w = .ok (.pointer (some (ad.add 1))) w := fun _ _ => by kernel_rfl
theorem fl176_0 : ∀ (ad : Addr) (w : World), (Instr.fieldAt 176 (.pointer (some ad)) 0).run Tryz.prog w = .ok (.pointer (some (ad.add 0))) w := fun _ _ => by kernel_rfl
theorem fl176_1 : ∀ (ad : Addr) (w : World), (Instr.fieldAt 176 (.pointer (some ad)) 1).run Tryz.prog w = .ok (.pointer (some (ad.add 1))) w := fun _ _ => by kernel_rfl
theorem fl176_2 : ∀ (ad : Addr) (w : World), (Instr.fieldAt 176 (.pointer (some ad)) 2).run Tryz.prog w = .ok (.pointer (some (ad.add 2))) w := fun _ _ => by kernel_rfl
theorem fl203_0 : ∀ (ad : Addr) (w : World), (Instr.fieldAt 203 (.pointer (some ad)) 0).run Tryz.prog w = .ok (.pointer (some (ad.add 0))) w := fun _ _ => by kernel_rfl
theorem fl203_1 : ∀ (ad : Addr) (w : World), (Instr.fieldAt 203 (.pointer (some ad)) 1).run Tryz.prog w = .ok (.pointer (some (ad.add 1))) w := fun _ _ => by kernel_rfl
theorem fl203_2 : ∀ (ad : Addr) (w : World), (Instr.fieldAt 203 (.pointer (some ad)) 2).run Tryz.prog w = .ok (.pointer (some (ad.add 2))) w := fun _ _ => by kernel_rfl
theorem fl203_3 : ∀ (ad : Addr) (w : World), (Instr.fieldAt 203 (.pointer (some ad)) 3).run Tryz.prog w = .ok (.pointer (some (ad.add 3))) w := fun _ _ => by kernel_rfl
theorem fl203_4 : ∀ (ad : Addr) (w : World), (Instr.fieldAt 203 (.pointer (some ad)) 4).run Tryz.prog w = .ok (.pointer (some (ad.add 4))) w := fun _ _ => by kernel_rfl
theorem fl225_0 : ∀ (ad : Addr) (w : World), (Instr.fieldAt 225 (.pointer (some ad)) 0).run Tryz.prog w = .ok (.pointer (some (ad.add 0))) w := fun _ _ => by kernel_rfl
theorem fl225_1 : ∀ (ad : Addr) (w : World), (Instr.fieldAt 225 (.pointer (some ad)) 1).run Tryz.prog w = .ok (.pointer (some (ad.add 1))) w := fun _ _ => by kernel_rfl
theorem fl225_2 : ∀ (ad : Addr) (w : World), (Instr.fieldAt 225 (.pointer (some ad)) 2).run Tryz.prog w = .ok (.pointer (some (ad.add 2))) w := fun _ _ => by kernel_rfl
theorem fl225_3 : ∀ (ad : Addr) (w : World), (Instr.fieldAt 225 (.pointer (some ad)) 3).run Tryz.prog w = .ok (.pointer (some (ad.add 3))) w := fun _ _ => by kernel_rfl
theorem fl225_4 : ∀ (ad : Addr) (w : World), (Instr.fieldAt 225 (.pointer (some ad)) 4).run Tryz.prog w = .ok (.pointer (some (ad.add 4))) w := fun _ _ => by kernel_rfl
theorem fl227_0 : ∀ (ad : Addr) (w : World), (Instr.fieldAt 227 (.pointer (some ad)) 0).run Tryz.prog w = .ok (.pointer (some (ad.add 0))) w := fun _ _ => by kernel_rfl
theorem fl227_1 : ∀ (ad : Addr) (w : World), (Instr.fieldAt 227 (.pointer (some ad)) 1).run Tryz.prog w = .ok (.pointer (some (ad.add 1))) w := fun _ _ => by kernel_rfl
theorem fl227_2 : ∀ (ad : Addr) (w : World), (Instr.fieldAt 227 (.pointer (some ad)) 2).run Tryz.prog w = .ok (.pointer (some (ad.add 2))) w := fun _ _ => by kernel_rfl
theorem fl235_0 : ∀ (ad : Addr) (w : World), (Instr.fieldAt 235 (.pointer (some ad)) 0).run Tryz.prog w = .ok (.pointer (some (ad.add 0))) w := fun _ _ => by kernel_rfl
theorem fl235_1 : ∀ (ad : Addr) (w : World), (Instr.fieldAt 235 (.pointer (some ad)) 1).run Tryz.prog w = .ok (.pointer (some (ad.add 1))) w := fun _ _ => by kernel_rfl
theorem fl24_0 : ∀ (ad : Addr) (w : World), (Instr.fieldAt 24 (.pointer (some ad)) 0).run Tryz.prog w = .ok (.pointer (some (ad.add 0))) w := fun _ _ => by kernel_rfl
theorem fl265_0 : ∀ (ad : Addr) (w : World), (Instr.fieldAt 265 (.pointer (some ad)) 0).run Tryz.prog w = .ok (.pointer (some (ad.add 0))) w := fun _ _ => by kernel_rfl
theorem fl265_1 : ∀ (ad : Addr) (w : World), (Instr.fieldAt 265 (.pointer (some ad)) 1).run Tryz.prog w = .ok (.pointer (some (ad.add 1))) w := fun _ _ => by kernel_rfl
theorem fl27_0 : ∀ (ad : Addr) (w : World), (Instr.fieldAt 27 (.pointer (some ad)) 0).run Tryz.prog w = .ok (.pointer (some (ad.add 0))) w := fun _ _ => by kernel_rfl
theorem fl27_1 : ∀ (ad : Addr) (w : World), (Instr.fieldAt 27 (.pointer (some ad)) 1).run Tryz.prog w = .ok (.pointer (some (ad.add 1))) w := fun _ _ => by kernel_rfl
theorem fl294_0 : ∀ (ad : Addr) (w : World), (Instr.fieldAt 294 (.pointer (some ad)) 0).run Tryz.prog w = .ok (.pointer (some (ad.add 0))) w := fun _ _ => by kernel_rfl
theorem fl294_1 : ∀ (ad : Addr) (w : World), (Instr.fieldAt 294 (.pointer (some ad)) 1).run Tryz.prog w = .ok (.pointer (some (ad.add 1))) w := fun _ _ => by kernel_rfl
theorem fl30_0 : ∀ (ad : Addr) (w : World), (Instr.fieldAt 30 (.pointer (some ad)) 0).run Tryz.prog w = .ok (.pointer (some (ad.add 0))) w := fun _ _ => by kernel_rfl
theorem fl30_1 : ∀ (ad : Addr) (w : World), (Instr.fieldAt 30 (.pointer (some ad)) 1).run Tryz.prog w = .ok (.pointer (some (ad.add 1))) w := fun _ _ => by kernel_rfl
theorem fl33_0 : ∀ (ad : Addr) (w : World), (Instr.fieldAt 33 (.pointer (some ad)) 0).run Tryz.prog w = .ok (.pointer (some (ad.add 0))) w := fun _ _ => by kernel_rfl
theorem fl33_1 : ∀ (ad : Addr) (w : World), (Instr.fieldAt 33 (.pointer (some ad)) 1).run Tryz.prog w = .ok (.pointer (some (ad.add 1))) w := fun _ _ => by kernel_rfl
theorem fl33_2 : ∀ (ad : Addr) (w : World), (Instr.fieldAt 33 (.pointer (some ad)) 2).run Tryz.prog w = .ok (.pointer (some (ad.add 2))) w := fun _ _ => by kernel_rfl
theorem fl33_3 : ∀ (ad : Addr) (w : World), (Instr.fieldAt 33 (.pointer (some ad)) 3).run Tryz.prog w = .ok (.pointer (some (ad.add 3))) w := fun _ _ => by kernel_rfl
theorem fl33_4 : ∀ (ad : Addr) (w : World), (Instr.fieldAt 33 (.pointer (some ad)) 4).run Tryz.prog w = .ok (.pointer (some (ad.add 4))) w := fun _ _ => by kernel_rfl
theorem fl35_0 : ∀ (ad : Addr) (w : World), (Instr.fieldAt 35 (.pointer (some ad)) 0).run Tryz.prog w = .ok (.pointer (some (ad.add 0))) w := fun _ _ => by kernel_rfl
theorem fl35_1 : ∀ (ad : Addr) (w : World), (Instr.fieldAt 35 (.pointer (some ad)) 1).run Tryz.prog w = .ok (.pointer (some (ad.add 1))) w := fun _ _ => by kernel_rfl
theorem fl35_2 : ∀ (ad : Addr) (w : World), (Instr.fieldAt 35 (.pointer (some ad)) 2).run Tryz.prog w = .ok (.pointer (some (ad.add 2))) w := fun _ _ => by kernel_rfl
theorem fl35_3 : ∀ (ad : Addr) (w : World), (Instr.fieldAt 35 (.pointer (some ad)) 3).run Tryz.prog w = .ok (.pointer (some (ad.add 3))) w := fun _ _ => by kernel_rfl
theorem fl35_4 : ∀ (ad : Addr) (w : World), (Instr.fieldAt 35 (.pointer (some ad)) 4).run Tryz.prog w = .ok (.pointer (some (ad.add 5))) w := fun _ _ => by kernel_rfl
theorem fl35_5 : ∀ (ad : Addr) (w : World), (Instr.fieldAt 35 (.pointer (some ad)) 5).run Tryz.prog w = .ok (.pointer (some (ad.add 7))) w := fun _ _ => by kernel_rfl
theorem fl40_0 : ∀ (ad : Addr) (w : World), (Instr.fieldAt 40 (.pointer (some ad)) 0).run Tryz.prog w = .ok (.pointer (some (ad.add 0))) w := fun _ _ => by kernel_rfl
theorem fl43_0 : ∀ (ad : Addr) (w : World), (Instr.fieldAt 43 (.pointer (some ad)) 0).run Tryz.prog w = .ok (.pointer (some (ad.add 0))) w := fun _ _ => by kernel_rfl
theorem fl43_1 : ∀ (ad : Addr) (w : World), (Instr.fieldAt 43 (.pointer (some ad)) 1).run Tryz.prog w = .ok (.pointer (some (ad.add 1))) w := fun _ _ => by kernel_rfl
theorem fl44_0 : ∀ (ad : Addr) (w : World), (Instr.fieldAt 44 (.pointer (some ad)) 0).run Tryz.prog w = .ok (.pointer (some (ad.add 0))) w := fun _ _ => by kernel_rfl
theorem fl44_1 : ∀ (ad : Addr) (w : World), (Instr.fieldAt 44 (.pointer (some ad)) 1).run Tryz.prog w = .ok (.pointer (some (ad.add 1))) w := fun _ _ => by kernel_rfl
theorem fl47_0 : ∀ (ad : Addr) (w : World), (Instr.fieldAt 47 (.pointer (some ad)) 0).run Tryz.prog w = .ok (.pointer (some (ad.add 0))) w := fun _ _ => by kernel_rfl
theorem fl47_1 : ∀ (ad : Addr) (w : World), (Instr.fieldAt 47 (.pointer (some ad)) 1).run Tryz.prog w = .ok (.pointer (some (ad.add 1))) w := fun _ _ => by kernel_rfl
theorem fl47_2 : ∀ (ad : Addr) (w : World), (Instr.fieldAt 47 (.pointer (some ad)) 2).run Tryz.prog w = .ok (.pointer (some (ad.add 2))) w := fun _ _ => by kernel_rfl
theorem fl47_3 : ∀ (ad : Addr) (w : World), (Instr.fieldAt 47 (.pointer (some ad)) 3).run Tryz.prog w = .ok (.pointer (some (ad.add 3))) w := fun _ _ => by kernel_rfl
theorem fl47_4 : ∀ (ad : Addr) (w : World), (Instr.fieldAt 47 (.pointer (some ad)) 4).run Tryz.prog w = .ok (.pointer (some (ad.add 4))) w := fun _ _ => by kernel_rfl
theorem fl49_0 : ∀ (ad : Addr) (w : World), (Instr.fieldAt 49 (.pointer (some ad)) 0).run Tryz.prog w = .ok (.pointer (some (ad.add 0))) w := fun _ _ => by kernel_rfl
theorem fl49_1 : ∀ (ad : Addr) (w : World), (Instr.fieldAt 49 (.pointer (some ad)) 1).run Tryz.prog w = .ok (.pointer (some (ad.add 1))) w := fun _ _ => by kernel_rfl
theorem fl49_2 : ∀ (ad : Addr) (w : World), (Instr.fieldAt 49 (.pointer (some ad)) 2).run Tryz.prog w = .ok (.pointer (some (ad.add 2))) w := fun _ _ => by kernel_rfl
theorem fl49_3 : ∀ (ad : Addr) (w : World), (Instr.fieldAt 49 (.pointer (some ad)) 3).run Tryz.prog w = .ok (.pointer (some (ad.add 3))) w := fun _ _ => by kernel_rfl
theorem fl49_4 : ∀ (ad : Addr) (w : World), (Instr.fieldAt 49 (.pointer (some ad)) 4).run Tryz.prog w = .ok (.pointer (some (ad.add 5))) w := fun _ _ => by kernel_rfl
theorem fl49_5 : ∀ (ad : Addr) (w : World), (Instr.fieldAt 49 (.pointer (some ad)) 5).run Tryz.prog w = .ok (.pointer (some (ad.add 7))) w := fun _ _ => by kernel_rfl
theorem inf164 : (Tryz.prog.info? 164).map (fun i => (i.zero, i.size, i.bytes)) = some (some (.slice none 0 0), 1, 24) := by kernel_rfl
theorem inf166 : (Tryz.prog.info? 166).map (fun i => (i.zero, i.size, i.bytes)) = some (some (.agg #[.int .i64 0, .int .i64 0]), 2, 16) := by kernel_rfl
theorem inf176 : (Tryz.prog.info? 176).map (fun i => (i.zero, i.size, i.bytes)) = some (some (.agg #[.int .i64 0, .int .i64 0, .int .i64 0]), 3, 24) := by kernel_rfl
theorem inf2 : (Tryz.prog.info? 2).map (fun i => (i.zero, i.size, i.bytes)) = some (some (.int .i64 0), 1, 8) := by kernel_rfl
theorem inf203 : (Tryz.prog.info? 203).map (fun i => (i.zero, i.size, i.bytes)) = some (some (.agg #[.int .i64 0, .int .i64 0, .int .i64 0, .int .i64 0, .int .i64 0]), 5, 40) := by kernel_rfl
theorem inf28 : (Tryz.prog.info? 28).map (fun i => (i.zero, i.size, i.bytes)) = some (some (.slice none 0 0), 1, 24) := by kernel_rfl
theorem inf294 : (Tryz.prog.info? 294).map (fun i => (i.zero, i.size, i.bytes)) = some (some (.agg #[.int .i64 0, .int .i64 0]), 2, 16) := by kernel_rfl
theorem inf4 : (Tryz.prog.info? 4).map (fun i => (i.zero, i.size, i.bytes)) = some (some (.bool false), 1, 1) := by kernel_rfl
theorem na164 : naB Tryz.prog 164 = true := by kernel_rfl
theorem na2 : naB Tryz.prog 2 = true := by kernel_rfl
theorem na215 : naB Tryz.prog 215 = true := by kernel_rfl
theorem na22 : naB Tryz.prog 22 = true := by kernel_rfl
theorem na233 : naB Tryz.prog 233 = true := by kernel_rfl
theorem na25 : naB Tryz.prog 25 = true := by kernel_rfl
theorem na28 : naB Tryz.prog 28 = true := by kernel_rfl
theorem na31 : naB Tryz.prog 31 = true := by kernel_rfl
theorem na38 : naB Tryz.prog 38 = true := by kernel_rfl
theorem na4 : naB Tryz.prog 4 = true := by kernel_rfl
theorem na41 : naB Tryz.prog 41 = true := by kernel_rfl
theorem na45 : naB Tryz.prog 45 = true := by kernel_rfl
theorem na9 : naB Tryz.prog 9 = true := by kernel_rfl
theorem ng166 : Tryz.prog.eqGuardType Tryz.prog.depth 166 = false := by kernel_rfl
theorem ng181 : Tryz.prog.eqGuardType Tryz.prog.depth 181 = false := by kernel_rfl
theorem sz164 : (Tryz.prog.info? 164).map (·.size) = some 1 := by kernel_rfl
theorem sz166 : (Tryz.prog.info? 166).map (·.size) = some 2 := by kernel_rfl
theorem sz176 : (Tryz.prog.info? 176).map (·.size) = some 3 := by kernel_rfl
theorem sz2 : (Tryz.prog.info? 2).map (·.size) = some 1 := by kernel_rfl
theorem sz203 : (Tryz.prog.info? 203).map (·.size) = some 5 := by kernel_rfl
theorem sz215 : (Tryz.prog.info? 215).map (·.size) = some 1 := by kernel_rfl
theorem sz225 : (Tryz.prog.info? 225).map (·.size) = some 5 := by kernel_rfl
theorem sz227 : (Tryz.prog.info? 227).map (·.size) = some 3 := by kernel_rfl
theorem sz265 : (Tryz.prog.info? 265).map (·.size) = some 2 := by kernel_rfl
theorem sz294 : (Tryz.prog.info? 294).map (·.size) = some 2 := by kernel_rfl
theorem sz4 : (Tryz.prog.info? 4).map (·.size) = some 1 := by kernel_rfl
theorem sz9 : (Tryz.prog.info? 9).map (·.size) = some 1 := by kernel_rfl
theorem zr166 : (Tryz.prog.info? 166).map (·.zero) = some (some (.agg #[.int .i64 0, .int .i64 0])) := by kernel_rfl
theorem zr176 : (Tryz.prog.info? 176).map (·.zero) = some (some (.agg #[.int .i64 0, .int .i64 0, .int .i64 0])) := by kernel_rfl
theorem zr181 : (Tryz.prog.info? 181).map (·.zero) = some (some (.agg #[.bool false, .bool false, .bool false, .bool false])) := by kernel_rfl
theorem zr2 : (Tryz.prog.info? 2).map (·.zero) = some (some (.int .i64 0)) := by kernel_rfl
theorem zr203 : (Tryz.prog.info? 203).map (·.zero) = some (some (.agg #[.int .i64 0, .int .i64 0, .int .i64 0, .int .i64 0, .int .i64 0])) := by kernel_rfl
theorem zr235 : (Tryz.prog.info? 235).map (·.zero) = some (some (.agg #[.slice none 0 0, .slice none 0 0])) := by kernel_rfl
theorem zr251 : (Tryz.prog.info? 251).map (·.zero) = some (some (.agg #[.int .i64 0, .int .i64 0, .int .i64 0, .int .i64 0])) := by kernel_rfl
theorem zr294 : (Tryz.prog.info? 294).map (·.zero) = some (some (.agg #[.int .i64 0, .int .i64 0])) := by kernel_rfl
theorem zr313 : (Tryz.prog.info? 313).map (·.zero) = some (some (.agg #[.int .u8 0, .int .u8 0, .int .u8 0, .int .u8 0, .int .u8 0, .int .u8 0, .int .u8 0, .int .u8 0, .int .u8 0, .int .u8 0, .int .u8 0, .int .u8 0, .int .u8 0, .int .u8 0, .int .u8 0, .int .u8 0, .int .u8 0, .int .u8 0, .int .u8 0, .int .u8 0, .int .u8 0, .int .u8 0, .int .u8 0, .int .u8 0])) := by kernel_rfl
theorem zr40 : (Tryz.prog.info? 40).map (·.zero) = some (some (.agg #[.slice none 0 0])) := by kernel_rfl
theorem zr43 : (Tryz.prog.info? 43).map (·.zero) = some (some (.agg #[.slice none 0 0, .int .i64 0])) := by kernel_rfl
theorem zr44 : (Tryz.prog.info? 44).map (·.zero) = some (some (.agg #[.int .i64 0, .slice none 0 0])) := by kernel_rfl
theorem zr47 : (Tryz.prog.info? 47).map (·.zero) = some (some (.agg #[.int .i64 0, .int .i64 0, .slice none 0 0, .slice none 0 0, .slice none 0 0])) := by kernel_rfl
theorem zr49 : (Tryz.prog.info? 49).map (·.zero) = some (some (.agg #[.string ByteArray.empty, .int .i64 0, .slice none 0 0, .slice none 0 0, .int .i64 0, .int .i64 0, .slice none 0 0, .int .i64 0, .int .i64 0, .slice none 0 0, .slice none 0 0, .slice none 0 0])) := by kernel_rfl
theorem fok15 : (Tryz.f15.name == "runtime.NumGoroutine") = false ∧ Tryz.f15.body.isNone = false := ⟨by kernel_rfl, rfl⟩
theorem fok16 : (Tryz.f16.name == "runtime.NumGoroutine") = false ∧ Tryz.f16.body.isNone = false := ⟨by kernel_rfl, rfl⟩
theorem fok17 : (Tryz.f17.name == "runtime.NumGoroutine") = false ∧ Tryz.f17.body.isNone = false := ⟨by kernel_rfl, rfl⟩
theorem fok18 : (Tryz.f18.name == "runtime.NumGoroutine") = false ∧ Tryz.f18.body.isNone = false := ⟨by kernel_rfl, rfl⟩
theorem fok19 : (Tryz.f19.name == "runtime.NumGoroutine") = false ∧ Tryz.f19.body.isNone = false := ⟨by kernel_rfl, rfl⟩
theorem fok53 : (Tryz.f53.name == "runtime.NumGoroutine") = false ∧ Tryz.f53.body.isNone = false := ⟨by kernel_rfl, rfl⟩
theorem fok54 : (Tryz.f54.name == "runtime.NumGoroutine") = false ∧ Tryz.f54.body.isNone = false := ⟨by kernel_rfl, rfl⟩
theorem fok55 : (Tryz.f55.name == "runtime.NumGoroutine") = false ∧ Tryz.f55.body.isNone = false := ⟨by kernel_rfl, rfl⟩
theorem fok56 : (Tryz.f56.name == "runtime.NumGoroutine") = false ∧ Tryz.f56.body.isNone = false := ⟨by kernel_rfl, rfl⟩
theorem fok57 : (Tryz.f57.name == "runtime.NumGoroutine") = false ∧ Tryz.f57.body.isNone = false := ⟨by kernel_rfl, rfl⟩
theorem fok58 : (Tryz.f58.name == "runtime.NumGoroutine") = false ∧ Tryz.f58.body.isNone = false := ⟨by kernel_rfl, rfl⟩
theorem fok59 : (Tryz.f59.name == "runtime.NumGoroutine") = false ∧ Tryz.f59.body.isNone = false := ⟨by kernel_rfl, rfl⟩
theorem fok60 : (Tryz.f60.name == "runtime.NumGoroutine") = false ∧ Tryz.f60.body.isNone = false := ⟨by kernel_rfl, rfl⟩
theorem fok61 : (Tryz.f61.name == "runtime.NumGoroutine") = false ∧ Tryz.f61.body.isNone = false := ⟨by kernel_rfl, rfl⟩
theorem fok62 : (Tryz.f62.name == "runtime.NumGoroutine") = false ∧ Tryz.f62.body.isNone = false := ⟨by kernel_rfl, rfl⟩
theorem fok63 : (Tryz.f63.name == "runtime.NumGoroutine") = false ∧ Tryz.f63.body.isNone = false := ⟨by kernel_rfl, rfl⟩
theorem fok64 : (Tryz.f64.name == "runtime.NumGoroutine") = false ∧ Tryz.f64.body.isNone = false := ⟨by kernel_rfl, rfl⟩
theorem fok65 : (Tryz.f65.name == "runtime.NumGoroutine") = false ∧ Tryz.f65.body.isNone = false := ⟨by kernel_rfl, rfl⟩
theorem fok66 : (Tryz.f66.name == "runtime.NumGoroutine") = false ∧ Tryz.f66.body.isNone = false := ⟨by kernel_rfl, rfl⟩
theorem fok67 : (Tryz.f67.name == "runtime.NumGoroutine") = false ∧ Tryz.f67.body.isNone = false := ⟨by kernel_rfl, rfl⟩
theorem fok68 : (Tryz.f68.name == "runtime.NumGoroutine") = false ∧ Tryz.f68.body.isNone = false := ⟨by kernel_rfl, rfl⟩
theorem fok69 : (Tryz.f69.name == "runtime.NumGoroutine") = false ∧ Tryz.f69.body.isNone = false := ⟨by kernel_rfl, rfl⟩
theorem fok70 : (Tryz.f70.name == "runtime.NumGoroutine") = false ∧ Tryz.f70.body.isNone = false := ⟨by kernel_rfl, rfl⟩
theorem fok71 : (Tryz.f71.name == "runtime.NumGoroutine") = false ∧ Tryz.f71.body.isNone = false := ⟨by kernel_rfl, rfl⟩
theorem fok72 : (Tryz.f72.name == "runtime.NumGoroutine") = false ∧ Tryz.f72.body.isNone = false := ⟨by kernel_rfl, rfl⟩
theorem fok122 : (Tryz.f122.name == "runtime.NumGoroutine") = false ∧ Tryz.f122.body.isNone = false := ⟨by kernel_rfl, rfl⟩
theorem fok123 : (Tryz.f123.name == "runtime.NumGoroutine") = false ∧ Tryz.f123.body.isNone = false := ⟨by kernel_rfl, rfl⟩
theorem fok124 : (Tryz.f124.name == "runtime.NumGoroutine") = false ∧ Tryz.f124.body.isNone = false := ⟨by kernel_rfl, rfl⟩
theorem fok125 : (Tryz.f125.name == "runtime.NumGoroutine") = false ∧ Tryz.f125.body.isNone = false := ⟨by kernel_rfl, rfl⟩
theorem fok126 : (Tryz.f126.name == "runtime.NumGoroutine") = false ∧ Tryz.f126.body.isNone = false := ⟨by kernel_rfl, rfl⟩
theorem fok127 : (Tryz.f127.name == "runtime.NumGoroutine") = false ∧ Tryz.f127.body.isNone = false := ⟨by kernel_rfl, rfl⟩
theorem fok128 : (Tryz.f128.name == "runtime.NumGoroutine") = false ∧ Tryz.f128.body.isNone = false := ⟨by kernel_rfl, rfl⟩
theorem fok129 : (Tryz.f129.name == "runtime.NumGoroutine") = false ∧ Tryz.f129.body.isNone = false := ⟨by kernel_rfl, rfl⟩
theorem fok130 : (Tryz.f130.name == "runtime.NumGoroutine") = false ∧ Tryz.f130.body.isNone = false := ⟨by kernel_rfl, rfl⟩
theorem fok131 : (Tryz.f131.name == "runtime.NumGoroutine") = false ∧ Tryz.f131.body.isNone = false := ⟨by kernel_rfl, rfl⟩
theorem fok132 : (Tryz.f132.name == "runtime.NumGoroutine") = false ∧ Tryz.f132.body.isNone = false := ⟨by kernel_rfl, rfl⟩
theorem fok133 : (Tryz.f133.name == "runtime.NumGoroutine") = false ∧ Tryz.f133.body.isNone = false := ⟨by kernel_rfl, rfl⟩
theorem fok134 : (Tryz.f134.name == "runtime.NumGoroutine") = false ∧ Tryz.f134.body.isNone = false := ⟨by kernel_rfl, rfl⟩
theorem fok135 : (Tryz.f135.name == "runtime.NumGoroutine") = false ∧ Tryz.f135.body.isNone = false := ⟨by kernel_rfl, rfl⟩
theorem fok136 : (Tryz.f136.name == "runtime.NumGoroutine") = false ∧ Tryz.f136.body.isNone = false := ⟨by kernel_rfl, rfl⟩
theorem fok137 : (Tryz.f137.name == "runtime.NumGoroutine") = false ∧ Tryz.f137.body.isNone = false := ⟨by kernel_rfl, rfl⟩
theorem fok138 : (Tryz.f138.name == "runtime.NumGoroutine") = false ∧ Tryz.f138.body.isNone = false := ⟨by kernel_rfl, rfl⟩
theorem fok139 : (Tryz.f139.name == "runtime.NumGoroutine") = false ∧ Tryz.f139.body.isNone = false := ⟨by kernel_rfl, rfl⟩
theorem fok140 : (Tryz.f140.name == "runtime.NumGoroutine") = false ∧ Tryz.f140.body.isNone = false := ⟨by kernel_rfl, rfl⟩
theorem fok141 : (Tryz.f141.name == "runtime.NumGoroutine") = false ∧ Tryz.f141.body.isNone = false := ⟨by kernel_rfl, rfl⟩
theorem fok142 : (Tryz.f142.name == "runtime.NumGoroutine") = false ∧ Tryz.f142.body.isNone = false := ⟨by kernel_rfl, rfl⟩
theorem fok143 : (Tryz.f143.name == "runtime.NumGoroutine") = false ∧ Tryz.f143.body.isNone = false := ⟨by kernel_rfl, rfl⟩
theorem fok144 : (Tryz.f144.name == "runtime.NumGoroutine") = false ∧ Tryz.f144.body.isNone = false := ⟨by kernel_rfl, rfl⟩
theorem fok145 : (Tryz.f145.name == "runtime.NumGoroutine") = false ∧ Tryz.f145.body.isNone = false := ⟨by kernel_rfl, rfl⟩
theorem fok146 : (Tryz.f146.name == "runtime.NumGoroutine") = false ∧ Tryz.f146.body.isNone = false := ⟨by kernel_rfl, rfl⟩
theorem fok147 : (Tryz.f147.name == "runtime.NumGoroutine") = false ∧ Tryz.f147.body.isNone = false := ⟨by kernel_rfl, rfl⟩
theorem fok148 : (Tryz.f148.name == "runtime.NumGoroutine") = false ∧ Tryz.f148.body.isNone = false := ⟨by kernel_rfl, rfl⟩
theorem fok149 : (Tryz.f149.name == "runtime.NumGoroutine") = false ∧ Tryz.f149.body.isNone = false := ⟨by kernel_rfl, rfl⟩
theorem fok150 : (Tryz.f150.name == "runtime.NumGoroutine") = false ∧ Tryz.f150.body.isNone = false := ⟨by kernel_rfl, rfl⟩
theorem fok151 : (Tryz.f151.name == "runtime.NumGoroutine") = false ∧ Tryz.f151.body.isNone = false := ⟨by kernel_rfl, rfl⟩
theorem fok152 : (Tryz.f152.name == "runtime.NumGoroutine") = false ∧ Tryz.f152.body.isNone = false := ⟨by kernel_rfl, rfl⟩
theorem fok153 : (Tryz.f153.name == "runtime.NumGoroutine") = false ∧ Tryz.f153.body.isNone = false := ⟨by kernel_rfl, rfl⟩
theorem fok154 : (Tryz.f154.name == "runtime.NumGoroutine") = false ∧ Tryz.f154.body.isNone = false := ⟨by kernel_rfl, rfl⟩
theorem fok155 : (Tryz.f155.name == "runtime.NumGoroutine") = false ∧ Tryz.f155.body.isNone = false := ⟨by kernel_rfl, rfl⟩
theorem fok177 : (Tryz.f177.name == "runtime.NumGoroutine") = false ∧ Tryz.f177.body.isNone = false := ⟨by kernel_rfl, rfl⟩
theorem fok195 : (Tryz.f195.name == "runtime.NumGoroutine") = false ∧ Tryz.f195.body.isNone = false := ⟨by kernel_rfl, rfl⟩
theorem fok196 : (Tryz.f196.name == "runtime.NumGoroutine") = false ∧ Tryz.f196.body.isNone = false := ⟨by kernel_rfl, rfl⟩
theorem fok197 : (Tryz.f197.name == "runtime.NumGoroutine") = false ∧ Tryz.f197.body.isNone = false := ⟨by kernel_rfl, rfl⟩
theorem fok198 : (Tryz.f198.name == "runtime.NumGoroutine") = false ∧ Tryz.f198.body.isNone = false := ⟨by kernel_rfl, rfl⟩
theorem fok199 : (Tryz.f199.name == "runtime.NumGoroutine") = false ∧ Tryz.f199.body.isNone = false := ⟨by kernel_rfl, rfl⟩
theorem fok200 : (Tryz.f200.name == "runtime.NumGoroutine") = false ∧ Tryz.f200.body.isNone = false := ⟨by kernel_rfl, rfl⟩
theorem fok201 : (Tryz.f201.name == "runtime.NumGoroutine") = false ∧ Tryz.f201.body.isNone = false := ⟨by kernel_rfl, rfl⟩
theorem fok202 : (Tryz.f202.name == "runtime.NumGoroutine") = false ∧ Tryz.f202.body.isNone = false := ⟨by kernel_rfl, rfl⟩
theorem fok203 : (Tryz.f203.name == "runtime.NumGoroutine") = false ∧ Tryz.f203.body.isNone = false := ⟨by kernel_rfl, rfl⟩
theorem fok204 : (Tryz.f204.name == "runtime.NumGoroutine") = false ∧ Tryz.f204.body.isNone = false := ⟨by kernel_rfl, rfl⟩
theorem fok205 : (Tryz.f205.name == "runtime.NumGoroutine") = false ∧ Tryz.f205.body.isNone = false := ⟨by kernel_rfl, rfl⟩
theorem fok206 : (Tryz.f206.name == "runtime.NumGoroutine") = false ∧ Tryz.f206.body.isNone = false := ⟨by kernel_rfl, rfl⟩
theorem fok207 : (Tryz.f207.name == "runtime.NumGoroutine") = false ∧ Tryz.f207.body.isNone = false := ⟨by kernel_rfl, rfl⟩
theorem fok208 : (Tryz.f208.name == "runtime.NumGoroutine") = false ∧ Tryz.f208.body.isNone = false := ⟨by kernel_rfl, rfl⟩
theorem fok209 : (Tryz.f209.name == "runtime.NumGoroutine") = false ∧ Tryz.f209.body.isNone = false := ⟨by kernel_rfl, rfl⟩
theorem fok210 : (Tryz.f210.name == "runtime.NumGoroutine") = false ∧ Tryz.f210.body.isNone = false := ⟨by kernel_rfl, rfl⟩
theorem fok211 : (Tryz.f211.name == "runtime.NumGoroutine") = false ∧ Tryz.f211.body.isNone = false := ⟨by kernel_rfl, rfl⟩
theorem fok212 : (Tryz.f212.name == "runtime.NumGoroutine") = false ∧ Tryz.f212.body.isNone = false := ⟨by kernel_rfl, rfl⟩
theorem fok213 : (Tryz.f213.name == "runtime.NumGoroutine") = false ∧ Tryz.f213.body.isNone = false := ⟨by kernel_rfl, rfl⟩
theorem fok214 : (Tryz.f214.name == "runtime.NumGoroutine") = false ∧ Tryz.f214.body.isNone = false := ⟨by kernel_rfl, rfl⟩
theorem fok215 : (Tryz.f215.name == "runtime.NumGoroutine") = false ∧ Tryz.f215.body.isNone = false := ⟨by kernel_rfl, rfl⟩
theorem fok216 : (Tryz.f216.name == "runtime.NumGoroutine") = false ∧ Tryz.f216.body.isNone = false := ⟨by kernel_rfl, rfl⟩
theorem fok217 : (Tryz.f217.name == "runtime.NumGoroutine") = false ∧ Tryz.f217.body.isNone = false := ⟨by kernel_rfl, rfl⟩
theorem fok218 : (Tryz.f218.name == "runtime.NumGoroutine") = false ∧ Tryz.f218.body.isNone = false := ⟨by kernel_rfl, rfl⟩
theorem fok219 : (Tryz.f219.name == "runtime.NumGoroutine") = false ∧ Tryz.f219.body.isNone = false := ⟨by kernel_rfl, rfl⟩
theorem fok220 : (Tryz.f220.name == "runtime.NumGoroutine") = false ∧ Tryz.f220.body.isNone = false := ⟨by kernel_rfl, rfl⟩
theorem fok221 : (Tryz.f221.name == "runtime.NumGoroutine") = false ∧ Tryz.f221.body.isNone = false := ⟨by kernel_rfl, rfl⟩
theorem fok222 : (Tryz.f222.name == "runtime.NumGoroutine") = false ∧ Tryz.f222.body.isNone = false := ⟨by kernel_rfl, rfl⟩
theorem fok223 : (Tryz.f223.name == "runtime.NumGoroutine") = false ∧ Tryz.f223.body.isNone = false := ⟨by kernel_rfl, rfl⟩
theorem fok224 : (Tryz.f224.name == "runtime.NumGoroutine") = false ∧ Tryz.f224.body.isNone = false := ⟨by kernel_rfl, rfl⟩
theorem fok225 : (Tryz.f225.name == "runtime.NumGoroutine") = false ∧ Tryz.f225.body.isNone = false := ⟨by kernel_rfl, rfl⟩
theorem fok226 : (Tryz.f226.name == "runtime.NumGoroutine") = false ∧ Tryz.f226.body.isNone = false := ⟨by kernel_rfl, rfl⟩
theorem fok235 : (Tryz.f235.name == "runtime.NumGoroutine") = false ∧ Tryz.f235.body.isNone = false := ⟨by kernel_rfl, rfl⟩
theorem fok236 : (Tryz.f236.name == "runtime.NumGoroutine") = false ∧ Tryz.f236.body.isNone = false := ⟨by kernel_rfl, rfl⟩
theorem fok239 : (Tryz.f239.name == "runtime.NumGoroutine") = false ∧ Tryz.f239.body.isNone = false := ⟨by kernel_rfl, rfl⟩
theorem fok247 : (Tryz.f247.name == "runtime.NumGoroutine") = false ∧ Tryz.f247.body.isNone = false := ⟨by kernel_rfl, rfl⟩
theorem fok248 : (Tryz.f248.name == "runtime.NumGoroutine") = false ∧ Tryz.f248.body.isNone = false := ⟨by kernel_rfl, rfl⟩
theorem fok249 : (Tryz.f249.name == "runtime.NumGoroutine") = false ∧ Tryz.f249.body.isNone = false := ⟨by kernel_rfl, rfl⟩
theorem fok250 : (Tryz.f250.name == "runtime.NumGoroutine") = false ∧ Tryz.f250.body.isNone = false := ⟨by kernel_rfl, rfl⟩
theorem fok251 : (Tryz.f251.name == "runtime.NumGoroutine") = false ∧ Tryz.f251.body.isNone = false := ⟨by kernel_rfl, rfl⟩
theorem fok252 : (Tryz.f252.name == "runtime.NumGoroutine") = false ∧ Tryz.f252.body.isNone = false := ⟨by kernel_rfl, rfl⟩
theorem fok253 : (Tryz.f253.name == "runtime.NumGoroutine") = false ∧ Tryz.f253.body.isNone = false := ⟨by kernel_rfl, rfl⟩
theorem fok254 : (Tryz.f254.name == "runtime.NumGoroutine") = false ∧ Tryz.f254.body.isNone = false := ⟨by kernel_rfl, rfl⟩
theorem fok255 : (Tryz.f255.name == "runtime.NumGoroutine") = false ∧ Tryz.f255.body.isNone = false := ⟨by kernel_rfl, rfl⟩
theorem fok256 : (Tryz.f256.name == "runtime.NumGoroutine") = false ∧ Tryz.f256.body.isNone = false := ⟨by kernel_rfl, rfl⟩
theorem fok257 : (Tryz.f257.name == "runtime.NumGoroutine") = false ∧ Tryz.f257.body.isNone = false := ⟨by kernel_rfl, rfl⟩
theorem fok258 : (Tryz.f258.name == "runtime.NumGoroutine") = false ∧ Tryz.f258.body.isNone = false := ⟨by kernel_rfl, rfl⟩
theorem fok259 : (Tryz.f259.name == "runtime.NumGoroutine") = false ∧ Tryz.f259.body.isNone = false := ⟨by kernel_rfl, rfl⟩
theorem fok260 : (Tryz.f260.name == "runtime.NumGoroutine") = false ∧ Tryz.f260.body.isNone = false := ⟨by kernel_rfl, rfl⟩
theorem fok261 : (Tryz.f261.name == "runtime.NumGoroutine") = false ∧ Tryz.f261.body.isNone = false := ⟨by kernel_rfl, rfl⟩
theorem fok262 : (Tryz.f262.name == "runtime.NumGoroutine") = false ∧ Tryz.f262.body.isNone = false := ⟨by kernel_rfl, rfl⟩
theorem fok263 : (Tryz.f263.name == "runtime.NumGoroutine") = false ∧ Tryz.f263.body.isNone = false := ⟨by kernel_rfl, rfl⟩
theorem fok264 : (Tryz.f264.name == "runtime.NumGoroutine") = false ∧ Tryz.f264.body.isNone = false := ⟨by kernel_rfl, rfl⟩
theorem fok265 : (Tryz.f265.name == "runtime.NumGoroutine") = false ∧ Tryz.f265.body.isNone = false := ⟨by kernel_rfl, rfl⟩
theorem fok267 : (Tryz.f267.name == "runtime.NumGoroutine") = false ∧ Tryz.f267.body.isNone = false := ⟨by kernel_rfl, rfl⟩
theorem fok268 : (Tryz.f268.name == "runtime.NumGoroutine") = false ∧ Tryz.f268.body.isNone = false := ⟨by kernel_rfl, rfl⟩
theorem fok279 : (Tryz.f279.name == "runtime.NumGoroutine") = false ∧ Tryz.f279.body.isNone = false := ⟨by kernel_rfl, rfl⟩
theorem fok280 : (Tryz.f280.name == "runtime.NumGoroutine") = false ∧ Tryz.f280.body.isNone = false := ⟨by kernel_rfl, rfl⟩
theorem fok281 : (Tryz.f281.name == "runtime.NumGoroutine") = false ∧ Tryz.f281.body.isNone = false := ⟨by kernel_rfl, rfl⟩
theorem fok282 : (Tryz.f282.name == "runtime.NumGoroutine") = false ∧ Tryz.f282.body.isNone = false := ⟨by kernel_rfl, rfl⟩
theorem fok283 : (Tryz.f283.name == "runtime.NumGoroutine") = false ∧ Tryz.f283.body.isNone = false := ⟨by kernel_rfl, rfl⟩
theorem fok284 : (Tryz.f284.name == "runtime.NumGoroutine") = false ∧ Tryz.f284.body.isNone = false := ⟨by kernel_rfl, rfl⟩
theorem fok285 : (Tryz.f285.name == "runtime.NumGoroutine") = false ∧ Tryz.f285.body.isNone = false := ⟨by kernel_rfl, rfl⟩
theorem fok286 : (Tryz.f286.name == "runtime.NumGoroutine") = false ∧ Tryz.f286.body.isNone = false := ⟨by kernel_rfl, rfl⟩
theorem fok287 : (Tryz.f287.name == "runtime.NumGoroutine") = false ∧ Tryz.f287.body.isNone = false := ⟨by kernel_rfl, rfl⟩
theorem fok288 : (Tryz.f288.name == "runtime.NumGoroutine") = false ∧ Tryz.f288.body.isNone = false := ⟨by kernel_rfl, rfl⟩
theorem fok289 : (Tryz.f289.name == "runtime.NumGoroutine") = false ∧ Tryz.f289.body.isNone = false := ⟨by kernel_rfl, rfl⟩
theorem fok290 : (Tryz.f290.name == "runtime.NumGoroutine") = false ∧ Tryz.f290.body.isNone = false := ⟨by kernel_rfl, rfl⟩
theorem fok302 : (Tryz.f302.name == "runtime.NumGoroutine") = false ∧ Tryz.f302.body.isNone = false := ⟨by kernel_rfl, rfl⟩
theorem fok303 : (Tryz.f303.name == "runtime.NumGoroutine") = false ∧ Tryz.f303.body.isNone = false := ⟨by kernel_rfl, rfl⟩
theorem fok304 : (Tryz.f304.name == "runtime.NumGoroutine") = false ∧ Tryz.f304.body.isNone = false := ⟨by kernel_rfl, rfl⟩
theorem fok305 : (Tryz.f305.name == "runtime.NumGoroutine") = false ∧ Tryz.f305.body.isNone = false := ⟨by kernel_rfl, rfl⟩
theorem fok317 : (Tryz.f317.name == "runtime.NumGoroutine") = false ∧ Tryz.f317.body.isNone = false := ⟨by kernel_rfl, rfl⟩
theorem mixed : Tryz.prog.follows .mixedOrders = true := by kernel_rfl
end Go.Proofs.YtgkcddpgmmmblaaGreatDoor
