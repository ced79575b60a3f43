/-
  What the translation says of its types and functions.
-/
import Derived.Test.YtkmeepgpmppibaaGreatDoorProg
import Derived.Test.YtkmeepgpmppibaaGreatDoorAlM
set_option linter.unusedVariables false
set_option linter.unusedSimpArgs false
namespace Go.Proofs.YtkmeepgpmppibaaGreatDoor
open Go.RowKit
theorem ag134 : agB Tryz.prog 134 4 = true := by kernel_rfl
theorem ag140 : agB Tryz.prog 140 3 = true := by kernel_rfl
theorem ag152 : agB Tryz.prog 152 5 = true := by kernel_rfl
theorem ag157 : agB Tryz.prog 157 2 = true := by kernel_rfl
theorem ag168 : agB Tryz.prog 168 5 = true := by kernel_rfl
theorem ag170 : agB Tryz.prog 170 3 = true := by kernel_rfl
theorem ag178 : agB Tryz.prog 178 2 = true := by kernel_rfl
theorem ag200 : agB Tryz.prog 200 2 = true := by kernel_rfl
theorem ag218 : agB Tryz.prog 218 4 = true := by kernel_rfl
theorem ag223 : agB Tryz.prog 223 2 = true := by kernel_rfl
theorem ag25 : agB Tryz.prog 25 3 = true := by kernel_rfl
theorem ag30 : agB Tryz.prog 30 3 = true := by kernel_rfl
theorem ag39 : agB Tryz.prog 39 1 = true := by kernel_rfl
theorem ag42 : agB Tryz.prog 42 2 = true := by kernel_rfl
theorem ag45 : agB Tryz.prog 45 2 = true := by kernel_rfl
theorem ag48 : agB Tryz.prog 48 5 = true := by kernel_rfl
theorem ag50 : agB Tryz.prog 50 12 = true := by kernel_rfl
theorem ag55 : agB Tryz.prog 55 1 = true := by kernel_rfl
theorem ag58 : agB Tryz.prog 58 2 = true := by kernel_rfl
theorem ag59 : agB Tryz.prog 59 2 = true := by kernel_rfl
theorem ag62 : agB Tryz.prog 62 5 = true := by kernel_rfl
theorem ag64 : agB Tryz.prog 64 12 = true := by kernel_rfl
theorem eq134 {a0 a1 a2 a3 b0 b1 b2 b3 : Bool} {w : World} : (Op.equal 134 (.agg [.bool a0, .bool a1, .bool a2, .bool a3].toArray) (.agg [.bool b0, .bool b1, .bool b2, .bool b3].toArray)).run Tryz.prog w = .ok (decide ((a0, a1, a2, a3) = (b0, b1, b2, b3))) w := by
  obtain ⟨i, hi, _⟩ := Option.map_eq_some_iff.1 (by kernel_rfl : (Tryz.prog.info? 4).map (·.size) = some 1)
  exact eq_four Tryz.underlying134 hi (by kernel_rfl) Tryz.underlying4 (by kernel_rfl)
theorem eq157 {a0 a1 b0 b1 : Int} {w : World} : (Op.equal 157 (.agg [.int .i64 a0, .int .i64 a1].toArray) (.agg [.int .i64 b0, .int .i64 b1].toArray)).run Tryz.prog w = .ok (decide ((a0, a1) = (b0, b1))) w := eq_pair Tryz.underlying157 (by kernel_rfl) (by decide) Tryz.underlying2 Tryz.underlying2 (by kernel_rfl) (by kernel_rfl)
theorem fl140_0 : ∀ (ad : Addr) (w : World), (Instr.fieldAt 140 (.pointer (some ad)) 0).run Tryz.prog w = .ok (.pointer (some (ad.add 0))) w := fun _ _ => by kernel_rfl
theorem fl140_1 : ∀ (ad : Addr) (w : World), (Instr.fieldAt 140 (.pointer (some ad)) 1).run Tryz.prog w = .ok (.pointer (some (ad.add 1))) w := fun _ _ => by kernel_rfl
theorem fl140_2 : ∀ (ad : Addr) (w : World), (Instr.fieldAt 140 (.pointer (some ad)) 2).run Tryz.prog w = .ok (.pointer (some (ad.add 2))) w := fun _ _ => by kernel_rfl
theorem fl152_0 : ∀ (ad : Addr) (w : World), (Instr.fieldAt 152 (.pointer (some ad)) 0).run Tryz.prog w = .ok (.pointer (some (ad.add 0))) w := fun _ _ => by kernel_rfl
theorem fl152_1 : ∀ (ad : Addr) (w : World), (Instr.fieldAt 152 (.pointer (some ad)) 1).run Tryz.prog w = .ok (.pointer (some (ad.add 1))) w := fun _ _ => by kernel_rfl
theorem fl152_2 : ∀ (ad : Addr) (w : World), (Instr.fieldAt 152 (.pointer (some ad)) 2).run Tryz.prog w = .ok (.pointer (some (ad.add 2))) w := fun _ _ => by kernel_rfl
theorem fl152_3 : ∀ (ad : Addr) (w : World), (Instr.fieldAt 152 (.pointer (some ad)) 3).run Tryz.prog w = .ok (.pointer (some (ad.add 3))) w := fun _ _ => by kernel_rfl
theorem fl152_4 : ∀ (ad : Addr) (w : World), (Instr.fieldAt 152 (.pointer (some ad)) 4).run Tryz.prog w = .ok (.pointer (some (ad.add 4))) w := fun _ _ => by kernel_rfl
theorem fl157_0 : ∀ (ad : Addr) (w : World), (Instr.fieldAt 157 (.pointer (some ad)) 0).run Tryz.prog w = .ok (.pointer (some (ad.add 0))) w := fun _ _ => by kernel_rfl
theorem fl157_1 : ∀ (ad : Addr) (w : World), (Instr.fieldAt 157 (.pointer (some ad)) 1).run Tryz.prog w = .ok (.pointer (some (ad.add 1))) w := fun _ _ => by kernel_rfl
theorem fl168_0 : ∀ (ad : Addr) (w : World), (Instr.fieldAt 168 (.pointer (some ad)) 0).run Tryz.prog w = .ok (.pointer (some (ad.add 0))) w := fun _ _ => by kernel_rfl
theorem fl168_1 : ∀ (ad : Addr) (w : World), (Instr.fieldAt 168 (.pointer (some ad)) 1).run Tryz.prog w = .ok (.pointer (some (ad.add 1))) w := fun _ _ => by kernel_rfl
theorem fl168_2 : ∀ (ad : Addr) (w : World), (Instr.fieldAt 168 (.pointer (some ad)) 2).run Tryz.prog w = .ok (.pointer (some (ad.add 2))) w := fun _ _ => by kernel_rfl
theorem fl168_3 : ∀ (ad : Addr) (w : World), (Instr.fieldAt 168 (.pointer (some ad)) 3).run Tryz.prog w = .ok (.pointer (some (ad.add 3))) w := fun _ _ => by kernel_rfl
theorem fl168_4 : ∀ (ad : Addr) (w : World), (Instr.fieldAt 168 (.pointer (some ad)) 4).run Tryz.prog w = .ok (.pointer (some (ad.add 4))) w := fun _ _ => by kernel_rfl
theorem fl170_0 : ∀ (ad : Addr) (w : World), (Instr.fieldAt 170 (.pointer (some ad)) 0).run Tryz.prog w = .ok (.pointer (some (ad.add 0))) w := fun _ _ => by kernel_rfl
theorem fl170_1 : ∀ (ad : Addr) (w : World), (Instr.fieldAt 170 (.pointer (some ad)) 1).run Tryz.prog w = .ok (.pointer (some (ad.add 1))) w := fun _ _ => by kernel_rfl
theorem fl170_2 : ∀ (ad : Addr) (w : World), (Instr.fieldAt 170 (.pointer (some ad)) 2).run Tryz.prog w = .ok (.pointer (some (ad.add 2))) w := fun _ _ => by kernel_rfl
theorem fl178_0 : ∀ (ad : Addr) (w : World), (Instr.fieldAt 178 (.pointer (some ad)) 0).run Tryz.prog w = .ok (.pointer (some (ad.add 0))) w := fun _ _ => by kernel_rfl
theorem fl178_1 : ∀ (ad : Addr) (w : World), (Instr.fieldAt 178 (.pointer (some ad)) 1).run Tryz.prog w = .ok (.pointer (some (ad.add 1))) w := fun _ _ => by kernel_rfl
theorem fl200_0 : ∀ (ad : Addr) (w : World), (Instr.fieldAt 200 (.pointer (some ad)) 0).run Tryz.prog w = .ok (.pointer (some (ad.add 0))) w := fun _ _ => by kernel_rfl
theorem fl200_1 : ∀ (ad : Addr) (w : World), (Instr.fieldAt 200 (.pointer (some ad)) 1).run Tryz.prog w = .ok (.pointer (some (ad.add 1))) w := fun _ _ => by kernel_rfl
theorem fl223_0 : ∀ (ad : Addr) (w : World), (Instr.fieldAt 223 (.pointer (some ad)) 0).run Tryz.prog w = .ok (.pointer (some (ad.add 0))) w := fun _ _ => by kernel_rfl
theorem fl223_1 : ∀ (ad : Addr) (w : World), (Instr.fieldAt 223 (.pointer (some ad)) 1).run Tryz.prog w = .ok (.pointer (some (ad.add 1))) w := fun _ _ => by kernel_rfl
theorem fl25_0 : ∀ (ad : Addr) (w : World), (Instr.fieldAt 25 (.pointer (some ad)) 0).run Tryz.prog w = .ok (.pointer (some (ad.add 0))) w := fun _ _ => by kernel_rfl
theorem fl25_1 : ∀ (ad : Addr) (w : World), (Instr.fieldAt 25 (.pointer (some ad)) 1).run Tryz.prog w = .ok (.pointer (some (ad.add 1))) w := fun _ _ => by kernel_rfl
theorem fl25_2 : ∀ (ad : Addr) (w : World), (Instr.fieldAt 25 (.pointer (some ad)) 2).run Tryz.prog w = .ok (.pointer (some (ad.add 2))) w := fun _ _ => by kernel_rfl
theorem fl30_0 : ∀ (ad : Addr) (w : World), (Instr.fieldAt 30 (.pointer (some ad)) 0).run Tryz.prog w = .ok (.pointer (some (ad.add 0))) w := fun _ _ => by kernel_rfl
theorem fl30_1 : ∀ (ad : Addr) (w : World), (Instr.fieldAt 30 (.pointer (some ad)) 1).run Tryz.prog w = .ok (.pointer (some (ad.add 1))) w := fun _ _ => by kernel_rfl
theorem fl30_2 : ∀ (ad : Addr) (w : World), (Instr.fieldAt 30 (.pointer (some ad)) 2).run Tryz.prog w = .ok (.pointer (some (ad.add 2))) w := fun _ _ => by kernel_rfl
theorem fl39_0 : ∀ (ad : Addr) (w : World), (Instr.fieldAt 39 (.pointer (some ad)) 0).run Tryz.prog w = .ok (.pointer (some (ad.add 0))) w := fun _ _ => by kernel_rfl
theorem fl42_0 : ∀ (ad : Addr) (w : World), (Instr.fieldAt 42 (.pointer (some ad)) 0).run Tryz.prog w = .ok (.pointer (some (ad.add 0))) w := fun _ _ => by kernel_rfl
theorem fl42_1 : ∀ (ad : Addr) (w : World), (Instr.fieldAt 42 (.pointer (some ad)) 1).run Tryz.prog w = .ok (.pointer (some (ad.add 1))) w := fun _ _ => by kernel_rfl
theorem fl45_0 : ∀ (ad : Addr) (w : World), (Instr.fieldAt 45 (.pointer (some ad)) 0).run Tryz.prog w = .ok (.pointer (some (ad.add 0))) w := fun _ _ => by kernel_rfl
theorem fl45_1 : ∀ (ad : Addr) (w : World), (Instr.fieldAt 45 (.pointer (some ad)) 1).run Tryz.prog w = .ok (.pointer (some (ad.add 1))) w := fun _ _ => by kernel_rfl
theorem fl48_0 : ∀ (ad : Addr) (w : World), (Instr.fieldAt 48 (.pointer (some ad)) 0).run Tryz.prog w = .ok (.pointer (some (ad.add 0))) w := fun _ _ => by kernel_rfl
theorem fl48_1 : ∀ (ad : Addr) (w : World), (Instr.fieldAt 48 (.pointer (some ad)) 1).run Tryz.prog w = .ok (.pointer (some (ad.add 1))) w := fun _ _ => by kernel_rfl
theorem fl48_2 : ∀ (ad : Addr) (w : World), (Instr.fieldAt 48 (.pointer (some ad)) 2).run Tryz.prog w = .ok (.pointer (some (ad.add 2))) w := fun _ _ => by kernel_rfl
theorem fl48_3 : ∀ (ad : Addr) (w : World), (Instr.fieldAt 48 (.pointer (some ad)) 3).run Tryz.prog w = .ok (.pointer (some (ad.add 3))) w := fun _ _ => by kernel_rfl
theorem fl48_4 : ∀ (ad : Addr) (w : World), (Instr.fieldAt 48 (.pointer (some ad)) 4).run Tryz.prog w = .ok (.pointer (some (ad.add 4))) w := fun _ _ => by kernel_rfl
theorem fl50_0 : ∀ (ad : Addr) (w : World), (Instr.fieldAt 50 (.pointer (some ad)) 0).run Tryz.prog w = .ok (.pointer (some (ad.add 0))) w := fun _ _ => by kernel_rfl
theorem fl50_1 : ∀ (ad : Addr) (w : World), (Instr.fieldAt 50 (.pointer (some ad)) 1).run Tryz.prog w = .ok (.pointer (some (ad.add 1))) w := fun _ _ => by kernel_rfl
theorem fl50_2 : ∀ (ad : Addr) (w : World), (Instr.fieldAt 50 (.pointer (some ad)) 2).run Tryz.prog w = .ok (.pointer (some (ad.add 2))) w := fun _ _ => by kernel_rfl
theorem fl50_3 : ∀ (ad : Addr) (w : World), (Instr.fieldAt 50 (.pointer (some ad)) 3).run Tryz.prog w = .ok (.pointer (some (ad.add 3))) w := fun _ _ => by kernel_rfl
theorem fl50_4 : ∀ (ad : Addr) (w : World), (Instr.fieldAt 50 (.pointer (some ad)) 4).run Tryz.prog w = .ok (.pointer (some (ad.add 5))) w := fun _ _ => by kernel_rfl
theorem fl50_5 : ∀ (ad : Addr) (w : World), (Instr.fieldAt 50 (.pointer (some ad)) 5).run Tryz.prog w = .ok (.pointer (some (ad.add 7))) w := fun _ _ => by kernel_rfl
theorem fl55_0 : ∀ (ad : Addr) (w : World), (Instr.fieldAt 55 (.pointer (some ad)) 0).run Tryz.prog w = .ok (.pointer (some (ad.add 0))) w := fun _ _ => by kernel_rfl
theorem fl58_0 : ∀ (ad : Addr) (w : World), (Instr.fieldAt 58 (.pointer (some ad)) 0).run Tryz.prog w = .ok (.pointer (some (ad.add 0))) w := fun _ _ => by kernel_rfl
theorem fl58_1 : ∀ (ad : Addr) (w : World), (Instr.fieldAt 58 (.pointer (some ad)) 1).run Tryz.prog w = .ok (.pointer (some (ad.add 1))) w := fun _ _ => by kernel_rfl
theorem fl59_0 : ∀ (ad : Addr) (w : World), (Instr.fieldAt 59 (.pointer (some ad)) 0).run Tryz.prog w = .ok (.pointer (some (ad.add 0))) w := fun _ _ => by kernel_rfl
theorem fl59_1 : ∀ (ad : Addr) (w : World), (Instr.fieldAt 59 (.pointer (some ad)) 1).run Tryz.prog w = .ok (.pointer (some (ad.add 1))) w := fun _ _ => by kernel_rfl
theorem fl62_0 : ∀ (ad : Addr) (w : World), (Instr.fieldAt 62 (.pointer (some ad)) 0).run Tryz.prog w = .ok (.pointer (some (ad.add 0))) w := fun _ _ => by kernel_rfl
theorem fl62_1 : ∀ (ad : Addr) (w : World), (Instr.fieldAt 62 (.pointer (some ad)) 1).run Tryz.prog w = .ok (.pointer (some (ad.add 1))) w := fun _ _ => by kernel_rfl
theorem fl62_2 : ∀ (ad : Addr) (w : World), (Instr.fieldAt 62 (.pointer (some ad)) 2).run Tryz.prog w = .ok (.pointer (some (ad.add 2))) w := fun _ _ => by kernel_rfl
theorem fl62_3 : ∀ (ad : Addr) (w : World), (Instr.fieldAt 62 (.pointer (some ad)) 3).run Tryz.prog w = .ok (.pointer (some (ad.add 3))) w := fun _ _ => by kernel_rfl
theorem fl62_4 : ∀ (ad : Addr) (w : World), (Instr.fieldAt 62 (.pointer (some ad)) 4).run Tryz.prog w = .ok (.pointer (some (ad.add 4))) w := fun _ _ => by kernel_rfl
theorem fl64_0 : ∀ (ad : Addr) (w : World), (Instr.fieldAt 64 (.pointer (some ad)) 0).run Tryz.prog w = .ok (.pointer (some (ad.add 0))) w := fun _ _ => by kernel_rfl
theorem fl64_1 : ∀ (ad : Addr) (w : World), (Instr.fieldAt 64 (.pointer (some ad)) 1).run Tryz.prog w = .ok (.pointer (some (ad.add 1))) w := fun _ _ => by kernel_rfl
theorem fl64_2 : ∀ (ad : Addr) (w : World), (Instr.fieldAt 64 (.pointer (some ad)) 2).run Tryz.prog w = .ok (.pointer (some (ad.add 2))) w := fun _ _ => by kernel_rfl
theorem fl64_3 : ∀ (ad : Addr) (w : World), (Instr.fieldAt 64 (.pointer (some ad)) 3).run Tryz.prog w = .ok (.pointer (some (ad.add 3))) w := fun _ _ => by kernel_rfl
theorem fl64_4 : ∀ (ad : Addr) (w : World), (Instr.fieldAt 64 (.pointer (some ad)) 4).run Tryz.prog w = .ok (.pointer (some (ad.add 5))) w := fun _ _ => by kernel_rfl
theorem fl64_5 : ∀ (ad : Addr) (w : World), (Instr.fieldAt 64 (.pointer (some ad)) 5).run Tryz.prog w = .ok (.pointer (some (ad.add 7))) w := fun _ _ => by kernel_rfl
theorem inf140 : (Tryz.prog.info? 140).map (fun i => (i.zero, i.size, i.bytes)) = some (some (.agg #[.int .i64 0, .int .i64 0, .int .i64 0]), 3, 24) := by kernel_rfl
theorem inf150 : (Tryz.prog.info? 150).map (fun i => (i.zero, i.size, i.bytes)) = some (some (.slice none 0 0), 1, 24) := by kernel_rfl
theorem inf152 : (Tryz.prog.info? 152).map (fun i => (i.zero, i.size, i.bytes)) = some (some (.agg #[.int .i64 0, .int .i64 0, .int .i64 0, .int .i64 0, .int .i64 0]), 5, 40) := by kernel_rfl
theorem inf157 : (Tryz.prog.info? 157).map (fun i => (i.zero, i.size, i.bytes)) = some (some (.agg #[.int .i64 0, .int .i64 0]), 2, 16) := by kernel_rfl
theorem inf2 : (Tryz.prog.info? 2).map (fun i => (i.zero, i.size, i.bytes)) = some (some (.int .i64 0), 1, 8) := by kernel_rfl
theorem inf223 : (Tryz.prog.info? 223).map (fun i => (i.zero, i.size, i.bytes)) = some (some (.agg #[.int .i64 0, .int .i64 0]), 2, 16) := by kernel_rfl
theorem inf27 : (Tryz.prog.info? 27).map (fun i => (i.zero, i.size, i.bytes)) = some (some (.slice none 0 0), 1, 24) := by kernel_rfl
theorem inf4 : (Tryz.prog.info? 4).map (fun i => (i.zero, i.size, i.bytes)) = some (some (.bool false), 1, 1) := by kernel_rfl
theorem inf43 : (Tryz.prog.info? 43).map (fun i => (i.zero, i.size, i.bytes)) = some (some (.slice none 0 0), 1, 24) := by kernel_rfl
theorem inf64 : (Tryz.prog.info? 64).map (fun i => (i.zero, i.size, i.bytes)) = some (some (.agg #[.string ByteArray.empty, .int .i64 0, .slice none 0 0, .slice none 0 0, .int .i64 0, .int .i64 0, .slice none 0 0, .int .i64 0, .int .i64 0, .slice none 0 0, .slice none 0 0, .slice none 0 0]), 12, 200) := by kernel_rfl
theorem na150 : naB Tryz.prog 150 = true := by kernel_rfl
theorem na154 : naB Tryz.prog 154 = true := by kernel_rfl
theorem na176 : naB Tryz.prog 176 = true := by kernel_rfl
theorem na2 : naB Tryz.prog 2 = true := by kernel_rfl
theorem na22 : naB Tryz.prog 22 = true := by kernel_rfl
theorem na23 : naB Tryz.prog 23 = true := by kernel_rfl
theorem na27 : naB Tryz.prog 27 = true := by kernel_rfl
theorem na28 : naB Tryz.prog 28 = true := by kernel_rfl
theorem na37 : naB Tryz.prog 37 = true := by kernel_rfl
theorem na4 : naB Tryz.prog 4 = true := by kernel_rfl
theorem na40 : naB Tryz.prog 40 = true := by kernel_rfl
theorem na43 : naB Tryz.prog 43 = true := by kernel_rfl
theorem na46 : naB Tryz.prog 46 = true := by kernel_rfl
theorem na53 : naB Tryz.prog 53 = true := by kernel_rfl
theorem na56 : naB Tryz.prog 56 = true := by kernel_rfl
theorem na60 : naB Tryz.prog 60 = true := by kernel_rfl
theorem na9 : naB Tryz.prog 9 = true := by kernel_rfl
theorem ng134 : Tryz.prog.eqGuardType Tryz.prog.depth 134 = false := by kernel_rfl
theorem ng157 : Tryz.prog.eqGuardType Tryz.prog.depth 157 = false := by kernel_rfl
theorem sz140 : (Tryz.prog.info? 140).map (·.size) = some 3 := by kernel_rfl
theorem sz150 : (Tryz.prog.info? 150).map (·.size) = some 1 := by kernel_rfl
theorem sz152 : (Tryz.prog.info? 152).map (·.size) = some 5 := by kernel_rfl
theorem sz154 : (Tryz.prog.info? 154).map (·.size) = some 1 := by kernel_rfl
theorem sz157 : (Tryz.prog.info? 157).map (·.size) = some 2 := by kernel_rfl
theorem sz168 : (Tryz.prog.info? 168).map (·.size) = some 5 := by kernel_rfl
theorem sz170 : (Tryz.prog.info? 170).map (·.size) = some 3 := by kernel_rfl
theorem sz2 : (Tryz.prog.info? 2).map (·.size) = some 1 := by kernel_rfl
theorem sz200 : (Tryz.prog.info? 200).map (·.size) = some 2 := by kernel_rfl
theorem sz22 : (Tryz.prog.info? 22).map (·.size) = some 1 := by kernel_rfl
theorem sz223 : (Tryz.prog.info? 223).map (·.size) = some 2 := by kernel_rfl
theorem sz27 : (Tryz.prog.info? 27).map (·.size) = some 1 := by kernel_rfl
theorem sz28 : (Tryz.prog.info? 28).map (·.size) = some 1 := by kernel_rfl
theorem sz4 : (Tryz.prog.info? 4).map (·.size) = some 1 := by kernel_rfl
theorem sz50 : (Tryz.prog.info? 50).map (·.size) = some 12 := by kernel_rfl
theorem sz64 : (Tryz.prog.info? 64).map (·.size) = some 12 := by kernel_rfl
theorem sz9 : (Tryz.prog.info? 9).map (·.size) = some 1 := by kernel_rfl
theorem zr134 : (Tryz.prog.info? 134).map (·.zero) = some (some (.agg #[.bool false, .bool false, .bool false, .bool false])) := by kernel_rfl
theorem zr140 : (Tryz.prog.info? 140).map (·.zero) = some (some (.agg #[.int .i64 0, .int .i64 0, .int .i64 0])) := by kernel_rfl
theorem zr152 : (Tryz.prog.info? 152).map (·.zero) = some (some (.agg #[.int .i64 0, .int .i64 0, .int .i64 0, .int .i64 0, .int .i64 0])) := by kernel_rfl
theorem zr157 : (Tryz.prog.info? 157).map (·.zero) = some (some (.agg #[.int .i64 0, .int .i64 0])) := by kernel_rfl
theorem zr178 : (Tryz.prog.info? 178).map (·.zero) = some (some (.agg #[.slice none 0 0, .slice none 0 0])) := by kernel_rfl
theorem zr2 : (Tryz.prog.info? 2).map (·.zero) = some (some (.int .i64 0)) := by kernel_rfl
theorem zr218 : (Tryz.prog.info? 218).map (·.zero) = some (some (.agg #[.int .i64 0, .int .i64 0, .int .i64 0, .int .i64 0])) := by kernel_rfl
theorem zr223 : (Tryz.prog.info? 223).map (·.zero) = some (some (.agg #[.int .i64 0, .int .i64 0])) := by kernel_rfl
theorem zr242 : (Tryz.prog.info? 242).map (·.zero) = some (some (.agg #[.int .u8 0, .int .u8 0, .int .u8 0, .int .u8 0, .int .u8 0, .int .u8 0, .int .u8 0, .int .u8 0, .int .u8 0, .int .u8 0, .int .u8 0, .int .u8 0, .int .u8 0, .int .u8 0, .int .u8 0, .int .u8 0, .int .u8 0, .int .u8 0, .int .u8 0, .int .u8 0, .int .u8 0, .int .u8 0, .int .u8 0, .int .u8 0])) := by kernel_rfl
theorem zr30 : (Tryz.prog.info? 30).map (·.zero) = some (some (.agg #[.slice none 0 0, .slice none 0 0, .slice none 0 0])) := by kernel_rfl
theorem zr55 : (Tryz.prog.info? 55).map (·.zero) = some (some (.agg #[.slice none 0 0])) := by kernel_rfl
theorem zr58 : (Tryz.prog.info? 58).map (·.zero) = some (some (.agg #[.slice none 0 0, .int .i64 0])) := by kernel_rfl
theorem zr59 : (Tryz.prog.info? 59).map (·.zero) = some (some (.agg #[.int .i64 0, .slice none 0 0])) := by kernel_rfl
theorem zr62 : (Tryz.prog.info? 62).map (·.zero) = some (some (.agg #[.int .i64 0, .int .i64 0, .slice none 0 0, .slice none 0 0, .slice none 0 0])) := by kernel_rfl
theorem zr64 : (Tryz.prog.info? 64).map (·.zero) = some (some (.agg #[.string ByteArray.empty, .int .i64 0, .slice none 0 0, .slice none 0 0, .int .i64 0, .int .i64 0, .slice none 0 0, .int .i64 0, .int .i64 0, .slice none 0 0, .slice none 0 0, .slice none 0 0])) := by kernel_rfl
theorem fok5 : FOK Tryz.f5 := ⟨by kernel_rfl, rfl⟩
theorem fok6 : FOK Tryz.f6 := ⟨by kernel_rfl, rfl⟩
theorem fok7 : FOK Tryz.f7 := ⟨by kernel_rfl, rfl⟩
theorem fok8 : FOK Tryz.f8 := ⟨by kernel_rfl, rfl⟩
theorem fok9 : FOK Tryz.f9 := ⟨by kernel_rfl, rfl⟩
theorem fok10 : FOK Tryz.f10 := ⟨by kernel_rfl, rfl⟩
theorem fok11 : FOK Tryz.f11 := ⟨by kernel_rfl, rfl⟩
theorem fok12 : FOK Tryz.f12 := ⟨by kernel_rfl, rfl⟩
theorem fok14 : FOK Tryz.f14 := ⟨by kernel_rfl, rfl⟩
theorem fok16 : FOK Tryz.f16 := ⟨by kernel_rfl, rfl⟩
theorem fok18 : FOK Tryz.f18 := ⟨by kernel_rfl, rfl⟩
theorem fok19 : FOK Tryz.f19 := ⟨by kernel_rfl, rfl⟩
theorem fok20 : FOK Tryz.f20 := ⟨by kernel_rfl, rfl⟩
theorem fok21 : FOK Tryz.f21 := ⟨by kernel_rfl, rfl⟩
theorem fok22 : FOK Tryz.f22 := ⟨by kernel_rfl, rfl⟩
theorem fok23 : FOK Tryz.f23 := ⟨by kernel_rfl, rfl⟩
theorem fok24 : FOK Tryz.f24 := ⟨by kernel_rfl, rfl⟩
theorem fok25 : FOK Tryz.f25 := ⟨by kernel_rfl, rfl⟩
theorem fok26 : FOK Tryz.f26 := ⟨by kernel_rfl, rfl⟩
theorem fok27 : FOK Tryz.f27 := ⟨by kernel_rfl, rfl⟩
theorem fok28 : FOK Tryz.f28 := ⟨by kernel_rfl, rfl⟩
theorem fok29 : FOK Tryz.f29 := ⟨by kernel_rfl, rfl⟩
theorem fok30 : FOK Tryz.f30 := ⟨by kernel_rfl, rfl⟩
theorem fok31 : FOK Tryz.f31 := ⟨by kernel_rfl, rfl⟩
theorem fok32 : FOK Tryz.f32 := ⟨by kernel_rfl, rfl⟩
theorem fok33 : FOK Tryz.f33 := ⟨by kernel_rfl, rfl⟩
theorem fok34 : FOK Tryz.f34 := ⟨by kernel_rfl, rfl⟩
theorem fok35 : FOK Tryz.f35 := ⟨by kernel_rfl, rfl⟩
theorem fok36 : FOK Tryz.f36 := ⟨by kernel_rfl, rfl⟩
theorem fok37 : FOK Tryz.f37 := ⟨by kernel_rfl, rfl⟩
theorem fok38 : FOK Tryz.f38 := ⟨by kernel_rfl, rfl⟩
theorem fok39 : FOK Tryz.f39 := ⟨by kernel_rfl, rfl⟩
theorem fok40 : FOK Tryz.f40 := ⟨by kernel_rfl, rfl⟩
theorem fok41 : FOK Tryz.f41 := ⟨by kernel_rfl, rfl⟩
theorem fok42 : FOK Tryz.f42 := ⟨by kernel_rfl, rfl⟩
theorem fok43 : FOK Tryz.f43 := ⟨by kernel_rfl, rfl⟩
theorem fok44 : FOK Tryz.f44 := ⟨by kernel_rfl, rfl⟩
theorem fok45 : FOK Tryz.f45 := ⟨by kernel_rfl, rfl⟩
theorem fok46 : FOK Tryz.f46 := ⟨by kernel_rfl, rfl⟩
theorem fok47 : FOK Tryz.f47 := ⟨by kernel_rfl, rfl⟩
theorem fok48 : FOK Tryz.f48 := ⟨by kernel_rfl, rfl⟩
theorem fok49 : FOK Tryz.f49 := ⟨by kernel_rfl, rfl⟩
theorem fok51 : FOK Tryz.f51 := ⟨by kernel_rfl, rfl⟩
theorem fok52 : FOK Tryz.f52 := ⟨by kernel_rfl, rfl⟩
theorem fok53 : FOK Tryz.f53 := ⟨by kernel_rfl, rfl⟩
theorem fok54 : FOK Tryz.f54 := ⟨by kernel_rfl, rfl⟩
theorem fok59 : FOK Tryz.f59 := ⟨by kernel_rfl, rfl⟩
theorem fok60 : FOK Tryz.f60 := ⟨by kernel_rfl, rfl⟩
theorem fok61 : FOK Tryz.f61 := ⟨by kernel_rfl, rfl⟩
theorem fok62 : FOK Tryz.f62 := ⟨by kernel_rfl, rfl⟩
theorem fok63 : FOK Tryz.f63 := ⟨by kernel_rfl, rfl⟩
theorem fok64 : FOK Tryz.f64 := ⟨by kernel_rfl, rfl⟩
theorem fok65 : FOK Tryz.f65 := ⟨by kernel_rfl, rfl⟩
theorem fok66 : FOK Tryz.f66 := ⟨by kernel_rfl, rfl⟩
theorem fok67 : FOK Tryz.f67 := ⟨by kernel_rfl, rfl⟩
theorem fok68 : FOK Tryz.f68 := ⟨by kernel_rfl, rfl⟩
theorem fok69 : FOK Tryz.f69 := ⟨by kernel_rfl, rfl⟩
theorem fok70 : FOK Tryz.f70 := ⟨by kernel_rfl, rfl⟩
theorem fok71 : FOK Tryz.f71 := ⟨by kernel_rfl, rfl⟩
theorem fok72 : FOK Tryz.f72 := ⟨by kernel_rfl, rfl⟩
theorem fok73 : FOK Tryz.f73 := ⟨by kernel_rfl, rfl⟩
theorem fok74 : FOK Tryz.f74 := ⟨by kernel_rfl, rfl⟩
theorem fok75 : FOK Tryz.f75 := ⟨by kernel_rfl, rfl⟩
theorem fok76 : FOK Tryz.f76 := ⟨by kernel_rfl, rfl⟩
theorem fok77 : FOK Tryz.f77 := ⟨by kernel_rfl, rfl⟩
theorem fok78 : FOK Tryz.f78 := ⟨by kernel_rfl, rfl⟩
theorem fok79 : FOK Tryz.f79 := ⟨by kernel_rfl, rfl⟩
theorem fok80 : FOK Tryz.f80 := ⟨by kernel_rfl, rfl⟩
theorem fok81 : FOK Tryz.f81 := ⟨by kernel_rfl, rfl⟩
theorem fok82 : FOK Tryz.f82 := ⟨by kernel_rfl, rfl⟩
theorem fok83 : FOK Tryz.f83 := ⟨by kernel_rfl, rfl⟩
theorem fok84 : FOK Tryz.f84 := ⟨by kernel_rfl, rfl⟩
theorem fok85 : FOK Tryz.f85 := ⟨by kernel_rfl, rfl⟩
theorem fok86 : FOK Tryz.f86 := ⟨by kernel_rfl, rfl⟩
theorem fok87 : FOK Tryz.f87 := ⟨by kernel_rfl, rfl⟩
theorem fok88 : FOK Tryz.f88 := ⟨by kernel_rfl, rfl⟩
theorem fok89 : FOK Tryz.f89 := ⟨by kernel_rfl, rfl⟩
theorem fok90 : FOK Tryz.f90 := ⟨by kernel_rfl, rfl⟩
theorem fok91 : FOK Tryz.f91 := ⟨by kernel_rfl, rfl⟩
theorem fok92 : FOK Tryz.f92 := ⟨by kernel_rfl, rfl⟩
theorem fok93 : FOK Tryz.f93 := ⟨by kernel_rfl, rfl⟩
theorem fok94 : FOK Tryz.f94 := ⟨by kernel_rfl, rfl⟩
theorem fok95 : FOK Tryz.f95 := ⟨by kernel_rfl, rfl⟩
theorem fok96 : FOK Tryz.f96 := ⟨by kernel_rfl, rfl⟩
theorem fok97 : FOK Tryz.f97 := ⟨by kernel_rfl, rfl⟩
theorem fok98 : FOK Tryz.f98 := ⟨by kernel_rfl, rfl⟩
theorem fok99 : FOK Tryz.f99 := ⟨by kernel_rfl, rfl⟩
theorem fok100 : FOK Tryz.f100 := ⟨by kernel_rfl, rfl⟩
theorem fok101 : FOK Tryz.f101 := ⟨by kernel_rfl, rfl⟩
theorem fok102 : FOK Tryz.f102 := ⟨by kernel_rfl, rfl⟩
theorem fok103 : FOK Tryz.f103 := ⟨by kernel_rfl, rfl⟩
theorem fok104 : FOK Tryz.f104 := ⟨by kernel_rfl, rfl⟩
theorem fok105 : FOK Tryz.f105 := ⟨by kernel_rfl, rfl⟩
theorem fok106 : FOK Tryz.f106 := ⟨by kernel_rfl, rfl⟩
theorem fok109 : FOK Tryz.f109 := ⟨by kernel_rfl, rfl⟩
theorem fok110 : FOK Tryz.f110 := ⟨by kernel_rfl, rfl⟩
theorem fok111 : FOK Tryz.f111 := ⟨by kernel_rfl, rfl⟩
theorem fok112 : FOK Tryz.f112 := ⟨by kernel_rfl, rfl⟩
theorem fok113 : FOK Tryz.f113 := ⟨by kernel_rfl, rfl⟩
theorem fok114 : FOK Tryz.f114 := ⟨by kernel_rfl, rfl⟩
theorem fok115 : FOK Tryz.f115 := ⟨by kernel_rfl, rfl⟩
theorem fok116 : FOK Tryz.f116 := ⟨by kernel_rfl, rfl⟩
theorem fok117 : FOK Tryz.f117 := ⟨by kernel_rfl, rfl⟩
theorem fok118 : FOK Tryz.f118 := ⟨by kernel_rfl, rfl⟩
theorem fok119 : FOK Tryz.f119 := ⟨by kernel_rfl, rfl⟩
theorem fok120 : FOK Tryz.f120 := ⟨by kernel_rfl, rfl⟩
theorem fok121 : FOK Tryz.f121 := ⟨by kernel_rfl, rfl⟩
theorem fok122 : FOK Tryz.f122 := ⟨by kernel_rfl, rfl⟩
theorem fok123 : FOK Tryz.f123 := ⟨by kernel_rfl, rfl⟩
theorem fok124 : FOK Tryz.f124 := ⟨by kernel_rfl, rfl⟩
theorem fok125 : FOK Tryz.f125 := ⟨by kernel_rfl, rfl⟩
theorem fok126 : FOK Tryz.f126 := ⟨by kernel_rfl, rfl⟩
theorem fok127 : FOK Tryz.f127 := ⟨by kernel_rfl, rfl⟩
theorem fok128 : FOK Tryz.f128 := ⟨by kernel_rfl, rfl⟩
theorem fok129 : FOK Tryz.f129 := ⟨by kernel_rfl, rfl⟩
theorem fok130 : FOK Tryz.f130 := ⟨by kernel_rfl, rfl⟩
theorem fok131 : FOK Tryz.f131 := ⟨by kernel_rfl, rfl⟩
theorem fok132 : FOK Tryz.f132 := ⟨by kernel_rfl, rfl⟩
theorem fok133 : FOK Tryz.f133 := ⟨by kernel_rfl, rfl⟩
theorem fok134 : FOK Tryz.f134 := ⟨by kernel_rfl, rfl⟩
theorem fok135 : FOK Tryz.f135 := ⟨by kernel_rfl, rfl⟩
theorem fok136 : FOK Tryz.f136 := ⟨by kernel_rfl, rfl⟩
theorem fok137 : FOK Tryz.f137 := ⟨by kernel_rfl, rfl⟩
theorem fok138 : FOK Tryz.f138 := ⟨by kernel_rfl, rfl⟩
theorem fok139 : FOK Tryz.f139 := ⟨by kernel_rfl, rfl⟩
theorem fok140 : FOK Tryz.f140 := ⟨by kernel_rfl, rfl⟩
theorem fok141 : FOK Tryz.f141 := ⟨by kernel_rfl, rfl⟩
theorem fok142 : FOK Tryz.f142 := ⟨by kernel_rfl, rfl⟩
theorem fok143 : FOK Tryz.f143 := ⟨by kernel_rfl, rfl⟩
theorem fok144 : FOK Tryz.f144 := ⟨by kernel_rfl, rfl⟩
theorem fok145 : FOK Tryz.f145 := ⟨by kernel_rfl, rfl⟩
theorem fok146 : FOK Tryz.f146 := ⟨by kernel_rfl, rfl⟩
theorem fok147 : FOK Tryz.f147 := ⟨by kernel_rfl, rfl⟩
theorem fok148 : FOK Tryz.f148 := ⟨by kernel_rfl, rfl⟩
theorem fok149 : FOK Tryz.f149 := ⟨by kernel_rfl, rfl⟩
theorem fok150 : FOK Tryz.f150 := ⟨by kernel_rfl, rfl⟩
theorem fok151 : FOK Tryz.f151 := ⟨by kernel_rfl, rfl⟩
theorem fok152 : FOK Tryz.f152 := ⟨by kernel_rfl, rfl⟩
theorem fok153 : FOK Tryz.f153 := ⟨by kernel_rfl, rfl⟩
theorem fok154 : FOK Tryz.f154 := ⟨by kernel_rfl, rfl⟩
theorem fok156 : FOK Tryz.f156 := ⟨by kernel_rfl, rfl⟩
theorem fok157 : FOK Tryz.f157 := ⟨by kernel_rfl, rfl⟩
theorem fok158 : FOK Tryz.f158 := ⟨by kernel_rfl, rfl⟩
theorem fok160 : FOK Tryz.f160 := ⟨by kernel_rfl, rfl⟩
theorem fok161 : FOK Tryz.f161 := ⟨by kernel_rfl, rfl⟩
theorem fok162 : FOK Tryz.f162 := ⟨by kernel_rfl, rfl⟩
theorem fok163 : FOK Tryz.f163 := ⟨by kernel_rfl, rfl⟩
theorem fok164 : FOK Tryz.f164 := ⟨by kernel_rfl, rfl⟩
theorem fok165 : FOK Tryz.f165 := ⟨by kernel_rfl, rfl⟩
theorem fok166 : FOK Tryz.f166 := ⟨by kernel_rfl, rfl⟩
theorem fok167 : FOK Tryz.f167 := ⟨by kernel_rfl, rfl⟩
theorem fok168 : FOK Tryz.f168 := ⟨by kernel_rfl, rfl⟩
theorem fok169 : FOK Tryz.f169 := ⟨by kernel_rfl, rfl⟩
theorem fok170 : FOK Tryz.f170 := ⟨by kernel_rfl, rfl⟩
theorem fok171 : FOK Tryz.f171 := ⟨by kernel_rfl, rfl⟩
theorem fok172 : FOK Tryz.f172 := ⟨by kernel_rfl, rfl⟩
theorem fok173 : FOK Tryz.f173 := ⟨by kernel_rfl, rfl⟩
theorem fok174 : FOK Tryz.f174 := ⟨by kernel_rfl, rfl⟩
theorem fok175 : FOK Tryz.f175 := ⟨by kernel_rfl, rfl⟩
theorem fok176 : FOK Tryz.f176 := ⟨by kernel_rfl, rfl⟩
theorem fok177 : FOK Tryz.f177 := ⟨by kernel_rfl, rfl⟩
theorem fok178 : FOK Tryz.f178 := ⟨by kernel_rfl, rfl⟩
theorem fok179 : FOK Tryz.f179 := ⟨by kernel_rfl, rfl⟩
theorem fok180 : FOK Tryz.f180 := ⟨by kernel_rfl, rfl⟩
theorem fok181 : FOK Tryz.f181 := ⟨by kernel_rfl, rfl⟩
theorem fok182 : FOK Tryz.f182 := ⟨by kernel_rfl, rfl⟩
theorem fok183 : FOK Tryz.f183 := ⟨by kernel_rfl, rfl⟩
theorem fok184 : FOK Tryz.f184 := ⟨by kernel_rfl, rfl⟩
theorem fok185 : FOK Tryz.f185 := ⟨by kernel_rfl, rfl⟩
theorem fok186 : FOK Tryz.f186 := ⟨by kernel_rfl, rfl⟩
theorem fok188 : FOK Tryz.f188 := ⟨by kernel_rfl, rfl⟩
theorem fok189 : FOK Tryz.f189 := ⟨by kernel_rfl, rfl⟩
theorem fok190 : FOK Tryz.f190 := ⟨by kernel_rfl, rfl⟩
theorem fok191 : FOK Tryz.f191 := ⟨by kernel_rfl, rfl⟩
theorem fok192 : FOK Tryz.f192 := ⟨by kernel_rfl, rfl⟩
theorem fok193 : FOK Tryz.f193 := ⟨by kernel_rfl, rfl⟩
theorem fok194 : FOK Tryz.f194 := ⟨by kernel_rfl, rfl⟩
theorem fok195 : FOK Tryz.f195 := ⟨by kernel_rfl, rfl⟩
theorem fok196 : FOK Tryz.f196 := ⟨by kernel_rfl, rfl⟩
theorem fok197 : FOK Tryz.f197 := ⟨by kernel_rfl, rfl⟩
theorem fok198 : FOK Tryz.f198 := ⟨by kernel_rfl, rfl⟩
theorem fok199 : FOK Tryz.f199 := ⟨by kernel_rfl, rfl⟩
theorem fok200 : FOK Tryz.f200 := ⟨by kernel_rfl, rfl⟩
theorem fok201 : FOK Tryz.f201 := ⟨by kernel_rfl, rfl⟩
theorem fok202 : FOK Tryz.f202 := ⟨by kernel_rfl, rfl⟩
theorem fok203 : FOK Tryz.f203 := ⟨by kernel_rfl, rfl⟩
theorem fok204 : FOK Tryz.f204 := ⟨by kernel_rfl, rfl⟩
theorem fok205 : FOK Tryz.f205 := ⟨by kernel_rfl, rfl⟩
theorem fok206 : FOK Tryz.f206 := ⟨by kernel_rfl, rfl⟩
theorem fok207 : FOK Tryz.f207 := ⟨by kernel_rfl, rfl⟩
theorem fok208 : FOK Tryz.f208 := ⟨by kernel_rfl, rfl⟩
theorem fok210 : FOK Tryz.f210 := ⟨by kernel_rfl, rfl⟩
theorem fok211 : FOK Tryz.f211 := ⟨by kernel_rfl, rfl⟩
theorem mixed : Tryz.prog.follows .mixedOrders = true := by kernel_rfl
end Go.Proofs.YtkmeepgpmppibaaGreatDoor
