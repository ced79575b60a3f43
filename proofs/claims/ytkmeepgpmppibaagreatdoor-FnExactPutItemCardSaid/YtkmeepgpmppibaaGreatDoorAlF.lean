/-
  What the translation says of its types and functions.
-/
import Derived.Test.YtkmeepgpmppibaaGreatDoorProg
import Derived.Test.YtkmeepgpmppibaaGreatDoorAlM
set_option linter.unusedVariables false
set_option linter.unusedSimpArgs false
namespace Go.Proofs.YtkmeepgpmppibaaGreatDoor
open Go.RowKit
theorem Vn : agB Tryz.prog 134 4 = true := by kernel_rfl
theorem Ta : agB Tryz.prog 140 3 = true := by kernel_rfl
theorem Me : agB Tryz.prog 152 5 = true := by kernel_rfl
theorem Ma : agB Tryz.prog 157 2 = true := by kernel_rfl
theorem xB : agB Tryz.prog 168 5 = true := by kernel_rfl
theorem xD : agB Tryz.prog 170 3 = true := by kernel_rfl
theorem Kg : agB Tryz.prog 178 2 = true := by kernel_rfl
theorem xZ : agB Tryz.prog 200 2 = true := by kernel_rfl
theorem Yq : agB Tryz.prog 218 4 = true := by kernel_rfl
theorem Q5 : agB Tryz.prog 223 2 = true := by kernel_rfl
theorem nQ : agB Tryz.prog 25 3 = true := by kernel_rfl
theorem Km : agB Tryz.prog 30 3 = true := by kernel_rfl
theorem xI : agB Tryz.prog 39 1 = true := by kernel_rfl
theorem wU : agB Tryz.prog 42 2 = true := by kernel_rfl
theorem xJ : agB Tryz.prog 45 2 = true := by kernel_rfl
theorem xU : agB Tryz.prog 48 5 = true := by kernel_rfl
theorem bZ : agB Tryz.prog 50 12 = true := by kernel_rfl
theorem Oc : agB Tryz.prog 55 1 = true := by kernel_rfl
theorem Np : agB Tryz.prog 58 2 = true := by kernel_rfl
theorem Rz : agB Tryz.prog 59 2 = true := by kernel_rfl
theorem Qn : agB Tryz.prog 62 5 = true := by kernel_rfl
theorem Mq : agB Tryz.prog 64 12 = true := by kernel_rfl
theorem eP {a0 a1 a2 a3 b0 b1 b2 b3 : Bool} {w : World} : (Op.equal 134 (.agg [.bool a0, .bool a1, .bool a2, .bool a3].toArray) (.agg [.bool b0, .bool b1, .bool b2, .bool b3].toArray)).run Tryz.prog w = .ok (decide ((a0, a1, a2, a3) = (b0, b1, b2, b3))) w := by
  obtain ⟨i, hi, _⟩ := Option.map_eq_some_iff.1 (by kernel_rfl : (Tryz.prog.info? 4).map (·.size) = some 1)
  exact rR Tryz.underlying134 hi (by kernel_rfl) Tryz.underlying4 (by kernel_rfl)
theorem Yg {a0 a1 b0 b1 : Int} {w : World} : (Op.equal 157 (.agg [.int .i64 a0, .int .i64 a1].toArray) (.agg [.int .i64 b0, .int .i64 b1].toArray)).run Tryz.prog w = .ok (decide ((a0, a1) = (b0, b1))) w := qM Tryz.underlying157 (by kernel_rfl) (by decide) Tryz.underlying2 Tryz.underlying2 (by kernel_rfl) (by kernel_rfl)
theorem Nj : ∀ (ad : Addr) (w : World), (Instr.fieldAt 140 (.pointer (some ad)) 0).run Tryz.prog w = .ok (.pointer (some (ad.add 0))) w := fun _ _ => by kernel_rfl
theorem Nz : ∀ (ad : Addr) (w : World), (Instr.fieldAt 140 (.pointer (some ad)) 1).run Tryz.prog w = .ok (.pointer (some (ad.add 1))) w := fun _ _ => by kernel_rfl
theorem O7 : ∀ (ad : Addr) (w : World), (Instr.fieldAt 140 (.pointer (some ad)) 2).run Tryz.prog w = .ok (.pointer (some (ad.add 2))) w := fun _ _ => by kernel_rfl
theorem Qf : ∀ (ad : Addr) (w : World), (Instr.fieldAt 152 (.pointer (some ad)) 0).run Tryz.prog w = .ok (.pointer (some (ad.add 0))) w := fun _ _ => by kernel_rfl
theorem Qj : ∀ (ad : Addr) (w : World), (Instr.fieldAt 152 (.pointer (some ad)) 1).run Tryz.prog w = .ok (.pointer (some (ad.add 1))) w := fun _ _ => by kernel_rfl
theorem Qg : ∀ (ad : Addr) (w : World), (Instr.fieldAt 152 (.pointer (some ad)) 2).run Tryz.prog w = .ok (.pointer (some (ad.add 2))) w := fun _ _ => by kernel_rfl
theorem Qd : ∀ (ad : Addr) (w : World), (Instr.fieldAt 152 (.pointer (some ad)) 3).run Tryz.prog w = .ok (.pointer (some (ad.add 3))) w := fun _ _ => by kernel_rfl
theorem Lg : ∀ (ad : Addr) (w : World), (Instr.fieldAt 152 (.pointer (some ad)) 4).run Tryz.prog w = .ok (.pointer (some (ad.add 4))) w := fun _ _ => by kernel_rfl
theorem J2 : ∀ (ad : Addr) (w : World), (Instr.fieldAt 157 (.pointer (some ad)) 0).run Tryz.prog w = .ok (.pointer (some (ad.add 0))) w := fun _ _ => by kernel_rfl
theorem Ng : ∀ (ad : Addr) (w : World), (Instr.fieldAt 157 (.pointer (some ad)) 1).run Tryz.prog w = .ok (.pointer (some (ad.add 1))) w := fun _ _ => by kernel_rfl
theorem qO : ∀ (ad : Addr) (w : World), (Instr.fieldAt 168 (.pointer (some ad)) 0).run Tryz.prog w = .ok (.pointer (some (ad.add 0))) w := fun _ _ => by kernel_rfl
theorem rO : ∀ (ad : Addr) (w : World), (Instr.fieldAt 168 (.pointer (some ad)) 1).run Tryz.prog w = .ok (.pointer (some (ad.add 1))) w := fun _ _ => by kernel_rfl
theorem pU : ∀ (ad : Addr) (w : World), (Instr.fieldAt 168 (.pointer (some ad)) 2).run Tryz.prog w = .ok (.pointer (some (ad.add 2))) w := fun _ _ => by kernel_rfl
theorem rY : ∀ (ad : Addr) (w : World), (Instr.fieldAt 168 (.pointer (some ad)) 3).run Tryz.prog w = .ok (.pointer (some (ad.add 3))) w := fun _ _ => by kernel_rfl
theorem qZ : ∀ (ad : Addr) (w : World), (Instr.fieldAt 168 (.pointer (some ad)) 4).run Tryz.prog w = .ok (.pointer (some (ad.add 4))) w := fun _ _ => by kernel_rfl
theorem qC : ∀ (ad : Addr) (w : World), (Instr.fieldAt 170 (.pointer (some ad)) 0).run Tryz.prog w = .ok (.pointer (some (ad.add 0))) w := fun _ _ => by kernel_rfl
theorem pQ : ∀ (ad : Addr) (w : World), (Instr.fieldAt 170 (.pointer (some ad)) 1).run Tryz.prog w = .ok (.pointer (some (ad.add 1))) w := fun _ _ => by kernel_rfl
theorem qA : ∀ (ad : Addr) (w : World), (Instr.fieldAt 170 (.pointer (some ad)) 2).run Tryz.prog w = .ok (.pointer (some (ad.add 2))) w := fun _ _ => by kernel_rfl
theorem Zp : ∀ (ad : Addr) (w : World), (Instr.fieldAt 178 (.pointer (some ad)) 0).run Tryz.prog w = .ok (.pointer (some (ad.add 0))) w := fun _ _ => by kernel_rfl
theorem Zc : ∀ (ad : Addr) (w : World), (Instr.fieldAt 178 (.pointer (some ad)) 1).run Tryz.prog w = .ok (.pointer (some (ad.add 1))) w := fun _ _ => by kernel_rfl
theorem pO : ∀ (ad : Addr) (w : World), (Instr.fieldAt 200 (.pointer (some ad)) 0).run Tryz.prog w = .ok (.pointer (some (ad.add 0))) w := fun _ _ => by kernel_rfl
theorem qR : ∀ (ad : Addr) (w : World), (Instr.fieldAt 200 (.pointer (some ad)) 1).run Tryz.prog w = .ok (.pointer (some (ad.add 1))) w := fun _ _ => by kernel_rfl
theorem Rv : ∀ (ad : Addr) (w : World), (Instr.fieldAt 223 (.pointer (some ad)) 0).run Tryz.prog w = .ok (.pointer (some (ad.add 0))) w := fun _ _ => by kernel_rfl
theorem Y0 : ∀ (ad : Addr) (w : World), (Instr.fieldAt 223 (.pointer (some ad)) 1).run Tryz.prog w = .ok (.pointer (some (ad.add 1))) w := fun _ _ => by kernel_rfl
theorem jG : ∀ (ad : Addr) (w : World), (Instr.fieldAt 25 (.pointer (some ad)) 0).run Tryz.prog w = .ok (.pointer (some (ad.add 0))) w := fun _ _ => by kernel_rfl
theorem kK : ∀ (ad : Addr) (w : World), (Instr.fieldAt 25 (.pointer (some ad)) 1).run Tryz.prog w = .ok (.pointer (some (ad.add 1))) w := fun _ _ => by kernel_rfl
theorem mF : ∀ (ad : Addr) (w : World), (Instr.fieldAt 25 (.pointer (some ad)) 2).run Tryz.prog w = .ok (.pointer (some (ad.add 2))) w := fun _ _ => by kernel_rfl
theorem K5 : ∀ (ad : Addr) (w : World), (Instr.fieldAt 30 (.pointer (some ad)) 0).run Tryz.prog w = .ok (.pointer (some (ad.add 0))) w := fun _ _ => by kernel_rfl
theorem Po : ∀ (ad : Addr) (w : World), (Instr.fieldAt 30 (.pointer (some ad)) 1).run Tryz.prog w = .ok (.pointer (some (ad.add 1))) w := fun _ _ => by kernel_rfl
theorem Rc : ∀ (ad : Addr) (w : World), (Instr.fieldAt 30 (.pointer (some ad)) 2).run Tryz.prog w = .ok (.pointer (some (ad.add 2))) w := fun _ _ => by kernel_rfl
theorem nM : ∀ (ad : Addr) (w : World), (Instr.fieldAt 39 (.pointer (some ad)) 0).run Tryz.prog w = .ok (.pointer (some (ad.add 0))) w := fun _ _ => by kernel_rfl
theorem jE : ∀ (ad : Addr) (w : World), (Instr.fieldAt 42 (.pointer (some ad)) 0).run Tryz.prog w = .ok (.pointer (some (ad.add 0))) w := fun _ _ => by kernel_rfl
theorem vZ : ∀ (ad : Addr) (w : World), (Instr.fieldAt 42 (.pointer (some ad)) 1).run Tryz.prog w = .ok (.pointer (some (ad.add 1))) w := fun _ _ => by kernel_rfl
theorem vS : ∀ (ad : Addr) (w : World), (Instr.fieldAt 45 (.pointer (some ad)) 0).run Tryz.prog w = .ok (.pointer (some (ad.add 0))) w := fun _ _ => by kernel_rfl
theorem jI : ∀ (ad : Addr) (w : World), (Instr.fieldAt 45 (.pointer (some ad)) 1).run Tryz.prog w = .ok (.pointer (some (ad.add 1))) w := fun _ _ => by kernel_rfl
theorem vM : ∀ (ad : Addr) (w : World), (Instr.fieldAt 48 (.pointer (some ad)) 0).run Tryz.prog w = .ok (.pointer (some (ad.add 0))) w := fun _ _ => by kernel_rfl
theorem wI : ∀ (ad : Addr) (w : World), (Instr.fieldAt 48 (.pointer (some ad)) 1).run Tryz.prog w = .ok (.pointer (some (ad.add 1))) w := fun _ _ => by kernel_rfl
theorem oM : ∀ (ad : Addr) (w : World), (Instr.fieldAt 48 (.pointer (some ad)) 2).run Tryz.prog w = .ok (.pointer (some (ad.add 2))) w := fun _ _ => by kernel_rfl
theorem nD : ∀ (ad : Addr) (w : World), (Instr.fieldAt 48 (.pointer (some ad)) 3).run Tryz.prog w = .ok (.pointer (some (ad.add 3))) w := fun _ _ => by kernel_rfl
theorem mD : ∀ (ad : Addr) (w : World), (Instr.fieldAt 48 (.pointer (some ad)) 4).run Tryz.prog w = .ok (.pointer (some (ad.add 4))) w := fun _ _ => by kernel_rfl
theorem lD : ∀ (ad : Addr) (w : World), (Instr.fieldAt 50 (.pointer (some ad)) 0).run Tryz.prog w = .ok (.pointer (some (ad.add 0))) w := fun _ _ => by kernel_rfl
theorem wP : ∀ (ad : Addr) (w : World), (Instr.fieldAt 50 (.pointer (some ad)) 1).run Tryz.prog w = .ok (.pointer (some (ad.add 1))) w := fun _ _ => by kernel_rfl
theorem mI : ∀ (ad : Addr) (w : World), (Instr.fieldAt 50 (.pointer (some ad)) 2).run Tryz.prog w = .ok (.pointer (some (ad.add 2))) w := fun _ _ => by kernel_rfl
theorem kL : ∀ (ad : Addr) (w : World), (Instr.fieldAt 50 (.pointer (some ad)) 3).run Tryz.prog w = .ok (.pointer (some (ad.add 3))) w := fun _ _ => by kernel_rfl
theorem oW : ∀ (ad : Addr) (w : World), (Instr.fieldAt 50 (.pointer (some ad)) 4).run Tryz.prog w = .ok (.pointer (some (ad.add 5))) w := fun _ _ => by kernel_rfl
theorem jA : ∀ (ad : Addr) (w : World), (Instr.fieldAt 50 (.pointer (some ad)) 5).run Tryz.prog w = .ok (.pointer (some (ad.add 7))) w := fun _ _ => by kernel_rfl
theorem I8 : ∀ (ad : Addr) (w : World), (Instr.fieldAt 55 (.pointer (some ad)) 0).run Tryz.prog w = .ok (.pointer (some (ad.add 0))) w := fun _ _ => by kernel_rfl
theorem Iu : ∀ (ad : Addr) (w : World), (Instr.fieldAt 58 (.pointer (some ad)) 0).run Tryz.prog w = .ok (.pointer (some (ad.add 0))) w := fun _ _ => by kernel_rfl
theorem O1 : ∀ (ad : Addr) (w : World), (Instr.fieldAt 58 (.pointer (some ad)) 1).run Tryz.prog w = .ok (.pointer (some (ad.add 1))) w := fun _ _ => by kernel_rfl
theorem Nl : ∀ (ad : Addr) (w : World), (Instr.fieldAt 59 (.pointer (some ad)) 0).run Tryz.prog w = .ok (.pointer (some (ad.add 0))) w := fun _ _ => by kernel_rfl
theorem Nc : ∀ (ad : Addr) (w : World), (Instr.fieldAt 59 (.pointer (some ad)) 1).run Tryz.prog w = .ok (.pointer (some (ad.add 1))) w := fun _ _ => by kernel_rfl
theorem Mw : ∀ (ad : Addr) (w : World), (Instr.fieldAt 62 (.pointer (some ad)) 0).run Tryz.prog w = .ok (.pointer (some (ad.add 0))) w := fun _ _ => by kernel_rfl
theorem M0 : ∀ (ad : Addr) (w : World), (Instr.fieldAt 62 (.pointer (some ad)) 1).run Tryz.prog w = .ok (.pointer (some (ad.add 1))) w := fun _ _ => by kernel_rfl
theorem Ir : ∀ (ad : Addr) (w : World), (Instr.fieldAt 62 (.pointer (some ad)) 2).run Tryz.prog w = .ok (.pointer (some (ad.add 2))) w := fun _ _ => by kernel_rfl
theorem Je : ∀ (ad : Addr) (w : World), (Instr.fieldAt 62 (.pointer (some ad)) 3).run Tryz.prog w = .ok (.pointer (some (ad.add 3))) w := fun _ _ => by kernel_rfl
theorem Lm : ∀ (ad : Addr) (w : World), (Instr.fieldAt 62 (.pointer (some ad)) 4).run Tryz.prog w = .ok (.pointer (some (ad.add 4))) w := fun _ _ => by kernel_rfl
theorem K7 : ∀ (ad : Addr) (w : World), (Instr.fieldAt 64 (.pointer (some ad)) 0).run Tryz.prog w = .ok (.pointer (some (ad.add 0))) w := fun _ _ => by kernel_rfl
theorem Mk : ∀ (ad : Addr) (w : World), (Instr.fieldAt 64 (.pointer (some ad)) 1).run Tryz.prog w = .ok (.pointer (some (ad.add 1))) w := fun _ _ => by kernel_rfl
theorem Nk : ∀ (ad : Addr) (w : World), (Instr.fieldAt 64 (.pointer (some ad)) 2).run Tryz.prog w = .ok (.pointer (some (ad.add 2))) w := fun _ _ => by kernel_rfl
theorem L8 : ∀ (ad : Addr) (w : World), (Instr.fieldAt 64 (.pointer (some ad)) 3).run Tryz.prog w = .ok (.pointer (some (ad.add 3))) w := fun _ _ => by kernel_rfl
theorem Ml : ∀ (ad : Addr) (w : World), (Instr.fieldAt 64 (.pointer (some ad)) 4).run Tryz.prog w = .ok (.pointer (some (ad.add 5))) w := fun _ _ => by kernel_rfl
theorem K4 : ∀ (ad : Addr) (w : World), (Instr.fieldAt 64 (.pointer (some ad)) 5).run Tryz.prog w = .ok (.pointer (some (ad.add 7))) w := fun _ _ => by kernel_rfl
theorem bV : (Tryz.prog.info? 140).map (fun i => (i.zero, i.size, i.bytes)) = some (some (.agg #[.int .i64 0, .int .i64 0, .int .i64 0]), 3, 24) := by kernel_rfl
theorem cZ : (Tryz.prog.info? 150).map (fun i => (i.zero, i.size, i.bytes)) = some (some (.slice none 0 0), 1, 24) := by kernel_rfl
theorem dI : (Tryz.prog.info? 152).map (fun i => (i.zero, i.size, i.bytes)) = some (some (.agg #[.int .i64 0, .int .i64 0, .int .i64 0, .int .i64 0, .int .i64 0]), 5, 40) := by kernel_rfl
theorem bY : (Tryz.prog.info? 157).map (fun i => (i.zero, i.size, i.bytes)) = some (some (.agg #[.int .i64 0, .int .i64 0]), 2, 16) := by kernel_rfl
theorem S9 : (Tryz.prog.info? 2).map (fun i => (i.zero, i.size, i.bytes)) = some (some (.int .i64 0), 1, 8) := by kernel_rfl
theorem vY : (Tryz.prog.info? 223).map (fun i => (i.zero, i.size, i.bytes)) = some (some (.agg #[.int .i64 0, .int .i64 0]), 2, 16) := by kernel_rfl
theorem aI : (Tryz.prog.info? 27).map (fun i => (i.zero, i.size, i.bytes)) = some (some (.slice none 0 0), 1, 24) := by kernel_rfl
theorem rQ : (Tryz.prog.info? 4).map (fun i => (i.zero, i.size, i.bytes)) = some (some (.bool false), 1, 1) := by kernel_rfl
theorem tH : (Tryz.prog.info? 43).map (fun i => (i.zero, i.size, i.bytes)) = some (some (.slice none 0 0), 1, 24) := by kernel_rfl
theorem Uu : (Tryz.prog.info? 64).map (fun i => (i.zero, i.size, i.bytes)) = some (some (.agg #[.string ByteArray.empty, .int .i64 0, .slice none 0 0, .slice none 0 0, .int .i64 0, .int .i64 0, .slice none 0 0, .int .i64 0, .int .i64 0, .slice none 0 0, .slice none 0 0, .slice none 0 0]), 12, 200) := by kernel_rfl
theorem Ox : naB Tryz.prog 150 = true := by kernel_rfl
theorem sH : naB Tryz.prog 154 = true := by kernel_rfl
theorem X9 : naB Tryz.prog 176 = true := by kernel_rfl
theorem na2 : naB Tryz.prog 2 = true := by kernel_rfl
theorem qN : naB Tryz.prog 22 = true := by kernel_rfl
theorem qQ : naB Tryz.prog 23 = true := by kernel_rfl
theorem Nq : naB Tryz.prog 27 = true := by kernel_rfl
theorem Qa : naB Tryz.prog 28 = true := by kernel_rfl
theorem xS : naB Tryz.prog 37 = true := by kernel_rfl
theorem na4 : naB Tryz.prog 4 = true := by kernel_rfl
theorem xH : naB Tryz.prog 40 = true := by kernel_rfl
theorem H7 : naB Tryz.prog 43 = true := by kernel_rfl
theorem xG : naB Tryz.prog 46 = true := by kernel_rfl
theorem Nt : naB Tryz.prog 53 = true := by kernel_rfl
theorem Ni : naB Tryz.prog 56 = true := by kernel_rfl
theorem Nh : naB Tryz.prog 60 = true := by kernel_rfl
theorem na9 : naB Tryz.prog 9 = true := by kernel_rfl
theorem gM : Tryz.prog.eqGuardType Tryz.prog.depth 134 = false := by kernel_rfl
theorem Yu : Tryz.prog.eqGuardType Tryz.prog.depth 157 = false := by kernel_rfl
theorem Q0 : (Tryz.prog.info? 140).map (·.size) = some 3 := by kernel_rfl
theorem Ou : (Tryz.prog.info? 150).map (·.size) = some 1 := by kernel_rfl
theorem Nu : (Tryz.prog.info? 152).map (·.size) = some 5 := by kernel_rfl
theorem uM : (Tryz.prog.info? 154).map (·.size) = some 1 := by kernel_rfl
theorem Pm : (Tryz.prog.info? 157).map (·.size) = some 2 := by kernel_rfl
theorem xP : (Tryz.prog.info? 168).map (·.size) = some 5 := by kernel_rfl
theorem xL : (Tryz.prog.info? 170).map (·.size) = some 3 := by kernel_rfl
theorem sz2 : (Tryz.prog.info? 2).map (·.size) = some 1 := by kernel_rfl
theorem yD : (Tryz.prog.info? 200).map (·.size) = some 2 := by kernel_rfl
theorem xW : (Tryz.prog.info? 22).map (·.size) = some 1 := by kernel_rfl
theorem Ql : (Tryz.prog.info? 223).map (·.size) = some 2 := by kernel_rfl
theorem V5 : (Tryz.prog.info? 27).map (·.size) = some 1 := by kernel_rfl
theorem yF : (Tryz.prog.info? 28).map (·.size) = some 1 := by kernel_rfl
theorem sz4 : (Tryz.prog.info? 4).map (·.size) = some 1 := by kernel_rfl
theorem wR : (Tryz.prog.info? 50).map (·.size) = some 12 := by kernel_rfl
theorem Jt : (Tryz.prog.info? 64).map (·.size) = some 12 := by kernel_rfl
theorem sz9 : (Tryz.prog.info? 9).map (·.size) = some 1 := by kernel_rfl
theorem uH : (Tryz.prog.info? 134).map (·.zero) = some (some (.agg #[.bool false, .bool false, .bool false, .bool false])) := by kernel_rfl
theorem uL : (Tryz.prog.info? 140).map (·.zero) = some (some (.agg #[.int .i64 0, .int .i64 0, .int .i64 0])) := by kernel_rfl
theorem X8 : (Tryz.prog.info? 152).map (·.zero) = some (some (.agg #[.int .i64 0, .int .i64 0, .int .i64 0, .int .i64 0, .int .i64 0])) := by kernel_rfl
theorem Yt : (Tryz.prog.info? 157).map (·.zero) = some (some (.agg #[.int .i64 0, .int .i64 0])) := by kernel_rfl
theorem aC : (Tryz.prog.info? 178).map (·.zero) = some (some (.agg #[.slice none 0 0, .slice none 0 0])) := by kernel_rfl
theorem zr2 : (Tryz.prog.info? 2).map (·.zero) = some (some (.int .i64 0)) := by kernel_rfl
theorem eX : (Tryz.prog.info? 218).map (·.zero) = some (some (.agg #[.int .i64 0, .int .i64 0, .int .i64 0, .int .i64 0])) := by kernel_rfl
theorem lN : (Tryz.prog.info? 223).map (·.zero) = some (some (.agg #[.int .i64 0, .int .i64 0])) := by kernel_rfl
theorem xA : (Tryz.prog.info? 242).map (·.zero) = some (some (.agg #[.int .u8 0, .int .u8 0, .int .u8 0, .int .u8 0, .int .u8 0, .int .u8 0, .int .u8 0, .int .u8 0, .int .u8 0, .int .u8 0, .int .u8 0, .int .u8 0, .int .u8 0, .int .u8 0, .int .u8 0, .int .u8 0, .int .u8 0, .int .u8 0, .int .u8 0, .int .u8 0, .int .u8 0, .int .u8 0, .int .u8 0, .int .u8 0])) := by kernel_rfl
theorem Xn : (Tryz.prog.info? 30).map (·.zero) = some (some (.agg #[.slice none 0 0, .slice none 0 0, .slice none 0 0])) := by kernel_rfl
theorem gP : (Tryz.prog.info? 55).map (·.zero) = some (some (.agg #[.slice none 0 0])) := by kernel_rfl
theorem qX : (Tryz.prog.info? 58).map (·.zero) = some (some (.agg #[.slice none 0 0, .int .i64 0])) := by kernel_rfl
theorem vO : (Tryz.prog.info? 59).map (·.zero) = some (some (.agg #[.int .i64 0, .slice none 0 0])) := by kernel_rfl
theorem qV : (Tryz.prog.info? 62).map (·.zero) = some (some (.agg #[.int .i64 0, .int .i64 0, .slice none 0 0, .slice none 0 0, .slice none 0 0])) := by kernel_rfl
theorem dJ : (Tryz.prog.info? 64).map (·.zero) = some (some (.agg #[.string ByteArray.empty, .int .i64 0, .slice none 0 0, .slice none 0 0, .int .i64 0, .int .i64 0, .slice none 0 0, .int .i64 0, .int .i64 0, .slice none 0 0, .slice none 0 0, .slice none 0 0])) := by kernel_rfl
theorem wV : FOK Tryz.f5 := ⟨by kernel_rfl, rfl⟩
theorem bD : FOK Tryz.f7 := ⟨by kernel_rfl, rfl⟩
theorem Tf : FOK Tryz.f9 := ⟨by kernel_rfl, rfl⟩
theorem eO : FOK Tryz.f10 := ⟨by kernel_rfl, rfl⟩
theorem fA : FOK Tryz.f11 := ⟨by kernel_rfl, rfl⟩
theorem fU : FOK Tryz.f12 := ⟨by kernel_rfl, rfl⟩
theorem sO : FOK Tryz.f13 := ⟨by kernel_rfl, rfl⟩
theorem R9 : FOK Tryz.f14 := ⟨by kernel_rfl, rfl⟩
theorem fV : FOK Tryz.f15 := ⟨by kernel_rfl, rfl⟩
theorem fT : FOK Tryz.f16 := ⟨by kernel_rfl, rfl⟩
theorem sK : FOK Tryz.f17 := ⟨by kernel_rfl, rfl⟩
theorem dX : FOK Tryz.f18 := ⟨by kernel_rfl, rfl⟩
theorem fH : FOK Tryz.f19 := ⟨by kernel_rfl, rfl⟩
theorem fI : FOK Tryz.f20 := ⟨by kernel_rfl, rfl⟩
theorem dQ : FOK Tryz.f21 := ⟨by kernel_rfl, rfl⟩
theorem gJ : FOK Tryz.f22 := ⟨by kernel_rfl, rfl⟩
theorem rZ : FOK Tryz.f23 := ⟨by kernel_rfl, rfl⟩
theorem fO : FOK Tryz.f24 := ⟨by kernel_rfl, rfl⟩
theorem dV : FOK Tryz.f25 := ⟨by kernel_rfl, rfl⟩
theorem uS : FOK Tryz.f26 := ⟨by kernel_rfl, rfl⟩
theorem eZ : FOK Tryz.f27 := ⟨by kernel_rfl, rfl⟩
theorem uU : FOK Tryz.f28 := ⟨by kernel_rfl, rfl⟩
theorem uW : FOK Tryz.f29 := ⟨by kernel_rfl, rfl⟩
theorem Yv : FOK Tryz.f31 := ⟨by kernel_rfl, rfl⟩
theorem fD : FOK Tryz.f32 := ⟨by kernel_rfl, rfl⟩
theorem dU : FOK Tryz.f33 := ⟨by kernel_rfl, rfl⟩
theorem fC : FOK Tryz.f34 := ⟨by kernel_rfl, rfl⟩
theorem gB : FOK Tryz.f35 := ⟨by kernel_rfl, rfl⟩
theorem fZ : FOK Tryz.f36 := ⟨by kernel_rfl, rfl⟩
theorem fK : FOK Tryz.f37 := ⟨by kernel_rfl, rfl⟩
theorem tZ : FOK Tryz.f38 := ⟨by kernel_rfl, rfl⟩
theorem uR : FOK Tryz.f39 := ⟨by kernel_rfl, rfl⟩
theorem uP : FOK Tryz.f40 := ⟨by kernel_rfl, rfl⟩
theorem uX : FOK Tryz.f41 := ⟨by kernel_rfl, rfl⟩
theorem Uo : FOK Tryz.f42 := ⟨by kernel_rfl, rfl⟩
theorem U0 : FOK Tryz.f43 := ⟨by kernel_rfl, rfl⟩
theorem uT : FOK Tryz.f44 := ⟨by kernel_rfl, rfl⟩
theorem vC : FOK Tryz.f45 := ⟨by kernel_rfl, rfl⟩
theorem sF : FOK Tryz.f46 := ⟨by kernel_rfl, rfl⟩
theorem tY : FOK Tryz.f47 := ⟨by kernel_rfl, rfl⟩
theorem Va : FOK Tryz.f48 := ⟨by kernel_rfl, rfl⟩
theorem Yl : FOK Tryz.f49 := ⟨by kernel_rfl, rfl⟩
theorem sS : FOK Tryz.f50 := ⟨by kernel_rfl, rfl⟩
theorem vG : FOK Tryz.f51 := ⟨by kernel_rfl, rfl⟩
theorem sP : FOK Tryz.f52 := ⟨by kernel_rfl, rfl⟩
theorem sD : FOK Tryz.f53 := ⟨by kernel_rfl, rfl⟩
theorem vI : FOK Tryz.f54 := ⟨by kernel_rfl, rfl⟩
theorem tO : FOK Tryz.f55 := ⟨by kernel_rfl, rfl⟩
theorem sV : FOK Tryz.f56 := ⟨by kernel_rfl, rfl⟩
theorem uO : FOK Tryz.f57 := ⟨by kernel_rfl, rfl⟩
theorem sM : FOK Tryz.f58 := ⟨by kernel_rfl, rfl⟩
theorem U8 : FOK Tryz.f59 := ⟨by kernel_rfl, rfl⟩
theorem X6 : FOK Tryz.f60 := ⟨by kernel_rfl, rfl⟩
theorem tX : FOK Tryz.f61 := ⟨by kernel_rfl, rfl⟩
theorem uK : FOK Tryz.f62 := ⟨by kernel_rfl, rfl⟩
theorem eD : FOK Tryz.f63 := ⟨by kernel_rfl, rfl⟩
theorem sJ : FOK Tryz.f64 := ⟨by kernel_rfl, rfl⟩
theorem tQ : FOK Tryz.f65 := ⟨by kernel_rfl, rfl⟩
theorem vB : FOK Tryz.f66 := ⟨by kernel_rfl, rfl⟩
theorem uQ : FOK Tryz.f67 := ⟨by kernel_rfl, rfl⟩
theorem uE : FOK Tryz.f68 := ⟨by kernel_rfl, rfl⟩
theorem fQ : FOK Tryz.f69 := ⟨by kernel_rfl, rfl⟩
theorem fP : FOK Tryz.f70 := ⟨by kernel_rfl, rfl⟩
theorem gL : FOK Tryz.f71 := ⟨by kernel_rfl, rfl⟩
theorem dR : FOK Tryz.f72 := ⟨by kernel_rfl, rfl⟩
theorem Qk : FOK Tryz.f73 := ⟨by kernel_rfl, rfl⟩
theorem gD : FOK Tryz.f74 := ⟨by kernel_rfl, rfl⟩
theorem tL : FOK Tryz.f75 := ⟨by kernel_rfl, rfl⟩
theorem uJ : FOK Tryz.f76 := ⟨by kernel_rfl, rfl⟩
theorem Yr : FOK Tryz.f77 := ⟨by kernel_rfl, rfl⟩
theorem uI : FOK Tryz.f78 := ⟨by kernel_rfl, rfl⟩
theorem uZ : FOK Tryz.f79 := ⟨by kernel_rfl, rfl⟩
theorem vJ : FOK Tryz.f80 := ⟨by kernel_rfl, rfl⟩
theorem Xy : FOK Tryz.f81 := ⟨by kernel_rfl, rfl⟩
theorem sW : FOK Tryz.f82 := ⟨by kernel_rfl, rfl⟩
theorem fE : FOK Tryz.f83 := ⟨by kernel_rfl, rfl⟩
theorem Lp : FOK Tryz.f84 := ⟨by kernel_rfl, rfl⟩
theorem sN : FOK Tryz.f85 := ⟨by kernel_rfl, rfl⟩
theorem tN : FOK Tryz.f86 := ⟨by kernel_rfl, rfl⟩
theorem tK : FOK Tryz.f87 := ⟨by kernel_rfl, rfl⟩
theorem vF : FOK Tryz.f88 := ⟨by kernel_rfl, rfl⟩
theorem tV : FOK Tryz.f89 := ⟨by kernel_rfl, rfl⟩
theorem uN : FOK Tryz.f90 := ⟨by kernel_rfl, rfl⟩
theorem uY : FOK Tryz.f91 := ⟨by kernel_rfl, rfl⟩
theorem vE : FOK Tryz.f92 := ⟨by kernel_rfl, rfl⟩
theorem sG : FOK Tryz.f93 := ⟨by kernel_rfl, rfl⟩
theorem Yc : FOK Tryz.f94 := ⟨by kernel_rfl, rfl⟩
theorem vD : FOK Tryz.f95 := ⟨by kernel_rfl, rfl⟩
theorem gK : FOK Tryz.f96 := ⟨by kernel_rfl, rfl⟩
theorem Kw : FOK Tryz.f97 := ⟨by kernel_rfl, rfl⟩
theorem uF : FOK Tryz.f98 := ⟨by kernel_rfl, rfl⟩
theorem U2 : FOK Tryz.f99 := ⟨by kernel_rfl, rfl⟩
theorem Qu : FOK Tryz.f100 := ⟨by kernel_rfl, rfl⟩
theorem Rn : FOK Tryz.f101 := ⟨by kernel_rfl, rfl⟩
theorem Rq : FOK Tryz.f102 := ⟨by kernel_rfl, rfl⟩
theorem lG : FOK Tryz.f103 := ⟨by kernel_rfl, rfl⟩
theorem lK : FOK Tryz.f104 := ⟨by kernel_rfl, rfl⟩
theorem Uk : FOK Tryz.f105 := ⟨by kernel_rfl, rfl⟩
theorem kX : FOK Tryz.f106 := ⟨by kernel_rfl, rfl⟩
theorem kW : FOK Tryz.f109 := ⟨by kernel_rfl, rfl⟩
theorem lC : FOK Tryz.f110 := ⟨by kernel_rfl, rfl⟩
theorem Tz : FOK Tryz.f111 := ⟨by kernel_rfl, rfl⟩
theorem oU : FOK Tryz.f112 := ⟨by kernel_rfl, rfl⟩
theorem jH : FOK Tryz.f113 := ⟨by kernel_rfl, rfl⟩
theorem nU : FOK Tryz.f114 := ⟨by kernel_rfl, rfl⟩
theorem nH : FOK Tryz.f115 := ⟨by kernel_rfl, rfl⟩
theorem kQ : FOK Tryz.f116 := ⟨by kernel_rfl, rfl⟩
theorem lQ : FOK Tryz.f117 := ⟨by kernel_rfl, rfl⟩
theorem oL : FOK Tryz.f118 := ⟨by kernel_rfl, rfl⟩
theorem kP : FOK Tryz.f119 := ⟨by kernel_rfl, rfl⟩
theorem pE : FOK Tryz.f120 := ⟨by kernel_rfl, rfl⟩
theorem mM : FOK Tryz.f121 := ⟨by kernel_rfl, rfl⟩
theorem Qs : FOK Tryz.f122 := ⟨by kernel_rfl, rfl⟩
theorem Py : FOK Tryz.f123 := ⟨by kernel_rfl, rfl⟩
theorem Z7 : FOK Tryz.f124 := ⟨by kernel_rfl, rfl⟩
theorem jW : FOK Tryz.f125 := ⟨by kernel_rfl, rfl⟩
theorem kS : FOK Tryz.f126 := ⟨by kernel_rfl, rfl⟩
theorem mO : FOK Tryz.f127 := ⟨by kernel_rfl, rfl⟩
theorem kG : FOK Tryz.f128 := ⟨by kernel_rfl, rfl⟩
theorem nK : FOK Tryz.f129 := ⟨by kernel_rfl, rfl⟩
theorem lV : FOK Tryz.f130 := ⟨by kernel_rfl, rfl⟩
theorem Pz : FOK Tryz.f131 := ⟨by kernel_rfl, rfl⟩
theorem jK : FOK Tryz.f132 := ⟨by kernel_rfl, rfl⟩
theorem oH : FOK Tryz.f133 := ⟨by kernel_rfl, rfl⟩
theorem kJ : FOK Tryz.f134 := ⟨by kernel_rfl, rfl⟩
theorem nO : FOK Tryz.f135 := ⟨by kernel_rfl, rfl⟩
theorem mX : FOK Tryz.f136 := ⟨by kernel_rfl, rfl⟩
theorem oC : FOK Tryz.f137 := ⟨by kernel_rfl, rfl⟩
theorem lJ : FOK Tryz.f138 := ⟨by kernel_rfl, rfl⟩
theorem mG : FOK Tryz.f139 := ⟨by kernel_rfl, rfl⟩
theorem aA : FOK Tryz.f140 := ⟨by kernel_rfl, rfl⟩
theorem jD : FOK Tryz.f141 := ⟨by kernel_rfl, rfl⟩
theorem nA : FOK Tryz.f142 := ⟨by kernel_rfl, rfl⟩
theorem Q9 : FOK Tryz.f143 := ⟨by kernel_rfl, rfl⟩
theorem mQ : FOK Tryz.f144 := ⟨by kernel_rfl, rfl⟩
theorem kR : FOK Tryz.f145 := ⟨by kernel_rfl, rfl⟩
theorem Zl : FOK Tryz.f146 := ⟨by kernel_rfl, rfl⟩
theorem Px : FOK Tryz.f147 := ⟨by kernel_rfl, rfl⟩
theorem nV : FOK Tryz.f148 := ⟨by kernel_rfl, rfl⟩
theorem lY : FOK Tryz.f149 := ⟨by kernel_rfl, rfl⟩
theorem jT : FOK Tryz.f150 := ⟨by kernel_rfl, rfl⟩
theorem kY : FOK Tryz.f151 := ⟨by kernel_rfl, rfl⟩
theorem Zh : FOK Tryz.f152 := ⟨by kernel_rfl, rfl⟩
theorem kM : FOK Tryz.f153 := ⟨by kernel_rfl, rfl⟩
theorem jF : FOK Tryz.f154 := ⟨by kernel_rfl, rfl⟩
theorem jC : FOK Tryz.f156 := ⟨by kernel_rfl, rfl⟩
theorem oJ : FOK Tryz.f157 := ⟨by kernel_rfl, rfl⟩
theorem nW : FOK Tryz.f158 := ⟨by kernel_rfl, rfl⟩
theorem Y9 : FOK Tryz.f160 := ⟨by kernel_rfl, rfl⟩
theorem kC : FOK Tryz.f161 := ⟨by kernel_rfl, rfl⟩
theorem Rj : FOK Tryz.f162 := ⟨by kernel_rfl, rfl⟩
theorem Ue : FOK Tryz.f163 := ⟨by kernel_rfl, rfl⟩
theorem nS : FOK Tryz.f164 := ⟨by kernel_rfl, rfl⟩
theorem oZ : FOK Tryz.f165 := ⟨by kernel_rfl, rfl⟩
theorem Q8 : FOK Tryz.f166 := ⟨by kernel_rfl, rfl⟩
theorem lH : FOK Tryz.f167 := ⟨by kernel_rfl, rfl⟩
theorem Zn : FOK Tryz.f168 := ⟨by kernel_rfl, rfl⟩
theorem kE : FOK Tryz.f169 := ⟨by kernel_rfl, rfl⟩
theorem jU : FOK Tryz.f170 := ⟨by kernel_rfl, rfl⟩
theorem kD : FOK Tryz.f171 := ⟨by kernel_rfl, rfl⟩
theorem Zx : FOK Tryz.f172 := ⟨by kernel_rfl, rfl⟩
theorem oO : FOK Tryz.f173 := ⟨by kernel_rfl, rfl⟩
theorem Ub : FOK Tryz.f174 := ⟨by kernel_rfl, rfl⟩
theorem Y8 : FOK Tryz.f175 := ⟨by kernel_rfl, rfl⟩
theorem lF : FOK Tryz.f176 := ⟨by kernel_rfl, rfl⟩
theorem mW : FOK Tryz.f177 := ⟨by kernel_rfl, rfl⟩
theorem jM : FOK Tryz.f178 := ⟨by kernel_rfl, rfl⟩
theorem oQ : FOK Tryz.f179 := ⟨by kernel_rfl, rfl⟩
theorem nI : FOK Tryz.f180 := ⟨by kernel_rfl, rfl⟩
theorem mH : FOK Tryz.f181 := ⟨by kernel_rfl, rfl⟩
theorem kT : FOK Tryz.f182 := ⟨by kernel_rfl, rfl⟩
theorem Uj : FOK Tryz.f183 := ⟨by kernel_rfl, rfl⟩
theorem lW : FOK Tryz.f184 := ⟨by kernel_rfl, rfl⟩
theorem lT : FOK Tryz.f185 := ⟨by kernel_rfl, rfl⟩
theorem Y3 : FOK Tryz.f186 := ⟨by kernel_rfl, rfl⟩
theorem nZ : FOK Tryz.f188 := ⟨by kernel_rfl, rfl⟩
theorem Uc : FOK Tryz.f189 := ⟨by kernel_rfl, rfl⟩
theorem nP : FOK Tryz.f190 := ⟨by kernel_rfl, rfl⟩
theorem Za : FOK Tryz.f191 := ⟨by kernel_rfl, rfl⟩
theorem jY : FOK Tryz.f192 := ⟨by kernel_rfl, rfl⟩
theorem nG : FOK Tryz.f193 := ⟨by kernel_rfl, rfl⟩
theorem Yz : FOK Tryz.f194 := ⟨by kernel_rfl, rfl⟩
theorem Y4 : FOK Tryz.f195 := ⟨by kernel_rfl, rfl⟩
theorem Z5 : FOK Tryz.f196 := ⟨by kernel_rfl, rfl⟩
theorem Ri : FOK Tryz.f197 := ⟨by kernel_rfl, rfl⟩
theorem nE : FOK Tryz.f198 := ⟨by kernel_rfl, rfl⟩
theorem jJ : FOK Tryz.f199 := ⟨by kernel_rfl, rfl⟩
theorem lU : FOK Tryz.f200 := ⟨by kernel_rfl, rfl⟩
theorem mJ : FOK Tryz.f201 := ⟨by kernel_rfl, rfl⟩
theorem kV : FOK Tryz.f202 := ⟨by kernel_rfl, rfl⟩
theorem nJ : FOK Tryz.f203 := ⟨by kernel_rfl, rfl⟩
theorem Rk : FOK Tryz.f204 := ⟨by kernel_rfl, rfl⟩
theorem lZ : FOK Tryz.f205 := ⟨by kernel_rfl, rfl⟩
theorem mY : FOK Tryz.f206 := ⟨by kernel_rfl, rfl⟩
theorem jS : FOK Tryz.f207 := ⟨by kernel_rfl, rfl⟩
theorem kH : FOK Tryz.f208 := ⟨by kernel_rfl, rfl⟩
theorem jO : FOK Tryz.f210 := ⟨by kernel_rfl, rfl⟩
theorem nR : FOK Tryz.f211 := ⟨by kernel_rfl, rfl⟩
theorem mixed : Tryz.prog.follows .mixedOrders = true := by kernel_rfl
end Go.Proofs.YtkmeepgpmppibaaGreatDoor
