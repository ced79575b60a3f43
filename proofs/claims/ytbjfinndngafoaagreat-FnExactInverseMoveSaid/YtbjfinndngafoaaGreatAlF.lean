/-
  What the translation says of its types and functions.
-/
import Derived.Test.YtbjfinndngafoaaGreatProg
import Derived.Test.YtbjfinndngafoaaGreatAlM
set_option linter.unusedVariables false
set_option linter.unusedSimpArgs false
namespace Go.Proofs.YtbjfinndngafoaaGreat
open Go.RowKit
theorem D7 : agB Tryz.prog 107 2 = true := by kernel_rfl
theorem Px : agB Tryz.prog 111 3 = true := by kernel_rfl
theorem Mq : agB Tryz.prog 127 2 = true := by kernel_rfl
theorem Jd : agB Tryz.prog 131 4 = true := by kernel_rfl
theorem sG : agB Tryz.prog 142 2 = true := by kernel_rfl
theorem G5 : agB Tryz.prog 167 2 = true := by kernel_rfl
theorem J9 : agB Tryz.prog 174 8 = true := by kernel_rfl
theorem eO : agB Tryz.prog 24 1 = true := by kernel_rfl
theorem sH : agB Tryz.prog 26 3 = true := by kernel_rfl
theorem Fx : agB Tryz.prog 31 1 = true := by kernel_rfl
theorem Jf : agB Tryz.prog 33 3 = true := by kernel_rfl
theorem Gb : agB Tryz.prog 65 3 = true := by kernel_rfl
theorem Sb {a0 a1 b0 b1 : Int} {w : World} : (Op.equal 107 (.agg [.int .i64 a0, .int .i64 a1].toArray) (.agg [.int .i64 b0, .int .i64 b1].toArray)).run Tryz.prog w = .ok (decide ((a0, a1) = (b0, b1))) w := Yf Tryz.underlying107 (by kernel_rfl) (by decide) Tryz.underlying2 Tryz.underlying2 (by kernel_rfl) (by kernel_rfl)
theorem jT {a0 a1 b0 b1 : Int} {w : World} : (Op.equal 167 (.agg [.int .i64 a0, .int .i64 a1].toArray) (.agg [.int .i64 b0, .int .i64 b1].toArray)).run Tryz.prog w = .ok (decide ((a0, a1) = (b0, b1))) w := Yf Tryz.underlying167 (by kernel_rfl) (by decide) Tryz.underlying2 Tryz.underlying2 (by kernel_rfl) (by kernel_rfl)
theorem Np : ∀ (ad : Addr) (w : World), (Instr.fieldAt 104 (.pointer (some ad)) 0).run Tryz.prog w = .ok (.pointer (some (ad.add 0))) w := fun _ _ => by kernel_rfl
theorem Us : ∀ (ad : Addr) (w : World), (Instr.fieldAt 104 (.pointer (some ad)) 1).run Tryz.prog w = .ok (.pointer (some (ad.add 1))) w := fun _ _ => by kernel_rfl
theorem Yw : ∀ (ad : Addr) (w : World), (Instr.fieldAt 104 (.pointer (some ad)) 2).run Tryz.prog w = .ok (.pointer (some (ad.add 2))) w := fun _ _ => by kernel_rfl
theorem Nk : ∀ (ad : Addr) (w : World), (Instr.fieldAt 104 (.pointer (some ad)) 3).run Tryz.prog w = .ok (.pointer (some (ad.add 3))) w := fun _ _ => by kernel_rfl
theorem Dl : ∀ (ad : Addr) (w : World), (Instr.fieldAt 107 (.pointer (some ad)) 0).run Tryz.prog w = .ok (.pointer (some (ad.add 0))) w := fun _ _ => by kernel_rfl
theorem F4 : ∀ (ad : Addr) (w : World), (Instr.fieldAt 107 (.pointer (some ad)) 1).run Tryz.prog w = .ok (.pointer (some (ad.add 1))) w := fun _ _ => by kernel_rfl
theorem X6 : ∀ (ad : Addr) (w : World), (Instr.fieldAt 111 (.pointer (some ad)) 0).run Tryz.prog w = .ok (.pointer (some (ad.add 0))) w := fun _ _ => by kernel_rfl
theorem Km : ∀ (ad : Addr) (w : World), (Instr.fieldAt 111 (.pointer (some ad)) 1).run Tryz.prog w = .ok (.pointer (some (ad.add 1))) w := fun _ _ => by kernel_rfl
theorem Ym : ∀ (ad : Addr) (w : World), (Instr.fieldAt 111 (.pointer (some ad)) 2).run Tryz.prog w = .ok (.pointer (some (ad.add 2))) w := fun _ _ => by kernel_rfl
theorem Je : ∀ (ad : Addr) (w : World), (Instr.fieldAt 127 (.pointer (some ad)) 0).run Tryz.prog w = .ok (.pointer (some (ad.add 0))) w := fun _ _ => by kernel_rfl
theorem Ko : ∀ (ad : Addr) (w : World), (Instr.fieldAt 127 (.pointer (some ad)) 1).run Tryz.prog w = .ok (.pointer (some (ad.add 1))) w := fun _ _ => by kernel_rfl
theorem gM : ∀ (ad : Addr) (w : World), (Instr.fieldAt 142 (.pointer (some ad)) 0).run Tryz.prog w = .ok (.pointer (some (ad.add 0))) w := fun _ _ => by kernel_rfl
theorem iD : ∀ (ad : Addr) (w : World), (Instr.fieldAt 142 (.pointer (some ad)) 1).run Tryz.prog w = .ok (.pointer (some (ad.add 1))) w := fun _ _ => by kernel_rfl
theorem Fj : ∀ (ad : Addr) (w : World), (Instr.fieldAt 167 (.pointer (some ad)) 0).run Tryz.prog w = .ok (.pointer (some (ad.add 0))) w := fun _ _ => by kernel_rfl
theorem Lb : ∀ (ad : Addr) (w : World), (Instr.fieldAt 167 (.pointer (some ad)) 1).run Tryz.prog w = .ok (.pointer (some (ad.add 1))) w := fun _ _ => by kernel_rfl
theorem dB : ∀ (ad : Addr) (w : World), (Instr.fieldAt 24 (.pointer (some ad)) 0).run Tryz.prog w = .ok (.pointer (some (ad.add 0))) w := fun _ _ => by kernel_rfl
theorem mE : ∀ (ad : Addr) (w : World), (Instr.fieldAt 26 (.pointer (some ad)) 0).run Tryz.prog w = .ok (.pointer (some (ad.add 0))) w := fun _ _ => by kernel_rfl
theorem mX : ∀ (ad : Addr) (w : World), (Instr.fieldAt 26 (.pointer (some ad)) 1).run Tryz.prog w = .ok (.pointer (some (ad.add 1))) w := fun _ _ => by kernel_rfl
theorem mF : ∀ (ad : Addr) (w : World), (Instr.fieldAt 26 (.pointer (some ad)) 2).run Tryz.prog w = .ok (.pointer (some (ad.add 2))) w := fun _ _ => by kernel_rfl
theorem Du : ∀ (ad : Addr) (w : World), (Instr.fieldAt 31 (.pointer (some ad)) 0).run Tryz.prog w = .ok (.pointer (some (ad.add 0))) w := fun _ _ => by kernel_rfl
theorem Kb : ∀ (ad : Addr) (w : World), (Instr.fieldAt 33 (.pointer (some ad)) 0).run Tryz.prog w = .ok (.pointer (some (ad.add 0))) w := fun _ _ => by kernel_rfl
theorem Jq : ∀ (ad : Addr) (w : World), (Instr.fieldAt 33 (.pointer (some ad)) 1).run Tryz.prog w = .ok (.pointer (some (ad.add 1))) w := fun _ _ => by kernel_rfl
theorem Kz : ∀ (ad : Addr) (w : World), (Instr.fieldAt 33 (.pointer (some ad)) 2).run Tryz.prog w = .ok (.pointer (some (ad.add 2))) w := fun _ _ => by kernel_rfl
theorem U8 : ∀ (ad : Addr) (w : World), (Instr.fieldAt 65 (.pointer (some ad)) 0).run Tryz.prog w = .ok (.pointer (some (ad.add 0))) w := fun _ _ => by kernel_rfl
theorem Na : ∀ (ad : Addr) (w : World), (Instr.fieldAt 65 (.pointer (some ad)) 1).run Tryz.prog w = .ok (.pointer (some (ad.add 1))) w := fun _ _ => by kernel_rfl
theorem Kc : ∀ (ad : Addr) (w : World), (Instr.fieldAt 65 (.pointer (some ad)) 2).run Tryz.prog w = .ok (.pointer (some (ad.add 2))) w := fun _ _ => by kernel_rfl
theorem X4 : (Tryz.prog.info? 107).map (fun i => (i.zero, i.size, i.bytes)) = some (some (.agg #[.int .i64 0, .int .i64 0]), 2, 16) := by kernel_rfl
theorem O7 : (Tryz.prog.info? 122).map (fun i => (i.zero, i.size, i.bytes)) = some (some (.agg #[.int .i64 0, .int .i64 0, .int .i64 0, .int .i64 0]), 4, 32) := by kernel_rfl
theorem dE : (Tryz.prog.info? 131).map (fun i => (i.zero, i.size, i.bytes)) = some (some (.agg #[.int .i64 0, .int .i64 0, .int .i64 0, .int .i64 0]), 4, 32) := by kernel_rfl
theorem Z7 : (Tryz.prog.info? 167).map (fun i => (i.zero, i.size, i.bytes)) = some (some (.agg #[.int .i64 0, .int .i64 0]), 2, 16) := by kernel_rfl
theorem Lg : (Tryz.prog.info? 2).map (fun i => (i.zero, i.size, i.bytes)) = some (some (.int .i64 0), 1, 8) := by kernel_rfl
theorem Zh : (Tryz.prog.info? 4).map (fun i => (i.zero, i.size, i.bytes)) = some (some (.bool false), 1, 1) := by kernel_rfl
theorem cZ : (Tryz.prog.info? 56).map (fun i => (i.zero, i.size, i.bytes)) = some (some (.slice none 0 0), 1, 24) := by kernel_rfl
theorem Sd : (Tryz.prog.info? 77).map (fun i => (i.zero, i.size, i.bytes)) = some (some (.slice none 0 0), 1, 24) := by kernel_rfl
theorem Xj : Nu Tryz.prog 118 Fp := by
  obtain ⟨i, hi, _⟩ := Option.map_eq_some_iff.1 (by kernel_rfl : (Tryz.prog.info? 2).map (·.size) = some 1)
  exact gN (p := fun x => x.e0) (q := fun x => x.e1) (fun ⟨_, _⟩ ⟨_, _⟩ h1 h2 => by cases h1; cases h2; rfl) (fun _ => rfl) Tryz.underlying118 hi (by kernel_rfl) Tryz.underlying2 (by kernel_rfl)
theorem oW : Nu Tryz.prog 2 (Value.int .i64) := nC Tryz.underlying2
theorem aU : naB Tryz.prog 101 = true := by kernel_rfl
theorem Tg : naB Tryz.prog 102 = true := by kernel_rfl
theorem Mc : naB Tryz.prog 109 = true := by kernel_rfl
theorem aM : naB Tryz.prog 199 = true := by kernel_rfl
theorem na2 : naB Tryz.prog 2 = true := by kernel_rfl
theorem pE : naB Tryz.prog 22 = true := by kernel_rfl
theorem F8 : naB Tryz.prog 29 = true := by kernel_rfl
theorem na3 : naB Tryz.prog 3 = true := by kernel_rfl
theorem na4 : naB Tryz.prog 4 = true := by kernel_rfl
theorem Hu : naB Tryz.prog 56 = true := by kernel_rfl
theorem Qd : naB Tryz.prog 63 = true := by kernel_rfl
theorem Wv : naB Tryz.prog 70 = true := by kernel_rfl
theorem I6 : naB Tryz.prog 77 = true := by kernel_rfl
theorem qW : naB Tryz.prog 89 = true := by kernel_rfl
theorem Tc : Tryz.prog.eqGuardType Tryz.prog.depth 107 = false := by kernel_rfl
theorem jF : Tryz.prog.eqGuardType Tryz.prog.depth 167 = false := by kernel_rfl
theorem Gq : (Tryz.prog.info? 107).map (·.size) = some 2 := by kernel_rfl
theorem L9 : (Tryz.prog.info? 127).map (·.size) = some 2 := by kernel_rfl
theorem oK : (Tryz.prog.info? 131).map (·.size) = some 4 := by kernel_rfl
theorem pQ : (Tryz.prog.info? 142).map (·.size) = some 2 := by kernel_rfl
theorem Hw : (Tryz.prog.info? 167).map (·.size) = some 2 := by kernel_rfl
theorem sz2 : (Tryz.prog.info? 2).map (·.size) = some 1 := by kernel_rfl
theorem sz4 : (Tryz.prog.info? 4).map (·.size) = some 1 := by kernel_rfl
theorem Qb : (Tryz.prog.info? 56).map (·.size) = some 1 := by kernel_rfl
theorem I5 : (Tryz.prog.info? 77).map (·.size) = some 1 := by kernel_rfl
theorem rP : (Tryz.prog.info? 89).map (·.size) = some 1 := by kernel_rfl
abbrev nA := @Tryz.underlying101
abbrev gJ := @Tryz.underlying102
abbrev Mw := @Tryz.underlying109
abbrev F9 := @Tryz.underlying131
abbrev H8 := @Tryz.underlying165
abbrev K5 := @Tryz.underlying171
abbrev Og := @Tryz.underlying174
abbrev kV := @Tryz.underlying179
abbrev fM := @Tryz.underlying189
abbrev oO := @Tryz.underlying199
abbrev U2 := @Tryz.underlying2
abbrev U22 := @Tryz.underlying22
abbrev U29 := @Tryz.underlying29
abbrev U3 := @Tryz.underlying3
abbrev U56 := @Tryz.underlying56
abbrev U63 := @Tryz.underlying63
abbrev U70 := @Tryz.underlying70
abbrev U77 := @Tryz.underlying77
abbrev U89 := @Tryz.underlying89
theorem Jn : (Tryz.prog.info? 107).map (·.zero) = some (some (.agg #[.int .i64 0, .int .i64 0])) := by kernel_rfl
theorem Ti : (Tryz.prog.info? 111).map (·.zero) = some (some (.agg #[.slice none 0 0, .slice none 0 0, .slice none 0 0])) := by kernel_rfl
theorem Pq : (Tryz.prog.info? 127).map (·.zero) = some (some (.agg #[.int .i64 0, .int .i64 0])) := by kernel_rfl
theorem J2 : (Tryz.prog.info? 131).map (·.zero) = some (some (.agg #[.int .i64 0, .int .i64 0, .int .i64 0, .int .i64 0])) := by kernel_rfl
theorem Ns : (Tryz.prog.info? 167).map (·.zero) = some (some (.agg #[.int .i64 0, .int .i64 0])) := by kernel_rfl
theorem aQ : (Tryz.prog.info? 174).map (·.zero) = some (some (.agg #[.int .i64 0, .int .i64 0, .int .i64 0, .int .i64 0, .int .i64 0, .int .i64 0, .int .i64 0, .int .i64 0])) := by kernel_rfl
theorem rA : (Tryz.prog.info? 199).map (·.zero) = some (some (.map none)) := by kernel_rfl
theorem zr2 : (Tryz.prog.info? 2).map (·.zero) = some (some (.int .i64 0)) := by kernel_rfl
theorem zr3 : (Tryz.prog.info? 3).map (·.zero) = some (some (.int .i64 0)) := by kernel_rfl
theorem Qt : (Tryz.prog.info? 31).map (·.zero) = some (some (.agg #[.slice none 0 0])) := by kernel_rfl
theorem Zk : (Tryz.prog.info? 33).map (·.zero) = some (some (.agg #[.int .i64 0, .int .i64 0, .int .i64 0])) := by kernel_rfl
theorem zr4 : (Tryz.prog.info? 4).map (·.zero) = some (some (.bool false)) := by kernel_rfl
theorem aB : (Tryz.prog.info? 56).map (·.zero) = some (some (.slice none 0 0)) := by kernel_rfl
theorem Qc : (Tryz.prog.info? 65).map (·.zero) = some (some (.agg #[.slice none 0 0, .slice none 0 0, .slice none 0 0])) := by kernel_rfl
theorem qY : FK Tryz.prog 10 Tryz.f10 := ⟨Tryz.func10, by kernel_rfl, rfl⟩
theorem Zv : FK Tryz.prog 12 Tryz.f12 := ⟨Tryz.func12, by kernel_rfl, rfl⟩
theorem jX : FK Tryz.prog 13 Tryz.f13 := ⟨Tryz.func13, by kernel_rfl, rfl⟩
theorem qA : FK Tryz.prog 15 Tryz.f15 := ⟨Tryz.func15, by kernel_rfl, rfl⟩
theorem rR : FK Tryz.prog 22 Tryz.f22 := ⟨Tryz.func22, by kernel_rfl, rfl⟩
theorem pF : FK Tryz.prog 23 Tryz.f23 := ⟨Tryz.func23, by kernel_rfl, rfl⟩
theorem jG : FK Tryz.prog 24 Tryz.f24 := ⟨Tryz.func24, by kernel_rfl, rfl⟩
theorem pJ : FK Tryz.prog 26 Tryz.f26 := ⟨Tryz.func26, by kernel_rfl, rfl⟩
theorem qH : FK Tryz.prog 39 Tryz.f39 := ⟨Tryz.func39, by kernel_rfl, rfl⟩
theorem qG : FK Tryz.prog 40 Tryz.f40 := ⟨Tryz.func40, by kernel_rfl, rfl⟩
theorem qV : FK Tryz.prog 41 Tryz.f41 := ⟨Tryz.func41, by kernel_rfl, rfl⟩
theorem rH : FK Tryz.prog 42 Tryz.f42 := ⟨Tryz.func42, by kernel_rfl, rfl⟩
theorem pR : FK Tryz.prog 43 Tryz.f43 := ⟨Tryz.func43, by kernel_rfl, rfl⟩
theorem pO : FK Tryz.prog 44 Tryz.f44 := ⟨Tryz.func44, by kernel_rfl, rfl⟩
theorem jH : FK Tryz.prog 45 Tryz.f45 := ⟨Tryz.func45, by kernel_rfl, rfl⟩
theorem Ow : FK Tryz.prog 49 Tryz.f49 := ⟨Tryz.func49, by kernel_rfl, rfl⟩
theorem rJ : FK Tryz.prog 51 Tryz.f51 := ⟨Tryz.func51, by kernel_rfl, rfl⟩
theorem rQ : FK Tryz.prog 54 Tryz.f54 := ⟨Tryz.func54, by kernel_rfl, rfl⟩
theorem oU : FK Tryz.prog 61 Tryz.f61 := ⟨Tryz.func61, by kernel_rfl, rfl⟩
theorem Y5 : FK Tryz.prog 62 Tryz.f62 := ⟨Tryz.func62, by kernel_rfl, rfl⟩
theorem Vr : FK Tryz.prog 63 Tryz.f63 := ⟨Tryz.func63, by kernel_rfl, rfl⟩
theorem Oh : FK Tryz.prog 64 Tryz.f64 := ⟨Tryz.func64, by kernel_rfl, rfl⟩
theorem pG : FK Tryz.prog 65 Tryz.f65 := ⟨Tryz.func65, by kernel_rfl, rfl⟩
theorem qR : FK Tryz.prog 66 Tryz.f66 := ⟨Tryz.func66, by kernel_rfl, rfl⟩
theorem qZ : FK Tryz.prog 67 Tryz.f67 := ⟨Tryz.func67, by kernel_rfl, rfl⟩
theorem kG : FK Tryz.prog 68 Tryz.f68 := ⟨Tryz.func68, by kernel_rfl, rfl⟩
theorem pX : FK Tryz.prog 69 Tryz.f69 := ⟨Tryz.func69, by kernel_rfl, rfl⟩
theorem Ye : FK Tryz.prog 70 Tryz.f70 := ⟨Tryz.func70, by kernel_rfl, rfl⟩
theorem aK : FK Tryz.prog 71 Tryz.f71 := ⟨Tryz.func71, by kernel_rfl, rfl⟩
theorem oV : FK Tryz.prog 72 Tryz.f72 := ⟨Tryz.func72, by kernel_rfl, rfl⟩
theorem oZ : FK Tryz.prog 73 Tryz.f73 := ⟨Tryz.func73, by kernel_rfl, rfl⟩
theorem qX : FK Tryz.prog 74 Tryz.f74 := ⟨Tryz.func74, by kernel_rfl, rfl⟩
theorem pV : FK Tryz.prog 75 Tryz.f75 := ⟨Tryz.func75, by kernel_rfl, rfl⟩
theorem Iw : FK Tryz.prog 76 Tryz.f76 := ⟨Tryz.func76, by kernel_rfl, rfl⟩
theorem Wh : FK Tryz.prog 77 Tryz.f77 := ⟨Tryz.func77, by kernel_rfl, rfl⟩
theorem Yu : FK Tryz.prog 78 Tryz.f78 := ⟨Tryz.func78, by kernel_rfl, rfl⟩
theorem rZ : FK Tryz.prog 80 Tryz.f80 := ⟨Tryz.func80, by kernel_rfl, rfl⟩
theorem Vx : FK Tryz.prog 83 Tryz.f83 := ⟨Tryz.func83, by kernel_rfl, rfl⟩
theorem aT : FK Tryz.prog 84 Tryz.f84 := ⟨Tryz.func84, by kernel_rfl, rfl⟩
theorem Yz : FK Tryz.prog 87 Tryz.f87 := ⟨Tryz.func87, by kernel_rfl, rfl⟩
theorem jE : FK Tryz.prog 88 Tryz.f88 := ⟨Tryz.func88, by kernel_rfl, rfl⟩
theorem sN : FK Tryz.prog 89 Tryz.f89 := ⟨Tryz.func89, by kernel_rfl, rfl⟩
theorem X5 : FK Tryz.prog 90 Tryz.f90 := ⟨Tryz.func90, by kernel_rfl, rfl⟩
theorem Nb : FK Tryz.prog 91 Tryz.f91 := ⟨Tryz.func91, by kernel_rfl, rfl⟩
theorem cB : FK Tryz.prog 92 Tryz.f92 := ⟨Tryz.func92, by kernel_rfl, rfl⟩
theorem Ki : FK Tryz.prog 93 Tryz.f93 := ⟨Tryz.func93, by kernel_rfl, rfl⟩
theorem Vl : FK Tryz.prog 94 Tryz.f94 := ⟨Tryz.func94, by kernel_rfl, rfl⟩
theorem Si : FK Tryz.prog 95 Tryz.f95 := ⟨Tryz.func95, by kernel_rfl, rfl⟩
theorem rE : FK Tryz.prog 96 Tryz.f96 := ⟨Tryz.func96, by kernel_rfl, rfl⟩
theorem mU : FK Tryz.prog 102 Tryz.f102 := ⟨Tryz.func102, by kernel_rfl, rfl⟩
theorem mY : FK Tryz.prog 103 Tryz.f103 := ⟨Tryz.func103, by kernel_rfl, rfl⟩
theorem kX : FK Tryz.prog 104 Tryz.f104 := ⟨Tryz.func104, by kernel_rfl, rfl⟩
theorem lL : FK Tryz.prog 105 Tryz.f105 := ⟨Tryz.func105, by kernel_rfl, rfl⟩
theorem lN : FK Tryz.prog 106 Tryz.f106 := ⟨Tryz.func106, by kernel_rfl, rfl⟩
theorem nM : FK Tryz.prog 107 Tryz.f107 := ⟨Tryz.func107, by kernel_rfl, rfl⟩
theorem kK : FK Tryz.prog 108 Tryz.f108 := ⟨Tryz.func108, by kernel_rfl, rfl⟩
theorem lF : FK Tryz.prog 109 Tryz.f109 := ⟨Tryz.func109, by kernel_rfl, rfl⟩
theorem Ui : FK Tryz.prog 110 Tryz.f110 := ⟨Tryz.func110, by kernel_rfl, rfl⟩
theorem nW : FK Tryz.prog 111 Tryz.f111 := ⟨Tryz.func111, by kernel_rfl, rfl⟩
theorem nZ : FK Tryz.prog 112 Tryz.f112 := ⟨Tryz.func112, by kernel_rfl, rfl⟩
theorem kR : FK Tryz.prog 113 Tryz.f113 := ⟨Tryz.func113, by kernel_rfl, rfl⟩
theorem nV : FK Tryz.prog 114 Tryz.f114 := ⟨Tryz.func114, by kernel_rfl, rfl⟩
theorem nN : FK Tryz.prog 115 Tryz.f115 := ⟨Tryz.func115, by kernel_rfl, rfl⟩
theorem U0 : FK Tryz.prog 116 Tryz.f116 := ⟨Tryz.func116, by kernel_rfl, rfl⟩
theorem Qr : FK Tryz.prog 117 Tryz.f117 := ⟨Tryz.func117, by kernel_rfl, rfl⟩
theorem Xx : FK Tryz.prog 118 Tryz.f118 := ⟨Tryz.func118, by kernel_rfl, rfl⟩
theorem Xg : FK Tryz.prog 119 Tryz.f119 := ⟨Tryz.func119, by kernel_rfl, rfl⟩
theorem Re : FK Tryz.prog 120 Tryz.f120 := ⟨Tryz.func120, by kernel_rfl, rfl⟩
theorem Xp : FK Tryz.prog 121 Tryz.f121 := ⟨Tryz.func121, by kernel_rfl, rfl⟩
theorem Xt : FK Tryz.prog 122 Tryz.f122 := ⟨Tryz.func122, by kernel_rfl, rfl⟩
theorem Ro : FK Tryz.prog 124 Tryz.f124 := ⟨Tryz.func124, by kernel_rfl, rfl⟩
theorem Z6 : FK Tryz.prog 126 Tryz.f126 := ⟨Tryz.func126, by kernel_rfl, rfl⟩
theorem mK : FK Tryz.prog 127 Tryz.f127 := ⟨Tryz.func127, by kernel_rfl, rfl⟩
theorem kU : FK Tryz.prog 128 Tryz.f128 := ⟨Tryz.func128, by kernel_rfl, rfl⟩
theorem kM : FK Tryz.prog 129 Tryz.f129 := ⟨Tryz.func129, by kernel_rfl, rfl⟩
theorem Pb : FK Tryz.prog 130 Tryz.f130 := ⟨Tryz.func130, by kernel_rfl, rfl⟩
theorem Ug : FK Tryz.prog 131 Tryz.f131 := ⟨Tryz.func131, by kernel_rfl, rfl⟩
theorem lX : FK Tryz.prog 132 Tryz.f132 := ⟨Tryz.func132, by kernel_rfl, rfl⟩
theorem dO : FK Tryz.prog 133 Tryz.f133 := ⟨Tryz.func133, by kernel_rfl, rfl⟩
theorem lH : FK Tryz.prog 134 Tryz.f134 := ⟨Tryz.func134, by kernel_rfl, rfl⟩
theorem Wz : FK Tryz.prog 135 Tryz.f135 := ⟨Tryz.func135, by kernel_rfl, rfl⟩
theorem Tu : FK Tryz.prog 136 Tryz.f136 := ⟨Tryz.func136, by kernel_rfl, rfl⟩
theorem Q0 : FK Tryz.prog 137 Tryz.f137 := ⟨Tryz.func137, by kernel_rfl, rfl⟩
theorem O4 : FK Tryz.prog 138 Tryz.f138 := ⟨Tryz.func138, by kernel_rfl, rfl⟩
theorem Uc : FK Tryz.prog 139 Tryz.f139 := ⟨Tryz.func139, by kernel_rfl, rfl⟩
theorem aX : FK Tryz.prog 140 Tryz.f140 := ⟨Tryz.func140, by kernel_rfl, rfl⟩
theorem dM : FK Tryz.prog 141 Tryz.f141 := ⟨Tryz.func141, by kernel_rfl, rfl⟩
theorem mZ : FK Tryz.prog 142 Tryz.f142 := ⟨Tryz.func142, by kernel_rfl, rfl⟩
theorem nQ : FK Tryz.prog 143 Tryz.f143 := ⟨Tryz.func143, by kernel_rfl, rfl⟩
theorem bX : FK Tryz.prog 144 Tryz.f144 := ⟨Tryz.func144, by kernel_rfl, rfl⟩
theorem nD : FK Tryz.prog 145 Tryz.f145 := ⟨Tryz.func145, by kernel_rfl, rfl⟩
theorem nR : FK Tryz.prog 147 Tryz.f147 := ⟨Tryz.func147, by kernel_rfl, rfl⟩
theorem lZ : FK Tryz.prog 148 Tryz.f148 := ⟨Tryz.func148, by kernel_rfl, rfl⟩
theorem bW : FK Tryz.prog 149 Tryz.f149 := ⟨Tryz.func149, by kernel_rfl, rfl⟩
theorem Ul : FK Tryz.prog 150 Tryz.f150 := ⟨Tryz.func150, by kernel_rfl, rfl⟩
theorem U6 : FK Tryz.prog 151 Tryz.f151 := ⟨Tryz.func151, by kernel_rfl, rfl⟩
theorem lC : FK Tryz.prog 153 Tryz.f153 := ⟨Tryz.func153, by kernel_rfl, rfl⟩
theorem mP : FK Tryz.prog 154 Tryz.f154 := ⟨Tryz.func154, by kernel_rfl, rfl⟩
theorem Xk : FK Tryz.prog 155 Tryz.f155 := ⟨Tryz.func155, by kernel_rfl, rfl⟩
theorem mO : FK Tryz.prog 156 Tryz.f156 := ⟨Tryz.func156, by kernel_rfl, rfl⟩
theorem kS : FK Tryz.prog 157 Tryz.f157 := ⟨Tryz.func157, by kernel_rfl, rfl⟩
theorem nH : FK Tryz.prog 158 Tryz.f158 := ⟨Tryz.func158, by kernel_rfl, rfl⟩
theorem Tt : FK Tryz.prog 159 Tryz.f159 := ⟨Tryz.func159, by kernel_rfl, rfl⟩
theorem bR : FK Tryz.prog 160 Tryz.f160 := ⟨Tryz.func160, by kernel_rfl, rfl⟩
theorem oD : FK Tryz.prog 161 Tryz.f161 := ⟨Tryz.func161, by kernel_rfl, rfl⟩
theorem kY : FK Tryz.prog 162 Tryz.f162 := ⟨Tryz.func162, by kernel_rfl, rfl⟩
theorem nE : FK Tryz.prog 163 Tryz.f163 := ⟨Tryz.func163, by kernel_rfl, rfl⟩
theorem kW : FK Tryz.prog 165 Tryz.f165 := ⟨Tryz.func165, by kernel_rfl, rfl⟩
theorem mW : FK Tryz.prog 166 Tryz.f166 := ⟨Tryz.func166, by kernel_rfl, rfl⟩
theorem mG : FK Tryz.prog 167 Tryz.f167 := ⟨Tryz.func167, by kernel_rfl, rfl⟩
theorem lQ : FK Tryz.prog 168 Tryz.f168 := ⟨Tryz.func168, by kernel_rfl, rfl⟩
theorem nO : FK Tryz.prog 169 Tryz.f169 := ⟨Tryz.func169, by kernel_rfl, rfl⟩
theorem bM : FK Tryz.prog 170 Tryz.f170 := ⟨Tryz.func170, by kernel_rfl, rfl⟩
theorem lU : FK Tryz.prog 171 Tryz.f171 := ⟨Tryz.func171, by kernel_rfl, rfl⟩
theorem mixed : Tryz.prog.follows .mixedOrders = true := by kernel_rfl
end Go.Proofs.YtbjfinndngafoaaGreat
