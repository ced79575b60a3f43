import Derived.Test.YtgkgmhkgahalgaaGreatProg
import Derived.Test.YtgkgmhkgahalgaaGreatAlM
set_option linter.unusedVariables false
set_option linter.unusedSimpArgs false
namespace Go.Proofs.YtgkgmhkgahalgaaGreat
open Go.RowKit
theorem zJ:agB Tryz.prog 129 2=true:=by kernel_rfl
theorem Wm:agB Tryz.prog 138 15=true:=by kernel_rfl
theorem qJ:agB Tryz.prog 152 2=true:=by kernel_rfl
theorem S9:agB Tryz.prog 160 4=true:=by kernel_rfl
theorem J4:agB Tryz.prog 176 2=true:=by kernel_rfl
theorem iQ:agB Tryz.prog 24 1=true:=by kernel_rfl
theorem Le:agB Tryz.prog 28 2=true:=by kernel_rfl
theorem Iy:agB Tryz.prog 33 1=true:=by kernel_rfl
theorem Fx:agB Tryz.prog 57 3=true:=by kernel_rfl
theorem Q4:agB Tryz.prog 67 2=true:=by kernel_rfl
theorem Jf:agB Tryz.prog 83 2=true:=by kernel_rfl
theorem Zn:agB Tryz.prog 95 3=true:=by kernel_rfl
theorem rF {a0 a1 b0 b1:Int} {w:World}:(Op.equal 176 (.agg [.int .i64 a0,.int .i64 a1].toArray) (.agg [.int .i64 b0,.int .i64 b1].toArray)).run Tryz.prog w=.ok (decide ((a0,a1)=(b0,b1))) w:=dR Tryz.underlying176 (by kernel_rfl) (by decide) Tryz.underlying2 Tryz.underlying2 (by kernel_rfl) (by kernel_rfl)
theorem gM {a0 a1 b0 b1:Int} {w:World}:(Op.equal 83 (.agg [.int .i64 a0,.int .i64 a1].toArray) (.agg [.int .i64 b0,.int .i64 b1].toArray)).run Tryz.prog w=.ok (decide ((a0,a1)=(b0,b1))) w:=dR Tryz.underlying83 (by kernel_rfl) (by decide) Tryz.underlying2 Tryz.underlying2 (by kernel_rfl) (by kernel_rfl)
theorem Ia:∀ (ad:Addr) (w:World),(Instr.fieldAt 124 (.pointer (some ad)) 0).run Tryz.prog w=.ok (.pointer (some (ad.add 0))) w:=fun _ _=>by kernel_rfl
theorem Qb:∀ (ad:Addr) (w:World),(Instr.fieldAt 124 (.pointer (some ad)) 1).run Tryz.prog w=.ok (.pointer (some (ad.add 3))) w:=fun _ _=>by kernel_rfl
theorem Rm:∀ (ad:Addr) (w:World),(Instr.fieldAt 124 (.pointer (some ad)) 2).run Tryz.prog w=.ok (.pointer (some (ad.add 6))) w:=fun _ _=>by kernel_rfl
theorem dO:∀ (ad:Addr) (w:World),(Instr.fieldAt 124 (.pointer (some ad)) 3).run Tryz.prog w=.ok (.pointer (some (ad.add 9))) w:=fun _ _=>by kernel_rfl
theorem fA:∀ (ad:Addr) (w:World),(Instr.fieldAt 124 (.pointer (some ad)) 4).run Tryz.prog w=.ok (.pointer (some (ad.add 12))) w:=fun _ _=>by kernel_rfl
theorem Kn:∀ (ad:Addr) (w:World),(Instr.fieldAt 124 (.pointer (some ad)) 5).run Tryz.prog w=.ok (.pointer (some (ad.add 15))) w:=fun _ _=>by kernel_rfl
theorem nR:∀ (ad:Addr) (w:World),(Instr.fieldAt 129 (.pointer (some ad)) 0).run Tryz.prog w=.ok (.pointer (some (ad.add 0))) w:=fun _ _=>by kernel_rfl
theorem oU:∀ (ad:Addr) (w:World),(Instr.fieldAt 129 (.pointer (some ad)) 1).run Tryz.prog w=.ok (.pointer (some (ad.add 1))) w:=fun _ _=>by kernel_rfl
theorem X9:∀ (ad:Addr) (w:World),(Instr.fieldAt 138 (.pointer (some ad)) 0).run Tryz.prog w=.ok (.pointer (some (ad.add 0))) w:=fun _ _=>by kernel_rfl
theorem Rn:∀ (ad:Addr) (w:World),(Instr.fieldAt 138 (.pointer (some ad)) 1).run Tryz.prog w=.ok (.pointer (some (ad.add 3))) w:=fun _ _=>by kernel_rfl
theorem Ld:∀ (ad:Addr) (w:World),(Instr.fieldAt 138 (.pointer (some ad)) 2).run Tryz.prog w=.ok (.pointer (some (ad.add 6))) w:=fun _ _=>by kernel_rfl
theorem dL:∀ (ad:Addr) (w:World),(Instr.fieldAt 138 (.pointer (some ad)) 3).run Tryz.prog w=.ok (.pointer (some (ad.add 9))) w:=fun _ _=>by kernel_rfl
theorem dU:∀ (ad:Addr) (w:World),(Instr.fieldAt 138 (.pointer (some ad)) 4).run Tryz.prog w=.ok (.pointer (some (ad.add 12))) w:=fun _ _=>by kernel_rfl
theorem I9:∀ (ad:Addr) (w:World),(Instr.fieldAt 168 (.pointer (some ad)) 0).run Tryz.prog w=.ok (.pointer (some (ad.add 0))) w:=fun _ _=>by kernel_rfl
theorem Mq:∀ (ad:Addr) (w:World),(Instr.fieldAt 168 (.pointer (some ad)) 1).run Tryz.prog w=.ok (.pointer (some (ad.add 15))) w:=fun _ _=>by kernel_rfl
theorem Tv:∀ (ad:Addr) (w:World),(Instr.fieldAt 176 (.pointer (some ad)) 0).run Tryz.prog w=.ok (.pointer (some (ad.add 0))) w:=fun _ _=>by kernel_rfl
theorem Rk:∀ (ad:Addr) (w:World),(Instr.fieldAt 176 (.pointer (some ad)) 1).run Tryz.prog w=.ok (.pointer (some (ad.add 1))) w:=fun _ _=>by kernel_rfl
theorem mE:∀ (ad:Addr) (w:World),(Instr.fieldAt 24 (.pointer (some ad)) 0).run Tryz.prog w=.ok (.pointer (some (ad.add 0))) w:=fun _ _=>by kernel_rfl
theorem jK:∀ (ad:Addr) (w:World),(Instr.fieldAt 28 (.pointer (some ad)) 0).run Tryz.prog w=.ok (.pointer (some (ad.add 0))) w:=fun _ _=>by kernel_rfl
theorem X6:∀ (ad:Addr) (w:World),(Instr.fieldAt 28 (.pointer (some ad)) 1).run Tryz.prog w=.ok (.pointer (some (ad.add 1))) w:=fun _ _=>by kernel_rfl
theorem F3:∀ (ad:Addr) (w:World),(Instr.fieldAt 33 (.pointer (some ad)) 0).run Tryz.prog w=.ok (.pointer (some (ad.add 0))) w:=fun _ _=>by kernel_rfl
theorem Im:∀ (ad:Addr) (w:World),(Instr.fieldAt 57 (.pointer (some ad)) 0).run Tryz.prog w=.ok (.pointer (some (ad.add 0))) w:=fun _ _=>by kernel_rfl
theorem Gg:∀ (ad:Addr) (w:World),(Instr.fieldAt 57 (.pointer (some ad)) 1).run Tryz.prog w=.ok (.pointer (some (ad.add 1))) w:=fun _ _=>by kernel_rfl
theorem Km:∀ (ad:Addr) (w:World),(Instr.fieldAt 57 (.pointer (some ad)) 2).run Tryz.prog w=.ok (.pointer (some (ad.add 2))) w:=fun _ _=>by kernel_rfl
theorem lD:∀ (ad:Addr) (w:World),(Instr.fieldAt 67 (.pointer (some ad)) 0).run Tryz.prog w=.ok (.pointer (some (ad.add 0))) w:=fun _ _=>by kernel_rfl
theorem Ny:∀ (ad:Addr) (w:World),(Instr.fieldAt 67 (.pointer (some ad)) 1).run Tryz.prog w=.ok (.pointer (some (ad.add 1))) w:=fun _ _=>by kernel_rfl
theorem F6:∀ (ad:Addr) (w:World),(Instr.fieldAt 83 (.pointer (some ad)) 0).run Tryz.prog w=.ok (.pointer (some (ad.add 0))) w:=fun _ _=>by kernel_rfl
theorem J7:∀ (ad:Addr) (w:World),(Instr.fieldAt 83 (.pointer (some ad)) 1).run Tryz.prog w=.ok (.pointer (some (ad.add 1))) w:=fun _ _=>by kernel_rfl
theorem lZ:∀ (ad:Addr) (w:World),(Instr.fieldAt 95 (.pointer (some ad)) 0).run Tryz.prog w=.ok (.pointer (some (ad.add 0))) w:=fun _ _=>by kernel_rfl
theorem Rs:∀ (ad:Addr) (w:World),(Instr.fieldAt 95 (.pointer (some ad)) 1).run Tryz.prog w=.ok (.pointer (some (ad.add 1))) w:=fun _ _=>by kernel_rfl
theorem mX:∀ (ad:Addr) (w:World),(Instr.fieldAt 95 (.pointer (some ad)) 2).run Tryz.prog w=.ok (.pointer (some (ad.add 2))) w:=fun _ _=>by kernel_rfl
theorem rV:(Tryz.prog.info? 152).map (fun i=>(i.zero,i.size,i.bytes))=some (some (.agg #[.int .i64 0,.int .i64 0]),2,16):=by kernel_rfl
theorem lV:(Tryz.prog.info? 176).map (fun i=>(i.zero,i.size,i.bytes))=some (some (.agg #[.int .i64 0,.int .i64 0]),2,16):=by kernel_rfl
theorem Lf:(Tryz.prog.info? 2).map (fun i=>(i.zero,i.size,i.bytes))=some (some (.int .i64 0),1,8):=by kernel_rfl
theorem Qi:(Tryz.prog.info? 26).map (fun i=>(i.zero,i.size,i.bytes))=some (some (.slice none 0 0),1,24):=by kernel_rfl
theorem Vq:(Tryz.prog.info? 4).map (fun i=>(i.zero,i.size,i.bytes))=some (some (.bool false),1,1):=by kernel_rfl
theorem zD:(Tryz.prog.info? 81).map (fun i=>(i.zero,i.size,i.bytes))=some (some (.slice none 0 0),1,24):=by kernel_rfl
theorem zB:(Tryz.prog.info? 83).map (fun i=>(i.zero,i.size,i.bytes))=some (some (.agg #[.int .i64 0,.int .i64 0]),2,16):=by kernel_rfl
theorem wX:Vi Tryz.prog 2 (Value.int .i64):=vI Tryz.underlying2
theorem mG:naB Tryz.prog 162=true:=by kernel_rfl
theorem na2:naB Tryz.prog 2=true:=by kernel_rfl
theorem wY:naB Tryz.prog 22=true:=by kernel_rfl
theorem Ip:naB Tryz.prog 26=true:=by kernel_rfl
theorem na3:naB Tryz.prog 3=true:=by kernel_rfl
theorem Jo:naB Tryz.prog 31=true:=by kernel_rfl
theorem na4:naB Tryz.prog 4=true:=by kernel_rfl
theorem Ob:naB Tryz.prog 65=true:=by kernel_rfl
theorem Aac:naB Tryz.prog 80=true:=by kernel_rfl
theorem Lj:naB Tryz.prog 81=true:=by kernel_rfl
theorem qM:Tryz.prog.eqGuardType Tryz.prog.depth 176=false:=by kernel_rfl
theorem fP:Tryz.prog.eqGuardType Tryz.prog.depth 83=false:=by kernel_rfl
theorem zC:(Tryz.prog.info? 129).map (·.size)=some 2:=by kernel_rfl
theorem yM:(Tryz.prog.info? 152).map (·.size)=some 2:=by kernel_rfl
theorem Zf:(Tryz.prog.info? 176).map (·.size)=some 2:=by kernel_rfl
theorem sz2:(Tryz.prog.info? 2).map (·.size)=some 1:=by kernel_rfl
theorem Na:(Tryz.prog.info? 26).map (·.size)=some 1:=by kernel_rfl
theorem sz4:(Tryz.prog.info? 4).map (·.size)=some 1:=by kernel_rfl
theorem xP:(Tryz.prog.info? 80).map (·.size)=some 1:=by kernel_rfl
theorem Lm:(Tryz.prog.info? 81).map (·.size)=some 1:=by kernel_rfl
theorem Ls:(Tryz.prog.info? 83).map (·.size)=some 2:=by kernel_rfl
abbrev Kt:=@Tryz.underlying104
abbrev sZ:=@Tryz.underlying150
abbrev wZ:=@Tryz.underlying152
abbrev L8:=@Tryz.underlying160
abbrev zV:=@Tryz.underlying162
abbrev Uw:=@Tryz.underlying174
abbrev oV:=@Tryz.underlying182
abbrev U2:=@Tryz.underlying2
abbrev U22:=@Tryz.underlying22
abbrev U26:=@Tryz.underlying26
abbrev U31:=@Tryz.underlying31
abbrev U4:=@Tryz.underlying4
abbrev U65:=@Tryz.underlying65
abbrev U80:=@Tryz.underlying80
abbrev U81:=@Tryz.underlying81
theorem qU:(Tryz.prog.info? 138).map (·.zero)=some (some (.agg #[.int .i64 0,.int .i64 0,.slice none 0 0,.int .i64 0,.int .i64 0,.slice none 0 0,.int .i64 0,.int .i64 0,.slice none 0 0,.int .i64 0,.int .i64 0,.slice none 0 0,.int .i64 0,.int .i64 0,.slice none 0 0])):=by kernel_rfl
theorem yT:(Tryz.prog.info? 152).map (·.zero)=some (some (.agg #[.int .i64 0,.int .i64 0])):=by kernel_rfl
theorem Ug:(Tryz.prog.info? 160).map (·.zero)=some (some (.agg #[.int .i64 0,.int .i64 0,.int .i64 0,.int .i64 0])):=by kernel_rfl
theorem yQ:(Tryz.prog.info? 162).map (·.zero)=some (some (.map none)):=by kernel_rfl
theorem Q7:(Tryz.prog.info? 176).map (·.zero)=some (some (.agg #[.int .i64 0,.int .i64 0])):=by kernel_rfl
theorem zr2:(Tryz.prog.info? 2).map (·.zero)=some (some (.int .i64 0)):=by kernel_rfl
theorem jN:(Tryz.prog.info? 26).map (·.zero)=some (some (.slice none 0 0)):=by kernel_rfl
theorem bR:(Tryz.prog.info? 28).map (·.zero)=some (some (.agg #[.int .i64 0,.slice none 0 0])):=by kernel_rfl
theorem zr3:(Tryz.prog.info? 3).map (·.zero)=some (some (.int .i64 0)):=by kernel_rfl
theorem vE:(Tryz.prog.info? 33).map (·.zero)=some (some (.agg #[.slice none 0 0])):=by kernel_rfl
theorem zr4:(Tryz.prog.info? 4).map (·.zero)=some (some (.bool false)):=by kernel_rfl
theorem R8:(Tryz.prog.info? 57).map (·.zero)=some (some (.agg #[.int .i64 0,.int .i64 0,.slice none 0 0])):=by kernel_rfl
theorem bG:(Tryz.prog.info? 67).map (·.zero)=some (some (.agg #[.int .i64 0,.slice none 0 0])):=by kernel_rfl
theorem Pb:(Tryz.prog.info? 83).map (·.zero)=some (some (.agg #[.int .i64 0,.int .i64 0])):=by kernel_rfl
theorem gJ:(Tryz.prog.info? 95).map (·.zero)=some (some (.agg #[.slice none 0 0,.slice none 0 0,.slice none 0 0])):=by kernel_rfl
theorem Aa3:FK Tryz.prog 8 Tryz.f8:=⟨Tryz.func8,by kernel_rfl,rfl⟩
theorem eP:FK Tryz.prog 10 Tryz.f10:=⟨Tryz.func10,by kernel_rfl,rfl⟩
theorem Vx:FK Tryz.prog 12 Tryz.f12:=⟨Tryz.func12,by kernel_rfl,rfl⟩
theorem zR:FK Tryz.prog 13 Tryz.f13:=⟨Tryz.func13,by kernel_rfl,rfl⟩
theorem yE:FK Tryz.prog 14 Tryz.f14:=⟨Tryz.func14,by kernel_rfl,rfl⟩
theorem xV:FK Tryz.prog 15 Tryz.f15:=⟨Tryz.func15,by kernel_rfl,rfl⟩
theorem qN:FK Tryz.prog 16 Tryz.f16:=⟨Tryz.func16,by kernel_rfl,rfl⟩
theorem zU:FK Tryz.prog 21 Tryz.f21:=⟨Tryz.func21,by kernel_rfl,rfl⟩
theorem zW:FK Tryz.prog 22 Tryz.f22:=⟨Tryz.func22,by kernel_rfl,rfl⟩
theorem xC:FK Tryz.prog 23 Tryz.f23:=⟨Tryz.func23,by kernel_rfl,rfl⟩
theorem xS:FK Tryz.prog 29 Tryz.f29:=⟨Tryz.func29,by kernel_rfl,rfl⟩
theorem rH:FK Tryz.prog 30 Tryz.f30:=⟨Tryz.func30,by kernel_rfl,rfl⟩
theorem yN:FK Tryz.prog 31 Tryz.f31:=⟨Tryz.func31,by kernel_rfl,rfl⟩
theorem rC:FK Tryz.prog 32 Tryz.f32:=⟨Tryz.func32,by kernel_rfl,rfl⟩
theorem qY:FK Tryz.prog 33 Tryz.f33:=⟨Tryz.func33,by kernel_rfl,rfl⟩
theorem yD:FK Tryz.prog 34 Tryz.f34:=⟨Tryz.func34,by kernel_rfl,rfl⟩
theorem xE:FK Tryz.prog 37 Tryz.f37:=⟨Tryz.func37,by kernel_rfl,rfl⟩
theorem zF:FK Tryz.prog 41 Tryz.f41:=⟨Tryz.func41,by kernel_rfl,rfl⟩
theorem zM:FK Tryz.prog 42 Tryz.f42:=⟨Tryz.func42,by kernel_rfl,rfl⟩
theorem Aal:FK Tryz.prog 46 Tryz.f46:=⟨Tryz.func46,by kernel_rfl,rfl⟩
theorem qI:FK Tryz.prog 47 Tryz.f47:=⟨Tryz.func47,by kernel_rfl,rfl⟩
theorem rE:FK Tryz.prog 48 Tryz.f48:=⟨Tryz.func48,by kernel_rfl,rfl⟩
theorem zY:FK Tryz.prog 49 Tryz.f49:=⟨Tryz.func49,by kernel_rfl,rfl⟩
theorem xK:FK Tryz.prog 50 Tryz.f50:=⟨Tryz.func50,by kernel_rfl,rfl⟩
theorem zO:FK Tryz.prog 51 Tryz.f51:=⟨Tryz.func51,by kernel_rfl,rfl⟩
theorem qF:FK Tryz.prog 52 Tryz.f52:=⟨Tryz.func52,by kernel_rfl,rfl⟩
theorem qZ:FK Tryz.prog 53 Tryz.f53:=⟨Tryz.func53,by kernel_rfl,rfl⟩
theorem Lg:FK Tryz.prog 54 Tryz.f54:=⟨Tryz.func54,by kernel_rfl,rfl⟩
theorem Wt:FK Tryz.prog 55 Tryz.f55:=⟨Tryz.func55,by kernel_rfl,rfl⟩
theorem qR:FK Tryz.prog 56 Tryz.f56:=⟨Tryz.func56,by kernel_rfl,rfl⟩
theorem yY:FK Tryz.prog 57 Tryz.f57:=⟨Tryz.func57,by kernel_rfl,rfl⟩
theorem zZ:FK Tryz.prog 58 Tryz.f58:=⟨Tryz.func58,by kernel_rfl,rfl⟩
theorem O7:FK Tryz.prog 59 Tryz.f59:=⟨Tryz.func59,by kernel_rfl,rfl⟩
theorem Aah:FK Tryz.prog 60 Tryz.f60:=⟨Tryz.func60,by kernel_rfl,rfl⟩
theorem Mr:FK Tryz.prog 61 Tryz.f61:=⟨Tryz.func61,by kernel_rfl,rfl⟩
theorem Aaf:FK Tryz.prog 62 Tryz.f62:=⟨Tryz.func62,by kernel_rfl,rfl⟩
theorem xZ:FK Tryz.prog 63 Tryz.f63:=⟨Tryz.func63,by kernel_rfl,rfl⟩
theorem yJ:FK Tryz.prog 64 Tryz.f64:=⟨Tryz.func64,by kernel_rfl,rfl⟩
theorem zH:FK Tryz.prog 67 Tryz.f67:=⟨Tryz.func67,by kernel_rfl,rfl⟩
theorem Aam:FK Tryz.prog 68 Tryz.f68:=⟨Tryz.func68,by kernel_rfl,rfl⟩
theorem dN:FK Tryz.prog 69 Tryz.f69:=⟨Tryz.func69,by kernel_rfl,rfl⟩
theorem xR:FK Tryz.prog 71 Tryz.f71:=⟨Tryz.func71,by kernel_rfl,rfl⟩
theorem Yx:FK Tryz.prog 72 Tryz.f72:=⟨Tryz.func72,by kernel_rfl,rfl⟩
theorem lM:FK Tryz.prog 74 Tryz.f74:=⟨Tryz.func74,by kernel_rfl,rfl⟩
theorem xN:FK Tryz.prog 75 Tryz.f75:=⟨Tryz.func75,by kernel_rfl,rfl⟩
theorem zP:FK Tryz.prog 76 Tryz.f76:=⟨Tryz.func76,by kernel_rfl,rfl⟩
theorem Qg:FK Tryz.prog 77 Tryz.f77:=⟨Tryz.func77,by kernel_rfl,rfl⟩
theorem yX:FK Tryz.prog 78 Tryz.f78:=⟨Tryz.func78,by kernel_rfl,rfl⟩
theorem xO:FK Tryz.prog 79 Tryz.f79:=⟨Tryz.func79,by kernel_rfl,rfl⟩
theorem kL:FK Tryz.prog 81 Tryz.f81:=⟨Tryz.func81,by kernel_rfl,rfl⟩
theorem yK:FK Tryz.prog 83 Tryz.f83:=⟨Tryz.func83,by kernel_rfl,rfl⟩
theorem jL:FK Tryz.prog 84 Tryz.f84:=⟨Tryz.func84,by kernel_rfl,rfl⟩
theorem Aad:FK Tryz.prog 85 Tryz.f85:=⟨Tryz.func85,by kernel_rfl,rfl⟩
theorem wS:FK Tryz.prog 90 Tryz.f90:=⟨Tryz.func90,by kernel_rfl,rfl⟩
theorem zT:FK Tryz.prog 91 Tryz.f91:=⟨Tryz.func91,by kernel_rfl,rfl⟩
theorem xA:FK Tryz.prog 93 Tryz.f93:=⟨Tryz.func93,by kernel_rfl,rfl⟩
theorem xD:FK Tryz.prog 94 Tryz.f94:=⟨Tryz.func94,by kernel_rfl,rfl⟩
theorem xG:FK Tryz.prog 95 Tryz.f95:=⟨Tryz.func95,by kernel_rfl,rfl⟩
theorem zK:FK Tryz.prog 96 Tryz.f96:=⟨Tryz.func96,by kernel_rfl,rfl⟩
theorem qH:FK Tryz.prog 97 Tryz.f97:=⟨Tryz.func97,by kernel_rfl,rfl⟩
theorem Aag:FK Tryz.prog 98 Tryz.f98:=⟨Tryz.func98,by kernel_rfl,rfl⟩
theorem wW:FK Tryz.prog 99 Tryz.f99:=⟨Tryz.func99,by kernel_rfl,rfl⟩
theorem vV:FK Tryz.prog 100 Tryz.f100:=⟨Tryz.func100,by kernel_rfl,rfl⟩
theorem mU:FK Tryz.prog 101 Tryz.f101:=⟨Tryz.func101,by kernel_rfl,rfl⟩
theorem kJ:FK Tryz.prog 102 Tryz.f102:=⟨Tryz.func102,by kernel_rfl,rfl⟩
theorem R5:FK Tryz.prog 103 Tryz.f103:=⟨Tryz.func103,by kernel_rfl,rfl⟩
theorem sO:FK Tryz.prog 104 Tryz.f104:=⟨Tryz.func104,by kernel_rfl,rfl⟩
theorem Kg:FK Tryz.prog 105 Tryz.f105:=⟨Tryz.func105,by kernel_rfl,rfl⟩
theorem Um:FK Tryz.prog 106 Tryz.f106:=⟨Tryz.func106,by kernel_rfl,rfl⟩
theorem vS:FK Tryz.prog 107 Tryz.f107:=⟨Tryz.func107,by kernel_rfl,rfl⟩
theorem aA:FK Tryz.prog 108 Tryz.f108:=⟨Tryz.func108,by kernel_rfl,rfl⟩
theorem aM:FK Tryz.prog 109 Tryz.f109:=⟨Tryz.func109,by kernel_rfl,rfl⟩
theorem bC:FK Tryz.prog 110 Tryz.f110:=⟨Tryz.func110,by kernel_rfl,rfl⟩
theorem wE:FK Tryz.prog 111 Tryz.f111:=⟨Tryz.func111,by kernel_rfl,rfl⟩
theorem wH:FK Tryz.prog 112 Tryz.f112:=⟨Tryz.func112,by kernel_rfl,rfl⟩
theorem gY:FK Tryz.prog 113 Tryz.f113:=⟨Tryz.func113,by kernel_rfl,rfl⟩
theorem Qw:FK Tryz.prog 114 Tryz.f114:=⟨Tryz.func114,by kernel_rfl,rfl⟩
theorem vX:FK Tryz.prog 115 Tryz.f115:=⟨Tryz.func115,by kernel_rfl,rfl⟩
theorem wD:FK Tryz.prog 116 Tryz.f116:=⟨Tryz.func116,by kernel_rfl,rfl⟩
theorem Xd:FK Tryz.prog 117 Tryz.f117:=⟨Tryz.func117,by kernel_rfl,rfl⟩
theorem Vj:FK Tryz.prog 118 Tryz.f118:=⟨Tryz.func118,by kernel_rfl,rfl⟩
theorem uT:FK Tryz.prog 119 Tryz.f119:=⟨Tryz.func119,by kernel_rfl,rfl⟩
theorem uO:FK Tryz.prog 120 Tryz.f120:=⟨Tryz.func120,by kernel_rfl,rfl⟩
theorem Vb:FK Tryz.prog 122 Tryz.f122:=⟨Tryz.func122,by kernel_rfl,rfl⟩
theorem wQ:FK Tryz.prog 123 Tryz.f123:=⟨Tryz.func123,by kernel_rfl,rfl⟩
theorem kW:FK Tryz.prog 124 Tryz.f124:=⟨Tryz.func124,by kernel_rfl,rfl⟩
theorem Yj:FK Tryz.prog 125 Tryz.f125:=⟨Tryz.func125,by kernel_rfl,rfl⟩
theorem uZ:FK Tryz.prog 127 Tryz.f127:=⟨Tryz.func127,by kernel_rfl,rfl⟩
theorem aG:FK Tryz.prog 128 Tryz.f128:=⟨Tryz.func128,by kernel_rfl,rfl⟩
theorem Xc:FK Tryz.prog 129 Tryz.f129:=⟨Tryz.func129,by kernel_rfl,rfl⟩
theorem bQ:FK Tryz.prog 130 Tryz.f130:=⟨Tryz.func130,by kernel_rfl,rfl⟩
theorem Xz:FK Tryz.prog 131 Tryz.f131:=⟨Tryz.func131,by kernel_rfl,rfl⟩
theorem tQ:FK Tryz.prog 134 Tryz.f134:=⟨Tryz.func134,by kernel_rfl,rfl⟩
theorem iP:FK Tryz.prog 135 Tryz.f135:=⟨Tryz.func135,by kernel_rfl,rfl⟩
theorem iO:FK Tryz.prog 136 Tryz.f136:=⟨Tryz.func136,by kernel_rfl,rfl⟩
theorem tJ:FK Tryz.prog 137 Tryz.f137:=⟨Tryz.func137,by kernel_rfl,rfl⟩
theorem uK:FK Tryz.prog 138 Tryz.f138:=⟨Tryz.func138,by kernel_rfl,rfl⟩
theorem uL:FK Tryz.prog 139 Tryz.f139:=⟨Tryz.func139,by kernel_rfl,rfl⟩
theorem jR:FK Tryz.prog 140 Tryz.f140:=⟨Tryz.func140,by kernel_rfl,rfl⟩
theorem wK:FK Tryz.prog 141 Tryz.f141:=⟨Tryz.func141,by kernel_rfl,rfl⟩
theorem Nv:FK Tryz.prog 142 Tryz.f142:=⟨Tryz.func142,by kernel_rfl,rfl⟩
theorem vZ:FK Tryz.prog 143 Tryz.f143:=⟨Tryz.func143,by kernel_rfl,rfl⟩
theorem lU:FK Tryz.prog 144 Tryz.f144:=⟨Tryz.func144,by kernel_rfl,rfl⟩
theorem vK:FK Tryz.prog 145 Tryz.f145:=⟨Tryz.func145,by kernel_rfl,rfl⟩
theorem Ye:FK Tryz.prog 146 Tryz.f146:=⟨Tryz.func146,by kernel_rfl,rfl⟩
theorem wB:FK Tryz.prog 147 Tryz.f147:=⟨Tryz.func147,by kernel_rfl,rfl⟩
theorem uH:FK Tryz.prog 148 Tryz.f148:=⟨Tryz.func148,by kernel_rfl,rfl⟩
theorem lT:FK Tryz.prog 149 Tryz.f149:=⟨Tryz.func149,by kernel_rfl,rfl⟩
theorem vD:FK Tryz.prog 150 Tryz.f150:=⟨Tryz.func150,by kernel_rfl,rfl⟩
theorem mY:FK Tryz.prog 151 Tryz.f151:=⟨Tryz.func151,by kernel_rfl,rfl⟩
theorem aO:FK Tryz.prog 152 Tryz.f152:=⟨Tryz.func152,by kernel_rfl,rfl⟩
theorem Xj:FK Tryz.prog 153 Tryz.f153:=⟨Tryz.func153,by kernel_rfl,rfl⟩
theorem kF:FK Tryz.prog 154 Tryz.f154:=⟨Tryz.func154,by kernel_rfl,rfl⟩
theorem kE:FK Tryz.prog 155 Tryz.f155:=⟨Tryz.func155,by kernel_rfl,rfl⟩
theorem bF:FK Tryz.prog 156 Tryz.f156:=⟨Tryz.func156,by kernel_rfl,rfl⟩
theorem aD:FK Tryz.prog 157 Tryz.f157:=⟨Tryz.func157,by kernel_rfl,rfl⟩
theorem vN:FK Tryz.prog 158 Tryz.f158:=⟨Tryz.func158,by kernel_rfl,rfl⟩
theorem sN:FK Tryz.prog 159 Tryz.f159:=⟨Tryz.func159,by kernel_rfl,rfl⟩
theorem lC:FK Tryz.prog 160 Tryz.f160:=⟨Tryz.func160,by kernel_rfl,rfl⟩
theorem nA:FK Tryz.prog 161 Tryz.f161:=⟨Tryz.func161,by kernel_rfl,rfl⟩
theorem sS:FK Tryz.prog 162 Tryz.f162:=⟨Tryz.func162,by kernel_rfl,rfl⟩
theorem vL:FK Tryz.prog 163 Tryz.f163:=⟨Tryz.func163,by kernel_rfl,rfl⟩
theorem wJ:FK Tryz.prog 164 Tryz.f164:=⟨Tryz.func164,by kernel_rfl,rfl⟩
theorem kP:FK Tryz.prog 166 Tryz.f166:=⟨Tryz.func166,by kernel_rfl,rfl⟩
theorem Xu:FK Tryz.prog 167 Tryz.f167:=⟨Tryz.func167,by kernel_rfl,rfl⟩
theorem uB:FK Tryz.prog 168 Tryz.f168:=⟨Tryz.func168,by kernel_rfl,rfl⟩
theorem bN:FK Tryz.prog 172 Tryz.f172:=⟨Tryz.func172,by kernel_rfl,rfl⟩
theorem vM:FK Tryz.prog 174 Tryz.f174:=⟨Tryz.func174,by kernel_rfl,rfl⟩
theorem tY:FK Tryz.prog 175 Tryz.f175:=⟨Tryz.func175,by kernel_rfl,rfl⟩
theorem wN:FK Tryz.prog 176 Tryz.f176:=⟨Tryz.func176,by kernel_rfl,rfl⟩
theorem aP:FK Tryz.prog 177 Tryz.f177:=⟨Tryz.func177,by kernel_rfl,rfl⟩
theorem vQ:FK Tryz.prog 178 Tryz.f178:=⟨Tryz.func178,by kernel_rfl,rfl⟩
theorem tZ:FK Tryz.prog 179 Tryz.f179:=⟨Tryz.func179,by kernel_rfl,rfl⟩
theorem Oz:FK Tryz.prog 180 Tryz.f180:=⟨Tryz.func180,by kernel_rfl,rfl⟩
theorem sK:FK Tryz.prog 181 Tryz.f181:=⟨Tryz.func181,by kernel_rfl,rfl⟩
theorem kK:FK Tryz.prog 182 Tryz.f182:=⟨Tryz.func182,by kernel_rfl,rfl⟩
theorem mM:FK Tryz.prog 183 Tryz.f183:=⟨Tryz.func183,by kernel_rfl,rfl⟩
theorem vF:FK Tryz.prog 184 Tryz.f184:=⟨Tryz.func184,by kernel_rfl,rfl⟩
theorem tC:FK Tryz.prog 185 Tryz.f185:=⟨Tryz.func185,by kernel_rfl,rfl⟩
theorem uN:FK Tryz.prog 186 Tryz.f186:=⟨Tryz.func186,by kernel_rfl,rfl⟩
theorem uJ:FK Tryz.prog 187 Tryz.f187:=⟨Tryz.func187,by kernel_rfl,rfl⟩
theorem Xx:FK Tryz.prog 188 Tryz.f188:=⟨Tryz.func188,by kernel_rfl,rfl⟩
theorem tH:FK Tryz.prog 189 Tryz.f189:=⟨Tryz.func189,by kernel_rfl,rfl⟩
theorem wM:FK Tryz.prog 190 Tryz.f190:=⟨Tryz.func190,by kernel_rfl,rfl⟩
theorem vG:FK Tryz.prog 191 Tryz.f191:=⟨Tryz.func191,by kernel_rfl,rfl⟩
theorem vT:FK Tryz.prog 192 Tryz.f192:=⟨Tryz.func192,by kernel_rfl,rfl⟩
theorem rX:FK Tryz.prog 193 Tryz.f193:=⟨Tryz.func193,by kernel_rfl,rfl⟩
theorem kZ:FK Tryz.prog 194 Tryz.f194:=⟨Tryz.func194,by kernel_rfl,rfl⟩
theorem vU:FK Tryz.prog 196 Tryz.f196:=⟨Tryz.func196,by kernel_rfl,rfl⟩
theorem sP:FK Tryz.prog 197 Tryz.f197:=⟨Tryz.func197,by kernel_rfl,rfl⟩
theorem uW:FK Tryz.prog 198 Tryz.f198:=⟨Tryz.func198,by kernel_rfl,rfl⟩
theorem sG:FK Tryz.prog 199 Tryz.f199:=⟨Tryz.func199,by kernel_rfl,rfl⟩
theorem uU:FK Tryz.prog 200 Tryz.f200:=⟨Tryz.func200,by kernel_rfl,rfl⟩
theorem bX:FK Tryz.prog 201 Tryz.f201:=⟨Tryz.func201,by kernel_rfl,rfl⟩
theorem bB:FK Tryz.prog 202 Tryz.f202:=⟨Tryz.func202,by kernel_rfl,rfl⟩
theorem bW:FK Tryz.prog 203 Tryz.f203:=⟨Tryz.func203,by kernel_rfl,rfl⟩
theorem aX:FK Tryz.prog 204 Tryz.f204:=⟨Tryz.func204,by kernel_rfl,rfl⟩
theorem wC:FK Tryz.prog 205 Tryz.f205:=⟨Tryz.func205,by kernel_rfl,rfl⟩
theorem wG:FK Tryz.prog 206 Tryz.f206:=⟨Tryz.func206,by kernel_rfl,rfl⟩
theorem bP:FK Tryz.prog 207 Tryz.f207:=⟨Tryz.func207,by kernel_rfl,rfl⟩
theorem aN:FK Tryz.prog 208 Tryz.f208:=⟨Tryz.func208,by kernel_rfl,rfl⟩
theorem Yn:FK Tryz.prog 209 Tryz.f209:=⟨Tryz.func209,by kernel_rfl,rfl⟩
theorem jM:FK Tryz.prog 210 Tryz.f210:=⟨Tryz.func210,by kernel_rfl,rfl⟩
theorem vO:FK Tryz.prog 211 Tryz.f211:=⟨Tryz.func211,by kernel_rfl,rfl⟩
theorem mF:FK Tryz.prog 212 Tryz.f212:=⟨Tryz.func212,by kernel_rfl,rfl⟩
theorem iZ:FK Tryz.prog 213 Tryz.f213:=⟨Tryz.func213,by kernel_rfl,rfl⟩
theorem aK:FK Tryz.prog 214 Tryz.f214:=⟨Tryz.func214,by kernel_rfl,rfl⟩
theorem bT:FK Tryz.prog 215 Tryz.f215:=⟨Tryz.func215,by kernel_rfl,rfl⟩
theorem vB:FK Tryz.prog 218 Tryz.f218:=⟨Tryz.func218,by kernel_rfl,rfl⟩
theorem uF:FK Tryz.prog 219 Tryz.f219:=⟨Tryz.func219,by kernel_rfl,rfl⟩
theorem lK:FK Tryz.prog 220 Tryz.f220:=⟨Tryz.func220,by kernel_rfl,rfl⟩
theorem kC:FK Tryz.prog 221 Tryz.f221:=⟨Tryz.func221,by kernel_rfl,rfl⟩
theorem mW:FK Tryz.prog 222 Tryz.f222:=⟨Tryz.func222,by kernel_rfl,rfl⟩
theorem mixed:Tryz.prog.follows .mixedOrders=true:=by kernel_rfl
end Go.Proofs.YtgkgmhkgahalgaaGreat
