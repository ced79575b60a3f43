/-
  What the translation says of its types and functions.
-/
import Derived.Test.YtbjfinndngafoaaGreatProg
import Derived.Test.YtbjfinndngafoaaGreatAlM
set_option linter.unusedVariables false
set_option linter.unusedSimpArgs false
namespace Go.Proofs.YtbjfinndngafoaaGreat
open Go.RowKit
theorem Dz:agB Tryz.prog 107 2=true:=by kernel_rfl
theorem Pn:agB Tryz.prog 111 3=true:=by kernel_rfl
theorem fH:agB Tryz.prog 118 2=true:=by kernel_rfl
theorem dE:agB Tryz.prog 122 4=true:=by kernel_rfl
theorem Oc:agB Tryz.prog 127 2=true:=by kernel_rfl
theorem Kj:agB Tryz.prog 131 4=true:=by kernel_rfl
theorem xP:agB Tryz.prog 142 2=true:=by kernel_rfl
theorem Ip:agB Tryz.prog 167 2=true:=by kernel_rfl
theorem Lm:agB Tryz.prog 174 8=true:=by kernel_rfl
theorem fK:agB Tryz.prog 24 1=true:=by kernel_rfl
theorem Dk:agB Tryz.prog 31 1=true:=by kernel_rfl
theorem Mi:agB Tryz.prog 33 3=true:=by kernel_rfl
theorem Hr:agB Tryz.prog 65 3=true:=by kernel_rfl
theorem Uw {a0 a1 b0 b1:Int} {w:World}:(Op.equal 107 (.agg [.int .i64 a0,.int .i64 a1].toArray) (.agg [.int .i64 b0,.int .i64 b1].toArray)).run Tryz.prog w=.ok (decide ((a0,a1)=(b0,b1))) w:=bC Tryz.underlying107 (by kernel_rfl) (by decide) Tryz.underlying2 Tryz.underlying2 (by kernel_rfl) (by kernel_rfl)
theorem pF {a0 a1 b0 b1:Int} {w:World}:(Op.equal 167 (.agg [.int .i64 a0,.int .i64 a1].toArray) (.agg [.int .i64 b0,.int .i64 b1].toArray)).run Tryz.prog w=.ok (decide ((a0,a1)=(b0,b1))) w:=bC Tryz.underlying167 (by kernel_rfl) (by decide) Tryz.underlying2 Tryz.underlying2 (by kernel_rfl) (by kernel_rfl)
theorem O9:∀ (ad:Addr) (w:World),(Instr.fieldAt 104 (.pointer (some ad)) 0).run Tryz.prog w=.ok (.pointer (some (ad.add 0))) w:=fun _ _=>by kernel_rfl
theorem W9:∀ (ad:Addr) (w:World),(Instr.fieldAt 104 (.pointer (some ad)) 1).run Tryz.prog w=.ok (.pointer (some (ad.add 1))) w:=fun _ _=>by kernel_rfl
theorem bT:∀ (ad:Addr) (w:World),(Instr.fieldAt 104 (.pointer (some ad)) 2).run Tryz.prog w=.ok (.pointer (some (ad.add 2))) w:=fun _ _=>by kernel_rfl
theorem O7:∀ (ad:Addr) (w:World),(Instr.fieldAt 104 (.pointer (some ad)) 3).run Tryz.prog w=.ok (.pointer (some (ad.add 3))) w:=fun _ _=>by kernel_rfl
theorem Dn:∀ (ad:Addr) (w:World),(Instr.fieldAt 107 (.pointer (some ad)) 0).run Tryz.prog w=.ok (.pointer (some (ad.add 0))) w:=fun _ _=>by kernel_rfl
theorem Gn:∀ (ad:Addr) (w:World),(Instr.fieldAt 107 (.pointer (some ad)) 1).run Tryz.prog w=.ok (.pointer (some (ad.add 1))) w:=fun _ _=>by kernel_rfl
theorem Vs:∀ (ad:Addr) (w:World),(Instr.fieldAt 111 (.pointer (some ad)) 0).run Tryz.prog w=.ok (.pointer (some (ad.add 0))) w:=fun _ _=>by kernel_rfl
theorem Lj:∀ (ad:Addr) (w:World),(Instr.fieldAt 111 (.pointer (some ad)) 1).run Tryz.prog w=.ok (.pointer (some (ad.add 1))) w:=fun _ _=>by kernel_rfl
theorem Ws:∀ (ad:Addr) (w:World),(Instr.fieldAt 111 (.pointer (some ad)) 2).run Tryz.prog w=.ok (.pointer (some (ad.add 2))) w:=fun _ _=>by kernel_rfl
theorem Xl:∀ (ad:Addr) (w:World),(Instr.fieldAt 122 (.pointer (some ad)) 0).run Tryz.prog w=.ok (.pointer (some (ad.add 0))) w:=fun _ _=>by kernel_rfl
theorem R5:∀ (ad:Addr) (w:World),(Instr.fieldAt 122 (.pointer (some ad)) 1).run Tryz.prog w=.ok (.pointer (some (ad.add 1))) w:=fun _ _=>by kernel_rfl
theorem Xc:∀ (ad:Addr) (w:World),(Instr.fieldAt 122 (.pointer (some ad)) 2).run Tryz.prog w=.ok (.pointer (some (ad.add 2))) w:=fun _ _=>by kernel_rfl
theorem Vx:∀ (ad:Addr) (w:World),(Instr.fieldAt 122 (.pointer (some ad)) 3).run Tryz.prog w=.ok (.pointer (some (ad.add 3))) w:=fun _ _=>by kernel_rfl
theorem Kk:∀ (ad:Addr) (w:World),(Instr.fieldAt 127 (.pointer (some ad)) 0).run Tryz.prog w=.ok (.pointer (some (ad.add 0))) w:=fun _ _=>by kernel_rfl
theorem L8:∀ (ad:Addr) (w:World),(Instr.fieldAt 127 (.pointer (some ad)) 1).run Tryz.prog w=.ok (.pointer (some (ad.add 1))) w:=fun _ _=>by kernel_rfl
theorem mM:∀ (ad:Addr) (w:World),(Instr.fieldAt 142 (.pointer (some ad)) 0).run Tryz.prog w=.ok (.pointer (some (ad.add 0))) w:=fun _ _=>by kernel_rfl
theorem mY:∀ (ad:Addr) (w:World),(Instr.fieldAt 142 (.pointer (some ad)) 1).run Tryz.prog w=.ok (.pointer (some (ad.add 1))) w:=fun _ _=>by kernel_rfl
theorem Gw:∀ (ad:Addr) (w:World),(Instr.fieldAt 167 (.pointer (some ad)) 0).run Tryz.prog w=.ok (.pointer (some (ad.add 0))) w:=fun _ _=>by kernel_rfl
theorem Mv:∀ (ad:Addr) (w:World),(Instr.fieldAt 167 (.pointer (some ad)) 1).run Tryz.prog w=.ok (.pointer (some (ad.add 1))) w:=fun _ _=>by kernel_rfl
theorem jK:∀ (ad:Addr) (w:World),(Instr.fieldAt 24 (.pointer (some ad)) 0).run Tryz.prog w=.ok (.pointer (some (ad.add 0))) w:=fun _ _=>by kernel_rfl
theorem Dq:∀ (ad:Addr) (w:World),(Instr.fieldAt 31 (.pointer (some ad)) 0).run Tryz.prog w=.ok (.pointer (some (ad.add 0))) w:=fun _ _=>by kernel_rfl
theorem Lf:∀ (ad:Addr) (w:World),(Instr.fieldAt 33 (.pointer (some ad)) 0).run Tryz.prog w=.ok (.pointer (some (ad.add 0))) w:=fun _ _=>by kernel_rfl
theorem I8:∀ (ad:Addr) (w:World),(Instr.fieldAt 33 (.pointer (some ad)) 1).run Tryz.prog w=.ok (.pointer (some (ad.add 1))) w:=fun _ _=>by kernel_rfl
theorem Kb:∀ (ad:Addr) (w:World),(Instr.fieldAt 33 (.pointer (some ad)) 2).run Tryz.prog w=.ok (.pointer (some (ad.add 2))) w:=fun _ _=>by kernel_rfl
theorem P8:∀ (ad:Addr) (w:World),(Instr.fieldAt 65 (.pointer (some ad)) 0).run Tryz.prog w=.ok (.pointer (some (ad.add 0))) w:=fun _ _=>by kernel_rfl
theorem N7:∀ (ad:Addr) (w:World),(Instr.fieldAt 65 (.pointer (some ad)) 1).run Tryz.prog w=.ok (.pointer (some (ad.add 1))) w:=fun _ _=>by kernel_rfl
theorem Km:∀ (ad:Addr) (w:World),(Instr.fieldAt 65 (.pointer (some ad)) 2).run Tryz.prog w=.ok (.pointer (some (ad.add 2))) w:=fun _ _=>by kernel_rfl
theorem Xr:(Tryz.prog.info? 107).map (fun i=>(i.zero,i.size,i.bytes))=some (some (.agg #[.int .i64 0,.int .i64 0]),2,16):=by kernel_rfl
theorem Qz:(Tryz.prog.info? 122).map (fun i=>(i.zero,i.size,i.bytes))=some (some (.agg #[.int .i64 0,.int .i64 0,.int .i64 0,.int .i64 0]),4,32):=by kernel_rfl
theorem jO:(Tryz.prog.info? 131).map (fun i=>(i.zero,i.size,i.bytes))=some (some (.agg #[.int .i64 0,.int .i64 0,.int .i64 0,.int .i64 0]),4,32):=by kernel_rfl
theorem fI:(Tryz.prog.info? 167).map (fun i=>(i.zero,i.size,i.bytes))=some (some (.agg #[.int .i64 0,.int .i64 0]),2,16):=by kernel_rfl
theorem L6:(Tryz.prog.info? 2).map (fun i=>(i.zero,i.size,i.bytes))=some (some (.int .i64 0),1,8):=by kernel_rfl
theorem bZ:(Tryz.prog.info? 33).map (fun i=>(i.zero,i.size,i.bytes))=some (some (.agg #[.int .i64 0,.int .i64 0,.int .i64 0]),3,24):=by kernel_rfl
theorem dP:(Tryz.prog.info? 4).map (fun i=>(i.zero,i.size,i.bytes))=some (some (.bool false),1,1):=by kernel_rfl
theorem jI:(Tryz.prog.info? 56).map (fun i=>(i.zero,i.size,i.bytes))=some (some (.slice none 0 0),1,24):=by kernel_rfl
theorem Qb:(Tryz.prog.info? 77).map (fun i=>(i.zero,i.size,i.bytes))=some (some (.slice none 0 0),1,24):=by kernel_rfl
theorem Tk:Pp Tryz.prog 118 Gg:=by
  obtain ⟨i,hi,_⟩:=Option.map_eq_some_iff.1 (by kernel_rfl:(Tryz.prog.info? 2).map (·.size)=some 1)
  exact mO (p:=fun x=>x.e0) (q:=fun x=>x.e1) (fun ⟨_,_⟩ ⟨_,_⟩ h1 h2=>by cases h1; cases h2; rfl) (fun _=>rfl) Tryz.underlying118 hi (by kernel_rfl) Tryz.underlying2 (by kernel_rfl)
theorem uT:Pp Tryz.prog 2 (Value.int .i64):=sS Tryz.underlying2
theorem gU:naB Tryz.prog 101=true:=by kernel_rfl
theorem Vm:naB Tryz.prog 102=true:=by kernel_rfl
theorem Ls:naB Tryz.prog 109=true:=by kernel_rfl
theorem gJ:naB Tryz.prog 199=true:=by kernel_rfl
theorem na2:naB Tryz.prog 2=true:=by kernel_rfl
theorem uW:naB Tryz.prog 22=true:=by kernel_rfl
theorem Gu:naB Tryz.prog 29=true:=by kernel_rfl
theorem na3:naB Tryz.prog 3=true:=by kernel_rfl
theorem na4:naB Tryz.prog 4=true:=by kernel_rfl
theorem Ih:naB Tryz.prog 56=true:=by kernel_rfl
theorem Pf:naB Tryz.prog 63=true:=by kernel_rfl
theorem Y8:naB Tryz.prog 70=true:=by kernel_rfl
theorem Jg:naB Tryz.prog 77=true:=by kernel_rfl
theorem wO:naB Tryz.prog 89=true:=by kernel_rfl
theorem Vi:Tryz.prog.eqGuardType Tryz.prog.depth 107=false:=by kernel_rfl
theorem oD:Tryz.prog.eqGuardType Tryz.prog.depth 167=false:=by kernel_rfl
theorem G8:(Tryz.prog.info? 107).map (·.size)=some 2:=by kernel_rfl
theorem Y3:(Tryz.prog.info? 122).map (·.size)=some 4:=by kernel_rfl
theorem Nk:(Tryz.prog.info? 127).map (·.size)=some 2:=by kernel_rfl
theorem uN:(Tryz.prog.info? 131).map (·.size)=some 4:=by kernel_rfl
theorem vG:(Tryz.prog.info? 142).map (·.size)=some 2:=by kernel_rfl
theorem Jh:(Tryz.prog.info? 167).map (·.size)=some 2:=by kernel_rfl
theorem sz2:(Tryz.prog.info? 2).map (·.size)=some 1:=by kernel_rfl
theorem Ur:(Tryz.prog.info? 33).map (·.size)=some 3:=by kernel_rfl
theorem sz4:(Tryz.prog.info? 4).map (·.size)=some 1:=by kernel_rfl
theorem Pq:(Tryz.prog.info? 56).map (·.size)=some 1:=by kernel_rfl
theorem Jf:(Tryz.prog.info? 77).map (·.size)=some 1:=by kernel_rfl
theorem xD:(Tryz.prog.info? 89).map (·.size)=some 1:=by kernel_rfl
abbrev sP:=@Tryz.underlying101
abbrev mI:=@Tryz.underlying102
abbrev M5:=@Tryz.underlying109
abbrev wM:=@Tryz.underlying116
abbrev Hg:=@Tryz.underlying131
abbrev Jo:=@Tryz.underlying165
abbrev Mk:=@Tryz.underlying171
abbrev Qc:=@Tryz.underlying174
abbrev qQ:=@Tryz.underlying179
abbrev lK:=@Tryz.underlying189
abbrev xU:=@Tryz.underlying199
abbrev U2:=@Tryz.underlying2
abbrev U22:=@Tryz.underlying22
abbrev U29:=@Tryz.underlying29
abbrev U3:=@Tryz.underlying3
abbrev U37:=@Tryz.underlying37
abbrev U56:=@Tryz.underlying56
abbrev U63:=@Tryz.underlying63
abbrev U70:=@Tryz.underlying70
abbrev U77:=@Tryz.underlying77
abbrev U89:=@Tryz.underlying89
theorem Jy:(Tryz.prog.info? 107).map (·.zero)=some (some (.agg #[.int .i64 0,.int .i64 0])):=by kernel_rfl
theorem Ud:(Tryz.prog.info? 111).map (·.zero)=some (some (.agg #[.slice none 0 0,.slice none 0 0,.slice none 0 0])):=by kernel_rfl
theorem wR:(Tryz.prog.info? 118).map (·.zero)=some (some (.agg #[.int .i64 0,.int .i64 0])):=by kernel_rfl
theorem oJ:(Tryz.prog.info? 122).map (·.zero)=some (some (.agg #[.int .i64 0,.int .i64 0,.int .i64 0,.int .i64 0])):=by kernel_rfl
theorem Ri:(Tryz.prog.info? 127).map (·.zero)=some (some (.agg #[.int .i64 0,.int .i64 0])):=by kernel_rfl
theorem Ld:(Tryz.prog.info? 131).map (·.zero)=some (some (.agg #[.int .i64 0,.int .i64 0,.int .i64 0,.int .i64 0])):=by kernel_rfl
theorem Pm:(Tryz.prog.info? 167).map (·.zero)=some (some (.agg #[.int .i64 0,.int .i64 0])):=by kernel_rfl
theorem gN:(Tryz.prog.info? 174).map (·.zero)=some (some (.agg #[.int .i64 0,.int .i64 0,.int .i64 0,.int .i64 0,.int .i64 0,.int .i64 0,.int .i64 0,.int .i64 0])):=by kernel_rfl
theorem wU:(Tryz.prog.info? 199).map (·.zero)=some (some (.map none)):=by kernel_rfl
theorem zr2:(Tryz.prog.info? 2).map (·.zero)=some (some (.int .i64 0)):=by kernel_rfl
theorem zr3:(Tryz.prog.info? 3).map (·.zero)=some (some (.int .i64 0)):=by kernel_rfl
theorem Lt:(Tryz.prog.info? 31).map (·.zero)=some (some (.agg #[.slice none 0 0])):=by kernel_rfl
theorem mF:(Tryz.prog.info? 33).map (·.zero)=some (some (.agg #[.int .i64 0,.int .i64 0,.int .i64 0])):=by kernel_rfl
theorem zr4:(Tryz.prog.info? 4).map (·.zero)=some (some (.bool false)):=by kernel_rfl
theorem Zf:(Tryz.prog.info? 56).map (·.zero)=some (some (.slice none 0 0)):=by kernel_rfl
theorem Qq:(Tryz.prog.info? 65).map (·.zero)=some (some (.agg #[.slice none 0 0,.slice none 0 0,.slice none 0 0])):=by kernel_rfl
theorem wS:FK Tryz.prog 10 Tryz.f10:=⟨Tryz.func10,by kernel_rfl,rfl⟩
theorem wV:FK Tryz.prog 11 Tryz.f11:=⟨Tryz.func11,by kernel_rfl,rfl⟩
theorem aO:FK Tryz.prog 12 Tryz.f12:=⟨Tryz.func12,by kernel_rfl,rfl⟩
theorem Pj:FK Tryz.prog 15 Tryz.f15:=⟨Tryz.func15,by kernel_rfl,rfl⟩
theorem Ux:FK Tryz.prog 18 Tryz.f18:=⟨Tryz.func18,by kernel_rfl,rfl⟩
theorem pY:FK Tryz.prog 19 Tryz.f19:=⟨Tryz.func19,by kernel_rfl,rfl⟩
theorem wZ:FK Tryz.prog 20 Tryz.f20:=⟨Tryz.func20,by kernel_rfl,rfl⟩
theorem pO:FK Tryz.prog 21 Tryz.f21:=⟨Tryz.func21,by kernel_rfl,rfl⟩
theorem uU:FK Tryz.prog 24 Tryz.f24:=⟨Tryz.func24,by kernel_rfl,rfl⟩
theorem xB:FK Tryz.prog 25 Tryz.f25:=⟨Tryz.func25,by kernel_rfl,rfl⟩
theorem vC:FK Tryz.prog 26 Tryz.f26:=⟨Tryz.func26,by kernel_rfl,rfl⟩
theorem oV:FK Tryz.prog 27 Tryz.f27:=⟨Tryz.func27,by kernel_rfl,rfl⟩
theorem vU:FK Tryz.prog 34 Tryz.f34:=⟨Tryz.func34,by kernel_rfl,rfl⟩
theorem dC:FK Tryz.prog 35 Tryz.f35:=⟨Tryz.func35,by kernel_rfl,rfl⟩
theorem pR:FK Tryz.prog 36 Tryz.f36:=⟨Tryz.func36,by kernel_rfl,rfl⟩
theorem uY:FK Tryz.prog 37 Tryz.f37:=⟨Tryz.func37,by kernel_rfl,rfl⟩
theorem wL:FK Tryz.prog 38 Tryz.f38:=⟨Tryz.func38,by kernel_rfl,rfl⟩
theorem vW:FK Tryz.prog 39 Tryz.f39:=⟨Tryz.func39,by kernel_rfl,rfl⟩
theorem oL:FK Tryz.prog 40 Tryz.f40:=⟨Tryz.func40,by kernel_rfl,rfl⟩
theorem wN:FK Tryz.prog 41 Tryz.f41:=⟨Tryz.func41,by kernel_rfl,rfl⟩
theorem pI:FK Tryz.prog 42 Tryz.f42:=⟨Tryz.func42,by kernel_rfl,rfl⟩
theorem oH:FK Tryz.prog 43 Tryz.f43:=⟨Tryz.func43,by kernel_rfl,rfl⟩
theorem vF:FK Tryz.prog 44 Tryz.f44:=⟨Tryz.func44,by kernel_rfl,rfl⟩
theorem eX:FK Tryz.prog 45 Tryz.f45:=⟨Tryz.func45,by kernel_rfl,rfl⟩
theorem xS:FK Tryz.prog 46 Tryz.f46:=⟨Tryz.func46,by kernel_rfl,rfl⟩
theorem vN:FK Tryz.prog 47 Tryz.f47:=⟨Tryz.func47,by kernel_rfl,rfl⟩
theorem wP:FK Tryz.prog 48 Tryz.f48:=⟨Tryz.func48,by kernel_rfl,rfl⟩
theorem Oz:FK Tryz.prog 49 Tryz.f49:=⟨Tryz.func49,by kernel_rfl,rfl⟩
theorem vH:FK Tryz.prog 50 Tryz.f50:=⟨Tryz.func50,by kernel_rfl,rfl⟩
theorem xA:FK Tryz.prog 51 Tryz.f51:=⟨Tryz.func51,by kernel_rfl,rfl⟩
theorem uQ:FK Tryz.prog 52 Tryz.f52:=⟨Tryz.func52,by kernel_rfl,rfl⟩
theorem wI:FK Tryz.prog 53 Tryz.f53:=⟨Tryz.func53,by kernel_rfl,rfl⟩
theorem pQ:FK Tryz.prog 54 Tryz.f54:=⟨Tryz.func54,by kernel_rfl,rfl⟩
theorem wJ:FK Tryz.prog 57 Tryz.f57:=⟨Tryz.func57,by kernel_rfl,rfl⟩
theorem xI:FK Tryz.prog 58 Tryz.f58:=⟨Tryz.func58,by kernel_rfl,rfl⟩
theorem pM:FK Tryz.prog 59 Tryz.f59:=⟨Tryz.func59,by kernel_rfl,rfl⟩
theorem xM:FK Tryz.prog 60 Tryz.f60:=⟨Tryz.func60,by kernel_rfl,rfl⟩
theorem uS:FK Tryz.prog 61 Tryz.f61:=⟨Tryz.func61,by kernel_rfl,rfl⟩
theorem Y0:FK Tryz.prog 62 Tryz.f62:=⟨Tryz.func62,by kernel_rfl,rfl⟩
theorem Yb:FK Tryz.prog 63 Tryz.f63:=⟨Tryz.func63,by kernel_rfl,rfl⟩
theorem Od:FK Tryz.prog 64 Tryz.f64:=⟨Tryz.func64,by kernel_rfl,rfl⟩
theorem uZ:FK Tryz.prog 65 Tryz.f65:=⟨Tryz.func65,by kernel_rfl,rfl⟩
theorem wH:FK Tryz.prog 66 Tryz.f66:=⟨Tryz.func66,by kernel_rfl,rfl⟩
theorem wT:FK Tryz.prog 67 Tryz.f67:=⟨Tryz.func67,by kernel_rfl,rfl⟩
theorem qD:FK Tryz.prog 68 Tryz.f68:=⟨Tryz.func68,by kernel_rfl,rfl⟩
theorem vO:FK Tryz.prog 69 Tryz.f69:=⟨Tryz.func69,by kernel_rfl,rfl⟩
theorem bB:FK Tryz.prog 70 Tryz.f70:=⟨Tryz.func70,by kernel_rfl,rfl⟩
theorem gH:FK Tryz.prog 71 Tryz.f71:=⟨Tryz.func71,by kernel_rfl,rfl⟩
theorem oG:FK Tryz.prog 72 Tryz.f72:=⟨Tryz.func72,by kernel_rfl,rfl⟩
theorem uV:FK Tryz.prog 73 Tryz.f73:=⟨Tryz.func73,by kernel_rfl,rfl⟩
theorem wQ:FK Tryz.prog 74 Tryz.f74:=⟨Tryz.func74,by kernel_rfl,rfl⟩
theorem vK:FK Tryz.prog 75 Tryz.f75:=⟨Tryz.func75,by kernel_rfl,rfl⟩
theorem Js:FK Tryz.prog 76 Tryz.f76:=⟨Tryz.func76,by kernel_rfl,rfl⟩
theorem Tz:FK Tryz.prog 77 Tryz.f77:=⟨Tryz.func77,by kernel_rfl,rfl⟩
theorem Yn:FK Tryz.prog 78 Tryz.f78:=⟨Tryz.func78,by kernel_rfl,rfl⟩
theorem vM:FK Tryz.prog 79 Tryz.f79:=⟨Tryz.func79,by kernel_rfl,rfl⟩
theorem Ub:FK Tryz.prog 80 Tryz.f80:=⟨Tryz.func80,by kernel_rfl,rfl⟩
theorem wG:FK Tryz.prog 81 Tryz.f81:=⟨Tryz.func81,by kernel_rfl,rfl⟩
theorem vX:FK Tryz.prog 82 Tryz.f82:=⟨Tryz.func82,by kernel_rfl,rfl⟩
theorem Tg:FK Tryz.prog 83 Tryz.f83:=⟨Tryz.func83,by kernel_rfl,rfl⟩
theorem Ye:FK Tryz.prog 84 Tryz.f84:=⟨Tryz.func84,by kernel_rfl,rfl⟩
theorem qA:FK Tryz.prog 85 Tryz.f85:=⟨Tryz.func85,by kernel_rfl,rfl⟩
theorem xR:FK Tryz.prog 86 Tryz.f86:=⟨Tryz.func86,by kernel_rfl,rfl⟩
theorem bX:FK Tryz.prog 87 Tryz.f87:=⟨Tryz.func87,by kernel_rfl,rfl⟩
theorem oC:FK Tryz.prog 88 Tryz.f88:=⟨Tryz.func88,by kernel_rfl,rfl⟩
theorem xX:FK Tryz.prog 89 Tryz.f89:=⟨Tryz.func89,by kernel_rfl,rfl⟩
theorem aM:FK Tryz.prog 90 Tryz.f90:=⟨Tryz.func90,by kernel_rfl,rfl⟩
theorem Nn:FK Tryz.prog 91 Tryz.f91:=⟨Tryz.func91,by kernel_rfl,rfl⟩
theorem jF:FK Tryz.prog 92 Tryz.f92:=⟨Tryz.func92,by kernel_rfl,rfl⟩
theorem Lc:FK Tryz.prog 93 Tryz.f93:=⟨Tryz.func93,by kernel_rfl,rfl⟩
theorem X5:FK Tryz.prog 94 Tryz.f94:=⟨Tryz.func94,by kernel_rfl,rfl⟩
theorem Uz:FK Tryz.prog 95 Tryz.f95:=⟨Tryz.func95,by kernel_rfl,rfl⟩
theorem wX:FK Tryz.prog 96 Tryz.f96:=⟨Tryz.func96,by kernel_rfl,rfl⟩
theorem vI:FK Tryz.prog 97 Tryz.f97:=⟨Tryz.func97,by kernel_rfl,rfl⟩
theorem iI:FK Tryz.prog 102 Tryz.f102:=⟨Tryz.func102,by kernel_rfl,rfl⟩
theorem sN:FK Tryz.prog 103 Tryz.f103:=⟨Tryz.func103,by kernel_rfl,rfl⟩
theorem qU:FK Tryz.prog 104 Tryz.f104:=⟨Tryz.func104,by kernel_rfl,rfl⟩
theorem rH:FK Tryz.prog 105 Tryz.f105:=⟨Tryz.func105,by kernel_rfl,rfl⟩
theorem rM:FK Tryz.prog 106 Tryz.f106:=⟨Tryz.func106,by kernel_rfl,rfl⟩
theorem tK:FK Tryz.prog 107 Tryz.f107:=⟨Tryz.func107,by kernel_rfl,rfl⟩
theorem qH:FK Tryz.prog 108 Tryz.f108:=⟨Tryz.func108,by kernel_rfl,rfl⟩
theorem qY:FK Tryz.prog 109 Tryz.f109:=⟨Tryz.func109,by kernel_rfl,rfl⟩
theorem Wp:FK Tryz.prog 110 Tryz.f110:=⟨Tryz.func110,by kernel_rfl,rfl⟩
theorem uA:FK Tryz.prog 111 Tryz.f111:=⟨Tryz.func111,by kernel_rfl,rfl⟩
theorem uE:FK Tryz.prog 112 Tryz.f112:=⟨Tryz.func112,by kernel_rfl,rfl⟩
theorem qM:FK Tryz.prog 113 Tryz.f113:=⟨Tryz.func113,by kernel_rfl,rfl⟩
theorem tZ:FK Tryz.prog 114 Tryz.f114:=⟨Tryz.func114,by kernel_rfl,rfl⟩
theorem tN:FK Tryz.prog 115 Tryz.f115:=⟨Tryz.func115,by kernel_rfl,rfl⟩
theorem Xj:FK Tryz.prog 116 Tryz.f116:=⟨Tryz.func116,by kernel_rfl,rfl⟩
theorem Sd:FK Tryz.prog 117 Tryz.f117:=⟨Tryz.func117,by kernel_rfl,rfl⟩
theorem aD:FK Tryz.prog 118 Tryz.f118:=⟨Tryz.func118,by kernel_rfl,rfl⟩
theorem Zo:FK Tryz.prog 119 Tryz.f119:=⟨Tryz.func119,by kernel_rfl,rfl⟩
theorem Te:FK Tryz.prog 120 Tryz.f120:=⟨Tryz.func120,by kernel_rfl,rfl⟩
theorem Z0:FK Tryz.prog 121 Tryz.f121:=⟨Tryz.func121,by kernel_rfl,rfl⟩
theorem Z7:FK Tryz.prog 122 Tryz.f122:=⟨Tryz.func122,by kernel_rfl,rfl⟩
theorem uL:FK Tryz.prog 123 Tryz.f123:=⟨Tryz.func123,by kernel_rfl,rfl⟩
theorem Q3:FK Tryz.prog 124 Tryz.f124:=⟨Tryz.func124,by kernel_rfl,rfl⟩
theorem uC:FK Tryz.prog 125 Tryz.f125:=⟨Tryz.func125,by kernel_rfl,rfl⟩
theorem fG:FK Tryz.prog 126 Tryz.f126:=⟨Tryz.func126,by kernel_rfl,rfl⟩
theorem sF:FK Tryz.prog 127 Tryz.f127:=⟨Tryz.func127,by kernel_rfl,rfl⟩
theorem qP:FK Tryz.prog 128 Tryz.f128:=⟨Tryz.func128,by kernel_rfl,rfl⟩
theorem qJ:FK Tryz.prog 129 Tryz.f129:=⟨Tryz.func129,by kernel_rfl,rfl⟩
theorem Q6:FK Tryz.prog 130 Tryz.f130:=⟨Tryz.func130,by kernel_rfl,rfl⟩
theorem Wm:FK Tryz.prog 131 Tryz.f131:=⟨Tryz.func131,by kernel_rfl,rfl⟩
theorem rU:FK Tryz.prog 132 Tryz.f132:=⟨Tryz.func132,by kernel_rfl,rfl⟩
theorem jY:FK Tryz.prog 133 Tryz.f133:=⟨Tryz.func133,by kernel_rfl,rfl⟩
theorem rA:FK Tryz.prog 134 Tryz.f134:=⟨Tryz.func134,by kernel_rfl,rfl⟩
theorem Zc:FK Tryz.prog 135 Tryz.f135:=⟨Tryz.func135,by kernel_rfl,rfl⟩
theorem Vw:FK Tryz.prog 136 Tryz.f136:=⟨Tryz.func136,by kernel_rfl,rfl⟩
theorem Qr:FK Tryz.prog 137 Tryz.f137:=⟨Tryz.func137,by kernel_rfl,rfl⟩
theorem Qw:FK Tryz.prog 138 Tryz.f138:=⟨Tryz.func138,by kernel_rfl,rfl⟩
theorem Wd:FK Tryz.prog 139 Tryz.f139:=⟨Tryz.func139,by kernel_rfl,rfl⟩
theorem gY:FK Tryz.prog 140 Tryz.f140:=⟨Tryz.func140,by kernel_rfl,rfl⟩
theorem jW:FK Tryz.prog 141 Tryz.f141:=⟨Tryz.func141,by kernel_rfl,rfl⟩
theorem sO:FK Tryz.prog 142 Tryz.f142:=⟨Tryz.func142,by kernel_rfl,rfl⟩
theorem tX:FK Tryz.prog 143 Tryz.f143:=⟨Tryz.func143,by kernel_rfl,rfl⟩
theorem Xd:FK Tryz.prog 144 Tryz.f144:=⟨Tryz.func144,by kernel_rfl,rfl⟩
theorem Zw:FK Tryz.prog 145 Tryz.f145:=⟨Tryz.func145,by kernel_rfl,rfl⟩
theorem iZ:FK Tryz.prog 146 Tryz.f146:=⟨Tryz.func146,by kernel_rfl,rfl⟩
theorem Z8:FK Tryz.prog 147 Tryz.f147:=⟨Tryz.func147,by kernel_rfl,rfl⟩
theorem Zl:FK Tryz.prog 148 Tryz.f148:=⟨Tryz.func148,by kernel_rfl,rfl⟩
theorem jC:FK Tryz.prog 149 Tryz.f149:=⟨Tryz.func149,by kernel_rfl,rfl⟩
theorem Wu:FK Tryz.prog 150 Tryz.f150:=⟨Tryz.func150,by kernel_rfl,rfl⟩
theorem Xo:FK Tryz.prog 151 Tryz.f151:=⟨Tryz.func151,by kernel_rfl,rfl⟩
theorem fQ:FK Tryz.prog 152 Tryz.f152:=⟨Tryz.func152,by kernel_rfl,rfl⟩
theorem qW:FK Tryz.prog 153 Tryz.f153:=⟨Tryz.func153,by kernel_rfl,rfl⟩
theorem sJ:FK Tryz.prog 154 Tryz.f154:=⟨Tryz.func154,by kernel_rfl,rfl⟩
theorem Zr:FK Tryz.prog 155 Tryz.f155:=⟨Tryz.func155,by kernel_rfl,rfl⟩
theorem sH:FK Tryz.prog 156 Tryz.f156:=⟨Tryz.func156,by kernel_rfl,rfl⟩
theorem qN:FK Tryz.prog 157 Tryz.f157:=⟨Tryz.func157,by kernel_rfl,rfl⟩
theorem sZ:FK Tryz.prog 158 Tryz.f158:=⟨Tryz.func158,by kernel_rfl,rfl⟩
theorem Vv:FK Tryz.prog 159 Tryz.f159:=⟨Tryz.func159,by kernel_rfl,rfl⟩
theorem iT:FK Tryz.prog 160 Tryz.f160:=⟨Tryz.func160,by kernel_rfl,rfl⟩
theorem uH:FK Tryz.prog 161 Tryz.f161:=⟨Tryz.func161,by kernel_rfl,rfl⟩
theorem qV:FK Tryz.prog 162 Tryz.f162:=⟨Tryz.func162,by kernel_rfl,rfl⟩
theorem sU:FK Tryz.prog 163 Tryz.f163:=⟨Tryz.func163,by kernel_rfl,rfl⟩
theorem qR:FK Tryz.prog 165 Tryz.f165:=⟨Tryz.func165,by kernel_rfl,rfl⟩
theorem sM:FK Tryz.prog 166 Tryz.f166:=⟨Tryz.func166,by kernel_rfl,rfl⟩
theorem rW:FK Tryz.prog 167 Tryz.f167:=⟨Tryz.func167,by kernel_rfl,rfl⟩
theorem rO:FK Tryz.prog 168 Tryz.f168:=⟨Tryz.func168,by kernel_rfl,rfl⟩
theorem tO:FK Tryz.prog 169 Tryz.f169:=⟨Tryz.func169,by kernel_rfl,rfl⟩
theorem iO:FK Tryz.prog 170 Tryz.f170:=⟨Tryz.func170,by kernel_rfl,rfl⟩
theorem rP:FK Tryz.prog 171 Tryz.f171:=⟨Tryz.func171,by kernel_rfl,rfl⟩
theorem mixed:Tryz.prog.follows .mixedOrders=true:=by kernel_rfl
end Go.Proofs.YtbjfinndngafoaaGreat
