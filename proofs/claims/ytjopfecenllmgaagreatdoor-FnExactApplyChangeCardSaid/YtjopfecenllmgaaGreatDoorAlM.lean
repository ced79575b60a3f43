/-
  What the functions compute, as functions of lists.
-/
import Derived.Test.YtjopfecenllmgaaGreatDoorSlU
set_option linter.unusedSimpArgs false
set_option linter.unusedVariables false
namespace Go.Proofs.YtjopfecenllmgaaGreatDoor
open Go.RowKit
structure Br where
  Tet:Int
  Perm:Int
  deriving DecidableEq
def Md:Br:=⟨0,0⟩
def Az:Ty Br:=Ty.flat 2 (fun x=>[.int .i64 x.Tet,.int .i64 x.Perm]) (fun _=>rfl) (fun x u h=>by simp only [List.mem_cons,List.not_mem_nil,or_false] at h; rcases h with rfl | rfl <;> rfl)
structure Ah where
  A:Int
  B:Int
  C:Int
  D:Int
  Sign:Int
  deriving DecidableEq
def Ar:Ah:=⟨0,0,0,0,0⟩
def Au:Ty Ah:=Ty.flat 5 (fun x=>[.int .i64 x.A,.int .i64 x.B,.int .i64 x.C,.int .i64 x.D,.int .i64 x.Sign]) (fun _=>rfl) (fun x u h=>by simp only [List.mem_cons,List.not_mem_nil,or_false] at h; rcases h with rfl | rfl | rfl | rfl | rfl <;> rfl)
structure Cc where
  Kind:Int
  Tet:Int
  Index:Int
  deriving DecidableEq
def Io:Cc:=⟨0,0,0⟩
def Ci:Ty Cc:=Ty.flat 3 (fun x=>[.int .i64 x.Kind,.int .i64 x.Tet,.int .i64 x.Index]) (fun _=>rfl) (fun x u h=>by simp only [List.mem_cons,List.not_mem_nil,or_false] at h; rcases h with rfl | rfl | rfl <;> rfl)
structure Af where
  Name:ByteArray
  Kind:Int
  Ad:List (List Br)
  Ae:List Ah
  Al:Int
  Ao:Int
  Ay:List Int
  Am:Int
  Aj:Int
  Ag:List Cc
  Ak:List Int
  Ai:List Int
def Bj:Af:=⟨ByteArray.empty,0,[],[],0,0,[],0,0,[],[],[]⟩
abbrev Fu:Ty Af:=Ty.iso (Ty.pair Sn (Ty.pair (Bi .i64) (Ty.pair (Ty.slice 165 (Ty.slice 211 Az)) (Ty.pair (Ty.slice 179 Au) (Ty.pair (Bi .i64) (Ty.pair (Bi .i64) (Ty.pair (Ty.slice 2 (Bi .i64)) (Ty.pair (Bi .i64) (Ty.pair (Bi .i64) (Ty.pair (Ty.slice 181 Ci) (Ty.pair (Ty.slice 2 (Bi .i64)) (Ty.slice 2 (Bi .i64))))))))))))) (fun x=>(x.Name,x.Kind,x.Ad,x.Ae,x.Al,x.Ao,x.Ay,x.Am,x.Aj,x.Ag,x.Ak,x.Ai)) 12 rfl
abbrev Sl:Fu.Lay:=((),(),⟨none,0,(fun _=>⟨none,0,(fun _=>())⟩)⟩,⟨none,0,(fun _=>())⟩,(),(),⟨none,0,(fun _=>())⟩,(),(),⟨none,0,(fun _=>())⟩,⟨none,0,(fun _=>())⟩,⟨none,0,(fun _=>())⟩)
def Xr:Fld Fu (Ty.slice 165 (Ty.slice 211 Az)):=Fld.iso (Fld.snd (Fld.snd (Fld.fst Fld.id))) (fun x y=>{ x with Ad:=y }) (fun _ _=>rfl)
def Yi:Fld Fu (Ty.slice 179 Au):=Fld.iso (Fld.snd (Fld.snd (Fld.snd (Fld.fst Fld.id)))) (fun x y=>{ x with Ae:=y }) (fun _ _=>rfl)
def gJ:Fld Fu (Ty.slice 2 (Bi .i64)):=Fld.iso (Fld.snd (Fld.snd (Fld.snd (Fld.snd (Fld.snd (Fld.snd (Fld.fst Fld.id))))))) (fun x y=>{ x with Ay:=y }) (fun _ _=>rfl)
def Yh:Fld Fu (Ty.slice 181 Ci):=Fld.iso (Fld.snd (Fld.snd (Fld.snd (Fld.snd (Fld.snd (Fld.snd (Fld.snd (Fld.snd (Fld.snd (Fld.fst Fld.id)))))))))) (fun x y=>{ x with Ag:=y }) (fun _ _=>rfl)
def Yn:Fld Fu (Ty.slice 2 (Bi .i64)):=Fld.iso (Fld.snd (Fld.snd (Fld.snd (Fld.snd (Fld.snd (Fld.snd (Fld.snd (Fld.snd (Fld.snd (Fld.snd (Fld.fst Fld.id))))))))))) (fun x y=>{ x with Ak:=y }) (fun _ _=>rfl)
def Yj:Fld Fu (Ty.slice 2 (Bi .i64)):=Fld.iso (Fld.snd (Fld.snd (Fld.snd (Fld.snd (Fld.snd (Fld.snd (Fld.snd (Fld.snd (Fld.snd (Fld.snd (Fld.snd Fld.id))))))))))) (fun x y=>{ x with Ai:=y }) (fun _ _=>rfl)
abbrev Aa:Ty Af:=Ty.iso (Ty.pair Sn (Ty.pair (Bi .i64) (Ty.pair (Ty.slice 161 (Ty.slice 168 Az)) (Ty.pair (Ty.slice 163 Au) (Ty.pair (Bi .i64) (Ty.pair (Bi .i64) (Ty.pair (Ty.slice 2 (Bi .i64)) (Ty.pair (Bi .i64) (Ty.pair (Bi .i64) (Ty.pair (Ty.slice 153 Ci) (Ty.pair (Ty.slice 2 (Bi .i64)) (Ty.slice 2 (Bi .i64))))))))))))) (fun x=>(x.Name,x.Kind,x.Ad,x.Ae,x.Al,x.Ao,x.Ay,x.Am,x.Aj,x.Ag,x.Ak,x.Ai)) 12 rfl
abbrev Bh:Aa.Lay:=((),(),⟨none,0,(fun _=>⟨none,0,(fun _=>())⟩)⟩,⟨none,0,(fun _=>())⟩,(),(),⟨none,0,(fun _=>())⟩,(),(),⟨none,0,(fun _=>())⟩,⟨none,0,(fun _=>())⟩,⟨none,0,(fun _=>())⟩)
theorem Np {w0 w:World} {L:List Cn} {Name:ByteArray} {Kind:Int} {Ad:List (List Br)} {Ae:List Ah} {Al:Int} {Ao:Int} {Ay:List Int} {Am:Int} {Aj:Int} {Ag:List Cc} {Ak:List Int} {Ai:List Int} {A2:Option Addr} {c2:Nat} {y2:Nat→(Ty.slice 168 Az).Lay} {A3:Option Addr} {c3:Nat} {y3:Nat→Au.Lay} {A6:Option Addr} {c6:Nat} {y6:Nat→(Bi .i64).Lay} {A9:Option Addr} {c9:Nat} {y9:Nat→Ci.Lay} {A10:Option Addr} {c10:Nat} {y10:Nat→(Bi .i64).Lay} {A11:Option Addr} {c11:Nat} {y11:Nat→(Bi .i64).Lay} (h:St w0 w (Own (Bi .i64) 2 A11 c11 y11 Ai::Own (Bi .i64) 2 A10 c10 y10 Ak::Own Ci 153 A9 c9 y9 Ag::Own (Bi .i64) 2 A6 c6 y6 Ay::Own Au 163 A3 c3 y3 Ae::Own (Ty.slice 168 Az) 161 A2 c2 y2 Ad::L)):St w0 w (Elt Aa ((),(),⟨A2,c2,y2⟩,⟨A3,c3,y3⟩,(),(),⟨A6,c6,y6⟩,(),(),⟨A9,c9,y9⟩,⟨A10,c10,y10⟩,⟨A11,c11,y11⟩) ⟨Name,Kind,Ad,Ae,Al,Ao,Ay,Am,Aj,Ag,Ak,Ai⟩::L):=show St w0 w (Elt (Ty.pair Sn (Ty.pair (Bi .i64) (Ty.pair (Ty.slice 161 (Ty.slice 168 Az)) (Ty.pair (Ty.slice 163 Au) (Ty.pair (Bi .i64) (Ty.pair (Bi .i64) (Ty.pair (Ty.slice 2 (Bi .i64)) (Ty.pair (Bi .i64) (Ty.pair (Bi .i64) (Ty.pair (Ty.slice 153 Ci) (Ty.pair (Ty.slice 2 (Bi .i64)) (Ty.slice 2 (Bi .i64))))))))))))) ((),(),⟨A2,c2,y2⟩,⟨A3,c3,y3⟩,(),(),⟨A6,c6,y6⟩,(),(),⟨A9,c9,y9⟩,⟨A10,c10,y10⟩,⟨A11,c11,y11⟩) (Name,Kind,Ad,Ae,Al,Ao,Ay,Am,Aj,Ag,Ak,Ai)::L) from (St.jV (St.jV (St.nC (St.nC (St.jV (St.jV (St.nC (St.jV (St.jV (St.nC (St.nC h)) Bw) Bw)) Bw) Bw))) Bw) Bw)
def Nj:Fld Aa (Ty.slice 161 (Ty.slice 168 Az)):=Fld.iso (Fld.snd (Fld.snd (Fld.fst Fld.id))) (fun x y=>{ x with Ad:=y }) (fun _ _=>rfl)
def Nu:Fld Aa (Ty.slice 163 Au):=Fld.iso (Fld.snd (Fld.snd (Fld.snd (Fld.fst Fld.id)))) (fun x y=>{ x with Ae:=y }) (fun _ _=>rfl)
def Pn:Fld Aa (Ty.slice 2 (Bi .i64)):=Fld.iso (Fld.snd (Fld.snd (Fld.snd (Fld.snd (Fld.snd (Fld.snd (Fld.fst Fld.id))))))) (fun x y=>{ x with Ay:=y }) (fun _ _=>rfl)
def Nt:Fld Aa (Ty.slice 153 Ci):=Fld.iso (Fld.snd (Fld.snd (Fld.snd (Fld.snd (Fld.snd (Fld.snd (Fld.snd (Fld.snd (Fld.snd (Fld.fst Fld.id)))))))))) (fun x y=>{ x with Ag:=y }) (fun _ _=>rfl)
def Oc:Fld Aa (Ty.slice 2 (Bi .i64)):=Fld.iso (Fld.snd (Fld.snd (Fld.snd (Fld.snd (Fld.snd (Fld.snd (Fld.snd (Fld.snd (Fld.snd (Fld.snd (Fld.fst Fld.id))))))))))) (fun x y=>{ x with Ak:=y }) (fun _ _=>rfl)
def Ns:Fld Aa (Ty.slice 2 (Bi .i64)):=Fld.iso (Fld.snd (Fld.snd (Fld.snd (Fld.snd (Fld.snd (Fld.snd (Fld.snd (Fld.snd (Fld.snd (Fld.snd (Fld.snd Fld.id))))))))))) (fun x y=>{ x with Ai:=y }) (fun _ _=>rfl)
theorem bY:∀ w,Aa.M w (fun _=>False) ((),(),⟨none,0,(fun _=>⟨none,0,(fun _=>())⟩)⟩,⟨none,0,(fun _=>())⟩,(),(),⟨none,0,(fun _=>())⟩,(),(),⟨none,0,(fun _=>())⟩,⟨none,0,(fun _=>())⟩,⟨none,0,(fun _=>())⟩) Bj:=fun w=>⟨fun _=>False,fun _=>False,fun _ h=>h,fun _ h=>h,fun _ h=>h.elim,trivial,⟨fun _=>False,fun _=>False,fun _ h=>h,fun _ h=>h,fun _ h=>h.elim,trivial,⟨fun _=>False,fun _=>False,fun _ h=>h,fun _ h=>h,fun _ h=>h.elim,(Qk.nil _ _ _ _),⟨fun _=>False,fun _=>False,fun _ h=>h,fun _ h=>h,fun _ h=>h.elim,(Qk.nil _ _ _ _),⟨fun _=>False,fun _=>False,fun _ h=>h,fun _ h=>h,fun _ h=>h.elim,trivial,⟨fun _=>False,fun _=>False,fun _ h=>h,fun _ h=>h,fun _ h=>h.elim,trivial,⟨fun _=>False,fun _=>False,fun _ h=>h,fun _ h=>h,fun _ h=>h.elim,(Qk.nil _ _ _ _),⟨fun _=>False,fun _=>False,fun _ h=>h,fun _ h=>h,fun _ h=>h.elim,trivial,⟨fun _=>False,fun _=>False,fun _ h=>h,fun _ h=>h,fun _ h=>h.elim,trivial,⟨fun _=>False,fun _=>False,fun _ h=>h,fun _ h=>h,fun _ h=>h.elim,(Qk.nil _ _ _ _),⟨fun _=>False,fun _=>False,fun _ h=>h,fun _ h=>h,fun _ h=>h.elim,(Qk.nil _ _ _ _),(Qk.nil _ _ _ _)⟩⟩⟩⟩⟩⟩⟩⟩⟩⟩⟩
structure Gm where
  crossing:Int
  position:Int
  deriving DecidableEq
def Ka:Gm:=⟨0,0⟩
def Ht:Ty Gm:=Ty.flat 2 (fun x=>[.int .i64 x.crossing,.int .i64 x.position]) (fun _=>rfl) (fun x u h=>by simp only [List.mem_cons,List.not_mem_nil,or_false] at h; rcases h with rfl | rfl <;> rfl)
def M4.f (a_:List Br) (left:Int):Option (Int):=if w64 (left - (a_.length:Int))<0 then (some (-1)) else (some (w64 (left - (a_.length:Int))))
abbrev M4.post:=I4
def Gh.l1 (K:Nat):Nat→(List (List Br))→Int→Int→Option (Int)
  | 0,_,_,_=>none
  | k+1,a_,b1,a1=>if a1<(a_.length:Int) then (if 0≤a1∧a1<(a_.length:Int) then ((M4.f (a_.getD a1.toNat []) b1).bind fun t20=>(if t20<0 then (some (-1)) else (Gh.l1 K k a_ t20 (w64 (a1+1))))) else none) else (some b1)
def Gh.f (K:Nat) (a_:List (List Br)) (left:Int):Option (Int):=if w64 (left - (a_.length:Int))<0 then (some (-1)) else (Gh.l1 K K a_ (w64 (left - (a_.length:Int))) 0)
abbrev Gh.post:=I4
def G6.f (K:Nat) (a1:List (List Br)) (left:Int):Option (Int):=(Gh.f K a1 left).bind fun t3=>(if t3<0 then (some (-1)) else (some t3))
abbrev G6.post:=I4
def Kh.f (a_:List Ah) (left:Int):Option (Int):=if w64 (left - (a_.length:Int))<0 then (some (-1)) else (some (w64 (left - (a_.length:Int))))
abbrev Kh.post:=I4
def Lm.f (a1:List Ah) (b1:Int) (left:Int):Option (Int):=(Kh.f a1 left).bind fun t3=>(if t3<0 then (some (-1)) else (some t3))
abbrev Lm.post:=I4
def I8.f (a_:List Int) (left:Int):Option (Int):=if w64 (left - (a_.length:Int))<0 then (some (-1)) else (some (w64 (left - (a_.length:Int))))
abbrev I8.post:=I4
def Ms.f (b1:Int) (a1:List Int) (left:Int):Option (Int):=(I8.f a1 left).bind fun t3=>(if t3<0 then (some (-1)) else (some t3))
abbrev Ms.post:=I4
def Mv.f (a_:List Cc) (left:Int):Option (Int):=if w64 (left - (a_.length:Int))<0 then (some (-1)) else (some (w64 (left - (a_.length:Int))))
abbrev Mv.post:=I4
def Je.f (e1:Int) (d1:Int) (b1:List Cc) (c1:List Int) (a1:List Int) (left:Int):Option (Int):=(Mv.f b1 left).bind fun t3=>(if t3<0 then (some (-1)) else ((I8.f c1 t3).bind fun t8=>(if t8<0 then (some (-1)) else ((I8.f a1 t8).bind fun t13=>(if t13<0 then (some (-1)) else (some t13))))))
abbrev Je.post:=I4
def Lp.f (K:Nat) (a1:ByteArray) (n1:Int) (g1:List (List Br)) (i1:List Ah) (m1:Int) (c1:Int) (b1:List Int) (k1:Int) (e1:Int) (f1:List Cc) (h1:List Int) (d1:List Int) (left:Int):Option (Int):=if w64 (left - (a1.size:Int))<0 then (some (-1)) else ((G6.f K g1 (w64 (left - (a1.size:Int)))).bind fun t4=>(if t4<0 then (some (-1)) else ((Lm.f i1 m1 t4).bind fun t9=>(if t9<0 then (some (-1)) else ((Ms.f c1 b1 t9).bind fun t14=>(if t14<0 then (some (-1)) else ((Je.f k1 e1 f1 h1 d1 t14).bind fun t19=>(if t19<0 then (some (-1)) else (some t19)))))))))
abbrev Lp.post:=I4
def Fv.l1 (K:Nat):Nat→(List Af)→Int→Int→Option (Int)
  | 0,_,_,_=>none
  | k+1,a_,b1,a1=>if a1<(a_.length:Int) then (if 0≤a1∧a1<(a_.length:Int) then (bnd (a_.getD a1.toNat Bj) (fun e24=>(Lp.f K e24.Name e24.Kind e24.Ad e24.Ae e24.Al e24.Ao e24.Ay e24.Am e24.Aj e24.Ag e24.Ak e24.Ai b1).bind fun t26=>(if t26<0 then (some (-1)) else (Fv.l1 K k a_ t26 (w64 (a1+1)))))) else none) else (some b1)
def Fv.f (K:Nat) (a_:List Af) (left:Int):Option (Int):=if w64 (left - (a_.length:Int))<0 then (some (-1)) else (Fv.l1 K K a_ (w64 (left - (a_.length:Int))) 0)
abbrev Fv.post:=I4
def Ew.l1 (K:Nat):Nat→(List (List Af))→Int→Int→Option (Int)
  | 0,_,_,_=>none
  | k+1,a_,b1,a1=>if a1<(a_.length:Int) then (if 0≤a1∧a1<(a_.length:Int) then ((Fv.f K (a_.getD a1.toNat []) b1).bind fun t20=>(if t20<0 then (some (-1)) else (Ew.l1 K k a_ t20 (w64 (a1+1))))) else none) else (some b1)
def Ew.f (K:Nat) (a_:List (List Af)) (left:Int):Option (Int):=if w64 (left - (a_.length:Int))<0 then (some (-1)) else (Ew.l1 K K a_ (w64 (left - (a_.length:Int))) 0)
abbrev Ew.post:=I4
def Me.f (K:Nat) (a1:List Af) (c1:List (List Af)) (b1:List (List Af)) (left:Int):Option (Int):=(Fv.f K a1 left).bind fun t3=>(if t3<0 then (some (-1)) else ((Ew.f K c1 t3).bind fun t8=>(if t8<0 then (some (-1)) else ((Ew.f K b1 t8).bind fun t13=>(if t13<0 then (some (-1)) else (some t13))))))
abbrev Me.post:=I4
def Kn.f (K:Nat) (p1:Int) (a1:ByteArray) (h1:ByteArray) (d1:Int) (e1:List (List Br)) (o1:List Ah) (n1:Int) (i1:Int) (m1:List Int) (g1:Int) (b1:Int) (c1:List Cc) (f1:List Int) (k1:List Int) (left:Int):Option (Int):=if w64 (left - (a1.size:Int))<0 then (some (-1)) else ((Lp.f K h1 d1 e1 o1 n1 i1 m1 g1 b1 c1 f1 k1 (w64 (left - (a1.size:Int)))).bind fun t4=>(if t4<0 then (some (-1)) else (some t4)))
abbrev Kn.post:=I4
def Nn.f (a1:Int) (b1:Int):Option (Int × Int):=some (a1,b1)
abbrev Nn.post (w0:World) (L:List Cn) (r1 r2:Int) (en:Ending) (w:World):Prop:=en=.returned (.agg [.int .i64 r1,.int .i64 r2].toArray)∧St w0 w (L)
def G5.l1 (K:Nat):Nat→(List Br)→(List Br)→Int→Option (List Br)
  | 0,_,_,_=>none
  | k+1,a_,b1,a1=>if a1<(a_.length:Int) then (if 0≤a1∧a1<(a_.length:Int) then (bnd (a_.getD a1.toNat Md) (fun e31=>Ed (Nn.f e31.Tet e31.Perm) (fun t33 t34=>(if 0≤a1∧a1<(b1.length:Int) then (G5.l1 K k a_ (b1.set a1.toNat (⟨t33,t34⟩:Br)) (w64 (a1+1))) else none)))) else none) else (some b1)
def G5.f (K:Nat) (a_:List Br):Option (List Br):=if 0≤(a_.length:Int) then (if (a_.length:Int).toNat * 16≤281474976710656 then (G5.l1 K K a_ (List.replicate (a_.length:Int).toNat Md) 0) else none) else none
abbrev G5.post (w0:World) (L:List Cn) (r1:List Br) (en:Ending) (w:World):Prop:=∃ (A_r0:Option Addr) (c_r1:Nat),en=.returned (.slice A_r0 r1.length c_r1)∧St w0 w (Own Az 168 A_r0 c_r1 (fun _=>()) r1::L)
def Fx.l1 (K:Nat):Nat→(List (List Br))→(List (List Br))→Int→Option (List (List Br))
  | 0,_,_,_=>none
  | k+1,a_,b1,a1=>if a1<(a_.length:Int) then (if 0≤a1∧a1<(a_.length:Int) then ((G5.f K (a_.getD a1.toNat [])).bind fun t32=>(if 0≤a1∧a1<(b1.length:Int) then (Fx.l1 K k a_ (b1.set a1.toNat t32) (w64 (a1+1))) else none)) else none) else (some b1)
def Fx.f (K:Nat) (a_:List (List Br)):Option (List (List Br)):=if 0≤(a_.length:Int) then (if (a_.length:Int).toNat * 24≤281474976710656 then (Fx.l1 K K a_ (List.replicate (a_.length:Int).toNat ([]:List Br)) 0) else none) else none
abbrev Fx.post (w0:World) (L:List Cn) (r1:List (List Br)) (en:Ending) (w:World):Prop:=∃ (A_r0:Option Addr) (c_r1:Nat) (y_r2:Nat→(Ty.slice 168 Az).Lay),en=.returned (.slice A_r0 r1.length c_r1)∧St w0 w (Own (Ty.slice 168 Az) 161 A_r0 c_r1 y_r2 r1::L)
def Iw.f (K:Nat) (a1:List (List Br)):Option (List (List Br)):=(Fx.f K a1).bind fun t7=>(some t7)
abbrev Iw.post (w0:World) (L:List Cn) (r1:List (List Br)) (en:Ending) (w:World):Prop:=∃ (A_r0:Option Addr) (c_r1:Nat) (y_r2:Nat→(Ty.slice 168 Az).Lay),en=.returned (.agg [.slice A_r0 r1.length c_r1].toArray)∧St w0 w (Own (Ty.slice 168 Az) 161 A_r0 c_r1 y_r2 r1::L)
def Kz.f (a_A:Int) (a_B:Int) (a_C:Int) (a_D:Int) (a1:Int):Option (Int × Int × Int × Int × Int):=some (a_A,a_B,a_C,a_D,a1)
abbrev Kz.post (w0:World) (L:List Cn) (r1 r2:Int) (r3 r4 r5:Int) (en:Ending) (w:World):Prop:=en=.returned (.agg [.int .i64 r1,.int .i64 r2,.int .i64 r3,.int .i64 r4,.int .i64 r5].toArray)∧St w0 w (L)
def Ea.l1 (K:Nat):Nat→(List Ah)→(List Ah)→Int→Option (List Ah)
  | 0,_,_,_=>none
  | k+1,a_,b1,a1=>if a1<(a_.length:Int) then (if 0≤a1∧a1<(a_.length:Int) then (bnd (a_.getD a1.toNat Ar) (fun e37=>gZ (Kz.f e37.A e37.B e37.C e37.D e37.Sign) (fun t39 t40 t41 t42 t43=>(if 0≤a1∧a1<(b1.length:Int) then (Ea.l1 K k a_ (b1.set a1.toNat (⟨t39,t40,t41,t42,t43⟩:Ah)) (w64 (a1+1))) else none)))) else none) else (some b1)
def Ea.f (K:Nat) (a_:List Ah):Option (List Ah):=if 0≤(a_.length:Int) then (if (a_.length:Int).toNat * 40≤281474976710656 then (Ea.l1 K K a_ (List.replicate (a_.length:Int).toNat Ar) 0) else none) else none
abbrev Ea.post (w0:World) (L:List Cn) (r1:List Ah) (en:Ending) (w:World):Prop:=∃ (A_r0:Option Addr) (c_r1:Nat),en=.returned (.slice A_r0 r1.length c_r1)∧St w0 w (Own Au 163 A_r0 c_r1 (fun _=>()) r1::L)
def Lg.f (K:Nat) (a1:List Ah) (b1:Int):Option ((List Ah) × Int):=(Ea.f K a1).bind fun t7=>(some (t7,b1))
abbrev Lg.post (w0:World) (L:List Cn) (r1:List Ah) (r2:Int) (en:Ending) (w:World):Prop:=∃ (A_r0:Option Addr) (c_r1:Nat),en=.returned (.agg [.slice A_r0 r1.length c_r1,.int .i64 r2].toArray)∧St w0 w (Own Au 163 A_r0 c_r1 (fun _=>()) r1::L)
def En.l1 (K:Nat):Nat→(List Int)→(List Int)→Int→Option (List Int)
  | 0,_,_,_=>none
  | k+1,a_,b1,a1=>if a1<(a_.length:Int) then (if 0≤a1∧a1<(a_.length:Int) then (if 0≤a1∧a1<(b1.length:Int) then (En.l1 K k a_ (b1.set a1.toNat (a_.getD a1.toNat 0)) (w64 (a1+1))) else none) else none) else (some b1)
def En.f (K:Nat) (a_:List Int):Option (List Int):=if 0≤(a_.length:Int) then (if (a_.length:Int).toNat * 8≤281474976710656 then (En.l1 K K a_ (List.replicate (a_.length:Int).toNat (0:Int)) 0) else none) else none
abbrev En.post (w0:World) (L:List Cn) (r1:List Int) (en:Ending) (w:World):Prop:=∃ (A_r0:Option Addr) (c_r1:Nat),en=.returned (.slice A_r0 r1.length c_r1)∧St w0 w (Own (Bi .i64) 2 A_r0 c_r1 (fun _=>()) r1::L)
def Mw.f (K:Nat) (b1:Int) (a1:List Int):Option (Int × (List Int)):=(En.f K a1).bind fun t8=>(some (b1,t8))
abbrev Mw.post (w0:World) (L:List Cn) (r1:Int) (r2:List Int) (en:Ending) (w:World):Prop:=∃ (A_r0:Option Addr) (c_r1:Nat),en=.returned (.agg [.int .i64 r1,.slice A_r0 r2.length c_r1].toArray)∧St w0 w (Own (Bi .i64) 2 A_r0 c_r1 (fun _=>()) r2::L)
def Nl.f (a1:Int) (b1:Int) (c1:Int):Option (Int × Int × Int):=some (a1,b1,c1)
abbrev Nl.post (w0:World) (L:List Cn) (r1 r2 r3:Int) (en:Ending) (w:World):Prop:=en=.returned (.agg [.int .i64 r1,.int .i64 r2,.int .i64 r3].toArray)∧St w0 w (L)
def Gx.l1 (K:Nat):Nat→(List Cc)→(List Cc)→Int→Option (List Cc)
  | 0,_,_,_=>none
  | k+1,a_,b1,a1=>if a1<(a_.length:Int) then (if 0≤a1∧a1<(a_.length:Int) then (bnd (a_.getD a1.toNat Io) (fun e33=>M8 (Nl.f e33.Kind e33.Tet e33.Index) (fun t35 t36 t37=>(if 0≤a1∧a1<(b1.length:Int) then (Gx.l1 K k a_ (b1.set a1.toNat (⟨t35,t36,t37⟩:Cc)) (w64 (a1+1))) else none)))) else none) else (some b1)
def Gx.f (K:Nat) (a_:List Cc):Option (List Cc):=if 0≤(a_.length:Int) then (if (a_.length:Int).toNat * 24≤281474976710656 then (Gx.l1 K K a_ (List.replicate (a_.length:Int).toNat Io) 0) else none) else none
abbrev Gx.post (w0:World) (L:List Cn) (r1:List Cc) (en:Ending) (w:World):Prop:=∃ (A_r0:Option Addr) (c_r1:Nat),en=.returned (.slice A_r0 r1.length c_r1)∧St w0 w (Own Ci 153 A_r0 c_r1 (fun _=>()) r1::L)
def Iy.f (K:Nat) (e1:Int) (c1:Int) (b1:List Cc) (d1:List Int) (a1:List Int):Option (Int × Int × (List Cc) × (List Int) × (List Int)):=(Gx.f K b1).bind fun t9=>((En.f K d1).bind fun t16=>((En.f K a1).bind fun t23=>(some (e1,c1,t9,t16,t23))))
abbrev Iy.post (w0:World) (L:List Cn) (r1 r2:Int) (r3:List Cc) (r4 r5:List Int) (en:Ending) (w:World):Prop:=∃ (A_r0:Option Addr) (c_r1:Nat) (A_r2:Option Addr) (c_r3:Nat) (A_r4:Option Addr) (c_r5:Nat),en=.returned (.agg [.int .i64 r1,.int .i64 r2,.slice A_r0 r3.length c_r1,.slice A_r2 r4.length c_r3,.slice A_r4 r5.length c_r5].toArray)∧St w0 w (Own Ci 153 A_r0 c_r1 (fun _=>()) r3::Own (Bi .i64) 2 A_r2 c_r3 (fun _=>()) r4::Own (Bi .i64) 2 A_r4 c_r5 (fun _=>()) r5::L)
def Ky.f (K:Nat) (h1:ByteArray) (e1:Int) (g1:List (List Br)) (k1:List Ah) (n1:Int) (b1:Int) (a1:List Int) (m1:Int) (d1:Int) (f1:List Cc) (i1:List Int) (c1:List Int):Option (ByteArray × Int × (List (List Br)) × (List Ah) × Int × Int × (List Int) × Int × Int × (List Cc) × (List Int) × (List Int)):=(Iw.f K g1).bind fun t9=>(Ed (Lg.f K k1 n1) (fun t17 t18=>(Ed (Mw.f K b1 a1) (fun t25 t26=>(gZ (Iy.f K m1 d1 f1 i1 c1) (fun t33 t34 t35 t36 t37=>(some (h1,e1,t9,t17,t18,t25,t26,t33,t34,t35,t36,t37))))))))
abbrev Ky.post (w0:World) (L:List Cn) (r1:ByteArray) (r2:Int) (r3:List (List Br)) (r4:List Ah) (r5 r6:Int) (r7:List Int) (r8 r9:Int) (r10:List Cc) (r11 r12:List Int) (en:Ending) (w:World):Prop:=∃ (A_r0:Option Addr) (c_r1:Nat) (y_r2:Nat→(Ty.slice 168 Az).Lay) (A_r3:Option Addr) (c_r4:Nat) (A_r5:Option Addr) (c_r6:Nat) (A_r7:Option Addr) (c_r8:Nat) (A_r9:Option Addr) (c_r10:Nat) (A_r11:Option Addr) (c_r12:Nat),en=.returned (.agg [.string r1,.int .i64 r2,.slice A_r0 r3.length c_r1,.slice A_r3 r4.length c_r4,.int .i64 r5,.int .i64 r6,.slice A_r5 r7.length c_r6,.int .i64 r8,.int .i64 r9,.slice A_r7 r10.length c_r8,.slice A_r9 r11.length c_r10,.slice A_r11 r12.length c_r12].toArray)∧St w0 w (Own (Ty.slice 168 Az) 161 A_r0 c_r1 y_r2 r3::Own Au 163 A_r3 c_r4 (fun _=>()) r4::Own (Bi .i64) 2 A_r5 c_r6 (fun _=>()) r7::Own Ci 153 A_r7 c_r8 (fun _=>()) r10::Own (Bi .i64) 2 A_r9 c_r10 (fun _=>()) r11::Own (Bi .i64) 2 A_r11 c_r12 (fun _=>()) r12::L)
def F4.l1 (K:Nat):Nat→(List Af)→(List Af)→Int→Option (List Af)
  | 0,_,_,_=>none
  | k+1,a_,b1,a1=>if a1<(a_.length:Int) then (if 0≤a1∧a1<(a_.length:Int) then (bnd (a_.getD a1.toNat Bj) (fun e80=>Jm (Ky.f K e80.Name e80.Kind e80.Ad e80.Ae e80.Al e80.Ao e80.Ay e80.Am e80.Aj e80.Ag e80.Ak e80.Ai) (fun t82 t83 t84 t85 t86 t87 t88 t89 t90 t91 t92 t93=>(if 0≤a1∧a1<(b1.length:Int) then (F4.l1 K k a_ (b1.set a1.toNat (⟨t82,t83,t84,t85,t86,t87,t88,t89,t90,t91,t92,t93⟩:Af)) (w64 (a1+1))) else none)))) else none) else (some b1)
def F4.f (K:Nat) (a_:List Af):Option (List Af):=if 0≤(a_.length:Int) then (if (a_.length:Int).toNat * 200≤281474976710656 then (F4.l1 K K a_ (List.replicate (a_.length:Int).toNat Bj) 0) else none) else none
abbrev F4.post (w0:World) (L:List Cn) (r1:List Af) (en:Ending) (w:World):Prop:=∃ (A_r0:Option Addr) (c_r1:Nat) (y_r2:Nat→Aa.Lay),en=.returned (.slice A_r0 r1.length c_r1)∧St w0 w (Own Aa 62 A_r0 c_r1 y_r2 r1::L)
def Fq.l1 (K:Nat):Nat→(List (List Af))→(List (List Af))→Int→Option (List (List Af))
  | 0,_,_,_=>none
  | k+1,a_,b1,a1=>if a1<(a_.length:Int) then (if 0≤a1∧a1<(a_.length:Int) then ((F4.f K (a_.getD a1.toNat [])).bind fun t34=>(if 0≤a1∧a1<(b1.length:Int) then (Fq.l1 K k a_ (b1.set a1.toNat t34) (w64 (a1+1))) else none)) else none) else (some b1)
def Fq.f (K:Nat) (a_:List (List Af)):Option (List (List Af)):=if 0≤(a_.length:Int) then (if (a_.length:Int).toNat * 24≤281474976710656 then (Fq.l1 K K a_ (List.replicate (a_.length:Int).toNat ([]:List Af)) 0) else none) else none
abbrev Fq.post (w0:World) (L:List Cn) (r1:List (List Af)) (en:Ending) (w:World):Prop:=∃ (A_r0:Option Addr) (c_r1:Nat) (y_r2:Nat→(Ty.slice 62 Aa).Lay),en=.returned (.slice A_r0 r1.length c_r1)∧St w0 w (Own (Ty.slice 62 Aa) 44 A_r0 c_r1 y_r2 r1::L)
def Jc.f (K:Nat) (a1:List Af) (c1:List (List Af)) (b1:List (List Af)):Option ((List Af) × (List (List Af)) × (List (List Af))):=(F4.f K a1).bind fun t7=>((Fq.f K c1).bind fun t15=>((Fq.f K b1).bind fun t23=>(some (t7,t15,t23))))
abbrev Jc.post (w0:World) (L:List Cn) (r1:List Af) (r2:List (List Af)) (r3:List (List Af)) (en:Ending) (w:World):Prop:=∃ (A_r0:Option Addr) (c_r1:Nat) (y_r2:Nat→Aa.Lay) (A_r3:Option Addr) (c_r4:Nat) (y_r5:Nat→(Ty.slice 62 Aa).Lay) (A_r6:Option Addr) (c_r7:Nat) (y_r8:Nat→(Ty.slice 62 Aa).Lay),en=.returned (.agg [.slice A_r0 r1.length c_r1,.slice A_r3 r2.length c_r4,.slice A_r6 r3.length c_r7].toArray)∧St w0 w (Own Aa 62 A_r0 c_r1 y_r2 r1::Own (Ty.slice 62 Aa) 44 A_r3 c_r4 y_r5 r2::Own (Ty.slice 62 Aa) 44 A_r6 c_r7 y_r8 r3::L)
def H7.f (K:Nat) (i1:Int) (p1:ByteArray) (g1:ByteArray) (c1:Int) (d1:List (List Br)) (o1:List Ah) (n1:Int) (h1:Int) (m1:List Int) (f1:Int) (a1:Int) (b1:List Cc) (e1:List Int) (k1:List Int):Option (Int × ByteArray × ByteArray × Int × (List (List Br)) × (List Ah) × Int × Int × (List Int) × Int × Int × (List Cc) × (List Int) × (List Int)):=Jm (Ky.f K g1 c1 d1 o1 n1 h1 m1 f1 a1 b1 e1 k1) (fun t9 t10 t11 t12 t13 t14 t15 t16 t17 t18 t19 t20=>(some (i1,p1,t9,t10,t11,t12,t13,t14,t15,t16,t17,t18,t19,t20)))
abbrev H7.post (w0:World) (L:List Cn) (r1:Int) (r2 r3:ByteArray) (r4:Int) (r5:List (List Br)) (r6:List Ah) (r7 r8:Int) (r9:List Int) (r10 r11:Int) (r12:List Cc) (r13 r14:List Int) (en:Ending) (w:World):Prop:=∃ (A_r0:Option Addr) (c_r1:Nat) (y_r2:Nat→(Ty.slice 168 Az).Lay) (A_r3:Option Addr) (c_r4:Nat) (A_r5:Option Addr) (c_r6:Nat) (A_r7:Option Addr) (c_r8:Nat) (A_r9:Option Addr) (c_r10:Nat) (A_r11:Option Addr) (c_r12:Nat),en=.returned (.agg [.int .i64 r1,.string r2,.string r3,.int .i64 r4,.slice A_r0 r5.length c_r1,.slice A_r3 r6.length c_r4,.int .i64 r7,.int .i64 r8,.slice A_r5 r9.length c_r6,.int .i64 r10,.int .i64 r11,.slice A_r7 r12.length c_r8,.slice A_r9 r13.length c_r10,.slice A_r11 r14.length c_r12].toArray)∧St w0 w (Own (Ty.slice 168 Az) 161 A_r0 c_r1 y_r2 r5::Own Au 163 A_r3 c_r4 (fun _=>()) r6::Own (Bi .i64) 2 A_r5 c_r6 (fun _=>()) r9::Own Ci 153 A_r7 c_r8 (fun _=>()) r12::Own (Bi .i64) 2 A_r9 c_r10 (fun _=>()) r13::Own (Bi .i64) 2 A_r11 c_r12 (fun _=>()) r14::L)
def Fw.l1 (K:Nat):Nat→ByteArray→Int→Option (Bool)
  | 0,_,_=>none
  | k+1,s,i_6=>if i_6<(s.size:Int) then (if 0≤i_6∧i_6<(s.size:Int) then (if Yo s i_6.toNat<97 then (some false) else (if 122<Yo s i_6.toNat then (some false) else (Fw.l1 K k s (w64 (i_6+1))))) else none) else (if 1≤(s.size:Int) then (some (decide ((s.size:Int)≤8))) else (some false))
def Fw.f (K:Nat) (s:ByteArray):Option (Bool):=Fw.l1 K K s 0
abbrev Fw.post:=Ga
def Ef.f (n_:Int) (low:Int) (high:Int):Option (Bool):=if low≤n_ then (some (decide (n_≤high))) else (some false)
abbrev Ef.post:=Ga
def H5.f (a1:List (List Br)):Option (Bool):=some (decide ((a1.length:Int)=0))
abbrev H5.post:=Ga
def F7.f (b1:List Ah) (a1:Int):Option (Bool):=if (b1.length:Int)=0 then (some (decide (a1=0))) else (some false)
abbrev F7.post:=Ga
def Ho.f (a1:Int) (b1:List Int):Option (Bool):=if a1=0 then (some (decide ((b1.length:Int)=0))) else (some false)
abbrev Ho.post:=Ga
def Fg.f (b1:Int) (c1:Int) (d1:List Cc) (e1:List Int) (a1:List Int):Option (Bool):=if b1=0 then (if c1=0 then (if (d1.length:Int)=0 then (if (e1.length:Int)=0 then (some (decide ((a1.length:Int)=0))) else (some false)) else (some false)) else (some false)) else (some false)
abbrev Fg.post:=Ga
def Mg.f (m1:ByteArray) (n1:Int) (k1:List (List Br)) (b1:List Ah) (a1:Int) (c1:Int) (h1:List Int) (d1:Int) (e1:Int) (f1:List Cc) (i1:List Int) (g1:List Int) (kind:Int):Option (Bool):=if kind=1 then ((H5.f k1).bind fun t4=>(some t4)) else (if kind=2 then ((F7.f b1 a1).bind fun t9=>(some t9)) else (if kind=3 then ((Ho.f c1 h1).bind fun t14=>(some t14)) else ((Fg.f d1 e1 f1 i1 g1).bind fun t18=>(some t18))))
abbrev Mg.post:=Ga
def Hu.f (a1:List (List Br)):Option (Int):=some (a1.length:Int)
abbrev Hu.post:=I4
def J9.f (n_:Int) (low:Int) (high:Int):Option (Bool):=if low≤n_ then (some (decide (n_≤high))) else (some false)
abbrev J9.post:=Ga
def I9.f (p:Int):Option (Bool):=if 0≤p then (some (decide (p<24))) else (some false)
abbrev I9.post:=Ga
def Gl.l1 (K:Nat):Nat→Int→(List Int)→(List Int)→Int→Int→Option (List Int)
  | 0,_,_,_,_,_=>none
  | k+1,b1,c1,e1,a1,d1=>if 0≤d1 then (if a1=0 then none else (if 0≤w64 (b1.tdiv a1)∧w64 (b1.tdiv a1)<(c1.length:Int) then (if (e1.length+1) * 8≤140737488355328 then (if 0≤w64 (b1.tdiv a1)∧w64 (b1.tdiv a1)≤(c1.length:Int) then (if (([]:List Int).length+((c1.take ((w64 (b1.tdiv a1)).toNat)).drop 0).length) * 8≤140737488355328 then (if 0≤w64 ((w64 (b1.tdiv a1))+1)∧w64 ((w64 (b1.tdiv a1))+1)≤(c1.length:Int) then (if ((([]:List Int)++((c1.take ((w64 (b1.tdiv a1)).toNat)).drop 0)).length+((c1.take c1.length).drop ((w64 ((w64 (b1.tdiv a1))+1)).toNat)).length) * 8≤140737488355328 then (if 0<d1 then (if d1=0 then none else (Gl.l1 K k (b1.tmod a1) ((([]:List Int)++((c1.take ((w64 (b1.tdiv a1)).toNat)).drop 0))++((c1.take c1.length).drop ((w64 ((w64 (b1.tdiv a1))+1)).toNat))) (e1++[c1.getD ((w64 (b1.tdiv a1)).toNat) 0]) (w64 (a1.tdiv d1)) (w64 (d1 - 1)))) else (Gl.l1 K k (b1.tmod a1) ((([]:List Int)++((c1.take ((w64 (b1.tdiv a1)).toNat)).drop 0))++((c1.take c1.length).drop ((w64 ((w64 (b1.tdiv a1))+1)).toNat))) (e1++[c1.getD ((w64 (b1.tdiv a1)).toNat) 0]) a1 (w64 (d1 - 1)))) else none) else none) else none) else none) else none) else none)) else (some e1)
def Gl.f (K:Nat) (p:Int):Option (List Int):=Gl.l1 K K p ([0,1,2,3]:List Int) ([]:List Int) 6 3
abbrev Gl.post (w0:World) (L:List Cn) (r1:List Int) (en:Ending) (w:World):Prop:=∃ (A_r0:Option Addr) (c_r1:Nat),en=.returned (.slice A_r0 r1.length c_r1)∧St w0 w (Own (Bi .i64) 2 A_r0 c_r1 (fun _=>()) r1::L)
def Mk.f (K:Nat) (p:Int) (k_:Int):Option (Int):=(Gl.f K p).bind fun t1=>(if 0≤k_∧k_<(t1.length:Int) then (some (t1.getD k_.toNat 0)) else none)
abbrev Mk.post:=I4
mutual
def Ey.l1 (K:Nat):Nat→(List Int)→Int→Int→Int→Option (Int)
  | 0,_,_,_,_=>none
  | k+1,a_,p_4,a1,i_6=>if i_6<3 then (if 0≤i_6∧i_6<(a_.length:Int) then (Ey.l4 K k a_ p_4 a1 i_6 (a_.getD i_6.toNat 0) 0) else none) else (some p_4)
def Ey.l4 (K:Nat):Nat→(List Int)→Int→Int→Int→Int→Int→Option (Int)
  | 0,_,_,_,_,_,_=>none
  | k+1,a_,p_4,b1,i_6,c1,a1=>if a1<i_6 then (if 0≤a1∧a1<(a_.length:Int) then (if a_.getD a1.toNat 0<a_.getD i_6.toNat 0 then (Ey.l4 K k a_ p_4 b1 i_6 (w64 (c1 - 1)) (w64 (a1+1))) else (Ey.l4 K k a_ p_4 b1 i_6 c1 (w64 (a1+1)))) else none) else (if w64 (3 - i_6)=0 then none else (Ey.l1 K k a_ (w64 (p_4+(w64 (b1 * c1)))) (w64 (b1.tdiv (w64 (3 - i_6)))) (w64 (i_6+1))))
end
def Ey.f (K:Nat) (a_:List Int):Option (Int):=Ey.l1 K K a_ 0 6 0
abbrev Ey.post:=I4
def He.l1 (K:Nat):Nat→(List Int)→(List Int)→Int→Option (Int)
  | 0,_,_,_=>none
  | k+1,t1,b1,a1=>if a1<4 then (if 0≤a1∧a1<(t1.length:Int) then (if 0≤t1.getD a1.toNat 0∧t1.getD a1.toNat 0<(b1.length:Int) then (He.l1 K k t1 (b1.set ((t1.getD a1.toNat 0).toNat) a1) (w64 (a1+1))) else none) else none) else ((Ey.f K b1).bind fun t26=>(some t26))
def He.f (K:Nat) (p:Int):Option (Int):=(Gl.f K p).bind fun t1=>(He.l1 K K t1 ([0,0,0,0]:List Int) 0)
abbrev He.post:=I4
mutual
def Aq.l1 (K:Nat):Nat→(List (List Br))→Int→Option (Bool)
  | 0,_,_=>none
  | k+1,b1,a1=>if a1<(b1.length:Int) then (if 0≤a1∧a1<(b1.length:Int) then (if ((b1.getD a1.toNat []).length:Int)=4 then (Aq.l1 K k b1 (w64 (a1+1))) else (some false)) else none) else (Aq.l28 K k b1 0)
def Aq.l28 (K:Nat):Nat→(List (List Br))→Int→Option (Bool)
  | 0,_,_=>none
  | k+1,a1,b1=>(Hu.f a1).bind fun t1453=>(if b1<t1453 then (Aq.l37 K k a1 b1 0) else (some true))
def Aq.l37 (K:Nat):Nat→(List (List Br))→Int→Int→Option (Bool)
  | 0,_,_,_=>none
  | k+1,c1,a1,b1=>if b1<4 then (if 0≤a1∧a1<(c1.length:Int) then (if 0≤b1∧b1<((c1.getD a1.toNat []).length:Int) then (bnd ((c1.getD a1.toNat []).getD b1.toNat Md) (fun e1577=>if e1577.Tet=(-1) then (Aq.j40 K k c1 a1 b1 e1577 (decide (e1577.Perm=0))) else (Aq.j40 K k c1 a1 b1 e1577 false))) else none) else none) else (Aq.l28 K k c1 (w64 (a1+1)))
def Aq.j40 (K:Nat):Nat→(List (List Br))→Int→Int→Br→Bool→Option (Bool)
  | 0,_,_,_,_,_=>none
  | k+1,a1,c1,b1,e1577,x1584=>if x1584=true then (Aq.l37 K k a1 c1 (w64 (b1+1))) else ((Hu.f a1).bind fun t1599=>((J9.f e1577.Tet 0 (w64 (t1599 - 1))).bind fun t1603=>(if t1603=true then ((I9.f e1577.Perm).bind fun t1608=>(if t1608=true then ((Mk.f K e1577.Perm b1).bind fun t1613=>((He.f K e1577.Perm).bind fun t1617=>(if 0≤e1577.Tet∧e1577.Tet<(a1.length:Int) then (if 0≤t1613∧t1613<((a1.getD e1577.Tet.toNat []).length:Int) then (bnd ((a1.getD e1577.Tet.toNat []).getD t1613.toNat Md) (fun e1626=>if (e1626.Tet,e1626.Perm)=(c1,t1617) then (if e1577.Tet=c1 then (if t1613=b1 then (some false) else (Aq.l37 K k a1 c1 (w64 (b1+1)))) else (Aq.l37 K k a1 c1 (w64 (b1+1)))) else (some false))) else none) else none))) else (some false))) else (some false))))
end
def Aq.f (K:Nat) (a1:List (List Br)):Option (Bool):=(Hu.f a1).bind fun t3=>(if 8<t3 then (some false) else (Aq.l1 K K a1 0))
abbrev Aq.post:=Ga
def Jw.f (x_A:Int) (x_B:Int) (x_C:Int) (x_D:Int) (a1:Int) (p:Int):Option (Int):=if 0≤p∧p<(([x_A,x_B,x_C,x_D]:List Int).length:Int) then (some (([x_A,x_B,x_C,x_D]:List Int).getD p.toNat 0)) else none
abbrev Jw.post:=I4
def Ij.f (x_A:Int) (x_B:Int) (x_C:Int) (x_D:Int) (a1:Int) (p:Int):Option (Bool):=if p=0 then (some true) else (if p=3 then (if a1=1 then (some true) else (if p=1 then (some (decide (a1=(-1)))) else (some false))) else (if p=1 then (some (decide (a1=(-1)))) else (some false)))
abbrev Ij.post:=Ga
mutual
def Bg.l1 (K:Nat):Nat→(List Ah)→(List Bool)→(List Bool)→Int→Option (Bool)
  | 0,_,_,_,_=>none
  | k+1,b1,d1,c1,a1=>if a1<(b1.length:Int) then (if 0≤a1∧a1<(b1.length:Int) then (bnd (b1.getD a1.toNat Ar) (fun e185=>if e185.Sign=1 then (Bg.j12 K k b1 d1 c1 a1 e185 false) else (Bg.j12 K k b1 d1 c1 a1 e185 (!(decide (e185.Sign=(-1))))))) else none) else (some true)
def Bg.j12 (K:Nat):Nat→(List Ah)→(List Bool)→(List Bool)→Int→Ah→Bool→Option (Bool)
  | 0,_,_,_,_,_,_=>none
  | k+1,c1,b1,a1,d1,e185,x192=>if x192=true then (some false) else (Bg.l13 K k c1 d1 e185 b1 a1 0)
def Bg.l13 (K:Nat):Nat→(List Ah)→Int→Ah→(List Bool)→(List Bool)→Int→Option (Bool)
  | 0,_,_,_,_,_,_=>none
  | k+1,d1,e1,e185,b1,a1,c1=>if c1<4 then ((Jw.f e185.A e185.B e185.C e185.D e185.Sign c1).bind fun t245=>((Ef.f t245 0 (w64 ((w64 (2 * (d1.length:Int))) - 1))).bind fun t249=>(if t249=true then ((Ij.f e185.A e185.B e185.C e185.D e185.Sign c1).bind fun t254=>(if t254=true then (if 0≤t245∧t245<(b1.length:Int) then (if (b1.getD t245.toNat false)=true then (some false) else (Bg.l13 K k d1 e1 e185 (b1.set t245.toNat true) a1 (w64 (c1+1)))) else none) else (if 0≤t245∧t245<(a1.length:Int) then (if (a1.getD t245.toNat false)=true then (some false) else (Bg.l13 K k d1 e1 e185 b1 (a1.set t245.toNat true) (w64 (c1+1)))) else none))) else (some false)))) else (Bg.l1 K k d1 b1 a1 (w64 (e1+1)))
end
def Bg.f (K:Nat) (a1:List Ah) (b1:Int):Option (Bool):=if 0≤w64 (2 * (a1.length:Int)) then (if (w64 (2 * (a1.length:Int))).toNat * 1≤281474976710656 then (Bg.l1 K K a1 (List.replicate (w64 (2 * (a1.length:Int))).toNat false) (List.replicate (w64 (2 * (a1.length:Int))).toNat false) 0) else none) else none
abbrev Bg.post:=Ga
mutual
def Cm.l1 (K:Nat):Nat→(List Ah)→Int→Bool→Int→Option (Int × Int)
  | 0,_,_,_,_=>none
  | k+1,b1,a_,enters,a1=>if a1<(b1.length:Int) then (Cm.l4 K k b1 a_ enters a1 0) else (some ((-1),(-1)))
def Cm.l4 (K:Nat):Nat→(List Ah)→Int→Bool→Int→Int→Option (Int × Int)
  | 0,_,_,_,_,_=>none
  | k+1,c1,a_,enters,a1,b1=>if b1<4 then (if 0≤a1∧a1<(c1.length:Int) then (bnd (c1.getD a1.toNat Ar) (fun e229=>(Jw.f e229.A e229.B e229.C e229.D e229.Sign b1).bind fun t231=>(if t231=a_ then ((Ij.f e229.A e229.B e229.C e229.D e229.Sign b1).bind fun t236=>(if (t236 == enters)=true then (some (a1,b1)) else (Cm.l4 K k c1 a_ enters a1 (w64 (b1+1))))) else (Cm.l4 K k c1 a_ enters a1 (w64 (b1+1)))))) else none) else (Cm.l1 K k c1 a_ enters (w64 (a1+1)))
end
def Cm.f (K:Nat) (a1:List Ah) (b1:Int) (a_:Int) (enters:Bool):Option (Int × Int):=Cm.l1 K K a1 a_ enters 0
abbrev Cm.post (w0:World) (L:List Cn) (r1 r2:Int) (en:Ending) (w:World):Prop:=en=.returned (.tuple #[.int .i64 r1,.int .i64 r2])∧St w0 w (L)
def Jd.f (K:Nat) (a1:List Ah) (b1:Int) (corner:Int):Option (Int):=if 0≤w64 (corner.tdiv 4)∧w64 (corner.tdiv 4)<(a1.length:Int) then (bnd (a1.getD ((w64 (corner.tdiv 4)).toNat) Ar) (fun e4=>(Jw.f e4.A e4.B e4.C e4.D e4.Sign ((w64 ((corner.tmod 4)+1)).tmod 4)).bind fun t9=>((Ij.f e4.A e4.B e4.C e4.D e4.Sign ((w64 ((corner.tmod 4)+1)).tmod 4)).bind fun t13=>(Ed (Cm.f K a1 b1 t9 (!t13)) (fun t17 t18=>(some (w64 ((w64 (4 * t17))+t18)))))))) else none
abbrev Jd.post:=I4
mutual
def Ck.l1 (K:Nat):Nat→(List Ah)→Int→(List (List Int))→(List Bool)→Int→Option (List (List Int))
  | 0,_,_,_,_,_=>none
  | k+1,e1,d1,c1,b1,a1=>if a1<(b1.length:Int) then (if 0≤a1∧a1<(b1.length:Int) then (if (b1.getD a1.toNat false)=true then (Ck.l1 K k e1 d1 c1 b1 (w64 (a1+1))) else (Ck.l4 K k e1 d1 c1 a1 b1 ([]:List Int) a1)) else none) else (some c1)
def Ck.l4 (K:Nat):Nat→(List Ah)→Int→(List (List Int))→Int→(List Bool)→(List Int)→Int→Option (List (List Int))
  | 0,_,_,_,_,_,_,_=>none
  | k+1,d1,c1,f1,g1,b1,e1,a1=>if 0≤a1∧a1<(b1.length:Int) then (if (b1.getD a1.toNat false)=true then (if (f1.length+1) * 24≤140737488355328 then (Ck.l1 K k d1 c1 (f1++[e1]) b1 (w64 (g1+1))) else none) else (if (e1.length+1) * 8≤140737488355328 then ((Jd.f K d1 c1 a1).bind fun t194=>(Ck.l4 K k d1 c1 f1 g1 (b1.set a1.toNat true) (e1++[a1]) t194)) else none)) else none
end
def Ck.f (K:Nat) (a1:List Ah) (b1:Int):Option (List (List Int)):=if 0≤w64 (4 * (a1.length:Int)) then (if (w64 (4 * (a1.length:Int))).toNat * 1≤281474976710656 then (Ck.l1 K K a1 b1 ([]:List (List Int)) (List.replicate (w64 (4 * (a1.length:Int))).toNat false) 0) else none) else none
abbrev Ck.post (w0:World) (L:List Cn) (r1:List (List Int)) (en:Ending) (w:World):Prop:=∃ (A_r0:Option Addr) (c_r1:Nat) (y_r2:Nat→(Ty.slice 2 (Bi .i64)).Lay),en=.returned (.slice A_r0 r1.length c_r1)∧St w0 w (Own (Ty.slice 2 (Bi .i64)) 32 A_r0 c_r1 y_r2 r1::L)
mutual
def Cj.l1 (K:Nat):Nat→(List Ah)→Int→(List Int)→Int→Option (List Int)
  | 0,_,_,_,_=>none
  | k+1,a1,d1,c1,b1=>if b1<(a1.length:Int) then (if (c1.length+1) * 8≤140737488355328 then (Cj.l1 K k a1 d1 (c1++[b1]) (w64 (b1+1))) else none) else (Cj.l10 K k a1 d1 c1 0)
def Cj.l10 (K:Nat):Nat→(List Ah)→Int→(List Int)→Int→Option (List Int)
  | 0,_,_,_,_=>none
  | k+1,b1,d1,a1,c1=>if c1<w64 (2 * (b1.length:Int)) then (Ed (Cm.f K b1 d1 c1 true) (fun t269 t270=>(Ed (Cm.f K b1 d1 c1 false) (fun t274 t275=>(if 0≤t269∧t269<(a1.length:Int) then (if 0≤t274∧t274<(a1.length:Int) then (Cj.l13 K k b1 d1 a1 c1 t269 t274 a1 0) else none) else none))))) else (some a1)
def Cj.l13 (K:Nat):Nat→(List Ah)→Int→(List Int)→Int→Int→Int→(List Int)→Int→Option (List Int)
  | 0,_,_,_,_,_,_,_,_=>none
  | k+1,f1,e1,a1,d1,t269,t274,c1,b1=>if b1<(c1.length:Int) then (if 0≤b1∧b1<(c1.length:Int) then (if c1.getD b1.toNat 0=(if a1.getD t274.toNat 0 > a1.getD t269.toNat 0 then a1.getD t274.toNat 0 else a1.getD t269.toNat 0) then (Cj.l13 K k f1 e1 a1 d1 t269 t274 (c1.set b1.toNat (if a1.getD t274.toNat 0<a1.getD t269.toNat 0 then a1.getD t274.toNat 0 else a1.getD t269.toNat 0)) (w64 (b1+1))) else (Cj.l13 K k f1 e1 a1 d1 t269 t274 c1 (w64 (b1+1)))) else none) else (Cj.l10 K k f1 e1 c1 (w64 (d1+1)))
end
def Cj.f (K:Nat) (b1:List Ah) (a1:Int):Option (List Int):=Cj.l1 K K b1 a1 ([]:List Int) 0
abbrev Cj.post (w0:World) (L:List Cn) (r1:List Int) (en:Ending) (w:World):Prop:=∃ (A_r0:Option Addr) (c_r1:Nat),en=.returned (.slice A_r0 r1.length c_r1)∧St w0 w (Own (Bi .i64) 2 A_r0 c_r1 (fun _=>()) r1::L)
def De.l1 (K:Nat):Nat→(List Int)→Int→Int→Option (Int)
  | 0,_,_,_=>none
  | k+1,t3,b1,a1=>if a1<(t3.length:Int) then (if 0≤a1∧a1<(t3.length:Int) then (if t3.getD a1.toNat 0=a1 then (De.l1 K k t3 (w64 (b1+1)) (w64 (a1+1))) else (De.l1 K k t3 b1 (w64 (a1+1)))) else none) else (some b1)
def De.f (K:Nat) (b1:List Ah) (a1:Int):Option (Int):=(Cj.f K b1 a1).bind fun t3=>(De.l1 K K t3 0 0)
abbrev De.post:=I4
def Jf.f (K:Nat) (a1:List Ah) (b1:Int):Option (Bool):=if 10<(a1.length:Int) then (some false) else ((Ef.f b1 0 8).bind fun t14=>(if t14=true then ((Bg.f K a1 b1).bind fun t19=>(if t19=true then ((Ck.f K a1 b1).bind fun t24=>((De.f K a1 b1).bind fun t31=>(some (decide ((t24.length:Int)=w64 ((a1.length:Int)+(w64 (2 * t31)))))))) else (some false))) else (some false)))
abbrev Jf.post:=Ga
def Ku.f (n_:Int) (strands:Int):Option (Bool):=if n_=0 then (some false) else ((Ef.f n_ (w64 (1 - strands)) (w64 (strands - 1))).bind fun t2=>(some t2))
abbrev Ku.post:=Ga
def D6.l1 (K:Nat):Nat→Int→(List Int)→Int→Option (Bool)
  | 0,_,_,_=>none
  | k+1,c1,b1,a1=>if a1<(b1.length:Int) then (if 0≤a1∧a1<(b1.length:Int) then ((Ku.f (b1.getD a1.toNat 0) c1).bind fun t31=>(if t31=true then (D6.l1 K k c1 b1 (w64 (a1+1))) else (some false))) else none) else (some true)
def D6.f (K:Nat) (a1:Int) (b1:List Int):Option (Bool):=(Ef.f a1 1 6).bind fun t8=>(if t8=true then (if 24<(b1.length:Int) then (some false) else (D6.l1 K K a1 b1 0)) else (some false))
abbrev D6.post:=Ga
def L6.f (name:Int):Option (Bool):=(Ef.f name 0 4).bind fun t1=>(some t1)
abbrev L6.post:=Ga
def Ff.j1 (K:Nat):Nat→Int→Bool→Option (Int)
  | 0,_,_=>none
  | k+1,kind,x2=>if x2=true then (some 3) else (if kind=2 then (some 5) else (if kind=3 then (some 0) else (some (-1))))
def Ff.f (K:Nat) (kind:Int):Option (Int):=if kind=1 then (Ff.j1 K K kind (decide (kind=1))) else (Ff.j1 K K kind (decide (kind=4)))
abbrev Ff.post:=I4
def Mh.f:Option (List ByteArray):=some ([(⟨#[50,51]⟩:ByteArray),(⟨#[51,50]⟩:ByteArray),(⟨#[49,52]⟩:ByteArray),(⟨#[52,49]⟩:ByteArray)]:List ByteArray)
abbrev Mh.post (w0:World) (L:List Cn) (r1:List ByteArray) (en:Ending) (w:World):Prop:=∃ (A_r0:Option Addr) (c_r1:Nat),en=.returned (.slice A_r0 r1.length c_r1)∧St w0 w (Own Sn 9 A_r0 c_r1 (fun _=>()) r1::L)
def Km.f (n_:Int):Option (ByteArray):=some (strOfNums ([IntKind.wrap .u8 (w64 (48+n_))]:List Int))
abbrev Km.post (w0:World) (L:List Cn) (r1:ByteArray) (en:Ending) (w:World):Prop:=en=.returned (.string r1)∧St w0 w (L)
def Kl.f (K:Nat) (a1:Int) (b1:Int) (c1:Int):Option (ByteArray):=(Ff.f K a1).bind fun t21=>(if t21<0 then (some ByteArray.empty) else ((J9.f b1 0 7).bind fun t26=>(if t26=true then ((Ff.f K a1).bind fun t31=>((J9.f c1 0 t31).bind fun t35=>(if t35=true then ((Mh.f).bind fun t40=>(if 0≤w64 (a1 - 1)∧w64 (a1 - 1)<(t40.length:Int) then (if (t40.getD ((w64 (a1 - 1)).toNat) ByteArray.empty).size+(⟨#[32]⟩:ByteArray).size≤9223372036854775807 then ((Km.f b1).bind fun t48=>(if (t40.getD ((w64 (a1 - 1)).toNat) ByteArray.empty++(⟨#[32]⟩:ByteArray)).size+t48.size≤9223372036854775807 then (if ((t40.getD ((w64 (a1 - 1)).toNat) ByteArray.empty++(⟨#[32]⟩:ByteArray))++t48).size+(⟨#[32]⟩:ByteArray).size≤9223372036854775807 then ((Km.f c1).bind fun t54=>(if (((t40.getD ((w64 (a1 - 1)).toNat) ByteArray.empty++(⟨#[32]⟩:ByteArray))++t48)++(⟨#[32]⟩:ByteArray)).size+t54.size≤9223372036854775807 then (some ((((t40.getD ((w64 (a1 - 1)).toNat) ByteArray.empty++(⟨#[32]⟩:ByteArray))++t48)++(⟨#[32]⟩:ByteArray))++t54)) else none)) else none) else none)) else none) else none)) else (some ByteArray.empty)))) else (some ByteArray.empty))))
abbrev Kl.post (w0:World) (L:List Cn) (r1:ByteArray) (en:Ending) (w:World):Prop:=en=.returned (.string r1)∧St w0 w (L)
mutual
def Bq.l1 (K:Nat):Nat→Int→(List Cc)→(List Int)→(List Int)→Int→Option (Bool)
  | 0,_,_,_,_,_=>none
  | k+1,d1,b1,e1,c1,a1=>if a1<(b1.length:Int) then (if 0≤a1∧a1<(b1.length:Int) then (bnd (b1.getD a1.toNat Io) (fun e135=>(Kl.f K e135.Kind e135.Tet e135.Index).bind fun t137=>(if (seq t137 ByteArray.empty)=true then (some false) else (Bq.l1 K k d1 b1 e1 c1 (w64 (a1+1)))))) else none) else (Bq.l4 K k d1 b1 e1 c1 0)
def Bq.l4 (K:Nat):Nat→Int→(List Cc)→(List Int)→(List Int)→Int→Option (Bool)
  | 0,_,_,_,_,_=>none
  | k+1,d1,e1,b1,c1,a1=>if a1<(b1.length:Int) then (if 0≤a1∧a1<(b1.length:Int) then ((Ef.f (b1.getD a1.toNat 0) 0 7).bind fun t173=>(if t173=true then (if 0≤a1∧a1<(c1.length:Int) then ((I9.f (c1.getD a1.toNat 0)).bind fun t179=>(if t179=true then (Bq.l4 K k d1 e1 b1 c1 (w64 (a1+1))) else (some false))) else none) else (some false))) else none) else (if d1=0 then (some true) else (some (decide (w64 ((e1.length:Int)+(b1.length:Int))=0))))
end
def Bq.f (K:Nat) (e1:Int) (c1:Int) (d1:List Cc) (a1:List Int) (b1:List Int):Option (Bool):=(L6.f e1).bind fun t15=>(if t15=true then ((Ef.f c1 0 4).bind fun t20=>(if t20=true then (if 40<(d1.length:Int) then (some false) else (if (a1.length:Int)=(b1.length:Int) then (if 8<(a1.length:Int) then (some false) else (Bq.l1 K K c1 d1 a1 b1 0)) else (some false))) else (some false))) else (some false))
abbrev Bq.post:=Ga
def Co.l1 (K:Nat):Nat→ByteArray→Int→(List (List Br))→(List Ah)→Int→Int→(List Int)→Int→Int→(List Cc)→(List Int)→(List Int)→Int→Option (Bool)
  | 0,_,_,_,_,_,_,_,_,_,_,_,_,_=>none
  | k+1,o1,a1,n1,d1,c1,e1,k1,f1,g1,h1,m1,i1,b1=>if b1≤4 then (if b1=a1 then (Co.l1 K k o1 a1 n1 d1 c1 e1 k1 f1 g1 h1 m1 i1 (w64 (b1+1))) else ((Mg.f o1 a1 n1 d1 c1 e1 k1 f1 g1 h1 m1 i1 b1).bind fun t57=>(if t57=true then (Co.l1 K k o1 a1 n1 d1 c1 e1 k1 f1 g1 h1 m1 i1 (w64 (b1+1))) else (some false)))) else (if a1=1 then ((Aq.f K n1).bind fun t63=>(some t63)) else (if a1=2 then ((Jf.f K d1 c1).bind fun t68=>(some t68)) else (if a1=3 then ((D6.f K e1 k1).bind fun t73=>(some t73)) else ((Bq.f K f1 g1 h1 m1 i1).bind fun t77=>(some t77)))))
def Co.f (K:Nat) (a1:ByteArray) (b1:Int) (n1:List (List Br)) (d1:List Ah) (c1:Int) (e1:Int) (k1:List Int) (f1:Int) (g1:Int) (h1:List Cc) (m1:List Int) (i1:List Int):Option (Bool):=(Fw.f K a1).bind fun t12=>(if t12=true then ((Ef.f b1 1 4).bind fun t17=>(if t17=true then (Co.l1 K K a1 b1 n1 d1 c1 e1 k1 f1 g1 h1 m1 i1 1) else (some false))) else (some false))
abbrev Co.post:=Ga
def Es.l1 (K:Nat):Nat→(List Af)→Int→Option (Bool)
  | 0,_,_=>none
  | k+1,list,a1=>if a1<(list.length:Int) then (if 0≤a1∧a1<(list.length:Int) then (bnd (list.getD a1.toNat Bj) (fun e27=>(Co.f K e27.Name e27.Kind e27.Ad e27.Ae e27.Al e27.Ao e27.Ay e27.Am e27.Aj e27.Ag e27.Ak e27.Ai).bind fun t29=>(if t29=true then (if 0<a1 then (if 0≤w64 (a1 - 1)∧w64 (a1 - 1)<(list.length:Int) then (bnd (list.getD ((w64 (a1 - 1)).toNat) Bj) (fun e36=>if (slt e36.Name e27.Name)=true then (Es.l1 K k list (w64 (a1+1))) else (some false))) else none) else (Es.l1 K k list (w64 (a1+1)))) else (some false)))) else none) else (some (decide ((list.length:Int)≤10)))
def Es.f (K:Nat) (list:List Af):Option (Bool):=Es.l1 K K list 0
abbrev Es.post:=Ga
def D5.l1 (K:Nat):Nat→(List (List Af))→Int→Option (Bool)
  | 0,_,_=>none
  | k+1,list,i_8=>if i_8<(list.length:Int) then (if 0≤i_8∧i_8<(list.length:Int) then ((Es.f K (list.getD i_8.toNat [])).bind fun t18=>(if t18=true then (D5.l1 K k list (w64 (i_8+1))) else (some false))) else none) else (some (decide ((list.length:Int)≤6)))
def D5.f (K:Nat) (list:List (List Af)):Option (Bool):=D5.l1 K K list 0
abbrev D5.post:=Ga
def Et.f (K:Nat) (c1:List Af) (b1:List (List Af)) (a1:List (List Af)):Option (Bool):=(Es.f K c1).bind fun t3=>(if t3=true then ((D5.f K b1).bind fun t8=>(if t8=true then ((D5.f K a1).bind fun t13=>(some t13)) else (some false))) else (some false))
abbrev Et.post:=Ga
def Jj.f (h1:ByteArray) (i1:Int) (n1:List (List Br)) (b1:List Ah) (a1:Int) (c1:Int) (k1:List Int) (d1:Int) (e1:Int) (f1:List Cc) (m1:List Int) (g1:List Int):Option (Bool):=if (seq h1 ByteArray.empty)=true then (if i1=0 then ((H5.f n1).bind fun t5=>(if t5=true then ((F7.f b1 a1).bind fun t10=>(if t10=true then ((Ho.f c1 k1).bind fun t15=>(if t15=true then ((Fg.f d1 e1 f1 m1 g1).bind fun t20=>(some t20)) else (some false))) else (some false))) else (some false))) else (some false)) else (some false)
abbrev Jj.post:=Ga
def Dx.j1 (K:Nat):Nat→ByteArray→ByteArray→Int→(List (List Br))→(List Ah)→Int→Int→(List Int)→Int→Int→(List Cc)→(List Int)→(List Int)→Bool→Option (Bool)
  | 0,_,_,_,_,_,_,_,_,_,_,_,_,_,_=>none
  | k+1,e1,b1,a1,n1,g1,i1,k1,d1,h1,c1,f1,m1,o1,x20=>if x20=true then (if (seq e1 ByteArray.empty)=true then ((Jj.f b1 a1 n1 g1 i1 k1 d1 h1 c1 f1 m1 o1).bind fun t23=>(some t23)) else (some false)) else (some false)
def Dx.f (K:Nat) (a1:Int) (f1:ByteArray) (c1:ByteArray) (b1:Int) (o1:List (List Br)) (h1:List Ah) (k1:Int) (m1:Int) (e1:List Int) (i1:Int) (d1:Int) (g1:List Cc) (n1:List Int) (p1:List Int):Option (Bool):=if a1=1 then (if (seq f1 ByteArray.empty)=true then ((Co.f K c1 b1 o1 h1 k1 m1 e1 i1 d1 g1 n1 p1).bind fun t5=>(some t5)) else (some false)) else (if a1=2 then ((Fw.f K f1).bind fun t10=>(if t10=true then ((Jj.f c1 b1 o1 h1 k1 m1 e1 i1 d1 g1 n1 p1).bind fun t15=>(some t15)) else (some false))) else (if a1=3 then (Dx.j1 K K f1 c1 b1 o1 h1 k1 m1 e1 i1 d1 g1 n1 p1 (decide (a1=3))) else (Dx.j1 K K f1 c1 b1 o1 h1 k1 m1 e1 i1 d1 g1 n1 p1 (decide (a1=4)))))
abbrev Dx.post:=Ga
def Eh.l1 (K:Nat):Nat→(List Af)→ByteArray→Int→Option (Int)
  | 0,_,_,_=>none
  | k+1,list,name,i_6=>if i_6<(list.length:Int) then (if 0≤i_6∧i_6<(list.length:Int) then (bnd (list.getD i_6.toNat Bj) (fun e14=>if (seq e14.Name name)=true then (some i_6) else (Eh.l1 K k list name (w64 (i_6+1))))) else none) else (some (-1))
def Eh.f (K:Nat) (list:List Af) (name:ByteArray):Option (Int):=Eh.l1 K K list name 0
abbrev Eh.post:=I4
def Ie.l1 (K:Nat):Nat→(List (List Br))→(List (List Br))→Int→Option (List (List Br))
  | 0,_,_,_=>none
  | k+1,b1,c1,a1=>if a1<(b1.length:Int) then (if 0≤a1∧a1<(b1.length:Int) then (if (([]:List Br).length+(b1.getD a1.toNat []).length) * 16≤140737488355328 then (if (c1.length+1) * 24≤140737488355328 then (Ie.l1 K k b1 (c1++[(([]:List Br)++(b1.getD a1.toNat []))]) (w64 (a1+1))) else none) else none) else none) else (some c1)
def Ie.f (K:Nat) (a1:List (List Br)):Option (List (List Br)):=Ie.l1 K K a1 ([]:List (List Br)) 0
abbrev Ie.post (w0:World) (L:List Cn) (r1:List (List Br)) (en:Ending) (w:World):Prop:=∃ (A_r0:Option Addr) (c_r1:Nat) (y_r2:Nat→(Ty.slice 168 Az).Lay),en=.returned (.agg [.slice A_r0 r1.length c_r1].toArray)∧St w0 w (Own (Ty.slice 168 Az) 161 A_r0 c_r1 y_r2 r1::L)
def Nf.f (b1:Int) (a1:List Int):Option (Int × (List Int)):=if (([]:List Int).length+a1.length) * 8≤140737488355328 then (some (b1,(([]:List Int)++a1))) else none
abbrev Nf.post (w0:World) (L:List Cn) (r1:Int) (r2:List Int) (en:Ending) (w:World):Prop:=∃ (A_r0:Option Addr) (c_r1:Nat),en=.returned (.agg [.int .i64 r1,.slice A_r0 r2.length c_r1].toArray)∧St w0 w (Own (Bi .i64) 2 A_r0 c_r1 (fun _=>()) r2::L)
def Ee.f (K:Nat) (i1:ByteArray) (k1:Int) (n1:List (List Br)) (a1:List Ah) (e1:Int) (f1:Int) (m1:List Int) (g1:Int) (h1:Int) (b1:List Cc) (d1:List Int) (c1:List Int):Option (ByteArray × Int × (List (List Br)) × (List Ah) × Int × Int × (List Int) × Int × Int × (List Cc) × (List Int) × (List Int)):=if (([]:List Cc).length+b1.length) * 24≤140737488355328 then (if (([]:List Int).length+d1.length) * 8≤140737488355328 then (if (([]:List Int).length+c1.length) * 8≤140737488355328 then (if (([]:List Ah).length+a1.length) * 40≤140737488355328 then ((Ie.f K n1).bind fun t38=>(Ed (Nf.f f1 m1) (fun t45 t46=>(some (i1,k1,t38,(([]:List Ah)++a1),e1,t45,t46,g1,h1,(([]:List Cc)++b1),(([]:List Int)++d1),(([]:List Int)++c1)))))) else none) else none) else none) else none
abbrev Ee.post (w0:World) (L:List Cn) (r1:ByteArray) (r2:Int) (r3:List (List Br)) (r4:List Ah) (r5 r6:Int) (r7:List Int) (r8 r9:Int) (r10:List Cc) (r11 r12:List Int) (en:Ending) (w:World):Prop:=∃ (A_r0:Option Addr) (c_r1:Nat) (y_r2:Nat→(Ty.slice 168 Az).Lay) (A_r3:Option Addr) (c_r4:Nat) (A_r5:Option Addr) (c_r6:Nat) (A_r7:Option Addr) (c_r8:Nat) (A_r9:Option Addr) (c_r10:Nat) (A_r11:Option Addr) (c_r12:Nat),en=.returned (.agg [.string r1,.int .i64 r2,.slice A_r0 r3.length c_r1,.slice A_r3 r4.length c_r4,.int .i64 r5,.int .i64 r6,.slice A_r5 r7.length c_r6,.int .i64 r8,.int .i64 r9,.slice A_r7 r10.length c_r8,.slice A_r9 r11.length c_r10,.slice A_r11 r12.length c_r12].toArray)∧St w0 w (Own (Ty.slice 168 Az) 161 A_r0 c_r1 y_r2 r3::Own Au 163 A_r3 c_r4 (fun _=>()) r4::Own (Bi .i64) 2 A_r5 c_r6 (fun _=>()) r7::Own Ci 153 A_r7 c_r8 (fun _=>()) r10::Own (Bi .i64) 2 A_r9 c_r10 (fun _=>()) r11::Own (Bi .i64) 2 A_r11 c_r12 (fun _=>()) r12::L)
def Fa.l1 (K:Nat):Nat→(List Af)→(List Af)→Int→Option (List Af)
  | 0,_,_,_=>none
  | k+1,list,b1,a1=>if a1<(list.length:Int) then (if 0≤a1∧a1<(list.length:Int) then (bnd (list.getD a1.toNat Bj) (fun e88=>Jm (Ee.f K e88.Name e88.Kind e88.Ad e88.Ae e88.Al e88.Ao e88.Ay e88.Am e88.Aj e88.Ag e88.Ak e88.Ai) (fun t90 t91 t92 t93 t94 t95 t96 t97 t98 t99 t100 t101=>(if (b1.length+1) * 200≤140737488355328 then (Fa.l1 K k list (b1++[(⟨t90,t91,t92,t93,t94,t95,t96,t97,t98,t99,t100,t101⟩:Af)]) (w64 (a1+1))) else none)))) else none) else (some b1)
def Fa.f (K:Nat) (list:List Af):Option (List Af):=Fa.l1 K K list ([]:List Af) 0
abbrev Fa.post (w0:World) (L:List Cn) (r1:List Af) (en:Ending) (w:World):Prop:=∃ (A_r0:Option Addr) (c_r1:Nat) (y_r2:Nat→Aa.Lay),en=.returned (.slice A_r0 r1.length c_r1)∧St w0 w (Own Aa 62 A_r0 c_r1 y_r2 r1::L)
def Df.l1 (K:Nat):Nat→(List (List Af))→(List (List Af))→Int→Option (List (List Af))
  | 0,_,_,_=>none
  | k+1,list,b1,a1=>if a1<(list.length:Int) then (if 0≤a1∧a1<(list.length:Int) then ((Fa.f K (list.getD a1.toNat [])).bind fun t42=>(if (b1.length+1) * 24≤140737488355328 then (Df.l1 K k list (b1++[t42]) (w64 (a1+1))) else none)) else none) else (some b1)
def Df.f (K:Nat) (list:List (List Af)):Option (List (List Af)):=Df.l1 K K list ([]:List (List Af)) 0
abbrev Df.post (w0:World) (L:List Cn) (r1:List (List Af)) (en:Ending) (w:World):Prop:=∃ (A_r0:Option Addr) (c_r1:Nat) (y_r2:Nat→(Ty.slice 62 Aa).Lay),en=.returned (.slice A_r0 r1.length c_r1)∧St w0 w (Own (Ty.slice 62 Aa) 44 A_r0 c_r1 y_r2 r1::L)
def Iz.f (K:Nat) (stack:List (List Af)) (list:List Af):Option (List (List Af)):=(Df.f K stack).bind fun t1=>((Fa.f K list).bind fun t8=>(if (t1.length+1) * 24≤140737488355328 then (if 6<((t1++[t8]).length:Int) then (if 0≤(1:Int)∧(1:Int)≤((t1++[t8]).length:Int) then (some (((t1++[t8]).take ((t1++[t8]).length)).drop 1)) else none) else (some (t1++[t8]))) else none))
abbrev Iz.post (w0:World) (L:List Cn) (r1:List (List Af)) (en:Ending) (w:World):Prop:=∃ (A_r0:Option Addr) (c_r1:Nat) (y_r2:Nat→(Ty.slice 62 Aa).Lay),en=.returned (.slice A_r0 r1.length c_r1)∧St w0 w (Own (Ty.slice 62 Aa) 44 A_r0 c_r1 y_r2 r1::L)
mutual
def Bf.j1 (K:Nat):Nat→(List Af)→(List (List Af))→ByteArray→Int→(List (List Br))→(List Ah)→Int→Int→(List Int)→Int→Int→(List Cc)→(List Int)→(List Int)→Bool→Option ((List Af) × (List (List Af)) × (List (List Af)) × Int)
  | 0,_,_,_,_,_,_,_,_,_,_,_,_,_,_,_=>none
  | k+1,p1,i1,h1,o1,n1,a1,b1,c1,k1,d1,e1,f1,m1,g1,x36=>if x36=true then (some (([]:List Af),([]:List (List Af)),([]:List (List Af)),3)) else (Bf.l2 K k p1 i1 h1 o1 n1 a1 b1 c1 k1 d1 e1 f1 m1 g1 ([]:List Af) false 0)
def Bf.l2 (K:Nat):Nat→(List Af)→(List (List Af))→ByteArray→Int→(List (List Br))→(List Ah)→Int→Int→(List Int)→Int→Int→(List Cc)→(List Int)→(List Int)→(List Af)→Bool→Int→Option ((List Af) × (List (List Af)) × (List (List Af)) × Int)
  | 0,_,_,_,_,_,_,_,_,_,_,_,_,_,_,_,_,_=>none
  | k+1,a1,f1,e1,s1,r1,g1,h1,i1,p1,k1,m1,n1,q1,o1,c1,d1,b1=>if b1<(a1.length:Int) then (if d1=true then (Bf.j7 K k a1 f1 e1 s1 r1 g1 h1 i1 p1 k1 m1 n1 q1 o1 c1 d1 b1 false) else (if 0≤b1∧b1<(a1.length:Int) then (bnd (a1.getD b1.toNat Bj) (fun e552=>Bf.j7 K k a1 f1 e1 s1 r1 g1 h1 i1 p1 k1 m1 n1 q1 o1 c1 d1 b1 (!(slt e552.Name e1)))) else none)) else (if d1=true then (Bf.j9 K k a1 f1 c1) else (Jm (Ee.f K e1 s1 r1 g1 h1 i1 p1 k1 m1 n1 q1 o1) (fun t603 t604 t605 t606 t607 t608 t609 t610 t611 t612 t613 t614=>(if (c1.length+1) * 200≤140737488355328 then (Bf.j9 K k a1 f1 (c1++[(⟨t603,t604,t605,t606,t607,t608,t609,t610,t611,t612,t613,t614⟩:Af)])) else none))))
def Bf.j7 (K:Nat):Nat→(List Af)→(List (List Af))→ByteArray→Int→(List (List Br))→(List Ah)→Int→Int→(List Int)→Int→Int→(List Cc)→(List Int)→(List Int)→(List Af)→Bool→Int→Bool→Option ((List Af) × (List (List Af)) × (List (List Af)) × Int)
  | 0,_,_,_,_,_,_,_,_,_,_,_,_,_,_,_,_,_,_=>none
  | k+1,r1,q1,h1,o1,n1,a1,b1,c1,i1,d1,e1,f1,m1,g1,k1,s1,p1,x433=>if x433=true then (Jm (Ee.f K h1 o1 n1 a1 b1 c1 i1 d1 e1 f1 m1 g1) (fun t515 t516 t517 t518 t519 t520 t521 t522 t523 t524 t525 t526=>(if (k1.length+1) * 200≤140737488355328 then (Bf.j8 K k r1 q1 h1 o1 n1 a1 b1 c1 i1 d1 e1 f1 m1 g1 p1 (k1++[(⟨t515,t516,t517,t518,t519,t520,t521,t522,t523,t524,t525,t526⟩:Af)]) true) else none))) else (Bf.j8 K k r1 q1 h1 o1 n1 a1 b1 c1 i1 d1 e1 f1 m1 g1 p1 k1 s1)
def Bf.j8 (K:Nat):Nat→(List Af)→(List (List Af))→ByteArray→Int→(List (List Br))→(List Ah)→Int→Int→(List Int)→Int→Int→(List Cc)→(List Int)→(List Int)→Int→(List Af)→Bool→Option ((List Af) × (List (List Af)) × (List (List Af)) × Int)
  | 0,_,_,_,_,_,_,_,_,_,_,_,_,_,_,_,_,_=>none
  | k+1,b1,o1,d1,s1,r1,e1,f1,g1,p1,h1,i1,k1,q1,m1,a1,c1,n1=>if 0≤a1∧a1<(b1.length:Int) then (bnd (b1.getD a1.toNat Bj) (fun e476=>if (seq e476.Name d1)=true then (Bf.l2 K k b1 o1 d1 s1 r1 e1 f1 g1 p1 h1 i1 k1 q1 m1 c1 n1 (w64 (a1+1))) else (Jm (Ee.f K e476.Name e476.Kind e476.Ad e476.Ae e476.Al e476.Ao e476.Ay e476.Am e476.Aj e476.Ag e476.Ak e476.Ai) (fun t479 t480 t481 t482 t483 t484 t485 t486 t487 t488 t489 t490=>(if (c1.length+1) * 200≤140737488355328 then (Bf.l2 K k b1 o1 d1 s1 r1 e1 f1 g1 p1 h1 i1 k1 q1 m1 (c1++[(⟨t479,t480,t481,t482,t483,t484,t485,t486,t487,t488,t489,t490⟩:Af)]) n1 (w64 (a1+1))) else none))))) else none
def Bf.j9 (K:Nat):Nat→(List Af)→(List (List Af))→(List Af)→Option ((List Af) × (List (List Af)) × (List (List Af)) × Int)
  | 0,_,_,_=>none
  | k+1,c1,b1,a1=>(Iz.f K b1 c1).bind fun t594=>(some (a1,t594,([]:List (List Af)),0))
end
def Bf.f (K:Nat) (a1:List Af) (k1:List (List Af)) (q1:List (List Af)) (b1:ByteArray) (p1:Int) (o1:List (List Br)) (c1:List Ah) (d1:Int) (e1:Int) (m1:List Int) (f1:Int) (g1:Int) (h1:List Cc) (n1:List Int) (i1:List Int):Option ((List Af) × (List (List Af)) × (List (List Af)) × Int):=(Et.f K a1 k1 q1).bind fun t16=>(if t16=true then ((Co.f K b1 p1 o1 c1 d1 e1 m1 f1 g1 h1 n1 i1).bind fun t21=>(if t21=true then ((Eh.f K a1 b1).bind fun t638=>(if t638<0 then (Bf.j1 K K a1 k1 b1 p1 o1 c1 d1 e1 m1 f1 g1 h1 n1 i1 (decide ((a1.length:Int)=10))) else (Bf.j1 K K a1 k1 b1 p1 o1 c1 d1 e1 m1 f1 g1 h1 n1 i1 false))) else (some (([]:List Af),([]:List (List Af)),([]:List (List Af)),1)))) else (some (([]:List Af),([]:List (List Af)),([]:List (List Af)),1)))
abbrev Bf.post (w0:World) (L:List Cn) (r1:List Af) (r2:List (List Af)) (r3:List (List Af)) (r4:Int) (en:Ending) (w:World):Prop:=∃ (A_r0:Option Addr) (c_r1:Nat) (y_r2:Nat→Aa.Lay) (A_r3:Option Addr) (c_r4:Nat) (y_r5:Nat→(Ty.slice 62 Aa).Lay) (A_r6:Option Addr) (c_r7:Nat) (y_r8:Nat→(Ty.slice 62 Aa).Lay),en=.returned (.tuple #[.agg [.slice A_r0 r1.length c_r1,.slice A_r3 r2.length c_r4,.slice A_r6 r3.length c_r7].toArray,.int .i64 r4])∧St w0 w (Own Aa 62 A_r0 c_r1 y_r2 r1::Own (Ty.slice 62 Aa) 44 A_r3 c_r4 y_r5 r2::Own (Ty.slice 62 Aa) 44 A_r6 c_r7 y_r8 r3::L)
def Lc.f (K:Nat) (a1:List Af) (b1:List (List Af)) (c1:List (List Af)) (name:ByteArray):Option ((List Af) × (List (List Af)) × (List (List Af)) × Int):=(Et.f K a1 b1 c1).bind fun t5=>(if t5=true then ((Eh.f K a1 name).bind fun t10=>(if t10<0 then (some (([]:List Af),([]:List (List Af)),([]:List (List Af)),4)) else ((Fa.f K a1).bind fun t16=>(if 0≤t10∧t10≤(t16.length:Int) then (if 0≤w64 (t10+1)∧w64 (t10+1)≤(t16.length:Int) then (if t10.toNat≤(w64 (t10+1)).toNat then ((Iz.f K b1 a1).bind fun t28=>((Ii Bj t16 ((over (allRows t16.length) t10.toNat ((allRows t16.length).drop ((w64 (t10+1)).toNat))).take (t10.toNat+((allRows t16.length).length - (w64 (t10+1)).toNat)))).bind fun r36=>(some (r36,t28,([]:List (List Af)),0)))) else none) else none) else none)))) else (some (([]:List Af),([]:List (List Af)),([]:List (List Af)),1)))
abbrev Lc.post (w0:World) (L:List Cn) (r1:List Af) (r2:List (List Af)) (r3:List (List Af)) (r4:Int) (en:Ending) (w:World):Prop:=∃ (A_r0:Option Addr) (c_r1:Nat) (y_r2:Nat→Aa.Lay) (A_r3:Option Addr) (c_r4:Nat) (y_r5:Nat→(Ty.slice 62 Aa).Lay) (A_r6:Option Addr) (c_r7:Nat) (y_r8:Nat→(Ty.slice 62 Aa).Lay),en=.returned (.tuple #[.agg [.slice A_r0 r1.length c_r1,.slice A_r3 r2.length c_r4,.slice A_r6 r3.length c_r7].toArray,.int .i64 r4])∧St w0 w (Own Aa 62 A_r0 c_r1 y_r2 r1::Own (Ty.slice 62 Aa) 44 A_r3 c_r4 y_r5 r2::Own (Ty.slice 62 Aa) 44 A_r6 c_r7 y_r8 r3::L)
def Kr.f (K:Nat) (c1:List Af) (a1:List (List Af)) (b1:List (List Af)):Option ((List Af) × (List (List Af)) × (List (List Af)) × Int):=(Et.f K c1 a1 b1).bind fun t5=>(if t5=true then (if (a1.length:Int)=0 then (some (([]:List Af),([]:List (List Af)),([]:List (List Af)),5)) else (if 0≤w64 ((a1.length:Int) - 1)∧w64 ((a1.length:Int) - 1)<(a1.length:Int) then ((Fa.f K (a1.getD ((w64 ((a1.length:Int) - 1)).toNat) [])).bind fun t13=>(if 0≤w64 ((a1.length:Int) - 1)∧w64 ((a1.length:Int) - 1)≤(a1.length:Int) then ((Df.f K ((a1.take ((w64 ((a1.length:Int) - 1)).toNat)).drop 0)).bind fun t21=>((Iz.f K b1 c1).bind fun t28=>(some (t13,t21,t28,0)))) else none)) else none)) else (some (([]:List Af),([]:List (List Af)),([]:List (List Af)),1)))
abbrev Kr.post (w0:World) (L:List Cn) (r1:List Af) (r2:List (List Af)) (r3:List (List Af)) (r4:Int) (en:Ending) (w:World):Prop:=∃ (A_r0:Option Addr) (c_r1:Nat) (y_r2:Nat→Aa.Lay) (A_r3:Option Addr) (c_r4:Nat) (y_r5:Nat→(Ty.slice 62 Aa).Lay) (A_r6:Option Addr) (c_r7:Nat) (y_r8:Nat→(Ty.slice 62 Aa).Lay),en=.returned (.tuple #[.agg [.slice A_r0 r1.length c_r1,.slice A_r3 r2.length c_r4,.slice A_r6 r3.length c_r7].toArray,.int .i64 r4])∧St w0 w (Own Aa 62 A_r0 c_r1 y_r2 r1::Own (Ty.slice 62 Aa) 44 A_r3 c_r4 y_r5 r2::Own (Ty.slice 62 Aa) 44 A_r6 c_r7 y_r8 r3::L)
def Ko.f (K:Nat) (c1:List Af) (b1:List (List Af)) (a1:List (List Af)):Option ((List Af) × (List (List Af)) × (List (List Af)) × Int):=(Et.f K c1 b1 a1).bind fun t5=>(if t5=true then (if (a1.length:Int)=0 then (some (([]:List Af),([]:List (List Af)),([]:List (List Af)),5)) else (if 0≤w64 ((a1.length:Int) - 1)∧w64 ((a1.length:Int) - 1)<(a1.length:Int) then ((Fa.f K (a1.getD ((w64 ((a1.length:Int) - 1)).toNat) [])).bind fun t13=>((Iz.f K b1 c1).bind fun t20=>(if 0≤w64 ((a1.length:Int) - 1)∧w64 ((a1.length:Int) - 1)≤(a1.length:Int) then ((Df.f K ((a1.take ((w64 ((a1.length:Int) - 1)).toNat)).drop 0)).bind fun t28=>(some (t13,t20,t28,0))) else none))) else none)) else (some (([]:List Af),([]:List (List Af)),([]:List (List Af)),1)))
abbrev Ko.post (w0:World) (L:List Cn) (r1:List Af) (r2:List (List Af)) (r3:List (List Af)) (r4:Int) (en:Ending) (w:World):Prop:=∃ (A_r0:Option Addr) (c_r1:Nat) (y_r2:Nat→Aa.Lay) (A_r3:Option Addr) (c_r4:Nat) (y_r5:Nat→(Ty.slice 62 Aa).Lay) (A_r6:Option Addr) (c_r7:Nat) (y_r8:Nat→(Ty.slice 62 Aa).Lay),en=.returned (.tuple #[.agg [.slice A_r0 r1.length c_r1,.slice A_r3 r2.length c_r4,.slice A_r6 r3.length c_r7].toArray,.int .i64 r4])∧St w0 w (Own Aa 62 A_r0 c_r1 y_r2 r1::Own (Ty.slice 62 Aa) 44 A_r3 c_r4 y_r5 r2::Own (Ty.slice 62 Aa) 44 A_r6 c_r7 y_r8 r3::L)
def Jn.f (K:Nat) (c1:List Af) (b1:List (List Af)) (a1:List (List Af)) (d1:Int) (m1:ByteArray) (f1:ByteArray) (e1:Int) (s1:List (List Br)) (o1:List Ah) (q1:Int) (r1:Int) (k1:List Int) (p1:Int) (g1:Int) (n1:List Cc) (h1:List Int) (i1:List Int):Option ((List Af) × (List (List Af)) × (List (List Af)) × Int):=(Et.f K c1 b1 a1).bind fun t16=>(if t16=true then ((Dx.f K d1 m1 f1 e1 s1 o1 q1 r1 k1 p1 g1 n1 h1 i1).bind fun t21=>(if t21=true then (if d1=1 then (Jv (Bf.f K c1 b1 a1 f1 e1 s1 o1 q1 r1 k1 p1 g1 n1 h1 i1) (fun t27 t28 t29 t30=>(some (t27,t28,t29,t30)))) else (if d1=2 then (Jv (Lc.f K c1 b1 a1 m1) (fun t45 t46 t47 t48=>(some (t45,t46,t47,t48)))) else (if d1=3 then (Jv (Kr.f K c1 b1 a1) (fun t63 t64 t65 t66=>(some (t63,t64,t65,t66)))) else (Jv (Ko.f K c1 b1 a1) (fun t80 t81 t82 t83=>(some (t80,t81,t82,t83))))))) else (some (([]:List Af),([]:List (List Af)),([]:List (List Af)),1)))) else (some (([]:List Af),([]:List (List Af)),([]:List (List Af)),1)))
abbrev Jn.post (w0:World) (L:List Cn) (r1:List Af) (r2:List (List Af)) (r3:List (List Af)) (r4:Int) (en:Ending) (w:World):Prop:=∃ (A_r0:Option Addr) (c_r1:Nat) (y_r2:Nat→Aa.Lay) (A_r3:Option Addr) (c_r4:Nat) (y_r5:Nat→(Ty.slice 62 Aa).Lay) (A_r6:Option Addr) (c_r7:Nat) (y_r8:Nat→(Ty.slice 62 Aa).Lay),en=.returned (.tuple #[.agg [.slice A_r0 r1.length c_r1,.slice A_r3 r2.length c_r4,.slice A_r6 r3.length c_r7].toArray,.int .i64 r4])∧St w0 w (Own Aa 62 A_r0 c_r1 y_r2 r1::Own (Ty.slice 62 Aa) 44 A_r3 c_r4 y_r5 r2::Own (Ty.slice 62 Aa) 44 A_r6 c_r7 y_r8 r3::L)
def Hg.f (c:Int):Option (Bool):=if c<97 then (some true) else (some (decide (122<c)))
abbrev Hg.post:=Ga
def Cb.l1 (K:Nat):Nat→ByteArray→Bool→Ix→Option (Int)
  | 0,_,_,_=>none
  | k+1,s,truth,at12=>if at12<s.size then ((Hg.f ((Utf8.decode s at12).1:Int)).bind fun t25=>(if (t25 == truth)=true then (some (at12:Int)) else (Cb.l1 K k s truth (at12+(Utf8.decode s at12).2)))) else (some (-1))
def Cb.f (K:Nat) (s:ByteArray) (truth:Bool):Option (Int):=Cb.l1 K K s truth 0
abbrev Cb.post:=I4
def Ei.f (K:Nat) (s:ByteArray):Option (Int):=(Cb.f K s true).bind fun t1=>(some t1)
abbrev Ei.post:=I4
def Dw.f (K:Nat) (s:ByteArray):Option (Bool):=(Ei.f K s).bind fun t1=>(some (decide (0≤t1)))
abbrev Dw.post:=Ga
def Hm.f (K:Nat) (s:ByteArray):Option (Bool):=if 1≤(s.size:Int) then (if (s.size:Int)≤8 then ((Dw.f K s).bind fun t3=>(some (!t3))) else (some false)) else (some false)
abbrev Hm.post:=Ga
def Cu.f (x:Int) (low:Int) (high:Int):Option (Bool):=if low≤x then (some (decide (x≤high))) else (some false)
abbrev Cu.post:=Ga
def Lh.f (m1:ByteArray) (n1:Int) (k1:List (List Br)) (b1:List Ah) (a1:Int) (c1:Int) (h1:List Int) (d1:Int) (e1:Int) (f1:List Cc) (i1:List Int) (g1:List Int):Option (Bool × Bool × Bool × Bool):=some (decide (0<(k1.length:Int)),((decide (0<(b1.length:Int))) || (!(decide (a1=0)))),((!(decide (c1=0))) || (decide (0<(h1.length:Int)))),(((((!(decide (d1=0))) || (!(decide (e1=0)))) || (decide (0<(f1.length:Int)))) || (decide (0<(i1.length:Int)))) || (decide (0<(g1.length:Int)))))
abbrev Lh.post (w0:World) (L:List Cn) (r1 r2:Bool) (r3 r4:Bool) (en:Ending) (w:World):Prop:=en=.returned (.agg [.bool r1,.bool r2,.bool r3,.bool r4].toArray)∧St w0 w (L)
def Gf.f (faces:List Br):Option (Bool):=some (!(decide ((faces.length:Int)=4)))
abbrev Gf.post:=Ga
def Aw.l1 (K:Nat):Nat→(List (List Br))→Int→Option (Int)
  | 0,_,_=>none
  | k+1,s,x8=>if x8<(s.length:Int) then (if 0≤x8∧x8<(s.length:Int) then ((Gf.f (s.getD x8.toNat [])).bind fun t18=>(if t18=true then (some x8) else (Aw.l1 K k s (w64 (x8+1))))) else none) else (some (-1))
def Aw.f (K:Nat) (s:List (List Br)):Option (Int):=Aw.l1 K K s 0
abbrev Aw.post:=I4
def Cg.f (K:Nat) (s:List (List Br)):Option (Bool):=(Aw.f K s).bind fun t1=>(some (decide (0≤t1)))
abbrev Cg.post:=Ga
def Gt.f (list:List (List Br)):Option (Int):=some (list.length:Int)
abbrev Gt.post:=I4
def E5.f (list:List (List Br)) (i:Int):Option (Bool):=(Gt.f list).bind fun t1=>((Cu.f i 0 (w64 (t1 - 1))).bind fun t5=>(some t5))
abbrev E5.post:=Ga
def Jy.f (p:Int):Option (Bool):=(Cu.f p 0 23).bind fun t1=>(some t1)
abbrev Jy.post:=Ga
def Dg.f (s:List Int) (i:Int) (j_:Int):Option (List Int):=if 0≤i∧i≤j_ then (if j_≤(s.length:Int) then (if i=j_ then (some s) else (if 0≤i∧i≤(s.length:Int) then (if 0≤j_∧j_≤(s.length:Int) then (if i.toNat≤j_.toNat then (if 0≤((((over s i.toNat (s.drop j_.toNat)).take (i.toNat+(s.length - j_.toNat))).drop 0).length:Int)∧((((over s i.toNat (s.drop j_.toNat)).take (i.toNat+(s.length - j_.toNat))).drop 0).length:Int)≤(s.length:Int) then (if 0≤(s.length:Int)∧(s.length:Int)≤((over s i.toNat (s.drop j_.toNat)).length:Int) then (if (i.toNat+(s.length - j_.toNat))≤(over (over s i.toNat (s.drop j_.toNat)) (((((over s i.toNat (s.drop j_.toNat)).take (i.toNat+(s.length - j_.toNat))).drop 0).length:Int).toNat) (List.replicate (((over s i.toNat (s.drop j_.toNat)).take ((s.length:Int).toNat)).drop (((((over s i.toNat (s.drop j_.toNat)).take (i.toNat+(s.length - j_.toNat))).drop 0).length:Int).toNat)).length 0)).length then (some (((over (over s i.toNat (s.drop j_.toNat)) (((((over s i.toNat (s.drop j_.toNat)).take (i.toNat+(s.length - j_.toNat))).drop 0).length:Int).toNat) (List.replicate (((over s i.toNat (s.drop j_.toNat)).take ((s.length:Int).toNat)).drop (((((over s i.toNat (s.drop j_.toNat)).take (i.toNat+(s.length - j_.toNat))).drop 0).length:Int).toNat)).length 0)).take (i.toNat+(s.length - j_.toNat))).drop 0)) else none) else none) else none) else none) else none) else none)) else none) else none
abbrev Dg.post (w0:World) (L:List Cn) (r1:List Int) (en:Ending) (w:World):Prop:=∃ (A_r0:Option Addr) (c_r1:Nat),en=.returned (.slice A_r0 r1.length c_r1)∧St w0 w (Own (Bi .i64) 2 A_r0 c_r1 (fun _=>()) r1::L)
def Js.l1 (K:Nat):Nat→Int→Int→(List Int)→Int→Int→Int→Int→Option (Int × Int × Int × Int)
  | 0,_,_,_,_,_,_,_=>none
  | k+1,a1,c1,b1,x24,d1,f1,e1=>if x24<4 then (if 0≤x24∧x24<(([6,2,1,1]:List Int).length:Int) then (if ([6,2,1,1]:List Int).getD x24.toNat 0=0 then none else (if 0≤w64 (a1.tdiv (([6,2,1,1]:List Int).getD x24.toNat 0))∧w64 (a1.tdiv (([6,2,1,1]:List Int).getD x24.toNat 0))<(b1.length:Int) then (if x24=0 then ((Dg.f b1 (w64 (a1.tdiv (([6,2,1,1]:List Int).getD x24.toNat 0))) (w64 ((w64 (a1.tdiv (([6,2,1,1]:List Int).getD x24.toNat 0)))+1))).bind fun t108=>(Js.l1 K k (a1.tmod (([6,2,1,1]:List Int).getD x24.toNat 0)) (b1.getD ((w64 (a1.tdiv (([6,2,1,1]:List Int).getD x24.toNat 0))).toNat) 0) t108 (w64 (x24+1)) d1 f1 e1)) else (if x24=1 then ((Dg.f b1 (w64 (a1.tdiv (([6,2,1,1]:List Int).getD x24.toNat 0))) (w64 ((w64 (a1.tdiv (([6,2,1,1]:List Int).getD x24.toNat 0)))+1))).bind fun t116=>(Js.l1 K k (a1.tmod (([6,2,1,1]:List Int).getD x24.toNat 0)) c1 t116 (w64 (x24+1)) (b1.getD ((w64 (a1.tdiv (([6,2,1,1]:List Int).getD x24.toNat 0))).toNat) 0) f1 e1)) else (if x24=2 then ((Dg.f b1 (w64 (a1.tdiv (([6,2,1,1]:List Int).getD x24.toNat 0))) (w64 ((w64 (a1.tdiv (([6,2,1,1]:List Int).getD x24.toNat 0)))+1))).bind fun t124=>(Js.l1 K k (a1.tmod (([6,2,1,1]:List Int).getD x24.toNat 0)) c1 t124 (w64 (x24+1)) d1 (b1.getD ((w64 (a1.tdiv (([6,2,1,1]:List Int).getD x24.toNat 0))).toNat) 0) e1)) else (if x24=3 then ((Dg.f b1 (w64 (a1.tdiv (([6,2,1,1]:List Int).getD x24.toNat 0))) (w64 ((w64 (a1.tdiv (([6,2,1,1]:List Int).getD x24.toNat 0)))+1))).bind fun t132=>(Js.l1 K k (a1.tmod (([6,2,1,1]:List Int).getD x24.toNat 0)) c1 t132 (w64 (x24+1)) d1 f1 (b1.getD ((w64 (a1.tdiv (([6,2,1,1]:List Int).getD x24.toNat 0))).toNat) 0))) else (none))))) else none)) else none) else (some (c1,d1,f1,e1))
def Js.f (K:Nat) (p:Int):Option (Int × Int × Int × Int):=Js.l1 K K p 0 ([0,1,2,3]:List Int) 0 0 0 0
abbrev Js.post (w0:World) (L:List Cn) (r1 r2:Int) (r3 r4:Int) (en:Ending) (w:World):Prop:=en=.returned (.agg [.int .i64 r1,.int .i64 r2,.int .i64 r3,.int .i64 r4].toArray)∧St w0 w (L)
def I7.f (K:Nat) (b1:Int) (a1:Int) (face:Int):Option (Int):=Jv (Js.f K a1) (fun t3 t4 t5 t6=>(if 0≤face∧face<4 then (some (([t3,t4,t5,t6]:List Int).getD face.toNat 0)) else none))
abbrev I7.post:=I4
mutual
def F3.l1 (K:Nat):Nat→Int→Int→Int→Int→Int→Int→Option (Int)
  | 0,_,_,_,_,_,_=>none
  | k+1,b1,a1,c1,e1,d1,x19=>if x19<4 then (if 0≤x19∧x19<(([6,2,1,1]:List Int).length:Int) then (if 0≤x19∧x19<4 then (if 0≤x19∧x19≤4 then (F3.l4 K k b1 a1 c1 e1 d1 x19 (([b1,a1,c1,e1]:List Int).getD x19.toNat 0) 0) else none) else none) else none) else (some d1)
def F3.l4 (K:Nat):Nat→Int→Int→Int→Int→Int→Int→Int→Int→Option (Int)
  | 0,_,_,_,_,_,_,_,_=>none
  | k+1,b1,a1,c1,d1,e1,x19,f1,x43=>if x43<((([b1,a1,c1,d1]:List Int).take x19.toNat).length:Int) then (if 0≤x43∧x43<((([b1,a1,c1,d1]:List Int).take x19.toNat).length:Int) then (if (([b1,a1,c1,d1]:List Int).take x19.toNat).getD x43.toNat 0<([b1,a1,c1,d1]:List Int).getD x19.toNat 0 then (F3.l4 K k b1 a1 c1 d1 e1 x19 (w64 (f1 - 1)) (w64 (x43+1))) else (F3.l4 K k b1 a1 c1 d1 e1 x19 f1 (w64 (x43+1)))) else none) else (F3.l1 K k b1 a1 c1 d1 (w64 (e1+(w64 (f1 * (([6,2,1,1]:List Int).getD x19.toNat 0))))) (w64 (x19+1)))
end
def F3.f (K:Nat) (d1:Int) (b1:Int) (a1:Int) (c1:Int):Option (Int):=F3.l1 K K d1 b1 a1 c1 0 0
abbrev F3.post:=I4
def Ib.l1 (K:Nat):Nat→Int→Int→Int→Int→Int→Int→Int→Int→Int→Option (Int)
  | 0,_,_,_,_,_,_,_,_,_=>none
  | k+1,t3,t4,t5,t6,x18,a1,d1,c1,b1=>if x18<4 then (if 0≤x18∧x18<4 then (if ([t3,t4,t5,t6]:List Int).getD x18.toNat 0=0 then (Ib.l1 K k t3 t4 t5 t6 (w64 (x18+1)) x18 d1 c1 b1) else (if ([t3,t4,t5,t6]:List Int).getD x18.toNat 0=1 then (Ib.l1 K k t3 t4 t5 t6 (w64 (x18+1)) a1 x18 c1 b1) else (if ([t3,t4,t5,t6]:List Int).getD x18.toNat 0=2 then (Ib.l1 K k t3 t4 t5 t6 (w64 (x18+1)) a1 d1 x18 b1) else (if ([t3,t4,t5,t6]:List Int).getD x18.toNat 0=3 then (Ib.l1 K k t3 t4 t5 t6 (w64 (x18+1)) a1 d1 c1 x18) else (none))))) else none) else ((F3.f K a1 d1 c1 b1).bind fun t61=>(some t61))
def Ib.f (K:Nat) (p:Int):Option (Int):=Jv (Js.f K p) (fun t3 t4 t5 t6=>(Ib.l1 K K t3 t4 t5 t6 0 0 0 0 0))
abbrev Ib.post:=I4
def Hy.f (K:Nat) (b1:Int) (a1:Int) (tet:Int):Option (Int × Int):=(Ib.f K a1).bind fun t5=>(some (tet,t5))
abbrev Hy.post (w0:World) (L:List Cn) (r1 r2:Int) (en:Ending) (w:World):Prop:=en=.returned (.agg [.int .i64 r1,.int .i64 r2].toArray)∧St w0 w (L)
def Eb.f (K:Nat) (a1:List (List Br)) (tet:Int) (f:Int):Option (Bool):=if 0≤tet∧tet<(a1.length:Int) then (if 0≤f∧f<((a1.getD tet.toNat []).length:Int) then (bnd ((a1.getD tet.toNat []).getD f.toNat Md) (fun e5=>if e5.Tet=(-1) then (some (decide (e5.Perm=0))) else ((E5.f a1 e5.Tet).bind fun t20=>(if t20=true then ((Jy.f e5.Perm).bind fun t25=>(if t25=true then ((I7.f K e5.Tet e5.Perm f).bind fun t30=>(if 0≤e5.Tet∧e5.Tet<(a1.length:Int) then (if 0≤t30∧t30<((a1.getD e5.Tet.toNat []).length:Int) then (bnd ((a1.getD e5.Tet.toNat []).getD t30.toNat Md) (fun e36=>Ed (Hy.f K e5.Tet e5.Perm tet) (fun t38 t39=>(if (e36.Tet,e36.Perm)=(t38,t39) then (if e5.Tet=tet then (some (!(decide (t30=f)))) else (some true)) else (some false))))) else none) else none)) else (some false))) else (some false))))) else none) else none
abbrev Eb.post:=Ga
mutual
def Bv.l1 (K:Nat):Nat→(List (List Br))→Int→Int→Option (Bool)
  | 0,_,_,_=>none
  | k+1,a1,t14,x37=>if x37<t14 then (Bv.l4 K k a1 t14 x37 0) else (some true)
def Bv.l4 (K:Nat):Nat→(List (List Br))→Int→Int→Int→Option (Bool)
  | 0,_,_,_,_=>none
  | k+1,a1,t14,x37,x63=>if x63<4 then ((Eb.f K a1 x37 x63).bind fun t71=>(if t71=true then (Bv.l4 K k a1 t14 x37 (w64 (x63+1))) else (some false))) else (Bv.l1 K k a1 t14 (w64 (x37+1)))
end
def Bv.f (K:Nat) (a1:List (List Br)):Option (Bool):=if 8<(a1.length:Int) then (some false) else ((Cg.f K a1).bind fun t9=>(if t9=true then (some false) else ((Gt.f a1).bind fun t14=>(Bv.l1 K K a1 t14 0))))
abbrev Bv.post:=Ga
def Fe.f (list:List Ah):Option (Int):=some (list.length:Int)
abbrev Fe.post:=I4
def Gg.f (c_A:Int) (c_B:Int) (c_C:Int) (c_D:Int) (a1:Int):Option (Bool):=if a1=1 then (some false) else (some (!(decide (a1=(-1)))))
abbrev Gg.post:=Ga
def Bd.l1 (K:Nat):Nat→(List Ah)→Int→Option (Int)
  | 0,_,_=>none
  | k+1,s,x10=>if x10<(s.length:Int) then (if 0≤x10∧x10<(s.length:Int) then (bnd (s.getD x10.toNat Ar) (fun e22=>(Gg.f e22.A e22.B e22.C e22.D e22.Sign).bind fun t24=>(if t24=true then (some x10) else (Bd.l1 K k s (w64 (x10+1)))))) else none) else (some (-1))
def Bd.f (K:Nat) (s:List Ah):Option (Int):=Bd.l1 K K s 0
abbrev Bd.post:=I4
def Ch.f (K:Nat) (s:List Ah):Option (Bool):=(Bd.f K s).bind fun t1=>(some (decide (0≤t1)))
abbrev Ch.post:=Ga
def Lx.f (x:Int) (y:Int):Option (Int × Int):=some (IntKind.wrap .u64 ((IntKind.wrap .u64 ((IntKind.wrap .u64 ((x / 2 ^ 32) * (y / 2 ^ 32)))+((IntKind.wrap .u64 ((IntKind.wrap .u64 ((x / 2 ^ 32) * (Go.bits .and .u64 y 4294967295)))+((IntKind.wrap .u64 ((Go.bits .and .u64 x 4294967295) * (Go.bits .and .u64 y 4294967295))) / 2 ^ 32))) / 2 ^ 32)))+((IntKind.wrap .u64 ((Go.bits .and .u64 (IntKind.wrap .u64 ((IntKind.wrap .u64 ((x / 2 ^ 32) * (Go.bits .and .u64 y 4294967295)))+((IntKind.wrap .u64 ((Go.bits .and .u64 x 4294967295) * (Go.bits .and .u64 y 4294967295))) / 2 ^ 32))) 4294967295)+(IntKind.wrap .u64 ((Go.bits .and .u64 x 4294967295) * (y / 2 ^ 32))))) / 2 ^ 32)),IntKind.wrap .u64 (x * y))
abbrev Lx.post (w0:World) (L:List Cn) (r1 r2:Int) (en:Ending) (w:World):Prop:=en=.returned (.tuple #[.int .u64 r1,.int .u64 r2])∧St w0 w (L)
def Ld.f (x:Int) (y:Int):Option (Int × Int):=Ed (Lx.f x y) (fun t1 t2=>(some (t1,t2)))
abbrev Ld.post (w0:World) (L:List Cn) (r1 r2:Int) (en:Ending) (w:World):Prop:=en=.returned (.tuple #[.int .u64 r1,.int .u64 r2])∧St w0 w (L)
mutual
def Be.j2 (K:Nat):Nat→(List Gm)→Int→Bool→Option (List Gm)
  | 0,_,_,_=>none
  | k+1,x,t4,x10=>if x10=true then (none) else (if 0≤w64 (t4) then (if (w64 (t4)).toNat * 16≤281474976710656 then (Be.l4 K k (over (List.replicate (w64 (t4)).toNat Ka) 0 (x.take ((List.replicate (w64 (t4)).toNat Ka).length))) (((x).take ((List.replicate (w64 (t4)).toNat Ka).length)).length:Int)) else none) else none)
def Be.l4 (K:Nat):Nat→(List Gm)→Int→Option (List Gm)
  | 0,_,_=>none
  | k+1,a1,b1=>if b1<(a1.length:Int) then (if 0≤b1∧b1≤(a1.length:Int) then (Be.l4 K k (over a1 b1.toNat (((a1.take b1.toNat).drop 0).take (((a1.take a1.length).drop b1.toNat).length))) (w64 (b1+(((((a1.take b1.toNat).drop 0)).take (((a1.take a1.length).drop b1.toNat).length)).length:Int)))) else none) else (some a1)
end
def Be.f (K:Nat) (x:List Gm) (count:Int):Option (List Gm):=if count<0 then (none) else (Ed (Ld.f (IntKind.wrap .u64 ((x.length:Int))) (IntKind.wrap .u64 (count))) (fun t3 t4=>(if 0<t3 then (Be.j2 K K x t4 true) else (Be.j2 K K x t4 (decide (9223372036854775807<t4))))))
abbrev Be.post (w0:World) (L:List Cn) (r1:List Gm) (en:Ending) (w:World):Prop:=∃ (A_r0:Option Addr) (c_r1:Nat),en=.returned (.slice A_r0 r1.length c_r1)∧St w0 w (Own Ht 233 A_r0 c_r1 (fun _=>()) r1::L)
def H6.f (c_A:Int) (c_B:Int) (c_C:Int) (c_D:Int) (a1:Int):Option (Int × Int × Int × Int):=some (c_A,c_B,c_C,c_D)
abbrev H6.post (w0:World) (L:List Cn) (r1 r2:Int) (r3 r4:Int) (en:Ending) (w:World):Prop:=en=.returned (.agg [.int .i64 r1,.int .i64 r2,.int .i64 r3,.int .i64 r4].toArray)∧St w0 w (L)
def Gi.f (c_A:Int) (c_B:Int) (c_C:Int) (c_D:Int) (a1:Int) (p:Int):Option (Bool):=if p=0 then (some true) else (some (decide (p=w64 (2+a1))))
abbrev Gi.post:=Ga
def Jg.f (list:List Gm):Option (Int):=some (list.length:Int)
abbrev Jg.post:=I4
def D9.f (list:List Gm) (i:Int):Option (Bool):=(Jg.f list).bind fun t1=>((Cu.f i 0 (w64 (t1 - 1))).bind fun t5=>(some t5))
abbrev D9.post:=Ga
mutual
def Bl.l1 (K:Nat):Nat→(List Ah)→(List Gm)→(List Gm)→Int→Option ((List Gm) × (List Gm) × Bool)
  | 0,_,_,_,_=>none
  | k+1,a1,c1,b1,x195=>if x195<(a1.length:Int) then (if 0≤x195∧x195<(a1.length:Int) then (bnd (a1.getD x195.toNat Ar) (fun e367=>Jv (H6.f e367.A e367.B e367.C e367.D e367.Sign) (fun t372 t373 t374 t375=>(Bl.l10 K k a1 x195 e367 t372 t373 t374 t375 c1 b1 0)))) else none) else (some (c1,b1,true))
def Bl.l10 (K:Nat):Nat→(List Ah)→Int→Ah→Int→Int→Int→Int→(List Gm)→(List Gm)→Int→Option ((List Gm) × (List Gm) × Bool)
  | 0,_,_,_,_,_,_,_,_,_,_=>none
  | k+1,c1,x195,e367,t372,t373,t374,t375,a1,b1,x430=>if x430<4 then (if 0≤x430∧x430<4 then ((Gi.f e367.A e367.B e367.C e367.D e367.Sign x430).bind fun t484=>(if t484=true then ((D9.f b1 (([t372,t373,t374,t375]:List Int).getD x430.toNat 0)).bind fun t501=>(if t501=true then (if 0≤([t372,t373,t374,t375]:List Int).getD x430.toNat 0∧([t372,t373,t374,t375]:List Int).getD x430.toNat 0<(b1.length:Int) then (bnd (b1.getD ((([t372,t373,t374,t375]:List Int).getD x430.toNat 0).toNat) Ka) (fun e507=>if 0≤e507.crossing then (some (a1,b1,false)) else (Bl.l10 K k c1 x195 e367 t372 t373 t374 t375 a1 (b1.set ((([t372,t373,t374,t375]:List Int).getD x430.toNat 0).toNat) (⟨x195,x430⟩:Gm)) (w64 (x430+1))))) else none) else (some (a1,b1,false)))) else ((D9.f a1 (([t372,t373,t374,t375]:List Int).getD x430.toNat 0)).bind fun t521=>(if t521=true then (if 0≤([t372,t373,t374,t375]:List Int).getD x430.toNat 0∧([t372,t373,t374,t375]:List Int).getD x430.toNat 0<(a1.length:Int) then (bnd (a1.getD ((([t372,t373,t374,t375]:List Int).getD x430.toNat 0).toNat) Ka) (fun e527=>if 0≤e527.crossing then (some (a1,b1,false)) else (Bl.l10 K k c1 x195 e367 t372 t373 t374 t375 (a1.set ((([t372,t373,t374,t375]:List Int).getD x430.toNat 0).toNat) (⟨x195,x430⟩:Gm)) b1 (w64 (x430+1))))) else none) else (some (a1,b1,false)))))) else none) else (Bl.l1 K k c1 a1 b1 (w64 (x195+1)))
end
def Bl.f (K:Nat) (a1:List Ah) (b1:Int):Option ((List Gm) × (List Gm) × Bool):=(Be.f K ([(⟨(-1),0⟩:Gm)]:List Gm) (w64 (2 * (a1.length:Int)))).bind fun t7=>((Be.f K ([(⟨(-1),0⟩:Gm)]:List Gm) (w64 (2 * (a1.length:Int)))).bind fun t15=>(Bl.l1 K K a1 t7 t15 0))
abbrev Bl.post (w0:World) (L:List Cn) (r1 r2:List Gm) (r3:Bool) (en:Ending) (w:World):Prop:=∃ (A_r0:Option Addr) (c_r1:Nat) (A_r2:Option Addr) (c_r3:Nat),en=.returned (.tuple #[.agg [.slice A_r0 r1.length c_r1,.slice A_r2 r2.length c_r3].toArray,.bool r3])∧St w0 w (Own Ht 233 A_r0 c_r1 (fun _=>()) r1::Own Ht 233 A_r2 c_r3 (fun _=>()) r2::L)
def I1.f (d1:List Ah) (f1:Int) (c1:List Gm) (e1:List Gm) (b1:Int) (a1:Int):Option (Int × Int):=if 0≤b1∧b1<(d1.length:Int) then (bnd (d1.getD b1.toNat Ar) (fun e10=>Jv (H6.f e10.A e10.B e10.C e10.D e10.Sign) (fun t15 t16 t17 t18=>(if 0≤a1∧a1<4 then ((Gi.f e10.A e10.B e10.C e10.D e10.Sign a1).bind fun t23=>(if t23=true then (if 0≤([t15,t16,t17,t18]:List Int).getD a1.toNat 0∧([t15,t16,t17,t18]:List Int).getD a1.toNat 0<(c1.length:Int) then (bnd (c1.getD ((([t15,t16,t17,t18]:List Int).getD a1.toNat 0).toNat) Ka) (fun e29=>some (e29.crossing,e29.position))) else none) else (if 0≤([t15,t16,t17,t18]:List Int).getD a1.toNat 0∧([t15,t16,t17,t18]:List Int).getD a1.toNat 0<(e1.length:Int) then (bnd (e1.getD ((([t15,t16,t17,t18]:List Int).getD a1.toNat 0).toNat) Ka) (fun e33=>some (e33.crossing,e33.position))) else none))) else none)))) else none
abbrev I1.post (w0:World) (L:List Cn) (r1 r2:Int) (en:Ending) (w:World):Prop:=en=.returned (.agg [.int .i64 r1,.int .i64 r2].toArray)∧St w0 w (L)
mutual
def Ca.l1 (K:Nat):Nat→(List Ah)→Int→(List Gm)→(List Gm)→(List (List Int))→(List Bool)→Int→Option (List (List Int))
  | 0,_,_,_,_,_,_,_=>none
  | k+1,a1,d1,c1,f1,b1,e1,x87=>if x87<((List.replicate (w64 (4 * (a1.length:Int))).toNat false).length:Int) then (Ca.l4 K k a1 d1 c1 f1 b1 x87 e1 ([]:List Int) x87) else (some b1)
def Ca.l4 (K:Nat):Nat→(List Ah)→Int→(List Gm)→(List Gm)→(List (List Int))→Int→(List Bool)→(List Int)→Int→Option (List (List Int))
  | 0,_,_,_,_,_,_,_,_,_=>none
  | k+1,e1,d1,c1,g1,h1,x87,b1,f1,a1=>if 0≤a1∧a1<(b1.length:Int) then (if (b1.getD a1.toNat false)=true then (if 0<(f1.length:Int) then (if (h1.length+1) * 24≤140737488355328 then (Ca.l1 K k e1 d1 c1 g1 (h1++[f1]) b1 (w64 (x87+1))) else none) else (Ca.l1 K k e1 d1 c1 g1 h1 b1 (w64 (x87+1)))) else (if (f1.length+1) * 8≤140737488355328 then (Ed (I1.f e1 d1 c1 g1 (w64 (a1.tdiv 4)) ((w64 (a1+1)).tmod 4)) (fun t226 t227=>(Ca.l4 K k e1 d1 c1 g1 h1 x87 (b1.set a1.toNat true) (f1++[a1]) (w64 ((w64 (4 * t226))+t227))))) else none)) else none
end
def Ca.f (K:Nat) (a1:List Ah) (c1:Int) (b1:List Gm) (d1:List Gm):Option (List (List Int)):=if 0≤w64 (4 * (a1.length:Int)) then (if (w64 (4 * (a1.length:Int))).toNat * 1≤281474976710656 then (Ca.l1 K K a1 c1 b1 d1 ([]:List (List Int)) (List.replicate (w64 (4 * (a1.length:Int))).toNat false) 0) else none) else none
abbrev Ca.post (w0:World) (L:List Cn) (r1:List (List Int)) (en:Ending) (w:World):Prop:=∃ (A_r0:Option Addr) (c_r1:Nat) (y_r2:Nat→(Ty.slice 2 (Bi .i64)).Lay),en=.returned (.slice A_r0 r1.length c_r1)∧St w0 w (Own (Ty.slice 2 (Bi .i64)) 32 A_r0 c_r1 y_r2 r1::L)
def L8.f (list:List (List Int)):Option (Int):=some (list.length:Int)
abbrev L8.post:=I4
def Gq.l1 (K:Nat):Nat→Int→(List Int)→Int→Option (List Int)
  | 0,_,_,_=>none
  | k+1,n_,a1,x11=>if x11<n_ then (if (a1.length+1) * 8≤140737488355328 then (Gq.l1 K k n_ (a1++[x11]) (w64 (x11+1))) else none) else (some a1)
def Gq.f (K:Nat) (n_:Int):Option (List Int):=Gq.l1 K K n_ ([]:List Int) 0
abbrev Gq.post (w0:World) (L:List Cn) (r1:List Int) (en:Ending) (w:World):Prop:=∃ (A_r0:Option Addr) (c_r1:Nat),en=.returned (.slice A_r0 r1.length c_r1)∧St w0 w (Own (Bi .i64) 2 A_r0 c_r1 (fun _=>()) r1::L)
def Ik.l1 (K:Nat):Nat→(List Int)→Int→Int→(List Int)→Int→Option (List Int)
  | 0,_,_,_,_,_=>none
  | k+1,sets,i,k_,x9,x10=>if x10<(sets.length:Int) then (if 0≤x10∧x10<(x9.length:Int) then (if x9.getD x10.toNat 0=sets.getD k_.toNat 0 then (Ik.l1 K k sets i k_ (x9.set x10.toNat (sets.getD i.toNat 0)) (w64 (x10+1))) else (Ik.l1 K k sets i k_ x9 (w64 (x10+1)))) else none) else (some x9)
def Ik.f (K:Nat) (sets:List Int) (i:Int) (k_:Int):Option (List Int):=if 0≤k_∧k_<(sets.length:Int) then (if 0≤i∧i<(sets.length:Int) then (Ik.l1 K K sets i k_ sets 0) else none) else none
abbrev Ik.post (w0:World) (L:List Cn) (A_a:Option Addr) (c_a:Nat) (r1:List Int) (en:Ending) (w:World):Prop:=en=.returned (.tuple #[])∧St w0 w (Own (Bi .i64) 2 A_a c_a (fun _=>()) r1::L)
mutual
def Cy.l1 (K:Nat):Nat→(List Int)→(List (Int × Int))→(List Int)→Int→Option (List Int)
  | 0,_,_,_,_=>none
  | k+1,roots,a1,b1,x20=>if x20<(roots.length:Int) then (if 0≤x20∧x20<(roots.length:Int) then (if ((Nw a1 (roots.getD x20.toNat 0)).isSome)=true then (Cy.j4 K k roots b1 x20 a1) else (Cy.j4 K k roots b1 x20 (O5 a1 (roots.getD x20.toNat 0) (a1.length:Int)))) else none) else (some b1)
def Cy.j4 (K:Nat):Nat→(List Int)→(List Int)→Int→(List (Int × Int))→Option (List Int)
  | 0,_,_,_,_=>none
  | k+1,roots,b1,x20,a1=>if (b1.length+1) * 8≤140737488355328 then (Cy.l1 K k roots a1 (b1++[(Nw a1 (roots.getD x20.toNat 0)).getD 0]) (w64 (x20+1))) else none
end
def Cy.f (K:Nat) (roots:List Int):Option (List Int):=Cy.l1 K K roots ([]:List (Int × Int)) ([]:List Int) 0
abbrev Cy.post (w0:World) (L:List Cn) (r1:List Int) (en:Ending) (w:World):Prop:=∃ (A_r0:Option Addr) (c_r1:Nat),en=.returned (.slice A_r0 r1.length c_r1)∧St w0 w (Own (Bi .i64) 2 A_r0 c_r1 (fun _=>()) r1::L)
def Cz.l1 (K:Nat):Nat→(List Gm)→(List Gm)→(List Int)→Int→Option (List Int)
  | 0,_,_,_,_=>none
  | k+1,a1,c1,b1,x37=>if x37<(a1.length:Int) then (if 0≤x37∧x37<(a1.length:Int) then (bnd (a1.getD x37.toNat Ka) (fun e61=>if 0≤x37∧x37<(c1.length:Int) then (bnd (c1.getD x37.toNat Ka) (fun e67=>(Ik.f K b1 e61.crossing e67.crossing).bind fun t69=>(if t69.length=b1.length then (Cz.l1 K k a1 c1 t69 (w64 (x37+1))) else none))) else none)) else none) else ((Cy.f K b1).bind fun t74=>(some t74))
def Cz.f (K:Nat) (b1:List Ah) (d1:Int) (a1:List Gm) (c1:List Gm):Option (List Int):=(Fe.f b1).bind fun t5=>((Gq.f K t5).bind fun t9=>(Cz.l1 K K a1 c1 t9 0))
abbrev Cz.post (w0:World) (L:List Cn) (r1:List Int) (en:Ending) (w:World):Prop:=∃ (A_r0:Option Addr) (c_r1:Nat),en=.returned (.slice A_r0 r1.length c_r1)∧St w0 w (Own (Bi .i64) 2 A_r0 c_r1 (fun _=>()) r1::L)
def Cq.l2 (K:Nat):Nat→(List Int)→Int→Int→Option (Int)
  | 0,_,_,_=>none
  | k+1,x,m_6,i_7=>if i_7<(x.length:Int) then (if 0≤i_7∧i_7<(x.length:Int) then (Cq.l2 K k x (if x.getD i_7.toNat 0 > m_6 then x.getD i_7.toNat 0 else m_6) (w64 (i_7+1))) else none) else (some m_6)
def Cq.f (K:Nat) (x:List Int):Option (Int):=if (x.length:Int)<1 then (none) else (if 0≤(0:Int)∧(0:Int)<(x.length:Int) then (Cq.l2 K K x (x.getD 0 0) 1) else none)
abbrev Cq.post:=I4
def Jk.f (K:Nat) (classes:List Int):Option (Int):=if (classes.length:Int)=0 then (some 0) else ((Cq.f K classes).bind fun t2=>(some (w64 (t2+1))))
abbrev Jk.post:=I4
def G7.f (K:Nat) (a1:List Ah) (b1:Int):Option ((List Gm) × (List Gm) × Bool):=(Fe.f a1).bind fun t5=>(if 10<t5 then (some (([]:List Gm),([]:List Gm),false)) else ((Cu.f b1 0 8).bind fun t21=>(if t21=true then ((Ch.f K a1).bind fun t26=>(if t26=true then (some (([]:List Gm),([]:List Gm),false)) else (M8 (Bl.f K a1 b1) (fun t32 t33 t34=>(if t34=true then ((Ca.f K a1 b1 t32 t33).bind fun t68=>((L8.f t68).bind fun t75=>((Cz.f K a1 b1 t32 t33).bind fun t79=>((Jk.f K t79).bind fun t85=>(if t75=w64 (t5+(w64 (2 * t85))) then (some (t32,t33,true)) else (some (([]:List Gm),([]:List Gm),false))))))) else (some (([]:List Gm),([]:List Gm),false))))))) else (some (([]:List Gm),([]:List Gm),false)))))
abbrev G7.post (w0:World) (L:List Cn) (r1 r2:List Gm) (r3:Bool) (en:Ending) (w:World):Prop:=∃ (A_r0:Option Addr) (c_r1:Nat) (A_r2:Option Addr) (c_r3:Nat),en=.returned (.tuple #[.agg [.slice A_r0 r1.length c_r1,.slice A_r2 r2.length c_r3].toArray,.bool r3])∧St w0 w (Own Ht 233 A_r0 c_r1 (fun _=>()) r1::Own Ht 233 A_r2 c_r3 (fun _=>()) r2::L)
def G8.f (K:Nat) (b1:List Ah) (a1:Int):Option (Bool):=M8 (G7.f K b1 a1) (fun t3 t4 t5=>(some t5))
abbrev G8.post:=Ga
def K6.f (strands:Int) (letter:Int):Option (Bool):=if letter=0 then (some false) else ((Cu.f letter (w64 (1 - strands)) (w64 (strands - 1))).bind fun t2=>(some t2))
abbrev K6.post:=Ga
def Ha.f (x:Int) (a1:Int) (b1:List Int):Option (Bool):=(K6.f a1 x).bind fun t1=>(some (!t1))
abbrev Ha.post (w0:World) (L:List Cn) (v0_Strands:Int) (v0_Word:List Int) (b_v0:Nat) (A_a:Option Addr) (c_a:Nat) (r1:Bool) (en:Ending) (w:World):Prop:=en=.returned (.bool r1)∧St w0 w (Box b_v0 57 [.int .i64 v0_Strands,.slice A_a v0_Word.length c_a]::L)
def Bo.l1 (K:Nat):Nat→(List Int)→Int→(List Int)→Int→Option (Int)
  | 0,_,_,_,_=>none
  | k+1,s,b1,a1,x8=>if x8<(s.length:Int) then (if 0≤x8∧x8<(s.length:Int) then ((Ha.f (s.getD x8.toNat 0) b1 a1).bind fun t18=>(if t18=true then (some x8) else (Bo.l1 K k s b1 a1 (w64 (x8+1))))) else none) else (some (-1))
def Bo.f (K:Nat) (s:List Int) (b1:Int) (a1:List Int):Option (Int):=Bo.l1 K K s b1 a1 0
abbrev Bo.post (w0:World) (L:List Cn) (cap_Strands:Int) (cap_Word:List Int) (b_cap:Nat) (A_b:Option Addr) (c_b:Nat) (r1:Int) (en:Ending) (w:World):Prop:=en=.returned (.int .i64 r1)∧St w0 w (Box b_cap 57 [.int .i64 cap_Strands,.slice A_b cap_Word.length c_b]::L)
def Cx.f (K:Nat) (s:List Int) (b1:Int) (a1:List Int):Option (Bool):=(Bo.f K s b1 a1).bind fun t1=>(some (decide (0≤t1)))
abbrev Cx.post (w0:World) (L:List Cn) (cap_Strands:Int) (cap_Word:List Int) (b_cap:Nat) (A_b:Option Addr) (c_b:Nat) (r1:Bool) (en:Ending) (w:World):Prop:=en=.returned (.bool r1)∧St w0 w (Box b_cap 57 [.int .i64 cap_Strands,.slice A_b cap_Word.length c_b]::L)
def Ih.f (K:Nat) (b1:Int) (a1:List Int):Option (Bool):=(Cu.f b1 1 6).bind fun t3=>(if t3=true then (if (a1.length:Int)≤24 then ((Cx.f K a1 b1 a1).bind fun t9=>(some (!t9))) else (some false)) else (some false))
abbrev Ih.post:=Ga
def Mt.f (name:Int):Option (Bool):=(Cu.f name 0 4).bind fun t1=>(some t1)
abbrev Mt.post:=Ga
def Gp.j1 (K:Nat):Nat→Int→Bool→Option (Int)
  | 0,_,_=>none
  | k+1,kind,x2=>if x2=true then (some 4) else (if kind=2 then (some 6) else (if kind=3 then (some 1) else (some 0)))
def Gp.f (K:Nat) (kind:Int):Option (Int):=if kind=1 then (Gp.j1 K K kind (decide (kind=1))) else (Gp.j1 K K kind (decide (kind=4)))
abbrev Gp.post:=I4
def internal_strconv_small.f (i:Int):Option (ByteArray):=if i<10 then (if 0≤i∧i≤w64 (i+1) then (if 0≤w64 (i+1)∧w64 (i+1)≤((⟨#[48,49,50,51,52,53,54,55,56,57,97,98,99,100,101,102,103,104,105,106,107,108,109,110,111,112,113,114,115,116,117,118,119,120,121,122]⟩:ByteArray).size:Int) then (some ((⟨#[48,49,50,51,52,53,54,55,56,57,97,98,99,100,101,102,103,104,105,106,107,108,109,110,111,112,113,114,115,116,117,118,119,120,121,122]⟩:ByteArray).extract i.toNat (w64 (i+1)).toNat)) else none) else none) else (if 0≤w64 (i * 2)∧w64 (i * 2)≤w64 ((w64 (i * 2))+2) then (if 0≤w64 ((w64 (i * 2))+2)∧w64 ((w64 (i * 2))+2)≤((⟨#[48,48,48,49,48,50,48,51,48,52,48,53,48,54,48,55,48,56,48,57,49,48,49,49,49,50,49,51,49,52,49,53,49,54,49,55,49,56,49,57,50,48,50,49,50,50,50,51,50,52,50,53,50,54,50,55,50,56,50,57,51,48,51,49,51,50,51,51,51,52,51,53,51,54,51,55,51,56,51,57,52,48,52,49,52,50,52,51,52,52,52,53,52,54,52,55,52,56,52,57,53,48,53,49,53,50,53,51,53,52,53,53,53,54,53,55,53,56,53,57,54,48,54,49,54,50,54,51,54,52,54,53,54,54,54,55,54,56,54,57,55,48,55,49,55,50,55,51,55,52,55,53,55,54,55,55,55,56,55,57,56,48,56,49,56,50,56,51,56,52,56,53,56,54,56,55,56,56,56,57,57,48,57,49,57,50,57,51,57,52,57,53,57,54,57,55,57,56,57,57]⟩:ByteArray).size:Int) then (some ((⟨#[48,48,48,49,48,50,48,51,48,52,48,53,48,54,48,55,48,56,48,57,49,48,49,49,49,50,49,51,49,52,49,53,49,54,49,55,49,56,49,57,50,48,50,49,50,50,50,51,50,52,50,53,50,54,50,55,50,56,50,57,51,48,51,49,51,50,51,51,51,52,51,53,51,54,51,55,51,56,51,57,52,48,52,49,52,50,52,51,52,52,52,53,52,54,52,55,52,56,52,57,53,48,53,49,53,50,53,51,53,52,53,53,53,54,53,55,53,56,53,57,54,48,54,49,54,50,54,51,54,52,54,53,54,54,54,55,54,56,54,57,55,48,55,49,55,50,55,51,55,52,55,53,55,54,55,55,55,56,55,57,56,48,56,49,56,50,56,51,56,52,56,53,56,54,56,55,56,56,56,57,57,48,57,49,57,50,57,51,57,52,57,53,57,54,57,55,57,56,57,57]⟩:ByteArray).extract (w64 (i * 2)).toNat (w64 ((w64 (i * 2))+2)).toNat)) else none) else none)
abbrev internal_strconv_small.post (w0:World) (L:List Cn) (r1:ByteArray) (en:Ending) (w:World):Prop:=en=.returned (.string r1)∧St w0 w (L)
mutual
def Cf.j1 (K:Nat):Nat→Int→Bool→Option (ByteArray)
  | 0,_,_=>none
  | k+1,i,x4=>if x4=true then ((internal_strconv_small.f i).bind fun t6=>(some t6)) else (if i<0 then (Cf.j2 K k (IntKind.wrap .u64 (0 - (IntKind.wrap .u64 (i))))) else (Cf.j2 K k (IntKind.wrap .u64 (i))))
def Cf.j2 (K:Nat):Nat→Int→Option (ByteArray)
  | 0,_=>none
  | k+1,a1=>none
end
def Cf.f (K:Nat) (i:Int) (base:Int):Option (ByteArray):=if base=10 then (if 0≤i then (Cf.j1 K K i (decide (i<100))) else (Cf.j1 K K i false)) else (none)
abbrev Cf.post (w0:World) (L:List Cn) (r1:ByteArray) (en:Ending) (w:World):Prop:=en=.returned (.string r1)∧St w0 w (L)
def Kq.f (K:Nat) (i:Int) (base:Int):Option (ByteArray):=(Cf.f K i base).bind fun t1=>(some t1)
abbrev Kq.post (w0:World) (L:List Cn) (r1:ByteArray) (en:Ending) (w:World):Prop:=en=.returned (.string r1)∧St w0 w (L)
def Kt.f (K:Nat) (n_:Int):Option (ByteArray):=(Kq.f K n_ 10).bind fun t1=>(some t1)
abbrev Kt.post (w0:World) (L:List Cn) (r1:ByteArray) (en:Ending) (w:World):Prop:=en=.returned (.string r1)∧St w0 w (L)
def Kk.f (K:Nat) (a1:Int) (b1:Int) (c1:Int):Option (ByteArray):=(Cu.f b1 0 7).bind fun t16=>(if t16=true then ((Gp.f K a1).bind fun t21=>((Cu.f c1 0 (w64 (t21 - 1))).bind fun t25=>(if t25=true then (if 0≤w64 ((w64 (2 * a1)) - 2)∧w64 ((w64 (2 * a1)) - 2)≤w64 (2 * a1) then (if 0≤w64 (2 * a1)∧w64 (2 * a1)≤((⟨#[50,51,51,50,49,52,52,49]⟩:ByteArray).size:Int) then (if ((⟨#[50,51,51,50,49,52,52,49]⟩:ByteArray).extract (w64 ((w64 (2 * a1)) - 2)).toNat (w64 (2 * a1)).toNat).size+(⟨#[32]⟩:ByteArray).size≤9223372036854775807 then ((Kt.f K b1).bind fun t33=>(if (((⟨#[50,51,51,50,49,52,52,49]⟩:ByteArray).extract (w64 ((w64 (2 * a1)) - 2)).toNat (w64 (2 * a1)).toNat)++(⟨#[32]⟩:ByteArray)).size+t33.size≤9223372036854775807 then (if ((((⟨#[50,51,51,50,49,52,52,49]⟩:ByteArray).extract (w64 ((w64 (2 * a1)) - 2)).toNat (w64 (2 * a1)).toNat)++(⟨#[32]⟩:ByteArray))++t33).size+(⟨#[32]⟩:ByteArray).size≤9223372036854775807 then ((Kt.f K c1).bind fun t39=>(if (((((⟨#[50,51,51,50,49,52,52,49]⟩:ByteArray).extract (w64 ((w64 (2 * a1)) - 2)).toNat (w64 (2 * a1)).toNat)++(⟨#[32]⟩:ByteArray))++t33)++(⟨#[32]⟩:ByteArray)).size+t39.size≤9223372036854775807 then (some ((((((⟨#[50,51,51,50,49,52,52,49]⟩:ByteArray).extract (w64 ((w64 (2 * a1)) - 2)).toNat (w64 (2 * a1)).toNat)++(⟨#[32]⟩:ByteArray))++t33)++(⟨#[32]⟩:ByteArray))++t39)) else none)) else none) else none)) else none) else none) else none) else (some ByteArray.empty)))) else (some ByteArray.empty))
abbrev Kk.post (w0:World) (L:List Cn) (r1:ByteArray) (en:Ending) (w:World):Prop:=en=.returned (.string r1)∧St w0 w (L)
def Jt.f (K:Nat) (b1:Int) (a1:Int) (c1:Int):Option (Bool):=(Kk.f K b1 a1 c1).bind fun t3=>(some (seq t3 ByteArray.empty))
abbrev Jt.post:=Ga
def Bc.l1 (K:Nat):Nat→(List Cc)→Int→Option (Int)
  | 0,_,_=>none
  | k+1,s,x10=>if x10<(s.length:Int) then (if 0≤x10∧x10<(s.length:Int) then (bnd (s.getD x10.toNat Io) (fun e22=>(Jt.f K e22.Kind e22.Tet e22.Index).bind fun t24=>(if t24=true then (some x10) else (Bc.l1 K k s (w64 (x10+1)))))) else none) else (some (-1))
def Bc.f (K:Nat) (s:List Cc):Option (Int):=Bc.l1 K K s 0
abbrev Bc.post:=I4
def Bz.f (K:Nat) (s:List Cc):Option (Bool):=(Bc.f K s).bind fun t1=>(some (decide (0≤t1)))
abbrev Bz.post:=Ga
def Jq.f (k_:Int):Option (Bool):=(Cu.f k_ 0 7).bind fun t1=>(some (!t1))
abbrev Jq.post:=Ga
def Bp.l1 (K:Nat):Nat→(List Int)→Int→Option (Int)
  | 0,_,_=>none
  | k+1,s,x8=>if x8<(s.length:Int) then (if 0≤x8∧x8<(s.length:Int) then ((Jq.f (s.getD x8.toNat 0)).bind fun t18=>(if t18=true then (some x8) else (Bp.l1 K k s (w64 (x8+1))))) else none) else (some (-1))
def Bp.f (K:Nat) (s:List Int):Option (Int):=Bp.l1 K K s 0
abbrev Bp.post:=I4
def Cs.f (K:Nat) (s:List Int):Option (Bool):=(Bp.f K s).bind fun t1=>(some (decide (0≤t1)))
abbrev Cs.post:=Ga
def Jo.f (p:Int):Option (Bool):=(Jy.f p).bind fun t1=>(some (!t1))
abbrev Jo.post:=Ga
def Bn.l1 (K:Nat):Nat→(List Int)→Int→Option (Int)
  | 0,_,_=>none
  | k+1,s,x8=>if x8<(s.length:Int) then (if 0≤x8∧x8<(s.length:Int) then ((Jo.f (s.getD x8.toNat 0)).bind fun t18=>(if t18=true then (some x8) else (Bn.l1 K k s (w64 (x8+1))))) else none) else (some (-1))
def Bn.f (K:Nat) (s:List Int):Option (Int):=Bn.l1 K K s 0
abbrev Bn.post:=I4
def Cw.f (K:Nat) (s:List Int):Option (Bool):=(Bn.f K s).bind fun t1=>(some (decide (0≤t1)))
abbrev Cw.post:=Ga
def Ig.f (K:Nat) (e1:Int) (d1:Int) (c1:List Cc) (a1:List Int) (b1:List Int):Option (Bool):=(Mt.f e1).bind fun t12=>(if t12=true then ((Cu.f d1 0 4).bind fun t17=>(if t17=true then (if d1=0 then (if (c1.length:Int)≤40 then ((Bz.f K c1).bind fun t24=>(if t24=true then (some false) else (if (a1.length:Int)=(b1.length:Int) then (if (a1.length:Int)≤8 then ((Cs.f K a1).bind fun t31=>(if t31=true then (some false) else ((Cw.f K b1).bind fun t36=>(some (!t36))))) else (some false)) else (some false)))) else (some false)) else (if (c1.length:Int)=0 then (if (a1.length:Int)=0 then (some (decide ((b1.length:Int)=0))) else (some false)) else (some false))) else (some false))) else (some false))
abbrev Ig.post:=Ga
def Ic.f (K:Nat) (n1:ByteArray) (a1:Int) (m1:List (List Br)) (c1:List Ah) (b1:Int) (d1:Int) (i1:List Int) (e1:Int) (f1:Int) (g1:List Cc) (k1:List Int) (h1:List Int):Option (Bool):=(Hm.f K n1).bind fun t12=>(if t12=true then ((Cu.f a1 1 4).bind fun t17=>(if t17=true then (Jv (Lh.f n1 a1 m1 c1 b1 d1 i1 e1 f1 g1 k1 h1) (fun t22 t23 t24 t25=>(if w64 (a1 - 1)=0 then (if (false,t23,t24,t25)=(false,false,false,false) then (if a1=1 then ((Bv.f K m1).bind fun t36=>(some t36)) else (if a1=2 then ((G8.f K c1 b1).bind fun t41=>(some t41)) else (if a1=3 then ((Ih.f K d1 i1).bind fun t46=>(some t46)) else ((Ig.f K e1 f1 g1 k1 h1).bind fun t50=>(some t50))))) else (some false)) else (if w64 (a1 - 1)=1 then (if (t22,false,t24,t25)=(false,false,false,false) then (if a1=1 then ((Bv.f K m1).bind fun t58=>(some t58)) else (if a1=2 then ((G8.f K c1 b1).bind fun t63=>(some t63)) else (if a1=3 then ((Ih.f K d1 i1).bind fun t68=>(some t68)) else ((Ig.f K e1 f1 g1 k1 h1).bind fun t72=>(some t72))))) else (some false)) else (if w64 (a1 - 1)=2 then (if (t22,t23,false,t25)=(false,false,false,false) then (if a1=1 then ((Bv.f K m1).bind fun t80=>(some t80)) else (if a1=2 then ((G8.f K c1 b1).bind fun t85=>(some t85)) else (if a1=3 then ((Ih.f K d1 i1).bind fun t90=>(some t90)) else ((Ig.f K e1 f1 g1 k1 h1).bind fun t94=>(some t94))))) else (some false)) else (if w64 (a1 - 1)=3 then (if (t22,t23,t24,false)=(false,false,false,false) then (if a1=1 then ((Bv.f K m1).bind fun t102=>(some t102)) else (if a1=2 then ((G8.f K c1 b1).bind fun t107=>(some t107)) else (if a1=3 then ((Ih.f K d1 i1).bind fun t112=>(some t112)) else ((Ig.f K e1 f1 g1 k1 h1).bind fun t116=>(some t116))))) else (some false)) else (none))))))) else (some false))) else (some false))
abbrev Ic.post:=Ga
def Ev.l1 (K:Nat):Nat→(List Af)→Int→Option (Bool)
  | 0,_,_=>none
  | k+1,items,x13=>if x13<(items.length:Int) then (if 0≤x13∧x13<(items.length:Int) then (bnd (items.getD x13.toNat Bj) (fun e33=>(Ic.f K e33.Name e33.Kind e33.Ad e33.Ae e33.Al e33.Ao e33.Ay e33.Am e33.Aj e33.Ag e33.Ak e33.Ai).bind fun t38=>(if t38=true then (if 0<x13 then (if 0≤w64 (x13 - 1)∧w64 (x13 - 1)<(items.length:Int) then (bnd (items.getD ((w64 (x13 - 1)).toNat) Bj) (fun e45=>if (slt e45.Name e33.Name)=true then (Ev.l1 K k items (w64 (x13+1))) else (some false))) else none) else (Ev.l1 K k items (w64 (x13+1)))) else (some false)))) else none) else (some (decide ((items.length:Int)≤10)))
def Ev.f (K:Nat) (items:List Af):Option (Bool):=Ev.l1 K K items 0
abbrev Ev.post:=Ga
def Kg.f (K:Nat) (items:List Af):Option (Bool):=(Ev.f K items).bind fun t1=>(some (!t1))
abbrev Kg.post:=Ga
def Bb.l1 (K:Nat):Nat→(List (List Af))→Int→Option (Int)
  | 0,_,_=>none
  | k+1,s,x8=>if x8<(s.length:Int) then (if 0≤x8∧x8<(s.length:Int) then ((Kg.f K (s.getD x8.toNat [])).bind fun t18=>(if t18=true then (some x8) else (Bb.l1 K k s (w64 (x8+1))))) else none) else (some (-1))
def Bb.f (K:Nat) (s:List (List Af)):Option (Int):=Bb.l1 K K s 0
abbrev Bb.post:=I4
def Bu.f (K:Nat) (s:List (List Af)):Option (Bool):=(Bb.f K s).bind fun t1=>(some (decide (0≤t1)))
abbrev Bu.post:=Ga
def Dk.l1 (K:Nat):Nat→(List Af)→(List (List Af))→(List (List Af))→Int→Option (Bool)
  | 0,_,_,_,_=>none
  | k+1,c1,b1,a1,x14=>if x14<3 then (if 0≤x14∧x14<(([([c1]:List (List Af)),b1,a1]:List (List (List Af))).length:Int) then (if 6<((([([c1]:List (List Af)),b1,a1]:List (List (List Af))).getD x14.toNat []).length:Int) then (some false) else ((Bu.f K (([([c1]:List (List Af)),b1,a1]:List (List (List Af))).getD x14.toNat [])).bind fun t26=>(if t26=true then (some false) else (Dk.l1 K k c1 b1 a1 (w64 (x14+1)))))) else none) else (some true)
def Dk.f (K:Nat) (c1:List Af) (b1:List (List Af)) (a1:List (List Af)):Option (Bool):=Dk.l1 K K c1 b1 a1 0
abbrev Dk.post:=Ga
def K3.f (a1:ByteArray) (b1:Int) (n1:List (List Br)) (d1:List Ah) (c1:Int) (e1:Int) (k1:List Int) (f1:Int) (g1:Int) (h1:List Cc) (m1:List Int) (i1:List Int):Option (Bool):=if (seq a1 ByteArray.empty)=true then (if b1=0 then (Jv (Lh.f a1 b1 n1 d1 c1 e1 k1 f1 g1 h1 m1 i1) (fun t5 t6 t7 t8=>(some (decide ((t5,t6,t7,t8)=(false,false,false,false)))))) else (some false)) else (some false)
abbrev K3.post:=Ga
def Ep.j1 (K:Nat):Nat→ByteArray→ByteArray→Int→(List (List Br))→(List Ah)→Int→Int→(List Int)→Int→Int→(List Cc)→(List Int)→(List Int)→Bool→Option (Bool)
  | 0,_,_,_,_,_,_,_,_,_,_,_,_,_,_=>none
  | k+1,e1,b1,a1,n1,g1,i1,k1,d1,h1,c1,f1,m1,o1,x20=>if x20=true then (if (seq e1 ByteArray.empty)=true then ((K3.f b1 a1 n1 g1 i1 k1 d1 h1 c1 f1 m1 o1).bind fun t23=>(some t23)) else (some false)) else (some false)
def Ep.f (K:Nat) (a1:Int) (f1:ByteArray) (c1:ByteArray) (b1:Int) (o1:List (List Br)) (h1:List Ah) (k1:Int) (m1:Int) (e1:List Int) (i1:Int) (d1:Int) (g1:List Cc) (n1:List Int) (p1:List Int):Option (Bool):=if a1=1 then ((Ic.f K c1 b1 o1 h1 k1 m1 e1 i1 d1 g1 n1 p1).bind fun t4=>(if t4=true then (some (seq f1 ByteArray.empty)) else (some false))) else (if a1=2 then ((Hm.f K f1).bind fun t10=>(if t10=true then ((K3.f c1 b1 o1 h1 k1 m1 e1 i1 d1 g1 n1 p1).bind fun t15=>(some t15)) else (some false))) else (if a1=3 then (Ep.j1 K K f1 c1 b1 o1 h1 k1 m1 e1 i1 d1 g1 n1 p1 (decide (a1=3))) else (Ep.j1 K K f1 c1 b1 o1 h1 k1 m1 e1 i1 d1 g1 n1 p1 (decide (a1=4)))))
abbrev Ep.post:=Ga
def F8.f (a_:ByteArray) (b_:ByteArray):Option (Int):=some (Rk a_ b_)
abbrev F8.post:=I4
def strings_Compare.f (a_:ByteArray) (b_:ByteArray):Option (Int):=(F8.f a_ b_).bind fun t1=>(some t1)
abbrev strings_Compare.post:=I4
def Jl.f (a1:ByteArray) (i1:Int) (n1:List (List Br)) (c1:List Ah) (b1:Int) (d1:Int) (k1:List Int) (e1:Int) (f1:Int) (g1:List Cc) (m1:List Int) (h1:List Int) (name:ByteArray):Option (Int):=(strings_Compare.f a1 name).bind fun t3=>(some t3)
abbrev Jl.post:=I4
def Ap.l1 (K:Nat):Nat→(List Af)→ByteArray→Int→Int→Option (Int × Bool)
  | 0,_,_,_,_=>none
  | k+1,x,target,a1,b1=>if a1<b1 then (if 0≤w64 ((IntKind.wrap .u64 (w64 (a1+b1))) / 2 ^ 1)∧w64 ((IntKind.wrap .u64 (w64 (a1+b1))) / 2 ^ 1)<(x.length:Int) then (bnd (x.getD ((w64 ((IntKind.wrap .u64 (w64 (a1+b1))) / 2 ^ 1)).toNat) Bj) (fun e31=>(Jl.f e31.Name e31.Kind e31.Ad e31.Ae e31.Al e31.Ao e31.Ay e31.Am e31.Aj e31.Ag e31.Ak e31.Ai target).bind fun t33=>(if t33<0 then (Ap.l1 K k x target (w64 ((w64 ((IntKind.wrap .u64 (w64 (a1+b1))) / 2 ^ 1))+1)) b1) else (Ap.l1 K k x target a1 (w64 ((IntKind.wrap .u64 (w64 (a1+b1))) / 2 ^ 1)))))) else none) else (if a1<(x.length:Int) then (if 0≤a1∧a1<(x.length:Int) then (bnd (x.getD a1.toNat Bj) (fun e40=>(Jl.f e40.Name e40.Kind e40.Ad e40.Ae e40.Al e40.Ao e40.Ay e40.Am e40.Aj e40.Ag e40.Ak e40.Ai target).bind fun t42=>(some (a1,decide (t42=0))))) else none) else (some (a1,false)))
def Ap.f (K:Nat) (x:List Af) (target:ByteArray):Option (Int × Bool):=Ap.l1 K K x target 0 (x.length:Int)
abbrev Ap.post (w0:World) (L:List Cn) (r1:Int) (r2:Bool) (en:Ending) (w:World):Prop:=en=.returned (.tuple #[.int .i64 r1,.bool r2])∧St w0 w (L)
def Kw.f (K:Nat) (items:List Af) (name:ByteArray):Option (Int × Bool):=Ed (Ap.f K items name) (fun t1 t2=>(some (t1,t2)))
abbrev Kw.post (w0:World) (L:List Cn) (r1:Int) (r2:Bool) (en:Ending) (w:World):Prop:=en=.returned (.tuple #[.int .i64 r1,.bool r2])∧St w0 w (L)
def Ej.f (s:List Br):Option (List Br):=if (([]:List Br).length+s.length) * 16≤140737488355328 then (some (([]:List Br)++s)) else none
abbrev Ej.post (w0:World) (L:List Cn) (r1:List Br) (en:Ending) (w:World):Prop:=∃ (A_r0:Option Addr) (c_r1:Nat),en=.returned (.slice A_r0 r1.length c_r1)∧St w0 w (Own Az 168 A_r0 c_r1 (fun _=>()) r1::L)
def Cv.l1 (K:Nat):Nat→(List (List Br))→(List (List Br))→Int→Option (List (List Br))
  | 0,_,_,_=>none
  | k+1,a1,b1,x28=>if x28<(a1.length:Int) then (if 0≤x28∧x28<(a1.length:Int) then ((Ej.f (a1.getD x28.toNat [])).bind fun t48=>(if (b1.length+1) * 24≤140737488355328 then (Cv.l1 K k a1 (b1++[t48]) (w64 (x28+1))) else none)) else none) else (some b1)
def Cv.f (K:Nat) (a1:List (List Br)):Option (List (List Br)):=Cv.l1 K K a1 ([]:List (List Br)) 0
abbrev Cv.post (w0:World) (L:List Cn) (r1:List (List Br)) (en:Ending) (w:World):Prop:=∃ (A_r0:Option Addr) (c_r1:Nat) (y_r2:Nat→(Ty.slice 168 Az).Lay),en=.returned (.agg [.slice A_r0 r1.length c_r1].toArray)∧St w0 w (Own (Ty.slice 168 Az) 161 A_r0 c_r1 y_r2 r1::L)
def Db.f (s:List Ah):Option (List Ah):=if (([]:List Ah).length+s.length) * 40≤140737488355328 then (some (([]:List Ah)++s)) else none
abbrev Db.post (w0:World) (L:List Cn) (r1:List Ah) (en:Ending) (w:World):Prop:=∃ (A_r0:Option Addr) (c_r1:Nat),en=.returned (.slice A_r0 r1.length c_r1)∧St w0 w (Own Au 163 A_r0 c_r1 (fun _=>()) r1::L)
def Ke.f (b1:List Ah) (a1:Int):Option ((List Ah) × Int):=(Db.f b1).bind fun t5=>(some (t5,a1))
abbrev Ke.post (w0:World) (L:List Cn) (r1:List Ah) (r2:Int) (en:Ending) (w:World):Prop:=∃ (A_r0:Option Addr) (c_r1:Nat),en=.returned (.agg [.slice A_r0 r1.length c_r1,.int .i64 r2].toArray)∧St w0 w (Own Au 163 A_r0 c_r1 (fun _=>()) r1::L)
def D7.f (s:List Int):Option (List Int):=if (([]:List Int).length+s.length) * 8≤140737488355328 then (some (([]:List Int)++s)) else none
abbrev D7.post (w0:World) (L:List Cn) (r1:List Int) (en:Ending) (w:World):Prop:=∃ (A_r0:Option Addr) (c_r1:Nat),en=.returned (.slice A_r0 r1.length c_r1)∧St w0 w (Own (Bi .i64) 2 A_r0 c_r1 (fun _=>()) r1::L)
def Eg.f (s:List Cc):Option (List Cc):=if (([]:List Cc).length+s.length) * 24≤140737488355328 then (some (([]:List Cc)++s)) else none
abbrev Eg.post (w0:World) (L:List Cn) (r1:List Cc) (en:Ending) (w:World):Prop:=∃ (A_r0:Option Addr) (c_r1:Nat),en=.returned (.slice A_r0 r1.length c_r1)∧St w0 w (Own Ci 153 A_r0 c_r1 (fun _=>()) r1::L)
def Im.f (K:Nat) (h1:ByteArray) (i1:Int) (n1:List (List Br)) (b1:List Ah) (a1:Int) (c1:Int) (k1:List Int) (d1:Int) (e1:Int) (f1:List Cc) (m1:List Int) (g1:List Int):Option (ByteArray × Int × (List (List Br)) × (List Ah) × Int × Int × (List Int) × Int × Int × (List Cc) × (List Int) × (List Int)):=(Cv.f K n1).bind fun t5=>(Ed (Ke.f b1 a1) (fun t13 t14=>((D7.f k1).bind fun t21=>((Eg.f f1).bind fun t28=>((D7.f m1).bind fun t34=>((D7.f g1).bind fun t40=>(some (h1,i1,t5,t13,t14,c1,t21,d1,e1,t28,t34,t40))))))))
abbrev Im.post (w0:World) (L:List Cn) (r1:ByteArray) (r2:Int) (r3:List (List Br)) (r4:List Ah) (r5 r6:Int) (r7:List Int) (r8 r9:Int) (r10:List Cc) (r11 r12:List Int) (en:Ending) (w:World):Prop:=∃ (A_r0:Option Addr) (c_r1:Nat) (y_r2:Nat→(Ty.slice 168 Az).Lay) (A_r3:Option Addr) (c_r4:Nat) (A_r5:Option Addr) (c_r6:Nat) (A_r7:Option Addr) (c_r8:Nat) (A_r9:Option Addr) (c_r10:Nat) (A_r11:Option Addr) (c_r12:Nat),en=.returned (.agg [.string r1,.int .i64 r2,.slice A_r0 r3.length c_r1,.slice A_r3 r4.length c_r4,.int .i64 r5,.int .i64 r6,.slice A_r5 r7.length c_r6,.int .i64 r8,.int .i64 r9,.slice A_r7 r10.length c_r8,.slice A_r9 r11.length c_r10,.slice A_r11 r12.length c_r12].toArray)∧St w0 w (Own (Ty.slice 168 Az) 161 A_r0 c_r1 y_r2 r3::Own Au 163 A_r3 c_r4 (fun _=>()) r4::Own (Bi .i64) 2 A_r5 c_r6 (fun _=>()) r7::Own Ci 153 A_r7 c_r8 (fun _=>()) r10::Own (Bi .i64) 2 A_r9 c_r10 (fun _=>()) r11::Own (Bi .i64) 2 A_r11 c_r12 (fun _=>()) r12::L)
def Dn.l1 (K:Nat):Nat→(List Af)→(List Af)→Int→Option (List Af)
  | 0,_,_,_=>none
  | k+1,items,a1,x47=>if x47<(items.length:Int) then (if 0≤x47∧x47<(items.length:Int) then (bnd (items.getD x47.toNat Bj) (fun e92=>Jm (Im.f K e92.Name e92.Kind e92.Ad e92.Ae e92.Al e92.Ao e92.Ay e92.Am e92.Aj e92.Ag e92.Ak e92.Ai) (fun t97 t98 t99 t100 t101 t102 t103 t104 t105 t106 t107 t108=>(if (a1.length+1) * 200≤140737488355328 then (Dn.l1 K k items (a1++[(⟨t97,t98,t99,t100,t101,t102,t103,t104,t105,t106,t107,t108⟩:Af)]) (w64 (x47+1))) else none)))) else none) else (some a1)
def Dn.f (K:Nat) (items:List Af):Option (List Af):=Dn.l1 K K items ([]:List Af) 0
abbrev Dn.post (w0:World) (L:List Cn) (r1:List Af) (en:Ending) (w:World):Prop:=∃ (A_r0:Option Addr) (c_r1:Nat) (y_r2:Nat→Aa.Lay),en=.returned (.slice A_r0 r1.length c_r1)∧St w0 w (Own Aa 62 A_r0 c_r1 y_r2 r1::L)
def Dq.f (s:List Af) (i:Int) (v:Af):Option (List Af):=if 0≤i∧i≤(s.length:Int) then (if (s.length+1) * 200≤140737488355328 then (some (s.take i.toNat++v::s.drop i.toNat)) else none) else none
abbrev Dq.post (w0:World) (L:List Cn) (r1:List Af) (en:Ending) (w:World):Prop:=∃ (A_r0:Option Addr) (c_r1:Nat) (y_r2:Nat→Aa.Lay),en=.returned (.slice A_r0 r1.length c_r1)∧St w0 w (Own Aa 62 A_r0 c_r1 y_r2 r1::L)
def E9.l1 (K:Nat):Nat→(List (List Af))→(List (List Af))→Int→Option (List (List Af))
  | 0,_,_,_=>none
  | k+1,lists,a1,x21=>if x21<(lists.length:Int) then (if 0≤x21∧x21<(lists.length:Int) then ((Dn.f K (lists.getD x21.toNat [])).bind fun t40=>(if (a1.length+1) * 24≤140737488355328 then (E9.l1 K k lists (a1++[t40]) (w64 (x21+1))) else none)) else none) else (some a1)
def E9.f (K:Nat) (lists:List (List Af)):Option (List (List Af)):=E9.l1 K K lists ([]:List (List Af)) 0
abbrev E9.post (w0:World) (L:List Cn) (r1:List (List Af)) (en:Ending) (w:World):Prop:=∃ (A_r0:Option Addr) (c_r1:Nat) (y_r2:Nat→(Ty.slice 62 Aa).Lay),en=.returned (.slice A_r0 r1.length c_r1)∧St w0 w (Own (Ty.slice 62 Aa) 44 A_r0 c_r1 y_r2 r1::L)
def Gu.f (K:Nat) (c1:List Af) (b1:List (List Af)) (a1:List (List Af)):Option ((List Af) × (List (List Af)) × (List (List Af))):=(Dn.f K c1).bind fun t5=>((E9.f K b1).bind fun t12=>((E9.f K a1).bind fun t19=>(some (t5,t12,t19))))
abbrev Gu.post (w0:World) (L:List Cn) (r1:List Af) (r2:List (List Af)) (r3:List (List Af)) (en:Ending) (w:World):Prop:=∃ (A_r0:Option Addr) (c_r1:Nat) (y_r2:Nat→Aa.Lay) (A_r3:Option Addr) (c_r4:Nat) (y_r5:Nat→(Ty.slice 62 Aa).Lay) (A_r6:Option Addr) (c_r7:Nat) (y_r8:Nat→(Ty.slice 62 Aa).Lay),en=.returned (.agg [.slice A_r0 r1.length c_r1,.slice A_r3 r2.length c_r4,.slice A_r6 r3.length c_r7].toArray)∧St w0 w (Own Aa 62 A_r0 c_r1 y_r2 r1::Own (Ty.slice 62 Aa) 44 A_r3 c_r4 y_r5 r2::Own (Ty.slice 62 Aa) 44 A_r6 c_r7 y_r8 r3::L)
def Lj.f (lists:List (List Af)) (items:List Af):Option (List (List Af)):=if (lists.length+1) * 24≤140737488355328 then (if 0≤(if w64 (((lists++[items]).length:Int) - 6) > 0 then w64 (((lists++[items]).length:Int) - 6) else 0)∧(if w64 (((lists++[items]).length:Int) - 6) > 0 then w64 (((lists++[items]).length:Int) - 6) else 0)≤((lists++[items]).length:Int) then (some (((lists++[items]).take ((lists++[items]).length)).drop ((if w64 (((lists++[items]).length:Int) - 6) > 0 then w64 (((lists++[items]).length:Int) - 6) else 0).toNat))) else none) else none
abbrev Lj.post (w0:World) (L:List Cn) (r1:List (List Af)) (en:Ending) (w:World):Prop:=∃ (A_r0:Option Addr) (c_r1:Nat) (y_r2:Nat→(Ty.slice 62 Aa).Lay),en=.returned (.slice A_r0 r1.length c_r1)∧St w0 w (Own (Ty.slice 62 Aa) 44 A_r0 c_r1 y_r2 r1::L)
def J6.f (b1:List Af) (a1:List (List Af)) (c1:List (List Af)) (items:List Af):Option ((List (List Af)) × (List (List Af))):=(Lj.f a1 b1).bind fun t5=>(some (t5,([]:List (List Af))))
abbrev J6.post (w0:World) (L:List Cn) (items:List Af) (A_d:Option Addr) (c_d:Nat) (r1:List (List Af)) (r2:List (List Af)) (en:Ending) (w:World):Prop:=∃ (A_r0:Option Addr) (c_r1:Nat) (y_r2:Nat→(Ty.slice 62 Aa).Lay) (A_r3:Option Addr) (c_r4:Nat) (y_r5:Nat→(Ty.slice 62 Aa).Lay),en=.returned (.agg [.slice A_d items.length c_d,.slice A_r0 r1.length c_r1,.slice A_r3 r2.length c_r4].toArray)∧St w0 w (Own (Ty.slice 62 Aa) 44 A_r0 c_r1 y_r2 r1::Own (Ty.slice 62 Aa) 44 A_r3 c_r4 y_r5 r2::L)
mutual
def C9.j1 (K:Nat):Nat→(List Af)→(List (List Af))→(List (List Af))→ByteArray→Int→(List (List Br))→(List Ah)→Int→Int→(List Int)→Int→Int→(List Cc)→(List Int)→(List Int)→Int→Bool→Bool→Option ((List Af) × (List (List Af)) × (List (List Af)) × Int)
  | 0,_,_,_,_,_,_,_,_,_,_,_,_,_,_,_,_,_,_=>none
  | k+1,a1,m1,c1,k1,q1,p1,b1,d1,e1,n1,f1,g1,h1,o1,i1,t7,t8,x33=>if x33=true then (some (([]:List Af),([]:List (List Af)),([]:List (List Af)),3)) else ((Dn.f K a1).bind fun t36=>(if t8=true then (Jm (Im.f K k1 q1 p1 b1 d1 e1 n1 f1 g1 h1 o1 i1) (fun t144 t145 t146 t147 t148 t149 t150 t151 t152 t153 t154 t155=>(if 0≤t7∧t7<(t36.length:Int) then (C9.j2 K k a1 m1 c1 (t36.set t7.toNat (⟨t144,t145,t146,t147,t148,t149,t150,t151,t152,t153,t154,t155⟩:Af))) else none))) else (Jm (Im.f K k1 q1 p1 b1 d1 e1 n1 f1 g1 h1 o1 i1) (fun t175 t176 t177 t178 t179 t180 t181 t182 t183 t184 t185 t186=>((Dq.f t36 t7 (⟨t175,t176,t177,t178,t179,t180,t181,t182,t183,t184,t185,t186⟩:Af)).bind fun t208=>(C9.j2 K k a1 m1 c1 t208))))))
def C9.j2 (K:Nat):Nat→(List Af)→(List (List Af))→(List (List Af))→(List Af)→Option ((List Af) × (List (List Af)) × (List (List Af)) × Int)
  | 0,_,_,_,_=>none
  | k+1,d1,c1,b1,a1=>M8 (Gu.f K d1 c1 b1) (fun t116 t117 t118=>(Ed (J6.f t116 t117 t118 a1) (fun t131 t132=>(some (a1,t131,t132,0)))))
end
def C9.f (K:Nat) (a1:List Af) (m1:List (List Af)) (d1:List (List Af)) (b1:ByteArray) (q1:Int) (p1:List (List Br)) (c1:List Ah) (e1:Int) (f1:Int) (n1:List Int) (g1:Int) (h1:Int) (i1:List Cc) (o1:List Int) (k1:List Int):Option ((List Af) × (List (List Af)) × (List (List Af)) × Int):=Ed (Kw.f K a1 b1) (fun t7 t8=>((Dk.f K a1 m1 d1).bind fun t21=>(if t21=true then ((Ic.f K b1 q1 p1 c1 e1 f1 n1 g1 h1 i1 o1 k1).bind fun t26=>(if t26=true then (if (a1.length:Int)=10 then (C9.j1 K K a1 m1 d1 b1 q1 p1 c1 e1 f1 n1 g1 h1 i1 o1 k1 t7 t8 (!t8)) else (C9.j1 K K a1 m1 d1 b1 q1 p1 c1 e1 f1 n1 g1 h1 i1 o1 k1 t7 t8 false)) else (some (([]:List Af),([]:List (List Af)),([]:List (List Af)),1)))) else (some (([]:List Af),([]:List (List Af)),([]:List (List Af)),1)))))
abbrev C9.post (w0:World) (L:List Cn) (r1:List Af) (r2:List (List Af)) (r3:List (List Af)) (r4:Int) (en:Ending) (w:World):Prop:=∃ (A_r0:Option Addr) (c_r1:Nat) (y_r2:Nat→Aa.Lay) (A_r3:Option Addr) (c_r4:Nat) (y_r5:Nat→(Ty.slice 62 Aa).Lay) (A_r6:Option Addr) (c_r7:Nat) (y_r8:Nat→(Ty.slice 62 Aa).Lay),en=.returned (.tuple #[.agg [.slice A_r0 r1.length c_r1,.slice A_r3 r2.length c_r4,.slice A_r6 r3.length c_r7].toArray,.int .i64 r4])∧St w0 w (Own Aa 62 A_r0 c_r1 y_r2 r1::Own (Ty.slice 62 Aa) 44 A_r3 c_r4 y_r5 r2::Own (Ty.slice 62 Aa) 44 A_r6 c_r7 y_r8 r3::L)
def Dr.f (s:List Af) (i:Int) (j_:Int):Option (List Af):=if 0≤i∧i≤j_ then (if j_≤(s.length:Int) then (if i=j_ then (some s) else (if 0≤i∧i≤(s.length:Int) then (if 0≤j_∧j_≤(s.length:Int) then (if i.toNat≤j_.toNat then (if 0≤((((over (allRows s.length) i.toNat ((allRows s.length).drop j_.toNat)).take (i.toNat+((allRows s.length).length - j_.toNat))).drop 0).length:Int)∧((((over (allRows s.length) i.toNat ((allRows s.length).drop j_.toNat)).take (i.toNat+((allRows s.length).length - j_.toNat))).drop 0).length:Int)≤(s.length:Int) then (if 0≤(s.length:Int)∧(s.length:Int)≤((over (allRows s.length) i.toNat ((allRows s.length).drop j_.toNat)).length:Int) then (if (i.toNat+((allRows s.length).length - j_.toNat))≤(over (over (allRows s.length) i.toNat ((allRows s.length).drop j_.toNat)) (((((over (allRows s.length) i.toNat ((allRows s.length).drop j_.toNat)).take (i.toNat+((allRows s.length).length - j_.toNat))).drop 0).length:Int).toNat) (List.replicate (((over (allRows s.length) i.toNat ((allRows s.length).drop j_.toNat)).take ((s.length:Int).toNat)).drop (((((over (allRows s.length) i.toNat ((allRows s.length).drop j_.toNat)).take (i.toNat+((allRows s.length).length - j_.toNat))).drop 0).length:Int).toNat)).length none)).length then ((Ii Bj s ((over (over (allRows s.length) i.toNat ((allRows s.length).drop j_.toNat)) (((((over (allRows s.length) i.toNat ((allRows s.length).drop j_.toNat)).take (i.toNat+((allRows s.length).length - j_.toNat))).drop 0).length:Int).toNat) (List.replicate (((over (allRows s.length) i.toNat ((allRows s.length).drop j_.toNat)).take ((s.length:Int).toNat)).drop (((((over (allRows s.length) i.toNat ((allRows s.length).drop j_.toNat)).take (i.toNat+((allRows s.length).length - j_.toNat))).drop 0).length:Int).toNat)).length none)).take (i.toNat+((allRows s.length).length - j_.toNat)))).bind fun r14=>(some r14)) else none) else none) else none) else none) else none) else none)) else none) else none
abbrev Dr.post (w0:World) (L:List Cn) (r1:List Af) (en:Ending) (w:World):Prop:=∃ (A_r0:Option Addr) (c_r1:Nat) (y_r2:Nat→Aa.Lay),en=.returned (.slice A_r0 r1.length c_r1)∧St w0 w (Own Aa 62 A_r0 c_r1 y_r2 r1::L)
def K8.f (K:Nat) (a1:List Af) (c1:List (List Af)) (b1:List (List Af)) (name:ByteArray):Option ((List Af) × (List (List Af)) × (List (List Af)) × Int):=Ed (Kw.f K a1 name) (fun t5 t6=>((Dk.f K a1 c1 b1).bind fun t10=>(if t10=true then (if t6=true then (M8 (Gu.f K a1 c1 b1) (fun t16 t17 t18=>((Dn.f K a1).bind fun t31=>((Dr.f t31 t5 (w64 (t5+1))).bind fun t38=>(Ed (J6.f t16 t17 t18 t38) (fun t45 t46=>(some (t38,t45,t46,0)))))))) else (some (([]:List Af),([]:List (List Af)),([]:List (List Af)),4))) else (some (([]:List Af),([]:List (List Af)),([]:List (List Af)),1)))))
abbrev K8.post (w0:World) (L:List Cn) (r1:List Af) (r2:List (List Af)) (r3:List (List Af)) (r4:Int) (en:Ending) (w:World):Prop:=∃ (A_r0:Option Addr) (c_r1:Nat) (y_r2:Nat→Aa.Lay) (A_r3:Option Addr) (c_r4:Nat) (y_r5:Nat→(Ty.slice 62 Aa).Lay) (A_r6:Option Addr) (c_r7:Nat) (y_r8:Nat→(Ty.slice 62 Aa).Lay),en=.returned (.tuple #[.agg [.slice A_r0 r1.length c_r1,.slice A_r3 r2.length c_r4,.slice A_r6 r3.length c_r7].toArray,.int .i64 r4])∧St w0 w (Own Aa 62 A_r0 c_r1 y_r2 r1::Own (Ty.slice 62 Aa) 44 A_r3 c_r4 y_r5 r2::Own (Ty.slice 62 Aa) 44 A_r6 c_r7 y_r8 r3::L)
def Hw.f (K:Nat) (c1:List Af) (a1:List (List Af)) (b1:List (List Af)):Option ((List Af) × (List (List Af)) × (List (List Af)) × Int):=(Dk.f K c1 a1 b1).bind fun t5=>(if t5=true then (if (a1.length:Int)=0 then (some (([]:List Af),([]:List (List Af)),([]:List (List Af)),5)) else (M8 (Gu.f K c1 a1 b1) (fun t12 t13 t14=>(if 0≤w64 ((t13.length:Int) - 1)∧w64 ((t13.length:Int) - 1)<(t13.length:Int) then (if 0≤w64 ((t13.length:Int) - 1)∧w64 ((t13.length:Int) - 1)≤(t13.length:Int) then ((Lj.f t14 t12).bind fun t33=>(some (t13.getD ((w64 ((t13.length:Int) - 1)).toNat) [],((t13.take ((w64 ((t13.length:Int) - 1)).toNat)).drop 0),t33,0))) else none) else none)))) else (some (([]:List Af),([]:List (List Af)),([]:List (List Af)),1)))
abbrev Hw.post (w0:World) (L:List Cn) (r1:List Af) (r2:List (List Af)) (r3:List (List Af)) (r4:Int) (en:Ending) (w:World):Prop:=∃ (A_r0:Option Addr) (c_r1:Nat) (y_r2:Nat→Aa.Lay) (A_r3:Option Addr) (c_r4:Nat) (y_r5:Nat→(Ty.slice 62 Aa).Lay) (A_r6:Option Addr) (c_r7:Nat) (y_r8:Nat→(Ty.slice 62 Aa).Lay),en=.returned (.tuple #[.agg [.slice A_r0 r1.length c_r1,.slice A_r3 r2.length c_r4,.slice A_r6 r3.length c_r7].toArray,.int .i64 r4])∧St w0 w (Own Aa 62 A_r0 c_r1 y_r2 r1::Own (Ty.slice 62 Aa) 44 A_r3 c_r4 y_r5 r2::Own (Ty.slice 62 Aa) 44 A_r6 c_r7 y_r8 r3::L)
def Kv.f (K:Nat) (c1:List Af) (b1:List (List Af)) (a1:List (List Af)):Option ((List Af) × (List (List Af)) × (List (List Af)) × Int):=Jv (Hw.f K c1 a1 b1) (fun t5 t6 t7 t8=>(some (t5,t7,t6,t8)))
abbrev Kv.post (w0:World) (L:List Cn) (r1:List Af) (r2:List (List Af)) (r3:List (List Af)) (r4:Int) (en:Ending) (w:World):Prop:=∃ (A_r0:Option Addr) (c_r1:Nat) (y_r2:Nat→Aa.Lay) (A_r3:Option Addr) (c_r4:Nat) (y_r5:Nat→(Ty.slice 62 Aa).Lay) (A_r6:Option Addr) (c_r7:Nat) (y_r8:Nat→(Ty.slice 62 Aa).Lay),en=.returned (.tuple #[.agg [.slice A_r0 r1.length c_r1,.slice A_r3 r2.length c_r4,.slice A_r6 r3.length c_r7].toArray,.int .i64 r4])∧St w0 w (Own Aa 62 A_r0 c_r1 y_r2 r1::Own (Ty.slice 62 Aa) 44 A_r3 c_r4 y_r5 r2::Own (Ty.slice 62 Aa) 44 A_r6 c_r7 y_r8 r3::L)
def Il.f (K:Nat) (c1:List Af) (b1:List (List Af)) (a1:List (List Af)) (d1:Int) (m1:ByteArray) (f1:ByteArray) (e1:Int) (s1:List (List Br)) (o1:List Ah) (q1:Int) (r1:Int) (k1:List Int) (p1:Int) (g1:Int) (n1:List Cc) (h1:List Int) (i1:List Int):Option ((List Af) × (List (List Af)) × (List (List Af)) × Int):=(Dk.f K c1 b1 a1).bind fun t16=>(if t16=true then ((Ep.f K d1 m1 f1 e1 s1 o1 q1 r1 k1 p1 g1 n1 h1 i1).bind fun t21=>(if t21=true then (if d1=1 then (Jv (C9.f K c1 b1 a1 f1 e1 s1 o1 q1 r1 k1 p1 g1 n1 h1 i1) (fun t27 t28 t29 t30=>(some (t27,t28,t29,t30)))) else (if d1=2 then (Jv (K8.f K c1 b1 a1 m1) (fun t45 t46 t47 t48=>(some (t45,t46,t47,t48)))) else (if d1=3 then (Jv (Hw.f K c1 b1 a1) (fun t63 t64 t65 t66=>(some (t63,t64,t65,t66)))) else (Jv (Kv.f K c1 b1 a1) (fun t80 t81 t82 t83=>(some (t80,t81,t82,t83))))))) else (some (([]:List Af),([]:List (List Af)),([]:List (List Af)),1)))) else (some (([]:List Af),([]:List (List Af)),([]:List (List Af)),1)))
abbrev Il.post (w0:World) (L:List Cn) (r1:List Af) (r2:List (List Af)) (r3:List (List Af)) (r4:Int) (en:Ending) (w:World):Prop:=∃ (A_r0:Option Addr) (c_r1:Nat) (y_r2:Nat→Aa.Lay) (A_r3:Option Addr) (c_r4:Nat) (y_r5:Nat→(Ty.slice 62 Aa).Lay) (A_r6:Option Addr) (c_r7:Nat) (y_r8:Nat→(Ty.slice 62 Aa).Lay),en=.returned (.tuple #[.agg [.slice A_r0 r1.length c_r1,.slice A_r3 r2.length c_r4,.slice A_r6 r3.length c_r7].toArray,.int .i64 r4])∧St w0 w (Own Aa 62 A_r0 c_r1 y_r2 r1::Own (Ty.slice 62 Aa) 44 A_r3 c_r4 y_r5 r2::Own (Ty.slice 62 Aa) 44 A_r6 c_r7 y_r8 r3::L)
def Nh.f (b1:Int) (d1:Int) (a1:Int) (c1:Int):Option (Bool):=if b1=a1 then (if d1=c1 then (some true) else (some false)) else (some false)
abbrev Nh.post:=Ga
def Gz.l1 (K:Nat):Nat→(List Br)→(List Br)→Int→Option (Bool)
  | 0,_,_,_=>none
  | k+1,a_,b_,a1=>if a1<(a_.length:Int) then (if 0≤a1∧a1<(a_.length:Int) then (bnd (a_.getD a1.toNat Md) (fun e29=>if 0≤a1∧a1<(b_.length:Int) then (bnd (b_.getD a1.toNat Md) (fun e32=>(Nh.f e29.Tet e29.Perm e32.Tet e32.Perm).bind fun t34=>(if t34=true then (Gz.l1 K k a_ b_ (w64 (a1+1))) else (some false)))) else none)) else none) else (some true)
def Gz.f (K:Nat) (a_:List Br) (b_:List Br):Option (Bool):=if (a_.length:Int)=(b_.length:Int) then (Gz.l1 K K a_ b_ 0) else (some false)
abbrev Gz.post:=Ga
def Fy.l1 (K:Nat):Nat→(List (List Br))→(List (List Br))→Int→Option (Bool)
  | 0,_,_,_=>none
  | k+1,a_,b_,a1=>if a1<(a_.length:Int) then (if 0≤a1∧a1<(a_.length:Int) then (if 0≤a1∧a1<(b_.length:Int) then ((Gz.f K (a_.getD a1.toNat []) (b_.getD a1.toNat [])).bind fun t22=>(if t22=true then (Fy.l1 K k a_ b_ (w64 (a1+1))) else (some false))) else none) else none) else (some true)
def Fy.f (K:Nat) (a_:List (List Br)) (b_:List (List Br)):Option (Bool):=if (a_.length:Int)=(b_.length:Int) then (Fy.l1 K K a_ b_ 0) else (some false)
abbrev Fy.post:=Ga
def Ir.f (K:Nat) (b1:List (List Br)) (a1:List (List Br)):Option (Bool):=(Fy.f K b1 a1).bind fun t5=>(if t5=true then (some true) else (some false))
abbrev Ir.post:=Ga
def K4.f (a_A:Int) (a_B:Int) (a_C:Int) (a_D:Int) (b1:Int) (b_A:Int) (b_B:Int) (b_C:Int) (b_D:Int) (a1:Int):Option (Bool):=if a_A=b_A then (if a_B=b_B then (if a_C=b_C then (if a_D=b_D then (if b1=a1 then (some true) else (some false)) else (some false)) else (some false)) else (some false)) else (some false)
abbrev K4.post:=Ga
def Em.l1 (K:Nat):Nat→(List Ah)→(List Ah)→Int→Option (Bool)
  | 0,_,_,_=>none
  | k+1,a_,b_,a1=>if a1<(a_.length:Int) then (if 0≤a1∧a1<(a_.length:Int) then (bnd (a_.getD a1.toNat Ar) (fun e29=>if 0≤a1∧a1<(b_.length:Int) then (bnd (b_.getD a1.toNat Ar) (fun e32=>(K4.f e29.A e29.B e29.C e29.D e29.Sign e32.A e32.B e32.C e32.D e32.Sign).bind fun t34=>(if t34=true then (Em.l1 K k a_ b_ (w64 (a1+1))) else (some false)))) else none)) else none) else (some true)
def Em.f (K:Nat) (a_:List Ah) (b_:List Ah):Option (Bool):=if (a_.length:Int)=(b_.length:Int) then (Em.l1 K K a_ b_ 0) else (some false)
abbrev Em.post:=Ga
def Lr.f (K:Nat) (c1:List Ah) (d1:Int) (a1:List Ah) (b1:Int):Option (Bool):=(Em.f K c1 a1).bind fun t5=>(if t5=true then (if d1=b1 then (some true) else (some false)) else (some false))
abbrev Lr.post:=Ga
def Eo.l1 (K:Nat):Nat→(List Int)→(List Int)→Int→Option (Bool)
  | 0,_,_,_=>none
  | k+1,a_,b_,i_6=>if i_6<(a_.length:Int) then (if 0≤i_6∧i_6<(a_.length:Int) then (if 0≤i_6∧i_6<(b_.length:Int) then (if a_.getD i_6.toNat 0=b_.getD i_6.toNat 0 then (Eo.l1 K k a_ b_ (w64 (i_6+1))) else (some false)) else none) else none) else (some true)
def Eo.f (K:Nat) (a_:List Int) (b_:List Int):Option (Bool):=if (a_.length:Int)=(b_.length:Int) then (Eo.l1 K K a_ b_ 0) else (some false)
abbrev Eo.post:=Ga
def Mx.f (K:Nat) (d1:Int) (a1:List Int) (b1:Int) (c1:List Int):Option (Bool):=if d1=b1 then ((Eo.f K a1 c1).bind fun t6=>(if t6=true then (some true) else (some false))) else (some false)
abbrev Mx.post:=Ga
def Ng.f (c1:Int) (d1:Int) (b1:Int) (f1:Int) (a1:Int) (e1:Int):Option (Bool):=if c1=f1 then (if d1=a1 then (if b1=e1 then (some true) else (some false)) else (some false)) else (some false)
abbrev Ng.post:=Ga
def Gv.l1 (K:Nat):Nat→(List Cc)→(List Cc)→Int→Option (Bool)
  | 0,_,_,_=>none
  | k+1,a_,b_,a1=>if a1<(a_.length:Int) then (if 0≤a1∧a1<(a_.length:Int) then (bnd (a_.getD a1.toNat Io) (fun e29=>if 0≤a1∧a1<(b_.length:Int) then (bnd (b_.getD a1.toNat Io) (fun e32=>(Ng.f e29.Kind e29.Tet e29.Index e32.Kind e32.Tet e32.Index).bind fun t34=>(if t34=true then (Gv.l1 K k a_ b_ (w64 (a1+1))) else (some false)))) else none)) else none) else (some true)
def Gv.f (K:Nat) (a_:List Cc) (b_:List Cc):Option (Bool):=if (a_.length:Int)=(b_.length:Int) then (Gv.l1 K K a_ b_ 0) else (some false)
abbrev Gv.post:=Ga
def Jh.f (K:Nat) (k1:Int) (h1:Int) (g1:List Cc) (i1:List Int) (c1:List Int) (d1:Int) (b1:Int) (a1:List Cc) (e1:List Int) (f1:List Int):Option (Bool):=if k1=d1 then (if h1=b1 then ((Gv.f K g1 a1).bind fun t7=>(if t7=true then ((Eo.f K i1 e1).bind fun t12=>(if t12=true then ((Eo.f K c1 f1).bind fun t17=>(if t17=true then (some true) else (some false))) else (some false))) else (some false))) else (some false)) else (some false)
abbrev Jh.post:=Ga
def Lt.f (K:Nat) (d1:ByteArray) (k1:Int) (o1:List (List Br)) (s1:List Ah) (u1:Int) (z1:Int) (a1:List Int) (t1:Int) (f1:Int) (y1:List Cc) (r1:List Int) (e1:List Int) (x1:ByteArray) (q1:Int) (n1:List (List Br)) (m1:List Ah) (p1:Int) (b1:Int) (i1:List Int) (h1:Int) (g1:Int) (c1:List Cc) (v1:List Int) (a2:List Int):Option (Bool):=if (seq d1 x1)=true then (if k1=q1 then ((Ir.f K o1 n1).bind fun t7=>(if t7=true then ((Lr.f K s1 u1 m1 p1).bind fun t12=>(if t12=true then ((Mx.f K z1 a1 b1 i1).bind fun t17=>(if t17=true then ((Jh.f K t1 f1 y1 r1 e1 h1 g1 c1 v1 a2).bind fun t22=>(if t22=true then (some true) else (some false))) else (some false))) else (some false))) else (some false))) else (some false)) else (some false)
abbrev Lt.post:=Ga
def Gn.l1 (K:Nat):Nat→(List Af)→(List Af)→Int→Option (Bool)
  | 0,_,_,_=>none
  | k+1,a_,b_,a1=>if a1<(a_.length:Int) then (if 0≤a1∧a1<(a_.length:Int) then (bnd (a_.getD a1.toNat Bj) (fun e29=>if 0≤a1∧a1<(b_.length:Int) then (bnd (b_.getD a1.toNat Bj) (fun e32=>(Lt.f K e29.Name e29.Kind e29.Ad e29.Ae e29.Al e29.Ao e29.Ay e29.Am e29.Aj e29.Ag e29.Ak e29.Ai e32.Name e32.Kind e32.Ad e32.Ae e32.Al e32.Ao e32.Ay e32.Am e32.Aj e32.Ag e32.Ak e32.Ai).bind fun t34=>(if t34=true then (Gn.l1 K k a_ b_ (w64 (a1+1))) else (some false)))) else none)) else none) else (some true)
def Gn.f (K:Nat) (a_:List Af) (b_:List Af):Option (Bool):=if (a_.length:Int)=(b_.length:Int) then (Gn.l1 K K a_ b_ 0) else (some false)
abbrev Gn.post:=Ga
def Fz.l1 (K:Nat):Nat→(List (List Af))→(List (List Af))→Int→Option (Bool)
  | 0,_,_,_=>none
  | k+1,a_,b_,a1=>if a1<(a_.length:Int) then (if 0≤a1∧a1<(a_.length:Int) then (if 0≤a1∧a1<(b_.length:Int) then ((Gn.f K (a_.getD a1.toNat []) (b_.getD a1.toNat [])).bind fun t22=>(if t22=true then (Fz.l1 K k a_ b_ (w64 (a1+1))) else (some false))) else none) else none) else (some true)
def Fz.f (K:Nat) (a_:List (List Af)) (b_:List (List Af)):Option (Bool):=if (a_.length:Int)=(b_.length:Int) then (Fz.l1 K K a_ b_ 0) else (some false)
abbrev Fz.post:=Ga
def Hr.f (K:Nat) (e1:List Af) (a1:List (List Af)) (c1:List (List Af)) (f1:List Af) (d1:List (List Af)) (b1:List (List Af)):Option (Bool):=(Gn.f K e1 f1).bind fun t5=>(if t5=true then ((Fz.f K a1 d1).bind fun t10=>(if t10=true then ((Fz.f K c1 b1).bind fun t15=>(if t15=true then (some true) else (some false))) else (some false))) else (some false))
abbrev Hr.post:=Ga
def K9.f (K:Nat) (t1:Int) (d1:ByteArray) (b1:ByteArray) (h1:Int) (i1:List (List Br)) (y1:List Ah) (c1:Int) (r1:Int) (u1:List Int) (a1:Int) (f1:Int) (z1:List Cc) (a2:List Int) (s1:List Int) (v1:Int) (b2:ByteArray) (e2:ByteArray) (n1:Int) (x1:List (List Br)) (o1:List Ah) (q1:Int) (k1:Int) (p1:List Int) (g1:Int) (m1:Int) (c2:List Cc) (d2:List Int) (e1:List Int):Option (Bool):=if t1=v1 then (if (seq d1 b2)=true then ((Lt.f K b1 h1 i1 y1 c1 r1 u1 a1 f1 z1 a2 s1 e2 n1 x1 o1 q1 k1 p1 g1 m1 c2 d2 e1).bind fun t7=>(if t7=true then (some true) else (some false))) else (some false)) else (some false)
abbrev K9.post:=Ga
def Ex.l1 (K:Nat):Nat→Int→ByteArray→Option (ByteArray)
  | 0,_,_=>none
  | k+1,k_7,a1=>if 0<k_7 then (if (strOfNums ([IntKind.wrap .u8 (w64 (48+(k_7.tmod 10)))]:List Int)).size+a1.size≤9223372036854775807 then (Ex.l1 K k (w64 (k_7.tdiv 10)) ((strOfNums ([IntKind.wrap .u8 (w64 (48+(k_7.tmod 10)))]:List Int))++a1)) else none) else (if (⟨#[109]⟩:ByteArray).size+a1.size≤9223372036854775807 then (some ((⟨#[109]⟩:ByteArray)++a1)) else none)
def Ex.f (K:Nat) (k_:Int):Option (ByteArray):=if k_≤0 then (some (⟨#[109,48]⟩:ByteArray)) else (Ex.l1 K K k_ ByteArray.empty)
abbrev Ex.post (w0:World) (L:List Cn) (r1:ByteArray) (en:Ending) (w:World):Prop:=en=.returned (.string r1)∧St w0 w (L)
def E8.l1 (K:Nat):Nat→(List Br)→Int→Int→Option (Int × (List Br))
  | 0,_,_,_=>none
  | k+1,x10,b1,a1=>if a1<(x10.length:Int) then (if 0≤a1∧a1<(x10.length:Int) then (bnd (x10.getD a1.toNat Md) (fun e25=>if 0≤a1∧a1<((x10.set a1.toNat ({ e25 with Tet:=b1 })).length:Int) then (bnd ((x10.set a1.toNat ({ e25 with Tet:=b1 })).getD a1.toNat Md) (fun e29=>E8.l1 K k ((x10.set a1.toNat ({ e25 with Tet:=b1 })).set a1.toNat ({ e29 with Perm:=w64 (b1+1) })) (w64 ((w64 (b1+1))+1)) (w64 (a1+1)))) else none)) else none) else (some (b1,x10))
def E8.f (K:Nat) (a_:List Br) (k_:Int):Option (Int × (List Br)):=E8.l1 K K a_ k_ 0
abbrev E8.post (w0:World) (L:List Cn) (A_a:Option Addr) (c_a:Nat) (r1:Int) (r2:List Br) (en:Ending) (w:World):Prop:=en=.returned (.int .i64 r1)∧St w0 w (Own Az 168 A_a c_a (fun _=>()) r2::L)
def Fh.l1 (K:Nat):Nat→(List (List Br))→Int→Int→Option (Int × (List (List Br)))
  | 0,_,_,_=>none
  | k+1,x9,b1,a1=>if a1<(x9.length:Int) then (if 0≤a1∧a1<(x9.length:Int) then (Ed (E8.f K (x9.getD a1.toNat []) b1) (fun t22 t23=>(if t23.length=(x9.getD a1.toNat []).length then (Fh.l1 K k (x9.set a1.toNat t23) t22 (w64 (a1+1))) else none))) else none) else (some (b1,x9))
def Fh.f (K:Nat) (a_:List (List Br)) (k_:Int):Option (Int × (List (List Br))):=Fh.l1 K K a_ k_ 0
abbrev Fh.post (w0:World) (L:List Cn) (A_a:Option Addr) (c_a:Nat) (y_a:Nat→(Ty.slice 168 Az).Lay) (r1:Int) (r2:List (List Br)) (en:Ending) (w:World):Prop:=en=.returned (.int .i64 r1)∧St w0 w (Own (Ty.slice 168 Az) 161 A_a c_a y_a r2::L)
def C8.l1 (K:Nat):Nat→(List Ah)→Int→Int→Option (Int × (List Ah))
  | 0,_,_,_=>none
  | k+1,x22,b1,a1=>if a1<(x22.length:Int) then (if 0≤a1∧a1<(x22.length:Int) then (bnd (x22.getD a1.toNat Ar) (fun e49=>if 0≤a1∧a1<((x22.set a1.toNat ({ e49 with A:=b1 })).length:Int) then (bnd ((x22.set a1.toNat ({ e49 with A:=b1 })).getD a1.toNat Ar) (fun e53=>if 0≤a1∧a1<(((x22.set a1.toNat ({ e49 with A:=b1 })).set a1.toNat ({ e53 with B:=w64 (b1+1) })).length:Int) then (bnd (((x22.set a1.toNat ({ e49 with A:=b1 })).set a1.toNat ({ e53 with B:=w64 (b1+1) })).getD a1.toNat Ar) (fun e57=>if 0≤a1∧a1<((((x22.set a1.toNat ({ e49 with A:=b1 })).set a1.toNat ({ e53 with B:=w64 (b1+1) })).set a1.toNat ({ e57 with C:=w64 ((w64 (b1+1))+1) })).length:Int) then (bnd ((((x22.set a1.toNat ({ e49 with A:=b1 })).set a1.toNat ({ e53 with B:=w64 (b1+1) })).set a1.toNat ({ e57 with C:=w64 ((w64 (b1+1))+1) })).getD a1.toNat Ar) (fun e61=>if 0≤a1∧a1<(((((x22.set a1.toNat ({ e49 with A:=b1 })).set a1.toNat ({ e53 with B:=w64 (b1+1) })).set a1.toNat ({ e57 with C:=w64 ((w64 (b1+1))+1) })).set a1.toNat ({ e61 with D:=w64 ((w64 ((w64 (b1+1))+1))+1) })).length:Int) then (bnd (((((x22.set a1.toNat ({ e49 with A:=b1 })).set a1.toNat ({ e53 with B:=w64 (b1+1) })).set a1.toNat ({ e57 with C:=w64 ((w64 (b1+1))+1) })).set a1.toNat ({ e61 with D:=w64 ((w64 ((w64 (b1+1))+1))+1) })).getD a1.toNat Ar) (fun e65=>C8.l1 K k (((((x22.set a1.toNat ({ e49 with A:=b1 })).set a1.toNat ({ e53 with B:=w64 (b1+1) })).set a1.toNat ({ e57 with C:=w64 ((w64 (b1+1))+1) })).set a1.toNat ({ e61 with D:=w64 ((w64 ((w64 (b1+1))+1))+1) })).set a1.toNat ({ e65 with Sign:=w64 ((w64 ((w64 ((w64 (b1+1))+1))+1))+1) })) (w64 ((w64 ((w64 ((w64 ((w64 (b1+1))+1))+1))+1))+1)) (w64 (a1+1)))) else none)) else none)) else none)) else none)) else none) else (some (b1,x22))
def C8.f (K:Nat) (a_:List Ah) (k_:Int):Option (Int × (List Ah)):=C8.l1 K K a_ k_ 0
abbrev C8.post (w0:World) (L:List Cn) (A_a:Option Addr) (c_a:Nat) (r1:Int) (r2:List Ah) (en:Ending) (w:World):Prop:=en=.returned (.int .i64 r1)∧St w0 w (Own Au 163 A_a c_a (fun _=>()) r2::L)
def Ct.l1 (K:Nat):Nat→(List Int)→Int→Int→Option (Int × (List Int))
  | 0,_,_,_=>none
  | k+1,x4,k_5,i_6=>if i_6<(x4.length:Int) then (if 0≤i_6∧i_6<(x4.length:Int) then (Ct.l1 K k (x4.set i_6.toNat k_5) (w64 (k_5+1)) (w64 (i_6+1))) else none) else (some (k_5,x4))
def Ct.f (K:Nat) (a_:List Int) (k_:Int):Option (Int × (List Int)):=Ct.l1 K K a_ k_ 0
abbrev Ct.post (w0:World) (L:List Cn) (A_a:Option Addr) (c_a:Nat) (r1:Int) (r2:List Int) (en:Ending) (w:World):Prop:=en=.returned (.int .i64 r1)∧St w0 w (Own (Bi .i64) 2 A_a c_a (fun _=>()) r2::L)
def Er.l1 (K:Nat):Nat→(List Cc)→Int→Int→Option (Int × (List Cc))
  | 0,_,_,_=>none
  | k+1,x14,b1,a1=>if a1<(x14.length:Int) then (if 0≤a1∧a1<(x14.length:Int) then (bnd (x14.getD a1.toNat Io) (fun e33=>if 0≤a1∧a1<((x14.set a1.toNat ({ e33 with Kind:=b1 })).length:Int) then (bnd ((x14.set a1.toNat ({ e33 with Kind:=b1 })).getD a1.toNat Io) (fun e37=>if 0≤a1∧a1<(((x14.set a1.toNat ({ e33 with Kind:=b1 })).set a1.toNat ({ e37 with Tet:=w64 (b1+1) })).length:Int) then (bnd (((x14.set a1.toNat ({ e33 with Kind:=b1 })).set a1.toNat ({ e37 with Tet:=w64 (b1+1) })).getD a1.toNat Io) (fun e41=>Er.l1 K k (((x14.set a1.toNat ({ e33 with Kind:=b1 })).set a1.toNat ({ e37 with Tet:=w64 (b1+1) })).set a1.toNat ({ e41 with Index:=w64 ((w64 (b1+1))+1) })) (w64 ((w64 ((w64 (b1+1))+1))+1)) (w64 (a1+1)))) else none)) else none)) else none) else (some (b1,x14))
def Er.f (K:Nat) (a_:List Cc) (k_:Int):Option (Int × (List Cc)):=Er.l1 K K a_ k_ 0
abbrev Er.post (w0:World) (L:List Cn) (A_a:Option Addr) (c_a:Nat) (r1:Int) (r2:List Cc) (en:Ending) (w:World):Prop:=en=.returned (.int .i64 r1)∧St w0 w (Own Ci 153 A_a c_a (fun _=>()) r2::L)
def Dz.l1 (K:Nat):Nat→(List Af)→Int→Int→Option (Int × (List Af))
  | 0,_,_,_=>none
  | k+1,x84,b1,a1=>if a1<(x84.length:Int) then ((Ex.f K b1).bind fun t171=>(if 0≤a1∧a1<(x84.length:Int) then (bnd (x84.getD a1.toNat Bj) (fun e177=>if 0≤a1∧a1<((x84.set a1.toNat ({ e177 with Name:=t171 })).length:Int) then (bnd ((x84.set a1.toNat ({ e177 with Name:=t171 })).getD a1.toNat Bj) (fun e181=>if 0≤a1∧a1<(((x84.set a1.toNat ({ e177 with Name:=t171 })).set a1.toNat ({ e181 with Kind:=w64 (b1+1) })).length:Int) then (bnd (((x84.set a1.toNat ({ e177 with Name:=t171 })).set a1.toNat ({ e181 with Kind:=w64 (b1+1) })).getD a1.toNat Bj) (fun e184=>Ed (Fh.f K e184.Ad (w64 ((w64 (b1+1))+1))) (fun t186 t187=>(if t187.length=e184.Ad.length then (if 0≤a1∧a1<((((x84.set a1.toNat ({ e177 with Name:=t171 })).set a1.toNat ({ e181 with Kind:=w64 (b1+1) })).set a1.toNat { e184 with Ad:=t187 }).length:Int) then (bnd ((((x84.set a1.toNat ({ e177 with Name:=t171 })).set a1.toNat ({ e181 with Kind:=w64 (b1+1) })).set a1.toNat { e184 with Ad:=t187 }).getD a1.toNat Bj) (fun e193=>Ed (C8.f K e193.Ae t186) (fun t195 t196=>(if t196.length=e193.Ae.length then (if 0≤a1∧a1<(((((x84.set a1.toNat ({ e177 with Name:=t171 })).set a1.toNat ({ e181 with Kind:=w64 (b1+1) })).set a1.toNat { e184 with Ad:=t187 }).set a1.toNat { e193 with Ae:=t196 }).length:Int) then (bnd (((((x84.set a1.toNat ({ e177 with Name:=t171 })).set a1.toNat ({ e181 with Kind:=w64 (b1+1) })).set a1.toNat { e184 with Ad:=t187 }).set a1.toNat { e193 with Ae:=t196 }).getD a1.toNat Bj) (fun e203=>if 0≤a1∧a1<((((((x84.set a1.toNat ({ e177 with Name:=t171 })).set a1.toNat ({ e181 with Kind:=w64 (b1+1) })).set a1.toNat { e184 with Ad:=t187 }).set a1.toNat { e193 with Ae:=t196 }).set a1.toNat ({ e203 with Al:=t195 })).length:Int) then (bnd ((((((x84.set a1.toNat ({ e177 with Name:=t171 })).set a1.toNat ({ e181 with Kind:=w64 (b1+1) })).set a1.toNat { e184 with Ad:=t187 }).set a1.toNat { e193 with Ae:=t196 }).set a1.toNat ({ e203 with Al:=t195 })).getD a1.toNat Bj) (fun e207=>if 0≤a1∧a1<(((((((x84.set a1.toNat ({ e177 with Name:=t171 })).set a1.toNat ({ e181 with Kind:=w64 (b1+1) })).set a1.toNat { e184 with Ad:=t187 }).set a1.toNat { e193 with Ae:=t196 }).set a1.toNat ({ e203 with Al:=t195 })).set a1.toNat ({ e207 with Ao:=w64 (t195+1) })).length:Int) then (bnd (((((((x84.set a1.toNat ({ e177 with Name:=t171 })).set a1.toNat ({ e181 with Kind:=w64 (b1+1) })).set a1.toNat { e184 with Ad:=t187 }).set a1.toNat { e193 with Ae:=t196 }).set a1.toNat ({ e203 with Al:=t195 })).set a1.toNat ({ e207 with Ao:=w64 (t195+1) })).getD a1.toNat Bj) (fun e210=>Ed (Ct.f K e210.Ay (w64 ((w64 (t195+1))+1))) (fun t212 t213=>(if t213.length=e210.Ay.length then (if 0≤a1∧a1<((((((((x84.set a1.toNat ({ e177 with Name:=t171 })).set a1.toNat ({ e181 with Kind:=w64 (b1+1) })).set a1.toNat { e184 with Ad:=t187 }).set a1.toNat { e193 with Ae:=t196 }).set a1.toNat ({ e203 with Al:=t195 })).set a1.toNat ({ e207 with Ao:=w64 (t195+1) })).set a1.toNat { e210 with Ay:=t213 }).length:Int) then (bnd ((((((((x84.set a1.toNat ({ e177 with Name:=t171 })).set a1.toNat ({ e181 with Kind:=w64 (b1+1) })).set a1.toNat { e184 with Ad:=t187 }).set a1.toNat { e193 with Ae:=t196 }).set a1.toNat ({ e203 with Al:=t195 })).set a1.toNat ({ e207 with Ao:=w64 (t195+1) })).set a1.toNat { e210 with Ay:=t213 }).getD a1.toNat Bj) (fun e220=>if 0≤a1∧a1<(((((((((x84.set a1.toNat ({ e177 with Name:=t171 })).set a1.toNat ({ e181 with Kind:=w64 (b1+1) })).set a1.toNat { e184 with Ad:=t187 }).set a1.toNat { e193 with Ae:=t196 }).set a1.toNat ({ e203 with Al:=t195 })).set a1.toNat ({ e207 with Ao:=w64 (t195+1) })).set a1.toNat { e210 with Ay:=t213 }).set a1.toNat ({ e220 with Am:=t212 })).length:Int) then (bnd (((((((((x84.set a1.toNat ({ e177 with Name:=t171 })).set a1.toNat ({ e181 with Kind:=w64 (b1+1) })).set a1.toNat { e184 with Ad:=t187 }).set a1.toNat { e193 with Ae:=t196 }).set a1.toNat ({ e203 with Al:=t195 })).set a1.toNat ({ e207 with Ao:=w64 (t195+1) })).set a1.toNat { e210 with Ay:=t213 }).set a1.toNat ({ e220 with Am:=t212 })).getD a1.toNat Bj) (fun e224=>if 0≤a1∧a1<((((((((((x84.set a1.toNat ({ e177 with Name:=t171 })).set a1.toNat ({ e181 with Kind:=w64 (b1+1) })).set a1.toNat { e184 with Ad:=t187 }).set a1.toNat { e193 with Ae:=t196 }).set a1.toNat ({ e203 with Al:=t195 })).set a1.toNat ({ e207 with Ao:=w64 (t195+1) })).set a1.toNat { e210 with Ay:=t213 }).set a1.toNat ({ e220 with Am:=t212 })).set a1.toNat ({ e224 with Aj:=w64 (t212+1) })).length:Int) then (bnd ((((((((((x84.set a1.toNat ({ e177 with Name:=t171 })).set a1.toNat ({ e181 with Kind:=w64 (b1+1) })).set a1.toNat { e184 with Ad:=t187 }).set a1.toNat { e193 with Ae:=t196 }).set a1.toNat ({ e203 with Al:=t195 })).set a1.toNat ({ e207 with Ao:=w64 (t195+1) })).set a1.toNat { e210 with Ay:=t213 }).set a1.toNat ({ e220 with Am:=t212 })).set a1.toNat ({ e224 with Aj:=w64 (t212+1) })).getD a1.toNat Bj) (fun e227=>Ed (Er.f K e227.Ag (w64 ((w64 (t212+1))+1))) (fun t229 t230=>(if t230.length=e227.Ag.length then (if 0≤a1∧a1<(((((((((((x84.set a1.toNat ({ e177 with Name:=t171 })).set a1.toNat ({ e181 with Kind:=w64 (b1+1) })).set a1.toNat { e184 with Ad:=t187 }).set a1.toNat { e193 with Ae:=t196 }).set a1.toNat ({ e203 with Al:=t195 })).set a1.toNat ({ e207 with Ao:=w64 (t195+1) })).set a1.toNat { e210 with Ay:=t213 }).set a1.toNat ({ e220 with Am:=t212 })).set a1.toNat ({ e224 with Aj:=w64 (t212+1) })).set a1.toNat { e227 with Ag:=t230 }).length:Int) then (bnd (((((((((((x84.set a1.toNat ({ e177 with Name:=t171 })).set a1.toNat ({ e181 with Kind:=w64 (b1+1) })).set a1.toNat { e184 with Ad:=t187 }).set a1.toNat { e193 with Ae:=t196 }).set a1.toNat ({ e203 with Al:=t195 })).set a1.toNat ({ e207 with Ao:=w64 (t195+1) })).set a1.toNat { e210 with Ay:=t213 }).set a1.toNat ({ e220 with Am:=t212 })).set a1.toNat ({ e224 with Aj:=w64 (t212+1) })).set a1.toNat { e227 with Ag:=t230 }).getD a1.toNat Bj) (fun e236=>Ed (Ct.f K e236.Ak t229) (fun t238 t239=>(if t239.length=e236.Ak.length then (if 0≤a1∧a1<((((((((((((x84.set a1.toNat ({ e177 with Name:=t171 })).set a1.toNat ({ e181 with Kind:=w64 (b1+1) })).set a1.toNat { e184 with Ad:=t187 }).set a1.toNat { e193 with Ae:=t196 }).set a1.toNat ({ e203 with Al:=t195 })).set a1.toNat ({ e207 with Ao:=w64 (t195+1) })).set a1.toNat { e210 with Ay:=t213 }).set a1.toNat ({ e220 with Am:=t212 })).set a1.toNat ({ e224 with Aj:=w64 (t212+1) })).set a1.toNat { e227 with Ag:=t230 }).set a1.toNat { e236 with Ak:=t239 }).length:Int) then (bnd ((((((((((((x84.set a1.toNat ({ e177 with Name:=t171 })).set a1.toNat ({ e181 with Kind:=w64 (b1+1) })).set a1.toNat { e184 with Ad:=t187 }).set a1.toNat { e193 with Ae:=t196 }).set a1.toNat ({ e203 with Al:=t195 })).set a1.toNat ({ e207 with Ao:=w64 (t195+1) })).set a1.toNat { e210 with Ay:=t213 }).set a1.toNat ({ e220 with Am:=t212 })).set a1.toNat ({ e224 with Aj:=w64 (t212+1) })).set a1.toNat { e227 with Ag:=t230 }).set a1.toNat { e236 with Ak:=t239 }).getD a1.toNat Bj) (fun e245=>Ed (Ct.f K e245.Ai t238) (fun t247 t248=>(if t248.length=e245.Ai.length then (Dz.l1 K k ((((((((((((x84.set a1.toNat ({ e177 with Name:=t171 })).set a1.toNat ({ e181 with Kind:=w64 (b1+1) })).set a1.toNat { e184 with Ad:=t187 }).set a1.toNat { e193 with Ae:=t196 }).set a1.toNat ({ e203 with Al:=t195 })).set a1.toNat ({ e207 with Ao:=w64 (t195+1) })).set a1.toNat { e210 with Ay:=t213 }).set a1.toNat ({ e220 with Am:=t212 })).set a1.toNat ({ e224 with Aj:=w64 (t212+1) })).set a1.toNat { e227 with Ag:=t230 }).set a1.toNat { e236 with Ak:=t239 }).set a1.toNat { e245 with Ai:=t248 }) t247 (w64 (a1+1))) else none)))) else none) else none)))) else none) else none)))) else none)) else none)) else none) else none)))) else none)) else none)) else none) else none)))) else none) else none)))) else none)) else none)) else none)) else (some (b1,x84))
def Dz.f (K:Nat) (a_:List Af) (k_:Int):Option (Int × (List Af)):=Dz.l1 K K a_ k_ 0
abbrev Dz.post (w0:World) (L:List Cn) (A_a:Option Addr) (c_a:Nat) (y_a:Nat→Aa.Lay) (r1:Int) (r2:List Af) (en:Ending) (w:World):Prop:=en=.returned (.int .i64 r1)∧St w0 w (Own Aa 62 A_a c_a y_a r2::L)
def Fp.l1 (K:Nat):Nat→(List (List Af))→Int→Int→Option (Int × (List (List Af)))
  | 0,_,_,_=>none
  | k+1,x9,b1,a1=>if a1<(x9.length:Int) then (if 0≤a1∧a1<(x9.length:Int) then (Ed (Dz.f K (x9.getD a1.toNat []) b1) (fun t22 t23=>(if t23.length=(x9.getD a1.toNat []).length then (Fp.l1 K k (x9.set a1.toNat t23) t22 (w64 (a1+1))) else none))) else none) else (some (b1,x9))
def Fp.f (K:Nat) (a_:List (List Af)) (k_:Int):Option (Int × (List (List Af))):=Fp.l1 K K a_ k_ 0
abbrev Fp.post (w0:World) (L:List Cn) (A_a:Option Addr) (c_a:Nat) (y_a:Nat→(Ty.slice 62 Aa).Lay) (r1:Int) (r2:List (List Af)) (en:Ending) (w:World):Prop:=en=.returned (.int .i64 r1)∧St w0 w (Own (Ty.slice 62 Aa) 44 A_a c_a y_a r2::L)
def J3.f (K:Nat) (a1:List Af) (c1:List (List Af)) (b1:List (List Af)) (k_:Int):Option (Int × (List Af) × (List (List Af)) × (List (List Af))):=Ed (Dz.f K a1 k_) (fun t3 t4=>(if t4.length=a1.length then (Ed (Fp.f K c1 t3) (fun t9 t10=>(if t10.length=c1.length then (Ed (Fp.f K b1 t9) (fun t15 t16=>(if t16.length=b1.length then (some (t15,t4,t10,t16)) else none))) else none))) else none))
abbrev J3.post (w0:World) (L:List Cn) (A_a:Option Addr) (c_a:Nat) (y_a:Nat→Aa.Lay) (A_b:Option Addr) (c_b:Nat) (y_b:Nat→(Ty.slice 62 Aa).Lay) (A_c:Option Addr) (c_c:Nat) (y_c:Nat→(Ty.slice 62 Aa).Lay) (r1:Int) (r2:List Af) (r3:List (List Af)) (r4:List (List Af)) (en:Ending) (w:World):Prop:=en=.returned (.int .i64 r1)∧St w0 w (Own Aa 62 A_a c_a y_a r2::Own (Ty.slice 62 Aa) 44 A_b c_b y_b r3::Own (Ty.slice 62 Aa) 44 A_c c_c y_c r4::L)
def Hq.f (K:Nat) (a1:List (List Br)) (k_:Int):Option (Int × (List (List Br))):=Ed (Fh.f K a1 k_) (fun t3 t4=>(if t4.length=a1.length then (some (t3,t4)) else none))
abbrev Hq.post (w0:World) (L:List Cn) (A_a:Option Addr) (c_a:Nat) (y_a:Nat→(Ty.slice 168 Az).Lay) (r1:Int) (r2:List (List Br)) (en:Ending) (w:World):Prop:=en=.returned (.int .i64 r1)∧St w0 w (Own (Ty.slice 168 Az) 161 A_a c_a y_a r2::L)
def Kj.f (K:Nat) (a1:List Ah) (b1:Int) (k_:Int):Option (Int × (List Ah)):=Ed (C8.f K a1 k_) (fun t3 t4=>(if t4.length=a1.length then (some (t3,t4)) else none))
abbrev Kj.post (w0:World) (L:List Cn) (A_a:Option Addr) (c_a:Nat) (r1:Int) (r2:List Ah) (en:Ending) (w:World):Prop:=en=.returned (.int .i64 r1)∧St w0 w (Own Au 163 A_a c_a (fun _=>()) r2::L)
def Ll.f (K:Nat) (b1:Int) (a1:List Int) (k_:Int):Option (Int × (List Int)):=Ed (Ct.f K a1 k_) (fun t3 t4=>(if t4.length=a1.length then (some (t3,t4)) else none))
abbrev Ll.post (w0:World) (L:List Cn) (A_a:Option Addr) (c_a:Nat) (r1:Int) (r2:List Int) (en:Ending) (w:World):Prop:=en=.returned (.int .i64 r1)∧St w0 w (Own (Bi .i64) 2 A_a c_a (fun _=>()) r2::L)
def Iu.f (K:Nat) (e1:Int) (d1:Int) (b1:List Cc) (c1:List Int) (a1:List Int) (k_:Int):Option (Int × (List Cc) × (List Int) × (List Int)):=Ed (Er.f K b1 k_) (fun t3 t4=>(if t4.length=b1.length then (Ed (Ct.f K c1 t3) (fun t9 t10=>(if t10.length=c1.length then (Ed (Ct.f K a1 t9) (fun t15 t16=>(if t16.length=a1.length then (some (t15,t4,t10,t16)) else none))) else none))) else none))
abbrev Iu.post (w0:World) (L:List Cn) (A_a:Option Addr) (c_a:Nat) (A_b:Option Addr) (c_b:Nat) (A_c:Option Addr) (c_c:Nat) (r1:Int) (r2:List Cc) (r3 r4:List Int) (en:Ending) (w:World):Prop:=en=.returned (.int .i64 r1)∧St w0 w (Own Ci 153 A_a c_a (fun _=>()) r2::Own (Bi .i64) 2 A_b c_b (fun _=>()) r3::Own (Bi .i64) 2 A_c c_c (fun _=>()) r4::L)
def La.f (K:Nat) (n1:ByteArray) (m1:Int) (d1:List (List Br)) (f1:List Ah) (k1:Int) (g1:Int) (a1:List Int) (i1:Int) (h1:Int) (c1:List Cc) (e1:List Int) (b1:List Int) (k_:Int):Option (Int × (List (List Br)) × (List Ah) × (List Int) × (List Cc) × (List Int) × (List Int)):=Ed (Hq.f K d1 k_) (fun t3 t4=>(if t4.length=d1.length then (Ed (Kj.f K f1 k1 t3) (fun t9 t10=>(if t10.length=f1.length then (Ed (Ll.f K g1 a1 t9) (fun t15 t16=>(if t16.length=a1.length then (Jv (Iu.f K i1 h1 c1 e1 b1 t15) (fun t21 t22 t23 t24=>(if t22.length=c1.length then (if t23.length=e1.length then (if t24.length=b1.length then (some (t21,t4,t10,t16,t22,t23,t24)) else none) else none) else none))) else none))) else none))) else none))
abbrev La.post (w0:World) (L:List Cn) (A_a:Option Addr) (c_a:Nat) (y_a:Nat→(Ty.slice 168 Az).Lay) (A_b:Option Addr) (c_b:Nat) (A_c:Option Addr) (c_c:Nat) (A_d:Option Addr) (c_d:Nat) (A_e:Option Addr) (c_e:Nat) (A_f:Option Addr) (c_f:Nat) (r1:Int) (r2:List (List Br)) (r3:List Ah) (r4:List Int) (r5:List Cc) (r6 r7:List Int) (en:Ending) (w:World):Prop:=en=.returned (.int .i64 r1)∧St w0 w (Own (Ty.slice 168 Az) 161 A_a c_a y_a r2::Own Au 163 A_b c_b (fun _=>()) r3::Own (Bi .i64) 2 A_c c_c (fun _=>()) r4::Own Ci 153 A_d c_d (fun _=>()) r5::Own (Bi .i64) 2 A_e c_e (fun _=>()) r6::Own (Bi .i64) 2 A_f c_f (fun _=>()) r7::L)
def J8.f (K:Nat) (o1:Int) (p1:ByteArray) (k1:ByteArray) (h1:Int) (b1:List (List Br)) (f1:List Ah) (n1:Int) (m1:Int) (e1:List Int) (i1:Int) (g1:Int) (a1:List Cc) (c1:List Int) (d1:List Int) (k_:Int):Option (Int × (List (List Br)) × (List Ah) × (List Int) × (List Cc) × (List Int) × (List Int)):=V9 (La.f K k1 h1 b1 f1 n1 m1 e1 i1 g1 a1 c1 d1 k_) (fun t3 t4 t5 t6 t7 t8 t9=>(if t4.length=b1.length then (if t5.length=f1.length then (if t6.length=e1.length then (if t7.length=a1.length then (if t8.length=c1.length then (if t9.length=d1.length then (some (t3,t4,t5,t6,t7,t8,t9)) else none) else none) else none) else none) else none) else none))
abbrev J8.post (w0:World) (L:List Cn) (A_a:Option Addr) (c_a:Nat) (y_a:Nat→(Ty.slice 168 Az).Lay) (A_b:Option Addr) (c_b:Nat) (A_c:Option Addr) (c_c:Nat) (A_d:Option Addr) (c_d:Nat) (A_e:Option Addr) (c_e:Nat) (A_f:Option Addr) (c_f:Nat) (r1:Int) (r2:List (List Br)) (r3:List Ah) (r4:List Int) (r5:List Cc) (r6 r7:List Int) (en:Ending) (w:World):Prop:=en=.returned (.int .i64 r1)∧St w0 w (Own (Ty.slice 168 Az) 161 A_a c_a y_a r2::Own Au 163 A_b c_b (fun _=>()) r3::Own (Bi .i64) 2 A_c c_c (fun _=>()) r4::Own Ci 153 A_d c_d (fun _=>()) r5::Own (Bi .i64) 2 A_e c_e (fun _=>()) r6::Own (Bi .i64) 2 A_f c_f (fun _=>()) r7::L)
def Ez.l1 (K:Nat):Nat→(List Br)→Int→Int→Option (Int)
  | 0,_,_,_=>none
  | k+1,a_,k_7,i_8=>if i_8<(a_.length:Int) then (if 0≤i_8∧i_8<(a_.length:Int) then (bnd (a_.getD i_8.toNat Md) (fun e17=>if e17.Tet=k_7 then (if e17.Perm=w64 (k_7+1) then (Ez.l1 K k a_ (w64 ((w64 (k_7+1))+1)) (w64 (i_8+1))) else (some (-1))) else (some (-1)))) else none) else (some k_7)
def Ez.f (K:Nat) (a_:List Br) (k_:Int):Option (Int):=Ez.l1 K K a_ k_ 0
abbrev Ez.post:=I4
def Gc.l1 (K:Nat):Nat→(List (List Br))→Int→Int→Option (Int)
  | 0,_,_,_=>none
  | k+1,a_,k_8,i_9=>if i_9<(a_.length:Int) then (if 0≤i_9∧i_9<(a_.length:Int) then ((Ez.f K (a_.getD i_9.toNat []) k_8).bind fun t19=>(if t19<0 then (some (-1)) else (Gc.l1 K k a_ t19 (w64 (i_9+1))))) else none) else (some k_8)
def Gc.f (K:Nat) (a_:List (List Br)) (k_:Int):Option (Int):=Gc.l1 K K a_ k_ 0
abbrev Gc.post:=I4
def Di.l1 (K:Nat):Nat→(List Ah)→Int→Int→Option (Int)
  | 0,_,_,_=>none
  | k+1,a_,a1,b1=>if b1<(a_.length:Int) then (if 0≤b1∧b1<(a_.length:Int) then (bnd (a_.getD b1.toNat Ar) (fun e23=>if e23.A=a1 then (if e23.B=w64 (a1+1) then (if e23.C=w64 ((w64 (a1+1))+1) then (if e23.D=w64 ((w64 ((w64 (a1+1))+1))+1) then (if e23.Sign=w64 ((w64 ((w64 ((w64 (a1+1))+1))+1))+1) then (Di.l1 K k a_ (w64 ((w64 ((w64 ((w64 ((w64 (a1+1))+1))+1))+1))+1)) (w64 (b1+1))) else (some (-1))) else (some (-1))) else (some (-1))) else (some (-1))) else (some (-1)))) else none) else (some a1)
def Di.f (K:Nat) (a_:List Ah) (k_:Int):Option (Int):=Di.l1 K K a_ k_ 0
abbrev Di.post:=I4
def Dp.l1 (K:Nat):Nat→(List Int)→Int→Int→Option (Int)
  | 0,_,_,_=>none
  | k+1,a_,k_4,i_5=>if i_5<(a_.length:Int) then (if 0≤i_5∧i_5<(a_.length:Int) then (if a_.getD i_5.toNat 0=k_4 then (Dp.l1 K k a_ (w64 (k_4+1)) (w64 (i_5+1))) else (some (-1))) else none) else (some k_4)
def Dp.f (K:Nat) (a_:List Int) (k_:Int):Option (Int):=Dp.l1 K K a_ k_ 0
abbrev Dp.post:=I4
def Fs.l1 (K:Nat):Nat→(List Cc)→Int→Int→Option (Int)
  | 0,_,_,_=>none
  | k+1,a_,k_8,i_9=>if i_9<(a_.length:Int) then (if 0≤i_9∧i_9<(a_.length:Int) then (bnd (a_.getD i_9.toNat Io) (fun e19=>if e19.Kind=k_8 then (if e19.Tet=w64 (k_8+1) then (if e19.Index=w64 ((w64 (k_8+1))+1) then (Fs.l1 K k a_ (w64 ((w64 ((w64 (k_8+1))+1))+1)) (w64 (i_9+1))) else (some (-1))) else (some (-1))) else (some (-1)))) else none) else (some k_8)
def Fs.f (K:Nat) (a_:List Cc) (k_:Int):Option (Int):=Fs.l1 K K a_ k_ 0
abbrev Fs.post:=I4
def Dy.l1 (K:Nat):Nat→(List Af)→Int→Int→Option (Int)
  | 0,_,_,_=>none
  | k+1,t,b1,a1=>if a1<(t.length:Int) then (if 0≤a1∧a1<(t.length:Int) then (bnd (t.getD a1.toNat Bj) (fun e93=>(Ex.f K b1).bind fun t95=>(if (seq e93.Name t95)=true then (if e93.Kind=w64 (b1+1) then ((Gc.f K e93.Ad (w64 ((w64 (b1+1))+1))).bind fun t101=>(if t101<0 then (some (-1)) else ((Di.f K e93.Ae t101).bind fun t106=>(if t106<0 then (some (-1)) else (if e93.Al=t106 then (if e93.Ao=w64 (t106+1) then ((Dp.f K e93.Ay (w64 ((w64 (t106+1))+1))).bind fun t113=>(if t113<0 then (some (-1)) else (if e93.Am=t113 then (if e93.Aj=w64 (t113+1) then ((Fs.f K e93.Ag (w64 ((w64 (t113+1))+1))).bind fun t120=>(if t120<0 then (some (-1)) else ((Dp.f K e93.Ak t120).bind fun t125=>(if t125<0 then (some (-1)) else ((Dp.f K e93.Ai t125).bind fun t130=>(if t130<0 then (some (-1)) else (Dy.l1 K k t t130 (w64 (a1+1))))))))) else (some (-1))) else (some (-1))))) else (some (-1))) else (some (-1))))))) else (some (-1))) else (some (-1))))) else none) else (some b1)
def Dy.f (K:Nat) (t:List Af) (o:Int):Option (Int):=Dy.l1 K K t o 0
abbrev Dy.post:=I4
def Fj.l1 (K:Nat):Nat→(List (List Af))→Int→Int→Option (Int)
  | 0,_,_,_=>none
  | k+1,a_,k_8,i_9=>if i_9<(a_.length:Int) then (if 0≤i_9∧i_9<(a_.length:Int) then ((Dy.f K (a_.getD i_9.toNat []) k_8).bind fun t19=>(if t19<0 then (some (-1)) else (Fj.l1 K k a_ t19 (w64 (i_9+1))))) else none) else (some k_8)
def Fj.f (K:Nat) (a_:List (List Af)) (k_:Int):Option (Int):=Fj.l1 K K a_ k_ 0
abbrev Fj.post:=I4
def J5.f (K:Nat) (a1:List Af) (c1:List (List Af)) (b1:List (List Af)) (k_:Int):Option (Int):=(Dy.f K a1 k_).bind fun t3=>(if t3<0 then (some (-1)) else ((Fj.f K c1 t3).bind fun t8=>(if t8<0 then (some (-1)) else ((Fj.f K b1 t8).bind fun t13=>(if t13<0 then (some (-1)) else (some t13))))))
abbrev J5.post:=I4
def Hf.f (K:Nat) (d1:List Af) (b1:List (List Af)) (n1:List (List Af)) (g1:Int) (f1:ByteArray) (k1:ByteArray) (h1:Int) (c1:List (List Br)) (s1:List Ah) (e1:Int) (r1:Int) (a1:List Int) (o1:Int) (i1:Int) (q1:List Cc) (m1:List Int) (p1:List Int):Option (Bool):=(Me.f K d1 b1 n1 1048576).bind fun t5=>(if t5<0 then (some true) else ((Kn.f K g1 f1 k1 h1 c1 s1 e1 r1 a1 o1 i1 q1 m1 p1 t5).bind fun t10=>(if t10<0 then (some true) else (M8 (Jc.f K d1 b1 n1) (fun t15 t16 t17=>(Qe (H7.f K g1 f1 k1 h1 c1 s1 e1 r1 a1 o1 i1 q1 m1 p1) (fun t30 t31 t32 t33 t34 t35 t36 t37 t38 t39 t40 t41 t42 t43=>(Jv (Jn.f K t15 t16 t17 t30 t31 t32 t33 t34 t35 t36 t37 t38 t39 t40 t41 t42 t43) (fun t60 t61 t62 t63=>(M8 (Jc.f K d1 b1 n1) (fun t79 t80 t81=>(Qe (H7.f K g1 f1 k1 h1 c1 s1 e1 r1 a1 o1 i1 q1 m1 p1) (fun t97 t98 t99 t100 t101 t102 t103 t104 t105 t106 t107 t108 t109 t110=>(Jv (Il.f K t79 t80 t81 t97 t98 t99 t100 t101 t102 t103 t104 t105 t106 t107 t108 t109 t110) (fun t130 t131 t132 t133=>((Hr.f K t130 t131 t132 t60 t61 t62).bind fun t154=>(if t154=true then (if t133=t63 then (M8 (Jc.f K d1 b1 n1) (fun t160 t161 t162=>((Hr.f K t79 t80 t81 t160 t161 t162).bind fun t175=>(if t175=true then (Qe (H7.f K g1 f1 k1 h1 c1 s1 e1 r1 a1 o1 i1 q1 m1 p1) (fun t180 t181 t182 t183 t184 t185 t186 t187 t188 t189 t190 t191 t192 t193=>((K9.f K t97 t98 t99 t100 t101 t102 t103 t104 t105 t106 t107 t108 t109 t110 t180 t181 t182 t183 t184 t185 t186 t187 t188 t189 t190 t191 t192 t193).bind fun t210=>(if t210=true then (Jv (J3.f K t79 t80 t81 1) (fun t215 t216 t217 t218=>(if t216.length=t79.length then (if t217.length=t80.length then (if t218.length=t81.length then (V9 (J8.f K t97 t98 t99 t100 t101 t102 t103 t104 t105 t106 t107 t108 t109 t110 t215) (fun t225 t226 t227 t228 t229 t230 t231=>(if t226.length=t101.length then (if t227.length=t102.length then (if t228.length=t105.length then (if t229.length=t108.length then (if t230.length=t109.length then (if t231.length=t110.length then (if t225<0 then (some false) else ((Hr.f K t130 t131 t132 t60 t61 t62).bind fun t248=>(if t248=true then (Jv (J3.f K t130 t131 t132 1) (fun t253 t254 t255 t256=>(if t254.length=t130.length then (if t255.length=t131.length then (if t256.length=t132.length then ((J5.f K t254 t255 t256 1).bind fun t263=>(if t263<0 then (some false) else (if t263=t253 then (M8 (Jc.f K d1 b1 n1) (fun t269 t270 t271=>(Qe (H7.f K g1 f1 k1 h1 c1 s1 e1 r1 a1 o1 i1 q1 m1 p1) (fun t284 t285 t286 t287 t288 t289 t290 t291 t292 t293 t294 t295 t296 t297=>(Jv (Il.f K t269 t270 t271 t284 t285 t286 t287 t288 t289 t290 t291 t292 t293 t294 t295 t296 t297) (fun t314 t315 t316 t317=>((Hr.f K t314 t315 t316 t60 t61 t62).bind fun t338=>(if t338=true then (if t317=t63 then ((J5.f K t254 t255 t256 1).bind fun t344=>(if t344<0 then (some false) else (if t344=t253 then (some true) else (some false)))) else (some false)) else (some false))))))))) else (some false)))) else none) else none) else none))) else (some false)))) else none) else none) else none) else none) else none) else none))) else none) else none) else none))) else (some false))))) else (some false))))) else (some false)) else (some false))))))))))))))))))
abbrev Hf.post:=Ga
end Go.Proofs.YtjopfecenllmgaaGreatDoor
