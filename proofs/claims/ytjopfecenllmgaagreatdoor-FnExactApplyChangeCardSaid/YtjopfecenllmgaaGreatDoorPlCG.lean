/-
  UndoBench: both undo alike.
  RedoBench: both redo alike.
  FindItem: a binary search among sorted names finds what looking at all finds.
  What is left of a row out of which a part is cut.
  DropItem: both drop alike.
  PutItem: where an item goes, and the two ways of putting it there.
  PutItem: both put alike.
  ApplyChange: both take the same changes for valid, and change alike.
  The law's own words about benches.
  Marks of lists of items and of benches.
  Benches and items measured and marked in a law that hands both.
-/
import Derived.Test.YtjopfecenllmgaaGreatDoorPlBOA
import Derived.Test.YtjopfecenllmgaaGreatDoorSlU
set_option linter.unusedSimpArgs false
set_option linter.unusedVariables false
namespace Go.Proofs.YtjopfecenllmgaaGreatDoor
open Go.RowKit
theorem jL {I:List Af} {U R:List (List Af)} (hI:I.length≤2000000) (hIs:∀ i,i<I.length→Small (I.getD i Bj)) (hU:F6 U) (hR:F6 R):∃ (A:List Af) (B C:List (List Af)) (c:Int),
    Ab (fun K=>Kr.f K I U R) (A,B,C,c)∧Ab (fun K=>Hw.f K I U R) (A,B,C,c)∧A.length≤2000000∧(∀ i,i<A.length→Small (A.getD i Bj))∧F6 B∧F6 C∧Gy A+Dm B+Dm C≤Gy I+Dm U+Dm R:=by
  obtain ⟨b,b1,b2,_,b3⟩:=Q3 hI hIs hU hR
  have e0:F6 []:=⟨by simp,fun i hi=>by simp at hi⟩
  have z0:Gy []+Dm []+Dm []≤Gy I+Dm U+Dm R:=by
    have h1:Gy []=0:=rfl
    have h2:Dm []=0:=rfl
    omega
  unfold Kr.f Hw.f
  cases b with
  | false=>exact ⟨[],[],[],1,Ab.bind b1 (Ab.neg (by decide) (Ab.const _)),Ab.bind b2 (Ab.neg (by decide) (Ab.const _)),by simp,fun i hi=>by simp at hi,e0,e0,z0⟩
  | true =>
    obtain ⟨⟨u6,r6⟩,_⟩:=b3 rfl
    by_cases hn:(U.length:Int)=0
    · exact ⟨[],[],[],5,Ab.bind b1 (Ab.pos rfl (Ab.pos hn (Ab.const _))),Ab.bind b2 (Ab.pos rfl (Ab.pos hn (Ab.const _))),by simp,fun i hi=>by simp at hi,e0,e0,z0⟩
    · have hlt:U.length - 1<U.length:=by omega
      have hw:w64 ((U.length:Int) - 1)=((U.length - 1:Nat):Int):=by rw [Ip (by omega) (by omega)]; omega
      have hlast:=hU.2 (U.length - 1) hlt
      have hT:F6 ((U.take (U.length - 1)).drop 0):=by
        rw [List.drop_zero]
        exact F6.of (by rw [List.length_take]; omega) (fun y hy=>hU.mem (List.mem_of_mem_take hy))
      refine ⟨U.getD (U.length - 1) [],(U.take (U.length - 1)).drop 0,push R I,0,?_,?_,hlast.1,hlast.2,hT,hR.push r6 hI hIs,?_⟩
      · refine Ab.bind b1 (Ab.pos rfl (Ab.neg hn ?_))
        simp only [hw,Int.toNat_natCast]
        exact Ab.pos (by omega) (Ab.bind (Tf hlast.1 hlast.2) (Ab.pos (by omega) (Ab.bind (Vi hT) (Ab.bind (Tu hR hI hIs) (Ab.const _)))))
      · refine Ab.bind b2 (Ab.pos rfl (Ab.neg hn ?_))
        refine Ab.M8 (F:=fun K=>Gu.f K I U R) (Ab.bind (Px hI hIs) (Ab.bind (Oh hU) (Ab.bind (Oh hR) (Ab.const _)))) ?_
        simp only [hw,Int.toNat_natCast]
        refine Ab.pos (by omega) (Ab.pos (by omega) ?_)
        rw [Tq r6]
        exact Ab.const _
      · have h1:=U8 hlt
        have h2:=Qm R I
        rw [List.drop_zero]
        omega
theorem jX {I:List Af} {U R:List (List Af)} (hI:I.length≤2000000) (hIs:∀ i,i<I.length→Small (I.getD i Bj)) (hU:F6 U) (hR:F6 R):∃ (A:List Af) (B C:List (List Af)) (c:Int),
    Ab (fun K=>Ko.f K I U R) (A,B,C,c)∧Ab (fun K=>Kv.f K I U R) (A,B,C,c)∧A.length≤2000000∧(∀ i,i<A.length→Small (A.getD i Bj))∧F6 B∧F6 C∧Gy A+Dm B+Dm C≤Gy I+Dm U+Dm R:=by
  obtain ⟨b,b1,_,b2,b3⟩:=Q3 hI hIs hU hR
  have e0:F6 []:=⟨by simp,fun i hi=>by simp at hi⟩
  have z0:Gy []+Dm []+Dm []≤Gy I+Dm U+Dm R:=by
    have h1:Gy []=0:=rfl
    have h2:Dm []=0:=rfl
    omega
  unfold Ko.f Kv.f
  cases b with
  | false =>
    have hu:Ab (fun K=>Hw.f K I R U) (([]:List Af),([]:List (List Af)),([]:List (List Af)),1):=Ab.bind b2 (Ab.neg (by decide) (Ab.const _))
    exact ⟨[],[],[],1,Ab.bind b1 (Ab.neg (by decide) (Ab.const _)),Ab.Jv hu (Ab.const _),by simp,fun i hi=>by simp at hi,e0,e0,z0⟩
  | true =>
    obtain ⟨⟨u6,r6⟩,_⟩:=b3 rfl
    by_cases hn:(R.length:Int)=0
    · have hu:Ab (fun K=>Hw.f K I R U) (([]:List Af),([]:List (List Af)),([]:List (List Af)),5):=Ab.bind b2 (Ab.pos rfl (Ab.pos hn (Ab.const _)))
      exact ⟨[],[],[],5,Ab.bind b1 (Ab.pos rfl (Ab.pos hn (Ab.const _))),Ab.Jv hu (Ab.const _),by simp,fun i hi=>by simp at hi,e0,e0,z0⟩
    · have hlt:R.length - 1<R.length:=by omega
      have hw:w64 ((R.length:Int) - 1)=((R.length - 1:Nat):Int):=by rw [Ip (by omega) (by omega)]; omega
      have hlast:=hR.2 (R.length - 1) hlt
      have hT:F6 ((R.take (R.length - 1)).drop 0):=by
        rw [List.drop_zero]
        exact F6.of (by rw [List.length_take]; omega) (fun y hy=>hR.mem (List.mem_of_mem_take hy))
      have hu:Ab (fun K=>Hw.f K I R U) (R.getD (R.length - 1) [],(R.take (R.length - 1)).drop 0,push U I,0):=by
        refine Ab.bind b2 (Ab.pos rfl (Ab.neg hn ?_))
        refine Ab.M8 (F:=fun K=>Gu.f K I R U) (Ab.bind (Px hI hIs) (Ab.bind (Oh hR) (Ab.bind (Oh hU) (Ab.const _)))) ?_
        simp only [hw,Int.toNat_natCast]
        refine Ab.pos (by omega) (Ab.pos (by omega) ?_)
        rw [Tq u6]
        exact Ab.const _
      refine ⟨R.getD (R.length - 1) [],push U I,(R.take (R.length - 1)).drop 0,0,?_,Ab.Jv hu (Ab.const _),hlast.1,hlast.2,hU.push u6 hI hIs,hT,?_⟩
      · refine Ab.bind b1 (Ab.pos rfl (Ab.neg hn ?_))
        simp only [hw,Int.toNat_natCast]
        exact Ab.pos (by omega) (Ab.bind (Tf hlast.1 hlast.2) (Ab.bind (Tu hU hI hIs) (Ab.pos (by omega) (Ab.bind (Vi hT) (Ab.const _)))))
      · have h1:=U8 hlt
        have h2:=Qm U I
        rw [List.drop_zero]
        omega
theorem lV:∀ (a b:List UInt8),Lib.compareBytes a b<0↔Op.bytesLess a b=true
  | [],[]=>by simp [Lib.compareBytes,Op.bytesLess]
  | [],_::_=>by simp [Lib.compareBytes,Op.bytesLess]
  | _::_,[]=>by simp [Lib.compareBytes,Op.bytesLess]
  | a::x,b::y=>by
    have ih:=lV x y
    unfold Lib.compareBytes Op.bytesLess
    by_cases h1:a<b
    · simp [h1]
    · by_cases h2:b<a
      · have hne:a≠b:=fun e=>by rw [e] at h2; exact absurd h2 (UInt8.lt_irrefl b)
        simp [h1,h2,hne]
      · have he:a=b:=UInt8.le_antisymm (UInt8.not_lt.1 h2) (UInt8.not_lt.1 h1)
        simp [h1,h2,he,ih]
theorem X7:∀ (a b:List UInt8),Lib.compareBytes a b=0↔a=b
  | [],[]=>by simp [Lib.compareBytes]
  | [],_::_=>by simp [Lib.compareBytes]
  | _::_,[]=>by simp [Lib.compareBytes]
  | a::x,b::y=>by
    have ih:=X7 x y
    unfold Lib.compareBytes
    by_cases h1:a<b
    · have hne:a≠b:=fun e=>by rw [e] at h1; exact absurd h1 (UInt8.lt_irrefl b)
      simp [h1,hne]
    · by_cases h2:b<a
      · have hne:a≠b:=fun e=>by rw [e] at h2; exact absurd h2 (UInt8.lt_irrefl b)
        simp [h1,h2,hne]
      · have he:a=b:=UInt8.le_antisymm (UInt8.not_lt.1 h2) (UInt8.not_lt.1 h1)
        simp [h1,h2,he,ih]
theorem dA:∀ {a b c:List UInt8},Op.bytesLess a b=true→Op.bytesLess b c=true→Op.bytesLess a c=true
  | _,[],_,h,_=>by cases ‹List UInt8› <;> simp [Op.bytesLess] at h
  | _,_::_,[],_,h=>by simp [Op.bytesLess] at h
  | [],_::_,_::_,_,_=>by simp [Op.bytesLess]
  | a::x,b::y,c::z,h,g=>by
    simp only [Op.bytesLess,Bool.or_eq_true,Bool.and_eq_true,decide_eq_true_eq,beq_iff_eq] at h g ⊢
    rcases h with h | ⟨rfl,h⟩
    · rcases g with g | ⟨rfl,g⟩
      · exact .inl (UInt8.lt_trans h g)
      · exact .inl h
    · rcases g with g | ⟨rfl,g⟩
      · exact .inl g
      · exact .inr ⟨rfl,dA h g⟩
theorem Uy (a b:ByteArray):Rk a b<0↔slt a b=true:=by unfold Rk slt; rw [ByteArray.toList_eq,ByteArray.toList_eq]; exact lV _ _
theorem Tm (a b:ByteArray):Rk a b=0↔seq a b=true:=by unfold Rk seq; rw [ByteArray.toList_eq,ByteArray.toList_eq,beq_iff_eq]; exact X7 _ _
theorem Tj {a b c:ByteArray} (h:slt a b=true) (g:slt b c=true):slt a c=true:=dA h g
abbrev nm (xs:List Af) (i:Nat):ByteArray:=(xs.getD i Bj).Name
theorem half {lo hi:Nat} (h:lo<hi) (hn:hi≤2000000):w64 ((IntKind.wrap .u64 (w64 ((lo:Int)+(hi:Int)))) / 2 ^ 1)=(((lo+hi) / 2:Nat):Int):=by
  have e1:w64 ((lo:Int)+(hi:Int))=((lo+hi:Nat):Int):=by rw [Ip (by omega) (by omega)]; omega
  have e2:IntKind.wrap .u64 ((lo+hi:Nat):Int)=((lo+hi:Nat):Int):=by
    show ((lo+hi:Nat):Int) % 18446744073709551616=_
    omega
  rw [e1,e2,show (2:Int) ^ 1=2 by decide,Ip (by omega) (by omega)]
  omega
theorem X3 (x:Af) (t:ByteArray):Jl.f x.Name x.Kind x.Ad x.Ae x.Al x.Ao x.Ay x.Am x.Aj x.Ag x.Ak x.Ai t=some (Rk x.Name t):=rfl
theorem aJ {xs:List Af} {t:ByteArray} (hn:xs.length≤2000000):∀ (m lo hi:Nat),hi - lo≤m→lo≤hi→hi≤xs.length→∃ p:Nat,lo≤p∧p≤hi∧(p<hi→¬ Rk (nm xs p) t<0)∧(lo<p→Rk (nm xs (p - 1)) t<0) ∧
    Ac (fun K k=>Ap.l1 K k xs t (lo:Int) (hi:Int)) ((p:Int),decide (p<xs.length∧Rk (nm xs p) t=0))
  | m,lo,hi,hm,hlo,hhi=>by
    by_cases hlt:lo<hi
    · have hh:=half hlt (by omega)
      have h1:lo≤(lo+hi) / 2:=by omega
      have h2:(lo+hi) / 2<hi:=by omega
      generalize hg:(lo+hi) / 2=h at hh h1 h2
      have hs:∀ K k,Ap.l1 K (k+1) xs t (lo:Int) (hi:Int)=if Rk (nm xs h) t<0 then Ap.l1 K k xs t ((h+1:Nat):Int) (hi:Int) else Ap.l1 K k xs t (lo:Int) (h:Int):=fun K k=>by
        rw [Ap.l1,if_pos (by omega),hh,if_pos (by omega),Int.toNat_natCast,F5,X3,Option.bind_some,Ce (by omega)]
      cases m with
      | zero=>omega
      | succ m =>
        by_cases hc:Rk (nm xs h) t<0
        · obtain ⟨p,p1,p2,p3,p4,p5⟩:=aJ hn m (h+1) hi (by omega) (by omega) hhi
          refine ⟨p,by omega,p2,p3,fun hp=>?_,Ac.step hs (Ac.pos hc p5)⟩
          by_cases e:p=h+1
          · rw [e,Nat.add_sub_cancel]; exact hc
          · exact p4 (by omega)
        · obtain ⟨p,p1,p2,p3,p4,p5⟩:=aJ hn m lo h (by omega) h1 (by omega)
          refine ⟨p,p1,by omega,fun hp=>?_,p4,Ac.step hs (Ac.neg hc p5)⟩
          by_cases e:p=h
          · rw [e]; exact hc
          · exact p3 (by omega)
    · obtain rfl:lo=hi:=by omega
      refine ⟨lo,Nat.le_refl _,Nat.le_refl _,fun h=>absurd h (Nat.lt_irrefl _),fun h=>absurd h (Nat.lt_irrefl _),Ac.of fun K k=>?_⟩
      rw [Ap.l1,if_neg (by omega)]
      by_cases hl:lo<xs.length
      · rw [if_pos (by omega),if_pos (by omega),Int.toNat_natCast,F5,X3,Option.bind_some]
        have e:(lo<xs.length∧Rk (nm xs lo) t=0)↔Rk (nm xs lo) t=0:=⟨fun h=>h.2,fun h=>⟨hl,h⟩⟩
        simp only [e]
      · rw [if_neg (by omega),decide_eq_false (fun h=>hl h.1)]
theorem Tt {xs:List Af} {t:ByteArray} (hn:xs.length≤2000000):∃ p:Nat,p≤xs.length∧(p<xs.length→¬ Rk (nm xs p) t<0)∧(0<p→Rk (nm xs (p - 1)) t<0)∧Ab (fun K=>Kw.f K xs t) ((p:Int),decide (p<xs.length∧Rk (nm xs p) t=0)):=by
  obtain ⟨p,p1,p2,p3,p4,p5⟩:=aJ (t:=t) hn xs.length 0 xs.length (by omega) (by omega) (Nat.le_refl _)
  exact ⟨p,p2,p3,p4,Ab.Ed (F:=fun K=>Ap.f K xs t) p5.I5 (Ab.const _)⟩
theorem gV {xs:List Af} {t:ByteArray} (hn:xs.length≤2000000):∃ v:Int,Ab (fun K=>Eh.f K xs t) v∧(v = -1∧(∀ j,j<xs.length→seq (nm xs j) t=false)∨∃ j:Nat,v=(j:Int)∧j<xs.length∧seq (nm xs j) t=true):=by
  obtain ⟨v,tv,e⟩:∃ v,Ac (fun K k=>Eh.l1 K k xs t ((0:Nat):Int)) v∧(v = -1∧(∀ j,0≤j→j<xs.length→seq (nm xs j) t=false)∨∃ j:Nat,v=(j:Int)∧j<xs.length∧seq (nm xs j) t=true):=by
    have go:∀ m i:Nat,xs.length - i=m→∃ v,Ac (fun K k=>Eh.l1 K k xs t (i:Int)) v∧(v = -1∧(∀ j,i≤j→j<xs.length→seq (nm xs j) t=false)∨∃ j:Nat,v=(j:Int)∧j<xs.length∧seq (nm xs j) t=true):=by
      intro m
      induction m with
      | zero =>
        intro i hi
        exact ⟨-1,Ac.of fun K k=>by rw [Eh.l1,if_neg (by omega)],.inl ⟨rfl,fun j h1 h2=>by omega⟩⟩
      | succ m ih =>
        intro i hi
        have hs:∀ K k,Eh.l1 K (k+1) xs t (i:Int)=if seq (nm xs i) t=true then some (i:Int) else Eh.l1 K k xs t ((i+1:Nat):Int):=fun K k=>by
          rw [Eh.l1,if_pos (by omega),if_pos (by omega),Int.toNat_natCast,F5,Ce (by omega)]
        cases hq:seq (nm xs i) t with
        | true=>exact ⟨(i:Int),Ac.step hs (Ac.pos hq (Ac.const _)),.inr ⟨i,rfl,by omega,hq⟩⟩
        | false =>
          obtain ⟨v,tv,e⟩:=ih (i+1) (by omega)
          refine ⟨v,Ac.step hs (Ac.neg (by rw [hq]; decide) tv),e.imp (fun ⟨e1,e2⟩=>⟨e1,fun j h1 h2=>?_⟩) id⟩
          by_cases hj:j=i
          · rw [hj]; exact hq
          · exact e2 j (by omega) h2
    exact go xs.length 0 (by omega)
  exact ⟨v,tv.I5,e.imp (fun ⟨e1,e2⟩=>⟨e1,fun j hj=>e2 j (Nat.zero_le _) hj⟩) id⟩
theorem Rt {xs:List Af} (h:∀ i,0<i→i<xs.length→slt (nm xs (i - 1)) (nm xs i)=true):∀ (m i:Nat),i+m+1<xs.length→slt (nm xs i) (nm xs (i+m+1))=true
  | 0,i,hi=>by have:=h (i+1) (by omega) (by omega); rwa [Nat.add_sub_cancel] at this
  | m+1,i,hi=>Tj (Rt h m i (by omega)) (by have:=h (i+(m+1)+1) (by omega) hi; rwa [Nat.add_sub_cancel] at this)
theorem bF {a t:ByteArray} (h:seq a t=true):Rk a t=0:=(Tm a t).2 h
theorem jG {xs:List Af} {t:ByteArray} (hn:xs.length≤2000000) (h:∀ i,0<i→i<xs.length→slt (nm xs (i - 1)) (nm xs i)=true):∃ (v:Int) (p:Int) (q:Bool),
    Ab (fun K=>Eh.f K xs t) v∧Ab (fun K=>Kw.f K xs t) (p,q)∧(v<0∧q=false∨q=true∧v=p∧0≤p∧p<(xs.length:Int)):=by
  obtain ⟨v,tv,e⟩:=gV (t:=t) hn
  obtain ⟨p,p1,p3,p4,p5⟩:=Tt (t:=t) hn
  refine ⟨v,_,_,tv,p5,?_⟩
  rcases e with ⟨e1,e2⟩ | ⟨j,e1,hj,e2⟩
  · refine .inl ⟨by omega,decide_eq_false fun ⟨h1,h2⟩=>?_⟩
    have:=e2 p h1
    rw [(Tm _ _).1 h2] at this
    cases this
  · have hz:=bF e2
    have hpj:p=j:=by
      rcases Nat.lt_trichotomy p j with hlt | heq | hgt
      · have h1:=Rt h (j - p - 1) p (by omega)
        rw [show p+(j - p - 1)+1=j by omega] at h1
        have h2:=p3 (by omega)
        rw [Uy] at h2
        have hjt:nm xs j=t∨slt (nm xs p) t=true:=by
          have h3:=hz
          unfold Rk at h3
          have:=(X7 _ _).1 h3
          right
          unfold slt at h1 ⊢
          rw [ByteArray.toList_eq,ByteArray.toList_eq] at h1 ⊢
          rw [← this]
          exact h1
        rcases hjt with hjt | hjt
        · rw [hjt] at h1; exact absurd h1 h2
        · exact absurd hjt h2
      · exact heq
      · have h1:=p4 (by omega)
        rw [Uy] at h1
        have h2:slt (nm xs j) t=true:=by
          by_cases e:j=p - 1
          · rw [e]; exact h1
          · have h3:=Rt h (p - 1 - j - 1) j (by omega)
            rw [show j+(p - 1 - j - 1)+1=p - 1 by omega] at h3
            exact Tj h3 h1
        rw [← Uy] at h2
        omega
    subst hpj
    exact .inr ⟨decide_eq_true ⟨hj,hz⟩,by omega,by omega,by omega⟩
theorem Y3 {n j:Nat} (h:j≤n):List.range n=List.range j++List.range' j (n - j):=by
  rw [List.range_eq_range',List.range_eq_range']
  have:=@List.range'_append 0 j (n - j) 1
  rw [Nat.zero_add,Nat.one_mul] at this
  rw [this,show j+(n - j)=n by omega]
theorem map_take {α:Type} (z:α) (xs:List α) {i:Nat} (h:i≤xs.length):(List.range i).map (fun k=>xs.getD k z)=xs.take i:=by
  apply List.ext_getElem?
  intro k
  rw [List.getElem?_map,List.getElem?_take]
  by_cases hk:k<i
  · rw [if_pos hk,List.getElem?_range hk,Option.map_some,List.getD_eq_getElem?_getD,List.getElem?_eq_getElem (by omega)]; rfl
  · rw [if_neg hk,List.getElem?_eq_none (by rw [List.length_range]; omega)]; rfl
theorem map_drop {α:Type} (z:α) (xs:List α) {j:Nat} (h:j≤xs.length):(List.range' j (xs.length - j)).map (fun k=>xs.getD k z)=xs.drop j:=by
  apply List.ext_getElem?
  intro k
  rw [List.getElem?_map,List.getElem?_drop]
  by_cases hk:k<xs.length - j
  · rw [List.getElem?_range' hk,Option.map_some,Nat.one_mul,List.getD_eq_getElem?_getD,List.getElem?_eq_getElem (by omega)]; rfl
  · rw [List.getElem?_eq_none (by rw [List.length_range']; omega),List.getElem?_eq_none (by omega)]; rfl
theorem dK {α:Type} (z:α) (xs:List α) {i j:Nat} (hij:i≤j) (hj:j≤xs.length):Ii z xs ((allRows xs.length).take i++(allRows xs.length).drop j)=some (xs.take i++xs.drop j):=by
  have h1:(allRows xs.length).take i=(List.range i).map some:=by
    unfold allRows
    rw [Y3 (show i≤xs.length by omega),List.map_append,List.take_left' (by simp)]
  have h2:(allRows xs.length).drop j=(List.range' j (xs.length - j)).map some:=by
    unfold allRows
    rw [Y3 hj,List.map_append,List.drop_left' (by simp)]
  rw [h1,h2,← List.map_append]
  have hm:((List.range i++List.range' j (xs.length - j)).map some).map (·.getD 0)=List.range i++List.range' j (xs.length - j):=by
    rw [List.map_map]
    exact List.map_id'' (fun _=>rfl) _
  unfold Ii
  rw [hm,if_pos,List.map_append,map_take z xs (by omega),map_drop z xs hj]
  refine ⟨rfl,List.pairwise_append.2 ⟨List.pairwise_lt_range,List.pairwise_lt_range' ..,fun a ha b hb=>?_⟩,fun k hk=>?_⟩
  · have:=List.mem_range.1 ha
    have:=(List.mem_range'_1.1 hb).1
    omega
  · rcases List.mem_append.1 hk with hk | hk
    · have:=List.mem_range.1 hk; omega
    · have:=(List.mem_range'_1.1 hk).2; omega
theorem Xc {α:Type} {xs:List α} {i j:Nat} (hij:i≤j) (hj:j≤xs.length):(over xs i (xs.drop j)).take (i+(xs.length - j))=xs.take i++xs.drop j:=by
  unfold over
  exact List.take_left' (by rw [List.length_append,List.length_take,List.length_drop]; omega)
theorem kC {α:Type} {xs zs:List α} {i j:Nat} (hij:i≤j) (hj:j≤xs.length):(over (over xs i (xs.drop j)) (i+(xs.length - j)) zs).take (i+(xs.length - j))=xs.take i++xs.drop j:=by
  rw [← Xc hij hj]
  have hl:(over xs i (xs.drop j)).length=xs.length:=Ls (by rw [List.length_drop]; omega)
  generalize hY:over xs i (xs.drop j)=ys at hl ⊢
  unfold over
  rw [List.append_assoc]
  exact List.take_left' (by rw [List.length_take]; omega)
theorem Pp (xs:List Af):Gy xs=(xs.map L9).sum:=Uu L9 Bj xs 0 _ (fun j _=>by rw [Nat.zero_add])
theorem fV {xs:List Af} {j:Nat} (h:j<xs.length):Gy (xs.take j++xs.drop (j+1))≤Gy xs:=by
  have hx:xs=xs.take j++(xs[j]::xs.drop (j+1)):=by rw [← List.drop_eq_getElem_cons h,List.take_append_drop]
  have h2:(xs.map L9).sum=((xs.take j++(xs[j]::xs.drop (j+1))).map L9).sum:=congrArg (fun l=>(l.map L9).sum) hx
  rw [List.map_append,List.sum_append,List.map_cons,List.sum_cons] at h2
  rw [Pp,Pp,h2,List.map_append,List.sum_append]
  omega
theorem Rl {xs:List Af} (h:∀ i,i<xs.length→Small (xs.getD i Bj)) {x:Af} (hx:x ∈ xs):Small x:=by
  obtain ⟨i,hi,rfl⟩:=List.getElem_of_mem hx
  have:=h i hi
  rw [List.getD_eq_getElem?_getD,List.getElem?_eq_getElem hi] at this
  exact this
theorem jE {xs:List Af} (h:∀ i,i<xs.length→Small (xs.getD i Bj)) (j:Nat):∀ i,i<(xs.take j++xs.drop (j+1)).length→Small ((xs.take j++xs.drop (j+1)).getD i Bj):=fun i hi=>by
  have hm:=Pj Bj hi
  rcases List.mem_append.1 hm with hm | hm
  · exact Rl h (List.mem_of_mem_take hm)
  · exact Rl h (List.mem_of_mem_drop hm)
theorem jY {s:List Af} {j:Nat} (hj:j<s.length):Dr.f s (j:Int) ((j+1:Nat):Int)=some (s.take j++s.drop (j+1)):=by
  unfold Dr.f
  have hR:(allRows s.length).length=s.length:=I6 _
  have hp:=dK Bj s (i:=j) (j:=j+1) (by omega) (by omega)
  generalize allRows s.length=R at hR hp ⊢
  have hm:(((over R j (R.drop (j+1))).take (j+(R.length - (j+1)))).drop 0).length=j+(R.length - (j+1)):=by
    rw [List.drop_zero,Xc (by omega) (by omega),List.length_append,List.length_take,List.length_drop]
    omega
  have hl:(over R j (R.drop (j+1))).length=R.length:=Ls (by rw [List.length_drop]; omega)
  rw [if_pos (by omega),if_pos (by omega),if_neg (by omega),if_pos (by omega),if_pos (by omega)]
  simp only [Int.toNat_natCast]
  rw [if_pos (by omega),hm,if_pos (by omega),if_pos (by omega),if_pos,kC (by omega) (by omega),hp]
  · rfl
  · unfold over
    simp only [List.length_append,List.length_take,List.length_drop]
    omega
theorem jZ {I:List Af} {U R:List (List Af)} (hI:I.length≤2000000) (hIs:∀ i,i<I.length→Small (I.getD i Bj)) (hU:F6 U) (hR:F6 R) (t:ByteArray):∃ (A:List Af) (B C:List (List Af)) (c:Int),
    Ab (fun K=>Lc.f K I U R t) (A,B,C,c)∧Ab (fun K=>K8.f K I U R t) (A,B,C,c)∧A.length≤2000000∧(∀ i,i<A.length→Small (A.getD i Bj))∧F6 B∧F6 C∧Gy A+Dm B+Dm C≤2 * (Gy I+Dm U+Dm R):=by
  obtain ⟨b,b1,b2,_,b3⟩:=Q3 hI hIs hU hR
  have e0:F6 []:=⟨by simp,fun i hi=>by simp at hi⟩
  have h1:Gy []=0:=rfl
  have h2:Dm []=0:=rfl
  unfold Lc.f K8.f
  cases b with
  | false =>
    obtain ⟨p,_,_,_,tp⟩:=Tt (t:=t) hI
    exact ⟨[],[],[],1,Ab.bind b1 (Ab.neg (by decide) (Ab.const _)),Ab.Ed tp (Ab.bind b2 (Ab.neg (by decide) (Ab.const _))),by simp,fun i hi=>by simp at hi,e0,e0,by omega⟩
  | true =>
    obtain ⟨⟨u6,_⟩,hs⟩:=b3 rfl
    obtain ⟨v,p,q,tv,tp,c⟩:=jG (t:=t) hI hs
    rcases c with ⟨c1,rfl⟩ | ⟨rfl,rfl,c2,c3⟩
    · exact ⟨[],[],[],4,Ab.bind b1 (Ab.pos rfl (Ab.bind tv (Ab.pos c1 (Ab.const _)))),Ab.Ed tp (Ab.bind b2 (Ab.pos rfl (Ab.neg (by decide) (Ab.const _)))),by simp,fun i hi=>by simp at hi,e0,e0,by omega⟩
    · obtain ⟨j,rfl⟩:∃ j:Nat,v=(j:Int):=⟨v.toNat,by omega⟩
      have hj:j<I.length:=by omega
      have hw:w64 ((j:Int)+1)=((j+1:Nat):Int):=Ce (by omega)
      have hr:(allRows I.length).length=I.length:=I6 _
      refine ⟨I.take j++I.drop (j+1),push U I,[],0,Ab.bind b1 (Ab.pos rfl (Ab.bind tv (Ab.neg (by omega) (Ab.bind (Tf hI hIs) ?_)))),
        Ab.Ed tp (Ab.bind b2 (Ab.pos rfl (Ab.pos rfl (Ab.M8 (F:=fun K=>Gu.f K I U R) (Ab.bind (Px hI hIs) (Ab.bind (Oh hU) (Ab.bind (Oh hR) (Ab.const _)))) (Ab.bind (Px hI hIs) ?_))))),
        ?_,jE hIs j,hU.push u6 hI hIs,e0,?_⟩
      · rw [hw]
        simp only [Int.toNat_natCast]
        refine Ab.pos (by omega) (Ab.pos (by omega) (Ab.pos (by omega) (Ab.bind (Tu hU hI hIs) ?_)))
        rw [Xc (by omega) (by omega),dK Bj I (by omega) (by omega)]
        exact Ab.const _
      · rw [hw,jY hj]
        simp only [J6.f,Tq u6,Option.bind_some,Ed]
        exact Ab.const _
      · rw [List.length_append,List.length_take,List.length_drop]; omega
      · have h3:=fV hj
        have h4:=Qm U I
        omega
theorem Ac.Jm {α0 α1 α2 α3 α4 α5 α6 α7 α8 α9 α10 α11 ε:Type} {a0:α0} {a1:α1} {a2:α2} {a3:α3} {a4:α4} {a5:α5} {a6:α6} {a7:α7} {a8:α8} {a9:α9} {a10:α10} {a11:α11} {F:Nat→Nat→Option (α0 × α1 × α2 × α3 × α4 × α5 × α6 × α7 × α8 × α9 × α10 × α11)} {G:Nat→Nat→α0→α1→α2→α3→α4→α5→α6→α7→α8→α9→α10→α11→Option ε} {r:ε} (h:Ac F (a0,a1,a2,a3,a4,a5,a6,a7,a8,a9,a10,a11)) (g:Ac (fun K k=>G K k a0 a1 a2 a3 a4 a5 a6 a7 a8 a9 a10 a11) r):Ac (fun K k=>Go.Proofs.YtjopfecenllmgaaGreatDoor.Jm (F K k) (G K k)) r:=by
  obtain ⟨n,hn⟩:=h
  obtain ⟨m,hm⟩:=g
  exact ⟨n+m,fun K k hK hk=>by show Go.Proofs.YtjopfecenllmgaaGreatDoor.Jm (F K k) (G K k)=some r; rw [hn K k (by omega) (by omega)]; exact hm K k (by omega) (by omega)⟩
theorem Yw:∀ (a:List UInt8),Op.bytesLess a a=false
  | []=>rfl
  | x::r=>by simp [Op.bytesLess,Yw r,UInt8.lt_irrefl]
theorem fZ (a:ByteArray):slt a a=false:=by unfold slt; exact Yw _
theorem dQ {a b:ByteArray} (h:seq a b=true):a.toList=b.toList:=by unfold seq at h; exact beq_iff_eq.1 h
theorem qA {a b c:ByteArray} (h:seq b c=true):slt a b=slt a c:=by unfold slt; rw [dQ h]
theorem rC {a b c:ByteArray} (h:seq a b=true):slt a c=slt b c:=by unfold slt; rw [dQ h]
structure At (xs:List Af) (t:ByteArray) (p:Nat) (q:Bool):Prop where
  le:p≤xs.length
  lo:∀ i,i<p→slt (nm xs i) t=true
  hi:∀ i,p≤i→i<xs.length→slt (nm xs i) t=false
  ne:∀ i,i≠p→i<xs.length→seq (nm xs i) t=false
  eq:p<xs.length→seq (nm xs p) t=q
  lt:q=true→p<xs.length
theorem eP {xs:List Af} {t:ByteArray} (hn:xs.length≤2000000) (h:∀ i,0<i→i<xs.length→slt (nm xs (i - 1)) (nm xs i)=true):∃ (p:Nat) (q:Bool),At xs t p q∧Ab (fun K=>Kw.f K xs t) ((p:Int),q):=by
  obtain ⟨p,p1,p3,p4,p5⟩:=Tt (t:=t) hn
  have lo:∀ i,i<p→slt (nm xs i) t=true:=fun i hi=>by
    have h1:=p4 (by omega)
    rw [Uy] at h1
    by_cases e:i=p - 1
    · rw [e]; exact h1
    · have h3:=Rt h (p - 1 - i - 1) i (by omega)
      rw [show i+(p - 1 - i - 1)+1=p - 1 by omega] at h3
      exact Tj h3 h1
  have up:∀ i,p<i→i<xs.length→slt (nm xs p) (nm xs i)=true:=fun i h1 h2=>by
    have h3:=Rt h (i - p - 1) p (by omega)
    rw [show p+(i - p - 1)+1=i by omega] at h3
    exact h3
  have hp:p<xs.length→slt (nm xs p) t=false:=fun hp=>by
    have h1:=p3 hp
    rw [Uy] at h1
    exact Bool.eq_false_iff.2 h1
  refine ⟨p,_,⟨p1,lo,fun i h1 h2=>?_,fun i h1 h2=>?_,fun hp2=>?_,fun hq=>(of_decide_eq_true hq).1⟩,p5⟩
  · by_cases e:i=p
    · rw [e]; exact hp (by omega)
    · cases hs:slt (nm xs i) t with
      | false=>rfl
      | true=>have:=Tj (up i (by omega) h2) hs; rw [hp (by omega)] at this; cases this
  · cases hs:seq (nm xs i) t with
    | false=>rfl
    | true =>
      by_cases e:i<p
      · have:=lo i e; rw [rC hs,fZ] at this; cases this
      · have:=up i (by omega) h2; rw [qA hs,hp (by omega)] at this; cases this
  · cases hs:seq (nm xs p) t with
    | true=>exact (decide_eq_true ⟨hp2,(Tm _ _).2 hs⟩).symm
    | false=>exact (decide_eq_false (fun hc=>by have:=(Tm _ _).1 hc.2; rw [hs] at this; cases this)).symm
theorem eZ {xs:List Af} {t:ByteArray} {p:Nat} {q:Bool} (hn:xs.length≤2000000) (h:At xs t p q):∃ v:Int,Ab (fun K=>Eh.f K xs t) v∧(v<0↔q=false):=by
  obtain ⟨v,tv,e⟩:=gV (t:=t) hn
  refine ⟨v,tv,?_⟩
  rcases e with ⟨e1,e2⟩ | ⟨j,e1,hj,e2⟩
  · refine ⟨fun _=>?_,fun _=>by omega⟩
    cases hq:q with
    | false=>rfl
    | true =>
      have hp:=h.lt hq
      have h1:=h.eq hp
      rw [e2 p hp,hq] at h1
      cases h1
  · refine ⟨fun hv=>by omega,fun hq=>?_⟩
    by_cases e:j=p
    · have h1:=h.eq (by omega); rw [← e,e2,hq] at h1; cases h1
    · have h1:=h.ne j e hj; rw [e2] at h1; cases h1
def putAt (I:List Af) (x:Af) (p:Nat) (q:Bool):List Af:=I.take p++x::I.drop (p+q.toNat)
theorem aG {I:List Af} {x:Af} {p:Nat} {q:Bool} (h:p≤I.length) (hl:q=true→p<I.length):(putAt I x p q).length+q.toNat=I.length+1:=by
  unfold putAt
  rw [List.length_append,List.length_take,List.length_cons,List.length_drop]
  cases q with
  | false=>simp; omega
  | true=>have:=hl rfl; simp; omega
theorem iY {I:List Af} {x:Af} {p:Nat} (h:p<I.length):I.set p x=putAt I x p true:=by
  unfold putAt
  rw [List.set_eq_take_append_cons_drop,if_pos h]
  rfl
section
variable {I l:List Af} {U:List (List Af)} {x:Af} {d:Bool} {i:Nat} {r:List Af × List (List Af) × List (List Af) × Int}
theorem sl2 (K k:Nat) (hi:i<I.length) (hn:I.length≤2000000):Bf.l2 K (k+1) I U x.Name x.Kind x.Ad x.Ae x.Al x.Ao x.Ay x.Am x.Aj x.Ag x.Ak x.Ai l d (i:Int)=Bf.j7 K k I U x.Name x.Kind x.Ad x.Ae x.Al x.Ao x.Ay x.Am x.Aj x.Ag x.Ak x.Ai l d (i:Int) (bif d then false else !(slt (nm I i) x.Name)):=by
  rw [Bf.l2,if_pos (by omega)]
  cases d with
  | false=>rw [if_neg (by decide),if_pos (show 0≤(i:Int)∧(i:Int)<(I.length:Int) by omega),Int.toNat_natCast,F5]; rfl
  | true=>rw [if_pos rfl]; rfl
theorem t8n (hs:seq (nm I i) x.Name=false) (hi:i<I.length) (hn:I.length≤2000000) (hsm:Small (I.getD i Bj)) (hl:l.length≤2000001) (g:Ac (fun K k=>Bf.l2 K k I U x.Name x.Kind x.Ad x.Ae x.Al x.Ao x.Ay x.Am x.Aj x.Ag x.Ak x.Ai (l++[I.getD i Bj]) d ((i+1:Nat):Int)) r):Ac (fun K k=>Bf.j8 K k I U x.Name x.Kind x.Ad x.Ae x.Al x.Ao x.Ay x.Am x.Aj x.Ag x.Ak x.Ai (i:Int) l d) r:=by
  have hs8:∀ K k,Bf.j8 K (k+1) I U x.Name x.Kind x.Ad x.Ae x.Al x.Ao x.Ay x.Am x.Aj x.Ag x.Ak x.Ai (i:Int) l d=if seq (nm I i) x.Name=true then Bf.l2 K k I U x.Name x.Kind x.Ad x.Ae x.Al x.Ao x.Ay x.Am x.Aj x.Ag x.Ak x.Ai l d ((i+1:Nat):Int) else Go.Proofs.YtjopfecenllmgaaGreatDoor.Jm (Ee.f K (I.getD i Bj).Name (I.getD i Bj).Kind (I.getD i Bj).Ad (I.getD i Bj).Ae (I.getD i Bj).Al (I.getD i Bj).Ao (I.getD i Bj).Ay (I.getD i Bj).Am (I.getD i Bj).Aj (I.getD i Bj).Ag (I.getD i Bj).Ak (I.getD i Bj).Ai) (fun b0 b1 b2 b3 b4 b5 b6 b7 b8 b9 b10 b11=>if (l.length+1) * 200≤140737488355328 then Bf.l2 K k I U x.Name x.Kind x.Ad x.Ae x.Al x.Ao x.Ay x.Am x.Aj x.Ag x.Ak x.Ai (l++[(⟨b0,b1,b2,b3,b4,b5,b6,b7,b8,b9,b10,b11⟩:Af)]) d ((i+1:Nat):Int) else none):=fun K k=>by
    rw [Bf.j8,if_pos (by omega),Int.toNat_natCast,F5,Ce (by omega)]
  exact Ac.step hs8 (Ac.neg (by rw [hs]; decide) (Ac.Jm (Wj hsm).two (Ac.pos (by omega) g)))
theorem t8y (hs:seq (nm I i) x.Name=true) (hi:i<I.length) (hn:I.length≤2000000) (g:Ac (fun K k=>Bf.l2 K k I U x.Name x.Kind x.Ad x.Ae x.Al x.Ao x.Ay x.Am x.Aj x.Ag x.Ak x.Ai l d ((i+1:Nat):Int)) r):Ac (fun K k=>Bf.j8 K k I U x.Name x.Kind x.Ad x.Ae x.Al x.Ao x.Ay x.Am x.Aj x.Ag x.Ak x.Ai (i:Int) l d) r:=by
  have hs8:∀ K k,Bf.j8 K (k+1) I U x.Name x.Kind x.Ad x.Ae x.Al x.Ao x.Ay x.Am x.Aj x.Ag x.Ak x.Ai (i:Int) l d=if seq (nm I i) x.Name=true then Bf.l2 K k I U x.Name x.Kind x.Ad x.Ae x.Al x.Ao x.Ay x.Am x.Aj x.Ag x.Ak x.Ai l d ((i+1:Nat):Int) else Go.Proofs.YtjopfecenllmgaaGreatDoor.Jm (Ee.f K (I.getD i Bj).Name (I.getD i Bj).Kind (I.getD i Bj).Ad (I.getD i Bj).Ae (I.getD i Bj).Al (I.getD i Bj).Ao (I.getD i Bj).Ay (I.getD i Bj).Am (I.getD i Bj).Aj (I.getD i Bj).Ag (I.getD i Bj).Ak (I.getD i Bj).Ai) (fun b0 b1 b2 b3 b4 b5 b6 b7 b8 b9 b10 b11=>if (l.length+1) * 200≤140737488355328 then Bf.l2 K k I U x.Name x.Kind x.Ad x.Ae x.Al x.Ao x.Ay x.Am x.Aj x.Ag x.Ak x.Ai (l++[(⟨b0,b1,b2,b3,b4,b5,b6,b7,b8,b9,b10,b11⟩:Af)]) d ((i+1:Nat):Int) else none):=fun K k=>by
    rw [Bf.j8,if_pos (by omega),Int.toNat_natCast,F5,Ce (by omega)]
  exact Ac.step hs8 (Ac.pos hs g)
theorem t7y {z:Int} (hx:Small x) (hl:l.length≤2000001) (g:Ac (fun K k=>Bf.j8 K k I U x.Name x.Kind x.Ad x.Ae x.Al x.Ao x.Ay x.Am x.Aj x.Ag x.Ak x.Ai z (l++[x]) true) r):Ac (fun K k=>Bf.j7 K k I U x.Name x.Kind x.Ad x.Ae x.Al x.Ao x.Ay x.Am x.Aj x.Ag x.Ak x.Ai l d z true) r:=by
  have hs7:∀ K k,Bf.j7 K (k+1) I U x.Name x.Kind x.Ad x.Ae x.Al x.Ao x.Ay x.Am x.Aj x.Ag x.Ak x.Ai l d z true=Go.Proofs.YtjopfecenllmgaaGreatDoor.Jm (Ee.f K x.Name x.Kind x.Ad x.Ae x.Al x.Ao x.Ay x.Am x.Aj x.Ag x.Ak x.Ai) (fun b0 b1 b2 b3 b4 b5 b6 b7 b8 b9 b10 b11=>if (l.length+1) * 200≤140737488355328 then Bf.j8 K k I U x.Name x.Kind x.Ad x.Ae x.Al x.Ao x.Ay x.Am x.Aj x.Ag x.Ak x.Ai z (l++[(⟨b0,b1,b2,b3,b4,b5,b6,b7,b8,b9,b10,b11⟩:Af)]) true else none):=fun K k=>by
    rw [Bf.j7,if_pos rfl]
  exact Ac.step hs7 (Ac.Jm (Wj hx).two (Ac.pos (by omega) g))
theorem t7n {z:Int} (g:Ac (fun K k=>Bf.j8 K k I U x.Name x.Kind x.Ad x.Ae x.Al x.Ao x.Ay x.Am x.Aj x.Ag x.Ak x.Ai z l d) r):Ac (fun K k=>Bf.j7 K k I U x.Name x.Kind x.Ad x.Ae x.Al x.Ao x.Ay x.Am x.Aj x.Ag x.Ak x.Ai l d z false) r :=
  Ac.step (fun K k=>by rw [Bf.j7,if_neg (by decide)]) g
theorem Qy {s:Nat} (hs:s≤i) (hi:i<I.length):(I.take (i+1)).drop s=(I.take i).drop s++[I.getD i Bj]:=by
  have hg:I.getD i Bj=I[i]:=by rw [List.getD_eq_getElem?_getD,List.getElem?_eq_getElem hi]; rfl
  rw [List.take_add_one,List.getElem?_eq_getElem hi,hg,List.drop_append_of_le_length (by rw [List.length_take]; omega)]
  rfl
theorem dG {p:Nat} {q:Bool} (hn:I.length≤2000000) (hIs:∀ i,i<I.length→Small (I.getD i Bj)) (hx:Small x) (h:At I x.Name p q) (h9:Ac (fun K k=>Bf.j9 K k I U (putAt I x p q)) r):∀ (m i:Nat),I.length - i=m→i≤I.length →
    (i≤p→Ac (fun K k=>Bf.l2 K k I U x.Name x.Kind x.Ad x.Ae x.Al x.Ao x.Ay x.Am x.Aj x.Ag x.Ak x.Ai (I.take i) false (i:Int)) r)∧(p<i→Ac (fun K k=>Bf.l2 K k I U x.Name x.Kind x.Ad x.Ae x.Al x.Ao x.Ay x.Am x.Aj x.Ag x.Ak x.Ai (I.take p++x::(I.take i).drop (p+q.toNat)) true (i:Int)) r)
  | 0,i,hm,hi=>by
    obtain rfl:i=I.length:=by omega
    refine ⟨fun hp=>?_,fun hp=>?_⟩
    · have hpl:p=I.length:=Nat.le_antisymm h.le hp
      have hq:q=false:=by cases hq:q with
        | false=>rfl
        | true=>have:=h.lt hq; omega
      have e:putAt I x p q=I.take I.length++[x]:=by unfold putAt; rw [hq,hpl,List.drop_of_length_le (Nat.le_add_right _ _)]
      rw [e] at h9
      have hs:∀ K k,Bf.l2 K (k+1) I U x.Name x.Kind x.Ad x.Ae x.Al x.Ao x.Ay x.Am x.Aj x.Ag x.Ak x.Ai (I.take I.length) false (I.length:Int)=Go.Proofs.YtjopfecenllmgaaGreatDoor.Jm (Ee.f K x.Name x.Kind x.Ad x.Ae x.Al x.Ao x.Ay x.Am x.Aj x.Ag x.Ak x.Ai) (fun b0 b1 b2 b3 b4 b5 b6 b7 b8 b9 b10 b11=>if ((I.take I.length).length+1) * 200≤140737488355328 then Bf.j9 K k I U (I.take I.length++[(⟨b0,b1,b2,b3,b4,b5,b6,b7,b8,b9,b10,b11⟩:Af)]) else none):=fun K k=>by
        rw [Bf.l2,if_neg (by omega),if_neg (by decide)]
      exact Ac.step hs (Ac.Jm (Wj hx).two (Ac.pos (by rw [List.length_take]; omega) h9))
    · have e:putAt I x p q=I.take p++x::(I.take I.length).drop (p+q.toNat):=by unfold putAt; rw [List.take_length]
      rw [e] at h9
      exact Ac.step (fun K k=>by rw [Bf.l2,if_neg (by omega),if_pos rfl]) h9
  | m+1,i,hm,hi=>by
    have hlt:i<I.length:=by omega
    obtain ⟨ih1,ih2⟩:=dG hn hIs hx h h9 m (i+1) (by omega) (by omega)
    have hg:I.take i++[I.getD i Bj]=I.take (i+1):=(Qy (s:=0) (Nat.zero_le _) hlt).symm
    refine ⟨fun hp=>?_,fun hp=>?_⟩
    · refine Ac.step (fun K k=>sl2 K k hlt hn) ?_
      by_cases e:i=p
      · subst e
        rw [h.hi i (Nat.le_refl _) hlt]
        refine t7y hx (by rw [List.length_take]; omega) ?_
        have ih:=ih2 (by omega)
        have hq:=h.eq hlt
        cases q with
        | true =>
          have e2:(I.take (i+1)).drop (i+true.toNat)=[]:=List.drop_of_length_le (by rw [List.length_take]; simp; omega)
          rw [e2] at ih
          exact t8y hq hlt hn ih
        | false =>
          have e2:(I.take (i+1)).drop (i+false.toNat)=[I.getD i Bj]:=by
            rw [show i+false.toNat=i from rfl,Qy (Nat.le_refl _) hlt,List.drop_of_length_le (by rw [List.length_take]; omega)]
            rfl
          rw [e2] at ih
          refine t8n hq hlt hn (hIs i hlt) (by rw [List.length_append,List.length_take]; simp; omega) ?_
          rw [List.append_assoc]
          exact ih
      · have ih:=ih1 (by omega)
        rw [h.lo i (by omega)]
        refine t7n (t8n (h.ne i e hlt) hlt hn (hIs i hlt) (by rw [List.length_take]; omega) ?_)
        rw [hg]
        exact ih
    · have ih:=ih2 (by omega)
      have hs:p+q.toNat≤i:=by cases q <;> simp <;> omega
      rw [Qy hs hlt] at ih
      refine Ac.step (fun K k=>sl2 K k hlt hn) (t7n (t8n (h.ne i (by omega) hlt) hlt hn (hIs i hlt) ?_ ?_))
      · rw [List.length_append,List.length_take,List.length_cons,List.length_drop,List.length_take]; omega
      · rw [List.append_assoc,List.cons_append]
        exact ih
end
theorem eH {I:List Af} {x:Af} {p:Nat} {q:Bool}:Gy (putAt I x p q)≤Gy I+L9 x:=by
  have h1:(I.map L9).sum=((I.take p).map L9).sum+((I.drop p).map L9).sum:=by rw [← List.sum_append,← List.map_append,List.take_append_drop]
  have h2:((I.drop (p+q.toNat)).map L9).sum≤((I.drop p).map L9).sum:=by
    rw [← List.drop_drop]
    have h3:((I.drop p).map L9).sum=(((I.drop p).take q.toNat).map L9).sum+(((I.drop p).drop q.toNat).map L9).sum:=by rw [← List.sum_append,← List.map_append,List.take_append_drop]
    omega
  rw [Pp,Pp]
  unfold putAt
  rw [List.map_append,List.map_cons,List.sum_append,List.sum_cons]
  omega
theorem kD {I:List Af} {x:Af} {p:Nat} {q:Bool} (h:∀ i,i<I.length→Small (I.getD i Bj)) (hx:Small x):∀ i,i<(putAt I x p q).length→Small ((putAt I x p q).getD i Bj):=fun i hi=>by
  have hm:=Pj Bj hi
  unfold putAt at hm
  rcases List.mem_append.1 hm with hm | hm
  · exact Rl h (List.mem_of_mem_take hm)
  · rcases List.mem_cons.1 hm with hm | hm
    · unfold putAt; rw [hm]; exact hx
    · exact Rl h (List.mem_of_mem_drop hm)
theorem eQ (xs:List Af):6 * xs.length≤Gy xs:=by
  rw [Pp]
  induction xs with
  | nil=>exact Nat.zero_le _
  | cons x r ih=>have:=Vp x; rw [List.map_cons,List.sum_cons,List.length_cons]; omega
theorem oD {I:List Af} {U R:List (List Af)} (hI9:I.length≤1999999) (hIs:∀ i,i<I.length→Small (I.getD i Bj)) (hU:F6 U) (hR:F6 R) {x:Af} (hx:Small x):∃ (A:List Af) (B C:List (List Af)) (c:Int),
    Ab (fun K=>Bf.f K I U R x.Name x.Kind x.Ad x.Ae x.Al x.Ao x.Ay x.Am x.Aj x.Ag x.Ak x.Ai) (A,B,C,c)∧Ab (fun K=>C9.f K I U R x.Name x.Kind x.Ad x.Ae x.Al x.Ao x.Ay x.Am x.Aj x.Ag x.Ak x.Ai) (A,B,C,c)∧A.length≤2000000∧(∀ i,i<A.length→Small (A.getD i Bj))∧F6 B∧F6 C∧Gy A+Dm B+Dm C≤2 * (Gy I+Dm U+Dm R)+L9 x:=by
  have hI:I.length≤2000000:=by omega
  obtain ⟨b,b1,b2,_,b3⟩:=Q3 hI hIs hU hR
  have e0:F6 []:=⟨by simp,fun i hi=>by simp at hi⟩
  have z1:Gy []=0:=rfl
  have z2:Dm []=0:=rfl
  have hx':=hx
  obtain ⟨s1,⟨s2,s2r⟩,s3,s4,s5,s6,s7⟩:=hx'
  obtain ⟨v,v1,v2⟩:=Vl x.Name x.Kind x.Ad x.Ae x.Al x.Ao x.Ay x.Am x.Aj x.Ag x.Ak x.Ai s1 s2 s3 s4 s5 s6 s7
  obtain ⟨p0,_,_,_,tp0⟩:=Tt (t:=x.Name) hI
  unfold Bf.f C9.f
  cases b with
  | false=>exact ⟨[],[],[],1,Ab.bind b1 (Ab.neg (by decide) (Ab.const _)),Ab.Ed tp0 (Ab.bind b2 (Ab.neg (by decide) (Ab.const _))),by simp,fun i hi=>by simp at hi,e0,e0,by omega⟩
  | true =>
  cases v with
  | false=>exact ⟨[],[],[],1,Ab.bind b1 (Ab.pos rfl (Ab.bind v1 (Ab.neg (by decide) (Ab.const _)))),Ab.Ed tp0 (Ab.bind b2 (Ab.pos rfl (Ab.bind v2 (Ab.neg (by decide) (Ab.const _))))),by simp,fun i hi=>by simp at hi,e0,e0,by omega⟩
  | true =>
  obtain ⟨⟨u6,_⟩,hsort⟩:=b3 rfl
  obtain ⟨p,q,hat,tp⟩:=eP (t:=x.Name) hI hsort
  obtain ⟨w,tw,hw⟩:=eZ hI hat
  have hlen:=aG (x:=x) hat.le hat.lt
  have go:Ac (fun K k=>Bf.l2 K k I U x.Name x.Kind x.Ad x.Ae x.Al x.Ao x.Ay x.Am x.Aj x.Ag x.Ak x.Ai ([]:List Af) false 0) (putAt I x p q,push U I,[],0) :=
    (dG hI hIs hx hat (Ac.step (fun K k=>by rw [Bf.j9]) (Ac.bind (Tu hU hI hIs).two (Ac.const _))) I.length 0 (by omega) (by omega)).1 (Nat.zero_le _)
  have gi:∀ (X:List Af),Ac (fun K k=>C9.j2 K k I U R X) (X,push U I,[],0):=fun X=>by
    have hb:Ab (fun K=>Gu.f K I U R) (I,U,R):=Ab.bind (Px hI hIs) (Ab.bind (Oh hU) (Ab.bind (Oh hR) (Ab.const _)))
    obtain ⟨n,hn⟩:=hb
    refine ⟨n+1,fun K k hK hk=>?_⟩
    obtain ⟨k,rfl⟩:∃ j,k=j+1:=⟨k - 1,by omega⟩
    show C9.j2 K (k+1) I U R X=_
    have hn':Gu.f K I U R=some (I,U,R):=hn K (by omega)
    rw [C9.j2,hn']
    simp only [M8,Option.bind_some,J6.f,Tq u6,Ed]
  have gj:∀ (b:Bool),b=false→Ab (fun K=>Bf.j1 K K I U x.Name x.Kind x.Ad x.Ae x.Al x.Ao x.Ay x.Am x.Aj x.Ag x.Ak x.Ai b) (putAt I x p q,push U I,[],0):=fun b hb=>by
    subst hb
    exact Ac.I5 (F:=fun K k=>Bf.j1 K k I U x.Name x.Kind x.Ad x.Ae x.Al x.Ao x.Ay x.Am x.Aj x.Ag x.Ak x.Ai false) (Ac.step (fun K k=>by rw [Bf.j1,if_neg (by decide)]) go)
  have gk:∀ (b:Bool),b=false→Ab (fun K=>C9.j1 K K I U R x.Name x.Kind x.Ad x.Ae x.Al x.Ao x.Ay x.Am x.Aj x.Ag x.Ak x.Ai (p:Int) q b) (putAt I x p q,push U I,[],0):=fun b hb=>by
    subst hb
    refine Ac.I5 (F:=fun K k=>C9.j1 K k I U R x.Name x.Kind x.Ad x.Ae x.Al x.Ao x.Ay x.Am x.Aj x.Ag x.Ak x.Ai (p:Int) q false) (Ac.step (fun K k=>by rw [C9.j1,if_neg (by decide)]) (Ac.bind (Px hI hIs).two ?_))
    cases q with
    | true =>
      have hp:=hat.lt rfl
      have:=gi (putAt I x p true)
      rw [← iY hp] at this ⊢
      exact Ac.pos rfl (Ac.Jm (Yb hx).two (Ac.pos (by omega) (by rw [Int.toNat_natCast]; exact this)))
    | false =>
      refine Ac.neg (by decide) (Ac.Jm (Yb hx).two (Ac.bind (F:=fun _ _=>Dq.f I (p:Int) x) (a:=putAt I x p false) (Ac.congr (G:=fun _ _=>some (putAt I x p false)) (fun K k=>?_) (Ac.const _)) (gi _)))
      have:=hat.le
      unfold Dq.f
      rw [if_pos (by omega),if_pos (by omega),Int.toNat_natCast]
      rfl
  have fin:=fun (a:Ab (fun K=>Bf.f K I U R x.Name x.Kind x.Ad x.Ae x.Al x.Ao x.Ay x.Am x.Aj x.Ag x.Ak x.Ai) (putAt I x p q,push U I,[],0)) (b:Ab (fun K=>C9.f K I U R x.Name x.Kind x.Ad x.Ae x.Al x.Ao x.Ay x.Am x.Aj x.Ag x.Ak x.Ai) (putAt I x p q,push U I,[],0))=>(⟨putAt I x p q,push U I,[],0,a,b,by omega,kD hIs hx,hU.push u6 hI hIs,e0,by
    have h3:=eH (I:=I) (x:=x) (p:=p) (q:=q)
    have h4:=Qm U I
    omega⟩:∃ (A:List Af) (B C:List (List Af)) (c:Int),Ab (fun K=>Bf.f K I U R x.Name x.Kind x.Ad x.Ae x.Al x.Ao x.Ay x.Am x.Aj x.Ag x.Ak x.Ai) (A,B,C,c)∧Ab (fun K=>C9.f K I U R x.Name x.Kind x.Ad x.Ae x.Al x.Ao x.Ay x.Am x.Aj x.Ag x.Ak x.Ai) (A,B,C,c)∧A.length≤2000000∧(∀ i,i<A.length→Small (A.getD i Bj))∧F6 B∧F6 C∧Gy A+Dm B+Dm C≤2 * (Gy I+Dm U+Dm R)+L9 x)
  unfold Bf.f C9.f at fin
  by_cases ht:(I.length:Int)=10
  · cases hq:q with
    | false =>
      rw [hq] at tp
      exact ⟨[],[],[],3,Ab.bind b1 (Ab.pos rfl (Ab.bind v1 (Ab.pos rfl (Ab.bind tw (Ab.pos (hw.2 hq) (Ab.congr (fun K=>by rw [decide_eq_true ht]) (Ac.I5 (F:=fun K k=>Bf.j1 K k I U x.Name x.Kind x.Ad x.Ae x.Al x.Ao x.Ay x.Am x.Aj x.Ag x.Ak x.Ai true) (Ac.of fun K k=>by rw [Bf.j1,if_pos rfl])))))))),
        Ab.Ed tp (Ab.bind b2 (Ab.pos rfl (Ab.bind v2 (Ab.pos rfl (Ab.pos ht (Ac.I5 (F:=fun K k=>C9.j1 K k I U R x.Name x.Kind x.Ad x.Ae x.Al x.Ao x.Ay x.Am x.Aj x.Ag x.Ak x.Ai (p:Int) false true) (Ac.of fun K k=>by rw [C9.j1,if_pos rfl]))))))),by simp,fun i hi=>by simp at hi,e0,e0,by omega⟩
    | true =>
      have hw2:¬ w<0:=fun hc=>by have:=hw.1 hc; rw [hq] at this; cases this
      exact fin (Ab.bind b1 (Ab.pos rfl (Ab.bind v1 (Ab.pos rfl (Ab.bind tw (Ab.neg hw2 (gj _ rfl))))))) (Ab.Ed tp (Ab.bind b2 (Ab.pos rfl (Ab.bind v2 (Ab.pos rfl (Ab.pos ht (gk _ (by rw [hq]; rfl))))))))
  · by_cases hw2:w<0
    · exact fin (Ab.bind b1 (Ab.pos rfl (Ab.bind v1 (Ab.pos rfl (Ab.bind tw (Ab.pos hw2 (gj _ (decide_eq_false ht)))))))) (Ab.Ed tp (Ab.bind b2 (Ab.pos rfl (Ab.bind v2 (Ab.pos rfl (Ab.neg ht (gk _ rfl)))))))
    · exact fin (Ab.bind b1 (Ab.pos rfl (Ab.bind v1 (Ab.pos rfl (Ab.bind tw (Ab.neg hw2 (gj _ rfl))))))) (Ab.Ed tp (Ab.bind b2 (Ab.pos rfl (Ab.bind v2 (Ab.pos rfl (Ab.neg ht (gk _ rfl)))))))
section
variable (nm:ByteArray) (kd:Int) (ts:List (List Br)) (cr:List Ah) (ci st:Int) (wd:List Int) (cn ct:Int) (mv:List Cc) (tt pp:List Int)
theorem mP:Jj.f nm kd ts cr ci st wd cn ct mv tt pp=some (seq nm ByteArray.empty && decide (kd=0) && Zk ts cr ci st wd cn ct mv tt pp 1 && Zk ts cr ci st wd cn ct mv tt pp 2 && Zk ts cr ci st wd cn ct mv tt pp 3 && Zk ts cr ci st wd cn ct mv tt pp 4):=by
  have h1:H5.f ts=some (Zk ts cr ci st wd cn ct mv tt pp 1):=by
    unfold H5.f; simp [Zk]
  have h2:F7.f cr ci=some (Zk ts cr ci st wd cn ct mv tt pp 2):=by
    unfold F7.f
    by_cases h:cr.length=0 <;> simp [Zk,h]
  have h3:Ho.f st wd=some (Zk ts cr ci st wd cn ct mv tt pp 3):=by
    unfold Ho.f
    by_cases h:st=0 <;> simp [Zk,h]
  have h4:Fg.f cn ct mv tt pp=some (Zk ts cr ci st wd cn ct mv tt pp 4):=by
    unfold Fg.f
    by_cases a1:cn=0 <;> by_cases a2:ct=0 <;> by_cases a3:mv.length=0 <;> by_cases a4:tt.length=0 <;> simp [Zk,a1,a2,a3,a4]
  unfold Jj.f
  rw [h1,h2,h3,h4]
  generalize seq nm ByteArray.empty=a; generalize Zk ts cr ci st wd cn ct mv tt pp 1=b; generalize Zk ts cr ci st wd cn ct mv tt pp 2=c; generalize Zk ts cr ci st wd cn ct mv tt pp 3=d; generalize Zk ts cr ci st wd cn ct mv tt pp 4=e
  by_cases k:kd=0
  · rw [if_pos k,decide_eq_true k]
    cases a <;> cases b <;> cases c <;> cases d <;> rfl
  · rw [if_neg k,decide_eq_false k]
    cases a <;> rfl
theorem nA:K3.f nm kd ts cr ci st wd cn ct mv tt pp=some (seq nm ByteArray.empty && decide (kd=0) && Zk ts cr ci st wd cn ct mv tt pp 1 && Zk ts cr ci st wd cn ct mv tt pp 2 && Zk ts cr ci st wd cn ct mv tt pp 3 && Zk ts cr ci st wd cn ct mv tt pp 4):=by
  unfold K3.f
  rw [Zj]
  generalize seq nm ByteArray.empty=a; generalize Zk ts cr ci st wd cn ct mv tt pp 1=b; generalize Zk ts cr ci st wd cn ct mv tt pp 2=c; generalize Zk ts cr ci st wd cn ct mv tt pp 3=d; generalize Zk ts cr ci st wd cn ct mv tt pp 4=e
  by_cases k:kd=0
  · rw [if_pos k,decide_eq_true k]
    cases a <;> cases b <;> cases c <;> cases d <;> cases e <;> rfl
  · rw [if_neg k,decide_eq_false k]
    cases a <;> rfl
theorem dY (hn:nm.size≤2000000) (k:Int) (nm2:ByteArray) (h0:nm2.size≤2000000) (h1:ts.length≤2000000) (h2:cr.length≤2000000) (h3:wd.length≤2000000) (h4:mv.length≤2000000) (h5:tt.length≤2000000) (h6:pp.length≤2000000) :
    ∃ b,Ab (fun K=>Dx.f K k nm nm2 kd ts cr ci st wd cn ct mv tt pp) b∧Ab (fun K=>Ep.f K k nm nm2 kd ts cr ci st wd cn ct mv tt pp) b:=by
  obtain ⟨v,v1,v2⟩:=Vl nm2 kd ts cr ci st wd cn ct mv tt pp h0 h1 h2 h3 h4 h5 h6
  have n1:=Yt hn
  have n2:=Zm hn
  obtain ⟨zz,z1,z2⟩:∃ zz,Ab (fun _=>Jj.f nm2 kd ts cr ci st wd cn ct mv tt pp) zz∧Ab (fun _=>K3.f nm2 kd ts cr ci st wd cn ct mv tt pp) zz :=
    ⟨_,Ab.congr (fun _=>mP nm2 kd ts cr ci st wd cn ct mv tt pp) (Ab.const _),Ab.congr (fun _=>nA nm2 kd ts cr ci st wd cn ct mv tt pp) (Ab.const _)⟩
  have j:∀ x:Bool,∃ b,Ab (fun K=>Dx.j1 K K nm nm2 kd ts cr ci st wd cn ct mv tt pp x) b∧Ab (fun K=>Ep.j1 K K nm nm2 kd ts cr ci st wd cn ct mv tt pp x) b:=fun x=>by
    by_cases hx:x=true
    · by_cases hs:seq nm ByteArray.empty=true
      · refine ⟨zz,Ac.I5 (F:=fun K k=>Dx.j1 K k nm nm2 kd ts cr ci st wd cn ct mv tt pp x) (Ac.succ ?_),Ac.I5 (F:=fun K k=>Ep.j1 K k nm nm2 kd ts cr ci st wd cn ct mv tt pp x) (Ac.succ ?_)⟩
        · simp only [Dx.j1]
          exact Ac.pos hx (Ac.pos hs (Ac.bind z1.two (Ac.const _)))
        · simp only [Ep.j1]
          exact Ac.pos hx (Ac.pos hs (Ac.bind z2.two (Ac.const _)))
      · refine ⟨false,Ac.I5 (F:=fun K k=>Dx.j1 K k nm nm2 kd ts cr ci st wd cn ct mv tt pp x) (Ac.succ ?_),Ac.I5 (F:=fun K k=>Ep.j1 K k nm nm2 kd ts cr ci st wd cn ct mv tt pp x) (Ac.succ ?_)⟩
        · simp only [Dx.j1]
          exact Ac.pos hx (Ac.neg hs (Ac.const _))
        · simp only [Ep.j1]
          exact Ac.pos hx (Ac.neg hs (Ac.const _))
    · refine ⟨false,Ac.I5 (F:=fun K k=>Dx.j1 K k nm nm2 kd ts cr ci st wd cn ct mv tt pp x) (Ac.succ ?_),Ac.I5 (F:=fun K k=>Ep.j1 K k nm nm2 kd ts cr ci st wd cn ct mv tt pp x) (Ac.succ ?_)⟩
      · simp only [Dx.j1]
        exact Ac.neg hx (Ac.const _)
      · simp only [Ep.j1]
        exact Ac.neg hx (Ac.const _)
  unfold Dx.f Ep.f
  by_cases k1:k=1
  · by_cases hs:seq nm ByteArray.empty=true
    · cases v with
      | false=>exact ⟨false,Ab.pos k1 (Ab.pos hs (Ab.bind v1 (Ab.const _))),Ab.pos k1 (Ab.bind v2 (Ab.neg (by decide) (Ab.const _)))⟩
      | true=>exact ⟨true,Ab.pos k1 (Ab.pos hs (Ab.bind v1 (Ab.const _))),Ab.pos k1 (Ab.bind v2 (Ab.pos rfl (by rw [hs]; exact Ab.const _)))⟩
    · have hs':seq nm ByteArray.empty=false:=by simpa using hs
      cases v with
      | false=>exact ⟨false,Ab.pos k1 (Ab.neg hs (Ab.const _)),Ab.pos k1 (Ab.bind v2 (Ab.neg (by decide) (Ab.const _)))⟩
      | true=>exact ⟨false,Ab.pos k1 (Ab.neg hs (Ab.const _)),Ab.pos k1 (Ab.bind v2 (Ab.pos rfl (by rw [hs']; exact Ab.const _)))⟩
  by_cases k2:k=2
  · generalize (K7 nm.size (Py nm) && decide (1≤nm.size∧nm.size≤8))=q at n1 n2
    cases q with
    | false=>exact ⟨false,Ab.neg k1 (Ab.pos k2 (Ab.bind n1 (Ab.neg (by decide) (Ab.const _)))),Ab.neg k1 (Ab.pos k2 (Ab.bind n2 (Ab.neg (by decide) (Ab.const _))))⟩
    | true=>exact ⟨_,Ab.neg k1 (Ab.pos k2 (Ab.bind n1 (Ab.pos rfl (Ab.bind z1 (Ab.const _))))),Ab.neg k1 (Ab.pos k2 (Ab.bind n2 (Ab.pos rfl (Ab.bind z2 (Ab.const _)))))⟩
  by_cases k3:k=3
  · obtain ⟨b,b1,b2⟩:=j (decide (k=3))
    exact ⟨b,Ab.neg k1 (Ab.neg k2 (Ab.pos k3 b1)),Ab.neg k1 (Ab.neg k2 (Ab.pos k3 b2))⟩
  · obtain ⟨b,b1,b2⟩:=j (decide (k=4))
    exact ⟨b,Ab.neg k1 (Ab.neg k2 (Ab.neg k3 b1)),Ab.neg k1 (Ab.neg k2 (Ab.neg k3 b2))⟩
end
theorem Ve {I:List Af} {U R:List (List Af)} (hI9:I.length≤1999999) (hIs:∀ i,i<I.length→Small (I.getD i Bj)) (hU:F6 U) (hR:F6 R) (k:Int) {nm:ByteArray} (hn:nm.size≤2000000) {x:Af} (hx:Small x):∃ (A:List Af) (B C:List (List Af)) (c:Int),
    Ab (fun K=>Jn.f K I U R k nm x.Name x.Kind x.Ad x.Ae x.Al x.Ao x.Ay x.Am x.Aj x.Ag x.Ak x.Ai) (A,B,C,c) ∧
    Ab (fun K=>Il.f K I U R k nm x.Name x.Kind x.Ad x.Ae x.Al x.Ao x.Ay x.Am x.Aj x.Ag x.Ak x.Ai) (A,B,C,c) ∧
    A.length≤2000000∧(∀ i,i<A.length→Small (A.getD i Bj))∧F6 B∧F6 C∧Gy A+Dm B+Dm C≤2 * (Gy I+Dm U+Dm R)+L9 x:=by
  have hI:I.length≤2000000:=by omega
  obtain ⟨b,b1,b2,_,_⟩:=Q3 hI hIs hU hR
  have e0:F6 []:=⟨by simp,fun i hi=>by simp at hi⟩
  have z1:Gy []=0:=rfl
  have z2:Dm []=0:=rfl
  have hx':=hx
  obtain ⟨s1,⟨s2,s2r⟩,s3,s4,s5,s6,s7⟩:=hx'
  obtain ⟨v,v1,v2⟩:=dY nm x.Kind x.Ad x.Ae x.Al x.Ao x.Ay x.Am x.Aj x.Ag x.Ak x.Ai hn k x.Name s1 s2 s3 s4 s5 s6 s7
  unfold Jn.f Il.f
  cases b with
  | false=>exact ⟨[],[],[],1,Ab.bind b1 (Ab.neg (by decide) (Ab.const _)),Ab.bind b2 (Ab.neg (by decide) (Ab.const _)),by simp,fun i hi=>by simp at hi,e0,e0,by omega⟩
  | true =>
    cases v with
    | false=>exact ⟨[],[],[],1,Ab.bind b1 (Ab.pos rfl (Ab.bind v1 (Ab.neg (by decide) (Ab.const _)))),Ab.bind b2 (Ab.pos rfl (Ab.bind v2 (Ab.neg (by decide) (Ab.const _)))),by simp,fun i hi=>by simp at hi,e0,e0,by omega⟩
    | true =>
      by_cases k1:k=1
      · obtain ⟨A,B,C,c,t1,t2,a1,a2,sB,sC,hl⟩:=oD hI9 hIs hU hR hx
        exact ⟨A,B,C,c,Ab.bind b1 (Ab.pos rfl (Ab.bind v1 (Ab.pos rfl (Ab.pos k1 (Ab.Jv t1 (Ab.const _)))))),Ab.bind b2 (Ab.pos rfl (Ab.bind v2 (Ab.pos rfl (Ab.pos k1 (Ab.Jv t2 (Ab.const _)))))),a1,a2,sB,sC,hl⟩
      by_cases k2:k=2
      · obtain ⟨A,B,C,c,t1,t2,a1,a2,sB,sC,hl⟩:=jZ hI hIs hU hR nm
        exact ⟨A,B,C,c,Ab.bind b1 (Ab.pos rfl (Ab.bind v1 (Ab.pos rfl (Ab.neg k1 (Ab.pos k2 (Ab.Jv t1 (Ab.const _))))))),Ab.bind b2 (Ab.pos rfl (Ab.bind v2 (Ab.pos rfl (Ab.neg k1 (Ab.pos k2 (Ab.Jv t2 (Ab.const _))))))),a1,a2,sB,sC,by omega⟩
      by_cases k3:k=3
      · obtain ⟨A,B,C,c,t1,t2,a1,a2,sB,sC,hl⟩:=jL hI hIs hU hR
        exact ⟨A,B,C,c,Ab.bind b1 (Ab.pos rfl (Ab.bind v1 (Ab.pos rfl (Ab.neg k1 (Ab.neg k2 (Ab.pos k3 (Ab.Jv t1 (Ab.const _)))))))),Ab.bind b2 (Ab.pos rfl (Ab.bind v2 (Ab.pos rfl (Ab.neg k1 (Ab.neg k2 (Ab.pos k3 (Ab.Jv t2 (Ab.const _)))))))),a1,a2,sB,sC,by omega⟩
      · obtain ⟨A,B,C,c,t1,t2,a1,a2,sB,sC,hl⟩:=jX hI hIs hU hR
        exact ⟨A,B,C,c,Ab.bind b1 (Ab.pos rfl (Ab.bind v1 (Ab.pos rfl (Ab.neg k1 (Ab.neg k2 (Ab.neg k3 (Ab.Jv t1 (Ab.const _)))))))),Ab.bind b2 (Ab.pos rfl (Ab.bind v2 (Ab.pos rfl (Ab.neg k1 (Ab.neg k2 (Ab.neg k3 (Ab.Jv t2 (Ab.const _)))))))),a1,a2,sB,sC,by omega⟩
theorem rR {I:List Af} {U R:List (List Af)} (hI:I.length≤2000000) (hIs:∀ i,i<I.length→Small (I.getD i Bj)) (hU:F6 U) (hR:F6 R):Ab (fun K=>Jc.f K I U R) (I,U,R) :=
  Ab.bind (iG hI hIs) (Ab.bind (bR hU.1 hU.2) (Ab.bind (bR hR.1 hR.2) (Ab.const _)))
theorem iT {I:List Af} {U R:List (List Af)} (hI:I.length≤2000000) (hIs:∀ i,i<I.length→Small (I.getD i Bj)) (hU:F6 U) (hR:F6 R):Ab (fun K=>Hr.f K I U R I U R) true :=
  Ab.bind (iK hI hIs) (Ab.pos rfl (Ab.bind (dN hU.1 hU.2) (Ab.pos rfl (Ab.bind (dN hR.1 hR.2) (Ab.pos rfl (Ab.const _))))))
theorem fits {y:Af} (h:y.Name.size≤9223372036854775807∧(Lit.int .i64 y.Kind).wf=true∧((y.Ad.length≤9223372036854775807∧∀ y1 ∈ y.Ad,(y1.length≤9223372036854775807∧∀ y2 ∈ y1,((Lit.int .i64 y2.Tet).wf=true∧(Lit.int .i64 y2.Perm).wf=true))))∧((y.Ae.length≤9223372036854775807∧∀ y1 ∈ y.Ae,((Lit.int .i64 y1.A).wf=true∧(Lit.int .i64 y1.B).wf=true∧(Lit.int .i64 y1.C).wf=true∧(Lit.int .i64 y1.D).wf=true∧(Lit.int .i64 y1.Sign).wf=true))∧(Lit.int .i64 y.Al).wf=true)∧((Lit.int .i64 y.Ao).wf=true∧(y.Ay.length≤9223372036854775807∧∀ y1 ∈ y.Ay,(Lit.int .i64 y1).wf=true))∧((Lit.int .i64 y.Am).wf=true∧(Lit.int .i64 y.Aj).wf=true∧(y.Ag.length≤9223372036854775807∧∀ y1 ∈ y.Ag,((Lit.int .i64 y1.Kind).wf=true∧(Lit.int .i64 y1.Tet).wf=true∧(Lit.int .i64 y1.Index).wf=true))∧(y.Ak.length≤9223372036854775807∧∀ y1 ∈ y.Ak,(Lit.int .i64 y1).wf=true)∧(y.Ai.length≤9223372036854775807∧∀ y1 ∈ y.Ai,(Lit.int .i64 y1).wf=true))):Fits y:=by
  obtain ⟨n1,_,⟨n2,n2r⟩,⟨⟨n3,_⟩,_⟩,⟨_,n4,_⟩,⟨_,_,⟨n5,_⟩,⟨n6,_⟩,n7,_⟩⟩:=h
  exact ⟨n1,⟨n2,fun j hj=>(n2r _ (Pj [] hj)).1⟩,n3,n4,n5,n6,n7⟩
theorem aA {x:Af} (h:Small x) {kk:Int} (h0:0≤kk) (hb:kk+(L9 x:Int)≤Xw):∃ y:Af,
    (∀ (ys:List Af) (i:Nat) r,i<4000000→i<ys.length→ys.getD i Bj=x→Ac (fun K k=>Dz.l1 K k (ys.set i y) (kk+(L9 x:Int)) ((i+1:Nat):Int)) r→Ac (fun K k=>Dz.l1 K k ys kk (i:Int)) r) ∧
    (∀ (ys:List Af) (i:Nat) r,i<4000000→i<ys.length→ys.getD i Bj=y→Ac (fun K k=>Dy.l1 K k ys (kk+(L9 x:Int)) ((i+1:Nat):Int)) r→Ac (fun K k=>Dy.l1 K k ys kk (i:Int)) r):=by
  obtain ⟨_,⟨h2,h2r⟩,h3,h4,h5,h6,h7⟩:=h
  unfold L9 at hb ⊢
  obtain ⟨nm,a0⟩:=mF h0 (by omega)
  obtain ⟨ts,b1,b2,b3⟩:=Xe h2 h2r (kk+2) (by omega) (by omega)
  obtain ⟨cr,c1,c2,c3⟩:=Uc h3 (kk+2+(cF x.Ad:Int)) (by omega) (by omega)
  generalize e1:kk+2+(cF x.Ad:Int)=k1 at b2 b3 c2 c3
  generalize e2:k1+((5 * x.Ae.length:Nat):Int)=k2 at c2 c3
  obtain ⟨wd,d1,d2,d3⟩:=Pw h4 (k2+2) (by omega) (by omega)
  generalize e3:k2+2+(x.Ay.length:Int)=k3 at d2 d3
  obtain ⟨mv,f1,f2,f3⟩:=Zo h5 (k3+2) (by omega) (by omega)
  generalize e4:k3+2+((3 * x.Ag.length:Nat):Int)=k4 at f2 f3
  obtain ⟨tt,g1,g2,g3⟩:=Pw h6 k4 (by omega) (by omega)
  generalize e5:k4+(x.Ak.length:Int)=k5 at g2 g3
  obtain ⟨pp,p1,p2,p3⟩:=Pw h7 k5 (by omega) (by omega)
  have hE:k5+(x.Ai.length:Int)=kk+((6+cF x.Ad+5 * x.Ae.length+x.Ay.length+3 * x.Ag.length+x.Ak.length+x.Ai.length:Nat):Int):=by omega
  rw [hE] at p2 p3
  have w1a:w64 (kk+1)=kk+1:=w1 h0 (by omega)
  have w1b:w64 (kk+1+1)=kk+2:=(w1 (by omega) (by omega)).trans (by omega)
  have w2a:w64 (k2+1)=k2+1:=w1 (by omega) (by omega)
  have w2b:w64 (k2+1+1)=k2+2:=(w1 (by omega) (by omega)).trans (by omega)
  have w3a:w64 (k3+1)=k3+1:=w1 (by omega) (by omega)
  have w3b:w64 (k3+1+1)=k3+2:=(w1 (by omega) (by omega)).trans (by omega)
  refine ⟨⟨nm,kk+1,ts,cr,k2,k2+1,wd,k3,k3+1,mv,tt,pp⟩,fun ys i r hi hy hg h=>?_,fun ys i r hi hy hg h=>?_⟩
  · have hc:0≤(i:Int)∧(i:Int)<(ys.length:Int):=by omega
    refine Ac.succ ?_
    simp only [Dz.l1,if_pos hc.2,Int.toNat_natCast,F5,List.length_set,if_pos hc,Sc hy,List.set_set,hg,Ce (show i<4611686018427387904 by omega)]
    refine Ac.bind a0.two ?_
    simp only [w1a,w1b]
    refine Ac.Ed b2.two (Ac.pos b1 (Ac.Ed c2.two (Ac.pos c1 ?_)))
    simp only [w2a,w2b]
    refine Ac.Ed d2.two (Ac.pos d1 ?_)
    simp only [w3a,w3b]
    exact Ac.Ed f2.two (Ac.pos f1 (Ac.Ed g2.two (Ac.pos g1 (Ac.Ed p2.two (Ac.pos p1 h)))))
  · have hc:0≤(i:Int)∧(i:Int)<(ys.length:Int):=by omega
    refine Ac.succ ?_
    simp only [Dy.l1,if_pos hc.2,Int.toNat_natCast,F5,if_pos hc,hg,Ce (show i<4611686018427387904 by omega)]
    refine Ac.bind a0.two (Ac.pos (Wv nm) ?_)
    simp only [w1a,w1b]
    refine Ac.pos trivial (Ac.bind b3.two (Ac.neg (by omega) (Ac.bind c3.two (Ac.neg (by omega) (Ac.pos rfl ?_)))))
    simp only [w2a,w2b]
    refine Ac.pos trivial (Ac.bind d3.two (Ac.neg (by omega) (Ac.pos rfl ?_)))
    simp only [w3a,w3b]
    exact Ac.pos trivial (Ac.bind f3.two (Ac.neg (by omega) (Ac.bind g3.two (Ac.neg (by omega) (Ac.bind p3.two (Ac.neg (by omega) h))))))
theorem Zi {xs:List Af} (hn:xs.length≤2000000) (h:∀ i,i<xs.length→Small (xs.getD i Bj)):O8 Dz.f Dy.f xs (Gy xs) :=
  O8.of (z:=Bj) (l:=Dz.l1) (l':=Dy.l1) (fun _ _ _=>rfl) (fun _ _ _=>rfl)
    (fun K k ys kk hy=>by rw [Dz.l1,if_neg (by omega)]) (fun K k ys kk hy=>by rw [Dy.l1,if_neg (by omega)]) fun i hi kk h0 hb=>by
    obtain ⟨y,a,b⟩:=aA (h i hi) h0 hb
    exact ⟨y,fun ys r hy hg h=>a ys i r (by omega) (by omega) hg h,fun ys r hy hg h=>b ys i r (by omega) (by omega) hg h⟩
theorem Yd {xs:List (List Af)} (h:F6 xs):O8 Fp.f Fj.f xs (Dm xs) :=
  O8.rows (mark:=Dz.f) (held:=Dy.f) (l:=Fp.l1) (l':=Fj.l1) h.1 (fun _ _ _=>rfl) (fun _ _ _=>rfl) (fun _ _ _ _ _=>rfl) (fun _ _ _ _ _=>rfl) (fun i hi=>Zi (h.2 i hi).1 (h.2 i hi).2)
theorem Ab.V9 {α0 α1 α2 α3 α4 α5 α6 ε:Type} {a0:α0} {a1:α1} {a2:α2} {a3:α3} {a4:α4} {a5:α5} {a6:α6} {r:ε} {F:Nat→Option (α0 × α1 × α2 × α3 × α4 × α5 × α6)} {G:Nat→α0→α1→α2→α3→α4→α5→α6→Option ε} (h:Ab F (a0,a1,a2,a3,a4,a5,a6)) (g:Ab (fun K=>G K a0 a1 a2 a3 a4 a5 a6) r):Ab (fun K=>Go.Proofs.YtjopfecenllmgaaGreatDoor.V9 (F K) (G K)) r:=by
  obtain ⟨n,hn⟩:=h
  obtain ⟨m,hm⟩:=g
  exact ⟨n+m,fun K hK=>by show Go.Proofs.YtjopfecenllmgaaGreatDoor.V9 (F K) (G K)=some r; rw [hn K (by omega)]; exact hm K (by omega)⟩
theorem mM {I:List Af} {U R:List (List Af)} (hI:I.length≤9223372036854775807) (hIs:∀ i,i<I.length→Fits (I.getD i Bj))
    (hU:U.length≤9223372036854775807) (hUs:∀ i,i<U.length→(U.getD i []).length≤9223372036854775807∧∀ j,j<(U.getD i []).length→Fits ((U.getD i []).getD j Bj))
    (hR:R.length≤9223372036854775807) (hRs:∀ i,i<R.length→(R.getD i []).length≤9223372036854775807∧∀ j,j<(R.getD i []).length→Fits ((R.getD i []).getD j Bj)) :
    ∃ r,Ab (fun K=>Me.f K I U R 1048576) r∧(r<0∨(0≤r∧r≤1048576∧Gy I+Dm U+Dm R≤10000000∧(I.length≤2000000∧∀ i,i<I.length→Small (I.getD i Bj))∧F6 U∧F6 R)):=by
  unfold Me.f
  refine Pt (cO hI hIs (by omega) (by omega)) fun l0 ⟨a0,a1,a2,a3⟩ _=>?_
  refine Pt (Y4 hU hUs a0 (by omega)) fun l1 ⟨b0,b1,b2⟩ _=>?_
  refine Pt (Y4 hR hRs b0 (by omega)) fun l2 ⟨c0,c1,c2⟩ _=>?_
  exact ⟨l2,Ab.const _,.inr ⟨by omega,by omega,by omega,⟨a2,a3⟩,b2,c2⟩⟩
theorem Ya {I:List Af} {U R:List (List Af)} (hI:I.length≤2000000) (hIs:∀ i,i<I.length→Small (I.getD i Bj)) (hU:F6 U) (hR:F6 R) (hc:Gy I+Dm U+Dm R≤900000000):∃ (I':List Af) (U' R':List (List Af)),
    I'.length=I.length∧U'.length=U.length∧R'.length=R.length∧Ab (fun K=>J3.f K I U R 1) (1+(Gy I:Int)+(Dm U:Int)+(Dm R:Int),I',U',R')∧Ab (fun K=>J5.f K I' U' R' 1) (1+(Gy I:Int)+(Dm U:Int)+(Dm R:Int)):=by
  have hM:Xw=1000000000000:=rfl
  obtain ⟨I',a1,a2,a3⟩:=Zi hI hIs 1 (by omega) (by omega)
  obtain ⟨U',b1,b2,b3⟩:=Yd hU (1+(Gy I:Int)) (by omega) (by omega)
  obtain ⟨R',c1,c2,c3⟩:=Yd hR (1+(Gy I:Int)+(Dm U:Int)) (by omega) (by omega)
  exact ⟨I',U',R',a1,b1,c1,Ab.Ed a2 (Ab.pos a1 (Ab.Ed b2 (Ab.pos b1 (Ab.Ed c2 (Ab.pos c1 (Ab.const _)))))),Ab.bind a3 (Ab.neg (by omega) (Ab.bind b3 (Ab.neg (by omega) (Ab.bind c3 (Ab.neg (by omega) (Ab.const _))))))⟩
theorem jU {x:Af} (h:Small x) {k:Int} (h0:0≤k) (hc:k+L9 x≤900000000):∃ (q:Int) (ts:List (List Br)) (cr:List Ah) (wd:List Int) (mv:List Cc) (tt pp:List Int),0≤q∧ts.length=x.Ad.length∧cr.length=x.Ae.length∧wd.length=x.Ay.length∧mv.length=x.Ag.length∧tt.length=x.Ak.length∧pp.length=x.Ai.length ∧
    Ab (fun K=>La.f K x.Name x.Kind x.Ad x.Ae x.Al x.Ao x.Ay x.Am x.Aj x.Ag x.Ak x.Ai k) (q,ts,cr,wd,mv,tt,pp):=by
  obtain ⟨_,⟨h2,h2r⟩,h3,h4,h5,h6,h7⟩:=h
  unfold L9 at hc
  have hM:Xw=1000000000000:=rfl
  obtain ⟨ts,b1,b2,_⟩:=Xe h2 h2r k h0 (by omega)
  generalize e1:k+(cF x.Ad:Int)=k1 at b2
  obtain ⟨cr,c1,c2,_⟩:=Uc h3 k1 (by omega) (by omega)
  generalize e2:k1+((5 * x.Ae.length:Nat):Int)=k2 at c2
  obtain ⟨wd,d1,d2,_⟩:=Pw h4 k2 (by omega) (by omega)
  generalize e3:k2+(x.Ay.length:Int)=k3 at d2
  obtain ⟨mv,f1,f2,_⟩:=Zo h5 k3 (by omega) (by omega)
  generalize e4:k3+((3 * x.Ag.length:Nat):Int)=k4 at f2
  obtain ⟨tt,g1,g2,_⟩:=Pw h6 k4 (by omega) (by omega)
  generalize e5:k4+(x.Ak.length:Int)=k5 at g2
  obtain ⟨pp,p1,p2,_⟩:=Pw h7 k5 (by omega) (by omega)
  generalize e6:k5+(x.Ai.length:Int)=k6 at p2
  refine ⟨k6,ts,cr,wd,mv,tt,pp,by omega,b1,c1,d1,f1,g1,p1,?_⟩
  have mt:Ab (fun K=>Hq.f K x.Ad k) (k1,ts):=Ab.Ed b2 (Ab.pos b1 (Ab.const _))
  have md:Ab (fun K=>Kj.f K x.Ae x.Al k1) (k2,cr):=Ab.Ed c2 (Ab.pos c1 (Ab.const _))
  have mb:Ab (fun K=>Ll.f K x.Ao x.Ay k2) (k3,wd):=Ab.Ed d2 (Ab.pos d1 (Ab.const _))
  have mc:Ab (fun K=>Iu.f K x.Am x.Aj x.Ag x.Ak x.Ai k3) (k6,mv,tt,pp):=Ab.Ed f2 (Ab.pos f1 (Ab.Ed g2 (Ab.pos g1 (Ab.Ed p2 (Ab.pos p1 (Ab.const _))))))
  unfold La.f
  exact Ab.Ed mt (Ab.pos b1 (Ab.Ed md (Ab.pos c1 (Ab.Ed mb (Ab.pos d1 (Ab.Jv mc (Ab.pos f1 (Ab.pos g1 (Ab.pos p1 (Ab.const _))))))))))
end Go.Proofs.YtjopfecenllmgaaGreatDoor
