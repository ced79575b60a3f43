/-
  More: deletion out of a map, map literals; rows of rows that are made, that take a row in; rows of rows seen as rows of numbers.
-/
import Derived.Test.YtbjfinndngafoaaGreatSlH
set_option linter.unusedVariables false
set_option linter.unusedSimpArgs false
namespace Go.Proofs.YtbjfinndngafoaaGreat
open Go.RowKit
theorem exI {α : Sort _} {p : α → Prop} {b : Prop} (h : ∀ x, p x → b) : (∃ x, p x) → b := fun ⟨x, hx⟩ => h x hx
theorem anI {p q b : Prop} (h : p → q → b) : p ∧ q → b := fun ⟨x, y⟩ => h x y
def okPick (n : Nat) : List Nat → Bool
  | [] => true
  | i :: is => Nat.blt i n && !(is.any (Nat.beq i ·)) && okPick n is
def pickD (n : Nat) (L : List HObj) : List Nat → List HObj
  | [] => L.drop n
  | i :: is => L.getD i Emp :: pickD n L is
theorem pickD_set {n i : Nat} {L : List HObj} {x : HObj} (hi : i < n) : ∀ {is : List Nat}, is.any (Nat.beq i ·) = false → pickD n (L.set i x) is = pickD n L is
  | [], _ => by
    unfold pickD
    rw [List.drop_set]
    split
    · rfl
    · omega
  | j :: is, h => by
    rw [List.any_cons, Bool.or_eq_false_iff] at h
    unfold pickD
    rw [pickD_set hi h.2, List.getD_eq_getElem?_getD, List.getElem?_set_ne (fun e => by rw [e, Nat.beq_refl] at h; exact Bool.noConfusion h.1), ← List.getD_eq_getElem?_getD]
theorem pick_eq {n : Nat} : ∀ {is : List Nat} {L : List HObj}, okPick n is = true → pick n L is = pickD n L is
  | [], L, _ => rfl
  | i :: is, L, h => by
    unfold okPick at h
    rw [Bool.and_eq_true, Bool.and_eq_true] at h
    have h1 : i < n := Nat.le_of_ble_eq_true h.1.1
    have h2 : is.any (Nat.beq i ·) = false := by
      have := h.1.2
      revert this
      cases is.any (Nat.beq i ·) <;> simp
    unfold pick pickD
    rw [pick_eq h.2, pickD_set h1 h2]
theorem St.pk {w0 w : World} {L : List HObj} (n : Nat) (is : List Nat) (h : St w0 w L) (ho : okPick n is = true) : St w0 w (pickD n L is) := by
  rw [← pick_eq ho]
  exact h.pick n is
def keyAt : Env → Nat → Nat → Bool
  | [], _, _ => false
  | p :: _, 0, d => Nat.beq p.1 d
  | p :: r, i + 1, d => !Nat.beq p.1 d && keyAt r i d
theorem look_setAt : ∀ {e : Env} {i d : Nat} {v : Value}, keyAt e i d = true → ∀ t, look (e.set i (d, v)) t = look ((d, v) :: e) t
  | [], _, _, _, h, _ => Bool.noConfusion h
  | p :: r, 0, d, v, h, t => by
    have hd : p.1 = d := Nat.eq_of_beq_eq_true h
    show (bif Nat.beq d t then some v else look r t) = (bif Nat.beq d t then some v else bif Nat.beq p.1 t then some p.2 else look r t)
    rw [hd]
    cases Nat.beq d t <;> rfl
  | p :: r, i + 1, d, v, h, t => by
    have h' : (!Nat.beq p.1 d && keyAt r i d) = true := h
    rw [Bool.and_eq_true] at h'
    have ih := look_setAt (v := v) h'.2 t
    have hn : ¬ p.1 = d := fun e => by
      have := h'.1
      rw [e, Nat.beq_refl] at this
      cases this
    show (bif Nat.beq p.1 t then some p.2 else look (r.set i (d, v)) t) = (bif Nat.beq d t then some v else bif Nat.beq p.1 t then some p.2 else look r t)
    rw [ih]
    show (bif Nat.beq p.1 t then some p.2 else bif Nat.beq d t then some v else look r t) = _
    cases h1 : Nat.beq p.1 t <;> cases h2 : Nat.beq d t <;> try rfl
    exact absurd ((Nat.eq_of_beq_eq_true h1).trans (Nat.eq_of_beq_eq_true h2).symm) hn
theorem Sat.setAt {N : Nat} {e : Env} {a : Act} {d : Nat} {v : Value} (h : Sat N ((d, v) :: e) a) (i : Nat) (hk : keyAt e i d = true) : Sat N (e.set i (d, v)) a := ⟨h.defers, h.size, fun t u ht => h.at_ t u (by rw [← look_setAt hk t]; exact ht)⟩
theorem mget_put : ∀ (m : List (Int × Int)) (k v k' : Int), mget (mput m k v) k' = if k' = k then some v else mget m k'
  | [], k, v, k' => by simp [mput, mget]
  | p :: r, k, v, k' => by
    unfold mput
    by_cases h : k = p.1
    · rw [if_pos h]
      unfold mget
      by_cases h2 : k' = k
      · simp [h2]
      · rw [if_neg h2, if_neg h2, if_neg (fun e => h2 (e.trans h.symm))]
    · rw [if_neg h]
      unfold mget
      by_cases h2 : k' = p.1
      · rw [if_pos h2, if_neg (fun e => h (e.symm.trans h2)), if_pos h2]
      · rw [if_neg h2, mget_put r k v k', if_neg h2]
theorem put_len : ∀ (m : List (Int × Int)) (k v : Int), (mput m k v).length = if (mget m k).isSome then m.length else m.length + 1
  | [], _, _ => rfl
  | p :: r, k, v => by
    unfold mput mget
    by_cases h2 : k = p.1
    · rw [if_pos h2, if_pos h2]; simp
    · rw [if_neg h2, if_neg h2, List.length_cons, put_len r k v, List.length_cons]
      split <;> rfl
def UM (m : List (Int × Int)) : Prop := (m.map (·.1)).Nodup
theorem put_keys : ∀ (m : List (Int × Int)) (k v : Int) (x : Int), x ∈ (mput m k v).map (·.1) ↔ x = k ∨ x ∈ m.map (·.1)
  | [], k, v, x => by simp [mput]
  | p :: r, k, v, x => by
    unfold mput
    by_cases h2 : k = p.1
    · rw [if_pos h2]; simp only [List.map_cons, List.mem_cons]; rw [h2]; simp
    · rw [if_neg h2, List.map_cons, List.mem_cons, put_keys r k v x, List.map_cons, List.mem_cons]
      constructor
      · rintro (h | h | h)
        · exact .inr (.inl h)
        · exact .inl h
        · exact .inr (.inr h)
      · rintro (h | h | h)
        · exact .inr (.inl h)
        · exact .inl h
        · exact .inr (.inr h)
theorem UM.put : ∀ {m : List (Int × Int)} (k v : Int), UM m → UM (mput m k v)
  | [], k, v, _ => by simp [UM, mput]
  | p :: r, k, v, h => by
    have h' := List.nodup_cons.1 (show (p.1 :: r.map (·.1)).Nodup from h)
    unfold mput
    by_cases h2 : k = p.1
    · rw [if_pos h2]
      show (k :: r.map (·.1)).Nodup
      rw [h2]
      exact h
    · rw [if_neg h2]
      refine List.nodup_cons.2 ⟨fun hm => ?_, UM.put k v h'.2⟩
      rcases (put_keys r k v p.1).1 hm with e | e
      · exact h2 e.symm
      · exact h'.1 e
structure SameM (m' m : List (Int × Int)) : Prop where
  u' : UM m'
  u : UM m
  g : ∀ k, mget m' k = mget m k
  l : m'.length = m.length
theorem SameM.put {m' m : List (Int × Int)} (h : SameM m' m) (k v : Int) : SameM (mput m' k v) (mput m k v) := ⟨h.u'.put k v, h.u.put k v, fun k' => by rw [mget_put, mget_put, h.g], by rw [put_len, put_len, h.g, h.l]⟩
def MapJ (b : Nat) (kk kv : IntKind) (m : List (Int × Int)) : HObj where
  P := fun w q => q b ∧ ∃ es clock m', w.heap[b]? = some (.map es clock) ∧ mpairs kk kv es.toList m' ∧ SameM m' m
  loc := fun h hk => ⟨h.1, by obtain ⟨es, c, m', h1, h2, h3⟩ := h.2; exact ⟨es, c, m', (hk b h.1).trans h1, h2, h3⟩⟩
  more := fun h hq => ⟨hq b h.1, h.2⟩
section
variable {w0 w w' : World} {L : List HObj} {b j : Nat} {kk kv : IntKind} {m : List (Int × Int)}
theorem St.newMapJ (h : St w0 w L) (kk kv : IntKind) : St w0 (w.alloc (.map #[] 0)) (MapJ w.heap.size kk kv [] :: L) :=
  h.cons (by simp) rfl rfl rfl (fun k hk => Below.heap_alloc w _ k hk) ⟨by simp, #[], 0, [], heap_alloc_new w _, rfl, ⟨List.nodup_nil, List.nodup_nil, fun _ => rfl, rfl⟩⟩
theorem St.mapJ (h : St w0 w L) (hj : L[j]? = some (MapJ b kk kv m)) : ∃ es clock m', w.heap[b]? = some (.map es clock) ∧ mpairs kk kv es.toList m' ∧ SameM m' m := by
  obtain ⟨q, _, h1, h2⟩ := h.get hj
  exact h2
end
section
variable {P : Program} {N : Nat} {e : Env} {w0 w : World} {L : List HObj} {Q : Act → World → Prop} {ops : Array Oper} {i d : Nat} {rest : List Nat} {ty : TypeId} {ps : String} {af : Array Edge} {b j : Nat} {kk kv : IntKind} {m : List (Int × Int)}
theorem GO.newMapJ {t : TypeId} (kk kv : IntKind) (HS : St w0 w L) (ho : ops[i]? = some ⟨some d, .makeMap t none, ty, ps, af, none⟩) (hN : Nat.blt d N = true)
    (g : ∀ b w', St w0 w' (MapJ b kk kv [] :: L) → GO P N ops rest ((d, .map (some b)) :: e) w' Q) : GO P N ops (i :: rest) e w Q :=
  GO.val (.map (some w.heap.size)) ho rfl rfl hN (fun a hs => by simp [execOp, Instr.makeMap]) (g _ _ (HS.newMapJ kk kv))
theorem run_lookJ {t k el : TypeId} {key : Int} (HS : St w0 w L) (hj : L[j]? = some (MapJ b kk kv m)) (ht : P.underlying t = some (.map k el)) (hk : P.underlying k = some (.int kk)) (hz : (P.info? el).map (·.zero) = some (some (.int kv 0))) (cm : Bool) :
    (Instr.lookup t (.map (some b)) (.int kk key) cm).run P w = .ok (bif cm then .tuple #[.int kv ((mget m key).getD 0), .bool (mget m key).isSome] else .int kv ((mget m key).getD 0)) w := by
  obtain ⟨es, clock, m', hb, hm, hsm⟩ := HS.mapJ hj
  rw [← hsm.g]
  obtain ⟨inf, hi, hz'⟩ := Option.map_eq_some_iff.1 hz
  have hck := MapKept.run_checkKey (w := w) hk (k := .int kk key) (by simp [MapKept.IsKey]) es.isEmpty 9999
  have hzz : (zeroValue el).run P w = .ok (.int kv 0) w := by simp [zeroValue, typeInfo, hi, hz']
  rcases findNow_int (k := key) 0 hm with ⟨h1, h2, _⟩ | ⟨v0, n, e0, h1, h2, _, _, _⟩
  · have hf := MapKept.run_findKey (w := w) hk h2
    cases cm <;> simp [Instr.lookup, run_underlying ht, MapKept.run_getObj_map hb, hck, hf, hzz, h1]
  · have hf := MapKept.run_findKey (w := w) hk h2
    cases cm <;> simp [Instr.lookup, run_underlying ht, MapKept.run_getObj_map hb, hck, hf, h1]
theorem GO.lookOkJ {t k el : TypeId} {x y : Operand} {key : Int} (HS : St w0 w L) (hj : L[j]? = some (MapJ b kk kv m)) (ho : ops[i]? = some ⟨some d, .lookup t x y true, ty, ps, af, none⟩) (hx : ev e x = some (.map (some b))) (hy : ev e y = some (.int kk key)) (ht : P.underlying t = some (.map k el)) (hk : P.underlying k = some (.int kk)) (hz : (P.info? el).map (·.zero) = some (some (.int kv 0))) (hN : Nat.blt d N = true)
    (g : GO P N ops rest ((d, .tuple #[.int kv ((mget m key).getD 0), .bool (mget m key).isSome]) :: e) w Q) : GO P N ops (i :: rest) e w Q :=
  GO.val _ ho rfl rfl hN (fun a hs => by simp [execOp, hs.ev hx, hs.ev hy, run_lookJ HS hj ht hk hz true]) g
theorem GO.lookJ {t k el : TypeId} {x y : Operand} {key : Int} (HS : St w0 w L) (hj : L[j]? = some (MapJ b kk kv m)) (ho : ops[i]? = some ⟨some d, .lookup t x y false, ty, ps, af, none⟩) (hx : ev e x = some (.map (some b))) (hy : ev e y = some (.int kk key)) (ht : P.underlying t = some (.map k el)) (hk : P.underlying k = some (.int kk)) (hz : (P.info? el).map (·.zero) = some (some (.int kv 0))) (hN : Nat.blt d N = true)
    (g : GO P N ops rest ((d, .int kv ((mget m key).getD 0)) :: e) w Q) : GO P N ops (i :: rest) e w Q :=
  GO.val _ ho rfl rfl hN (fun a hs => by simp [execOp, hs.ev hx, hs.ev hy, run_lookJ HS hj ht hk hz false]) g
theorem GO.lenMJ {t k el : TypeId} {x : Operand} (HS : St w0 w L) (hj : L[j]? = some (MapJ b kk kv m)) (ho : ops[i]? = some ⟨some d, .call { callee := .builtin .len, args := #[x], argTypes := #[t] }, ty, ps, af, none⟩) (hx : ev e x = some (.map (some b))) (ht : P.underlying t = some (.map k el)) (hN : Nat.blt d N = true)
    (g : GO P N ops rest ((d, .int .i64 (m.length : Int)) :: e) w Q) : GO P N ops (i :: rest) e w Q := by
  refine GO.val _ ho rfl rfl hN (fun a hs => ?_) g
  obtain ⟨es, clock, m', hb, hm, hsm⟩ := HS.mapJ hj
  have hl : es.size = m.length := by have := congrArg List.length hm; rw [← hsm.l]; simpa using this
  simp [execOp, resolve, invoke, builtin, hs.ev hx, Builtin.len_, run_underlying ht, MapKept.run_getObj_map hb, goInt, hl]
theorem run_put {t k el : TypeId} {key v : Int} (HS : St w0 w L) (hj : L[j]? = some (MapJ b kk kv m)) (ht : P.underlying t = some (.map k el)) (hk : P.underlying k = some (.int kk)) :
    ∃ w', (Instr.mapUpdate t (.map (some b)) (.int kk key) (.int kv v)).run P w = .ok () w' ∧ St w0 w' (L.set j (MapJ b kk kv (mput m key v))) := by
  obtain ⟨es, clock, m0, hb, hm, hsm⟩ := HS.mapJ hj
  have hck := MapKept.run_checkKey (w := w) hk (k := .int kk key) (by simp [MapKept.IsKey]) false 9999
  have hup : ∀ (o : Obj), (∃ es' c', o = .map es' c' ∧ mpairs kk kv es'.toList (mput m0 key v)) → St w0 { w with heap := w.heap.setIfInBounds b o } (L.set j (MapJ b kk kv (mput m key v))) := fun o ho => by
    obtain ⟨es', c', rfl, hm'⟩ := ho
    obtain ⟨hs1, hs2⟩ := MapKept.heap_set (w := w) (o' := .map es' c') hb
    refine HS.upd hj (by simp) rfl rfl rfl (fun q hq => ⟨q, fun k hk => .inl hk, ⟨hq.1, es', c', _, hs1, hm', hsm.put key v⟩, fun k hk hn => hs2 k (fun e => hn (by rw [e]; exact hq.1))⟩)
  rcases findNow_int (k := key) 0 hm with ⟨h1, h2, h3⟩ | ⟨v0, n, e0, h1, h2, h3, h4, h5⟩
  · have hf := MapKept.run_findKey (w := w) hk h2
    refine ⟨{ w with heap := w.heap.setIfInBounds b (.map (es.push ⟨.int kk key, .int kv v, clock⟩) (clock + 1)) }, ?_, hup _ ⟨_, _, rfl, ?_⟩⟩
    · simp [Instr.mapUpdate, run_underlying ht, MapKept.run_getObj_map hb, hck, hf, MapKept.run_setObj_map _ hb]
    · have := h3 v
      unfold mpairs at this ⊢
      simpa using this
  · have hf := MapKept.run_findKey (w := w) hk h2
    have hst := MapKept.run_keyThatStays (P := P) (w := w) (k := .int kk key) (d := .int kk) (by simp [MapKept.IsKey])
    have h3' : es[n]? = some e0 := by simpa using h3
    refine ⟨{ w with heap := w.heap.setIfInBounds b (.map (es.modify n fun e => { e with key := .int kk key, val := .int kv v }) clock) }, ?_, hup _ ⟨_, _, rfl, ?_⟩⟩
    · simp [Instr.mapUpdate, run_underlying ht, MapKept.run_getObj_map hb, hck, hf, h3', h4, hst, MapKept.run_setObj_map _ hb]
    · have := h5 v
      rw [Array.toList_modify]
      exact this
theorem GO.putMJ {t k el : TypeId} {x y z : Operand} {key v : Int} (HS : St w0 w L) (hj : L[j]? = some (MapJ b kk kv m)) (ho : ops[i]? = some ⟨none, .mapUpdate t x y z, ty, ps, af, none⟩) (hx : ev e x = some (.map (some b))) (hy : ev e y = some (.int kk key)) (hv : ev e z = some (.int kv v)) (ht : P.underlying t = some (.map k el)) (hk : P.underlying k = some (.int kk))
    (g : ∀ w', St w0 w' (L.set j (MapJ b kk kv (mput m key v))) → GO P N ops rest e w' Q) : GO P N ops (i :: rest) e w Q := by
  obtain ⟨w', hr, hst⟩ := run_put (key := key) (v := v) HS hj ht hk
  exact GO.skipAct ho rfl rfl (fun a hs => by simp [execOp, hs.ev hx, hs.ev hy, hs.ev hv, hr]) (g w' hst)
end
theorem splice_cons (x : Value) (R : List Value) (n : Nat) (v : Value) : splice (x :: R) (n + 1) [v] = x :: splice R n [v] := by simp [splice]
section
variable {α : Type} {T : Ty α} {w w' : World} {ly : Nat → T.Lay}
theorem SepM.set {l' : T.Lay} {y : α} : ∀ {xs : List α} {i n m : Nat} {q q2 : Nat → Prop}, SepM T w ly i xs q → n < xs.length → m = i + n → T.M w q2 l' y → (∀ k, q k → ¬ q2 k) → SepM T w (fun k => if k = m then l' else ly k) i (xs.set n y) (fun k => q k ∨ q2 k)
  | x :: r, i, 0, m, q, q2, ⟨q0, q1, h0, h1, hdd, hx, hs⟩, hn, hm, hy, hd => by
    obtain rfl : m = i := by omega
    refine ⟨q2, q1, fun k hk => .inr hk, fun k hk => .inl (h1 k hk), fun k hk hn => hd k (h1 k hn) hk, ?_, hs.congr (fun k hk _ => ?_)⟩
    · show T.M w q2 (if m = m then l' else ly m) y
      rw [if_pos rfl]; exact hy
    · rw [if_neg (by omega)]
  | x :: r, i, n + 1, m, q, q2, ⟨q0, q1, h0, h1, hdd, hx, hs⟩, hn, hm, hy, hd => by
    refine ⟨q0, fun k => q1 k ∨ q2 k, fun k hk => .inl (h0 k hk), fun k hk => hk.imp (h1 k) id, fun k hk hn => hn.elim (hdd k hk) (hd k (h0 k hk)), ?_, ?_⟩
    · show T.M w q0 (if i = m then l' else ly i) x
      rw [if_neg (by omega)]; exact hx
    · exact SepM.set hs (by simp only [List.length_cons] at hn; omega) (by omega) hy (fun k hk => hd k (h1 k hk))
theorem St.boxRowS {w0 : World} {L : List HObj} {b j : Nat} {t : TypeId} {cs : List Value} {xs : List α} (h : St w0 w L) (hj : L[j]? = some (Box b t cs)) (hsep : ∀ q, SepM T w ly 0 xs q) (hc : rc T ly 0 xs = cs) (hm : xs.length ≤ 9223372036854775807) : St w0 w (L.set j (Own T t (some ⟨b, 0, none⟩) xs.length ly xs)) := by
  refine h.upd hj (Nat.le_refl _) rfl rfl rfl (fun q hq => ⟨q, fun k hk => .inl hk, ⟨fun k => k = b, fun _ => False, fun k hk => by rw [hk]; exact hq.1, fun _ hk => hk.elim, fun _ _ hk => hk, ?_, fun k hk => ?_, hsep _⟩, fun k _ _ => rfl⟩)
  · refine ⟨rc_length _ _, .inr ⟨b, 0, xs.length, cs.toArray, rfl, hq.2, Nat.le_refl _, by simp only [maxLen]; omega, ?_, ?_⟩⟩
    · rw [← hc]; simp [rc_length]
    · rw [← hc]
      simp only [List.toList_toArray, List.drop_zero]
      rw [List.take_of_length_le (by rw [rc_length]; exact Nat.le_refl _)]
  · simp [Value.ownBlock] at hk
    exact hk.symm
end
theorem SepM.nils {α : Type} {S : Ty α} {u : TypeId} {w : World} (l0 : Nat → S.Lay) : ∀ (n i : Nat) (q : Nat → Prop), SepM (Ty.slice u S) w (fun _ => ⟨none, 0, l0⟩) i (List.replicate n []) q
  | 0, _, _ => trivial
  | n + 1, i, q => ⟨fun _ => False, q, fun _ h => h.elim, fun _ h => h, fun _ h => h.elim, OwnP.nil u l0 w _, SepM.nils l0 n (i + 1) q⟩
theorem rc_setRow {α : Type} {S : Ty α} {u : TypeId} {ly : Nat → SLay S.Lay} {l' : SLay S.Lay} {y : List α} : ∀ {xs : List (List α)} {i n m : Nat}, n < xs.length → m = i + n → rc (Ty.slice u S) (fun k => if k = m then l' else ly k) i (xs.set n y) = splice (rc (Ty.slice u S) ly i xs) n [.slice l'.A y.length l'.c]
  | x :: r, i, 0, m, hn, hm => by
    obtain rfl : m = i := by omega
    have h1 : rc (Ty.slice u S) (fun k => if k = m then l' else ly k) (m + 1) r = rc (Ty.slice u S) ly (m + 1) r := rc_congr (fun k hk _ => by rw [if_neg (by omega)])
    rw [List.set_cons_zero, rc, rc, h1]
    simp [splice]
  | x :: r, i, n + 1, m, hn, hm => by
    have ih := rc_setRow (u := u) (ly := ly) (l' := l') (y := y) (xs := r) (i := i + 1) (n := n) (m := m) (by simp only [List.length_cons] at hn; omega) (by omega)
    rw [List.set_cons_succ, rc, rc, ih]
    show [Value.slice (if i = m then l' else ly i).A x.length (if i = m then l' else ly i).c] ++ _ = splice ([Value.slice (ly i).A x.length (ly i).c] ++ _) (n + 1) _
    rw [if_neg (by omega), List.singleton_append, List.singleton_append, splice_cons]
section
variable {α : Type} {S : Ty α} {P : Program} {N : Nat} {e : Env} {w0 w : World} {L : List HObj} {Q : Act → World → Prop} {ops : Array Oper} {i d : Nat} {rest : List Nat} {ty : TypeId} {ps : String} {af : Array Edge}
theorem GO.makeR {u t el : TypeId} {x y : Operand} {kl kc : IntKind} {m : Int} {bytes : Nat} (l0 : Nat → S.Lay) (HS : St w0 w L) (ho : ops[i]? = some ⟨some d, .makeSlice t x y, ty, ps, af, none⟩) (hx : ev e x = some (.int kl m)) (hy : ev e y = some (.int kc m)) (ht : P.underlying t = some (.slice el)) (hinf : (P.info? el).map (fun i => (i.zero, i.size, i.bytes)) = some (some (.slice none 0 0), 1, bytes)) (hb0 : Nat.blt 0 bytes = true)
    (h0 : 0 ≤ m) (hm : m.toNat * bytes ≤ 281474976710656) (hN : Nat.blt d N = true)
    (g : ∀ b w', St w0 w' (Own (Ty.slice u S) el (some ⟨b, 0, none⟩) m.toNat (fun _ => ⟨none, 0, l0⟩) (List.replicate m.toNat []) :: L) → GO P N ops rest ((d, .slice (some ⟨b, 0, none⟩) (List.replicate m.toNat ([] : List α)).length m.toNat) :: e) w' Q) : GO P N ops (i :: rest) e w Q := by
  simp only [List.length_replicate] at g
  obtain ⟨inf, hi, hzz⟩ := Option.map_eq_some_iff.1 hinf
  simp only [Prod.mk.injEq] at hzz
  obtain ⟨hz0, hz1, hz2⟩ := hzz
  have hb0' : 0 < bytes := Nat.le_of_ble_eq_true hb0
  have hmm : m.toNat ≤ 281474976710656 := Nat.le_trans (Nat.le_mul_of_pos_right _ hb0') hm
  have hbm : (inf.bytes : Int) * m ≤ 281474976710656 := by
    have h3 : ((m.toNat * bytes : Nat) : Int) ≤ 281474976710656 := by omega
    rw [Int.natCast_mul, Int.toNat_of_nonneg h0, Int.mul_comm] at h3
    rw [hz2]
    exact h3
  have hrun := run_make (P := P) w t el inf (.slice none 0 0) ht hi hz0 kl kc m m h0 (Int.le_refl _) hbm (by omega)
  refine GO.val (w' := w.alloc (.cells (madeCells (Value.slice none 0 0).cells (m.toNat * inf.size)) el)) _ ho rfl rfl hN (fun a hs => by simp [execOp, hs.ev hx, hs.ev hy, hrun]) (g w.heap.size _ ?_)
  rw [hz1]
  let l : SLay S.Lay := ⟨none, 0, l0⟩
  have hcl : (madeCells [Value.slice none 0 0].toArray (m.toNat * 1)).toList = rc (Ty.slice u S) (fun _ => l) 0 (List.replicate m.toNat []) := by
    rw [replicate_get]
    exact toList_madeCells [Value.slice none 0 0] (by decide) _
  have h1 := (HS.alloc (rc (Ty.slice u S) (fun _ => l) 0 (List.replicate m.toNat [])) el).boxRowS (j := 0) rfl (fun q => SepM.nils l0 _ _ q) rfl (by simp; omega)
  rw [← hcl] at h1
  simpa [Value.cells] using h1
theorem GO.stRowR {u t tb : TypeId} {x y : Operand} {A A2 : Option Addr} {c c2 n : Nat} {ly : Nat → SLay S.Lay} {ly2 : Nat → S.Lay} {xs : List (List α)} {ys : List α} (HS : St w0 w (Own (Ty.slice u S) tb A c ly xs :: Own S u A2 c2 ly2 ys :: L)) (ho : ops[i]? = some ⟨none, .store t x y, ty, ps, af, none⟩) (hx : ev e x = some (.pointer (some (ea A (n * 1))))) (hy : ev e y = some (.slice A2 ys.length c2))
    (ht : naB P t = true) (hn : n < xs.length)
    (g : ∀ (ly' : Nat → SLay S.Lay) w', St w0 w' (Own (Ty.slice u S) tb A c ly' (xs.set n ys) :: L) → GO P N ops rest e w' Q) : GO P N ops (i :: rest) e w Q := by
  obtain ⟨hbel, q, r, hq, hr, hqr, ⟨q1, q2, h1, h2, hd, hown, hb, hs⟩, qe, re, hqe, hre, hed, hoe, hL⟩ := HS
  obtain ⟨gb, og, cur, hA, hh, hnc, hcm, hsz, htk⟩ := hown.open (by omega)
  subst hA
  have hg1 : q1 gb := hb gb rfl
  have hput := hown.put (k := n) (vs := [Value.slice A2 ys.length c2]) hh (by rw [rc_length, List.length_singleton]; show n + 1 ≤ xs.length * 1; omega)
  have hea : ea (some ⟨gb, og, none⟩) (n * 1) = ⟨gb, og + n, none⟩ := by rw [ea_some, addr_off]; simp
  rw [hea] at hx
  let l' : SLay S.Lay := ⟨A2, c2, ly2⟩
  refine GO.skipAct (w' := w.setRow gb (splice cur.toList (og + n) [.slice A2 ys.length c2]).toArray) ho rfl rfl (fun a hs => by simp [execOp, Instr.storeAt, Instr.sureAddr, hs.ev hx, hs.ev hy, run_st_row (v := .slice A2 ys.length c2) (vs := [.slice A2 ys.length c2]) rfl (run_size_no ht) hh (fun u hu => by rw [List.mem_singleton.1 hu]; rfl) hput.1]) (g (fun k => if k = n then l' else ly k) _ ?_)
  have hkeep : ∀ k, k ≠ gb → (w.setRow gb (splice cur.toList (og + n) [.slice A2 ys.length c2]).toArray).heap[k]? = w.heap[k]? := fun k hk => setRow_other w gb k _ hk
  have hqg := hq gb (h1 gb hg1)
  refine ⟨hbel.trans ⟨rfl, rfl, rfl, by simp, fun k hk => hkeep k (by omega)⟩, fun k => q k ∨ qe k, re, ?_, ?_, ?_, ⟨q1, fun k => q2 k ∨ qe k, ?_, ?_, ?_, ?_, ?_, ?_⟩, ?_⟩
  · intro k hk
    simp only [size_setRow]
    rcases hk with hk | hk
    · exact hq k hk
    · exact hr k (hqe k hk)
  · intro k hk
    simp only [size_setRow]
    exact hr k (hre k hk)
  · intro k hk hn
    rcases hk with hk | hk
    · exact hqr k hk (hre k hn)
    · exact hed k hk hn
  · exact fun k hk => .inl (h1 k hk)
  · intro k hk
    rcases hk with hk | hk
    · exact .inl (h2 k hk)
    · exact .inr hk
  · intro k hk hn
    rcases hn with hn | hn
    · exact hd k hk hn
    · exact hqr k (h1 k hk) (hqe k hn)
  · rw [List.length_set, rc_setRow (l' := l') hn (by omega)]
    exact hput.2
  · rw [List.length_set]; exact hb
  · have hlocq : ∀ k, q2 k → (w.setRow gb (splice cur.toList (og + n) [.slice A2 ys.length c2]).toArray).heap[k]? = w.heap[k]? := fun k hk => hkeep k (fun e => hd gb hg1 (by rw [← e]; exact hk))
    have hloce : ∀ k, qe k → (w.setRow gb (splice cur.toList (og + n) [.slice A2 ys.length c2]).toArray).heap[k]? = w.heap[k]? := fun k hk => hkeep k (fun e => hqr gb (h1 gb hg1) (hqe gb (by rw [← e]; exact hk)))
    exact SepM.set (T := Ty.slice u S) (l' := l') (hs.loc hlocq) hn (by omega) (OwnP.loc hoe hloce) (fun k hk hn => hqr k (h2 k hk) (hqe k hn))
  · exact hL.loc (fun k hk => hkeep k (fun e => hqr gb (h1 gb hg1) (hre gb (by rw [← e]; exact hk))))
end
theorem over_lenR {α : Type} {xs : List α} {l n : Nat} {z : α} (h : l + n ≤ xs.length) : (over xs l (List.replicate n z)).length = xs.length := over_length (by rw [List.length_replicate]; exact h)
theorem cutA_zero (A : Option Addr) (c s : Nat) : cutA A 0 c s = A := by
  unfold cutA
  split
  · rfl
  · cases A with
    | none => rfl
    | some a => simp [Addr.add]
section
variable {α : Type} {T : Ty α} {P : Program} {N : Nat} {e : Env} {w0 w : World} {L : List HObj} {Q : Act → World → Prop} {ops : Array Oper} {i d : Nat} {rest : List Nat} {ty : TypeId} {ps : String} {af : Array Edge} {ly : Nat → T.Lay} {A : Option Addr} {c : Nat} {xs : List α}
theorem run_clear_sz (w : World) (t ty elem : TypeId) (sz g o n cap : Nat) (cur : Array Value) (tb : TypeId) (z : Value) (inf : TypeInfo) (hu : P.underlying t = some (.slice elem)) (hi : P.info? elem = some inf) (hz : inf.zero = some z) (hp : 0 < n)
    (hg : w.heap[g]? = some (.cells cur tb (0, 0))) (hfit : o + (Builtin.zeroCells z.cells n).toList.length ≤ cur.size) (h1 : ∀ v ∈ (Builtin.zeroCells z.cells n).toList, v.oneCell' = true) :
    (Builtin.clear_ #[t] ty #[.slice (some ⟨g, o, none⟩) n cap]).run P w = .ok (.tuple #[]) (w.setRow g (splice cur.toList o (Builtin.zeroCells z.cells n).toList).toArray) := by
  have hst := run_storeCells_at P g o tb (Builtin.zeroCells z.cells n).toList 0 cur w hg (by simpa using hfit) h1
  simp only [Nat.add_zero] at hst
  obtain ⟨n', rfl⟩ : ∃ n', n = n' + 1 := ⟨n - 1, by omega⟩
  simp [Builtin.clear_, run_underlying hu, zeroValue, typeInfo, hi, hz, hst, splice]
theorem GO.clearC {t el tb : TypeId} {x : Operand} {B : Option Addr} {j l dn dc : Nat} {z : Value} (z0 : α) (l0 : T.Lay) (HS : St w0 w L) (hj : L[j]? = some (Own T tb A c ly xs)) (hfl : Flat T) (ho : ops[i]? = some ⟨none, .call { callee := .builtin .clear, args := #[x], argTypes := #[t] }, ty, ps, af, none⟩) (hx : ev e x = some (.slice B dn dc))
    (ht : P.underlying t = some (.slice el)) (hz : (P.info? el).map (·.zero) = some (some z)) (hzc : z.cells = (T.cells l0 z0).toArray) (hs0 : Nat.blt 0 T.sz = true) (hC : 0 < dn → ∀ g o, A = some ⟨g, o, none⟩ → B = some ⟨g, o + l * T.sz, none⟩) (hl : l + dn ≤ xs.length) (hly : ∀ k, ly k = l0)
    (g : ∀ w', St w0 w' (L.set j (Own T tb A c ly (over xs l (List.replicate dn z0)))) → GO P N ops rest e w' Q) : GO P N ops (i :: rest) e w Q := by
  obtain ⟨inf, hi, hzz⟩ := Option.map_eq_some_iff.1 hz
  rcases Nat.eq_zero_or_pos dn with h0 | h0
  · subst h0
    have ho' : over xs l (List.replicate 0 z0) = xs := by unfold over; simp
    rw [ho', set_same hj] at g
    refine GO.act (.tuple #[]) ho rfl rfl (fun a hs => ?_) (g w HS)
    cases B <;> simp [execOp, resolve, invoke, builtin, hs.ev hx, Builtin.clear_, run_underlying ht]
  · obtain ⟨gb, og, cur, hA, hh, hfit, hst⟩ := HS.overRow (g := 0) (o := 0) (ys := List.replicate dn z0) (l := l) hj hfl (fun k k' => by rw [hly k, hly k']) (by rw [List.length_replicate]; exact hl) (by rw [List.length_replicate]; exact h0)
    have hB := hC h0 gb og hA
    subst hB
    have hcs : (Builtin.zeroCells z.cells dn).toList = rc T ly 0 (List.replicate dn z0) := by
      have e1 : Builtin.zeroCells z.cells dn = madeCells (T.cells l0 z0).toArray (dn * (T.cells l0 z0).length) := by
        rw [hzc]; unfold Builtin.zeroCells madeCells; simp
      have e2 : rc T ly 0 (List.replicate dn z0) = rc T (fun _ => l0) 0 (List.replicate dn z0) := rc_congr (fun k _ _ => hly k)
      rw [e1, e2, replicate_get]
      exact toList_madeCells _ (by rw [T.len]; exact Nat.le_of_ble_eq_true hs0) _
    refine GO.act (.tuple #[]) ho rfl rfl (fun a hs => ?_) (g _ hst)
    have hr := run_clear_sz (P := P) w t ty el T.sz gb (og + l * T.sz) dn dc cur tb z inf ht hi hzz h0 hh (by rw [hcs, rc_length]; simpa using hfit) (fun u hu => by rw [hcs] at hu; exact rc_one hu)
    rw [hcs] at hr
    simp only [execOp, resolve, invoke, builtin, Sem.run_bind, Sem.run_pure, Result.andThen_ok, List.map_toArray, List.map_cons, List.map_nil, hs.ev hx, hr]
end
section
variable {P : Program} {N : Nat} {e : Env} {w0 w : World} {L : List HObj} {Q : Act → World → Prop} {ops : Array Oper} {i d : Nat} {rest : List Nat} {ty : TypeId} {ps : String} {af : Array Edge}
end
section
variable {P : Program} {N : Nat} {e : Env} {w : World} {Q : Act → World → Prop} {ops : Array Oper} {i d : Nat} {rest : List Nat} {ty : TypeId} {ps : String} {af : Array Edge}
end
end Go.Proofs.YtbjfinndngafoaaGreat
