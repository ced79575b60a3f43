/-
  More: deletion out of a map, map literals; rows of rows that are made, that take a row in; rows of rows seen as rows of numbers.
-/
import Derived.Test.YtdafmbaeiefacaaSlH
set_option linter.unusedVariables false
set_option linter.unusedSimpArgs false
namespace Go.Proofs.Ytdafmbaeiefacaa
open Go.RowKit

theorem exI {α : Sort _} {p : α → Prop} {b : Prop} (h : ∀ x, p x → b) : (∃ x, p x) → b := fun ⟨x, hx⟩ => h x hx
theorem anI {p q b : Prop} (h : p → q → b) : p ∧ q → b := fun ⟨x, y⟩ => h x y

/-- Pieces chosen each once. -/
def okPick (n : Nat) : List Nat → Bool
  | [] => true
  | i :: is => Nat.blt i n && !(is.any (Nat.beq i ·)) && okPick n is
def pickD (n : Nat) (L : List HObj) : List Nat → List HObj
  | [] => L.drop n
  | i :: is => L.getD i Emp :: pickD n L is
theorem pickD_set {n i : Nat} {L : List HObj} {x : HObj} (hi : i < n) : ∀ {is : List Nat}, is.any (Nat.beq i ·) = false → pickD n (L.set i x) is = pickD n L is
  | [], _ => by
    unfold pickD
    rw [List.drop_set]
    split
    · rfl
    · omega
  | j :: is, h => by
    rw [List.any_cons, Bool.or_eq_false_iff] at h
    unfold pickD
    rw [pickD_set hi h.2, List.getD_eq_getElem?_getD, List.getElem?_set_ne (fun e => by rw [e, Nat.beq_refl] at h; exact Bool.noConfusion h.1), ← List.getD_eq_getElem?_getD]
theorem pick_eq {n : Nat} : ∀ {is : List Nat} {L : List HObj}, okPick n is = true → pick n L is = pickD n L is
  | [], L, _ => rfl
  | i :: is, L, h => by
    unfold okPick at h
    rw [Bool.and_eq_true, Bool.and_eq_true] at h
    have h1 : i < n := Nat.le_of_ble_eq_true h.1.1
    have h2 : is.any (Nat.beq i ·) = false := by
      have := h.1.2
      revert this
      cases is.any (Nat.beq i ·) <;> simp
    unfold pick pickD
    rw [pick_eq h.2, pickD_set h1 h2]
theorem St.pk {w0 w : World} {L : List HObj} (n : Nat) (is : List Nat) (h : St w0 w L) (ho : okPick n is = true) : St w0 w (pickD n L is) := by
  rw [← pick_eq ho]
  exact h.pick n is
/-- The first entry of a slot is the one at place i. -/
def keyAt : Env → Nat → Nat → Bool
  | [], _, _ => false
  | p :: _, 0, d => Nat.beq p.1 d
  | p :: r, i + 1, d => !Nat.beq p.1 d && keyAt r i d
theorem look_setAt : ∀ {e : Env} {i d : Nat} {v : Value}, keyAt e i d = true → ∀ t, look (e.set i (d, v)) t = look ((d, v) :: e) t
  | [], _, _, _, h, _ => Bool.noConfusion h
  | p :: r, 0, d, v, h, t => by
    have hd : p.1 = d := Nat.eq_of_beq_eq_true h
    show (bif Nat.beq d t then some v else look r t) = (bif Nat.beq d t then some v else bif Nat.beq p.1 t then some p.2 else look r t)
    rw [hd]
    cases Nat.beq d t <;> rfl
  | p :: r, i + 1, d, v, h, t => by
    have h' : (!Nat.beq p.1 d && keyAt r i d) = true := h
    rw [Bool.and_eq_true] at h'
    have ih := look_setAt (v := v) h'.2 t
    have hn : ¬ p.1 = d := fun e => by
      have := h'.1
      rw [e, Nat.beq_refl] at this
      cases this
    show (bif Nat.beq p.1 t then some p.2 else look (r.set i (d, v)) t) = (bif Nat.beq d t then some v else bif Nat.beq p.1 t then some p.2 else look r t)
    rw [ih]
    show (bif Nat.beq p.1 t then some p.2 else bif Nat.beq d t then some v else look r t) = _
    cases h1 : Nat.beq p.1 t <;> cases h2 : Nat.beq d t <;> try rfl
    exact absurd ((Nat.eq_of_beq_eq_true h1).trans (Nat.eq_of_beq_eq_true h2).symm) hn
theorem Sat.setAt {N : Nat} {e : Env} {a : Act} {d : Nat} {v : Value} (h : Sat N ((d, v) :: e) a) (i : Nat) (hk : keyAt e i d = true) : Sat N (e.set i (d, v)) a := ⟨h.defers, h.size, fun t u ht => h.at_ t u (by rw [← look_setAt hk t]; exact ht)⟩

/-! ### Maps -/
def mdel : List (Int × Int) → Int → List (Int × Int)
  | [], _ => []
  | p :: r, k => if k = p.1 then r else p :: mdel r k
theorem findDel_int {kk kv : IntKind} {k : Int} : ∀ {es : List MapEntry} {m : List (Int × Int)} (i : Nat), mpairs kk kv es m →
    (Instr.findNow (.int kk) (.int kk k) es i = some none ∧ mdel m k = m) ∨
    (∃ v0 n, Instr.findNow (.int kk) (.int kk k) es i = some (some (i + n, .int kv v0)) ∧ n < es.length ∧ mpairs kk kv (es.eraseIdx n) (mdel m k))
  | [], [], _, _ => .inl ⟨rfl, rfl⟩
  | [], _ :: _, _, h => by cases h
  | _ :: _, [], _, h => by cases h
  | e :: es, p :: m, i, h => by
    have h' : (e.key, e.val) = (Value.int kk p.1, Value.int kv p.2) ∧ mpairs kk kv es m := by
      unfold mpairs at h
      simp only [List.map_cons, List.cons.injEq] at h
      exact h
    obtain ⟨he, hr⟩ := h'
    obtain ⟨he1, he2⟩ := Prod.mk.inj he
    by_cases hk : k = p.1
    · subst hk
      refine .inr ⟨p.2, 0, ?_, by simp, ?_⟩
      · simp [Instr.findNow, Instr.sameNow, he1, he2]
      · simpa [mdel] using hr
    · have hbe : (k == p.1) = false := beq_eq_false_iff_ne.2 hk
      rcases findDel_int (k := k) (i + 1) hr with ⟨h2, h3⟩ | ⟨v0, n, h2, h3, h5⟩
      · refine .inl ⟨?_, by simp only [mdel, if_neg hk, h3]⟩
        simp [Instr.findNow, Instr.sameNow, he1, hbe, h2]
      · refine .inr ⟨v0, n + 1, ?_, by simp only [List.length_cons]; omega, ?_⟩
        · simp [Instr.findNow, Instr.sameNow, he1, hbe, h2, Nat.add_assoc, Nat.add_comm 1 n]
        · unfold mpairs
          simp only [mdel, if_neg hk, List.eraseIdx_cons_succ, List.map_cons]
          exact congr (congrArg List.cons he) h5
theorem mget_put : ∀ (m : List (Int × Int)) (k v k' : Int), mget (mput m k v) k' = if k' = k then some v else mget m k'
  | [], k, v, k' => by simp [mput, mget]
  | p :: r, k, v, k' => by
    unfold mput
    by_cases h : k = p.1
    · rw [if_pos h]
      unfold mget
      by_cases h2 : k' = k
      · simp [h2]
      · rw [if_neg h2, if_neg h2, if_neg (fun e => h2 (e.trans h.symm))]
    · rw [if_neg h]
      unfold mget
      by_cases h2 : k' = p.1
      · rw [if_pos h2, if_neg (fun e => h (e.symm.trans h2)), if_pos h2]
      · rw [if_neg h2, mget_put r k v k', if_neg h2]
theorem put_len : ∀ (m : List (Int × Int)) (k v : Int), (mput m k v).length = if (mget m k).isSome then m.length else m.length + 1
  | [], _, _ => rfl
  | p :: r, k, v => by
    unfold mput mget
    by_cases h2 : k = p.1
    · rw [if_pos h2, if_pos h2]; simp
    · rw [if_neg h2, if_neg h2, List.length_cons, put_len r k v, List.length_cons]
      split <;> rfl
/-- Each key once. -/
def UM (m : List (Int × Int)) : Prop := (m.map (·.1)).Nodup
theorem mget_none : ∀ {m : List (Int × Int)} {k : Int}, k ∉ m.map (·.1) → mget m k = none
  | [], _, _ => rfl
  | p :: r, k, h => by
    simp only [List.map_cons, List.mem_cons, not_or] at h
    unfold mget
    rw [if_neg h.1, mget_none h.2]
theorem put_keys : ∀ (m : List (Int × Int)) (k v : Int) (x : Int), x ∈ (mput m k v).map (·.1) ↔ x = k ∨ x ∈ m.map (·.1)
  | [], k, v, x => by simp [mput]
  | p :: r, k, v, x => by
    unfold mput
    by_cases h2 : k = p.1
    · rw [if_pos h2]; simp only [List.map_cons, List.mem_cons]; rw [h2]; simp
    · rw [if_neg h2, List.map_cons, List.mem_cons, put_keys r k v x, List.map_cons, List.mem_cons]
      constructor
      · rintro (h | h | h)
        · exact .inr (.inl h)
        · exact .inl h
        · exact .inr (.inr h)
      · rintro (h | h | h)
        · exact .inr (.inl h)
        · exact .inl h
        · exact .inr (.inr h)
theorem UM.put : ∀ {m : List (Int × Int)} (k v : Int), UM m → UM (mput m k v)
  | [], k, v, _ => by simp [UM, mput]
  | p :: r, k, v, h => by
    have h' := List.nodup_cons.1 (show (p.1 :: r.map (·.1)).Nodup from h)
    unfold mput
    by_cases h2 : k = p.1
    · rw [if_pos h2]
      show (k :: r.map (·.1)).Nodup
      rw [h2]
      exact h
    · rw [if_neg h2]
      refine List.nodup_cons.2 ⟨fun hm => ?_, UM.put k v h'.2⟩
      rcases (put_keys r k v p.1).1 hm with e | e
      · exact h2 e.symm
      · exact h'.1 e
theorem del_keys : ∀ {m : List (Int × Int)} {k x : Int}, x ∈ (mdel m k).map (·.1) → x ∈ m.map (·.1)
  | [], _, _, h => h
  | p :: r, k, x, h => by
    unfold mdel at h
    by_cases h2 : k = p.1
    · rw [if_pos h2] at h; exact List.mem_cons_of_mem _ h
    · rw [if_neg h2] at h
      rcases List.mem_cons.1 h with h | h
      · rw [h]; exact List.mem_cons_self ..
      · exact List.mem_cons_of_mem _ (del_keys h)
theorem UM.del : ∀ {m : List (Int × Int)} (k : Int), UM m → UM (mdel m k)
  | [], k, h => h
  | p :: r, k, h => by
    have h' := List.nodup_cons.1 (show (p.1 :: r.map (·.1)).Nodup from h)
    unfold mdel
    by_cases h2 : k = p.1
    · rw [if_pos h2]; exact h'.2
    · rw [if_neg h2]
      exact List.nodup_cons.2 ⟨fun hm => h'.1 (del_keys hm), UM.del k h'.2⟩
theorem mget_del : ∀ {m : List (Int × Int)} (k k' : Int), UM m → mget (mdel m k) k' = if k' = k then none else mget m k'
  | [], k, k', h => by simp [mdel, mget]
  | p :: r, k, k', h => by
    have h' := List.nodup_cons.1 (show (p.1 :: r.map (·.1)).Nodup from h)
    unfold mdel
    by_cases h2 : k = p.1
    · rw [if_pos h2]
      by_cases h3 : k' = k
      · rw [if_pos h3]
        exact mget_none (by rw [h3, h2]; exact h'.1)
      · rw [if_neg h3]
        conv => rhs; unfold mget
        rw [if_neg (fun e => h3 (e.trans h2.symm))]
    · rw [if_neg h2]
      unfold mget
      by_cases h3 : k' = p.1
      · rw [if_pos h3, if_neg (fun e => h2 (e.symm.trans h3)), if_pos h3]
      · rw [if_neg h3, mget_del k k' h'.2, if_neg h3]
theorem del_len : ∀ (m : List (Int × Int)) (k : Int), (mdel m k).length = if (mget m k).isSome then m.length - 1 else m.length
  | [], _ => rfl
  | p :: r, k => by
    unfold mdel mget
    by_cases h2 : k = p.1
    · rw [if_pos h2, if_pos h2]; simp
    · rw [if_neg h2, if_neg h2, List.length_cons, del_len r k, List.length_cons]
      by_cases h : (mget r k).isSome = true
      · rw [if_pos h, if_pos h]
        have : 0 < r.length := by
          cases r with
          | nil => cases h
          | cons _ _ => simp
        omega
      · rw [if_neg h, if_neg h]
/-- Two lists that are the same map. -/
structure SameM (m' m : List (Int × Int)) : Prop where
  u' : UM m'
  u : UM m
  g : ∀ k, mget m' k = mget m k
  l : m'.length = m.length
theorem SameM.put {m' m : List (Int × Int)} (h : SameM m' m) (k v : Int) : SameM (mput m' k v) (mput m k v) := ⟨h.u'.put k v, h.u.put k v, fun k' => by rw [mget_put, mget_put, h.g], by rw [put_len, put_len, h.g, h.l]⟩
theorem SameM.del {m' m : List (Int × Int)} (h : SameM m' m) (k : Int) : SameM (mdel m' k) (mdel m k) := ⟨h.u'.del k, h.u.del k, fun k' => by rw [mget_del k k' h.u', mget_del k k' h.u, h.g], by rw [del_len, del_len, h.g, h.l]⟩
theorem SameM.swap {m : List (Int × Int)} (h : UM m) {k k' : Int} (hk : k ≠ k') (v v' : Int) : SameM (mput (mput m k v) k' v') (mput (mput m k' v') k v) :=
  ⟨(h.put k v).put k' v', (h.put k' v').put k v, fun x => by
    rw [mget_put, mget_put, mget_put, mget_put]
    by_cases h1 : x = k'
    · rw [if_pos h1, if_neg (fun e => hk (e.symm.trans h1)), if_pos h1]
    · rw [if_neg h1, if_neg h1], by
    have e1 : mget (mput m k v) k' = mget m k' := by rw [mget_put, if_neg (Ne.symm hk)]
    have e2 : mget (mput m k' v') k = mget m k := by rw [mget_put, if_neg hk]
    rw [put_len (mput m k v), put_len (mput m k' v'), e1, e2, put_len, put_len]
    by_cases h1 : (mget m k).isSome = true <;> by_cases h2 : (mget m k').isSome = true <;> simp [h1, h2]⟩
/-- A map that is known whole, but for its order. -/
def MapJ (b : Nat) (kk kv : IntKind) (m : List (Int × Int)) : HObj where
  P := fun w q => q b ∧ ∃ es clock m', w.heap[b]? = some (.map es clock) ∧ mpairs kk kv es.toList m' ∧ SameM m' m
  loc := fun h hk => ⟨h.1, by obtain ⟨es, c, m', h1, h2, h3⟩ := h.2; exact ⟨es, c, m', (hk b h.1).trans h1, h2, h3⟩⟩
  more := fun h hq => ⟨hq b h.1, h.2⟩
section
variable {w0 w w' : World} {L : List HObj} {b j : Nat} {kk kv : IntKind} {m : List (Int × Int)}
theorem St.newMapJ (h : St w0 w L) (kk kv : IntKind) : St w0 (w.alloc (.map #[] 0)) (MapJ w.heap.size kk kv [] :: L) :=
  h.cons (by simp) rfl rfl rfl (fun k hk => Below.heap_alloc w _ k hk) ⟨by simp, #[], 0, [], heap_alloc_new w _, rfl, ⟨List.nodup_nil, List.nodup_nil, fun _ => rfl, rfl⟩⟩
theorem St.mapJ (h : St w0 w L) (hj : L[j]? = some (MapJ b kk kv m)) : ∃ es clock m', w.heap[b]? = some (.map es clock) ∧ mpairs kk kv es.toList m' ∧ SameM m' m := by
  obtain ⟨q, _, h1, h2⟩ := h.get hj
  exact h2
/-- The map is told in other words. -/
theorem St.sameMap {m2 : List (Int × Int)} (h : St w0 w L) (hj : L[j]? = some (MapJ b kk kv m)) (hs : SameM m m2) : St w0 w (L.set j (MapJ b kk kv m2)) :=
  h.upd hj (Nat.le_refl _) rfl rfl rfl (fun q hq => ⟨q, fun k hk => .inl hk, by obtain ⟨h0, es, c, m', h1, h2, h3⟩ := hq; exact ⟨h0, es, c, m', h1, h2, ⟨h3.u', hs.u, fun k => (h3.g k).trans (hs.g k), h3.l.trans hs.l⟩⟩, fun k _ _ => rfl⟩)
end
section
variable {P : Program} {N : Nat} {e : Env} {w0 w : World} {L : List HObj} {Q : Act → World → Prop} {ops : Array Oper} {i d : Nat} {rest : List Nat} {ty : TypeId} {ps : String} {af : Array Edge} {b j : Nat} {kk kv : IntKind} {m : List (Int × Int)}
theorem GO.newMapJ {t : TypeId} (kk kv : IntKind) (HS : St w0 w L) (ho : ops[i]? = some ⟨some d, .makeMap t none, ty, ps, af, none⟩) (hN : Nat.blt d N = true)
    (g : ∀ b w', St w0 w' (MapJ b kk kv [] :: L) → GO P N ops rest ((d, .map (some b)) :: e) w' Q) : GO P N ops (i :: rest) e w Q :=
  GO.val (.map (some w.heap.size)) ho rfl rfl hN (fun a hs => by simp [execOp, Instr.makeMap]) (g _ _ (HS.newMapJ kk kv))
theorem run_lookJ {t k el : TypeId} {key : Int} (HS : St w0 w L) (hj : L[j]? = some (MapJ b kk kv m)) (ht : P.underlying t = some (.map k el)) (hk : P.underlying k = some (.int kk)) (hz : (P.info? el).map (·.zero) = some (some (.int kv 0))) (cm : Bool) :
    (Instr.lookup t (.map (some b)) (.int kk key) cm).run P w = .ok (bif cm then .tuple #[.int kv ((mget m key).getD 0), .bool (mget m key).isSome] else .int kv ((mget m key).getD 0)) w := by
  obtain ⟨es, clock, m', hb, hm, hsm⟩ := HS.mapJ hj
  rw [← hsm.g]
  obtain ⟨inf, hi, hz'⟩ := Option.map_eq_some_iff.1 hz
  have hck := MapKept.run_checkKey (w := w) hk (k := .int kk key) (by simp [MapKept.IsKey]) es.isEmpty 9999
  have hzz : (zeroValue el).run P w = .ok (.int kv 0) w := by simp [zeroValue, typeInfo, hi, hz']
  rcases findNow_int (k := key) 0 hm with ⟨h1, h2, _⟩ | ⟨v0, n, e0, h1, h2, _, _, _⟩
  · have hf := MapKept.run_findKey (w := w) hk h2
    cases cm <;> simp [Instr.lookup, run_underlying ht, MapKept.run_getObj_map hb, hck, hf, hzz, h1]
  · have hf := MapKept.run_findKey (w := w) hk h2
    cases cm <;> simp [Instr.lookup, run_underlying ht, MapKept.run_getObj_map hb, hck, hf, h1]
theorem GO.lookOkJ {t k el : TypeId} {x y : Operand} {key : Int} (HS : St w0 w L) (hj : L[j]? = some (MapJ b kk kv m)) (ho : ops[i]? = some ⟨some d, .lookup t x y true, ty, ps, af, none⟩) (hx : ev e x = some (.map (some b))) (hy : ev e y = some (.int kk key)) (ht : P.underlying t = some (.map k el)) (hk : P.underlying k = some (.int kk)) (hz : (P.info? el).map (·.zero) = some (some (.int kv 0))) (hN : Nat.blt d N = true)
    (g : GO P N ops rest ((d, .tuple #[.int kv ((mget m key).getD 0), .bool (mget m key).isSome]) :: e) w Q) : GO P N ops (i :: rest) e w Q :=
  GO.val _ ho rfl rfl hN (fun a hs => by simp [execOp, hs.ev hx, hs.ev hy, run_lookJ HS hj ht hk hz true]) g
theorem GO.lookJ {t k el : TypeId} {x y : Operand} {key : Int} (HS : St w0 w L) (hj : L[j]? = some (MapJ b kk kv m)) (ho : ops[i]? = some ⟨some d, .lookup t x y false, ty, ps, af, none⟩) (hx : ev e x = some (.map (some b))) (hy : ev e y = some (.int kk key)) (ht : P.underlying t = some (.map k el)) (hk : P.underlying k = some (.int kk)) (hz : (P.info? el).map (·.zero) = some (some (.int kv 0))) (hN : Nat.blt d N = true)
    (g : GO P N ops rest ((d, .int kv ((mget m key).getD 0)) :: e) w Q) : GO P N ops (i :: rest) e w Q :=
  GO.val _ ho rfl rfl hN (fun a hs => by simp [execOp, hs.ev hx, hs.ev hy, run_lookJ HS hj ht hk hz false]) g
theorem GO.lenMJ {t k el : TypeId} {x : Operand} (HS : St w0 w L) (hj : L[j]? = some (MapJ b kk kv m)) (ho : ops[i]? = some ⟨some d, .call { callee := .builtin .len, args := #[x], argTypes := #[t] }, ty, ps, af, none⟩) (hx : ev e x = some (.map (some b))) (ht : P.underlying t = some (.map k el)) (hN : Nat.blt d N = true)
    (g : GO P N ops rest ((d, .int .i64 (m.length : Int)) :: e) w Q) : GO P N ops (i :: rest) e w Q := by
  refine GO.val _ ho rfl rfl hN (fun a hs => ?_) g
  obtain ⟨es, clock, m', hb, hm, hsm⟩ := HS.mapJ hj
  have hl : es.size = m.length := by have := congrArg List.length hm; rw [← hsm.l]; simpa using this
  simp [execOp, resolve, invoke, builtin, hs.ev hx, Builtin.len_, run_underlying ht, MapKept.run_getObj_map hb, goInt, hl]
theorem run_put {t k el : TypeId} {key v : Int} (HS : St w0 w L) (hj : L[j]? = some (MapJ b kk kv m)) (ht : P.underlying t = some (.map k el)) (hk : P.underlying k = some (.int kk)) :
    ∃ w', (Instr.mapUpdate t (.map (some b)) (.int kk key) (.int kv v)).run P w = .ok () w' ∧ St w0 w' (L.set j (MapJ b kk kv (mput m key v))) := by
  obtain ⟨es, clock, m0, hb, hm, hsm⟩ := HS.mapJ hj
  have hck := MapKept.run_checkKey (w := w) hk (k := .int kk key) (by simp [MapKept.IsKey]) false 9999
  have hup : ∀ (o : Obj), (∃ es' c', o = .map es' c' ∧ mpairs kk kv es'.toList (mput m0 key v)) → St w0 { w with heap := w.heap.setIfInBounds b o } (L.set j (MapJ b kk kv (mput m key v))) := fun o ho => by
    obtain ⟨es', c', rfl, hm'⟩ := ho
    obtain ⟨hs1, hs2⟩ := MapKept.heap_set (w := w) (o' := .map es' c') hb
    refine HS.upd hj (by simp) rfl rfl rfl (fun q hq => ⟨q, fun k hk => .inl hk, ⟨hq.1, es', c', _, hs1, hm', hsm.put key v⟩, fun k hk hn => hs2 k (fun e => hn (by rw [e]; exact hq.1))⟩)
  rcases findNow_int (k := key) 0 hm with ⟨h1, h2, h3⟩ | ⟨v0, n, e0, h1, h2, h3, h4, h5⟩
  · have hf := MapKept.run_findKey (w := w) hk h2
    refine ⟨{ w with heap := w.heap.setIfInBounds b (.map (es.push ⟨.int kk key, .int kv v, clock⟩) (clock + 1)) }, ?_, hup _ ⟨_, _, rfl, ?_⟩⟩
    · simp [Instr.mapUpdate, run_underlying ht, MapKept.run_getObj_map hb, hck, hf, MapKept.run_setObj_map _ hb]
    · have := h3 v
      unfold mpairs at this ⊢
      simpa using this
  · have hf := MapKept.run_findKey (w := w) hk h2
    have hst := MapKept.run_keyThatStays (P := P) (w := w) (k := .int kk key) (d := .int kk) (by simp [MapKept.IsKey])
    have h3' : es[n]? = some e0 := by simpa using h3
    refine ⟨{ w with heap := w.heap.setIfInBounds b (.map (es.modify n fun e => { e with key := .int kk key, val := .int kv v }) clock) }, ?_, hup _ ⟨_, _, rfl, ?_⟩⟩
    · simp [Instr.mapUpdate, run_underlying ht, MapKept.run_getObj_map hb, hck, hf, h3', h4, hst, MapKept.run_setObj_map _ hb]
    · have := h5 v
      rw [Array.toList_modify]
      exact this
theorem GO.putMJ {t k el : TypeId} {x y z : Operand} {key v : Int} (HS : St w0 w L) (hj : L[j]? = some (MapJ b kk kv m)) (ho : ops[i]? = some ⟨none, .mapUpdate t x y z, ty, ps, af, none⟩) (hx : ev e x = some (.map (some b))) (hy : ev e y = some (.int kk key)) (hv : ev e z = some (.int kv v)) (ht : P.underlying t = some (.map k el)) (hk : P.underlying k = some (.int kk))
    (g : ∀ w', St w0 w' (L.set j (MapJ b kk kv (mput m key v))) → GO P N ops rest e w' Q) : GO P N ops (i :: rest) e w Q := by
  obtain ⟨w', hr, hst⟩ := run_put (key := key) (v := v) HS hj ht hk
  exact GO.skipAct ho rfl rfl (fun a hs => by simp [execOp, hs.ev hx, hs.ev hy, hs.ev hv, hr]) (g w' hst)
theorem GO.insMJ {t k el : TypeId} {x y z : Operand} {key v : Int} (HS : St w0 w L) (hj : L[j]? = some (MapJ b kk kv m)) (ho : ops[i]? = some ⟨none, .insert t x y z, ty, ps, af, none⟩) (hx : ev e x = some (.map (some b))) (hy : ev e y = some (.int kk key)) (hv : ev e z = some (.int kv v)) (ht : P.underlying t = some (.map k el)) (hk : P.underlying k = some (.int kk))
    (g : ∀ w', St w0 w' (L.set j (MapJ b kk kv (mput m key v))) → GO P N ops rest e w' Q) : GO P N ops (i :: rest) e w Q := by
  obtain ⟨w', hr, hst⟩ := run_put (key := key) (v := v) HS hj ht hk
  exact GO.skipAct ho rfl rfl (fun a hs => by simp [execOp, hs.ev hx, hs.ev hy, hs.ev hv, hr]) (g w' hst)
theorem GO.delMJ {t k el : TypeId} {x y : Operand} {key : Int} {t2 : TypeId} (HS : St w0 w L) (hj : L[j]? = some (MapJ b kk kv m)) (ho : ops[i]? = some ⟨none, .call { callee := .builtin .delete, args := #[x, y], argTypes := #[t, t2] }, ty, ps, af, none⟩) (hx : ev e x = some (.map (some b))) (hy : ev e y = some (.int kk key)) (ht : P.underlying t = some (.map k el)) (hk : P.underlying k = some (.int kk))
    (g : ∀ w', St w0 w' (L.set j (MapJ b kk kv (mdel m key))) → GO P N ops rest e w' Q) : GO P N ops (i :: rest) e w Q := by
  obtain ⟨es, clock, m0, hb, hm, hsm⟩ := HS.mapJ hj
  have hck := MapKept.run_checkKey (w := w) hk (k := .int kk key) (by simp [MapKept.IsKey]) es.isEmpty 9999
  have hup : ∀ (o : Obj), (∃ es' c', o = .map es' c' ∧ mpairs kk kv es'.toList (mdel m0 key)) → St w0 { w with heap := w.heap.setIfInBounds b o } (L.set j (MapJ b kk kv (mdel m key))) := fun o ho => by
    obtain ⟨es', c', rfl, hm'⟩ := ho
    obtain ⟨hs1, hs2⟩ := MapKept.heap_set (w := w) (o' := .map es' c') hb
    refine HS.upd hj (by simp) rfl rfl rfl (fun q hq => ⟨q, fun k hk => .inl hk, ⟨hq.1, es', c', _, hs1, hm', hsm.del key⟩, fun k hk hn => hs2 k (fun e => hn (by rw [e]; exact hq.1))⟩)
  rcases findDel_int (k := key) 0 hm with ⟨h2, h3⟩ | ⟨v0, n, h2, h3, h5⟩
  · have hf := MapKept.run_findKey (w := w) hk h2
    refine GO.act (w' := { w with heap := w.heap.setIfInBounds b (.map es clock) }) (.tuple #[]) ho rfl rfl (fun a hs => ?_) (g _ (hup _ ⟨_, _, rfl, by rw [h3]; exact hm⟩))
    simp [execOp, resolve, invoke, builtin, hs.ev hx, hs.ev hy, Builtin.delete_, run_underlying ht, MapKept.run_getObj_map hb, hck, hf, MapKept.run_setObj_map _ hb]
  · have hf := MapKept.run_findKey (w := w) hk h2
    have hsz : n < es.size := by simpa using h3
    refine GO.act (w' := { w with heap := w.heap.setIfInBounds b (.map (es.eraseIdxIfInBounds n) clock) }) (.tuple #[]) ho rfl rfl (fun a hs => ?_) (g _ (hup _ ⟨_, _, rfl, ?_⟩))
    · simp [execOp, resolve, invoke, builtin, hs.ev hx, hs.ev hy, Builtin.delete_, run_underlying ht, MapKept.run_getObj_map hb, hck, hf, MapKept.run_setObj_map _ hb]
    · have hsub : (es.eraseIdxIfInBounds n).toList = es.toList.eraseIdx n := by
        unfold Array.eraseIdxIfInBounds
        rw [dif_pos hsz]
        simp
      rw [hsub]
      exact h5
end

/-! ### Rows of rows -/
theorem splice_cons (x : Value) (R : List Value) (n : Nat) (v : Value) : splice (x :: R) (n + 1) [v] = x :: splice R n [v] := by simp [splice]
section
variable {α : Type} {T : Ty α} {w w' : World} {ly : Nat → T.Lay}
theorem SepM.set {l' : T.Lay} {y : α} : ∀ {xs : List α} {i n m : Nat} {q q2 : Nat → Prop}, SepM T w ly i xs q → n < xs.length → m = i + n → T.M w q2 l' y → (∀ k, q k → ¬ q2 k) → SepM T w (fun k => if k = m then l' else ly k) i (xs.set n y) (fun k => q k ∨ q2 k)
  | x :: r, i, 0, m, q, q2, ⟨q0, q1, h0, h1, hdd, hx, hs⟩, hn, hm, hy, hd => by
    obtain rfl : m = i := by omega
    refine ⟨q2, q1, fun k hk => .inr hk, fun k hk => .inl (h1 k hk), fun k hk hn => hd k (h1 k hn) hk, ?_, hs.congr (fun k hk _ => ?_)⟩
    · show T.M w q2 (if m = m then l' else ly m) y
      rw [if_pos rfl]; exact hy
    · rw [if_neg (by omega)]
  | x :: r, i, n + 1, m, q, q2, ⟨q0, q1, h0, h1, hdd, hx, hs⟩, hn, hm, hy, hd => by
    refine ⟨q0, fun k => q1 k ∨ q2 k, fun k hk => .inl (h0 k hk), fun k hk => hk.imp (h1 k) id, fun k hk hn => hn.elim (hdd k hk) (hd k (h0 k hk)), ?_, ?_⟩
    · show T.M w q0 (if i = m then l' else ly i) x
      rw [if_neg (by omega)]; exact hx
    · exact SepM.set hs (by simp only [List.length_cons] at hn; omega) (by omega) hy (fun k hk => hd k (h1 k hk))
theorem SepM.sel {ly' : Nat → T.Lay} {d : α} : ∀ {xs : List α} {i : Nat} {js : List Nat} {i0 : Nat} {q : Nat → Prop}, SepM T w ly i xs q → js.Pairwise (· < ·) → (∀ k, k ∈ js → i ≤ k ∧ k < i + xs.length) → (∀ m, m < js.length → ly' (i0 + m) = ly (js.getD m 0)) → SepM T w ly' i0 (js.map (fun k => xs.getD (k - i) d)) q
  | _, _, [], _, _, _, _, _, _ => trivial
  | [], i, k :: js, i0, q, hs, hp, hr, hl => by
    have := hr k (List.mem_cons_self ..)
    simp only [List.length_nil] at this
    omega
  | x :: r, i, k :: js, i0, q, ⟨q0, q1, h0, h1, hdd, hx, hs⟩, hp, hr, hl => by
    have hpc := List.pairwise_cons.1 hp
    have hk := hr k (List.mem_cons_self ..)
    have hget : ∀ k', i + 1 ≤ k' → (x :: r).getD (k' - i) d = r.getD (k' - (i + 1)) d := fun k' h => by
      rw [show k' - i = (k' - (i + 1)) + 1 by omega, List.getD_cons_succ]
    by_cases hki : k = i
    · subst hki
      have hm : List.map (fun k' => (x :: r).getD (k' - k) d) js = List.map (fun k' => r.getD (k' - (k + 1)) d) js := List.map_congr_left (fun k' h' => hget k' (hpc.1 k' h'))
      rw [List.map_cons, hm, Nat.sub_self, List.getD_cons_zero]
      have h00 := hl 0 (Nat.succ_pos _)
      rw [Nat.add_zero, List.getD_cons_zero] at h00
      refine ⟨q0, q1, h0, h1, hdd, by rw [h00]; exact hx, SepM.sel hs hpc.2 (fun k' h' => ⟨hpc.1 k' h', by have := hr k' (List.mem_cons_of_mem _ h'); simp only [List.length_cons] at this; omega⟩) (fun m hm => ?_)⟩
      have := hl (m + 1) (by simp only [List.length_cons]; omega)
      rw [List.getD_cons_succ] at this
      rw [show i0 + 1 + m = i0 + (m + 1) by omega]
      exact this
    · have hlt : ∀ k', k' ∈ k :: js → i + 1 ≤ k' := fun k' h' => by
        rcases List.mem_cons.1 h' with h' | h'
        · subst h'; omega
        · have := hpc.1 k' h'; omega
      have hm : List.map (fun k' => (x :: r).getD (k' - i) d) (k :: js) = List.map (fun k' => r.getD (k' - (i + 1)) d) (k :: js) := List.map_congr_left (fun k' h' => hget k' (hlt k' h'))
      rw [hm]
      exact (SepM.sel hs hp (fun k' h' => ⟨hlt k' h', by have := hr k' h'; simp only [List.length_cons] at this; omega⟩) hl).more h1
theorem St.boxRowS {w0 : World} {L : List HObj} {b j : Nat} {t : TypeId} {cs : List Value} {xs : List α} (h : St w0 w L) (hj : L[j]? = some (Box b t cs)) (hsep : ∀ q, SepM T w ly 0 xs q) (hc : rc T ly 0 xs = cs) (hm : xs.length ≤ 9223372036854775807) : St w0 w (L.set j (Own T t (some ⟨b, 0, none⟩) xs.length ly xs)) := by
  refine h.upd hj (Nat.le_refl _) rfl rfl rfl (fun q hq => ⟨q, fun k hk => .inl hk, ⟨fun k => k = b, fun _ => False, fun k hk => by rw [hk]; exact hq.1, fun _ hk => hk.elim, fun _ _ hk => hk, ?_, fun k hk => ?_, hsep _⟩, fun k _ _ => rfl⟩)
  · refine ⟨rc_length _ _, .inr ⟨b, xs.length, cs.toArray, rfl, Nat.zero_le _, hq.2, Nat.le_refl _, by simp only [maxLen]; omega, ?_, ?_⟩⟩
    · rw [← hc]; simp [rc_length]
    · rw [← hc]
      simp only [List.toList_toArray]
      rw [List.take_of_length_le (by rw [rc_length]; exact Nat.le_refl _)]
  · simp [Value.ownBlock] at hk
    exact hk.symm
end
theorem SepM.nils {α : Type} {S : Ty α} {u : TypeId} {w : World} (l0 : Nat → S.Lay) : ∀ (n i : Nat) (q : Nat → Prop), SepM (Ty.slice u S) w (fun _ => ⟨none, 0, l0⟩) i (List.replicate n []) q
  | 0, _, _ => trivial
  | n + 1, i, q => ⟨fun _ => False, q, fun _ h => h.elim, fun _ h => h, fun _ h => h.elim, OwnP.nil u l0 w _, SepM.nils l0 n (i + 1) q⟩
theorem rc_setRow {α : Type} {S : Ty α} {u : TypeId} {ly : Nat → SLay S.Lay} {l' : SLay S.Lay} {y : List α} : ∀ {xs : List (List α)} {i n m : Nat}, n < xs.length → m = i + n → rc (Ty.slice u S) (fun k => if k = m then l' else ly k) i (xs.set n y) = splice (rc (Ty.slice u S) ly i xs) n [.slice l'.A y.length l'.c]
  | x :: r, i, 0, m, hn, hm => by
    obtain rfl : m = i := by omega
    have h1 : rc (Ty.slice u S) (fun k => if k = m then l' else ly k) (m + 1) r = rc (Ty.slice u S) ly (m + 1) r := rc_congr (fun k hk _ => by rw [if_neg (by omega)])
    rw [List.set_cons_zero, rc, rc, h1]
    simp [splice]
  | x :: r, i, n + 1, m, hn, hm => by
    have ih := rc_setRow (u := u) (ly := ly) (l' := l') (y := y) (xs := r) (i := i + 1) (n := n) (m := m) (by simp only [List.length_cons] at hn; omega) (by omega)
    rw [List.set_cons_succ, rc, rc, ih]
    show [Value.slice (if i = m then l' else ly i).A x.length (if i = m then l' else ly i).c] ++ _ = splice ([Value.slice (ly i).A x.length (ly i).c] ++ _) (n + 1) _
    rw [if_neg (by omega), List.singleton_append, List.singleton_append, splice_cons]
section
variable {α : Type} {S : Ty α} {P : Program} {N : Nat} {e : Env} {w0 w : World} {L : List HObj} {Q : Act → World → Prop} {ops : Array Oper} {i d : Nat} {rest : List Nat} {ty : TypeId} {ps : String} {af : Array Edge}
/-- make of rows. -/
theorem GO.makeR {u t el : TypeId} {x y : Operand} {kl kc : IntKind} {m : Int} {bytes : Nat} (l0 : Nat → S.Lay) (HS : St w0 w L) (ho : ops[i]? = some ⟨some d, .makeSlice t x y, ty, ps, af, none⟩) (hx : ev e x = some (.int kl m)) (hy : ev e y = some (.int kc m)) (ht : P.underlying t = some (.slice el)) (hinf : (P.info? el).map (fun i => (i.zero, i.size, i.bytes)) = some (some (.slice none 0 0), 1, bytes)) (hb0 : Nat.blt 0 bytes = true)
    (h0 : 0 ≤ m) (hm : m.toNat * bytes ≤ 281474976710656) (hN : Nat.blt d N = true)
    (g : ∀ b w', St w0 w' (Own (Ty.slice u S) el (some ⟨b, 0, none⟩) m.toNat (fun _ => ⟨none, 0, l0⟩) (List.replicate m.toNat []) :: L) → GO P N ops rest ((d, .slice (some ⟨b, 0, none⟩) (List.replicate m.toNat ([] : List α)).length m.toNat) :: e) w' Q) : GO P N ops (i :: rest) e w Q := by
  simp only [List.length_replicate] at g
  obtain ⟨inf, hi, hzz⟩ := Option.map_eq_some_iff.1 hinf
  simp only [Prod.mk.injEq] at hzz
  obtain ⟨hz0, hz1, hz2⟩ := hzz
  have hb0' : 0 < bytes := Nat.le_of_ble_eq_true hb0
  have hmm : m.toNat ≤ 281474976710656 := Nat.le_trans (Nat.le_mul_of_pos_right _ hb0') hm
  have hbm : (inf.bytes : Int) * m ≤ 281474976710656 := by
    have h3 : ((m.toNat * bytes : Nat) : Int) ≤ 281474976710656 := by omega
    rw [Int.natCast_mul, Int.toNat_of_nonneg h0, Int.mul_comm] at h3
    rw [hz2]
    exact h3
  have hrun := run_make (P := P) w t el inf (.slice none 0 0) ht hi hz0 kl kc m m h0 (Int.le_refl _) hbm (by omega)
  refine GO.val (w' := w.alloc (.cells (madeCells (Value.slice none 0 0).cells (m.toNat * inf.size)) el)) _ ho rfl rfl hN (fun a hs => by simp [execOp, hs.ev hx, hs.ev hy, hrun]) (g w.heap.size _ ?_)
  rw [hz1]
  let l : SLay S.Lay := ⟨none, 0, l0⟩
  have hcl : (madeCells [Value.slice none 0 0].toArray (m.toNat * 1)).toList = rc (Ty.slice u S) (fun _ => l) 0 (List.replicate m.toNat []) := by
    rw [replicate_get]
    exact toList_madeCells [Value.slice none 0 0] (by decide) _
  have h1 := (HS.alloc (rc (Ty.slice u S) (fun _ => l) 0 (List.replicate m.toNat [])) el).boxRowS (j := 0) rfl (fun q => SepM.nils l0 _ _ q) rfl (by simp; omega)
  rw [← hcl] at h1
  simpa [Value.cells] using h1
/-- A row is stored into a row of rows. -/
theorem GO.stRowR {u t tb : TypeId} {x y : Operand} {A A2 : Option Addr} {c c2 n : Nat} {ly : Nat → SLay S.Lay} {ly2 : Nat → S.Lay} {xs : List (List α)} {ys : List α} (HS : St w0 w (Own (Ty.slice u S) tb A c ly xs :: Own S u A2 c2 ly2 ys :: L)) (ho : ops[i]? = some ⟨none, .store t x y, ty, ps, af, none⟩) (hx : ev e x = some (.pointer (some (ea A (n * 1))))) (hy : ev e y = some (.slice A2 ys.length c2))
    (ht : naB P t = true) (hn : n < xs.length)
    (g : ∀ (ly' : Nat → SLay S.Lay) w', St w0 w' (Own (Ty.slice u S) tb A c ly' (xs.set n ys) :: L) → GO P N ops rest e w' Q) : GO P N ops (i :: rest) e w Q := by
  obtain ⟨hbel, q, r, hq, hr, hqr, ⟨q1, q2, h1, h2, hd, hown, hb, hs⟩, qe, re, hqe, hre, hed, hoe, hL⟩ := HS
  rcases hown.2 with ⟨_, h0⟩ | ⟨gb, cap, cur, hv, _, hh, hnc, hcm, hsz, htk⟩
  · omega
  injection hv with hA _ hc
  subst hA
  subst hc
  have hg1 : q1 gb := hb gb rfl
  have hea : ea (some ⟨gb, 0, none⟩) (n * 1) = ⟨gb, n, none⟩ := by rw [ea_some, addr_off]; simp
  rw [hea] at hx
  have hcl : cur.toList.length = c := by rw [Array.length_toList]; simpa using hsz
  have hfit : n + [Value.slice A2 ys.length c2].length ≤ cur.size := by rw [Array.length_toList] at hcl; simp only [List.length_singleton]; omega
  let l' : SLay S.Lay := ⟨A2, c2, ly2⟩
  refine GO.skipAct (w' := w.setRow gb (splice cur.toList n [.slice A2 ys.length c2]).toArray) ho rfl rfl (fun a hs => by simp [execOp, Instr.storeAt, Instr.sureAddr, hs.ev hx, hs.ev hy, run_st_row (v := .slice A2 ys.length c2) (vs := [.slice A2 ys.length c2]) rfl (run_size_no ht) hh (fun u hu => by rw [List.mem_singleton.1 hu]; rfl) hfit]) (g (fun k => if k = n then l' else ly k) _ ?_)
  have hkeep : ∀ k, k ≠ gb → (w.setRow gb (splice cur.toList n [.slice A2 ys.length c2]).toArray).heap[k]? = w.heap[k]? := fun k hk => setRow_other w gb k _ hk
  have hqg := hq gb (h1 gb hg1)
  refine ⟨hbel.trans ⟨rfl, rfl, rfl, by simp, fun k hk => hkeep k (by omega)⟩, fun k => q k ∨ qe k, re, ?_, ?_, ?_, ⟨q1, fun k => q2 k ∨ qe k, ?_, ?_, ?_, ?_, ?_, ?_⟩, ?_⟩
  · intro k hk
    simp only [size_setRow]
    rcases hk with hk | hk
    · exact hq k hk
    · exact hr k (hqe k hk)
  · intro k hk
    simp only [size_setRow]
    exact hr k (hre k hk)
  · intro k hk hn
    rcases hk with hk | hk
    · exact hqr k hk (hre k hn)
    · exact hed k hk hn
  · exact fun k hk => .inl (h1 k hk)
  · intro k hk
    rcases hk with hk | hk
    · exact .inl (h2 k hk)
    · exact .inr hk
  · intro k hk hn
    rcases hn with hn | hn
    · exact hd k hk hn
    · exact hqr k (h1 k hk) (hqe k hn)
  · refine ⟨by rw [rc_length, List.length_set], .inr ⟨gb, c, _, by rw [List.length_set], Nat.zero_le _, setRow_heap w gb _ _ tb (0, 0) hh, by rw [List.length_set]; exact hnc, hcm, ?_, ?_⟩⟩
    · simp only [splice, List.size_toArray, List.length_append, List.length_take, List.length_drop, hcl, List.length_singleton]
      omega
    · show (splice cur.toList n [.slice A2 ys.length c2]).take ((xs.set n ys).length * 1) = _
      rw [List.length_set, splice_take (by simp only [List.length_singleton]; omega) (by omega), htk]
      exact (rc_setRow (l' := l') hn (by omega)).symm
  · rw [List.length_set]; exact hb
  · have hlocq : ∀ k, q2 k → (w.setRow gb (splice cur.toList n [.slice A2 ys.length c2]).toArray).heap[k]? = w.heap[k]? := fun k hk => hkeep k (fun e => hd gb hg1 (by rw [← e]; exact hk))
    have hloce : ∀ k, qe k → (w.setRow gb (splice cur.toList n [.slice A2 ys.length c2]).toArray).heap[k]? = w.heap[k]? := fun k hk => hkeep k (fun e => hqr gb (h1 gb hg1) (hqe gb (by rw [← e]; exact hk)))
    exact SepM.set (T := Ty.slice u S) (l' := l') (hs.loc hlocq) hn (by omega) (OwnP.loc hoe hloce) (fun k hk hn => hqr k (h2 k hk) (hqe k hn))
  · exact hL.loc (fun k hk => hkeep k (fun e => hqr gb (h1 gb hg1) (hre gb (by rw [← e]; exact hk))))
end

/-! ### Rows of rows as rows of numbers -/
def Hdr {β α : Type} (ly : Nat → SLay β) (xs : List (List α)) : Option Nat → Value
  | none => .slice none 0 0
  | some k => .slice (ly k).A (xs.getD k []).length (ly k).c
theorem Hdr_one {β α : Type} (ly : Nat → SLay β) (xs : List (List α)) (o : Option Nat) : (Hdr ly xs o).oneCell' = true := by cases o <;> rfl
abbrev TIdx {β α : Type} (ly : Nat → SLay β) (xs : List (List α)) : Ty (Option Nat) := Ty.flat 1 (fun o => [Hdr ly xs o]) (fun _ => rfl) (fun o u h => by rw [List.mem_singleton.1 h]; exact Hdr_one ly xs o)
/-- The rows of a row of rows, without the row that names them. -/
def Rows_ {α : Type} (S : Ty α) (u : TypeId) (ly : Nat → SLay S.Lay) (xs : List (List α)) : HObj where
  P := fun w q => SepM (Ty.slice u S) w ly 0 xs q
  loc := fun h hk => h.loc hk
  more := fun h hk => h.more hk
theorem rc_idx {α : Type} {S : Ty α} {u : TypeId} {ly : Nat → SLay S.Lay} {xs : List (List α)} : ∀ (ys : List (List α)) (i m : Nat), (∀ k, k < ys.length → xs.getD (i + k) [] = ys.getD k []) → rc (Ty.slice u S) ly i ys = rc (TIdx ly xs) (fun _ => ()) m ((List.range' i ys.length).map some)
  | [], _, _, _ => rfl
  | y :: r, i, m, h => by
    have h0 := h 0 (by simp)
    rw [Nat.add_zero, List.getD_cons_zero] at h0
    have ih := rc_idx (u := u) (ly := ly) (xs := xs) r (i + 1) (m + 1) (fun k hk => by
      have := h (k + 1) (by simp only [List.length_cons]; omega)
      rw [List.getD_cons_succ] at this
      rw [show i + 1 + k = i + (k + 1) by omega]
      exact this)
    rw [List.length_cons, List.range'_succ, List.map_cons, rc, rc, ih]
    show [Value.slice (ly i).A y.length (ly i).c] ++ _ = [Value.slice (ly i).A (xs.getD i []).length (ly i).c] ++ _
    rw [h0]
/-- All rows of rows, in order. -/
def allRows (n : Nat) : List (Option Nat) := (List.range n).map some
theorem allRows_length (n : Nat) : (allRows n).length = n := by simp [allRows]
theorem St.split {α : Type} {S : Ty α} {u t : TypeId} {w0 w : World} {L : List HObj} {A : Option Addr} {c : Nat} {ly : Nat → SLay S.Lay} {xs : List (List α)} (HS : St w0 w (Own (Ty.slice u S) t A c ly xs :: L)) :
    St w0 w (Own (TIdx ly xs) t A c (fun _ => ()) (allRows xs.length) :: Rows_ S u ly xs :: L) := by
  obtain ⟨hbel, q, r, hq, hr, hqr, ⟨q1, q2, h1, h2, hd, hown, hb, hs⟩, hL⟩ := HS
  refine ⟨hbel, q1, fun k => q2 k ∨ r k, fun k hk => hq k (h1 k hk), fun k hk => hk.elim (fun h => hq k (h2 k h)) (hr k), fun k hk hn => hn.elim (hd k hk) (fun h => hqr k (h1 k hk) h), ⟨q1, fun _ => False, fun _ h => h, fun _ h => h.elim, fun _ _ h => h, ?_, ?_, SepM.flat flat_flat _ _ _⟩, q2, r, fun k hk => .inl hk, fun k hk => .inr hk, fun k hk hn => hqr k (h2 k hk) hn, hs, hL⟩
  · have he := rc_idx (u := u) (ly := ly) (xs := xs) xs 0 0 (fun k _ => by rw [Nat.zero_add])
    rw [allRows_length]
    unfold allRows
    rw [List.range_eq_range', ← he]
    exact hown
  · rw [allRows_length]; exact hb
theorem RdIn.rows {α : Type} {S : Ty α} {u : TypeId} {w0 : World} {L : List HObj} {ly : Nat → SLay S.Lay} {xs : List (List α)} {j k : Nat} (hj : L[j]? = some (Rows_ S u ly xs)) (hk : k < xs.length) : RdIn w0 L S (ly k).A (ly k).c (ly k).ly (xs.getD k []) := fun w hs => by
  obtain ⟨q, _, ho⟩ := hs.get hj
  obtain ⟨q0, _, hm⟩ := SepM.get ho (getD_some (d := []) hk)
  rw [Nat.zero_add] at hm
  exact OwnP.reads hm
/-- Which rows a row of numbers names, if they are some of the rows in order. -/
def pickRows {α : Type} (xs : List (List α)) (is : List (Option Nat)) : Option (List (List α)) :=
  if is = (is.map (·.getD 0)).map some ∧ (is.map (·.getD 0)).Pairwise (· < ·) ∧ ∀ k, k ∈ is.map (·.getD 0) → k < xs.length then some ((is.map (·.getD 0)).map (fun k => xs.getD k [])) else none
theorem rc_pick {α : Type} {S : Ty α} {u : TypeId} {ly ly' : Nat → SLay S.Lay} {xs : List (List α)} : ∀ (js : List Nat) (i m : Nat), (∀ k, k < js.length → ly' (i + k) = ly (js.getD k 0)) → rc (TIdx ly xs) (fun _ => ()) m (js.map some) = rc (Ty.slice u S) ly' i (js.map (fun k => xs.getD k []))
  | [], _, _, _ => rfl
  | k :: js, i, m, h => by
    have h0 := h 0 (by simp)
    rw [Nat.add_zero, List.getD_cons_zero] at h0
    have ih := rc_pick (u := u) (ly := ly) (ly' := ly') (xs := xs) js (i + 1) (m + 1) (fun k hk => by
      have := h (k + 1) (by simp only [List.length_cons]; omega)
      rw [List.getD_cons_succ] at this
      rw [show i + 1 + k = i + (k + 1) by omega]
      exact this)
    rw [List.map_cons, List.map_cons, rc, rc, ih]
    show [Value.slice (ly k).A (xs.getD k []).length (ly k).c] ++ _ = [Value.slice (ly' i).A (xs.getD k []).length (ly' i).c] ++ _
    rw [h0]
theorem over_lenR {α : Type} {xs : List α} {l n : Nat} {z : α} (h : l + n ≤ xs.length) : (over xs l (List.replicate n z)).length = xs.length := over_length (by rw [List.length_replicate]; exact h)
abbrev Ix := Nat
theorem cutA_zero (A : Option Addr) (c s : Nat) : cutA A 0 c s = A := by
  unfold cutA
  split
  · rfl
  · cases A with
    | none => rfl
    | some a => simp [Addr.add]
/-- Some of the rows, in order, are a row of rows again. -/
theorem St.unsplit {α : Type} {S : Ty α} {u t : TypeId} {w0 w : World} {L : List HObj} {A : Option Addr} {c m : Nat} {ly : Nat → SLay S.Lay} {xs r : List (List α)} {is : List (Option Nat)} {A' : Option Addr} {c' : Nat} (HS : St w0 w (Own (TIdx ly xs) t A c (fun _ => ()) is :: Rows_ S u ly xs :: L)) (hm : m ≤ is.length) (hr : pickRows xs (is.take m) = some r) (hA : A' = A) (hc : c' = c) :
    ∃ ly', r.length = m ∧ St w0 w (Own (Ty.slice u S) t A' c' ly' r :: L) := by
  subst hA
  subst hc
  unfold pickRows at hr
  split at hr
  · rename_i hc
    obtain ⟨hc1, hc2, hc3⟩ := hc
    obtain rfl := Option.some.inj hr
    generalize hjs : (is.take m).map (·.getD 0) = js at hc1 hc2 hc3
    have hlen : js.length = m := by rw [← hjs, List.length_map, List.length_take]; omega
    obtain ⟨hbel, q, r, hq, hr, hqr, ⟨q1, q2, h1, h2, hd, hown, hb, hs⟩, q3, r3, hq3, hr3, hd3, hs3, hL⟩ := HS
    refine ⟨fun k => ly (js.getD k 0), by rw [List.length_map, hlen], hbel, fun k => q1 k ∨ q3 k, r3, ?_, ?_, ?_, ⟨q1, q3, fun k hk => .inl hk, fun k hk => .inr hk, ?_, ?_, ?_, ?_⟩, hL⟩
    · exact fun k hk => hk.elim (fun h => hq k (h1 k h)) (fun h => hr k (hq3 k h))
    · exact fun k hk => hr k (hr3 k hk)
    · exact fun k hk hn => hk.elim (fun h => hqr k (h1 k h) (hr3 k hn)) (fun h => hd3 k h hn)
    · exact fun k hk hn => hqr k (h1 k hk) (hq3 k hn)
    · have he := rc_pick (u := u) (ly := ly) (ly' := fun k => ly (js.getD k 0)) (xs := xs) js 0 0 (fun k _ => by rw [Nat.zero_add])
      rw [← he, ← hc1, List.length_map, hlen]
      have htk : ∀ (i : Nat) (zs : List (Option Nat)) (n : Nat), (rc (TIdx ly xs) (fun _ => ()) i zs).take n = rc (TIdx ly xs) (fun _ => ()) i (zs.take n) := by
        intro i zs
        induction zs generalizing i with
        | nil => intro n; simp [rc]
        | cons z zs ih =>
          intro n
          cases n with
          | zero => simp [rc]
          | succ n =>
            rw [List.take_succ_cons, rc, rc]
            show ([Hdr ly xs z] ++ _).take (n + 1) = [Hdr ly xs z] ++ _
            rw [List.singleton_append, List.take_succ_cons, ih]
            rfl
      rcases hown.2 with ⟨hv, h0⟩ | ⟨g, cap, cur, hv, hg, hh, hnc, hcm, hsz, htkk⟩
      · have hm0 : m = 0 := by omega
        injection hv with hA _ hcc
        subst hA
        subst hcc
        subst hm0
        exact ⟨by simp [rc], .inl ⟨rfl, rfl⟩⟩
      · injection hv with hA _ hcc
        subst hA
        subst hcc
        refine ⟨by rw [rc_length, List.length_take]; show min m is.length * 1 = m * 1; omega, .inr ⟨g, c', cur, rfl, hg, hh, by omega, hcm, hsz, ?_⟩⟩
        rw [← htk, ← htkk, List.take_take]
        congr 1
        show m * 1 = min m (is.length * 1)
        omega
    · intro k hk
      exact hb k (by
        cases A' with
        | none => simp [Value.ownBlock] at hk
        | some a => simpa [Value.ownBlock] using hk)
    · have := SepM.sel (ly' := fun k => ly (js.getD k 0)) (d := ([] : List α)) (i0 := 0) hs3 hc2 (fun k hk => ⟨Nat.zero_le _, by rw [Nat.zero_add]; exact hc3 k hk⟩) (fun m _ => by rw [Nat.zero_add])
      simpa using this
  · cases hr
section
variable {α : Type} {T : Ty α} {P : Program} {N : Nat} {e : Env} {w0 w : World} {L : List HObj} {Q : Act → World → Prop} {ops : Array Oper} {i d : Nat} {rest : List Nat} {ty : TypeId} {ps : String} {af : Array Edge} {ly : Nat → T.Lay} {A : Option Addr} {c : Nat} {xs : List α}
theorem run_clear_sz (w : World) (t ty elem : TypeId) (sz g o n cap : Nat) (cur : Array Value) (tb : TypeId) (z : Value) (inf : TypeInfo) (hu : P.underlying t = some (.slice elem)) (hi : P.info? elem = some inf) (hz : inf.zero = some z) (hp : 0 < n)
    (hg : w.heap[g]? = some (.cells cur tb (0, 0))) (hfit : o + (Builtin.zeroCells z.cells n).toList.length ≤ cur.size) (h1 : ∀ v ∈ (Builtin.zeroCells z.cells n).toList, v.oneCell' = true) :
    (Builtin.clear_ #[t] ty #[.slice (some ⟨g, o, none⟩) n cap]).run P w = .ok (.tuple #[]) (w.setRow g (splice cur.toList o (Builtin.zeroCells z.cells n).toList).toArray) := by
  have hst := run_storeCells_at P g o tb (Builtin.zeroCells z.cells n).toList 0 cur w hg (by simpa using hfit) h1
  simp only [Nat.add_zero] at hst
  obtain ⟨n', rfl⟩ : ∃ n', n = n' + 1 := ⟨n - 1, by omega⟩
  simp [Builtin.clear_, run_underlying hu, zeroValue, typeInfo, hi, hz, hst, splice]
/-- clear of a part of a flat row. -/
theorem GO.clearC {t el tb : TypeId} {x : Operand} {B : Option Addr} {j l dn dc : Nat} {z : Value} (z0 : α) (l0 : T.Lay) (HS : St w0 w L) (hj : L[j]? = some (Own T tb A c ly xs)) (hfl : Flat T) (ho : ops[i]? = some ⟨none, .call { callee := .builtin .clear, args := #[x], argTypes := #[t] }, ty, ps, af, none⟩) (hx : ev e x = some (.slice B dn dc))
    (ht : P.underlying t = some (.slice el)) (hz : (P.info? el).map (·.zero) = some (some z)) (hzc : z.cells = (T.cells l0 z0).toArray) (hs0 : Nat.blt 0 T.sz = true) (hC : 0 < dn → ∀ g, A = some ⟨g, 0, none⟩ → B = some ⟨g, l * T.sz, none⟩) (hl : l + dn ≤ xs.length) (hly : ∀ k, ly k = l0)
    (g : ∀ w', St w0 w' (L.set j (Own T tb A c ly (over xs l (List.replicate dn z0)))) → GO P N ops rest e w' Q) : GO P N ops (i :: rest) e w Q := by
  obtain ⟨inf, hi, hzz⟩ := Option.map_eq_some_iff.1 hz
  rcases Nat.eq_zero_or_pos dn with h0 | h0
  · subst h0
    have ho' : over xs l (List.replicate 0 z0) = xs := by unfold over; simp
    rw [ho', set_same hj] at g
    refine GO.act (.tuple #[]) ho rfl rfl (fun a hs => ?_) (g w HS)
    cases B <;> simp [execOp, resolve, invoke, builtin, hs.ev hx, Builtin.clear_, run_underlying ht]
  · obtain ⟨gb, cur, hA, hh, hfit, hst⟩ := HS.overRow (g := 0) (o := 0) (ys := List.replicate dn z0) (l := l) hj hfl (fun k k' => by rw [hly k, hly k']) (by rw [List.length_replicate]; exact hl) (by rw [List.length_replicate]; exact h0)
    have hB := hC h0 gb hA
    subst hB
    have hcs : (Builtin.zeroCells z.cells dn).toList = rc T ly 0 (List.replicate dn z0) := by
      have e1 : Builtin.zeroCells z.cells dn = madeCells (T.cells l0 z0).toArray (dn * (T.cells l0 z0).length) := by
        rw [hzc]; unfold Builtin.zeroCells madeCells; simp
      have e2 : rc T ly 0 (List.replicate dn z0) = rc T (fun _ => l0) 0 (List.replicate dn z0) := rc_congr (fun k _ _ => hly k)
      rw [e1, e2, replicate_get]
      exact toList_madeCells _ (by rw [T.len]; exact Nat.le_of_ble_eq_true hs0) _
    refine GO.act (.tuple #[]) ho rfl rfl (fun a hs => ?_) (g _ hst)
    have hr := run_clear_sz (P := P) w t ty el T.sz gb (l * T.sz) dn dc cur tb z inf ht hi hzz h0 hh (by rw [hcs, rc_length]; simpa using hfit) (fun u hu => by rw [hcs] at hu; exact rc_one hu)
    rw [hcs] at hr
    simp only [execOp, resolve, invoke, builtin, Sem.run_bind, Sem.run_pure, Result.andThen_ok, List.map_toArray, List.map_cons, List.map_nil, hs.ev hx, hr]
end

/-- A row's first elements alone. -/
theorem St.shrink {α : Type} {T : Ty α} {w0 w : World} {L : List HObj} {t : TypeId} {A A' : Option Addr} {c c' j m : Nat} {ly : Nat → T.Lay} {xs : List α} (HS : St w0 w L) (hj : L[j]? = some (Own T t A c ly xs)) (hfl : Flat T) (hm : m ≤ xs.length) (hA : A' = A) (hc : c' = c) : St w0 w (L.set j (Own T t A' c' ly ((xs.take m).drop 0))) := by
  subst hA
  subst hc
  rw [List.drop_zero]
  have hlen : (xs.take m).length = m := by rw [List.length_take]; omega
  refine HS.upd hj (Nat.le_refl _) rfl rfl rfl (fun q ho => ?_)
  obtain ⟨q1, q2, h1, h2, hd, hown, hb, hs⟩ := ho
  refine ⟨q, fun k hk => .inl hk, ⟨q1, q2, h1, h2, hd, ?_, ?_, SepM.flat hfl _ _ _⟩, fun k _ _ => rfl⟩
  · have htk : rc T ly 0 (xs.take m) = (rc T ly 0 xs).take (m * T.sz) := by
      conv => rhs; rw [← List.take_append_drop m xs, rc_append]
      rw [List.take_append_of_le_length (by rw [rc_length, hlen]; exact Nat.le_refl _)]
      exact (List.take_of_length_le (by rw [rc_length, hlen]; exact Nat.le_refl _)).symm
    rw [hlen, htk]
    rcases hown.2 with ⟨hv, h0⟩ | ⟨g, cap, cur, hv, hg, hh, hnc, hcm, hsz, htkk⟩
    · have hm0 : m = 0 := by omega
      injection hv with hA _ hcc
      subst hA
      subst hcc
      subst hm0
      exact ⟨by simp, .inl ⟨rfl, rfl⟩⟩
    · injection hv with hA _ hcc
      subst hA
      subst hcc
      have hmul : m * T.sz ≤ xs.length * T.sz := Nat.mul_le_mul_right _ hm
      refine ⟨by rw [List.length_take, rc_length]; omega, .inr ⟨g, c', cur, rfl, hg, hh, by omega, hcm, hsz, ?_⟩⟩
      rw [← htkk, List.take_take]
      congr 1
      omega
  · intro k hk
    exact hb k (by
        cases A' with
        | none => simp [Value.ownBlock] at hk
        | some a => simpa [Value.ownBlock] using hk)
section
variable {P : Program} {N : Nat} {e : Env} {w0 w : World} {L : List HObj} {Q : Act → World → Prop} {ops : Array Oper} {i d : Nat} {rest : List Nat} {ty : TypeId} {ps : String} {af : Array Edge}
/-- &p[i], p a pointer to an array of small elements, i not told. -/
theorem GO.ixV {t el : TypeId} {x y : Operand} {b len : Nat} {kd : IntKind} {m : Int} (ho : ops[i]? = some ⟨some d, .indexAddr t x y, ty, ps, af, none⟩) (hx : ev e x = some (.pointer (some ⟨b, 0, none⟩))) (hy : ev e y = some (.int kd m)) (ht : P.underlying t = some (.array len el)) (hsz : (P.info? el).map (·.size) = some 1)
    (h0 : 0 ≤ m) (h1 : m < (len : Int)) (hN : Nat.blt d N = true) (g : GO P N ops rest ((d, .pointer (some ⟨b, m.toNat, none⟩)) :: e) w Q) : GO P N ops (i :: rest) e w Q := by
  refine GO.val _ ho rfl rfl hN (fun a hs => ?_) g
  obtain ⟨inf, hi, hi2⟩ := Option.map_eq_some_iff.1 hsz
  simp [execOp, hs.ev hx, hs.ev hy, Instr.indexAt, Instr.sureAddr, asIntOf, run_underlying ht, h0, h1, sizeOf, typeInfo, hi, hi2, addr_off]
theorem GO.ldBoxV {t tb : TypeId} {x : Operand} {b m j : Nat} {kd : IntKind} {cs : List Value} (l : List Int) (HS : St w0 w L) (hj : L[j]? = some (Box b tb cs)) (ho : ops[i]? = some ⟨some d, .load t x, ty, ps, af, none⟩) (hx : ev e x = some (.pointer (some ⟨b, m, none⟩))) (hm : m < l.length) (ht : naB P t = true) (hN : Nat.blt d N = true) (hc : cs = l.map (Value.int kd))
    (g : GO P N ops rest ((d, .int kd (l.getD m 0)) :: e) w Q) : GO P N ops (i :: rest) e w Q := by
  subst hc
  have hv : (l.map (Value.int kd))[m]? = some (.int kd (l.getD m 0)) := by
    rw [List.getElem?_map, getD_some (d := (0 : Int)) hm]; rfl
  exact GO.ldBox HS hj ho hx hv ht hN g
end
section
variable {P : Program} {N : Nat} {e : Env} {w : World} {Q : Act → World → Prop} {ops : Array Oper} {i d : Nat} {rest : List Nat} {ty : TypeId} {ps : String} {af : Array Edge}
/-- A byte of a constant string. -/
theorem GO.ixStr {t : TypeId} {x y : Operand} {kd : IntKind} {m : Int} {s : ByteArray} (l : List Int) (ho : ops[i]? = some ⟨some d, .index t x y, ty, ps, af, none⟩) (hx : ev e x = some (.string s)) (hl : s.data.toList.map (fun b => (b.toNat : Int)) = l) (hy : ev e y = some (.int kd m)) (ht : P.underlying t = some .string)
    (h0 : 0 ≤ m) (h1 : m < (l.length : Int)) (hN : Nat.blt d N = true) (g : GO P N ops rest ((d, .int .u8 (l.getD m.toNat 0)) :: e) w Q) : GO P N ops (i :: rest) e w Q :=
  GO.val _ ho rfl rfl hN (fun a hs => by
    subst hl
    rw [List.length_map, Array.length_toList] at h1
    have hm : m.toNat < s.size := by show m.toNat < s.data.size; omega
    have hb : s[m.toNat]? = some s[m.toNat] := getElem?_pos s m.toNat hm
    have hv : (s.data.toList.map (fun b => (b.toNat : Int))).getD m.toNat 0 = (s[m.toNat].toNat : Int) := by
      rw [List.getD_eq_getElem?_getD, List.getElem?_map, Array.getElem?_toList, getElem?_pos s.data m.toNat hm]
      rfl
    rw [hv]
    simp [execOp, hs.ev hx, hs.ev hy, Instr.index, asIntOf, run_underlying ht, h0, hb]) g
/-- The whole of an array behind a pointer, as a slice. -/
theorem GO.slArr {α : Type} {t el : TypeId} {x : Operand} {b n c sz : Nat} {xs : List α} (ho : ops[i]? = some ⟨some d, .slice t x none none none, ty, ps, af, none⟩) (hx : ev e x = some (.pointer (some ⟨b, 0, none⟩))) (ht : P.underlying t = some (.array n el)) (hsz : (P.info? el).map (·.size) = some sz) (hn : xs.length = n) (hc : c = n)
    (hN : Nat.blt d N = true) (g : GO P N ops rest ((d, .slice (some ⟨b, 0, none⟩) xs.length c) :: e) w Q) : GO P N ops (i :: rest) e w Q :=
  GO.val _ ho rfl rfl hN (fun a hs => by
    obtain ⟨inf, hi, hi2⟩ := Option.map_eq_some_iff.1 hsz
    subst hc
    simp [execOp, hs.ev hx, Instr.sliceAt, Instr.sureAddr, Instr.sliceBounds, run_underlying ht, sizeOf, typeInfo, hi, hn, Addr.add]) g
end
end Go.Proofs.Ytdafmbaeiefacaa
