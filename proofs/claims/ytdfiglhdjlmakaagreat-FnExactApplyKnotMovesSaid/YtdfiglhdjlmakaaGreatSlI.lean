/-
  More: deletion out of a map, map literals; rows of rows that are made, that take a row in; rows of rows seen as rows of numbers.
-/
import Derived.Test.YtdfiglhdjlmakaaGreatSlH
set_option linter.unusedVariables false
set_option linter.unusedSimpArgs false
namespace Go.Proofs.YtdfiglhdjlmakaaGreat
open Go.RowKit
theorem exI {α : Sort _} {p : α → Prop} {b : Prop} (h : ∀ x, p x → b) : (∃ x, p x) → b := fun ⟨x, hx⟩ => h x hx
theorem anI {p q b : Prop} (h : p → q → b) : p ∧ q → b := fun ⟨x, y⟩ => h x y
def okPick (n : Nat) : List Nat → Bool
  | [] => true
  | i :: is => Nat.blt i n && !(is.any (Nat.beq i ·)) && okPick n is
def pickD (n : Nat) (L : List HObj) : List Nat → List HObj
  | [] => L.drop n
  | i :: is => L.getD i Emp :: pickD n L is
theorem pickD_set {n i : Nat} {L : List HObj} {x : HObj} (hi : i < n) : ∀ {is : List Nat}, is.any (Nat.beq i ·) = false → pickD n (L.set i x) is = pickD n L is
  | [], _ => by
    unfold pickD
    rw [List.drop_set]
    split
    · rfl
    · omega
  | j :: is, h => by
    rw [List.any_cons, Bool.or_eq_false_iff] at h
    unfold pickD
    rw [pickD_set hi h.2, List.getD_eq_getElem?_getD, List.getElem?_set_ne (fun e => by rw [e, Nat.beq_refl] at h; exact Bool.noConfusion h.1), ← List.getD_eq_getElem?_getD]
theorem pick_eq {n : Nat} : ∀ {is : List Nat} {L : List HObj}, okPick n is = true → pick n L is = pickD n L is
  | [], L, _ => rfl
  | i :: is, L, h => by
    unfold okPick at h
    rw [Bool.and_eq_true, Bool.and_eq_true] at h
    have h1 : i < n := Nat.le_of_ble_eq_true h.1.1
    have h2 : is.any (Nat.beq i ·) = false := by
      have := h.1.2
      revert this
      cases is.any (Nat.beq i ·) <;> simp
    unfold pick pickD
    rw [pick_eq h.2, pickD_set h1 h2]
theorem St.pk {w0 w : World} {L : List HObj} (n : Nat) (is : List Nat) (h : St w0 w L) (ho : okPick n is = true) : St w0 w (pickD n L is) := by
  rw [← pick_eq ho]
  exact h.pick n is
def keyAt : Env → Nat → Nat → Bool
  | [], _, _ => false
  | p :: _, 0, d => Nat.beq p.1 d
  | p :: r, i + 1, d => !Nat.beq p.1 d && keyAt r i d
theorem look_setAt : ∀ {e : Env} {i d : Nat} {v : Value}, keyAt e i d = true → ∀ t, look (e.set i (d, v)) t = look ((d, v) :: e) t
  | [], _, _, _, h, _ => Bool.noConfusion h
  | p :: r, 0, d, v, h, t => by
    have hd : p.1 = d := Nat.eq_of_beq_eq_true h
    show (bif Nat.beq d t then some v else look r t) = (bif Nat.beq d t then some v else bif Nat.beq p.1 t then some p.2 else look r t)
    rw [hd]
    cases Nat.beq d t <;> rfl
  | p :: r, i + 1, d, v, h, t => by
    have h' : (!Nat.beq p.1 d && keyAt r i d) = true := h
    rw [Bool.and_eq_true] at h'
    have ih := look_setAt (v := v) h'.2 t
    have hn : ¬ p.1 = d := fun e => by
      have := h'.1
      rw [e, Nat.beq_refl] at this
      cases this
    show (bif Nat.beq p.1 t then some p.2 else look (r.set i (d, v)) t) = (bif Nat.beq d t then some v else bif Nat.beq p.1 t then some p.2 else look r t)
    rw [ih]
    show (bif Nat.beq p.1 t then some p.2 else bif Nat.beq d t then some v else look r t) = _
    cases h1 : Nat.beq p.1 t <;> cases h2 : Nat.beq d t <;> try rfl
    exact absurd ((Nat.eq_of_beq_eq_true h1).trans (Nat.eq_of_beq_eq_true h2).symm) hn
theorem Sat.setAt {N : Nat} {e : Env} {a : Act} {d : Nat} {v : Value} (h : Sat N ((d, v) :: e) a) (i : Nat) (hk : keyAt e i d = true) : Sat N (e.set i (d, v)) a := ⟨h.defers, h.size, fun t u ht => h.at_ t u (by rw [← look_setAt hk t]; exact ht)⟩
theorem mget_put : ∀ (m : List (Int × Int)) (k v k' : Int), mget (mput m k v) k' = if k' = k then some v else mget m k'
  | [], k, v, k' => by simp [mput, mget]
  | p :: r, k, v, k' => by
    unfold mput
    by_cases h : k = p.1
    · rw [if_pos h]
      unfold mget
      by_cases h2 : k' = k
      · simp [h2]
      · rw [if_neg h2, if_neg h2, if_neg (fun e => h2 (e.trans h.symm))]
    · rw [if_neg h]
      unfold mget
      by_cases h2 : k' = p.1
      · rw [if_pos h2, if_neg (fun e => h (e.symm.trans h2)), if_pos h2]
      · rw [if_neg h2, mget_put r k v k', if_neg h2]
theorem put_len : ∀ (m : List (Int × Int)) (k v : Int), (mput m k v).length = if (mget m k).isSome then m.length else m.length + 1
  | [], _, _ => rfl
  | p :: r, k, v => by
    unfold mput mget
    by_cases h2 : k = p.1
    · rw [if_pos h2, if_pos h2]; simp
    · rw [if_neg h2, if_neg h2, List.length_cons, put_len r k v, List.length_cons]
      split <;> rfl
def UM (m : List (Int × Int)) : Prop := (m.map (·.1)).Nodup
theorem put_keys : ∀ (m : List (Int × Int)) (k v : Int) (x : Int), x ∈ (mput m k v).map (·.1) ↔ x = k ∨ x ∈ m.map (·.1)
  | [], k, v, x => by simp [mput]
  | p :: r, k, v, x => by
    unfold mput
    by_cases h2 : k = p.1
    · rw [if_pos h2]; simp only [List.map_cons, List.mem_cons]; rw [h2]; simp
    · rw [if_neg h2, List.map_cons, List.mem_cons, put_keys r k v x, List.map_cons, List.mem_cons]
      constructor
      · rintro (h | h | h)
        · exact .inr (.inl h)
        · exact .inl h
        · exact .inr (.inr h)
      · rintro (h | h | h)
        · exact .inr (.inl h)
        · exact .inl h
        · exact .inr (.inr h)
theorem UM.put : ∀ {m : List (Int × Int)} (k v : Int), UM m → UM (mput m k v)
  | [], k, v, _ => by simp [UM, mput]
  | p :: r, k, v, h => by
    have h' := List.nodup_cons.1 (show (p.1 :: r.map (·.1)).Nodup from h)
    unfold mput
    by_cases h2 : k = p.1
    · rw [if_pos h2]
      show (k :: r.map (·.1)).Nodup
      rw [h2]
      exact h
    · rw [if_neg h2]
      refine List.nodup_cons.2 ⟨fun hm => ?_, UM.put k v h'.2⟩
      rcases (put_keys r k v p.1).1 hm with e | e
      · exact h2 e.symm
      · exact h'.1 e
structure SameM (m' m : List (Int × Int)) : Prop where
  u' : UM m'
  u : UM m
  g : ∀ k, mget m' k = mget m k
  l : m'.length = m.length
theorem SameM.put {m' m : List (Int × Int)} (h : SameM m' m) (k v : Int) : SameM (mput m' k v) (mput m k v) := ⟨h.u'.put k v, h.u.put k v, fun k' => by rw [mget_put, mget_put, h.g], by rw [put_len, put_len, h.g, h.l]⟩
def MapJ (b : Nat) (kk kv : IntKind) (m : List (Int × Int)) : HObj where
  P := fun w q => q b ∧ ∃ es clock m', w.heap[b]? = some (.map es clock) ∧ mpairs kk kv es.toList m' ∧ SameM m' m
  loc := fun h hk => ⟨h.1, by obtain ⟨es, c, m', h1, h2, h3⟩ := h.2; exact ⟨es, c, m', (hk b h.1).trans h1, h2, h3⟩⟩
  more := fun h hq => ⟨hq b h.1, h.2⟩
section
variable {w0 w w' : World} {L : List HObj} {b j : Nat} {kk kv : IntKind} {m : List (Int × Int)}
theorem St.newMapJ (h : St w0 w L) (kk kv : IntKind) : St w0 (w.alloc (.map #[] 0)) (MapJ w.heap.size kk kv [] :: L) :=
  h.cons (by simp) rfl rfl rfl (fun k hk => Below.heap_alloc w _ k hk) ⟨by simp, #[], 0, [], heap_alloc_new w _, rfl, ⟨List.nodup_nil, List.nodup_nil, fun _ => rfl, rfl⟩⟩
theorem St.mapJ (h : St w0 w L) (hj : L[j]? = some (MapJ b kk kv m)) : ∃ es clock m', w.heap[b]? = some (.map es clock) ∧ mpairs kk kv es.toList m' ∧ SameM m' m := by
  obtain ⟨q, _, h1, h2⟩ := h.get hj
  exact h2
end
section
variable {P : Program} {N : Nat} {e : Env} {w0 w : World} {L : List HObj} {Q : Act → World → Prop} {ops : Array Oper} {i d : Nat} {rest : List Nat} {ty : TypeId} {ps : String} {af : Array Edge} {b j : Nat} {kk kv : IntKind} {m : List (Int × Int)}
theorem GO.newMapJ {t : TypeId} (kk kv : IntKind) (HS : St w0 w L) (ho : ops[i]? = some ⟨some d, .makeMap t none, ty, ps, af, none⟩) (hN : Nat.blt d N = true)
    (g : ∀ b w', St w0 w' (MapJ b kk kv [] :: L) → GO P N ops rest ((d, .map (some b)) :: e) w' Q) : GO P N ops (i :: rest) e w Q :=
  GO.val (.map (some w.heap.size)) ho rfl rfl hN (fun a hs => by simp [execOp, Instr.makeMap]) (g _ _ (HS.newMapJ kk kv))
theorem run_lookJ {t k el : TypeId} {key : Int} (HS : St w0 w L) (hj : L[j]? = some (MapJ b kk kv m)) (ht : P.underlying t = some (.map k el)) (hk : P.underlying k = some (.int kk)) (hz : (P.info? el).map (·.zero) = some (some (.int kv 0))) (cm : Bool) :
    (Instr.lookup t (.map (some b)) (.int kk key) cm).run P w = .ok (bif cm then .tuple #[.int kv ((mget m key).getD 0), .bool (mget m key).isSome] else .int kv ((mget m key).getD 0)) w := by
  obtain ⟨es, clock, m', hb, hm, hsm⟩ := HS.mapJ hj
  rw [← hsm.g]
  obtain ⟨inf, hi, hz'⟩ := Option.map_eq_some_iff.1 hz
  have hck := MapKept.run_checkKey (w := w) hk (k := .int kk key) (by simp [MapKept.IsKey]) es.isEmpty 9999
  have hzz : (zeroValue el).run P w = .ok (.int kv 0) w := by simp [zeroValue, typeInfo, hi, hz']
  rcases findNow_int (k := key) 0 hm with ⟨h1, h2, _⟩ | ⟨v0, n, e0, h1, h2, _, _, _⟩
  · have hf := MapKept.run_findKey (w := w) hk h2
    cases cm <;> simp [Instr.lookup, run_underlying ht, MapKept.run_getObj_map hb, hck, hf, hzz, h1]
  · have hf := MapKept.run_findKey (w := w) hk h2
    cases cm <;> simp [Instr.lookup, run_underlying ht, MapKept.run_getObj_map hb, hck, hf, h1]
theorem GO.lookOkJ {t k el : TypeId} {x y : Operand} {key : Int} (HS : St w0 w L) (hj : L[j]? = some (MapJ b kk kv m)) (ho : ops[i]? = some ⟨some d, .lookup t x y true, ty, ps, af, none⟩) (hx : ev e x = some (.map (some b))) (hy : ev e y = some (.int kk key)) (ht : P.underlying t = some (.map k el)) (hk : P.underlying k = some (.int kk)) (hz : (P.info? el).map (·.zero) = some (some (.int kv 0))) (hN : Nat.blt d N = true)
    (g : GO P N ops rest ((d, .tuple #[.int kv ((mget m key).getD 0), .bool (mget m key).isSome]) :: e) w Q) : GO P N ops (i :: rest) e w Q :=
  GO.val _ ho rfl rfl hN (fun a hs => by simp [execOp, hs.ev hx, hs.ev hy, run_lookJ HS hj ht hk hz true]) g
theorem GO.lookJ {t k el : TypeId} {x y : Operand} {key : Int} (HS : St w0 w L) (hj : L[j]? = some (MapJ b kk kv m)) (ho : ops[i]? = some ⟨some d, .lookup t x y false, ty, ps, af, none⟩) (hx : ev e x = some (.map (some b))) (hy : ev e y = some (.int kk key)) (ht : P.underlying t = some (.map k el)) (hk : P.underlying k = some (.int kk)) (hz : (P.info? el).map (·.zero) = some (some (.int kv 0))) (hN : Nat.blt d N = true)
    (g : GO P N ops rest ((d, .int kv ((mget m key).getD 0)) :: e) w Q) : GO P N ops (i :: rest) e w Q :=
  GO.val _ ho rfl rfl hN (fun a hs => by simp [execOp, hs.ev hx, hs.ev hy, run_lookJ HS hj ht hk hz false]) g
theorem GO.lenMJ {t k el : TypeId} {x : Operand} (HS : St w0 w L) (hj : L[j]? = some (MapJ b kk kv m)) (ho : ops[i]? = some ⟨some d, .call { callee := .builtin .len, args := #[x], argTypes := #[t] }, ty, ps, af, none⟩) (hx : ev e x = some (.map (some b))) (ht : P.underlying t = some (.map k el)) (hN : Nat.blt d N = true)
    (g : GO P N ops rest ((d, .int .i64 (m.length : Int)) :: e) w Q) : GO P N ops (i :: rest) e w Q := by
  refine GO.val _ ho rfl rfl hN (fun a hs => ?_) g
  obtain ⟨es, clock, m', hb, hm, hsm⟩ := HS.mapJ hj
  have hl : es.size = m.length := by have := congrArg List.length hm; rw [← hsm.l]; simpa using this
  simp [execOp, resolve, invoke, builtin, hs.ev hx, Builtin.len_, run_underlying ht, MapKept.run_getObj_map hb, goInt, hl]
theorem run_put {t k el : TypeId} {key v : Int} (HS : St w0 w L) (hj : L[j]? = some (MapJ b kk kv m)) (ht : P.underlying t = some (.map k el)) (hk : P.underlying k = some (.int kk)) :
    ∃ w', (Instr.mapUpdate t (.map (some b)) (.int kk key) (.int kv v)).run P w = .ok () w' ∧ St w0 w' (L.set j (MapJ b kk kv (mput m key v))) := by
  obtain ⟨es, clock, m0, hb, hm, hsm⟩ := HS.mapJ hj
  have hck := MapKept.run_checkKey (w := w) hk (k := .int kk key) (by simp [MapKept.IsKey]) false 9999
  have hup : ∀ (o : Obj), (∃ es' c', o = .map es' c' ∧ mpairs kk kv es'.toList (mput m0 key v)) → St w0 { w with heap := w.heap.setIfInBounds b o } (L.set j (MapJ b kk kv (mput m key v))) := fun o ho => by
    obtain ⟨es', c', rfl, hm'⟩ := ho
    obtain ⟨hs1, hs2⟩ := MapKept.heap_set (w := w) (o' := .map es' c') hb
    refine HS.upd hj (by simp) rfl rfl rfl (fun q hq => ⟨q, fun k hk => .inl hk, ⟨hq.1, es', c', _, hs1, hm', hsm.put key v⟩, fun k hk hn => hs2 k (fun e => hn (by rw [e]; exact hq.1))⟩)
  rcases findNow_int (k := key) 0 hm with ⟨h1, h2, h3⟩ | ⟨v0, n, e0, h1, h2, h3, h4, h5⟩
  · have hf := MapKept.run_findKey (w := w) hk h2
    refine ⟨{ w with heap := w.heap.setIfInBounds b (.map (es.push ⟨.int kk key, .int kv v, clock⟩) (clock + 1)) }, ?_, hup _ ⟨_, _, rfl, ?_⟩⟩
    · simp [Instr.mapUpdate, run_underlying ht, MapKept.run_getObj_map hb, hck, hf, MapKept.run_setObj_map _ hb]
    · have := h3 v
      unfold mpairs at this ⊢
      simpa using this
  · have hf := MapKept.run_findKey (w := w) hk h2
    have hst := MapKept.run_keyThatStays (P := P) (w := w) (k := .int kk key) (d := .int kk) (by simp [MapKept.IsKey])
    have h3' : es[n]? = some e0 := by simpa using h3
    refine ⟨{ w with heap := w.heap.setIfInBounds b (.map (es.modify n fun e => { e with key := .int kk key, val := .int kv v }) clock) }, ?_, hup _ ⟨_, _, rfl, ?_⟩⟩
    · simp [Instr.mapUpdate, run_underlying ht, MapKept.run_getObj_map hb, hck, hf, h3', h4, hst, MapKept.run_setObj_map _ hb]
    · have := h5 v
      rw [Array.toList_modify]
      exact this
theorem GO.putMJ {t k el : TypeId} {x y z : Operand} {key v : Int} (HS : St w0 w L) (hj : L[j]? = some (MapJ b kk kv m)) (ho : ops[i]? = some ⟨none, .mapUpdate t x y z, ty, ps, af, none⟩) (hx : ev e x = some (.map (some b))) (hy : ev e y = some (.int kk key)) (hv : ev e z = some (.int kv v)) (ht : P.underlying t = some (.map k el)) (hk : P.underlying k = some (.int kk))
    (g : ∀ w', St w0 w' (L.set j (MapJ b kk kv (mput m key v))) → GO P N ops rest e w' Q) : GO P N ops (i :: rest) e w Q := by
  obtain ⟨w', hr, hst⟩ := run_put (key := key) (v := v) HS hj ht hk
  exact GO.skipAct ho rfl rfl (fun a hs => by simp [execOp, hs.ev hx, hs.ev hy, hs.ev hv, hr]) (g w' hst)
end
section
variable {α : Type} {T : Ty α} {w w' : World} {ly : Nat → T.Lay}
theorem SepM.sel {ly' : Nat → T.Lay} {d : α} : ∀ {xs : List α} {i : Nat} {js : List Nat} {i0 : Nat} {q : Nat → Prop}, SepM T w ly i xs q → js.Pairwise (· < ·) → (∀ k, k ∈ js → i ≤ k ∧ k < i + xs.length) → (∀ m, m < js.length → ly' (i0 + m) = ly (js.getD m 0)) → SepM T w ly' i0 (js.map (fun k => xs.getD (k - i) d)) q
  | _, _, [], _, _, _, _, _, _ => trivial
  | [], i, k :: js, i0, q, hs, hp, hr, hl => by
    have := hr k (List.mem_cons_self ..)
    simp only [List.length_nil] at this
    omega
  | x :: r, i, k :: js, i0, q, ⟨q0, q1, h0, h1, hdd, hx, hs⟩, hp, hr, hl => by
    have hpc := List.pairwise_cons.1 hp
    have hk := hr k (List.mem_cons_self ..)
    have hget : ∀ k', i + 1 ≤ k' → (x :: r).getD (k' - i) d = r.getD (k' - (i + 1)) d := fun k' h => by
      rw [show k' - i = (k' - (i + 1)) + 1 by omega, List.getD_cons_succ]
    by_cases hki : k = i
    · subst hki
      have hm : List.map (fun k' => (x :: r).getD (k' - k) d) js = List.map (fun k' => r.getD (k' - (k + 1)) d) js := List.map_congr_left (fun k' h' => hget k' (hpc.1 k' h'))
      rw [List.map_cons, hm, Nat.sub_self, List.getD_cons_zero]
      have h00 := hl 0 (Nat.succ_pos _)
      rw [Nat.add_zero, List.getD_cons_zero] at h00
      refine ⟨q0, q1, h0, h1, hdd, by rw [h00]; exact hx, SepM.sel hs hpc.2 (fun k' h' => ⟨hpc.1 k' h', by have := hr k' (List.mem_cons_of_mem _ h'); simp only [List.length_cons] at this; omega⟩) (fun m hm => ?_)⟩
      have := hl (m + 1) (by simp only [List.length_cons]; omega)
      rw [List.getD_cons_succ] at this
      rw [show i0 + 1 + m = i0 + (m + 1) by omega]
      exact this
    · have hlt : ∀ k', k' ∈ k :: js → i + 1 ≤ k' := fun k' h' => by
        rcases List.mem_cons.1 h' with h' | h'
        · subst h'; omega
        · have := hpc.1 k' h'; omega
      have hm : List.map (fun k' => (x :: r).getD (k' - i) d) (k :: js) = List.map (fun k' => r.getD (k' - (i + 1)) d) (k :: js) := List.map_congr_left (fun k' h' => hget k' (hlt k' h'))
      rw [hm]
      exact (SepM.sel hs hp (fun k' h' => ⟨hlt k' h', by have := hr k' h'; simp only [List.length_cons] at this; omega⟩) hl).more h1
end
section
variable {α : Type} {S : Ty α} {P : Program} {N : Nat} {e : Env} {w0 w : World} {L : List HObj} {Q : Act → World → Prop} {ops : Array Oper} {i d : Nat} {rest : List Nat} {ty : TypeId} {ps : String} {af : Array Edge}
end
def Hdr {β α : Type} (ly : Nat → SLay β) (xs : List (List α)) : Option Nat → Value
  | none => .slice none 0 0
  | some k => .slice (ly k).A (xs.getD k []).length (ly k).c
theorem Hdr_one {β α : Type} (ly : Nat → SLay β) (xs : List (List α)) (o : Option Nat) : (Hdr ly xs o).oneCell' = true := by cases o <;> rfl
abbrev TIdx {β α : Type} (ly : Nat → SLay β) (xs : List (List α)) : Ty (Option Nat) := Ty.flat 1 (fun o => [Hdr ly xs o]) (fun _ => rfl) (fun o u h => by rw [List.mem_singleton.1 h]; exact Hdr_one ly xs o)
def Rows_ {α : Type} (S : Ty α) (u : TypeId) (ly : Nat → SLay S.Lay) (xs : List (List α)) : HObj where
  P := fun w q => SepM (Ty.slice u S) w ly 0 xs q
  loc := fun h hk => h.loc hk
  more := fun h hk => h.more hk
theorem rc_idx {α : Type} {S : Ty α} {u : TypeId} {ly : Nat → SLay S.Lay} {xs : List (List α)} : ∀ (ys : List (List α)) (i m : Nat), (∀ k, k < ys.length → xs.getD (i + k) [] = ys.getD k []) → rc (Ty.slice u S) ly i ys = rc (TIdx ly xs) (fun _ => ()) m ((List.range' i ys.length).map some)
  | [], _, _, _ => rfl
  | y :: r, i, m, h => by
    have h0 := h 0 (by simp)
    rw [Nat.add_zero, List.getD_cons_zero] at h0
    have ih := rc_idx (u := u) (ly := ly) (xs := xs) r (i + 1) (m + 1) (fun k hk => by
      have := h (k + 1) (by simp only [List.length_cons]; omega)
      rw [List.getD_cons_succ] at this
      rw [show i + 1 + k = i + (k + 1) by omega]
      exact this)
    rw [List.length_cons, List.range'_succ, List.map_cons, rc, rc, ih]
    show [Value.slice (ly i).A y.length (ly i).c] ++ _ = [Value.slice (ly i).A (xs.getD i []).length (ly i).c] ++ _
    rw [h0]
def allRows (n : Nat) : List (Option Nat) := (List.range n).map some
theorem allRows_length (n : Nat) : (allRows n).length = n := by simp [allRows]
theorem St.split {α : Type} {S : Ty α} {u t : TypeId} {w0 w : World} {L : List HObj} {A : Option Addr} {c : Nat} {ly : Nat → SLay S.Lay} {xs : List (List α)} (HS : St w0 w (Own (Ty.slice u S) t A c ly xs :: L)) :
    St w0 w (Own (TIdx ly xs) t A c (fun _ => ()) (allRows xs.length) :: Rows_ S u ly xs :: L) := by
  obtain ⟨hbel, q, r, hq, hr, hqr, ⟨q1, q2, h1, h2, hd, hown, hb, hs⟩, hL⟩ := HS
  refine ⟨hbel, q1, fun k => q2 k ∨ r k, fun k hk => hq k (h1 k hk), fun k hk => hk.elim (fun h => hq k (h2 k h)) (hr k), fun k hk hn => hn.elim (hd k hk) (fun h => hqr k (h1 k hk) h), ⟨q1, fun _ => False, fun _ h => h, fun _ h => h.elim, fun _ _ h => h, ?_, ?_, SepM.flat flat_flat _ _ _⟩, q2, r, fun k hk => .inl hk, fun k hk => .inr hk, fun k hk hn => hqr k (h2 k hk) hn, hs, hL⟩
  · have he := rc_idx (u := u) (ly := ly) (xs := xs) xs 0 0 (fun k _ => by rw [Nat.zero_add])
    rw [allRows_length]
    unfold allRows
    rw [List.range_eq_range', ← he]
    exact hown
  · rw [allRows_length]; exact hb
theorem RdIn.rows {α : Type} {S : Ty α} {u : TypeId} {w0 : World} {L : List HObj} {ly : Nat → SLay S.Lay} {xs : List (List α)} {j k : Nat} (hj : L[j]? = some (Rows_ S u ly xs)) (hk : k < xs.length) : RdIn w0 L S (ly k).A (ly k).c (ly k).ly (xs.getD k []) := fun w hs => by
  obtain ⟨q, _, ho⟩ := hs.get hj
  obtain ⟨q0, _, hm⟩ := SepM.get ho (getD_some (d := []) hk)
  rw [Nat.zero_add] at hm
  exact OwnP.reads hm
def pickRows {α : Type} (xs : List (List α)) (is : List (Option Nat)) : Option (List (List α)) :=
  if is = (is.map (·.getD 0)).map some ∧ (is.map (·.getD 0)).Pairwise (· < ·) ∧ ∀ k, k ∈ is.map (·.getD 0) → k < xs.length then some ((is.map (·.getD 0)).map (fun k => xs.getD k [])) else none
theorem rc_pick {α : Type} {S : Ty α} {u : TypeId} {ly ly' : Nat → SLay S.Lay} {xs : List (List α)} : ∀ (js : List Nat) (i m : Nat), (∀ k, k < js.length → ly' (i + k) = ly (js.getD k 0)) → rc (TIdx ly xs) (fun _ => ()) m (js.map some) = rc (Ty.slice u S) ly' i (js.map (fun k => xs.getD k []))
  | [], _, _, _ => rfl
  | k :: js, i, m, h => by
    have h0 := h 0 (by simp)
    rw [Nat.add_zero, List.getD_cons_zero] at h0
    have ih := rc_pick (u := u) (ly := ly) (ly' := ly') (xs := xs) js (i + 1) (m + 1) (fun k hk => by
      have := h (k + 1) (by simp only [List.length_cons]; omega)
      rw [List.getD_cons_succ] at this
      rw [show i + 1 + k = i + (k + 1) by omega]
      exact this)
    rw [List.map_cons, List.map_cons, rc, rc, ih]
    show [Value.slice (ly k).A (xs.getD k []).length (ly k).c] ++ _ = [Value.slice (ly' i).A (xs.getD k []).length (ly' i).c] ++ _
    rw [h0]
theorem over_lenR {α : Type} {xs : List α} {l n : Nat} {z : α} (h : l + n ≤ xs.length) : (over xs l (List.replicate n z)).length = xs.length := over_length (by rw [List.length_replicate]; exact h)
theorem cutA_zero (A : Option Addr) (c s : Nat) : cutA A 0 c s = A := by
  unfold cutA
  split
  · rfl
  · cases A with
    | none => rfl
    | some a => simp [Addr.add]
theorem St.unsplit {α : Type} {S : Ty α} {u t : TypeId} {w0 w : World} {L : List HObj} {A : Option Addr} {c m : Nat} {ly : Nat → SLay S.Lay} {xs r : List (List α)} {is : List (Option Nat)} {A' : Option Addr} {c' : Nat} (HS : St w0 w (Own (TIdx ly xs) t A c (fun _ => ()) is :: Rows_ S u ly xs :: L)) (hm : m ≤ is.length) (hr : pickRows xs (is.take m) = some r) (hA : A' = A) (hc : c' = c) :
    ∃ ly', r.length = m ∧ St w0 w (Own (Ty.slice u S) t A' c' ly' r :: L) := by
  subst hA
  subst hc
  unfold pickRows at hr
  split at hr
  · rename_i hc
    obtain ⟨hc1, hc2, hc3⟩ := hc
    obtain rfl := Option.some.inj hr
    generalize hjs : (is.take m).map (·.getD 0) = js at hc1 hc2 hc3
    have hlen : js.length = m := by rw [← hjs, List.length_map, List.length_take]; omega
    obtain ⟨hbel, q, r, hq, hr, hqr, ⟨q1, q2, h1, h2, hd, hown, hb, hs⟩, q3, r3, hq3, hr3, hd3, hs3, hL⟩ := HS
    refine ⟨fun k => ly (js.getD k 0), by rw [List.length_map, hlen], hbel, fun k => q1 k ∨ q3 k, r3, ?_, ?_, ?_, ⟨q1, q3, fun k hk => .inl hk, fun k hk => .inr hk, ?_, ?_, ?_, ?_⟩, hL⟩
    · exact fun k hk => hk.elim (fun h => hq k (h1 k h)) (fun h => hr k (hq3 k h))
    · exact fun k hk => hr k (hr3 k hk)
    · exact fun k hk hn => hk.elim (fun h => hqr k (h1 k h) (hr3 k hn)) (fun h => hd3 k h hn)
    · exact fun k hk hn => hqr k (h1 k hk) (hq3 k hn)
    · have he := rc_pick (u := u) (ly := ly) (ly' := fun k => ly (js.getD k 0)) (xs := xs) js 0 0 (fun k _ => by rw [Nat.zero_add])
      rw [← he, ← hc1, List.length_map, hlen]
      have htk : ∀ (i : Nat) (zs : List (Option Nat)) (n : Nat), (rc (TIdx ly xs) (fun _ => ()) i zs).take n = rc (TIdx ly xs) (fun _ => ()) i (zs.take n) := by
        intro i zs
        induction zs generalizing i with
        | nil => intro n; simp [rc]
        | cons z zs ih =>
          intro n
          cases n with
          | zero => simp [rc]
          | succ n =>
            rw [List.take_succ_cons, rc, rc]
            show ([Hdr ly xs z] ++ _).take (n + 1) = [Hdr ly xs z] ++ _
            rw [List.singleton_append, List.take_succ_cons, ih]
            rfl
      rcases hown.2 with ⟨hv, h0⟩ | ⟨g, cap, cur, hv, hg, hh, hnc, hcm, hsz, htkk⟩
      · have hm0 : m = 0 := by omega
        injection hv with hA _ hcc
        subst hA
        subst hcc
        subst hm0
        exact ⟨by simp [rc], .inl ⟨rfl, rfl⟩⟩
      · injection hv with hA _ hcc
        subst hA
        subst hcc
        refine ⟨by rw [rc_length, List.length_take]; show min m is.length * 1 = m * 1; omega, .inr ⟨g, c', cur, rfl, hg, hh, by omega, hcm, hsz, ?_⟩⟩
        rw [← htk, ← htkk, List.take_take]
        congr 1
        show m * 1 = min m (is.length * 1)
        omega
    · intro k hk
      exact hb k (by
        cases A' with
        | none => simp [Value.ownBlock] at hk
        | some a => simpa [Value.ownBlock] using hk)
    · have := SepM.sel (ly' := fun k => ly (js.getD k 0)) (d := ([] : List α)) (i0 := 0) hs3 hc2 (fun k hk => ⟨Nat.zero_le _, by rw [Nat.zero_add]; exact hc3 k hk⟩) (fun m _ => by rw [Nat.zero_add])
      simpa using this
  · cases hr
section
variable {α : Type} {T : Ty α} {P : Program} {N : Nat} {e : Env} {w0 w : World} {L : List HObj} {Q : Act → World → Prop} {ops : Array Oper} {i d : Nat} {rest : List Nat} {ty : TypeId} {ps : String} {af : Array Edge} {ly : Nat → T.Lay} {A : Option Addr} {c : Nat} {xs : List α}
theorem run_clear_sz (w : World) (t ty elem : TypeId) (sz g o n cap : Nat) (cur : Array Value) (tb : TypeId) (z : Value) (inf : TypeInfo) (hu : P.underlying t = some (.slice elem)) (hi : P.info? elem = some inf) (hz : inf.zero = some z) (hp : 0 < n)
    (hg : w.heap[g]? = some (.cells cur tb (0, 0))) (hfit : o + (Builtin.zeroCells z.cells n).toList.length ≤ cur.size) (h1 : ∀ v ∈ (Builtin.zeroCells z.cells n).toList, v.oneCell' = true) :
    (Builtin.clear_ #[t] ty #[.slice (some ⟨g, o, none⟩) n cap]).run P w = .ok (.tuple #[]) (w.setRow g (splice cur.toList o (Builtin.zeroCells z.cells n).toList).toArray) := by
  have hst := run_storeCells_at P g o tb (Builtin.zeroCells z.cells n).toList 0 cur w hg (by simpa using hfit) h1
  simp only [Nat.add_zero] at hst
  obtain ⟨n', rfl⟩ : ∃ n', n = n' + 1 := ⟨n - 1, by omega⟩
  simp [Builtin.clear_, run_underlying hu, zeroValue, typeInfo, hi, hz, hst, splice]
theorem GO.clearC {t el tb : TypeId} {x : Operand} {B : Option Addr} {j l dn dc : Nat} {z : Value} (z0 : α) (l0 : T.Lay) (HS : St w0 w L) (hj : L[j]? = some (Own T tb A c ly xs)) (hfl : Flat T) (ho : ops[i]? = some ⟨none, .call { callee := .builtin .clear, args := #[x], argTypes := #[t] }, ty, ps, af, none⟩) (hx : ev e x = some (.slice B dn dc))
    (ht : P.underlying t = some (.slice el)) (hz : (P.info? el).map (·.zero) = some (some z)) (hzc : z.cells = (T.cells l0 z0).toArray) (hs0 : Nat.blt 0 T.sz = true) (hC : 0 < dn → ∀ g, A = some ⟨g, 0, none⟩ → B = some ⟨g, l * T.sz, none⟩) (hl : l + dn ≤ xs.length) (hly : ∀ k, ly k = l0)
    (g : ∀ w', St w0 w' (L.set j (Own T tb A c ly (over xs l (List.replicate dn z0)))) → GO P N ops rest e w' Q) : GO P N ops (i :: rest) e w Q := by
  obtain ⟨inf, hi, hzz⟩ := Option.map_eq_some_iff.1 hz
  rcases Nat.eq_zero_or_pos dn with h0 | h0
  · subst h0
    have ho' : over xs l (List.replicate 0 z0) = xs := by unfold over; simp
    rw [ho', set_same hj] at g
    refine GO.act (.tuple #[]) ho rfl rfl (fun a hs => ?_) (g w HS)
    cases B <;> simp [execOp, resolve, invoke, builtin, hs.ev hx, Builtin.clear_, run_underlying ht]
  · obtain ⟨gb, cur, hA, hh, hfit, hst⟩ := HS.overRow (g := 0) (o := 0) (ys := List.replicate dn z0) (l := l) hj hfl (fun k k' => by rw [hly k, hly k']) (by rw [List.length_replicate]; exact hl) (by rw [List.length_replicate]; exact h0)
    have hB := hC h0 gb hA
    subst hB
    have hcs : (Builtin.zeroCells z.cells dn).toList = rc T ly 0 (List.replicate dn z0) := by
      have e1 : Builtin.zeroCells z.cells dn = madeCells (T.cells l0 z0).toArray (dn * (T.cells l0 z0).length) := by
        rw [hzc]; unfold Builtin.zeroCells madeCells; simp
      have e2 : rc T ly 0 (List.replicate dn z0) = rc T (fun _ => l0) 0 (List.replicate dn z0) := rc_congr (fun k _ _ => hly k)
      rw [e1, e2, replicate_get]
      exact toList_madeCells _ (by rw [T.len]; exact Nat.le_of_ble_eq_true hs0) _
    refine GO.act (.tuple #[]) ho rfl rfl (fun a hs => ?_) (g _ hst)
    have hr := run_clear_sz (P := P) w t ty el T.sz gb (l * T.sz) dn dc cur tb z inf ht hi hzz h0 hh (by rw [hcs, rc_length]; simpa using hfit) (fun u hu => by rw [hcs] at hu; exact rc_one hu)
    rw [hcs] at hr
    simp only [execOp, resolve, invoke, builtin, Sem.run_bind, Sem.run_pure, Result.andThen_ok, List.map_toArray, List.map_cons, List.map_nil, hs.ev hx, hr]
end
theorem St.shrink {α : Type} {T : Ty α} {w0 w : World} {L : List HObj} {t : TypeId} {A A' : Option Addr} {c c' j m : Nat} {ly : Nat → T.Lay} {xs : List α} (HS : St w0 w L) (hj : L[j]? = some (Own T t A c ly xs)) (hfl : Flat T) (hm : m ≤ xs.length) (hA : A' = A) (hc : c' = c) : St w0 w (L.set j (Own T t A' c' ly ((xs.take m).drop 0))) := by
  subst hA
  subst hc
  rw [List.drop_zero]
  have hlen : (xs.take m).length = m := by rw [List.length_take]; omega
  refine HS.upd hj (Nat.le_refl _) rfl rfl rfl (fun q ho => ?_)
  obtain ⟨q1, q2, h1, h2, hd, hown, hb, hs⟩ := ho
  refine ⟨q, fun k hk => .inl hk, ⟨q1, q2, h1, h2, hd, ?_, ?_, SepM.flat hfl _ _ _⟩, fun k _ _ => rfl⟩
  · have htk : rc T ly 0 (xs.take m) = (rc T ly 0 xs).take (m * T.sz) := by
      conv => rhs; rw [← List.take_append_drop m xs, rc_append]
      rw [List.take_append_of_le_length (by rw [rc_length, hlen]; exact Nat.le_refl _)]
      exact (List.take_of_length_le (by rw [rc_length, hlen]; exact Nat.le_refl _)).symm
    rw [hlen, htk]
    rcases hown.2 with ⟨hv, h0⟩ | ⟨g, cap, cur, hv, hg, hh, hnc, hcm, hsz, htkk⟩
    · have hm0 : m = 0 := by omega
      injection hv with hA _ hcc
      subst hA
      subst hcc
      subst hm0
      exact ⟨by simp, .inl ⟨rfl, rfl⟩⟩
    · injection hv with hA _ hcc
      subst hA
      subst hcc
      have hmul : m * T.sz ≤ xs.length * T.sz := Nat.mul_le_mul_right _ hm
      refine ⟨by rw [List.length_take, rc_length]; omega, .inr ⟨g, c', cur, rfl, hg, hh, by omega, hcm, hsz, ?_⟩⟩
      rw [← htkk, List.take_take]
      congr 1
      omega
  · intro k hk
    exact hb k (by
        cases A' with
        | none => simp [Value.ownBlock] at hk
        | some a => simpa [Value.ownBlock] using hk)
section
variable {P : Program} {N : Nat} {e : Env} {w0 w : World} {L : List HObj} {Q : Act → World → Prop} {ops : Array Oper} {i d : Nat} {rest : List Nat} {ty : TypeId} {ps : String} {af : Array Edge}
end
section
variable {P : Program} {N : Nat} {e : Env} {w : World} {Q : Act → World → Prop} {ops : Array Oper} {i d : Nat} {rest : List Nat} {ty : TypeId} {ps : String} {af : Array Edge}
theorem GO.ixStr {t : TypeId} {x y : Operand} {kd : IntKind} {m : Int} {s : ByteArray} (l : List Int) (ho : ops[i]? = some ⟨some d, .index t x y, ty, ps, af, none⟩) (hx : ev e x = some (.string s)) (hl : s.data.toList.map (fun b => (b.toNat : Int)) = l) (hy : ev e y = some (.int kd m)) (ht : P.underlying t = some .string)
    (h0 : 0 ≤ m) (h1 : m < (l.length : Int)) (hN : Nat.blt d N = true) (g : GO P N ops rest ((d, .int .u8 (l.getD m.toNat 0)) :: e) w Q) : GO P N ops (i :: rest) e w Q :=
  GO.val _ ho rfl rfl hN (fun a hs => by
    subst hl
    rw [List.length_map, Array.length_toList] at h1
    have hm : m.toNat < s.size := by show m.toNat < s.data.size; omega
    have hb : s[m.toNat]? = some s[m.toNat] := getElem?_pos s m.toNat hm
    have hv : (s.data.toList.map (fun b => (b.toNat : Int))).getD m.toNat 0 = (s[m.toNat].toNat : Int) := by
      rw [List.getD_eq_getElem?_getD, List.getElem?_map, Array.getElem?_toList, getElem?_pos s.data m.toNat hm]
      rfl
    rw [hv]
    simp [execOp, hs.ev hx, hs.ev hy, Instr.index, asIntOf, run_underlying ht, h0, hb]) g
theorem GO.slArr {α : Type} {t el : TypeId} {x : Operand} {b n c sz : Nat} {xs : List α} (ho : ops[i]? = some ⟨some d, .slice t x none none none, ty, ps, af, none⟩) (hx : ev e x = some (.pointer (some ⟨b, 0, none⟩))) (ht : P.underlying t = some (.array n el)) (hsz : (P.info? el).map (·.size) = some sz) (hn : xs.length = n) (hc : c = n)
    (hN : Nat.blt d N = true) (g : GO P N ops rest ((d, .slice (some ⟨b, 0, none⟩) xs.length c) :: e) w Q) : GO P N ops (i :: rest) e w Q :=
  GO.val _ ho rfl rfl hN (fun a hs => by
    obtain ⟨inf, hi, hi2⟩ := Option.map_eq_some_iff.1 hsz
    subst hc
    simp [execOp, hs.ev hx, Instr.sliceAt, Instr.sureAddr, Instr.sliceBounds, run_underlying ht, sizeOf, typeInfo, hi, hn, Addr.add]) g
end
end Go.Proofs.YtdfiglhdjlmakaaGreat
