/-
  Maps from whole numbers to whole numbers.
-/
import Derived.Test.YtdafmbaeiefacaaSlG
import Derived.MapKept
set_option linter.unusedVariables false
set_option linter.unusedSimpArgs false
namespace Go.Proofs.Ytdafmbaeiefacaa
open Go.RowKit
def mget : List (Int × Int) → Int → Option Int
  | [], _ => none
  | p :: r, k => if k = p.1 then some p.2 else mget r k
def mput : List (Int × Int) → Int → Int → List (Int × Int)
  | [], k, v => [(k, v)]
  | p :: r, k, v => if k = p.1 then (k, v) :: r else p :: mput r k v
def mpairs (kk kv : IntKind) (es : List MapEntry) (m : List (Int × Int)) : Prop := es.map (fun x => (x.key, x.val)) = m.map (fun p => (Value.int kk p.1, Value.int kv p.2))
/-- A map that is known whole. -/
def MapI (b : Nat) (kk kv : IntKind) (m : List (Int × Int)) : HObj where
  P := fun w q => q b ∧ ∃ es clock, w.heap[b]? = some (.map es clock) ∧ mpairs kk kv es.toList m
  loc := fun h hk => ⟨h.1, by obtain ⟨es, c, h1, h2⟩ := h.2; exact ⟨es, c, (hk b h.1).trans h1, h2⟩⟩
  more := fun h hq => ⟨hq b h.1, h.2⟩
section
variable {w0 w w' : World} {L : List HObj} {b j : Nat} {kk kv : IntKind} {m : List (Int × Int)}
theorem St.newMap (h : St w0 w L) (kk kv : IntKind) : St w0 (w.alloc (.map #[] 0)) (MapI w.heap.size kk kv [] :: L) :=
  h.cons (by simp) rfl rfl rfl (fun k hk => Below.heap_alloc w _ k hk) ⟨by simp, #[], 0, heap_alloc_new w _, rfl⟩
theorem St.map (h : St w0 w L) (hj : L[j]? = some (MapI b kk kv m)) : ∃ es clock, w.heap[b]? = some (.map es clock) ∧ mpairs kk kv es.toList m := by
  obtain ⟨q, _, h1, h2⟩ := h.get hj
  exact h2
theorem findNow_int {k : Int} : ∀ {es : List MapEntry} {m : List (Int × Int)} (i : Nat), mpairs kk kv es m →
    (mget m k = none ∧ Instr.findNow (.int kk) (.int kk k) es i = some none ∧ (∀ v, mpairs kk kv (es ++ [⟨.int kk k, .int kv v, 0⟩]) (mput m k v))) ∨
    (∃ v0 n e0, mget m k = some v0 ∧ Instr.findNow (.int kk) (.int kk k) es i = some (some (i + n, .int kv v0)) ∧ es[n]? = some e0 ∧ e0.key = .int kk k ∧ ∀ v, mpairs kk kv (es.modify n (fun e => { e with key := .int kk k, val := .int kv v })) (mput m k v))
  | [], [], _, _ => .inl ⟨rfl, rfl, fun v => rfl⟩
  | [], _ :: _, _, h => by cases h
  | _ :: _, [], _, h => by cases h
  | e :: es, p :: m, i, h => by
    have h' : (e.key, e.val) = (Value.int kk p.1, Value.int kv p.2) ∧ mpairs kk kv es m := by
      unfold mpairs at h
      simp only [List.map_cons, List.cons.injEq] at h
      exact h
    obtain ⟨he, hr⟩ := h'
    obtain ⟨he1, he2⟩ := Prod.mk.inj he
    by_cases hk : k = p.1
    · subst hk
      refine .inr ⟨p.2, 0, e, by simp [mget], ?_, rfl, he1, fun v => ?_⟩
      · simp [Instr.findNow, Instr.sameNow, he1, he2]
      · unfold mpairs
        simp only [List.modify, List.modifyTailIdx, List.modifyTailIdx.go, List.modifyHead, mput, if_true, List.map_cons]
        exact congrArg _ hr
    · have hbe : (k == p.1) = false := beq_eq_false_iff_ne.2 hk
      rcases findNow_int (k := k) (i + 1) hr with ⟨h1, h2, h3⟩ | ⟨v0, n, e0, h1, h2, h3, h4, h5⟩
      · refine .inl ⟨by simp [mget, hk, h1], ?_, fun v => ?_⟩
        · simp [Instr.findNow, Instr.sameNow, he1, hbe, h2]
        · unfold mpairs
          simp only [mput, if_neg hk, List.cons_append, List.map_cons]
          exact congr (congrArg List.cons he) (h3 v)
      · refine .inr ⟨v0, n + 1, e0, by simp [mget, hk, h1], ?_, h3, h4, fun v => ?_⟩
        · simp [Instr.findNow, Instr.sameNow, he1, hbe, h2, Nat.add_assoc, Nat.add_comm 1 n]
        · unfold mpairs
          simp only [mput, if_neg hk, List.map_cons, List.modify_succ_cons]
          exact congr (congrArg List.cons he) (h5 v)
end
section
variable {P : Program} {N : Nat} {e : Env} {w0 w : World} {L : List HObj} {Q : Act → World → Prop} {ops : Array Oper} {i d : Nat} {rest : List Nat} {ty : TypeId} {ps : String} {af : Array Edge} {b j : Nat} {kk kv : IntKind} {m : List (Int × Int)}
theorem GO.newMap {t : TypeId} (kk kv : IntKind) (HS : St w0 w L) (ho : ops[i]? = some ⟨some d, .makeMap t none, ty, ps, af, none⟩) (hN : Nat.blt d N = true)
    (g : ∀ b w', St w0 w' (MapI b kk kv [] :: L) → GO P N ops rest ((d, .map (some b)) :: e) w' Q) : GO P N ops (i :: rest) e w Q :=
  GO.val (.map (some w.heap.size)) ho rfl rfl hN (fun a hs => by simp [execOp, Instr.makeMap]) (g _ _ (HS.newMap kk kv))
theorem run_look {t k el : TypeId} {key : Int} (HS : St w0 w L) (hj : L[j]? = some (MapI b kk kv m)) (ht : P.underlying t = some (.map k el)) (hk : P.underlying k = some (.int kk)) (hz : (P.info? el).map (·.zero) = some (some (.int kv 0))) (cm : Bool) :
    (Instr.lookup t (.map (some b)) (.int kk key) cm).run P w = .ok (bif cm then .tuple #[.int kv ((mget m key).getD 0), .bool (mget m key).isSome] else .int kv ((mget m key).getD 0)) w := by
  obtain ⟨es, clock, hb, hm⟩ := HS.map hj
  obtain ⟨inf, hi, hz'⟩ := Option.map_eq_some_iff.1 hz
  have hck := MapKept.run_checkKey (w := w) hk (k := .int kk key) (by simp [MapKept.IsKey]) es.isEmpty 9999
  have hzz : (zeroValue el).run P w = .ok (.int kv 0) w := by simp [zeroValue, typeInfo, hi, hz']
  rcases findNow_int (k := key) 0 hm with ⟨h1, h2, _⟩ | ⟨v0, n, e0, h1, h2, _, _, _⟩
  · have hf := MapKept.run_findKey (w := w) hk h2
    cases cm <;> simp [Instr.lookup, run_underlying ht, MapKept.run_getObj_map hb, hck, hf, hzz, h1]
  · have hf := MapKept.run_findKey (w := w) hk h2
    cases cm <;> simp [Instr.lookup, run_underlying ht, MapKept.run_getObj_map hb, hck, hf, h1]
theorem GO.lookOk {t k el : TypeId} {x y : Operand} {key : Int} (HS : St w0 w L) (hj : L[j]? = some (MapI b kk kv m)) (ho : ops[i]? = some ⟨some d, .lookup t x y true, ty, ps, af, none⟩) (hx : ev e x = some (.map (some b))) (hy : ev e y = some (.int kk key)) (ht : P.underlying t = some (.map k el)) (hk : P.underlying k = some (.int kk)) (hz : (P.info? el).map (·.zero) = some (some (.int kv 0))) (hN : Nat.blt d N = true)
    (g : GO P N ops rest ((d, .tuple #[.int kv ((mget m key).getD 0), .bool (mget m key).isSome]) :: e) w Q) : GO P N ops (i :: rest) e w Q :=
  GO.val _ ho rfl rfl hN (fun a hs => by simp [execOp, hs.ev hx, hs.ev hy, run_look HS hj ht hk hz true]) g
theorem GO.look {t k el : TypeId} {x y : Operand} {key : Int} (HS : St w0 w L) (hj : L[j]? = some (MapI b kk kv m)) (ho : ops[i]? = some ⟨some d, .lookup t x y false, ty, ps, af, none⟩) (hx : ev e x = some (.map (some b))) (hy : ev e y = some (.int kk key)) (ht : P.underlying t = some (.map k el)) (hk : P.underlying k = some (.int kk)) (hz : (P.info? el).map (·.zero) = some (some (.int kv 0))) (hN : Nat.blt d N = true)
    (g : GO P N ops rest ((d, .int kv ((mget m key).getD 0)) :: e) w Q) : GO P N ops (i :: rest) e w Q :=
  GO.val _ ho rfl rfl hN (fun a hs => by simp [execOp, hs.ev hx, hs.ev hy, run_look HS hj ht hk hz false]) g
theorem GO.lenM {t k el : TypeId} {x : Operand} (HS : St w0 w L) (hj : L[j]? = some (MapI b kk kv m)) (ho : ops[i]? = some ⟨some d, .call { callee := .builtin .len, args := #[x], argTypes := #[t] }, ty, ps, af, none⟩) (hx : ev e x = some (.map (some b))) (ht : P.underlying t = some (.map k el)) (hN : Nat.blt d N = true)
    (g : GO P N ops rest ((d, .int .i64 (m.length : Int)) :: e) w Q) : GO P N ops (i :: rest) e w Q := by
  refine GO.val _ ho rfl rfl hN (fun a hs => ?_) g
  obtain ⟨es, clock, hb, hm⟩ := HS.map hj
  have hl : es.size = m.length := by have := congrArg List.length hm; simpa using this
  simp [execOp, resolve, invoke, builtin, hs.ev hx, Builtin.len_, run_underlying ht, MapKept.run_getObj_map hb, goInt, hl]
theorem GO.putM {t k el : TypeId} {x y z : Operand} {key v : Int} (HS : St w0 w L) (hj : L[j]? = some (MapI b kk kv m)) (ho : ops[i]? = some ⟨none, .mapUpdate t x y z, ty, ps, af, none⟩) (hx : ev e x = some (.map (some b))) (hy : ev e y = some (.int kk key)) (hv : ev e z = some (.int kv v)) (ht : P.underlying t = some (.map k el)) (hk : P.underlying k = some (.int kk))
    (g : ∀ w', St w0 w' (L.set j (MapI b kk kv (mput m key v))) → GO P N ops rest e w' Q) : GO P N ops (i :: rest) e w Q := by
  obtain ⟨es, clock, hb, hm⟩ := HS.map hj
  have hck := MapKept.run_checkKey (w := w) hk (k := .int kk key) (by simp [MapKept.IsKey]) false 9999
  have hup : ∀ (o : Obj), (∃ es' c', o = .map es' c' ∧ mpairs kk kv es'.toList (mput m key v)) → St w0 { w with heap := w.heap.setIfInBounds b o } (L.set j (MapI b kk kv (mput m key v))) := fun o ho => by
    obtain ⟨es', c', rfl, hm'⟩ := ho
    obtain ⟨hs1, hs2⟩ := MapKept.heap_set (w := w) (o' := .map es' c') hb
    refine HS.upd hj (by simp) rfl rfl rfl (fun q hq => ⟨q, fun k hk => .inl hk, ⟨hq.1, es', c', hs1, hm'⟩, fun k hk hn => hs2 k (fun e => hn (by rw [e]; exact hq.1))⟩)
  rcases findNow_int (k := key) 0 hm with ⟨h1, h2, h3⟩ | ⟨v0, n, e0, h1, h2, h3, h4, h5⟩
  · have hf := MapKept.run_findKey (w := w) hk h2
    refine GO.skipAct ho rfl rfl (fun a hs => ?_) (g { w with heap := w.heap.setIfInBounds b (.map (es.push ⟨.int kk key, .int kv v, clock⟩) (clock + 1)) } (hup _ ⟨_, _, rfl, ?_⟩))
    · simp [execOp, hs.ev hx, hs.ev hy, hs.ev hv, Instr.mapUpdate, run_underlying ht, MapKept.run_getObj_map hb, hck, hf, MapKept.run_setObj_map _ hb]
    · have := h3 v
      unfold mpairs at this ⊢
      simpa using this
  · have hf := MapKept.run_findKey (w := w) hk h2
    have hst := MapKept.run_keyThatStays (P := P) (w := w) (k := .int kk key) (d := .int kk) (by simp [MapKept.IsKey])
    have h3' : es[n]? = some e0 := by simpa using h3
    refine GO.skipAct ho rfl rfl (fun a hs => ?_) (g { w with heap := w.heap.setIfInBounds b (.map (es.modify n fun e => { e with key := .int kk key, val := .int kv v }) clock) } (hup _ ⟨_, _, rfl, ?_⟩))
    · simp [execOp, hs.ev hx, hs.ev hy, hs.ev hv, Instr.mapUpdate, run_underlying ht, MapKept.run_getObj_map hb, hck, hf, h3', h4, hst, MapKept.run_setObj_map _ hb]
    · have := h5 v
      rw [Array.toList_modify]
      exact this
end
end Go.Proofs.Ytdafmbaeiefacaa
