/-
  Strings compared by the library's entry without a body.
-/
import Derived.Test.YthjomdggdaocgaaGreatDoorSlM
import Derived.Laws.Externs
import Derived.Lib.Bytealg
set_option linter.unusedVariables false
set_option linter.unusedSimpArgs false
namespace Go.Proofs.YthjomdggdaocgaaGreatDoor
open Go.RowKit
section
variable {P : Program} {N : Nat} {e : Env} {w : World} {Q : Act → World → Prop} {ops : Array Oper} {i d : Nat} {rest : List Nat} {ty : TypeId} {ps : String} {af : Array Edge} {x y : Operand} {a b : ByteArray}
theorem GO.nilP {A : Addr} (ho : ops[i]? = some ⟨some d, .nilCheck x, ty, ps, af, none⟩) (hx : ev e x = some (.pointer (some A))) (hN : Nat.blt d N = true) (g : GO P N ops rest ((d, .pointer (some A)) :: e) w Q) : GO P N ops (i :: rest) e w Q :=
  GO.val _ ho rfl rfl hN (fun a' hs => by simp [execOp, hs.ev hx]) g
end
theorem OR.cut3 {w : World} {t : TypeId} {sz n c l k m : Nat} {A : Option Addr} {xs : List Value} (h : OR w t sz (.slice A n c) n xs) (hl : l + k ≤ n) (hk : l + k ≤ m) (hm : m ≤ c) : OR w t sz (.slice (cutA A l m sz) k (m - l)) k ((xs.drop (l * sz)).take (k * sz)) := by
  have hmul : (l + k) * sz ≤ n * sz := Nat.mul_le_mul_right _ hl
  rw [Nat.add_mul] at hmul
  refine ⟨by rw [List.length_take, List.length_drop, h.1]; omega, ?_⟩
  unfold cutA
  rcases h.2 with ⟨h2, h0⟩ | ⟨g, o, cap, cur, hv, hh, hnc, hcm, hsz, htk⟩
  · injection h2 with hA _ hcc
    subst hA
    subst hcc
    refine .inl ⟨?_, by omega⟩
    rw [show k = 0 by omega, show m - l = 0 by omega]
    split <;> rfl
  · injection hv with hA _ hcc
    subst hA
    subst hcc
    by_cases hcl : m = l
    · rw [if_pos hcl]
      have hm0 : k = 0 := by omega
      subst hm0
      exact .inr ⟨g, o, m - l, cur, rfl, hh, by omega, by omega, by rw [show m - l = 0 by omega]; omega, by simp⟩
    · rw [if_neg hcl]
      have hmul2 : (l + (m - l)) * sz ≤ c * sz := Nat.mul_le_mul_right _ (by omega)
      rw [Nat.add_mul] at hmul2
      refine .inr ⟨g, o + l * sz, m - l, cur, by rw [Option.map_some, addr_off], hh, by omega, by omega, by omega, ?_⟩
      rw [← htk, ← List.drop_drop, List.drop_take, List.take_take]
      congr 1
      omega
theorem SepM.shift {α : Type} {T : Ty α} {w : World} {ly : Nat → T.Lay} {l : Nat} : ∀ {xs : List α} {i : Nat} {q : Nat → Prop}, SepM T w ly (l + i) xs q → SepM T w (fun k => ly (l + k)) i xs q
  | [], _, _, _ => trivial
  | _ :: _, _, _, ⟨q0, q1, h0, h1, hd, hx, hs⟩ => ⟨q0, q1, h0, h1, hd, hx, SepM.shift hs⟩
theorem cut_ownBlock {A : Option Addr} {l m s n n' c c' k : Nat} (h : (Value.slice (cutA A l m s) n c).ownBlock = some k) : (Value.slice A n' c').ownBlock = some k := by
  unfold cutA at h
  split at h
  · cases A with
    | none => simp [Value.ownBlock] at h
    | some a => simpa [Value.ownBlock] using h
  · cases A with
    | none => simp [Value.ownBlock] at h
    | some a =>
      have : (a.add (l * s)).block = a.block := by unfold Addr.add; split <;> rfl
      simpa [Value.ownBlock, this] using h
section
variable {α : Type} {T : Ty α} {w0 w : World} {L : List HObj} {t : TypeId} {A A' : Option Addr} {c c' j l h m : Nat} {ly : Nat → T.Lay} {xs : List α}
theorem rc_mid (hlh : l ≤ h) (hh : h ≤ xs.length) : rc T (fun k => ly (l + k)) 0 ((xs.take h).drop l) = ((rc T ly 0 xs).drop (l * T.sz)).take ((h - l) * T.sz) := by
  have hsplit : xs = xs.take l ++ ((xs.take h).drop l ++ xs.drop h) := by
    rw [List.drop_take]
    have : List.take (h - l) (List.drop l xs) ++ List.drop h xs = List.drop l xs := by
      rw [show h = l + (h - l) by omega, ← List.drop_drop, show l + (h - l) - l = h - l by omega, List.take_append_drop]
    rw [this, List.take_append_drop]
  have htl : (xs.take l).length = l := by rw [List.length_take]; omega
  have hml : ((xs.take h).drop l).length = h - l := by rw [List.length_drop, List.length_take]; omega
  rw [rc_shift, Nat.add_zero]
  conv => rhs; rw [hsplit, rc_append, rc_append, htl, Nat.zero_add]
  rw [List.drop_left' (by rw [rc_length, htl]), List.take_left' (by rw [rc_length, hml])]
theorem St.cutOwn (HS : St w0 w L) (hj : L[j]? = some (Own T t A c ly xs)) (hlh : l ≤ h) (hh : h ≤ xs.length) (hhm : h ≤ m) (hm : m ≤ c) (hA : A' = cutA A l m T.sz) (hc : c' = m - l) : St w0 w (L.set j (Own T t A' c' (fun k => ly (l + k)) ((xs.take h).drop l))) := by
  subst hA
  subst hc
  have hml : ((xs.take h).drop l).length = h - l := by rw [List.length_drop, List.length_take]; omega
  refine HS.upd hj (Nat.le_refl _) rfl rfl rfl (fun q ho => ?_)
  obtain ⟨q1, q2, h1, h2, hd, hown, hb, hs⟩ := ho
  refine ⟨q, fun k hk => .inl hk, ⟨q1, q2, h1, h2, hd, ?_, fun k hk => hb k (cut_ownBlock hk), ?_⟩, fun k _ _ => rfl⟩
  · rw [hml, rc_mid hlh hh]
    exact hown.cut3 (by omega) (by omega) hm
  · have hsplit : xs = xs.take l ++ ((xs.take h).drop l ++ xs.drop h) := by
      rw [List.drop_take]
      have : List.take (h - l) (List.drop l xs) ++ List.drop h xs = List.drop l xs := by
        rw [show h = l + (h - l) by omega, ← List.drop_drop, show l + (h - l) - l = h - l by omega, List.take_append_drop]
      rw [this, List.take_append_drop]
    have htl : (xs.take l).length = l := by rw [List.length_take]; omega
    rw [hsplit] at hs
    obtain ⟨_, qb, _, hqb, _, _, s2⟩ := SepM.cut hs
    obtain ⟨qc, _, hqc, _, _, s3, _⟩ := SepM.cut s2
    rw [htl, Nat.zero_add] at s3
    exact (SepM.shift (i := 0) s3).more (fun k hk => hqb k (hqc k hk))
end
theorem St.rowOut {α : Type} {S : Ty α} {u t : TypeId} {w0 w : World} {L : List HObj} {A : Option Addr} {c n : Nat} {ly : Nat → SLay S.Lay} {xs : List (List α)} (HS : St w0 w (Own (Ty.slice u S) t A c ly xs :: L)) (hn : n < xs.length) :
    St w0 w (Own S u (ly n).A (ly n).c (ly n).ly (xs.getD n []) :: Own (Ty.slice u S) t A c ly (xs.take n) :: L) := by
  obtain ⟨hb, q, r, hq, hr, hqr, ⟨q1, q2, h1, h2, hd, hown, hbl, hs⟩, hL⟩ := HS
  have hx : xs = xs.take n ++ (xs[n] :: xs.drop (n + 1)) := by rw [← List.drop_eq_getElem_cons hn, List.take_append_drop]
  have hgd : xs.getD n [] = xs[n] := by rw [List.getD_eq_getElem?_getD, List.getElem?_eq_getElem hn]; rfl
  have htl : (xs.take n).length = n := by rw [List.length_take]; omega
  have hs' := hs
  rw [hx] at hs'
  obtain ⟨qa, qc, ha, hc, hac, sa, sc⟩ := SepM.cut hs'
  rw [htl, Nat.zero_add] at sc
  obtain ⟨p0, _, c0, _, _, hM, _⟩ := sc
  obtain ⟨_, _, _, _, _, hnc, _⟩ := hown.open (by omega)
  have hcut := hown.cut3 (l := 0) (k := n) (m := c) (by omega) (by omega) (Nat.le_refl _)
  rw [cutA_zero, Nat.sub_zero, Nat.zero_mul, List.drop_zero] at hcut
  have hrc : rc (Ty.slice u S) ly 0 (xs.take n) = (rc (Ty.slice u S) ly 0 xs).take (n * (Ty.slice u S).sz) := by
    conv => rhs; rw [hx, rc_append]
    exact (List.take_left' (by rw [rc_length, htl])).symm
  refine ⟨hb, p0, fun k => (q1 k ∨ qa k) ∨ r k, fun k hk => hq k (h2 k (hc k (c0 k hk))), ?_, ?_, by rw [hgd]; exact hM, fun k => q1 k ∨ qa k, r, fun k hk => .inl hk, fun k hk => .inr hk, ?_, ⟨q1, qa, fun k hk => .inl hk, fun k hk => .inr hk, fun k hk hn => hd k hk (ha k hn), ?_, ?_, sa⟩, hL⟩
  · rintro k ((h | h) | h)
    · exact hq k (h1 k h)
    · exact hq k (h2 k (ha k h))
    · exact hr k h
  · rintro k hk ((h | h) | h)
    · exact hd k h (hc k (c0 k hk))
    · exact hac k h (c0 k hk)
    · exact hqr k (h2 k (hc k (c0 k hk))) h
  · rintro k (h | h) hn
    · exact hqr k (h1 k h) hn
    · exact hqr k (h2 k (ha k h)) hn
  · rw [htl, hrc]; exact hcut
  · intro k hk
    refine hbl k ?_
    cases A with
    | none => simp [Value.ownBlock] at hk
    | some a => simpa [Value.ownBlock] using hk
theorem St.rowCut {α : Type} {S : Ty α} {u t : TypeId} {w0 w : World} {L : List HObj} {A A' : Option Addr} {c c' n m : Nat} {ly : Nat → SLay S.Lay} {xs : List (List α)} (HS : St w0 w (Own (Ty.slice u S) t A c ly xs :: L)) (hn : n < xs.length) (hnm : n ≤ m) (hm : m ≤ c) (hA : A' = cutA A 0 m 1) (hc : c' = m - 0) :
    St w0 w (Own S u (ly n).A (ly n).c (ly n).ly (xs.getD n []) :: Own (Ty.slice u S) t A' c' (fun k => ly (0 + k)) ((xs.take n).drop 0) :: L) := by
  have h1 := (HS.rowOut hn).cutOwn (j := 1) (l := 0) (h := n) (m := m) rfl (Nat.zero_le _) (by rw [List.length_take]; omega) hnm hm hA hc
  rw [List.take_take, Nat.min_self] at h1
  exact h1
section
variable {α : Type} {P : Program} {N : Nat} {e : Env} {w0 w : World} {L : List HObj} {Q : Act → World → Prop} {ops : Array Oper} {i d : Nat} {rest : List Nat} {ty : TypeId} {ps : String} {af : Array Edge} {t el : TypeId} {x z z2 : Operand} {A : Option Addr} {c : Nat} {kh km : IntKind} {h m : Int} {xs : List α}
theorem GO.slHM {sz : Nat} (hle : xs.length ≤ c) (ho : ops[i]? = some ⟨some d, .slice t x none (some z) (some z2), ty, ps, af, none⟩) (hx : ev e x = some (.slice A xs.length c)) (hz : ev e z = some (.int kh h)) (hz2 : ev e z2 = some (.int km m)) (ht : P.underlying t = some (.slice el)) (hsz : (P.info? el).map (·.size) = some sz) (h0 : 0 ≤ h ∧ h ≤ (xs.length : Int)) (h2 : h ≤ m) (hc : m ≤ (xs.length : Int)) (hN : Nat.blt d N = true)
    (g : GO P N ops rest ((d, .slice (cutA A 0 m.toNat sz) ((xs.take h.toNat).drop 0).length (m.toNat - 0)) :: e) w Q) : GO P N ops (i :: rest) e w Q := by
  obtain ⟨inf, hi, hi2⟩ := Option.map_eq_some_iff.1 hsz
  have eh : (h.toNat : Int) = h := Int.toNat_of_nonneg (by omega)
  have em : (m.toNat : Int) = m := Int.toNat_of_nonneg (by omega)
  have he : P.elem t = el := by simp [Program.elem, ht]
  have ht' : P.underlying t = some (.slice (P.elem t)) := by rw [he]; exact ht
  have hs' : (sizeOf (P.elem t)).run P w = .ok inf.size w := by rw [he]; simp [sizeOf, typeInfo, hi]
  have h4 : 0 ≤ h := by omega
  have h5 : 0 ≤ m := by omega
  have hmc : m ≤ (c : Int) := by omega
  have hlen : ((xs.take h.toNat).drop 0).length = h.toNat := by rw [List.drop_zero, List.length_take]; omega
  refine GO.val _ ho rfl rfl hN (fun a hs => ?_) g
  have hr : (Instr.sliceAt t (.slice A xs.length c) none (some (.int kh h)) (some (.int km m))).run P w = .ok (.slice (cutA A 0 m.toNat inf.size) (h.toNat - 0) (m.toNat - 0)) w := by
    rw [run_sliceAt_slice (h := ht')]
    simp [Instr.slice, run_underlying ht', Instr.sliceBounds, run_sliceBound, hs', cutA, h2, h4, h5, hmc, eh, em]
  simp [execOp, hs.ev hx, hs.ev hz, hs.ev hz2, hr, hi2]
  omega
end
end Go.Proofs.YthjomdggdaocgaaGreatDoor
