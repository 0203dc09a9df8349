/- The engine, part F: small helpers of a walk. -/
import Derived.Test.YtfljnclghjikdaaGreatDoorEngE
set_option linter.unusedVariables false
namespace Go.Sl

theorem leE_nil {σ : Env} (h : look0 σ MK = none := by rfl) : leE [] σ := ⟨h.symm, trivial⟩
theorem leE_cons {σ r : Env} {t : Nat} {v : Value} (h : look σ t = some v) (hr : leE r σ) : leE ((t, v) :: r) σ := by
  obtain ⟨h1, h2⟩ := look_lt h
  exact ⟨by rw [look0_cons_ne _ _ h1]; exact hr.1, h2, hr.2⟩
theorem leE_mark {σ : Env} {v : Value} (h : look0 σ MK = some v) : leE [(MK, v)] σ := ⟨by rw [look0_cons_eq, h], h, trivial⟩

section
variable {next : Env → HL → Prop} {K : KK} {σ : Env} {S : HL} {id : Nat}
theorem thenN (h : next σ S) : thenK next K .normal σ S := h
theorem thenX (h : K (.exit id) σ S) : thenK next K (.exit id) σ S := h
theorem thenR (h : K .ret σ S) : thenK next K .ret σ S := h
theorem thenG (h : K (.goto id) σ S) : thenK next K (.goto id) σ S := h
theorem blockN (h : K .normal σ S) : blockK id K .normal σ S := h
theorem blockR (h : K .ret σ S) : blockK id K .ret σ S := h
theorem blockG {l : Nat} (h : K (.goto l) σ S) : blockK id K (.goto l) σ S := h
theorem blockX (h : K .normal σ S) : blockK id K (.exit id) σ S := by simp only [blockK, if_true]; exact h
theorem blockY {id' : Nat} (hne : Nat.beq id' id = false) (h : K (.exit id') σ S) : blockK id K (.exit id') σ S := by
  have : id' ≠ id := fun e => by rw [e] at hne; simp at hne
  simp only [blockK, if_neg this]; exact h
theorem scopeN (h : K .normal σ S) : gotoK K .normal σ S := h
theorem scopeR (h : K .ret σ S) : gotoK K .ret σ S := h
theorem scopeX (h : K (.exit id) σ S) : gotoK K (.exit id) σ S := h
theorem retN {P : Program} {fn : Func} {R : Value → HL → Prop} {v : Value} (T : HL) (h : ResOk P fn σ S v) (hT : T.Sublist S) (hR : R v T) (hd : look0 σ MK = none := by rfl) : retK P fn R .normal σ S := ⟨v, T, .inl ⟨hd, h, hT⟩, hR⟩
theorem retR {P : Program} {fn : Func} {R : Value → HL → Prop} {v : Value} (T : HL) (h : ResOk P fn σ S v) (hT : T.Sublist S) (hR : R v T) (hd : look0 σ MK = none := by rfl) : retK P fn R .ret σ S := ⟨v, T, .inl ⟨hd, h, hT⟩, hR⟩
/-- A return behind a loop over a function: the mark's block is D. -/
theorem retRM {P : Program} {fn : Func} {R : Value → HL → Prop} {v : Value} {D : Nat} {Z : HL} (T : HL) (hd : look0 σ MK = some (.pointer (some ⟨D, 0, none⟩))) (hp : S.Perm ((D, .deferred (some [])) :: Z)) (h : ResOk P fn σ Z v) (hT : T.Sublist Z) (hR : R v T) : retK P fn R .ret σ S := ⟨v, T, .inr ⟨D, Z, hd, hp, h, hT⟩, hR⟩
theorem retNM {P : Program} {fn : Func} {R : Value → HL → Prop} {v : Value} {D : Nat} {Z : HL} (T : HL) (hd : look0 σ MK = some (.pointer (some ⟨D, 0, none⟩))) (hp : S.Perm ((D, .deferred (some [])) :: Z)) (h : ResOk P fn σ Z v) (hT : T.Sublist Z) (hR : R v T) : retK P fn R .normal σ S := ⟨v, T, .inr ⟨D, Z, hd, hp, h, hT⟩, hR⟩
end

theorem CW.drawnS {P n id l σ S K} (e : Nat) (hm : (P.follows .mixedOrders || !Region.departs ⟨l⟩) = true) (hok : opsOk n l = true) (hsel : Region.noSelect ⟨l⟩ = true)
    (he : lastOk ⟨l⟩ e = true) (hp : ∀ c σ S, ¬ K (.panic c) σ S)
    (h : DL P n ⟨l⟩ S e l.length (Array.replicate l.length false) σ S K) : CW P n (.region id ⟨l⟩ true) σ S K := CW.drawn S e hm hok hsel he hp h

/-- Ways meet again behind x. -/
theorem CW.seqCut {ι : Type} {P n x y σ S K} (I : ι → Prop) (E : ι → Env) (H : ι → HL)
    (h : CW P n x σ S (thenK (fun σ' S' => ∃ i, I i ∧ leE (E i) σ' ∧ (H i).Sublist S') K)) (h2 : ∀ i, I i → CW P n y (E i) (H i) K) : CW P n (.seq x y) σ S K := by
  refine CW.seq (CW.mono h ?_)
  rintro e σ' S' hk
  cases e with
  | normal =>
    obtain ⟨i, hI, hE, hH⟩ := hk
    exact CW.weak hE hH (h2 i hI)
  | _ => exact hk

/-! lists -/
theorem m_get {α : Type} {f : α → Value} {xs : List α} {k : Nat} (d : α) (h : k < xs.length) : (xs.map f)[k]? = some (f (xs.getD k d)) := by
  simp [List.getElem?_eq_getElem h, List.getD_eq_getElem?_getD]
theorem m_set {α : Type} {f : α → Value} (xs : List α) (k : Nat) (v : α) : (xs.map f).set k (f v) = (xs.set k v).map f := by simp [List.map_set]
theorem m_all {α : Type} {f : α → Value} (hf : ∀ a, oneB (f a) = true) (xs : List α) : (xs.map f).all oneB = true := by simp [hf]
theorem m_cut {α : Type} {f : α → Value} (xs : List α) (o n : Nat) : (((xs.map f).drop o).take n) = (((xs.drop o).take n)).map f := by simp
theorem m_all_of {α : Type} {f : α → Value} (xs : List α) (n : Nat) (h : xs.length = n) : ((xs.map f).drop 0).take n = xs.map f := by rw [List.drop_zero, List.take_of_length_le (by simp [h])]
theorem wr_all {l vs : List Value} (h : vs.length = l.length) : wrL l 0 vs = vs := by simp [wrL, h]

theorem m_wr {α : Type} {f : α → Value} (xs : List α) (o : Nat) (ys : List α) : wrL (xs.map f) o (ys.map f) = (wrL xs o ys).map f := by simp [wrL]
theorem lt8 (x : UInt8) : ((x.toNat : Nat) : Int) < ((256 : Nat) : Int) := by have := x.toNat_lt; omega
theorem wrL_len {α : Type} {l : List α} {off : Nat} {vs : List α} (h : off + vs.length ≤ l.length) : (wrL l off vs).length = l.length := by simp [wrL]; omega
theorem lt8L {x : UInt8} {L : Nat} (h : 256 ≤ L) : x.toNat < L := by have := x.toNat_lt; omega
theorem lt8B {x : UInt8} {b L : Nat} (h : b + 256 ≤ L) : b + x.toNat < L := by have := x.toNat_lt; omega
theorem wrL_len' {α : Type} {l : List α} {off : Nat} {vs : List α} {n m : Nat} (hl : l.length = n) (hv : vs.length = m) (h : off + m ≤ n) : (wrL l off vs).length = n := by
  rw [wrL_len (by omega), hl]
theorem hsub1 {a : Nat × Obj} {S : HL} (h : a ∈ S) : ∀ p ∈ [a], p ∈ S := fun p hp => by simp at hp; subst hp; exact h
theorem hsub2 {a b : Nat × Obj} {S : HL} (h : a ∈ S) (h2 : b ∈ S) : ∀ p ∈ [a, b], p ∈ S := fun p hp => by
  simp at hp; rcases hp with rfl | rfl <;> assumption
theorem hsub3 {a b c : Nat × Obj} {S : HL} (h : a ∈ S) (h2 : b ∈ S) (h3 : c ∈ S) : ∀ p ∈ [a, b, c], p ∈ S := fun p hp => by
  simp at hp; rcases hp with rfl | rfl | rfl <;> assumption
theorem hsub0 {S : HL} : ∀ p ∈ ([] : HL), p ∈ S := fun p hp => by cases hp
theorem ix01 (k : Nat) : 0 + (k : Int).toNat * 1 = k := by simp
theorem ixb1 (b k : Nat) : b + (k : Int).toNat * 1 = b + k := by simp
theorem ix0m (k m : Nat) : 0 + (k : Int).toNat * m = k * m := by simp
theorem ixbm (b k m : Nat) : b + (k : Int).toNat * m = b + k * m := by simp
theorem fo0 (n : Nat) : 0 + n = n := Nat.zero_add n
theorem foB (b n : Nat) : b + n = b + n := rfl
theorem dropS {x : Nat × Obj} {H S : HL} (h : H.Sublist S) : H.Sublist (x :: S) := List.Sublist.cons _ h
theorem keepS {b : Nat} {o o' : Obj} {H S : HL} (he : o = o') (h : H.Sublist S) : ((b, o) :: H).Sublist ((b, o') :: S) := by subst he; exact List.Sublist.cons_cons _ h
end Go.Sl
