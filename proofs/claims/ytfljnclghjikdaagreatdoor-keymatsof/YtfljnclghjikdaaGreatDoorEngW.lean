/- A part of a proof: EngW. -/
import Derived.Test.YtfljnclghjikdaaGreatDoorEngV
/- The engine, part W: byte lists with a block of their own, anywhere in it (offset, capacity short of the block). -/
set_option linter.unusedVariables false
set_option linter.unusedSimpArgs false
namespace Go.Sl
variable {P : Program} {n : Nat} {σ : Env} {S : HL} {K : Env → HL → Prop} {d : Nat} {dst : Option Nat} {ty : TypeId} {pos : String} {aft : Array Edge} {g : Option (Nat × Bool)}
structure Own where
  b : Nat
  pre : List Value
  cap : Nat
  rest : List Value
  T : TypeId
structure BL where
  o : Option Own
  xs : List UInt8
def BL.v (l : BL) : Value := match l.o with | none => .slice none 0 0 | some u => sl u.b u.pre.length l.xs.length u.cap
def BL.h (l : BL) : HL := match l.o with | none => [] | some u => [(u.b, blk (u.pre ++ (l.xs.map u8 ++ u.rest)) u.T)]
def BL.ok (l : BL) : Prop := match l.o with | none => l.xs = [] | some u => l.xs.length ≤ u.cap ∧ u.cap ≤ l.xs.length + u.rest.length
/-- The same place. -/
def sameO (l w : BL) : Prop := match l.o, w.o with | none, none => True | some u, some u' => u.b = u'.b ∧ u.pre = u'.pre ∧ u.cap = u'.cap | _, _ => False
theorem sameO.refl (l : BL) : sameO l l := by
  rcases l with ⟨_ | u, xs⟩
  · trivial
  · exact ⟨rfl, rfl, rfl⟩
theorem sameO.trans {a b c : BL} (h1 : sameO a b) (h2 : sameO b c) : sameO a c := by
  rcases a with ⟨_ | u, xs⟩ <;> rcases b with ⟨_ | u2, xs2⟩ <;> rcases c with ⟨_ | u3, xs3⟩ <;> simp_all [sameO]
theorem BL.ok.some {l : BL} (h : l.ok) (h0 : 0 < l.xs.length) : ∃ u xs, l = ⟨some u, xs⟩ := by
  rcases l with ⟨_ | u, xs⟩
  · have : xs = [] := h
    subst this
    exact absurd h0 (by simp)
  · exact ⟨u, xs, rfl⟩
theorem QW.len_bl {x : Operand} {t e : Nat} {l : BL} (hok : l.ok) (ht : UT P t (.slice e)) (hx : ev σ x = some l.v) :
    QW P S ⟨dst, .call { callee := .builtin .len, args := #[x], argTypes := #[t] }, ty, pos, aft, g⟩ σ (nI l.xs.length) := by
  rcases l with ⟨_ | u, xs⟩
  · have : xs = [] := hok
    subst this
    exact QW.len_s ht hx
  · exact QW.len_s ht hx
theorem BL.oneB (l : BL) : oneB l.v = true := by rcases l with ⟨_ | u, xs⟩ <;> rfl
theorem BL.isSl {l : BL} (h : l.ok) : ∃ a c, l.v = .slice a l.xs.length c := by
  rcases l with ⟨_ | u, xs⟩
  · have : xs = [] := h
    subst this
    exact ⟨_, _, rfl⟩
  · exact ⟨_, _, rfl⟩
/-- A list is read where its block lies, also when it has grown in place. -/
theorem sameO.rd {l w : BL} {r : List UInt8} (h : sameO l w) (hok : l.ok) (hw : w.xs = l.xs ++ r) (hm : ∀ p ∈ w.h, p ∈ S) : RdB S l.v l.xs := by
  rcases l with ⟨_ | u, xs⟩ <;> rcases w with ⟨_ | u2, xs2⟩
  · have : xs = [] := hok
    subst this
    exact .inl ⟨rfl, _, _, rfl⟩
  · exact absurd h (by simp [sameO])
  · exact absurd h (by simp [sameO])
  · obtain ⟨e1, e2, e3⟩ : u.b = u2.b ∧ u.pre = u2.pre ∧ u.cap = u2.cap := h
    have hw : xs2 = xs ++ r := hw
    subst hw
    have hmem : (u.b, blk (u.pre ++ ((xs ++ r).map u8 ++ u2.rest)) u2.T) ∈ S := by rw [e1, e2]; exact hm _ (List.mem_singleton_self _)
    by_cases h0 : xs = []
    · subst h0; exact .inl ⟨rfl, _, _, rfl⟩
    · refine .inr ⟨h0, u.b, u.pre.length, u.cap, _, _, _, rfl, hmem, fun k hk => ?_⟩
      rw [List.getElem?_append_right (by omega), Nat.add_sub_cancel_left, List.map_append, List.append_assoc, List.getElem?_append_left (by simpa using hk)]
      exact m_get 0 hk
theorem BL.rd {l : BL} (hok : l.ok) (hm : ∀ p ∈ l.h, p ∈ S) : RdB S l.v l.xs := (sameO.refl l).rd (r := []) hok (by simp) hm
theorem run_append_fitsO {t t2 e sz k m cap b off : Nat} {yv : Value} {D2 : TypeDesc} {ys l : List Value} {S S' : HL} {w0 w : World} {T : TypeId}
    (ht : UT P t (.slice e)) (ht2 : UT P t2 D2) (hD : (∃ e2, D2 = .slice e2) ∨ D2 = .string) (hn : SZ P e sz) (hs : Sat w0 S w)
    (hl : (Builtin.lenOf yv).run P w = .ok m w) (hf : (Builtin.firstCells sz m yv).run P w = .ok ⟨ys⟩ w) (hyl : ys.length = m * sz)
    (hle : k + m ≤ cap) (hu : Upd S b (blk l T) (blk (wrL l (off + k * sz) ys) T) S') (hll : off + k * sz + m * sz ≤ l.length) (h1 : ys.all Go.Sl.oneB = true) :
    ∃ w', (Builtin.append_ #[t, t2] ty #[sl b off k cap, yv]).run P w = .ok (sl b off (k + m) cap) w' ∧ Sat w0 S' w' := by
  obtain ⟨w', hr, hs'⟩ := run_storeCells (P := P) (w0 := w0) (b := b) (T := T) ys (off + k * sz) 0 l S S' w hs (by simpa using hu) (by simp; omega) h1
  refine ⟨w', ?_, hs'⟩
  unfold Builtin.append_
  rcases hD with ⟨e2, rfl⟩ | rfl
  all_goals simp [ht w, hn w, ht2 w, hl, hf, hle, Addr.add_none, hr]

theorem OW.appendL {x y : Operand} {t t2 e : Nat} {info : TypeInfo} {yv : Value} {D2 : TypeDesc} {L : BL} {ch : UInt8} {F : HL → HL}
    (ht : UT P t (.slice e)) (ht2 : UT P t2 D2) (hD : (∃ e2, D2 = .slice e2) ∨ D2 = .string) (hi : TI P e info) (hn : SZ P e 1) (hz : ZV P e (u8 0)) (hb1 : info.bytes = 1)
    (hx : ev σ x = some L.v) (hseg : SegF S L.h F) (hok : L.ok) (hy : ev σ y = some yv) (hsrc : Src P S yv 1 1 [u8 ch]) (hb : L.xs.length ≤ 1000000000)
    (hk : ∀ w Z, w.ok → w.xs = L.xs ++ [ch] → ((Z = [] ∧ sameO L w) ∨ Z = L.h) → K ((d, w.v) :: σ) (F (w.h ++ Z))) :
    OW P n ⟨some d, .call { callee := .builtin .append, args := #[x, y], argTypes := #[t, t2] }, ty, pos, aft, g⟩ σ S K :=
  OW.run_ rfl fun w0 ρ w hρ hs => by
    obtain ⟨R, hp1, hp2⟩ := hseg.spec
    have hs1 := hs.perm hp1.symm
    obtain ⟨hl, hf⟩ := hsrc w0 w hs
    have hfm : ∀ w' : World, w'.heap = w.heap → (Builtin.firstCells 1 1 yv).run P w' = .ok ⟨[u8 ch]⟩ w' := by
      intro w' hw'
      have hs2 : Sat w' S w' := ⟨hs.nd, fun p hp => by rw [hw']; exact hs.get p hp, rfl, rfl, rfl, Nat.le_refl _⟩
      exact (hsrc w' w' hs2).2 1 (Nat.le_refl _)
    suffices h : ∃ v w' S', (Builtin.append_ #[t, t2] ty #[L.v, yv]).run P w = .ok v w' ∧ Sat w0 S' w' ∧ K ((d, v) :: σ) S' by
      obtain ⟨v, w', S', hr, hs', hk⟩ := h
      refine ⟨_, w', S', ?_, hs', hk⟩
      simp only [execOp, resolve, invoke, builtin]
      simp [hρ x _ hx, hρ y _ hy, hr]
    have grow : ∀ (cap : Nat) (base : Option Addr), L.v = .slice base L.xs.length cap → cap < L.xs.length + 1 → (∀ w' : World, w'.heap = w.heap → (Builtin.firstCells 1 L.xs.length (.slice base L.xs.length cap)).run P w' = .ok ⟨L.xs.map u8⟩ w') →
        ∃ v w' S', (Builtin.append_ #[t, t2] ty #[L.v, yv]).run P w = .ok v w' ∧ Sat w0 S' w' ∧ K ((d, v) :: σ) S' := by
      intro cap base hv hlt hold
      obtain ⟨c, hc, hr⟩ := run_append_grow (P := P) (ty := ty) (base := base) (cap := cap) ht ht2 hD hi hn hz hl hfm hold hlt (by omega) (by rw [hb1]; omega)
      rw [← hv] at hr
      refine ⟨_, _, F ([(w.heap.size, blk (L.xs.map u8 ++ [u8 ch] ++ (Builtin.zeroCells (u8 0).cells (c - (L.xs.length + 1))).toList) e)] ++ L.h), hr, ((hs1.drawn (w.drawn + 1)).alloc (blk (L.xs.map u8 ++ [u8 ch] ++ (Builtin.zeroCells (u8 0).cells (c - (L.xs.length + 1))).toList) e)).perm ?_, ?_⟩
      · exact (hp2 _).trans (List.Perm.of_eq (by simp))
      · have := hk ⟨some ⟨w.heap.size, [], c, (Builtin.zeroCells (u8 0).cells (c - (L.xs.length + 1))).toList, e⟩, L.xs ++ [ch]⟩ L.h ⟨?_, ?_⟩ rfl (.inr rfl)
        · simpa [BL.v, BL.h] using this
        · simp; omega
        · simp [Builtin.zeroCells, Value.cells]; omega
    rcases L with ⟨_ | u, xs⟩
    · have hxs : xs = [] := hok
      subst hxs
      refine grow 0 none rfl (by simp) ?_
      intro w' _
      simp [Builtin.firstCells]
    · obtain ⟨h1, h2⟩ : xs.length ≤ u.cap ∧ u.cap ≤ xs.length + u.rest.length := hok
      simp only [BL.h, List.singleton_append] at hs1
      by_cases hfit : xs.length + 1 ≤ u.cap
      · obtain ⟨c0, r0, hr0⟩ : ∃ c0 r0, u.rest = c0 :: r0 := by
          cases hu : u.rest with
          | nil => rw [hu] at h2; simp at h2; omega
          | cons a b => exact ⟨a, b, rfl⟩
        have e1 : wrL (u.pre ++ (xs.map u8 ++ u.rest)) (u.pre.length + xs.length * 1) [u8 ch] = u.pre ++ ((xs ++ [ch]).map u8 ++ r0) := by
          have := wrL_tail (u.pre ++ xs.map u8) u.rest [u8 ch]
          rw [hr0] at this ⊢
          simpa using this
        obtain ⟨w', hr, hs'⟩ := run_append_fitsO (P := P) (ty := ty) (cap := u.cap) (off := u.pre.length) (k := xs.length) (T := u.T) ht ht2 hD hn hs1 hl (hfm w rfl) rfl hfit Upd.head (by simp [hr0]; omega) rfl
        rw [e1] at hs'
        refine ⟨_, w', F ([(u.b, blk (u.pre ++ ((xs ++ [ch]).map u8 ++ r0)) u.T)] ++ []), hr, hs'.perm ((hp2 _).trans (List.Perm.of_eq (by simp))), ?_⟩
        have := hk ⟨some ⟨u.b, u.pre, u.cap, r0, u.T⟩, xs ++ [ch]⟩ [] ⟨?_, ?_⟩ rfl (.inl ⟨rfl, rfl, rfl, rfl⟩)
        · simpa [BL.v, BL.h] using this
        · simpa using hfit
        · rw [hr0] at h2; simp at h2 ⊢; omega
      · refine grow u.cap (some ⟨u.b, u.pre.length, none⟩) rfl (by simp only; omega) ?_
        intro w' hw'
        have hs2 : Sat w' ((u.b, blk (u.pre ++ (xs.map u8 ++ u.rest)) u.T) :: R) w' := ⟨hs1.nd, fun p hp => by rw [hw']; exact hs1.get p hp, rfl, rfl, rfl, Nat.le_refl _⟩
        have := ((Src.sl (P := P) (S := (u.b, blk (u.pre ++ (xs.map u8 ++ u.rest)) u.T) :: R) (b := u.b) (off := u.pre.length) (m := xs.length) (c := u.cap) (sz := 1) (l := u.pre ++ (xs.map u8 ++ u.rest)) (ys := xs.map u8) List.mem_cons_self (by simp) (by simp)) w' w' hs2).2 xs.length (Nat.le_refl _)
        rwa [Nat.mul_one, show xs.length = (xs.map u8).length from by simp, List.take_length, List.length_map] at this
theorem Upd.bl {u : Own} {xs ys : List UInt8} {R : HL} : Upd (BL.h ⟨some u, xs⟩ ++ R) u.b (blk (u.pre ++ (xs.map u8 ++ u.rest)) u.T) (blk (u.pre ++ (ys.map u8 ++ u.rest)) u.T) (BL.h ⟨some u, ys⟩ ++ R) := Upd.head
theorem OW.storeBL {x y : Operand} {t : TypeId} {u : Own} {xs ys : List UInt8} {k : Nat} {c : UInt8} {S' : HL} (hx : ev σ x = some (ptr u.b (u.pre.length + k))) (hy : ev σ y = some (u8 c)) (hn : SZ P t 1)
    (hu : Upd S u.b (blk (u.pre ++ (xs.map u8 ++ u.rest)) u.T) (blk (u.pre ++ (ys.map u8 ++ u.rest)) u.T) S') (hk : k < xs.length) (hl : xs.set k c = ys) (hK : K σ S') : OW P n ⟨none, .store t x y, ty, pos, aft, g⟩ σ S K :=
  OW.store1 hx hy hn rfl hu.mem (by simp; omega) (by
    rw [List.set_append_right _ _ (by omega), Nat.add_sub_cancel_left, List.set_append_left _ _ (by simpa using hk), ← hl, List.map_set]) hu hK

/-! ### many lists -/
def lh (ls : List BL) : HL := ls.flatMap BL.h
theorem lh_nil : lh [] = [] := rfl
theorem lh_cons (l : BL) (ls : List BL) : lh (l :: ls) = l.h ++ lh ls := by simp [lh]
theorem lh_append (a b : List BL) : lh (a ++ b) = lh a ++ lh b := by simp [lh]
def mkB (i : Nat) : UInt8 := UInt8.ofNat (i + 1)
def BL.fill (i : Nat) (l : BL) : BL := ⟨l.o, List.replicate l.xs.length (mkB i)⟩
theorem BL.fill_v (i : Nat) (l : BL) : (l.fill i).v = l.v := by rcases l with ⟨_ | u, xs⟩ <;> simp [BL.fill, BL.v]
theorem BL.fill_ok {i : Nat} {l : BL} (h : l.ok) : (l.fill i).ok := by
  rcases l with ⟨_ | u, xs⟩
  · have : xs = [] := h
    subst this; rfl
  · simpa [BL.fill, BL.ok] using h
def fl : Nat → List BL → List BL
  | _, [] => []
  | i, l :: ls => l.fill i :: fl (i + 1) ls
theorem fl_len (i : Nat) (ls : List BL) : (fl i ls).length = ls.length := by
  induction ls generalizing i with
  | nil => rfl
  | cons l ls ih => simp [fl, ih]
theorem fl_snoc (i : Nat) (ls : List BL) (l : BL) : fl i (ls ++ [l]) = fl i ls ++ [l.fill (i + ls.length)] := by
  induction ls generalizing i with
  | nil => simp [fl]
  | cons a ls ih => simp [fl, ih]; congr 1; omega
abbrev NILS : Value := .slice none 0 0
def ents : Nat → List (Value × Value) → List Value
  | _, [] => []
  | i, p :: ps => p.1 :: p.2 :: nI (i + 1) :: ents (i + 1) ps
theorem ents_len (i : Nat) (ps : List (Value × Value)) : (ents i ps).length = ps.length * 3 := by
  induction ps generalizing i with
  | nil => rfl
  | cons p ps ih => simp [ents, ih]; omega
theorem ents_append (i : Nat) (a b : List (Value × Value)) : ents i (a ++ b) = ents i a ++ ents (i + a.length) b := by
  induction a generalizing i with
  | nil => simp [ents]
  | cons p a ih => simp [ents, ih]; congr 1; omega
theorem ents_get {a b : List (Value × Value)} {p : Value × Value} {r : List Value} : ((ents 0 (a ++ p :: b) ++ r).drop (a.length * 3)).take 3 = [p.1, p.2, nI (a.length + 1)] := by
  rw [ents_append, List.append_assoc, List.drop_append_of_le_length (by rw [ents_len]; omega), List.drop_of_length_le (by rw [ents_len]; omega)]
  simp [ents]
theorem ents_le {a b : List (Value × Value)} {p : Value × Value} {r : List Value} : a.length * 3 + 3 ≤ (ents 0 (a ++ p :: b) ++ r).length := by
  rw [List.length_append, ents_len]; simp; omega
theorem ents_set {a b : List (Value × Value)} {p : Value × Value} {q : Value} {r : List Value} : (ents 0 (a ++ p :: b) ++ r).set (a.length * 3 + 1) q = ents 0 (a ++ (p.1, q) :: b) ++ r := by
  rw [ents_append, ents_append, List.append_assoc, List.append_assoc, List.set_append_right _ _ (by rw [ents_len]; omega), ents_len, show a.length * 3 + 1 - a.length * 3 = 1 by omega]
  simp [ents]
/-- A pair as it stands when the long list is grown: both read the mark. -/
def Gr (S : HL) (i : Nat) (p : Value × Value) : Prop :=
  ∃ n a c d e, p = (.slice a n c, .slice d (n + 40) e) ∧ n ≤ 1000000 ∧ RdB S p.1 (List.replicate n (mkB i)) ∧ RdB S p.2 (List.replicate (n + 40) (mkB i))
theorem Gr.mono {S T : HL} {i : Nat} {p : Value × Value} (h : Gr S i p) (hs : ∀ q ∈ S, q ∈ T) : Gr T i p := by
  obtain ⟨n, a, c, d, e, h1, h2, h3, h4⟩ := h
  exact ⟨n, a, c, d, e, h1, h2, h3.mono hs, h4.mono hs⟩
def AllGr (S : HL) (ps : List (Value × Value)) : Prop := ∀ i p, ps[i]? = some p → Gr S i p
theorem AllGr.nil {S : HL} : AllGr S [] := fun i p h => by simp at h
theorem AllGr.mono {S T : HL} {ps : List (Value × Value)} (h : AllGr S ps) (hs : ∀ q ∈ S, q ∈ T) : AllGr T ps := fun i p hp => (h i p hp).mono hs
theorem AllGr.snoc {S : HL} {ps : List (Value × Value)} {p : Value × Value} (h : AllGr S ps) (hp : Gr S ps.length p) : AllGr S (ps ++ [p]) := by
  intro i q hq
  rcases Nat.lt_trichotomy i ps.length with hi | hi | hi
  · rw [List.getElem?_append_left hi] at hq; exact h i q hq
  · subst hi
    rw [List.getElem?_append_right (Nat.le_refl _), Nat.sub_self] at hq
    simp at hq; subst hq; exact hp
  · rw [List.getElem?_eq_none (by simp; omega)] at hq; cases hq
theorem list_cons {α : Type} {l : List α} (h : 0 < l.length) : ∃ a b, l = a :: b := by
  cases l with
  | nil => simp at h
  | cons a b => exact ⟨a, b, rfl⟩
theorem list_cut {α : Type} {l : List α} {i : Nat} (h : i < l.length) : ∃ a p b, l = a ++ p :: b ∧ a.length = i ∧ l[i]? = some p :=
  ⟨l.take i, l[i], l.drop (i + 1), by rw [← List.drop_eq_getElem_cons h, List.take_append_drop], by simp; omega, List.getElem?_eq_getElem h⟩
end Go.Sl
