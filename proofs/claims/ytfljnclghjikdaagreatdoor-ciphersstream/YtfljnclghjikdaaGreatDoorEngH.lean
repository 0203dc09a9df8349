/- The engine, part H: append to a slice of one's own; copy. -/
import Derived.Test.YtfljnclghjikdaaGreatDoorEngG
set_option linter.unusedVariables false
set_option linter.unusedSimpArgs false
namespace Go.Sl

/-- A slice of one's own that begins at its block's head: its block, capacity, what lies behind. None: nil. -/
structure Buf where
  b : Nat
  cap : Nat
  rest : List Value
def bufV (o : Option Buf) (n : Nat) : Value := match o with | none => .slice none 0 0 | some u => sl u.b 0 n u.cap
def bufH (o : Option Buf) (xs : List Value) (T : TypeId) : HL := match o with | none => [] | some u => [(u.b, blk (xs ++ u.rest) T)]
def bufOk (o : Option Buf) (n sz : Nat) : Prop := match o with | none => n = 0 | some u => n * sz + u.rest.length = u.cap * sz ∧ n ≤ u.cap

inductive SegF : HL → HL → (HL → HL) → Prop
  | here {X S} : SegF (X ++ S) X (fun Y => Y ++ S)
  | there {x S X F} : SegF S X F → SegF (x :: S) X (fun Y => x :: F Y)
  | thereA {Z S X F} : SegF S X F → SegF (Z ++ S) X (fun Y => Z ++ F Y)
theorem SegF.spec {S X F} (h : SegF S X F) : ∃ R, S.Perm (X ++ R) ∧ ∀ Y, (F Y).Perm (Y ++ R) := by
  induction h with
  | @here X S => exact ⟨S, List.Perm.refl _, fun _ => List.Perm.refl _⟩
  | @there x S X F _ ih =>
    obtain ⟨R, h1, h2⟩ := ih
    refine ⟨x :: R, ?_, fun Y => ?_⟩
    · exact (h1.cons x).trans (List.perm_middle.symm)
    · exact ((h2 Y).cons x).trans (List.perm_middle.symm)
  | @thereA Z S X F _ ih =>
    obtain ⟨R, h1, h2⟩ := ih
    have key : ∀ (A B : HL) (W : HL), A.Perm (W ++ R) → (Z ++ A).Perm (W ++ (Z ++ R)) := fun A B W h => by
      refine (h.append_left Z).trans ?_
      rw [← List.append_assoc, ← List.append_assoc]
      exact (List.perm_append_comm).append_right R
    exact ⟨Z ++ R, key _ [] _ h1, fun Y => key _ [] _ (h2 Y)⟩

/-- What stands to be appended, or copied: m elements of sz cells each, ys. -/
def Src (P : Program) (S : HL) (x : Value) (m sz : Nat) (ys : List Value) : Prop :=
  ∀ w0 w, Sat w0 S w → (Builtin.lenOf x).run P w = .ok m w ∧ ∀ k, k ≤ m → (Builtin.firstCells sz k x).run P w = .ok ⟨ys.take (k * sz)⟩ w
theorem Src.sl {P : Program} {S : HL} {b off m c sz : Nat} {l ys : List Value} {T : TypeId} {fr : Nat × Nat} (hm : (b, Obj.cells ⟨l⟩ T fr) ∈ S) (hle : off + m * sz ≤ l.length) (hy : (l.drop off).take (m * sz) = ys) :
    Src P S (sl b off m c) m sz ys := by
  intro w0 w hs
  refine ⟨rfl, fun k hk => ?_⟩
  have hkm : k * sz ≤ m * sz := Nat.mul_le_mul_right _ hk
  have := run_loadCellsFrom (P := P) (w := w) (b := b) (c := ⟨l⟩) (fun off => hs.cell hm off) (k * sz) 0 off #[] (by simp; omega)
  subst hy
  simp only [Builtin.firstCells, loadCells, this]
  simp [List.take_take, Nat.min_eq_left hkm]
theorem Src.one {P : Program} {S : HL} {b c : Nat} {v : Value} {T : TypeId} {fr : Nat × Nat} (hm : (b, Obj.cells ⟨[v]⟩ T fr) ∈ S) : Src P S (Go.Sl.sl b 0 1 c) 1 1 [v] := Src.sl (off := 0) (l := [v]) hm (by simp) (by simp)
theorem keepA {X Y H S : HL} (he : X = Y) (h : H.Sublist S) : (X ++ H).Sublist (Y ++ S) := by subst he; exact List.Sublist.append_left h X
theorem bufH_congr {o : Option Buf} {xs ys : List Value} {T : TypeId} (h : xs = ys) : bufH o xs T = bufH o ys T := by rw [h]
theorem Src.nil {P : Program} {S : HL} {a : Option Addr} {c sz : Nat} : Src P S (.slice a 0 c) 0 sz [] := by
  intro w0 w hs
  refine ⟨rfl, fun k hk => ?_⟩
  have : k = 0 := by omega
  subst this
  cases a <;> simp [Builtin.firstCells, loadCells, loadCellsFrom]
theorem Src.str {P : Program} {S : HL} {s : ByteArray} : Src P S (.string s) s.size 1 (s.data.toList.map u8) := by
  intro w0 w hs
  refine ⟨rfl, fun k hk => ?_⟩
  simp only [Builtin.firstCells]
  have e : ((s.extract 0 k).data.map fun b => Value.int .u8 (b.toNat : Int)) = ⟨(s.data.toList.map u8).take k⟩ := by
    apply Array.ext'
    simp [List.map_take]
  simp only [Sem.run_pure, Nat.mul_one, e]

theorem nextcap_le (need cap : Nat) (h : cap < need) : Builtin.nextslicecap need cap ≤ 2 * need + 192 := by
  have step : ∀ r c, c < 2 * need + 192 → c < need ∨ c ≤ 2 * need + 192 → Builtin.growBy need r c ≤ 2 * need + 192 := by
    intro r
    induction r with
    | zero => intro c h1 _; simp only [Builtin.growBy]; omega
    | succ r ih =>
      intro c h1 h2
      simp only [Builtin.growBy]
      split
      · omega
      · rename_i hc
        by_cases hh : c + (c + 768) / 4 < 2 * need + 192
        · exact ih _ hh (.inr (by omega))
        · omega
  unfold Builtin.nextslicecap
  split
  · omega
  · split
    · omega
    · exact step 4 cap (by omega) (.inl h)

theorem wrL_tail (xs rest ys : List Value) : wrL (xs ++ rest) xs.length ys = xs ++ ys ++ rest.drop ys.length := by
  simp [wrL, List.drop_append]

variable {P : Program} {n : Nat} {σ : Env} {S : HL} {K : Env → HL → Prop} {d : Nat} {dst : Option Nat} {ty : TypeId} {pos : String} {aft : Array Edge} {g : Option (Nat × Bool)}


theorem run_append_grow {t t2 e sz k m cap : Nat} {info : TypeInfo} {z yv : Value} {D2 : TypeDesc} {base : Option Addr} {xs ys : List Value} {w : World}
    (ht : UT P t (.slice e)) (ht2 : UT P t2 D2) (hD : (∃ e2, D2 = .slice e2) ∨ D2 = .string) (hi : TI P e info) (hn : SZ P e sz) (hz : ZV P e z)
    (hl : (Builtin.lenOf yv).run P w = .ok m w) (hf : ∀ w' : World, w'.heap = w.heap → (Builtin.firstCells sz m yv).run P w' = .ok ⟨ys⟩ w')
    (hold : ∀ w' : World, w'.heap = w.heap → (Builtin.firstCells sz k (.slice base k cap)).run P w' = .ok ⟨xs⟩ w')
    (hlt : cap < k + m) (hb0 : info.bytes ≠ 0) (hb : (2 * (k + m) + 192) * info.bytes ≤ 281474976710656) :
    ∃ c, k + m ≤ c ∧ (Builtin.append_ #[t, t2] ty #[.slice base k cap, yv]).run P w =
      .ok (sl w.heap.size 0 (k + m) c) { w with drawn := w.drawn + 1, heap := w.heap.push (blk (xs ++ ys ++ (Builtin.zeroCells z.cells (c - (k + m))).toList) e) } := by
  refine ⟨(Question.appendCap (k + m) cap e).cut (w.tape w.drawn (Question.appendCap (k + m) cap e)), ?_, ?_⟩
  · show k + m ≤ (k + m) + _
    omega
  have hnc : ¬ (k + m ≤ cap) := by omega
  have hcap : ¬ (281474976710656 < Builtin.nextslicecap (k + m) cap * info.bytes) := by
    have h1 := Nat.mul_le_mul_right info.bytes (nextcap_le _ _ hlt)
    omega
  have hnf : (Question.appendCap (k + m) cap e).forced = false := rfl
  unfold Builtin.append_
  rcases hD with ⟨e2, rfl⟩ | rfl
  all_goals
    simp [ht w, hn w, ht2 w, hl, hnc, hi w, hcap, hb0, hnf]
    generalize (Question.appendCap (k + m) cap e).cut (w.tape w.drawn (Question.appendCap (k + m) cap e)) = c
    rw [hi w.drew, Result.andThen_ok, hold w.drew rfl, Result.andThen_ok, hf w.drew rfl, Result.andThen_ok, hz w.drew, Result.andThen_ok]
    have e9 : (⟨xs⟩ ++ (⟨ys⟩ ++ Builtin.zeroCells z.cells (c - (k + m))) : Array Value) = ⟨xs ++ (ys ++ (Builtin.zeroCells z.cells (c - (k + m))).toList)⟩ := by
      apply Array.ext'
      simp
    simp only [newRow, Sem.run_bind, run_newObj, Result.andThen_ok, Sem.run_pure, e9]
    rfl

theorem run_append_fits {t t2 e sz k m cap b : Nat} {yv : Value} {D2 : TypeDesc} {ys l : List Value} {S S' : HL} {w0 w : World}
    (ht : UT P t (.slice e)) (ht2 : UT P t2 D2) (hD : (∃ e2, D2 = .slice e2) ∨ D2 = .string) (hn : SZ P e sz) (hs : Sat w0 S w)
    (hl : (Builtin.lenOf yv).run P w = .ok m w) (hf : (Builtin.firstCells sz m yv).run P w = .ok ⟨ys⟩ w) (hyl : ys.length = m * sz)
    (hle : k + m ≤ cap) (hu : Upd S b (blk l e) (blk (wrL l (k * sz) ys) e) S') (hll : k * sz + m * sz ≤ l.length) (h1 : ys.all oneB = true) :
    ∃ w', (Builtin.append_ #[t, t2] ty #[sl b 0 k cap, yv]).run P w = .ok (sl b 0 (k + m) cap) w' ∧ Sat w0 S' w' := by
  obtain ⟨w', hr, hs'⟩ := run_storeCells (P := P) (w0 := w0) (b := b) (T := e) ys (k * sz) 0 l S S' w hs (by simpa using hu) (by simp; omega) h1
  refine ⟨w', ?_, hs'⟩
  unfold Builtin.append_
  rcases hD with ⟨e2, rfl⟩ | rfl
  all_goals simp [ht w, hn w, ht2 w, hl, hle, hf, Addr.add_none, hr]
theorem run_append_none {t t2 e sz : Nat} {yv : Value} {D2 : TypeDesc} {w : World}
    (ht : UT P t (.slice e)) (ht2 : UT P t2 D2) (hD : (∃ e2, D2 = .slice e2) ∨ D2 = .string) (hn : SZ P e sz)
    (hl : (Builtin.lenOf yv).run P w = .ok 0 w) (hf : (Builtin.firstCells sz 0 yv).run P w = .ok ⟨[]⟩ w) :
    (Builtin.append_ #[t, t2] ty #[.slice none 0 0, yv]).run P w = .ok (.slice none 0 0) w := by
  unfold Builtin.append_
  rcases hD with ⟨e2, rfl⟩ | rfl
  all_goals simp [ht w, hn w, ht2 w, hl, hf]

theorem OW.append {x y : Operand} {t t2 e sz k m : Nat} {info : TypeInfo} {z yv : Value} {D2 : TypeDesc} {o : Option Buf} {xs ys : List Value} {F : HL → HL}
    (ht : UT P t (.slice e)) (ht2 : UT P t2 D2) (hD : (∃ e2, D2 = .slice e2) ∨ D2 = .string) (hi : TI P e info) (hn : SZ P e sz) (hz : ZV P e z) (hzc : z.cells.size = sz)
    (hx : ev σ x = some (bufV o k)) (hseg : SegF S (bufH o xs e) F) (hlen : xs.length = k * sz) (hok : bufOk o k sz)
    (hy : ev σ y = some yv) (hsrc : Src P S yv m sz ys) (hyl : ys.length = m * sz) (h1 : ys.all oneB = true)
    (hb0 : info.bytes ≠ 0) (hb : (2 * (k + m) + 192) * info.bytes ≤ 281474976710656)
    (hk : ∀ o', bufOk o' (k + m) sz → K ((d, bufV o' (k + m)) :: σ) (F (bufH o' (xs ++ ys) e))) :
    OW P n ⟨some d, .call { callee := .builtin .append, args := #[x, y], argTypes := #[t, t2] }, ty, pos, aft, g⟩ σ S K :=
  OW.run_ rfl fun w0 ρ w hρ hs => by
    obtain ⟨R, hp1, hp2⟩ := hseg.spec
    have hs1 := hs.perm hp1.symm
    obtain ⟨hl, hf⟩ := hsrc w0 w hs
    have hfm : ∀ w' : World, w'.heap = w.heap → (Builtin.firstCells sz m yv).run P w' = .ok ⟨ys⟩ w' := by
      intro w' hw'
      have hs2 : Sat w' S w' := ⟨hs.nd, fun p hp => by rw [hw']; exact hs.get p hp, rfl, rfl, rfl, Nat.le_refl _⟩
      have := (hsrc w' w' hs2).2 m (Nat.le_refl _)
      rwa [← hyl, List.take_length] at this
    suffices h : ∃ v w' o', (Builtin.append_ #[t, t2] ty #[bufV o k, yv]).run P w = .ok v w' ∧ bufOk o' (k + m) sz ∧ v = bufV o' (k + m) ∧ Sat w0 (bufH o' (xs ++ ys) e ++ R) w' by
      obtain ⟨v, w', o', hr, hok', rfl, hs'⟩ := h
      refine ⟨_, w', F (bufH o' (xs ++ ys) e), ?_, hs'.perm (hp2 _), hk o' hok'⟩
      simp only [execOp, resolve, invoke, builtin]
      simp [hρ x _ hx, hρ y _ hy, hr]
    have grow : ∀ (cap : Nat) (base : Option Addr), cap < k + m → (∀ w' : World, w'.heap = w.heap → (Builtin.firstCells sz k (.slice base k cap)).run P w' = .ok ⟨xs⟩ w') →
        Sat w0 R w → ∃ v w' o', (Builtin.append_ #[t, t2] ty #[.slice base k cap, yv]).run P w = .ok v w' ∧ bufOk o' (k + m) sz ∧ v = bufV o' (k + m) ∧ Sat w0 (bufH o' (xs ++ ys) e ++ R) w' := by
      intro cap base hlt hold hsR
      obtain ⟨c, hc, hr⟩ := run_append_grow (P := P) (ty := ty) (base := base) (cap := cap) ht ht2 hD hi hn hz hl hfm hold hlt hb0 hb
      refine ⟨_, _, some ⟨w.heap.size, c, (Builtin.zeroCells z.cells (c - (k + m))).toList⟩, hr, ⟨?_, hc⟩, rfl, ?_⟩
      · have hrl : (Builtin.zeroCells z.cells (c - (k + m))).toList.length = (c - (k + m)) * sz := by simp [Builtin.zeroCells, hzc]
        simp only [hrl]
        rw [← Nat.add_mul, Nat.add_sub_cancel' hc]
      · exact (hsR.drawn (w.drawn + 1)).alloc (blk (xs ++ ys ++ (Builtin.zeroCells z.cells (c - (k + m))).toList) e)
    cases o with
    | none =>
      have hk0 : k = 0 := hok
      subst hk0
      have hxs : xs = [] := by simpa using hlen
      subst hxs
      by_cases hm : m = 0
      · subst hm
        have hys : ys = [] := by simpa using hyl
        subst hys
        exact ⟨_, w, none, run_append_none ht ht2 hD hn hl (hfm w rfl), rfl, rfl, hs1⟩
      · refine grow 0 none (by omega) ?_ hs1
        intro w' _
        simp [Builtin.firstCells]
    | some u =>
      obtain ⟨hcap, hkc⟩ := hok
      simp only [bufH, List.singleton_append] at hs1
      by_cases hfit : k + m ≤ u.cap
      · have hmul : (k + m) * sz ≤ u.cap * sz := Nat.mul_le_mul_right _ hfit
        rw [Nat.add_mul] at hmul
        obtain ⟨w', hr, hs'⟩ := run_append_fits (P := P) (ty := ty) (cap := u.cap) ht ht2 hD hn hs1 hl (hfm w rfl) hyl hfit Upd.head (by simp [hlen]; omega) h1
        refine ⟨_, w', some ⟨u.b, u.cap, u.rest.drop ys.length⟩, hr, ⟨?_, hfit⟩, rfl, ?_⟩
        · simp [hyl, Nat.add_mul]; omega
        · rw [← hlen, wrL_tail] at hs'
          exact hs'
      · refine grow u.cap (some ⟨u.b, 0, none⟩) (by omega) ?_ (hs1.weak (List.sublist_cons_self _ _))
        intro w' hw'
        have hs2 : Sat w' ((u.b, blk (xs ++ u.rest) e) :: R) w' := ⟨hs1.nd, fun p hp => by rw [hw']; exact hs1.get p hp, rfl, rfl, rfl, Nat.le_refl _⟩
        have := ((Src.sl (P := P) (S := (u.b, blk (xs ++ u.rest) e) :: R) (b := u.b) (off := 0) (m := k) (c := u.cap) (sz := sz) (l := xs ++ u.rest) (ys := xs) List.mem_cons_self (by simp [hlen]) (by simp [← hlen])) w' w' hs2).2 k (Nat.le_refl _)
        rwa [← hlen, List.take_length] at this

theorem OW.copy {x y : Operand} {t t2 e sz m n1 cap b off : Nat} {yv : Value} {ys l l' : List Value} {S' : HL} {e' : TypeId}
    (ht : UT P t (.slice e)) (hn : SZ P e sz) (hx : ev σ x = some (sl b off n1 cap)) (hm : (b, blk l e') ∈ S)
    (hy : ev σ y = some yv) (hsrc : Src P S yv m sz ys) (hyl : ys.length = m * sz) (h1 : ys.all oneB = true)
    (hle : off + n1 * sz ≤ l.length) (hl' : wrL l off (ys.take (min m n1 * sz)) = l') (hu : Upd S b (blk l e') (blk l' e') S')
    (hk : K ((d, nI (min m n1)) :: σ) S') :
    OW P n ⟨some d, .call { callee := .builtin .copy, args := #[x, y], argTypes := #[t, t2] }, ty, pos, aft, g⟩ σ S K :=
  OW.run_ rfl fun w0 ρ w hρ hs => by
    subst hl'
    obtain ⟨hl, hf⟩ := hsrc w0 w hs
    have hmn : min m n1 * sz ≤ m * sz := Nat.mul_le_mul_right _ (Nat.min_le_left _ _)
    have hmn2 : min m n1 * sz ≤ n1 * sz := Nat.mul_le_mul_right _ (Nat.min_le_right _ _)
    have hlen : (ys.take (min m n1 * sz)).length = min m n1 * sz := by simp [hyl]; try omega
    obtain ⟨w', hr, hs'⟩ := run_storeCells (P := P) (w0 := w0) (b := b) (T := e') (ys.take (min m n1 * sz)) off 0 l S S' w hs (by simpa using hu) (by simp only [hlen]; omega)
      (by simp only [List.all_eq_true] at h1 ⊢; exact fun v hv => h1 v (List.mem_of_mem_take hv))
    refine ⟨_, w', S', ?_, hs', hk⟩
    have hcopy : (Builtin.copy_ #[t, t2] ty #[sl b off n1 cap, yv]).run P w = .ok (nI (min m n1)) w' := by
      unfold Builtin.copy_
      simp [ht w, hl, hn w, hf _ (Nat.min_le_left m n1), hr, goInt]
    simp only [execOp, resolve, invoke, builtin]
    simp [hρ x _ hx, hρ y _ hy, hcopy]
end Go.Sl
