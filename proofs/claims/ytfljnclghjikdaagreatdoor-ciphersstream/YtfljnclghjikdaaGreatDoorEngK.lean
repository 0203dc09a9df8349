/- The engine, part K: append to a list whose old block stays; == on arrays of bytes; the whole memory as blocks. -/
import Derived.Test.YtfljnclghjikdaaGreatDoorEngJ
import Derived.ChangeKeysEq
set_option linter.unusedVariables false
set_option linter.unusedSimpArgs false
namespace Go.Sl
variable {P : Program} {n : Nat} {σ : Env} {S : HL} {K : Env → HL → Prop} {d : Nat} {dst : Option Nat} {ty : TypeId} {pos : String} {aft : Array Edge} {g : Option (Nat × Bool)}

theorem OW.appendKeep {x y : Operand} {t t2 e sz k m : Nat} {info : TypeInfo} {z yv : Value} {D2 : TypeDesc} {o : Option Buf} {xs ys : List Value} {F : HL → HL}
    (ht : UT P t (.slice e)) (ht2 : UT P t2 D2) (hD : (∃ e2, D2 = .slice e2) ∨ D2 = .string) (hi : TI P e info) (hn : SZ P e sz) (hz : ZV P e z) (hzc : z.cells.size = sz)
    (hx : ev σ x = some (bufV o k)) (hseg : SegF S (bufH o xs e) F) (hlen : xs.length = k * sz) (hok : bufOk o k sz)
    (hy : ev σ y = some yv) (hsrc : Src P S yv m sz ys) (hyl : ys.length = m * sz) (h1 : ys.all oneB = true) (hm0 : 0 < m)
    (hb0 : info.bytes ≠ 0) (hb : (2 * (k + m) + 192) * info.bytes ≤ 281474976710656)
    (hk1 : ∀ u, o = some u → k + m ≤ u.cap → bufOk (some ⟨u.b, u.cap, u.rest.drop ys.length⟩) (k + m) sz →
      K ((d, bufV (some ⟨u.b, u.cap, u.rest.drop ys.length⟩) (k + m)) :: σ) (F (bufH (some ⟨u.b, u.cap, u.rest.drop ys.length⟩) (xs ++ ys) e)))
    (hk2 : ∀ u', (∀ u, o = some u → u.cap < k + m) → bufOk (some u') (k + m) sz → K ((d, bufV (some u') (k + m)) :: σ) (bufH (some u') (xs ++ ys) e ++ S)) :
    OW P n ⟨some d, .call { callee := .builtin .append, args := #[x, y], argTypes := #[t, t2] }, ty, pos, aft, g⟩ σ S K :=
  OW.run_ rfl fun w0 ρ w hρ hs => by
    obtain ⟨R, hp1, hp2⟩ := hseg.spec
    have hs1 := hs.perm hp1.symm
    obtain ⟨hl, hf⟩ := hsrc w0 w hs
    have hfm : ∀ w' : World, w'.heap = w.heap → (Builtin.firstCells sz m yv).run P w' = .ok ⟨ys⟩ w' := by
      intro w' hw'
      have hs2 : Sat w' S w' := ⟨hs.nd, fun p hp => by rw [hw']; exact hs.get p hp, rfl, rfl, rfl, Nat.le_refl _⟩
      have := (hsrc w' w' hs2).2 m (Nat.le_refl _)
      rwa [← hyl, List.take_length] at this
    suffices h : ∃ v w' S', (Builtin.append_ #[t, t2] ty #[bufV o k, yv]).run P w = .ok v w' ∧ Sat w0 S' w' ∧ K ((d, v) :: σ) S' by
      obtain ⟨v, w', S', hr, hs', hk⟩ := h
      refine ⟨_, w', S', ?_, hs', hk⟩
      simp only [execOp, resolve, invoke, builtin]
      simp [hρ x _ hx, hρ y _ hy, hr]
    have grow : ∀ (cap : Nat) (base : Option Addr), cap < k + m → (∀ u, o = some u → u.cap < k + m) → (∀ w' : World, w'.heap = w.heap → (Builtin.firstCells sz k (.slice base k cap)).run P w' = .ok ⟨xs⟩ w') →
        ∃ v w' S', (Builtin.append_ #[t, t2] ty #[.slice base k cap, yv]).run P w = .ok v w' ∧ Sat w0 S' w' ∧ K ((d, v) :: σ) S' := by
      intro cap base hlt hno hold
      obtain ⟨c, hc, hr⟩ := run_append_grow (P := P) (ty := ty) (base := base) (cap := cap) ht ht2 hD hi hn hz hl hfm hold hlt hb0 hb
      refine ⟨_, _, _, hr, (hs.drawn (w.drawn + 1)).alloc (blk (xs ++ ys ++ (Builtin.zeroCells z.cells (c - (k + m))).toList) e), hk2 ⟨w.heap.size, c, (Builtin.zeroCells z.cells (c - (k + m))).toList⟩ hno ⟨?_, hc⟩⟩
      have hrl : (Builtin.zeroCells z.cells (c - (k + m))).toList.length = (c - (k + m)) * sz := by simp [Builtin.zeroCells, hzc]
      simp only [hrl]
      rw [← Nat.add_mul, Nat.add_sub_cancel' hc]
    cases o with
    | none =>
      have hk0 : k = 0 := hok
      subst hk0
      have hxs : xs = [] := by simpa using hlen
      subst hxs
      refine grow 0 none (by omega) (fun u h => by cases h) ?_
      intro w' _
      simp [Builtin.firstCells]
    | some u =>
      obtain ⟨hcap, hkc⟩ := hok
      simp only [bufH, List.singleton_append] at hs1
      by_cases hfit : k + m ≤ u.cap
      · have hmul : (k + m) * sz ≤ u.cap * sz := Nat.mul_le_mul_right _ hfit
        rw [Nat.add_mul] at hmul
        obtain ⟨w', hr, hs'⟩ := run_append_fits (P := P) (ty := ty) (cap := u.cap) ht ht2 hD hn hs1 hl (hfm w rfl) hyl hfit Upd.head (by simp [hlen]; omega) h1
        refine ⟨_, w', _, hr, ?_, hk1 u rfl hfit ⟨?_, hfit⟩⟩
        · rw [← hlen, wrL_tail] at hs'
          exact hs'.perm (hp2 _)
        · simp [hyl, Nat.add_mul]; omega
      · refine grow u.cap (some ⟨u.b, 0, none⟩) (by omega) (fun u2 h => by injection h with h; subst h; omega) ?_
        intro w' hw'
        have hs2 : Sat w' ((u.b, blk (xs ++ u.rest) e) :: R) w' := ⟨hs1.nd, fun p hp => by rw [hw']; exact hs1.get p hp, rfl, rfl, rfl, Nat.le_refl _⟩
        have := ((Src.sl (P := P) (S := (u.b, blk (xs ++ u.rest) e) :: R) (b := u.b) (off := 0) (m := k) (c := u.cap) (sz := sz) (l := xs ++ u.rest) (ys := xs) List.mem_cons_self (by simp [hlen]) (by simp [← hlen])) w' w' hs2).2 k (Nat.le_refl _)
        rwa [← hlen, List.take_length] at this

theorem run_eqItems_u8 {P : Program} (w : World) (dd : Nat) {e : TypeId} (he : P.plainKey e = true) (hu : P.underlying e = some (.int .u8)) (hc : P.cellsOf e = 1) (xs ys : List UInt8) :
    ∀ is : List Nat, (∀ i ∈ is, i < xs.length ∧ i < ys.length) → (Op.eqItems (dd + 1) e (P.cellsOf e) ⟨xs.map u8⟩ ⟨ys.map u8⟩ is).run P w = .ok (decide (∀ i ∈ is, xs.getD i 0 = ys.getD i 0)) w := by
  intro is
  induction is with
  | nil => intro _; simp [Op.eqItems]
  | cons i is ih =>
    intro h
    obtain ⟨h1, h2⟩ := h i List.mem_cons_self
    have ih' := ih fun j hj => h j (List.mem_cons_of_mem _ hj)
    have p1 : (part e ⟨xs.map u8⟩ (i * P.cellsOf e)).run P w = .ok (u8 (xs.getD i 0)) w := run_part_plain w he (by rw [hc, Nat.mul_one]; exact (List.getElem?_toArray).trans (m_get (f := u8) 0 h1))
    have p2 : (part e ⟨ys.map u8⟩ (i * P.cellsOf e)).run P w = .ok (u8 (ys.getD i 0)) w := run_part_plain w he (by rw [hc, Nat.mul_one]; exact (List.getElem?_toArray).trans (m_get (f := u8) 0 h2))
    have p3 : (Op.equalIn (dd + 1) e (u8 (xs.getD i 0)) (u8 (ys.getD i 0))).run P w = .ok (decide (xs.getD i 0 = ys.getD i 0)) w := by
      rw [show u8 (xs.getD i 0) = .int .u8 _ from rfl, show u8 (ys.getD i 0) = .int .u8 _ from rfl, run_equalIn_int w dd e .u8 .u8 _ _ hu]
      congr 1
      rw [show decide (xs.getD i 0 = ys.getD i 0) = decide (((xs.getD i 0).toNat : Int) = ((ys.getD i 0).toNat : Int)) from decide_eq_decide.2 ⟨fun h => by rw [h], fun h => UInt8.toNat_inj.1 (Int.ofNat.inj h)⟩]
      rfl
    simp only [Op.eqItems, Sem.run_bind, p1, p2, p3, Result.andThen_ok]
    by_cases hq : xs.getD i 0 = ys.getD i 0
    · simp only [hq, decide_true, Bool.not_true, Bool.false_eq_true, if_false, ih', List.forall_mem_cons, true_and]
    · simp only [hq, decide_false, Bool.not_false, if_true, Sem.run_pure, List.forall_mem_cons, false_and]

theorem QW.eqlA {x y : Operand} {t e len : Nat} {xs ys : List UInt8} {i : TypeInfo} {tr : Bool} (hx : ev σ x = some (.agg ⟨xs.map u8⟩)) (hy : ev σ y = some (.agg ⟨ys.map u8⟩))
    (hm : P.eqGuardType P.depth t = false) (hu : P.underlying t = some (.array len e)) (hi : P.info? e = some i) (he : P.plainKey e = true) (hue : P.underlying e = some (.int .u8)) (hc : P.cellsOf e = 1)
    (hxl : xs.length = len) (hyl : ys.length = len) (ht : decide (xs = ys) = tr) : QW P S ⟨dst, .binOp .eql t x y t, ty, pos, aft, g⟩ σ (.bool tr) :=
  fun ρ w hρ _ => by
    have hd : decide (∀ i ∈ List.range len, xs.getD i 0 = ys.getD i 0) = tr := by
      subst ht
      apply decide_eq_decide.2
      constructor
      · intro h
        apply List.ext_getElem (by omega)
        intro j h1 h2
        have := h j (by simp; omega)
        simpa [List.getD_eq_getElem?_getD, h1, h2] using this
      · rintro rfl _ _; rfl
    have := run_equalIn_array (P := P) w 9999 (t := t) (e := e) (n := len) ⟨xs.map u8⟩ ⟨ys.map u8⟩ hu hi
    rw [run_eqItems_u8 w 9998 he hue hc xs ys (List.range len) (fun i hi => by simp at hi; omega), hd] at this
    have hb := run_eql_struct (P := P) w t ⟨xs.map u8⟩ ⟨ys.map u8⟩
    rw [this] at hb
    simp only [execOp, hρ x _ hx, hρ y _ hy]
    simp [run_eqGuard_agg (P := P) w .eql t x y _ _ hm, hb]
@[simp] theorem oneB_buf (o : Option Buf) (k : Nat) : oneB (bufV o k) = true := by cases o <;> rfl
theorem RdB.isSl {S : HL} {v : Value} {bs : List UInt8} (h : RdB S v bs) : ∃ a c, v = .slice a bs.length c := by
  rcases h with ⟨rfl, a, c, rfl⟩ | ⟨_, b, off, c, l, T, fr, rfl, _, _⟩
  · exact ⟨a, c, rfl⟩
  · exact ⟨_, c, rfl⟩
theorem RdB.at {S : HL} {a : Option Addr} {c : Nat} {bs : List UInt8} (h : RdB S (.slice a bs.length c) bs) (h0 : 0 < bs.length) :
    ∃ b off l T fr, a = some ⟨b, off, none⟩ ∧ (b, Obj.cells ⟨l⟩ T fr) ∈ S ∧ ∀ k, k < bs.length → l[off + k]? = some (u8 (bs.getD k 0)) := by
  rcases h with ⟨rfl, _⟩ | ⟨_, b, off, c, l, T, fr, hv, hm, hg⟩
  · cases h0
  · injection hv with h1 _ _
    exact ⟨b, off, l, T, fr, h1, hm, hg⟩
theorem RdB.buf {S : HL} {o : Option Buf} {bs : List UInt8} {xs : List Value} {T : TypeId} (hb : o = none → bs = []) (hm : ∀ p ∈ bufH o (bs.map u8 ++ xs) T, p ∈ S) : RdB S (bufV o bs.length) bs := by
  cases o with
  | none => rw [hb rfl]; exact .inl ⟨rfl, none, 0, rfl⟩
  | some u =>
    by_cases h0 : bs = []
    · subst h0; exact .inl ⟨rfl, _, _, rfl⟩
    · refine .inr ⟨h0, u.b, 0, u.cap, _, T, _, rfl, hm _ (List.mem_cons_self), fun k hk => ?_⟩
      rw [Nat.zero_add, List.getElem?_append_left (by simp; omega), List.getElem?_append_left (by simpa using hk)]
      exact m_get 0 hk

theorem dropA {X H S : HL} (h : H.Sublist S) : H.Sublist (X ++ S) := h.trans (List.sublist_append_right _ _)
theorem bufOk.some {o : Option Buf} {k sz : Nat} (h : bufOk o k sz) (h0 : 0 < k) : ∃ u, o = some u := by
  cases o with
  | none => exact absurd (show k = 0 from h) (by omega)
  | some u => exact ⟨u, rfl⟩
theorem QW.len_buf {x : Operand} {t e : Nat} {o : Option Buf} {k sz : Nat} (hok : bufOk o k sz) (ht : UT P t (.slice e)) (hx : ev σ x = some (bufV o k)) :
    QW P S ⟨dst, .call { callee := .builtin .len, args := #[x], argTypes := #[t] }, ty, pos, aft, g⟩ σ (nI k) := by
  cases o with
  | none => have hk : k = 0 := hok; subst hk; exact QW.len_s ht hx
  | some u => exact QW.len_s ht hx
theorem Upd.buf {u : Buf} {xs ys : List Value} {T : TypeId} {R : HL} : Upd (bufH (some u) xs T ++ R) u.b (blk (xs ++ u.rest) T) (blk (ys ++ u.rest) T) (bufH (some u) ys T ++ R) := Upd.head
theorem OW.storeB {x y : Operand} {t : TypeId} {u : Buf} {xs ys : List Value} {T : TypeId} {k : Nat} {v : Value} {S' : HL} (hx : ev σ x = some (ptr u.b k)) (hy : ev σ y = some v) (hn : SZ P t 1) (h1 : oneB v = true)
    (hu : Upd S u.b (blk (xs ++ u.rest) T) (blk (ys ++ u.rest) T) S') (hk : k < xs.length) (hl : xs.set k v = ys) (hK : K σ S') : OW P n ⟨none, .store t x y, ty, pos, aft, g⟩ σ S K :=
  OW.store1 hx hy hn h1 hu.mem (by simp; omega) (by rw [List.set_append_left _ _ hk, hl]) hu hK
def fT (m : UInt8) (xs : List UInt8) (k : Nat) : List UInt8 := List.replicate k m ++ xs.drop k
theorem fT_len (m : UInt8) (xs : List UInt8) (k : Nat) (h : k ≤ xs.length) : (fT m xs k).length = xs.length := by simp [fT]; omega
theorem fT_zero (m : UInt8) (xs : List UInt8) : fT m xs 0 = xs := by simp [fT]
theorem fT_all (m : UInt8) (xs : List UInt8) : fT m xs xs.length = List.replicate xs.length m := by simp [fT]
theorem fT_set (m : UInt8) (xs : List UInt8) (k : Nat) (h : k < xs.length) : (fT m xs k).set k m = fT m xs (k + 1) := by
  simp only [fT]
  rw [List.set_append_right _ _ (by simp), List.length_replicate, Nat.sub_self, List.drop_eq_getElem_cons h, List.set_cons_zero, List.replicate_succ', List.append_assoc]
  rfl
theorem CallS.permK {P : Program} {f : FuncId} {args : Array Value} {S : HL} {K : Value → HL → Prop} (h : CallS P f args S fun v S' => ∃ T, S'.Perm T ∧ K v T) : CallS P f args S K := by
  intro w0 w hs
  refine Calls.mono (h w0 w hs) ?_
  rintro e w' ⟨v, S', rfl, hs', T, hp, hk⟩
  exact ⟨v, T, rfl, hs'.perm hp.symm, hk⟩
theorem OW.permK {o : Oper} (h : OW P n o σ S fun σ' S' => ∃ T, S'.Perm T ∧ K σ' T) : OW P n o σ S K := by
  intro w0 ρ w hρ hs
  have := h w0 ρ w hρ hs
  revert this
  generalize (execOp ρ o).run P w = r
  unfold After
  split
  · rintro ⟨S', hs', T, hp, hk⟩; exact ⟨T, hs'.perm hp.symm, hk⟩
  · rintro ⟨S', hs', T, hp, hk⟩; exact ⟨T, hs'.perm hp.symm, hk⟩
  · rintro ⟨S', hs', hk⟩; exact ⟨S', hs', hk.permK⟩
  · exact fun h => h
def sameB (o p : Option Buf) : Prop := ∀ k, bufV o k = bufV p k
theorem OW.append2 {x y : Operand} {t t2 e sz k m : Nat} {info : TypeInfo} {z yv : Value} {D2 : TypeDesc} {o : Option Buf} {xs ys : List Value} {F : HL → HL}
    (ht : UT P t (.slice e)) (ht2 : UT P t2 D2) (hD : (∃ e2, D2 = .slice e2) ∨ D2 = .string) (hi : TI P e info) (hn : SZ P e sz) (hz : ZV P e z) (hzc : z.cells.size = sz)
    (hx : ev σ x = some (bufV o k)) (hseg : SegF S (bufH o xs e) F) (hlen : xs.length = k * sz) (hok : bufOk o k sz)
    (hy : ev σ y = some yv) (hsrc : Src P S yv m sz ys) (hyl : ys.length = m * sz) (h1 : ys.all oneB = true) (hm0 : 0 < m)
    (hb0 : info.bytes ≠ 0) (hb : (2 * (k + m) + 192) * info.bytes ≤ 281474976710656)
    (hk : ∀ o' Z, bufOk o' (k + m) sz → ((Z = [] ∧ sameB o o') ∨ Z = bufH o xs e) → K ((d, bufV o' (k + m)) :: σ) (F (bufH o' (xs ++ ys) e ++ Z))) :
    OW P n ⟨some d, .call { callee := .builtin .append, args := #[x, y], argTypes := #[t, t2] }, ty, pos, aft, g⟩ σ S K := by
  refine OW.permK (OW.appendKeep ht ht2 hD hi hn hz hzc hx hseg hlen hok hy hsrc hyl h1 hm0 hb0 hb ?_ ?_)
  · rintro u rfl _ hok'
    refine ⟨_, ?_, hk _ [] hok' (.inl ⟨rfl, fun _ => rfl⟩)⟩
    rw [List.append_nil]
  · intro u' _ hok'
    refine ⟨_, ?_, hk (some u') _ hok' (.inr rfl)⟩
    obtain ⟨R, hp1, hp2⟩ := hseg.spec
    refine (hp1.append_left _).trans (List.Perm.trans ?_ (hp2 _).symm)
    rw [List.append_assoc]
theorem bufOk.nil {o : Option Buf} {n k : Nat} {bs : List UInt8} (h : bufOk o (n + k) 1) (hn : bs.length = n) : o = none → bs = [] := by
  rintro rfl
  have : n + k = 0 := h
  exact List.eq_nil_of_length_eq_zero (by omega)
theorem grow_step {o lo lo' : Option Buf} {Y Z : HL} {xs r : List UInt8} {k : Nat} (h : RdB Y (bufV o xs.length) xs ∨ sameB o lo) (hlo : bufOk lo (xs.length + k) 1)
    (hZ : (Z = [] ∧ sameB lo lo') ∨ Z = bufH lo ((xs ++ r).map u8) 5) : RdB (Z ++ Y) (bufV o xs.length) xs ∨ sameB o lo' := by
  rcases h with h | h
  · exact .inl (h.mono fun p hp => List.mem_append_right _ hp)
  · rcases hZ with ⟨_, hZ⟩ | rfl
    · exact .inr fun k => (h k).trans (hZ k)
    · left
      rw [h xs.length]
      refine RdB.buf (xs := r.map u8) (T := 5) (hlo.nil rfl) fun p hp => List.mem_append_left _ ?_
      rwa [List.map_append]
theorem grow_end {o lo : Option Buf} {Y : HL} {xs r : List UInt8} {k : Nat} (h : RdB Y (bufV o xs.length) xs ∨ sameB o lo) (hlo : bufOk lo (xs.length + k) 1) :
    RdB (bufH lo ((xs ++ r).map u8) 5 ++ Y) (bufV o xs.length) xs := by
  rcases h with h | h
  · exact h.mono fun p hp => List.mem_append_right _ hp
  · rw [h xs.length]
    refine RdB.buf (xs := r.map u8) (T := 5) (hlo.nil rfl) fun p hp => List.mem_append_left _ ?_
    rwa [List.map_append]
theorem grow_long {lo : Option Buf} {Y : HL} {bs : List UInt8} {k : Nat} (hlo : bufOk lo k 1) (hk : bs.length = k) :
    RdB (bufH lo (bs.map u8) 5 ++ Y) (bufV lo k) bs := by
  subst hk
  refine RdB.buf (xs := []) (T := 5) (bufOk.nil (k := 0) hlo rfl) fun p hp => List.mem_append_left _ ?_
  rwa [List.append_nil] at hp
end Go.Sl
