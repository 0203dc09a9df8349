/- The engine, part G: slices: len, cap, cuts, made ones, append, copy. -/
import Derived.Test.YtfljnclghjikdaaGreatDoorEngF
set_option linter.unusedVariables false
set_option linter.unusedSimpArgs false
namespace Go.Sl
variable {P : Program} {n : Nat} {σ : Env} {S : HL} {K : Env → HL → Prop} {d : Nat} {dst : Option Nat} {ty : TypeId} {pos : String} {aft : Array Edge} {g : Option (Nat × Bool)}

theorem QW.len_s {x : Operand} {t e : Nat} {a : Option Addr} {l c : Nat} (ht : UT P t (.slice e)) (hx : ev σ x = some (.slice a l c)) :
    QW P S ⟨dst, .call { callee := .builtin .len, args := #[x], argTypes := #[t] }, ty, pos, aft, g⟩ σ (nI l) :=
  fun ρ w hρ _ => by simp [execOp, resolve, invoke, builtin, Builtin.len_, hρ x _ hx, ht w, goInt]
theorem QW.len_str {x : Operand} {t : Nat} {s : ByteArray} (ht : UT P t .string) (hx : ev σ x = some (.string s)) :
    QW P S ⟨dst, .call { callee := .builtin .len, args := #[x], argTypes := #[t] }, ty, pos, aft, g⟩ σ (nI s.size) :=
  fun ρ w hρ _ => by simp [execOp, resolve, invoke, builtin, Builtin.len_, hρ x _ hx, ht w, goInt]
theorem QW.cap_s {x : Operand} {t e : Nat} {a : Option Addr} {l c : Nat} (ht : UT P t (.slice e)) (hx : ev σ x = some (.slice a l c)) :
    QW P S ⟨dst, .call { callee := .builtin .cap, args := #[x], argTypes := #[t] }, ty, pos, aft, g⟩ σ (nI c) :=
  fun ρ w hρ _ => by simp [execOp, resolve, invoke, builtin, Builtin.cap_, hρ x _ hx, ht w, goInt]
theorem QW.minI {x y : Operand} {ts : Array TypeId} {a b : Nat} (hx : ev σ x = some (nI a)) (hy : ev σ y = some (nI b)) :
    QW P S ⟨dst, .call { callee := .builtin .min, args := #[x, y], argTypes := ts }, ty, pos, aft, g⟩ σ (nI (min a b)) :=
  fun ρ w hρ _ => by
    have e : (if b < a then (b : Int) else (a : Int)) = ((min a b : Nat) : Int) := by
      split <;> omega
    simp only [execOp, resolve, invoke, builtin, Builtin.min_, Array.map, hρ x _ hx, hρ y _ hy]
    simp [Builtin.min2, e, hρ x _ hx, hρ y _ hy]
theorem QW.maxI {x y : Operand} {ts : Array TypeId} {k : IntKind} {a b : Int} (hx : ev σ x = some (.int k a)) (hy : ev σ y = some (.int k b)) :
    QW P S ⟨dst, .call { callee := .builtin .max, args := #[x, y], argTypes := ts }, ty, pos, aft, g⟩ σ (.int k (if b > a then b else a)) :=
  fun ρ w hρ _ => by
    simp [execOp, resolve, invoke, builtin, Builtin.max_, Builtin.max2, hρ x _ hx, hρ y _ hy]

/-! ### cuts -/
def sliceOff (off l m sz : Nat) : Nat := if m = l then off else off + l * sz
theorem sliceOff0 (off m sz : Nat) : sliceOff off 0 m sz = off := by simp [sliceOff]
theorem sliceOff1 {off l m sz : Nat} (h : l < m) : sliceOff off l m sz = off + l * sz := by simp [sliceOff]; omega
def optV (σ : Env) (o : Option Operand) (l dflt : Nat) : Prop := match o with | none => l = dflt | some x => ∃ k, ev σ x = some (.int k (l : Int))
theorem optV_none {l : Nat} : optV σ none l l := rfl
theorem optV_some {x : Operand} {k : IntKind} {l dflt : Nat} (h : ev σ x = some (.int k (l : Int))) : optV σ (some x) l dflt := ⟨k, h⟩

theorem sliceBound_ok {k : IntKind} {l y : Nat} {code : BoundsCode} (h : l ≤ y) (w : World) : (Instr.sliceBound (.int k (l : Int)) y code).run P w = .ok l w := by
  have h1 : (0 : Int) ≤ (l : Int) ∧ (l : Int) ≤ (y : Int) := by omega
  simp [Instr.sliceBound, asIntOf, h1]
theorem sliceBounds_ok {ρ : Operand → Value} (hρ : Ext σ ρ) {isS : Bool} {len cap l h m : Nat} {lo hi mx : Option Operand}
    (hlo : optV σ lo l 0) (hhi : optV σ hi h len) (hmx : optV σ mx m cap) (hx : mx = none ∨ hi ≠ none) (h1 : l ≤ h) (h2 : h ≤ m) (h3 : m ≤ cap) (w : World) :
    (Instr.sliceBounds isS len cap (lo.map ρ) (hi.map ρ) (mx.map ρ)).run P w = .ok (l, h, m) w := by
  cases lo <;> cases hi <;> cases mx <;> simp only [optV] at hlo hhi hmx <;> simp at hx
  all_goals (try (obtain ⟨k1, e1⟩ := hlo)); (try (obtain ⟨k2, e2⟩ := hhi)); (try (obtain ⟨k3, e3⟩ := hmx))
  all_goals (try subst hlo); (try subst hhi); (try subst hmx)
  all_goals simp only [Instr.sliceBounds, Option.map]
  all_goals (try rw [hρ _ _ e1]); (try rw [hρ _ _ e2]); (try rw [hρ _ _ e3])
  all_goals simp [sliceBound_ok (P := P) h1, sliceBound_ok (P := P) h2, sliceBound_ok (P := P) h3]

theorem QW.sliceS {x : Operand} {t e sz : Nat} {b off len cap l h m off' : Nat} {lo hi mx : Option Operand} (ht : UT P t (.slice e)) (hn : SZ P e sz) (hx : ev σ x = some (sl b off len cap))
    (hlo : optV σ lo l 0) (hhi : optV σ hi h len) (hmx : optV σ mx m cap) (hm : mx = none ∨ hi ≠ none) (h1 : l ≤ h) (h2 : h ≤ m) (h3 : m ≤ cap) (ho : sliceOff off l m sz = off') :
    QW P S ⟨dst, .slice t x lo hi mx, ty, pos, aft, g⟩ σ (sl b off' (h - l) (m - l)) :=
  fun ρ w hρ _ => by
    subst ho
    simp only [execOp, Instr.sliceAt, Instr.slice, hρ x _ hx]
    simp [ht w, sliceBounds_ok (P := P) hρ hlo hhi hmx hm h1 h2 h3, hn w, sliceOff]
    split <;> simp [Addr.add_none]
theorem QW.sliceNil {x : Operand} {t e sz : Nat} {lo hi mx : Option Operand} (ht : UT P t (.slice e)) (hn : SZ P e sz) (hx : ev σ x = some (.slice none 0 0))
    (hlo : optV σ lo 0 0) (hhi : optV σ hi 0 0) (hmx : optV σ mx 0 0) (hm : mx = none ∨ hi ≠ none) :
    QW P S ⟨dst, .slice t x lo hi mx, ty, pos, aft, g⟩ σ (.slice none 0 0) :=
  fun ρ w hρ _ => by
    simp only [execOp, Instr.sliceAt, Instr.slice, hρ x _ hx]
    simp [ht w, sliceBounds_ok (P := P) hρ hlo hhi hmx hm (Nat.le_refl 0) (Nat.le_refl 0) (Nat.le_refl 0), hn w]
/-- A cut of an array in memory. -/
theorem QW.sliceA {x : Operand} {t e sz len : Nat} {b off l h m off' : Nat} {lo hi mx : Option Operand} (ht : UT P t (.array len e)) (hn : SZ P e sz) (hx : ev σ x = some (ptr b off))
    (hlo : optV σ lo l 0) (hhi : optV σ hi h len) (hmx : optV σ mx m len) (hm : mx = none ∨ hi ≠ none) (h1 : l ≤ h) (h2 : h ≤ m) (h3 : m ≤ len) (ho : sliceOff off l m sz = off') :
    QW P S ⟨dst, .slice t x lo hi mx, ty, pos, aft, g⟩ σ (sl b off' (h - l) (m - l)) :=
  fun ρ w hρ _ => by
    subst ho
    simp only [execOp, Instr.sliceAt, hρ x _ hx]
    simp [ht w, Instr.sureAddr, sliceBounds_ok (P := P) hρ hlo hhi hmx hm h1 h2 h3, hn w, sliceOff]
    split <;> simp [Addr.add_none]
theorem QW.sliceStr {x : Operand} {t : Nat} {s : ByteArray} {l h : Nat} {lo hi : Option Operand} (ht : UT P t .string) (hx : ev σ x = some (.string s))
    (hlo : optV σ lo l 0) (hhi : optV σ hi h s.size) (h1 : l ≤ h) (h2 : h ≤ s.size) :
    QW P S ⟨dst, .slice t x lo hi none, ty, pos, aft, g⟩ σ (.string (s.extract l h)) :=
  fun ρ w hρ _ => by
    have hb : (Instr.sliceBounds false s.size s.size (lo.map ρ) (hi.map ρ) none).run P w = .ok (l, h, s.size) w := sliceBounds_ok (P := P) (isS := false) (mx := none) (len := s.size) (cap := s.size) hρ hlo hhi rfl (.inl rfl) h1 h2 (Nat.le_refl _) w
    simp only [execOp, Instr.sliceAt, Instr.slice, hρ x _ hx]
    simp [ht w, hb]

theorem sliceOff1' {l m : Nat} (h : l < m) : sliceOff 0 l m 1 = l := by simp [sliceOff]; omega
theorem sliceOffB {off l m : Nat} (h : l < m) : sliceOff off l m 1 = off + l := by simp [sliceOff]; omega
theorem QW.sliceS0 {x : Operand} {t e sz : Nat} {b off len cap h m : Nat} {hi mx : Option Operand} (ht : UT P t (.slice e)) (hn : SZ P e sz) (hx : ev σ x = some (sl b off len cap))
    (hhi : optV σ hi h len) (hmx : optV σ mx m cap) (hm : mx = none ∨ hi ≠ none) (h2 : h ≤ m) (h3 : m ≤ cap) :
    QW P S ⟨dst, .slice t x none hi mx, ty, pos, aft, g⟩ σ (sl b off h m) :=
  QW.sliceS (l := 0) (off' := off) ht hn hx rfl hhi hmx hm (Nat.zero_le _) h2 h3 (sliceOff0 _ _ _)
theorem QW.sliceA0 {x : Operand} {t e sz len : Nat} {b off h m : Nat} {hi mx : Option Operand} (ht : UT P t (.array len e)) (hn : SZ P e sz) (hx : ev σ x = some (ptr b off))
    (hhi : optV σ hi h len) (hmx : optV σ mx m len) (hm : mx = none ∨ hi ≠ none) (h2 : h ≤ m) (h3 : m ≤ len) :
    QW P S ⟨dst, .slice t x none hi mx, ty, pos, aft, g⟩ σ (sl b off h m) :=
  QW.sliceA (l := 0) (off' := off) ht hn hx rfl hhi hmx hm (Nat.zero_le _) h2 h3 (sliceOff0 _ _ _)

/-! ### made slices -/
theorem range_rep (k : Nat) (z : Value) : (Array.range k).map (fun i => (#[z] : Array Value)[i % (#[z] : Array Value).size]!) = ⟨List.replicate k z⟩ := by
  apply Array.ext
  · simp
  · intro i h1 h2
    simp [Nat.mod_one]
theorem OW.makeSlice {x y : Operand} {t e : Nat} {info : TypeInfo} {z : Value} {l c : Nat} (ht : UT P t (.slice e)) (hi : TI P e info) (hn : SZ P e 1) (hz : ZV P e z) (hzc : z.cells = #[z])
    (hx : ev σ x = some (nI l)) (hy : ev σ y = some (nI c)) (hlc : l ≤ c) (hb : info.bytes * c ≤ 281474976710656) (hc : c < 9223372036854775808)
    (hk : ∀ b, K ((d, sl b 0 l c) :: σ) ((b, blk (List.replicate c z) e) :: S)) : OW P n ⟨some d, .makeSlice t x y, ty, pos, aft, g⟩ σ S K :=
  OW.run_ rfl fun w0 ρ w hρ hs => by
    have e1 : IntKind.i64.wrap (c : Int) = (c : Int) := wI_id hc
    have e2 : IntKind.i64.wrap (l : Int) = (l : Int) := wI_id (by omega)
    have e3 : ((c : Int) < 0) = False := by simp
    have e4 : ((l : Int) < 0) = False := by simp
    have e5 : ((c : Int) < (l : Int)) = False := by simp; omega
    have e6 : (281474976710656 < (info.bytes : Int) * (c : Int)) = False := by
      have : ((info.bytes * c : Nat) : Int) ≤ 281474976710656 := by omega
      simp only [Int.natCast_mul] at this
      simp; omega
    have hrun : (Instr.makeSlice t (nI l) (nI c)).run P w = .ok (sl w.heap.size 0 l c) { w with heap := w.heap.push (blk (List.replicate c z) e) } := by
      by_cases h0 : c = 0
      · subst h0
        have hl0 : l = 0 := by omega
        subst hl0
        have e0 : IntKind.i64.wrap 0 = 0 := by decide
        have e9 : (Array.range 0) = #[] := rfl
        simp [e9, Instr.makeSlice, ht w, asInt, asIntOf, hi w, e0, hn w, newRow, run_newObj]
      · have e7 : ¬ (c * 1 = 0) := by omega
        simp only [Nat.mul_one] at e7
        have h1 : Array.map (fun x => ([z] : List Value)[x % 1]?.getD default) (Array.range c) = ⟨List.replicate c z⟩ := by
          apply Array.ext
          · simp
          · intro i h1 h2
            simp [Nat.mod_one]
        simp [Instr.makeSlice, ht w, asInt, asIntOf, hi w, e1, e2, e3, e4, e5, e6, hn w, e7, hz w, hzc, newRow, run_newObj, h0, h1]
        rfl
    exact ⟨_, _, _, by simp [execOp, hρ x _ hx, hρ y _ hy, hrun], hs.alloc _, hk _⟩
/-- '[]T{x}' of one cell. -/
theorem OW.buildSlice1 {x : Operand} {t e : Nat} {z v : Value} (ht : UT P t (.slice e)) (hn : SZ P e 1) (hz : ZV P e z) (hzc : z.cells = #[z]) (hx : ev σ x = some v) (hv : v.cells = #[v])
    (hk : ∀ b, K ((d, sl b 0 1 1) :: σ) ((b, blk [v] e) :: S)) : OW P n ⟨some d, .buildSlice t 1 #[(0, x)], ty, pos, aft, g⟩ σ S K :=
  OW.run_ rfl fun w0 ρ w hρ hs => ⟨_, _, _, by
    have e1 : Array.range 1 = #[0] := by decide
    simp [execOp, Instr.buildSlice, ht w, hn w, hz w, hzc, hρ x _ hx, Instr.fill, hv, newRow, run_newObj, e1], hs.alloc _, hk _⟩
theorem OW.buildSlice0 {t e sz : Nat} (ht : UT P t (.slice e)) (hn : SZ P e sz)
    (hk : ∀ b, K ((d, sl b 0 0 0) :: σ) ((b, blk [] e) :: S)) : OW P n ⟨some d, .buildSlice t 0 #[], ty, pos, aft, g⟩ σ S K :=
  OW.run_ rfl fun w0 ρ w hρ hs => ⟨_, _, _, by
    have e9 : (Array.range 0) = #[] := rfl
    simp [execOp, Instr.buildSlice, ht w, hn w, Instr.fill, newRow, run_newObj, e9], hs.alloc _, hk _⟩
end Go.Sl
