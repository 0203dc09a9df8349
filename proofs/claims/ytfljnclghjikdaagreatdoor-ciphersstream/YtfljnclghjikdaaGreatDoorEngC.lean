/- The engine, part C: what each operation comes to. -/
import Derived.Test.YtfljnclghjikdaaGreatDoorEngB
import Derived.IntWalk
set_option linter.unusedVariables false
namespace Go.Sl
variable {P : Program} {n : Nat} {σ : Env} {S : HL} {K : Env → HL → Prop} {d : Nat} {dst : Option Nat} {ty : TypeId} {pos : String} {aft : Array Edge} {g : Option (Nat × Bool)}

theorem OW.pure_ {o : Oper} {v : Value} (hd : o.dst = some d) (hr : ∀ ρ w, Ext σ ρ → (execOp ρ o).run P w = .ok (.value v) w)
    (hk : K ((d, v) :: σ) S) : OW P n o σ S K := by
  intro w0 ρ w hx hs
  rw [hr ρ w hx]
  exact ⟨S, hs, by rw [hd]; exact hk⟩

/-- In every world that holds the blocks H the operation tells v, and changes nothing. -/
def QW (P : Program) (H : HL) (o : Oper) (σ : Env) (v : Value) : Prop :=
  ∀ ρ w, Ext σ ρ → Held H w → (execOp ρ o).run P w = .ok (.value v) w
theorem OW.q {o : Oper} {v : Value} (hd : o.dst = some d) (hq : QW P S o σ v) (hk : K ((d, v) :: σ) S) : OW P n o σ S K := by
  intro w0 ρ w hx hs
  rw [hq ρ w hx hs.held]
  exact ⟨S, hs, by rw [hd]; exact hk⟩
theorem RL.q {ops : Array Oper} {o : Oper} {os : List Oper} {v : Value} {K : KK} (hg : o.guard = none) (hd : o.dst = some d) (hq : QW P S o σ v) (hk : RL P n ops os ((d, v) :: σ) S K) :
    RL P n ops (o :: os) σ S K := RL.cons hg (OW.q hd hq hk)

theorem OW.run_ {o : Oper} (hd : o.dst = some d) (hr : ∀ w0 ρ w, Ext σ ρ → Sat w0 S w → ∃ v w' S', (execOp ρ o).run P w = .ok (.value v) w' ∧ Sat w0 S' w' ∧ K ((d, v) :: σ) S') :
    OW P n o σ S K := by
  intro w0 ρ w hx hs
  obtain ⟨v, w', S', h1, h2, h3⟩ := hr w0 ρ w hx hs
  rw [h1]
  exact ⟨S', h2, by rw [hd]; exact h3⟩

section plain
variable {x y c : Operand} {v vx vy : Value}
theorem QW.move (hx : ev σ x = some v) : QW P S ⟨dst, .move x, ty, pos, aft, g⟩ σ (v) :=
  fun ρ w hρ _ => (by simp [execOp, hρ x v hx])
theorem QW.assign (hx : ev σ x = some v) : QW P S ⟨dst, .assign x, ty, pos, aft, g⟩ σ (v) :=
  fun ρ w hρ _ => (by simp [execOp, hρ x v hx])
theorem QW.pick_t (hc : ev σ c = some (.bool true)) (hx : ev σ x = some vx) : QW P S ⟨dst, .pick c x y, ty, pos, aft, g⟩ σ (vx) :=
  fun ρ w hρ _ => (by simp [execOp, hρ c _ hc, hρ x _ hx, asBool])
theorem QW.pick_f (hc : ev σ c = some (.bool false)) (hx : ev σ y = some vy) : QW P S ⟨dst, .pick c x y, ty, pos, aft, g⟩ σ (vy) :=
  fun ρ w hρ _ => (by simp [execOp, hρ c _ hc, hρ y _ hx, asBool])
theorem QW.nilCheck {a : Addr} (hx : ev σ x = some (.pointer (some a))) : QW P S ⟨dst, .nilCheck x, ty, pos, aft, g⟩ σ (.pointer (some a)) :=
  fun ρ w hρ _ => (by simp [execOp, hρ x _ hx])
theorem QW.not {b : Bool} {t : TypeId} (hx : ev σ x = some (.bool b)) : QW P S ⟨dst, .unOp .not t x, ty, pos, aft, g⟩ σ (.bool (!b)) :=
  fun ρ w hρ _ => (by simp [execOp, hρ x _ hx, Op.unary])
theorem QW.extract {vs : Array Value} {i : Nat} (hx : ev σ x = some (.tuple vs)) (hv : vs[i]? = some v) : QW P S ⟨dst, .extract x i, ty, pos, aft, g⟩ σ (v) :=
  fun ρ w hρ _ => (by simp [execOp, hρ x _ hx, Instr.extract, hv])
theorem QW.makeFunc {fn : Fn} {first captured : Array Operand} {vs ws : Array Value} (h1 : ∀ ρ, Ext σ ρ → first.map ρ = vs) (h2 : ∀ ρ, Ext σ ρ → captured.map ρ = ws)
    : QW P S ⟨dst, .makeFunc fn first captured, ty, pos, aft, g⟩ σ (.func fn vs ws) :=
  fun ρ w hρ _ => (by simp [execOp, h1 ρ hρ, h2 ρ hρ, Instr.makeFunc])
end plain

section ints
variable {x y : Operand} {k : IntKind} {a b c : Int} {xT yT : TypeId}
theorem QW.add (hx : ev σ x = some (.int k a)) (hy : ev σ y = some (.int k b)) (hc : k.wrap (a + b) = c) :
    QW P S ⟨dst, .binOp .add xT x y yT, ty, pos, aft, g⟩ σ (.int k c) :=
  fun ρ w hρ _ => (by subst hc; simp [execOp, hρ x _ hx, hρ y _ hy, eqGuard, binOp, Op.intArith])
theorem QW.sub (hx : ev σ x = some (.int k a)) (hy : ev σ y = some (.int k b)) (hc : k.wrap (a - b) = c) :
    QW P S ⟨dst, .binOp .sub xT x y yT, ty, pos, aft, g⟩ σ (.int k c) :=
  fun ρ w hρ _ => (by subst hc; simp [execOp, hρ x _ hx, hρ y _ hy, eqGuard, binOp, Op.intArith])
theorem QW.mul (hx : ev σ x = some (.int k a)) (hy : ev σ y = some (.int k b)) (hc : k.wrap (a * b) = c) :
    QW P S ⟨dst, .binOp .mul xT x y yT, ty, pos, aft, g⟩ σ (.int k c) :=
  fun ρ w hρ _ => (by subst hc; simp [execOp, hρ x _ hx, hρ y _ hy, eqGuard, binOp, Op.intArith])
theorem QW.quo (hx : ev σ x = some (.int k a)) (hy : ev σ y = some (.int k b)) (h0 : b ≠ 0) (hc : k.wrap (a.tdiv b) = c) :
    QW P S ⟨dst, .binOp .quo xT x y yT, ty, pos, aft, g⟩ σ (.int k c) :=
  fun ρ w hρ _ => (by subst hc; simp [execOp, hρ x _ hx, hρ y _ hy, eqGuard, binOp, Op.intDiv, h0])
theorem QW.rem (hx : ev σ x = some (.int k a)) (hy : ev σ y = some (.int k b)) (h0 : b ≠ 0) (hc : a.tmod b = c) :
    QW P S ⟨dst, .binOp .rem xT x y yT, ty, pos, aft, g⟩ σ (.int k c) :=
  fun ρ w hρ _ => (by subst hc; simp [execOp, hρ x _ hx, hρ y _ hy, eqGuard, binOp, Op.intDiv, h0])

def bitsB (op : BinOp) (k : IntKind) (x y : Int) : Int :=
  let a := BitVec.ofInt k.bits x
  let b := BitVec.ofInt k.bits y
  k.wrap (match op with
    | .and => (a &&& b).toNat
    | .or => (a ||| b).toNat
    | .xor => (a ^^^ b).toNat
    | .andNot => (a &&& ~~~b).toNat
    | _ => 0)
theorem QW.and_ (hx : ev σ x = some (.int k a)) (hy : ev σ y = some (.int k b)) (hc : bitsB .and k a b = c) :
    QW P S ⟨dst, .binOp .and xT x y yT, ty, pos, aft, g⟩ σ (.int k c) :=
  fun ρ w hρ _ => (by subst hc; simp [execOp, hρ x _ hx, hρ y _ hy, eqGuard, binOp, Op.intBits, bitsB])
theorem QW.or_ (hx : ev σ x = some (.int k a)) (hy : ev σ y = some (.int k b)) (hc : bitsB .or k a b = c) :
    QW P S ⟨dst, .binOp .or xT x y yT, ty, pos, aft, g⟩ σ (.int k c) :=
  fun ρ w hρ _ => (by subst hc; simp [execOp, hρ x _ hx, hρ y _ hy, eqGuard, binOp, Op.intBits, bitsB])
theorem QW.xor_ (hx : ev σ x = some (.int k a)) (hy : ev σ y = some (.int k b)) (hc : bitsB .xor k a b = c) :
    QW P S ⟨dst, .binOp .xor xT x y yT, ty, pos, aft, g⟩ σ (.int k c) :=
  fun ρ w hρ _ => (by subst hc; simp [execOp, hρ x _ hx, hρ y _ hy, eqGuard, binOp, Op.intBits, bitsB])
theorem QW.andNot_ (hx : ev σ x = some (.int k a)) (hy : ev σ y = some (.int k b)) (hc : bitsB .andNot k a b = c) :
    QW P S ⟨dst, .binOp .andNot xT x y yT, ty, pos, aft, g⟩ σ (.int k c) :=
  fun ρ w hρ _ => (by subst hc; simp [execOp, hρ x _ hx, hρ y _ hy, eqGuard, binOp, Op.intBits, bitsB])
theorem QW.shl {k' : IntKind} (hx : ev σ x = some (.int k a)) (hy : ev σ y = some (.int k' b)) (h0 : 0 ≤ b) (hc : k.wrap (a * 2 ^ (min b.toNat k.bits)) = c) :
    QW P S ⟨dst, .binOp .shl xT x y yT, ty, pos, aft, g⟩ σ (.int k c) :=
  fun ρ w hρ _ => (by subst hc; simp [execOp, hρ x _ hx, hρ y _ hy, eqGuard, binOp, Op.shift, Int.not_lt.2 h0])
theorem QW.shr {k' : IntKind} (hx : ev σ x = some (.int k a)) (hy : ev σ y = some (.int k' b)) (h0 : 0 ≤ b) (hc : a.fdiv (2 ^ (min b.toNat k.bits)) = c) :
    QW P S ⟨dst, .binOp .shr xT x y yT, ty, pos, aft, g⟩ σ (.int k c) :=
  fun ρ w hρ _ => (by subst hc; simp [execOp, hρ x _ hx, hρ y _ hy, eqGuard, binOp, Op.shift, Int.not_lt.2 h0])
theorem QW.neg {t : TypeId} (hx : ev σ x = some (.int k a)) (hc : k.wrap (0 - a) = c) : QW P S ⟨dst, .unOp .neg t x, ty, pos, aft, g⟩ σ (.int k c) :=
  fun ρ w hρ _ => (by subst hc; simp [execOp, hρ x _ hx, Op.unary, Op.intArith])
theorem QW.com {t : TypeId} (hx : ev σ x = some (.int k a)) (hc : bitsB .xor k (if k.signed then -1 else k.max) a = c) : QW P S ⟨dst, .unOp .xor t x, ty, pos, aft, g⟩ σ (.int k c) :=
  fun ρ w hρ _ => (by subst hc; simp [execOp, hρ x _ hx, Op.unary, Op.intBits, bitsB])

-- comparisons: a Bool of one's own, told by an equivalence
theorem QW.lss {t : Bool} (hx : ev σ x = some (.int k a)) (hy : ev σ y = some (.int k b)) (ht : decide (a < b) = t) :
    QW P S ⟨dst, .binOp .lss xT x y yT, ty, pos, aft, g⟩ σ (.bool t) :=
  fun ρ w hρ _ => (by subst ht; simp [execOp, hρ x _ hx, hρ y _ hy, eqGuard, binOp, Op.intCmp])
theorem QW.leq {t : Bool} (hx : ev σ x = some (.int k a)) (hy : ev σ y = some (.int k b)) (ht : decide (a ≤ b) = t) :
    QW P S ⟨dst, .binOp .leq xT x y yT, ty, pos, aft, g⟩ σ (.bool t) :=
  fun ρ w hρ _ => (by subst ht; simp [execOp, hρ x _ hx, hρ y _ hy, eqGuard, binOp, Op.intCmp])
theorem QW.gtr {t : Bool} (hx : ev σ x = some (.int k a)) (hy : ev σ y = some (.int k b)) (ht : decide (b < a) = t) :
    QW P S ⟨dst, .binOp .gtr xT x y yT, ty, pos, aft, g⟩ σ (.bool t) :=
  fun ρ w hρ _ => (by subst ht; simp [execOp, hρ x _ hx, hρ y _ hy, eqGuard, binOp, Op.intCmp])
theorem QW.geq {t : Bool} (hx : ev σ x = some (.int k a)) (hy : ev σ y = some (.int k b)) (ht : decide (b ≤ a) = t) :
    QW P S ⟨dst, .binOp .geq xT x y yT, ty, pos, aft, g⟩ σ (.bool t) :=
  fun ρ w hρ _ => (by subst ht; simp [execOp, hρ x _ hx, hρ y _ hy, eqGuard, binOp, Op.intCmp])
theorem QW.eql {t : Bool} (hx : ev σ x = some (.int k a)) (hy : ev σ y = some (.int k b)) (ht : decide (a = b) = t) :
    QW P S ⟨dst, .binOp .eql xT x y yT, ty, pos, aft, g⟩ σ (.bool t) :=
  fun ρ w hρ _ => (by subst ht; simp [execOp, hρ x _ hx, hρ y _ hy, eqGuard, binOp, Op.intCmp]; rfl)
theorem QW.neq {t : Bool} (hx : ev σ x = some (.int k a)) (hy : ev σ y = some (.int k b)) (ht : decide (a = b) = !t) :
    QW P S ⟨dst, .binOp .neq xT x y yT, ty, pos, aft, g⟩ σ (.bool t) :=
  fun ρ w hρ _ => (by
    have : t = !decide (a = b) := by rw [ht]; simp
    subst this; simp [execOp, hρ x _ hx, hρ y _ hy, eqGuard, binOp, Op.intCmp, bne]; rfl)
theorem QW.neq' {p : Prop} [Decidable p] (hx : ev σ x = some (.int k a)) (hy : ev σ y = some (.int k b)) (ht : decide (a = b) = decide p) :
    QW P S ⟨dst, .binOp .neq xT x y yT, ty, pos, aft, g⟩ σ (.bool (!decide p)) := QW.neq hx hy (by rw [ht, Bool.not_not])
/-- Convert between whole numbers. -/
theorem QW.conv {k' : IntKind} {src dt : TypeId} {D : TypeDesc} (hs : UT P src D) (hD : UT P dt (.int k')) (hx : ev σ x = some (.int k a)) (hc : k'.wrap a = c) : 
    QW P S ⟨dst, .convert src dt x, ty, pos, aft, g⟩ σ (.int k' c) :=
  fun ρ w hρ _ => (by subst hc; simp [execOp, hρ x _ hx, convert, hs w, hD w, Conv.intToInt])
end ints

section mem
variable {x y : Operand} {b off : Nat}
theorem QW.load1 {t : TypeId} {l : List Value} {T : TypeId} {fr : Nat × Nat} {v : Value} (hx : ev σ x = some (ptr b off)) (ha : AG P t false) (hm : (b, Obj.cells ⟨l⟩ T fr) ∈ S)
    (hv : l[off]? = some v) : QW P S ⟨dst, .load t x, ty, pos, aft, g⟩ σ v :=
  fun ρ w hρ hs => by simp [execOp, hρ x _ hx, Instr.loadAt, Instr.sureAddr, run_loadVar1 hs hm ha (c := ⟨l⟩) (by simpa using hv)]
theorem QW.loadN {t : TypeId} {l : List Value} {T : TypeId} {fr : Nat × Nat} {m : Nat} {r : List Value} (hx : ev σ x = some (ptr b off)) (ha : AG P t true) (hn : SZ P t m) (hm : (b, Obj.cells ⟨l⟩ T fr) ∈ S)
    (hle : off + m ≤ l.length) (hr : (l.drop off).take m = r) : QW P S ⟨dst, .load t x, ty, pos, aft, g⟩ σ (.agg ⟨r⟩) :=
  fun ρ w hρ hs => by subst hr; simp [execOp, hρ x _ hx, Instr.loadAt, Instr.sureAddr, run_loadVarN hs hm ha hn hle]
theorem OW.store1 {t : TypeId} {l : List Value} {T : TypeId} {v : Value} {S' : HL} {l' : List Value} (hx : ev σ x = some (ptr b off)) (hy : ev σ y = some v) (hn : SZ P t 1) (h1 : oneB v = true) (hm : (b, blk l T) ∈ S)
    (hle : off < l.length) (hl : l.set off v = l') (hu : Upd S b (blk l T) (blk l' T) S') (hk : K σ S') : OW P n ⟨none, .store t x y, ty, pos, aft, g⟩ σ S K := by
  intro w0 ρ w hρ hs
  have hc : v.cells = #[v] := by cases v <;> simp_all [oneB, Value.cells]
  subst hl
  obtain ⟨w', hr, hs'⟩ := run_storeVar (P := P) (v := v) (off := off) (l := l) (T := T) (b := b) (S' := S') hs hn (by simp [hc]) (by rw [hc]; simp only [wrL_one v hle]; exact hu) (by omega) (by simp [hc, h1])
  simp only [execOp, hρ x _ hx, hρ y _ hy, Instr.storeAt, Instr.sureAddr]
  simp [hr]
  exact ⟨S', hs', hk⟩
theorem OW.storeN {t : TypeId} {l : List Value} {T : TypeId} {vs : List Value} {S' : HL} {m : Nat} {l' : List Value} (hx : ev σ x = some (ptr b off)) (hy : ev σ y = some (.agg ⟨vs⟩)) (hn : SZ P t m) (hm : (b, blk l T) ∈ S) (hlen : vs.length = m) (h1 : vs.all oneB = true)
    (hle : off + m ≤ l.length) (hl : wrL l off vs = l') (hu : Upd S b (blk l T) (blk l' T) S') (hk : K σ S') : OW P n ⟨none, .store t x y, ty, pos, aft, g⟩ σ S K := by
  intro w0 ρ w hρ hs
  subst hl
  obtain ⟨w', hr, hs'⟩ := run_storeVar (P := P) (v := .agg ⟨vs⟩) (off := off) hs hn (by simp [Value.cells, hlen]) (by simpa [Value.cells] using hu) (by omega) (by simpa [Value.cells] using h1)
  simp only [execOp, hρ x _ hx, hρ y _ hy, Instr.storeAt, Instr.sureAddr]
  simp [hr]
  exact ⟨S', hs', hk⟩
theorem OW.alloc {t : TypeId} {z : Value} {l : List Value} (hz : ZV P t z) (hl : z.cells = ⟨l⟩) (hk : ∀ b, K ((d, ptr b 0) :: σ) ((b, blk l t) :: S)) : OW P n ⟨some d, .alloc t, ty, pos, aft, g⟩ σ S K :=
  OW.run_ rfl fun w0 ρ w hρ hs => ⟨_, _, _, by simp [execOp, Instr.alloc, hz w, newVar, newRow, hl], hs.alloc _, hk _⟩
theorem OW.box1 {t : TypeId} {v : Value} (hx : ev σ x = some v) (h1 : oneB v = true) (hk : ∀ b, K ((d, ptr b 0) :: σ) ((b, blk [v] t) :: S)) : OW P n ⟨some d, .box t x, ty, pos, aft, g⟩ σ S K :=
  OW.run_ rfl fun w0 ρ w hρ hs => ⟨_, _, _, by
    have hc : v.cells = #[v] := by cases v <;> simp_all [oneB, Value.cells]
    simp [execOp, Instr.box, hρ x _ hx, newVar, newRow, hc], hs.alloc _, hk _⟩
theorem OW.boxN {t : TypeId} {l : List Value} (hx : ev σ x = some (.agg ⟨l⟩)) (hk : ∀ b, K ((d, ptr b 0) :: σ) ((b, blk l t) :: S)) : OW P n ⟨some d, .box t x, ty, pos, aft, g⟩ σ S K :=
  OW.run_ rfl fun w0 ρ w hρ hs => ⟨_, _, _, by
    simp [execOp, Instr.box, hρ x _ hx, newVar, newRow, Value.cells], hs.alloc _, hk _⟩
theorem QW.fieldAddr {s : TypeId} {fs : Array Field} {i : Nat} {f : Field} {m off' : Nat} (hs : UT P s (.struct fs)) (hf : fs[i]? = some f) (hn : SZ P f.type m) (h0 : m ≠ 0)
    (hx : ev σ x = some (ptr b off)) (ho : off + f.offset = off') : QW P S ⟨dst, .fieldAddr s x i, ty, pos, aft, g⟩ σ (ptr b off') :=
  fun ρ w hρ _ => (by
    subst ho
    simp [execOp, hρ x _ hx, Instr.fieldAt, hs w, hf, Instr.sureAddr, fieldPlace, hn w, h0, Addr.add_none])
theorem QW.field1 {s : TypeId} {fs : Array Field} {i : Nat} {f : Field} {l : List Value} {v : Value} (hs : UT P s (.struct fs)) (hf : fs[i]? = some f) (ha : AG P f.type false)
    (hx : ev σ x = some (.agg ⟨l⟩)) (hv : l[f.offset]? = some v) : QW P S ⟨dst, .field s x i, ty, pos, aft, g⟩ σ (v) :=
  fun ρ w hρ _ => (by
    simp [execOp, hρ x _ hx, Instr.field, hs w, hf, asAgg, part, ha w, hv])
theorem QW.indexAddrA {t elem len m off' : Nat} {k : IntKind} {i : Int} (ht : UT P t (.array len elem)) (hn : SZ P elem m) (hx : ev σ x = some (ptr b off)) (hy : ev σ y = some (.int k i))
    (h0 : 0 ≤ i) (h1 : i < len) (ho : off + i.toNat * m = off') : QW P S ⟨dst, .indexAddr t x y, ty, pos, aft, g⟩ σ (ptr b off') :=
  fun ρ w hρ _ => (by
    subst ho
    simp [execOp, hρ x _ hx, hρ y _ hy, Instr.indexAt, asIntOf, ht w, Instr.sureAddr, h0, h1, hn w, Addr.add_none])
theorem QW.indexAddrS {t elem m len cap off' : Nat} {k : IntKind} {i : Int} (ht : UT P t (.slice elem)) (hn : SZ P elem m) (hx : ev σ x = some (sl b off len cap)) (hy : ev σ y = some (.int k i))
    (h0 : 0 ≤ i) (h1 : i < len) (ho : off + i.toNat * m = off') : QW P S ⟨dst, .indexAddr t x y, ty, pos, aft, g⟩ σ (ptr b off') :=
  fun ρ w hρ _ => (by
    subst ho
    simp [execOp, hρ x _ hx, hρ y _ hy, Instr.indexAt, asIntOf, ht w, h0, h1, hn w, Addr.add_none])
theorem QW.index1 {t elem len : Nat} {k : IntKind} {i : Int} {l : List Value} {v : Value} (ht : UT P t (.array len elem)) (ha : AG P elem false) (hn : SZ P elem 1) (hx : ev σ x = some (.agg ⟨l⟩)) (hy : ev σ y = some (.int k i))
    (h0 : 0 ≤ i) (h1 : i < len) (hv : l[i.toNat]? = some v) : QW P S ⟨dst, .index t x y, ty, pos, aft, g⟩ σ (v) :=
  fun ρ w hρ _ => (by
    simp [execOp, hρ x _ hx, hρ y _ hy, Instr.index, asIntOf, ht w, h0, h1, hn w, part, ha w, hv])
end mem

/-- A call of a function by its name. -/
theorem OW.call {f : FuncId} {args : Array Operand} {ats : Array TypeId} {vs : List Value} (hf : ∀ (as : Array Value) w, (callFunc f as).run P w = .ok (.enter f as) w)
    (ha : ∀ ρ, Ext σ ρ → args.map ρ = ⟨vs⟩) (hk : CallS P f ⟨vs⟩ S fun v S' => K (putE σ dst v) S') :
    OW P n ⟨dst, .call { callee := .value (.func f), args := args, argTypes := ats }, ty, pos, aft, g⟩ σ S K := by
  intro w0 ρ w hρ hs
  have h1 : ρ (.func f) = .func (.func f) #[] #[] := hρ (.func f) _ rfl
  simp only [execOp, resolve, ha ρ hρ, h1, Deferred.ofValue]
  simp [invoke, hf]
  exact ⟨S, hs, hk⟩
/-- A call of a function value. -/
theorem OW.callV {f : FuncId} {x : Operand} {first captured : List Value} {args : Array Operand} {ats : Array TypeId} {vs : List Value} (hx : ev σ x = some (.func (.func f) ⟨first⟩ ⟨captured⟩))
    (hf : ∀ (as : Array Value) w, (callFunc f as).run P w = .ok (.enter f as) w)
    (ha : ∀ ρ, Ext σ ρ → args.map ρ = ⟨vs⟩) (hk : CallS P f ⟨first ++ vs ++ captured⟩ S fun v S' => K (putE σ dst v) S') :
    OW P n ⟨dst, .call { callee := .value x, args := args, argTypes := ats }, ty, pos, aft, g⟩ σ S K := by
  intro w0 ρ w hρ hs
  have h1 := hρ x _ hx
  have e : (⟨first⟩ : Array Value) ++ ⟨vs⟩ ++ ⟨captured⟩ = ⟨first ++ vs ++ captured⟩ := by simp
  simp only [execOp, resolve, ha ρ hρ, h1, Deferred.ofValue]
  simp [invoke, hf]
  simp at e
  exact ⟨S, hs, by simpa using hk⟩

theorem ext_nil {ρ : Operand → Value} : (#[] : Array Operand).map ρ = ⟨[]⟩ := by simp
theorem ext1 {x : Operand} {v : Value} (h : ev σ x = some v) : ∀ ρ, Ext σ ρ → (#[x] : Array Operand).map ρ = ⟨[v]⟩ := fun ρ hρ => by simp [hρ x v h]
theorem ext2 {x y : Operand} {v u : Value} (h : ev σ x = some v) (h2 : ev σ y = some u) : ∀ ρ, Ext σ ρ → (#[x, y] : Array Operand).map ρ = ⟨[v, u]⟩ := fun ρ hρ => by simp [hρ x v h, hρ y u h2]
theorem ext3 {x y z : Operand} {v u t : Value} (h : ev σ x = some v) (h2 : ev σ y = some u) (h3 : ev σ z = some t) : ∀ ρ, Ext σ ρ → (#[x, y, z] : Array Operand).map ρ = ⟨[v, u, t]⟩ := fun ρ hρ => by simp [hρ x v h, hρ y u h2, hρ z t h3]
theorem ext4 {x y z s : Operand} {v u t r : Value} (h : ev σ x = some v) (h2 : ev σ y = some u) (h3 : ev σ z = some t) (h4 : ev σ s = some r) : ∀ ρ, Ext σ ρ → (#[x, y, z, s] : Array Operand).map ρ = ⟨[v, u, t, r]⟩ := fun ρ hρ => by simp [hρ x v h, hρ y u h2, hρ z t h3, hρ s r h4]
theorem ext5 {x y z s q : Operand} {v u t r p : Value} (h : ev σ x = some v) (h2 : ev σ y = some u) (h3 : ev σ z = some t) (h4 : ev σ s = some r) (h5 : ev σ q = some p) : ∀ ρ, Ext σ ρ → (#[x, y, z, s, q] : Array Operand).map ρ = ⟨[v, u, t, r, p]⟩ := fun ρ hρ => by simp [hρ x v h, hρ y u h2, hρ z t h3, hρ s r h4, hρ q p h5]

/-! ### results -/
def resF (tmps : Array Value) : ResultVar → Sem Value
  | .tmp t => pure (tmps.getD t undef)
  | .cell x t => do loadVar t (← asAddr (tmps.getD x undef))
theorem results_eq (fn : Func) (tmps : Array Value) : results fn tmps = (do
    let vs ← fn.results.mapM (resF tmps)
    pure (if h : vs.size = 1 then vs[0] else .tuple vs)) := by
  have e : (fun r : ResultVar => match r with
    | .tmp t => (pure (tmps.getD t undef) : Sem Value)
    | .cell a t => do loadVar t (← asAddr (tmps.getD a undef))) = resF tmps := by
    funext r
    cases r <;> rfl
  rw [← e]
  rfl
def ResV (P : Program) (σ : Env) (S : HL) (r : ResultVar) (v : Value) : Prop :=
  ∀ w0 tmps w, (∀ t u, look σ t = some u → tmps.getD t undef = u) → Sat w0 S w → (resF tmps r).run P w = .ok v w
theorem ResV.tmp {t : Nat} {v : Value} (hv : look σ t = some v) : ResV P σ S (.tmp t) v := by
  intro w0 tmps w hg hs
  have := hg t v hv
  simp only [resF, this]
  rfl
theorem ResV.cell1 {t u b off : Nat} {l : List Value} {T : TypeId} {fr : Nat × Nat} {v : Value} (hx : look σ t = some (ptr b off)) (ha : AG P u false) (hm : (b, Obj.cells ⟨l⟩ T fr) ∈ S) (hv : l[off]? = some v) : ResV P σ S (.cell t u) v := by
  intro w0 tmps w hg hs
  have := hg t _ hx
  simp only [resF, this]
  simp [asAddr, run_loadVar1 hs.held hm ha (c := ⟨l⟩) (by simpa using hv)]
theorem ResV.cellN {t u b off m : Nat} {l r : List Value} {T : TypeId} {fr : Nat × Nat} (hx : look σ t = some (ptr b off)) (ha : AG P u true) (hn : SZ P u m) (hm : (b, Obj.cells ⟨l⟩ T fr) ∈ S) (hle : off + m ≤ l.length)
    (hr : (l.drop off).take m = r) : ResV P σ S (.cell t u) (.agg ⟨r⟩) := by
  intro w0 tmps w hg hs
  have := hg t _ hx
  subst hr
  simp only [resF, this]
  simp [asAddr, run_loadVarN hs.held hm ha hn hle]
theorem ResOk.zero {fn : Func} (h : fn.results = #[]) : ResOk P fn σ S (.tuple #[]) := by
  intro w0 tmps w hg hs
  simp [results_eq, h]
theorem ResOk.one {fn : Func} {r : ResultVar} {v : Value} (h : fn.results = #[r]) (h1 : ResV P σ S r v) : ResOk P fn σ S v := by
  intro w0 tmps w hg hs
  simp [results_eq, h, h1 w0 tmps w hg hs]
theorem ResOk.two {fn : Func} {r s : ResultVar} {v x : Value} (h : fn.results = #[r, s]) (h1 : ResV P σ S r v) (h2 : ResV P σ S s x) : ResOk P fn σ S (.tuple #[v, x]) := by
  intro w0 tmps w hg hs
  simp [results_eq, h, h1 w0 tmps w hg hs, h2 w0 tmps w hg hs]
theorem ResOk.three {fn : Func} {r s t : ResultVar} {v x y : Value} (h : fn.results = #[r, s, t]) (h1 : ResV P σ S r v) (h2 : ResV P σ S s x) (h3 : ResV P σ S t y) : ResOk P fn σ S (.tuple #[v, x, y]) := by
  intro w0 tmps w hg hs
  simp [results_eq, h, h1 w0 tmps w hg hs, h2 w0 tmps w hg hs, h3 w0 tmps w hg hs]
theorem ResOk.four {fn : Func} {r s t u : ResultVar} {v x y z : Value} (h : fn.results = #[r, s, t, u]) (h1 : ResV P σ S r v) (h2 : ResV P σ S s x) (h3 : ResV P σ S t y) (h4 : ResV P σ S u z) : ResOk P fn σ S (.tuple #[v, x, y, z]) := by
  intro w0 tmps w hg hs
  simp [results_eq, h, h1 w0 tmps w hg hs, h2 w0 tmps w hg hs, h3 w0 tmps w hg hs, h4 w0 tmps w hg hs]

end Go.Sl
