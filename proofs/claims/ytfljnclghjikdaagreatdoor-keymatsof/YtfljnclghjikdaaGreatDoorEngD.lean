/- A part of a proof: EngA, EngB, EngC, EngD. -/
import Derived.Calls
import Derived.Orders
import Derived.OrdersHeld
import Derived.Scope
import Derived.Laws.Sem
import Derived.Below
import Derived.KernelRfl
import Derived.RangeFuncLeaves
import Derived.RangeFuncRecord
import Derived.Laws.World
import Derived.IntWalk
/- The engine, part A: a memory is a list of blocks; frames as lists; sequential rules for the code of a function. -/
set_option linter.unusedVariables false
namespace Go.Sl

abbrev HL := List (Nat × Obj)
abbrev Env := List (Nat × Value)

/-- The world w, reached from w0, holds the blocks S (each once). -/
structure Sat (w0 : World) (S : HL) (w : World) : Prop where
  nd : (S.map (·.1)).Nodup
  get : ∀ p ∈ S, w.heap[p.1]? = some p.2
  os : w.os = w0.os
  tape : w.tape = w0.tape
  output : w.output = w0.output
  size : w0.heap.size ≤ w.heap.size

/-- The key under which a frame's list tells the mark of a loop over a function: no temporary has it. -/
abbrev MK : Nat := 1000000000000
def look0 : Env → Nat → Option Value
  | [], _ => none
  | (k, v) :: r, t => bif Nat.beq k t then some v else look0 r t
def look (σ : Env) (t : Nat) : Option Value := bif Nat.beq t MK then none else look0 σ t

theorem look0_cons_eq (k : Nat) (v : Value) (r : Env) : look0 ((k, v) :: r) k = some v := by simp [look0]
theorem look0_cons_ne {k t : Nat} (v : Value) (r : Env) (h : k ≠ t) : look0 ((k, v) :: r) t = look0 r t := by
  have : Nat.beq k t = false := by cases hb : Nat.beq k t with
    | true => exact absurd (Nat.eq_of_beq_eq_true hb) h
    | false => rfl
  simp [look0, this]
theorem look_ne {σ : Env} {t : Nat} (h : t ≠ MK) : look σ t = look0 σ t := by
  have : Nat.beq t MK = false := by cases hb : Nat.beq t MK with
    | true => exact absurd (Nat.eq_of_beq_eq_true hb) h
    | false => rfl
  simp only [look, this, cond_false]
theorem look_MK (σ : Env) : look σ MK = none := rfl
theorem look_lt {σ : Env} {t : Nat} {v : Value} (h : look σ t = some v) : t ≠ MK ∧ look0 σ t = some v := by
  by_cases e : t = MK
  · subst e; rw [look_MK] at h; cases h
  · exact ⟨e, look_ne e ▸ h⟩
theorem look_cons_eq {k : Nat} (v : Value) (r : Env) (h : k ≠ MK) : look ((k, v) :: r) k = some v := by rw [look_ne h, look0_cons_eq]
theorem look_cons_ne {k t : Nat} (v : Value) (r : Env) (h : k ≠ t) : look ((k, v) :: r) t = look r t := by
  by_cases e : t = MK
  · subst e; rfl
  · rw [look_ne e, look_ne e, look0_cons_ne _ _ h]
/-- The deferred calls of a frame: none, or the mark. -/
def dfs (σ : Env) : List Deferred := match look0 σ MK with
  | some (.pointer (some a)) => [{ target := .collected a.block, args := #[] }]
  | _ => []
theorem dfs_none {σ : Env} (h : look0 σ MK = none) : dfs σ = [] := by simp [dfs, h]

/-- What is known of a frame. -/
def Agree (n : Nat) (σ : Env) (a : Act) : Prop :=
  (a.defers = dfs σ ∧ n ≤ MK) ∧ a.tmps.size = n ∧ ∀ t v, look σ t = some v → a.tmps.getD t undef = v

def ev (σ : Env) : Operand → Option Value
  | .tmp t => look σ t
  | .const v => some v
  | .global g => some (.pointer (some ⟨g, 0, none⟩))
  | .func f => some (.func (.func f) #[] #[])

theorem Agree.eval {n σ a x v} (h : Agree n σ a) (hx : ev σ x = some v) : a.eval x = v := by
  cases x with
  | tmp t => exact h.2.2 t v hx
  | const u => simp only [ev, Option.some.injEq] at hx; exact hx
  | global g => simp only [ev, Option.some.injEq] at hx; exact hx
  | func f => simp only [ev, Option.some.injEq] at hx; exact hx

def putE (σ : Env) (d : Option Nat) (v : Value) : Env := match d with | some d => (d, v) :: σ | none => σ

theorem Agree.put {n σ a d v} (h : Agree n σ a) (hd : ∀ k, d = some k → k < n) : Agree n (putE σ d v) (a.put d v) := by
  cases d with
  | none => exact h
  | some k =>
    have hk := hd k rfl
    obtain ⟨h1, h2, h3⟩ := h
    have hkm : k ≠ MK := by have := h1.2; omega
    refine ⟨⟨?_, h1.2⟩, by simp [Act.put, h2], fun t u ht => ?_⟩
    · show a.defers = _
      rw [h1.1]
      simp only [dfs, putE, look0_cons_ne _ _ hkm]
    by_cases e : k = t
    · subst e
      simp only [putE, look_cons_eq _ _ hkm, Option.some.injEq] at ht
      subst ht
      simp [Act.put, h2, hk]
    · simp only [putE, look_cons_ne _ _ e] at ht
      have := h3 t u ht
      simpa [Act.put, Array.getElem?_setIfInBounds_ne e] using this

structure Good (n : Nat) (w0 : World) (σ : Env) (S : HL) (a : Act) (w : World) : Prop where
  fr : Agree n σ a
  sat : Sat w0 S w

/-- Post of a piece of code. -/
abbrev KK := Exit → Env → HL → Prop
def Post (n : Nat) (w0 : World) (K : KK) : Exit → Act → World → Prop :=
  fun e a w => ∃ σ S, Good n w0 σ S a w ∧ K e σ S

def CW (P : Program) (n : Nat) (c : Code) (σ : Env) (S : HL) (K : KK) : Prop :=
  ∀ w0 a w, Good n w0 σ S a w → c.wp P (Post n w0 K) a w

/-- Every operation's place is one of the frame's. -/
def opsOk (n : Nat) (os : List Oper) : Bool := os.all fun o => match o.dst with | some d => Nat.blt d n | none => true

/-- The rest of a region whose order is the text's. -/
def RL (P : Program) (n : Nat) (ops : Array Oper) (os : List Oper) (σ : Env) (S : HL) (K : KK) : Prop :=
  opsOk n os = true → ∀ w0 a w i, (∀ j, ops[i + j]? = os[j]?) → Good n w0 σ S a w →
    wpOps P ops (Post n w0 K) ((List.range os.length).map (i + ·)) a w

def CallS (P : Program) (f : FuncId) (args : Array Value) (S : HL) (K : Value → HL → Prop) : Prop :=
  ∀ w0 w, Sat w0 S w → Calls P f args w fun e w' => ∃ v S', e = .returned v ∧ Sat w0 S' w' ∧ K v S'

/-- What an operation comes to. -/
def After (P : Program) (n : Nat) (w0 : World) (o : Oper) (σ : Env) (K : Env → HL → Prop) : Result Next → Prop
  | .ok (.value v) w' => ∃ S', Sat w0 S' w' ∧ K (putE σ o.dst v) S'
  | .ok .skip w' => ∃ S', Sat w0 S' w' ∧ K (putE σ o.dst undef) S'
  | .ok (.enter f args) w' => ∃ S', Sat w0 S' w' ∧ CallS P f args S' fun v S'' => K (putE σ o.dst v) S''
  | _ => False

def Ext (σ : Env) (ρ : Operand → Value) : Prop := ∀ x v, ev σ x = some v → ρ x = v

def OW (P : Program) (n : Nat) (o : Oper) (σ : Env) (S : HL) (K : Env → HL → Prop) : Prop :=
  ∀ w0 ρ w, Ext σ ρ → Sat w0 S w → After P n w0 o σ K ((execOp ρ o).run P w)

theorem OW.wp {P n o σ S K} (h : OW P n o σ S K) (hd : ∀ k, o.dst = some k → k < n) {w0 a w} (hg : Good n w0 σ S a w)
    (Q : Exit → Act → World → Prop) : o.wp P a w (fun a' w' => ∃ σ' S', Good n w0 σ' S' a' w' ∧ K σ' S') Q := by
  have h1 := h w0 a.eval w (fun x v hx => hg.fr.eval hx) hg.sat
  unfold Oper.wp
  generalize (execOp a.eval o).run P w = r at h1
  cases r with
  | ok x w' =>
    cases x with
    | value v => obtain ⟨S', hs, hk⟩ := h1; exact ⟨_, S', ⟨hg.fr.put hd, hs⟩, hk⟩
    | skip => obtain ⟨S', hs, hk⟩ := h1; exact ⟨_, S', ⟨hg.fr.put hd, hs⟩, hk⟩
    | enter f args =>
      obtain ⟨S', hs, hk⟩ := h1
      refine (hk w0 w' hs).mono ?_
      rintro e w'' ⟨v, S'', rfl, hs'', hk''⟩
      exact ⟨_, S'', ⟨hg.fr.put hd, hs''⟩, hk''⟩
    | _ => exact h1.elim
  | halt x w' => exact h1.elim

theorem wanted_none {o : Oper} (h : o.guard = none) (y : Nat → Option Bool) : Region.wanted o y = true := by simp [Region.wanted, h]

theorem yielded_of {n σ a ops j d b} (h : Agree n σ a) (hd : (((ops : Array Oper)[j]?).bind (·.dst)) = some d) (hn : d < n) (hb : look σ d = some (.bool b)) :
    yielded ops a.tmps j = some b := by
  have := h.2.2 d _ hb
  have hs := h.2.1
  unfold yielded
  rw [hd]
  have hlt : d < a.tmps.size := by omega
  simp [Array.getElem?_eq_getElem hlt] at this ⊢
  simp [this]

theorem RL.nil {P n ops σ S K} (h : K .normal σ S) : RL P n ops [] σ S K := by
  intro _ w0 a w i _ hg
  exact ⟨σ, S, hg, h⟩

theorem range_cons_map (i m : Nat) : (List.range (m + 1)).map (i + ·) = i :: (List.range m).map (i + 1 + ·) := by
  rw [List.range_succ_eq_map]
  simp [List.map_map]
  omega

theorem opsOk_cons {n o os} (h : opsOk n (o :: os) = true) : (∀ k, o.dst = some k → k < n) ∧ opsOk n os = true := by
  simp only [opsOk, List.all_cons, Bool.and_eq_true] at h
  refine ⟨fun k hk => ?_, h.2⟩
  have := h.1
  rw [hk] at this
  exact Nat.blt_eq.mp this

theorem RL.cons {P n ops o os σ S K} (hg : o.guard = none) (h : OW P n o σ S fun σ' S' => RL P n ops os σ' S' K) :
    RL P n ops (o :: os) σ S K := by
  intro hok w0 a w i hi hgood
  obtain ⟨hd, hok'⟩ := opsOk_cons hok
  simp only [List.length_cons]
  rw [range_cons_map]
  have h0 : ops[i]? = some o := by simpa using hi 0
  simp only [wpOps, h0, wanted_none hg, if_true]
  refine .inl (Oper.wp_mono ?_ (h.wp hd hgood _))
  rintro a' w' ⟨σ', S', hg', hk⟩
  exact hk hok' w0 a' w' (i + 1) (fun j => by have := hi (j + 1); simpa [Nat.add_assoc, Nat.add_comm 1 j] using this) hg'

theorem RL.guard_yes {P n ops o os σ S K j want d} (hg : o.guard = some (j, want)) (hd : ((ops[j]?).bind (·.dst)) = some d) (hn : Nat.blt d n = true)
    (hb : look σ d = some (.bool want)) (h : OW P n o σ S fun σ' S' => RL P n ops os σ' S' K) : RL P n ops (o :: os) σ S K := by
  intro hok w0 a w i hi hgood
  obtain ⟨hd', hok'⟩ := opsOk_cons hok
  simp only [List.length_cons]
  rw [range_cons_map]
  have h0 : ops[i]? = some o := by simpa using hi 0
  have hy := yielded_of hgood.fr hd (Nat.blt_eq.mp hn) hb
  have hw : Region.wanted o (yielded ops a.tmps) = true := by simp [Region.wanted, hg, hy]
  simp only [wpOps, h0, hw, if_true]
  refine .inl (Oper.wp_mono ?_ (h.wp hd' hgood _))
  rintro a' w' ⟨σ', S', hg', hk⟩
  exact hk hok' w0 a' w' (i + 1) (fun j => by have := hi (j + 1); simpa [Nat.add_assoc, Nat.add_comm 1 j] using this) hg'

theorem RL.guard_no {P n ops o os σ S K j want d b} (hg : o.guard = some (j, want)) (hd : ((ops[j]?).bind (·.dst)) = some d) (hn : Nat.blt d n = true)
    (hb : look σ d = some (.bool b)) (hne : (b == want) = false) (h : RL P n ops os (putE σ o.dst undef) S K) : RL P n ops (o :: os) σ S K := by
  intro hok w0 a w i hi hgood
  obtain ⟨hd', hok'⟩ := opsOk_cons hok
  simp only [List.length_cons]
  rw [range_cons_map]
  have h0 : ops[i]? = some o := by simpa using hi 0
  have hy := yielded_of hgood.fr hd (Nat.blt_eq.mp hn) hb
  have hw : Region.wanted o (yielded ops a.tmps) = false := by simp [Region.wanted, hg, hy] at hne ⊢; exact hne
  simp only [wpOps, h0, hw]
  exact h hok' w0 _ w (i + 1) (fun j => by have := hi (j + 1); simpa [Nat.add_assoc, Nat.add_comm 1 j] using this) ⟨hgood.fr.put hd', hgood.sat⟩

/-! ### code -/
theorem CW.region {P n id l σ S K} (hok : opsOk n l = true) (h : RL P n ⟨l⟩ l σ S K) : CW P n (.region id ⟨l⟩ false) σ S K := by
  intro w0 a w hg
  refine wp_region ?_
  have := h hok w0 a w 0 (fun j => by simp) hg
  simpa using this

theorem CW.mono {P n c σ S K K'} (h : CW P n c σ S K) (hk : ∀ e σ S, K e σ S → K' e σ S) : CW P n c σ S K' :=
  fun w0 a w hg => wp_mono (h w0 a w hg) fun _ _ _ ⟨σ, S, hg, k⟩ => ⟨σ, S, hg, hk _ _ _ k⟩

def thenK (next : Env → HL → Prop) (K : KK) : KK
  | .normal, σ, S => next σ S
  | e, σ, S => K e σ S

theorem CW.seq {P n x y σ S K} (h : CW P n x σ S (thenK (fun σ S => CW P n y σ S K) K)) : CW P n (.seq x y) σ S K := by
  intro w0 a w hg
  refine wp_seq (wp_mono (h w0 a w hg) ?_)
  rintro e a' w' ⟨σ', S', hg', hk⟩
  cases e with
  | normal => exact hk w0 a' w' hg'
  | _ => exact ⟨σ', S', hg', hk⟩

theorem CW.skip {P n σ S K} (h : K .normal σ S) : CW P n .skip σ S K := fun _ _ _ hg => wp_skip ⟨σ, S, hg, h⟩
theorem CW.exit {P n id σ S K} (h : K (.exit id) σ S) : CW P n (.exit id) σ S K := fun _ _ _ hg => wp_exit ⟨σ, S, hg, h⟩
theorem CW.ret {P n σ S K} (h : K .ret σ S) : CW P n .ret σ S K := fun _ _ _ hg => wp_ret ⟨σ, S, hg, h⟩
theorem CW.label {P n l σ S K} (h : K .normal σ S) : CW P n (.label l) σ S K := fun _ _ _ hg => wp_label ⟨σ, S, hg, h⟩
theorem CW.cond_true {P n c x y σ S K} (hc : ev σ c = some (.bool true)) (h : CW P n x σ S K) : CW P n (.cond c x y) σ S K :=
  fun w0 a w hg => wp_cond_true (hg.fr.eval hc) (h w0 a w hg)
theorem CW.cond_false {P n c x y σ S K} (hc : ev σ c = some (.bool false)) (h : CW P n y σ S K) : CW P n (.cond c x y) σ S K :=
  fun w0 a w hg => wp_cond_false (hg.fr.eval hc) (h w0 a w hg)
theorem CW.cond {P n c x y σ S K b} (hc : ev σ c = some (.bool b)) (ht : b = true → CW P n x σ S K) (hf : b = false → CW P n y σ S K) : CW P n (.cond c x y) σ S K :=
  fun w0 a w hg => wp_cond_split (hg.fr.eval hc) (fun e => ht e w0 a w hg) (fun e => hf e w0 a w hg)

def blockK (id : Nat) (K : KK) : KK
  | .exit id', σ, S => if id' = id then K .normal σ S else K (.exit id') σ S
  | e, σ, S => K e σ S
theorem CW.block {P n id c σ S K} (h : CW P n c σ S (blockK id K)) : CW P n (.block id c) σ S K := by
  intro w0 a w hg
  refine wp_block (wp_mono (h w0 a w hg) ?_)
  rintro e a' w' ⟨σ', S', hg', hk⟩
  cases e with
  | exit id' =>
    simp only [Exit.inBlock]
    simp only [blockK] at hk
    split
    · rename_i he; rw [if_pos he] at hk; exact ⟨σ', S', hg', hk⟩
    · rename_i he; rw [if_neg he] at hk; exact ⟨σ', S', hg', hk⟩
  | _ => exact ⟨σ', S', hg', hk⟩

def gotoK (K : KK) : KK
  | .goto _, _, _ => False
  | e, σ, S => K e σ S
theorem CW.scope {P n c σ S K} (h : CW P n c σ S (gotoK K)) : CW P n (.scope c) σ S K := by
  intro w0 a w hg
  refine wp_scope_straight (wp_mono (h w0 a w hg) ?_)
  rintro e a' w' ⟨σ', S', hg', hk⟩
  cases e with
  | goto l => exact hk.elim
  | _ => exact ⟨σ', S', hg', hk⟩

/-- Frames: what is asked of τ is known in σ, and the mark is the same. -/
def SubE (τ σ : Env) : Prop := ∀ t v, look τ t = some v → look σ t = some v
def leL : Env → Env → Prop
  | [], _ => True
  | (t, v) :: r, σ => look0 σ t = some v ∧ leL r σ
def leE (τ σ : Env) : Prop := look0 τ MK = look0 σ MK ∧ leL τ σ
theorem leL.sub {τ σ : Env} (h : leL τ σ) : ∀ t v, look0 τ t = some v → look0 σ t = some v := by
  induction τ with
  | nil => intro t v ht; simp [look0] at ht
  | cons p r ih =>
    obtain ⟨k, u⟩ := p
    intro t v ht
    by_cases e : k = t
    · subst e; rw [look0_cons_eq] at ht; injection ht with ht; subst ht; exact h.1
    · rw [look0_cons_ne _ _ e] at ht; exact ih h.2 t v ht
theorem leE.sub {τ σ : Env} (h : leE τ σ) : SubE τ σ := by
  intro t v ht
  obtain ⟨h1, h2⟩ := look_lt ht
  rw [look_ne h1]
  exact h.2.sub t v h2
theorem Good.weak {n w0 σ τ S T a w} (h : Good n w0 σ S a w) (hs : leE τ σ) (hT : T.Sublist S) : Good n w0 τ T a w :=
  ⟨⟨⟨by rw [h.fr.1.1]; simp only [dfs, hs.1], h.fr.1.2⟩, h.fr.2.1, fun t v ht => h.fr.2.2 t v (hs.sub t v ht)⟩,
    ⟨h.sat.nd.sublist (hT.map _), fun p hp => h.sat.get p (hT.subset hp), h.sat.os, h.sat.tape, h.sat.output, h.sat.size⟩⟩
theorem CW.weak {P n c σ τ S T K} (hs : leE τ σ) (hT : T.Sublist S) (h : CW P n c τ T K) : CW P n c σ S K :=
  fun w0 a w hg => h w0 a w (hg.weak hs hT)

/-- A loop: ι its states; at each state frame and blocks are known; each round goes to a state of less measure, or leaves. -/
theorem CW.loop {ι : Type} {P n c σ S K} (I : ι → Prop) (E : ι → Env) (H : ι → HL) (μ : ι → Nat) (i0 : ι) (h0 : I i0)
    (hE : leE (E i0) σ) (hH : (H i0).Sublist S)
    (round : ∀ i, I i → CW P n c (E i) (H i) (thenK (fun σ' S' => ∃ j, I j ∧ μ j < μ i ∧ leE (E j) σ' ∧ (H j).Sublist S') K)) : CW P n (.loop c) σ S K := by
  intro w0 a w hg b k cs
  have key : ∀ m, ∀ i a w, μ i = m → I i → Good n w0 (E i) (H i) a w →
      ∃ e a' w', Post n w0 K e a' w' ∧ Arrives P (lone (b.at a (.code c :: .inLoop c :: k)) cs w) b k cs e a' w' := by
    intro m
    induction m using Nat.strongRecOn with
    | _ m ih =>
      intro i a w hm hI hgi
      obtain ⟨e, a1, w1, ⟨σ1, S1, hg1, hk1⟩, harr⟩ := round i hI w0 a w hgi b (.inLoop c :: k) cs
      cases e with
      | normal =>
        obtain ⟨j, hIj, hlt, hEj, hHj⟩ := hk1
        obtain ⟨e2, a2, w2, hq2, harr2⟩ := ih (μ j) (hm ▸ hlt) j a1 w1 rfl hIj (hg1.weak hEj hHj)
        exact ⟨e2, a2, w2, hq2, .of_steps (Steps.trans harr (.one step_inLoop)) harr2⟩
      | exit id => exact ⟨_, a1, w1, ⟨σ1, S1, hg1, hk1⟩, .pass (x := .inLoop c) rfl (fun _ _ => .inl (by simp)) harr⟩
      | goto l => exact ⟨_, a1, w1, ⟨σ1, S1, hg1, hk1⟩, .pass (x := .inLoop c) rfl (fun _ _ => .inl (by simp)) harr⟩
      | ret => exact ⟨_, a1, w1, ⟨σ1, S1, hg1, hk1⟩, .pass (x := .inLoop c) rfl (fun _ _ => .inl (by simp)) harr⟩
      | panic ch => exact ⟨_, a1, w1, ⟨σ1, S1, hg1, hk1⟩, .pass (x := .inLoop c) rfl (fun _ _ => .inl (by simp)) harr⟩
      | outgrown => exact ⟨_, a1, w1, ⟨σ1, S1, hg1, hk1⟩, .pass (x := .inLoop c) rfl (fun _ _ => .inl (by simp)) harr⟩
  obtain ⟨e, a', w', hq, harr⟩ := key _ i0 a w rfl h0 (hg.weak hE hH)
  exact ⟨e, a', w', hq, .of_steps (.one step_loop) harr⟩

/-- A loop, with what it leaves alone of the frame named once. -/
theorem CW.loopT {ι : Type} {P n c σ S K} (τ : Env) (hτ : leE τ σ) (I : ι → Prop) (E : ι → Env → Env) (H : ι → HL) (μ : ι → Nat) (i0 : ι) (h0 : I i0)
    (hE : leE (E i0 τ) σ) (hH : (H i0).Sublist S)
    (round : ∀ i, I i → CW P n c (E i τ) (H i) (thenK (fun σ' S' => ∃ j, I j ∧ μ j < μ i ∧ leE (E j τ) σ' ∧ (H j).Sublist S') K)) : CW P n (.loop c) σ S K :=
  CW.loop I (fun i => E i τ) H μ i0 h0 hE hH round
theorem CW.loopT2 {α β : Type} {P n c σ S K} (τ : Env) (hτ : leE τ σ) (I : α → β → Prop) (E : α → β → Env → Env) (H : α → β → HL) (μ : α → β → Nat) (i0 : α) (i1 : β) (h0 : I i0 i1)
    (hE : leE (E i0 i1 τ) σ) (hH : (H i0 i1).Sublist S)
    (round : ∀ i k, I i k → CW P n c (E i k τ) (H i k) (thenK (fun σ' S' => ∃ j l, I j l ∧ μ j l < μ i k ∧ leE (E j l τ) σ' ∧ (H j l).Sublist S') K)) : CW P n (.loop c) σ S K :=
  CW.loop (ι := α × β) (fun x => I x.1 x.2) (fun x => E x.1 x.2 τ) (fun x => H x.1 x.2) (fun x => μ x.1 x.2) (i0, i1) h0 hE hH fun x hx => by
    refine CW.mono (round x.1 x.2 hx) ?_
    rintro e σ' S' hk
    cases e with
    | normal => obtain ⟨j, l, h1, h2, h3, h4⟩ := hk; exact ⟨(j, l), h1, h2, h3, h4⟩
    | _ => exact hk
theorem CW.loopT3 {α β γ : Type} {P n c σ S K} (τ : Env) (hτ : leE τ σ) (I : α → β → γ → Prop) (E : α → β → γ → Env → Env) (H : α → β → γ → HL) (μ : α → β → γ → Nat) (i0 : α) (i1 : β) (i2 : γ) (h0 : I i0 i1 i2)
    (hE : leE (E i0 i1 i2 τ) σ) (hH : (H i0 i1 i2).Sublist S)
    (round : ∀ i k m, I i k m → CW P n c (E i k m τ) (H i k m) (thenK (fun σ' S' => ∃ j l q, I j l q ∧ μ j l q < μ i k m ∧ leE (E j l q τ) σ' ∧ (H j l q).Sublist S') K)) : CW P n (.loop c) σ S K :=
  CW.loop (ι := α × β × γ) (fun x => I x.1 x.2.1 x.2.2) (fun x => E x.1 x.2.1 x.2.2 τ) (fun x => H x.1 x.2.1 x.2.2) (fun x => μ x.1 x.2.1 x.2.2) (i0, i1, i2) h0 hE hH fun x hx => by
    refine CW.mono (round x.1 x.2.1 x.2.2 hx) ?_
    rintro e σ' S' hk
    cases e with
    | normal => obtain ⟨j, l, q, h1, h2, h3, h4⟩ := hk; exact ⟨(j, l, q), h1, h2, h3, h4⟩
    | _ => exact hk
theorem CW.seqCutT {ι : Type} {P n x y σ S K} (τ : Env) (hτ : leE τ σ) (I : ι → Prop) (E : ι → Env → Env) (H : ι → HL)
    (h : CW P n x σ S (thenK (fun σ' S' => ∃ i, I i ∧ leE (E i τ) σ' ∧ (H i).Sublist S') K)) (h2 : ∀ i, I i → CW P n y (E i τ) (H i) K) : CW P n (.seq x y) σ S K := by
  refine CW.seq (CW.mono h ?_)
  rintro e σ' S' hk
  cases e with
  | normal =>
    obtain ⟨i, hI, hE, hH⟩ := hk
    exact CW.weak hE hH (h2 i hI)
  | _ => exact hk

/-! ### a function -/
theorem Sat.weakT {w0 S T w} (h : Sat w0 S w) (hT : T.Sublist S) : Sat w0 T w :=
  ⟨h.nd.sublist (hT.map _), fun p hp => h.get p (hT.subset hp), h.os, h.tape, h.output, h.size⟩
theorem Sat.permT {w0 S T w} (h : Sat w0 S w) (hT : T.Perm S) : Sat w0 T w :=
  ⟨(hT.map _).nodup_iff.2 h.nd, fun p hp => h.get p (hT.subset hp), h.os, h.tape, h.output, h.size⟩
theorem Sat.weak {w0 S T w} (h : Sat w0 S w) (hT : T.Sublist S) : Sat w0 T w := h.weakT hT
theorem Sat.perm {w0 S T w} (h : Sat w0 S w) (hT : T.Perm S) : Sat w0 T w := h.permT hT
theorem Sat.refl {S w} (nd : (S.map (·.1)).Nodup) (get : ∀ p ∈ S, w.heap[p.1]? = some p.2) : Sat w S w := ⟨nd, get, rfl, rfl, rfl, Nat.le_refl _⟩

def argsE : Nat → List Value → Env
  | _, [] => []
  | i, v :: r => (i, v) :: argsE (i + 1) r
theorem look_argsE (l : List Value) : ∀ i t v, look0 (argsE i l) t = some v → i ≤ t ∧ l[t - i]? = some v := by
  induction l with
  | nil => intro i t v h; simp [argsE, look0] at h
  | cons x r ih =>
    intro i t v h
    by_cases e : i = t
    · subst e; simp only [argsE, look0_cons_eq, Option.some.injEq] at h; simp [h]
    · simp only [argsE, look0_cons_ne _ _ e] at h
      obtain ⟨h1, h2⟩ := ih (i + 1) t v h
      refine ⟨by omega, ?_⟩
      rw [show t - i = (t - (i + 1)) + 1 from by omega]
      simpa using h2

/-- What a frame's results are. -/
def ResOk (P : Program) (fn : Func) (σ : Env) (S : HL) (v : Value) : Prop :=
  ∀ w0 tmps w, (∀ t u, look σ t = some u → tmps.getD t undef = u) → Sat w0 S w → (results fn tmps).run P w = .ok v w

def retK (P : Program) (fn : Func) (K : Value → HL → Prop) : KK
  | .normal, σ, S | .ret, σ, S => ∃ v T, ((look0 σ MK = none ∧ ResOk P fn σ S v ∧ T.Sublist S) ∨
      (∃ D R, look0 σ MK = some (.pointer (some ⟨D, 0, none⟩)) ∧ S.Perm ((D, .deferred (some [])) :: R) ∧ ResOk P fn σ R v ∧ T.Sublist R)) ∧ K v T
  | _, _, _ => False

theorem Sat.putOther {w0 : World} {D : Nat} {o o' : Obj} {R : HL} {w : World} (h : Sat w0 ((D, o) :: R) w) : Sat w0 R (w.putObj D o') := by
  have hnd := h.nd
  simp only [List.map_cons, List.nodup_cons] at hnd
  refine ⟨hnd.2, fun p hp => ?_, h.os, h.tape, h.output, by simp [World.putObj]; exact h.size⟩
  have hne : D ≠ p.1 := fun e => hnd.1 (e ▸ List.mem_map_of_mem (f := (·.1)) hp)
  rw [World.putObj_heap_other hne.symm]
  exact h.get p (List.mem_cons_of_mem _ hp)

theorem CallS.enter {P f fn c n args S K} (hf : P.funcs[f]? = some fn) (hb : fn.body = some c) (hn : fn.ntmps = n) (hle : args.length ≤ n)
    (h : CW P n c (argsE 0 args) S (retK P fn K)) (hM : Nat.ble n MK = true := by rfl) : CallS P f ⟨args⟩ S K := by
  intro w0 w hs
  have hM' : n ≤ MK := Nat.le_of_ble_eq_true hM
  refine callsIn_wide.1 (callsIn_of_wp_marks (F := Fence.wide) (n := 0) hf hb trivial (wpIn_wide.2 ?_))
  have hg : Good n w0 (argsE 0 args) S { tmps := ⟨args⟩ ++ Array.replicate (fn.ntmps - (⟨args⟩ : Array Value).size) undef, defers := [] } w := by
    have hnone : look0 (argsE 0 args) MK = none := by
      cases hl : look0 (argsE 0 args) MK with
      | none => rfl
      | some v =>
        obtain ⟨_, h2⟩ := look_argsE args 0 MK v hl
        rw [List.getElem?_eq_none (by omega)] at h2
        cases h2
    refine ⟨⟨⟨(dfs_none hnone).symm, hM'⟩, by simp [hn]; omega, fun t v ht => ?_⟩, hs⟩
    obtain ⟨_, h2⟩ := look_argsE args 0 t v (look_lt ht).2
    simp only [Nat.sub_zero] at h2
    have hlt : t < args.length := by
      rcases Nat.lt_or_ge t args.length with h | h
      · exact h
      · simp [List.getElem?_eq_none h] at h2
    have h3 : args[t] = v := by simpa [List.getElem?_eq_getElem hlt] using h2
    simp [Array.getElem?_append, hlt, h3]
  refine wp_mono (h w0 _ w hg) ?_
  have key : ∀ (σ' : Env) (S' : HL) (a' : Act) (w' : World), Good n w0 σ' S' a' w' →
      (∃ v T, ((look0 σ' MK = none ∧ ResOk P fn σ' S' v ∧ T.Sublist S') ∨
        (∃ D R, look0 σ' MK = some (.pointer (some ⟨D, 0, none⟩)) ∧ S'.Perm ((D, .deferred (some [])) :: R) ∧ ResOk P fn σ' R v ∧ T.Sublist R)) ∧ K v T) →
      LeavesInM Fence.wide 0 P fn a'.tmps (fun e w' => ∃ v S', e = .returned v ∧ Sat w0 S' w' ∧ K v S') a'.defers .returning w' := by
    rintro σ' S' a' w' hg' ⟨v, T, hh, hk⟩
    rcases hh with ⟨hn0, hr, hT⟩ | ⟨D, R, hm, hp, hr, hT⟩
    · rw [hg'.fr.1.1, dfs_none hn0]
      exact ⟨v, hr w0 a'.tmps w' hg'.fr.2.2 hg'.sat, v, T, rfl, hg'.sat.weakT hT, hk⟩
    · have hd : a'.defers = [{ target := .collected D, args := #[] }] := by rw [hg'.fr.1.1]; simp only [dfs, hm]
      rw [hd]
      have hs2 := hg'.sat.permT hp.symm
      refine ⟨by simp, .inl ⟨D, _, rfl, run_takeDeferred (hs2.get _ List.mem_cons_self), ?_⟩⟩
      exact ⟨v, hr w0 a'.tmps _ hg'.fr.2.2 hs2.putOther, v, T, rfl, hs2.putOther.weakT hT, hk⟩
  rintro e a' w' ⟨σ', S', hg', hk⟩
  cases e with
  | normal => exact key σ' S' a' w' hg' hk
  | ret => exact key σ' S' a' w' hg' hk
  | _ => exact hk.elim

theorem CallS.mono {P f args S K K'} (h : CallS P f args S K) (hk : ∀ v S', K v S' → K' v S') : CallS P f args S K' :=
  fun w0 w hs => (h w0 w hs).mono fun _ _ ⟨v, S', he, hs', k⟩ => ⟨v, S', he, hs', hk _ _ k⟩
theorem CallS.perm {P f args S T K} (h : CallS P f args T K) (hT : T.Perm S) : CallS P f args S K :=
  fun w0 w hs => h w0 w (hs.perm hT)
theorem CallS.weak {P f args S T K} (h : CallS P f args T K) (hT : T.Sublist S) : CallS P f args S K :=
  fun w0 w hs => h w0 w (hs.weak hT)

end Go.Sl

/- The engine, part B: memory: loads, stores, new blocks. -/
set_option linter.unusedVariables false
namespace Go.Sl

abbrev UT (P : Program) (t : TypeId) (d : TypeDesc) : Prop := ∀ w, (underlying t).run P w = .ok d w
abbrev SZ (P : Program) (t : TypeId) (n : Nat) : Prop := ∀ w, (sizeOf t).run P w = .ok n w
abbrev AG (P : Program) (t : TypeId) (b : Bool) : Prop := ∀ w, (isAgg t).run P w = .ok b w
abbrev ZV (P : Program) (t : TypeId) (v : Value) : Prop := ∀ w, (zeroValue t).run P w = .ok v w
abbrev TI (P : Program) (t : TypeId) (i : TypeInfo) : Prop := ∀ w, (typeInfo t).run P w = .ok i w

/-- A row of cells that may be written. -/
abbrev blk (l : List Value) (T : TypeId) : Obj := .cells ⟨l⟩ T (0, 0)
abbrev ptr (b off : Nat) : Value := .pointer (some ⟨b, off, none⟩)
abbrev sl (b off len cap : Nat) : Value := .slice (some ⟨b, off, none⟩) len cap

inductive Upd : HL → Nat → Obj → Obj → HL → Prop
  | head {b o o' S} : Upd ((b, o) :: S) b o o' ((b, o') :: S)
  | tail {x S b o o' S'} : Upd S b o o' S' → Upd (x :: S) b o o' (x :: S')

theorem Upd.tailA {X S b o o' S'} (h : Upd S b o o' S') : Upd (X ++ S) b o o' (X ++ S') := by
  induction X with
  | nil => exact h
  | cons x X ih => exact .tail ih
theorem Upd.mem {S b o o' S'} (h : Upd S b o o' S') : (b, o) ∈ S := by
  induction h with
  | head => exact List.mem_cons_self
  | tail _ ih => exact List.mem_cons_of_mem _ ih
theorem Upd.keys {S b o o' S'} (h : Upd S b o o' S') : S'.map (·.1) = S.map (·.1) := by
  induction h with
  | head => rfl
  | tail _ ih => simp [ih]
theorem Upd.mem' {S b o o' S'} (h : Upd S b o o' S') (nd : (S.map (·.1)).Nodup) : ∀ p ∈ S', (p.1 = b ∧ p.2 = o') ∨ (p.1 ≠ b ∧ p ∈ S) := by
  induction h with
  | @head b o o' S =>
    intro p hp
    simp only [List.map_cons, List.nodup_cons] at nd
    rcases List.mem_cons.1 hp with rfl | hp
    · exact .inl ⟨rfl, rfl⟩
    · refine .inr ⟨fun e => nd.1 ?_, List.mem_cons_of_mem _ hp⟩
      rw [← e]; exact List.mem_map_of_mem hp
  | @tail x S b o o' S' hu ih =>
    intro p hp
    simp only [List.map_cons, List.nodup_cons] at nd
    rcases List.mem_cons.1 hp with rfl | hp
    · refine .inr ⟨fun e => nd.1 ?_, List.mem_cons_self⟩
      rw [e]; exact List.mem_map_of_mem (f := (·.1)) hu.mem
    · rcases ih nd.2 p hp with h | h
      · exact .inl h
      · exact .inr ⟨h.1, List.mem_cons_of_mem _ h.2⟩

theorem Sat.lt {w0 S w} (h : Sat w0 S w) {b o} (hm : (b, o) ∈ S) : b < w.heap.size := by
  have := h.get _ hm
  rcases Nat.lt_or_ge b w.heap.size with h' | h'
  · exact h'
  · simp [Array.getElem?_eq_none h'] at this

/-- The blocks S lie in w. -/
def Held (S : HL) (w : World) : Prop := ∀ p ∈ S, w.heap[p.1]? = some p.2
theorem Sat.held {w0 S w} (h : Sat w0 S w) : Held S w := h.get
theorem Held.cell {S w} (h : Held S w) {b c T fr} (hm : (b, Obj.cells c T fr) ∈ S) (off : Nat) : w.cell? ⟨b, off, none⟩ = c[off]? := by
  have := h _ hm
  simp only at this
  simp [World.cell?, this]
theorem Sat.cell {w0 S w} (h : Sat w0 S w) {b c T fr} (hm : (b, Obj.cells c T fr) ∈ S) (off : Nat) : w.cell? ⟨b, off, none⟩ = c[off]? := h.held.cell hm off

theorem Sat.shape {w0 S w} (h : Sat w0 S w) {b c T fr} (hm : (b, Obj.cells c T fr) ∈ S) : w.shape? b = some (T, c.size) := by
  have := h.get _ hm
  simp only at this
  simp [World.shape?, this]

theorem Sat.alloc {w0 S w} (h : Sat w0 S w) (o : Obj) : Sat w0 ((w.heap.size, o) :: S) { w with heap := w.heap.push o } := by
  refine ⟨?_, ?_, h.os, h.tape, h.output, by simp; have := h.size; omega⟩
  · simp only [List.map_cons, List.nodup_cons]
    refine ⟨fun hm => ?_, h.nd⟩
    obtain ⟨p, hp, he⟩ := List.mem_map.1 hm
    have := h.lt (b := p.1) (o := p.2) hp
    omega
  · intro p hp
    rcases List.mem_cons.1 hp with rfl | hp
    · simp
    · have h1 := h.get p hp
      have h2 := h.lt (b := p.1) (o := p.2) hp
      rw [Array.getElem?_push, if_neg (by omega)]
      exact h1

theorem Sat.drawn {w0 S w} (h : Sat w0 S w) (k : Nat) : Sat w0 S { w with drawn := k } := ⟨h.nd, h.get, h.os, h.tape, h.output, h.size⟩

/-- The world with block b's cells changed. -/
theorem Sat.put {w0 S S' w w' : _} {b : Nat} {o o' : Obj} (h : Sat w0 S w) (hu : Upd S b o o' S') (hb : w'.heap[b]? = some o') (hne : ∀ k, k ≠ b → w'.heap[k]? = w.heap[k]?)
    (hos : w'.os = w.os) (ht : w'.tape = w.tape) (ho : w'.output = w.output) (hs : w'.heap.size = w.heap.size) : Sat w0 S' w' := by
  refine ⟨by rw [hu.keys]; exact h.nd, fun p hp => ?_, hos.trans h.os, ht.trans h.tape, ho.trans h.output, by rw [hs]; exact h.size⟩
  rcases hu.mem' h.nd p hp with ⟨h1, h2⟩ | ⟨h1, h2⟩
  · rw [h1, h2]; exact hb
  · rw [hne _ h1]; exact h.get p h2

/-! ### loads -/
theorem run_loadVar1 {P : Program} {S w b c T fr t off v} (hs : Held S w) (hm : (b, Obj.cells c T fr) ∈ S) (ha : AG P t false) (hv : c[off]? = some v) :
    (loadVar t ⟨b, off, none⟩).run P w = .ok v w := by
  have hc := hs.cell hm off
  rw [hv] at hc
  simp [loadVar, ha w, hc]

theorem Addr.add_none (b off n : Nat) : (Addr.add ⟨b, off, none⟩ n) = ⟨b, off + n, none⟩ := by
  unfold Addr.add; split
  · rename_i h; simp [h]
  · rfl

theorem run_loadCellsFrom {P : Program} {w : World} {b : Nat} {c : Array Value} (hc : ∀ off, w.cell? ⟨b, off, none⟩ = c[off]?) :
    ∀ (n i off : Nat) (acc : Array Value), off + i + n ≤ c.size →
      (loadCellsFrom ⟨b, off, none⟩ i n acc).run P w = .ok (acc ++ ⟨(c.toList.drop (off + i)).take n⟩) w := by
  intro n
  induction n with
  | zero => intro i off acc _; simp [loadCellsFrom]
  | succ n ih =>
    intro i off acc h
    have h1 := hc (off + i)
    have hlt : off + i < c.size := by omega
    rw [Array.getElem?_eq_getElem hlt] at h1
    have := ih (i + 1) off (acc.push c[off + i]) (by omega)
    simp only [loadCellsFrom, Sem.run_bind, run_load, Addr.add_none, h1, Result.andThen_ok, this]
    congr 1
    apply Array.ext'
    simp only [Array.toList_append, Array.toList_push]
    have hlt' : off + i < c.toList.length := by simpa using hlt
    rw [List.drop_eq_getElem_cons hlt', List.take_succ_cons]
    simp [Nat.add_assoc]

theorem run_loadVarN {P : Program} {S w b l T fr t off n} (hs : Held S w) (hm : (b, Obj.cells ⟨l⟩ T fr) ∈ S) (ha : AG P t true) (hn : SZ P t n) (hle : off + n ≤ l.length) :
    (loadVar t ⟨b, off, none⟩).run P w = .ok (.agg ⟨(l.drop off).take n⟩) w := by
  have := run_loadCellsFrom (P := P) (w := w) (b := b) (c := ⟨l⟩) (fun off => hs.cell hm off) n 0 off #[] (by simpa using hle)
  simp [loadVar, ha w, hn w, loadCells, this]

/-! ### stores -/
def oneB : Value → Bool
  | .agg _ | .tuple _ => false
  | _ => true
theorem oneB_eq (v : Value) : oneB v = v.oneCell' := by cases v <;> rfl

def wrL {α : Type} (l : List α) (off : Nat) (vs : List α) : List α := l.take off ++ vs ++ l.drop (off + vs.length)

theorem wrL_nil (l : List Value) (off : Nat) : wrL l off [] = l := by simp [wrL]
theorem wrL_cons {l : List Value} {off : Nat} (v : Value) (vs : List Value) (h : off < l.length) : wrL l off (v :: vs) = wrL (l.set off v) (off + 1) vs := by
  simp only [wrL, List.length_cons]
  rw [List.take_add_one, List.getElem?_set_self (by simpa using h)]
  simp only [Option.toList_some, List.append_assoc, List.singleton_append]
  congr 1
  · simp [List.take_set]
    rw [List.set_eq_of_length_le (by simp; omega)]
  · rw [List.drop_set, if_pos (by omega), show off + (vs.length + 1) = off + 1 + vs.length from by omega]
theorem wrL_length {l : List Value} {off : Nat} {vs : List Value} (h : off + vs.length ≤ l.length) : (wrL l off vs).length = l.length := by
  simp [wrL]; omega
theorem wrL_one {l : List Value} {off : Nat} (v : Value) (h : off < l.length) : wrL l off [v] = l.set off v := by
  rw [wrL_cons v [] h, wrL_nil]

theorem run_storeCells {P : Program} {w0 : World} {b T : Nat} :
    ∀ (vs : List Value) (off i : Nat) (l : List Value) (S S' : HL) (w : World), Sat w0 S w → Upd S b (blk l T) (blk (wrL l (off + i) vs) T) S' →
      off + i + vs.length ≤ l.length → vs.all oneB = true →
      ∃ w', (storeCells ⟨b, off, none⟩ vs i).run P w = .ok () w' ∧ Sat w0 S' w' := by
  intro vs
  induction vs with
  | nil =>
    intro off i l S S' w hs hu _ _
    rw [wrL_nil] at hu
    refine ⟨w, rfl, ?_⟩
    refine hs.put hu ?_ (fun _ _ => rfl) rfl rfl rfl rfl
    exact hs.get _ hu.mem
  | cons v vs ih =>
    intro off i l S S' w hs hu hle hone
    simp only [List.length_cons] at hle
    simp only [List.all_cons, Bool.and_eq_true] at hone
    have hlt : off + i < l.length := by omega
    have hcell : w.cell? ⟨b, off + i, none⟩ = some l[off + i] := by
      have := hs.cell hu.mem (off + i)
      simpa [List.getElem?_eq_getElem hlt] using this
    have hfz : w.frozen? ⟨b, off + i, none⟩ = false := by
      have := hs.get _ hu.mem
      simp only at this
      simp [World.frozen?, this]
    have hgb := hs.get _ hu.mem
    simp only at hgb
    have hbl := hs.lt hu.mem
    rw [wrL_cons v vs hlt] at hu
    -- the block in between
    obtain ⟨S1, hu1⟩ : ∃ S1, Upd S b (blk l T) (blk (l.set (off + i) v) T) S1 := by
      have : ∀ {S b o o2 S'}, Upd S b o o2 S' → ∀ o1, ∃ S1, Upd S b o o1 S1 := by
        intro S b o o2 S' h
        induction h with
        | head => intro o1; exact ⟨_, .head⟩
        | tail _ ih => intro o1; obtain ⟨S1, h1⟩ := ih o1; exact ⟨_, .tail h1⟩
      exact this hu _
    have hu2 : Upd S1 b (blk (l.set (off + i) v) T) (blk (wrL (l.set (off + i) v) (off + i + 1) vs) T) S' := by
      have : ∀ {S b o o1 S1}, (S.map (·.1)).Nodup → Upd S b o o1 S1 → ∀ {o2 S'}, Upd S b o o2 S' → Upd S1 b o1 o2 S' := by
        intro S b o o1 S1 nd h1
        induction h1 with
        | @head b o o' S =>
          intro o2 S' h2
          cases h2 with
          | head => exact .head
          | tail h2 =>
            simp only [List.map_cons, List.nodup_cons] at nd
            exact absurd (List.mem_map_of_mem (f := (·.1)) h2.mem) nd.1
        | tail h1 ih =>
          intro o2 S' h2
          simp only [List.map_cons, List.nodup_cons] at nd
          cases h2 with
          | head => exact absurd (List.mem_map_of_mem (f := (·.1)) h1.mem) nd.1
          | tail h2 => exact .tail (ih nd.2 h2)
      exact this hs.nd hu1 hu
    have hs1 : Sat w0 S1 (w.setCell ⟨b, off + i, none⟩ v) := by
      refine hs.put hu1 ?_ ?_ rfl rfl rfl (by simp [World.setCell])
      · simp only [World.setCell, Array.getElem?_modify, hgb]
        simp
      · intro k hk
        simp only [World.setCell, Array.getElem?_modify]
        rw [if_neg (fun e => hk e.symm)]
    obtain ⟨w', hr, hs'⟩ := ih off (i + 1) (l.set (off + i) v) S1 S' _ hs1 hu2 (by simp; omega) hone.2
    refine ⟨w', ?_, hs'⟩
    simp only [storeCells, Sem.run_bind, Addr.add_none]
    rw [run_store P w _ v .plain (by rw [← oneB_eq]; exact hone.1), hcell]
    simp only [hfz, Bool.false_eq_true, if_false, Result.andThen_ok]
    exact hr

theorem run_storeVar {P : Program} {w0 S S' w b l T t off n} {v : Value} (hs : Sat w0 S w) (hn : SZ P t n) (hv : v.cells.size = n)
    (hu : Upd S b (blk l T) (blk (wrL l off v.cells.toList) T) S') (hle : off + n ≤ l.length) (hone : v.cells.toList.all oneB = true) :
    ∃ w', (storeVar t ⟨b, off, none⟩ v).run P w = .ok () w' ∧ Sat w0 S' w' := by
  obtain ⟨w', hr, hs'⟩ := run_storeCells (P := P) (w0 := w0) v.cells.toList off 0 l S S' w hs hu (by simp [hv]; exact hle) hone
  refine ⟨w', ?_, hs'⟩
  simp [storeVar, hn w, hv, hr]

end Go.Sl

/- The engine, part C: what each operation comes to. -/
set_option linter.unusedVariables false
namespace Go.Sl
variable {P : Program} {n : Nat} {σ : Env} {S : HL} {K : Env → HL → Prop} {d : Nat} {dst : Option Nat} {ty : TypeId} {pos : String} {aft : Array Edge} {g : Option (Nat × Bool)}

theorem OW.pure_ {o : Oper} {v : Value} (hd : o.dst = some d) (hr : ∀ ρ w, Ext σ ρ → (execOp ρ o).run P w = .ok (.value v) w)
    (hk : K ((d, v) :: σ) S) : OW P n o σ S K := by
  intro w0 ρ w hx hs
  rw [hr ρ w hx]
  exact ⟨S, hs, by rw [hd]; exact hk⟩

/-- In every world that holds the blocks H the operation tells v, and changes nothing. -/
def QW (P : Program) (H : HL) (o : Oper) (σ : Env) (v : Value) : Prop :=
  ∀ ρ w, Ext σ ρ → Held H w → (execOp ρ o).run P w = .ok (.value v) w
theorem OW.q {o : Oper} {v : Value} (hd : o.dst = some d) (hq : QW P S o σ v) (hk : K ((d, v) :: σ) S) : OW P n o σ S K := by
  intro w0 ρ w hx hs
  rw [hq ρ w hx hs.held]
  exact ⟨S, hs, by rw [hd]; exact hk⟩
theorem RL.q {ops : Array Oper} {o : Oper} {os : List Oper} {v : Value} {K : KK} (hg : o.guard = none) (hd : o.dst = some d) (hq : QW P S o σ v) (hk : RL P n ops os ((d, v) :: σ) S K) :
    RL P n ops (o :: os) σ S K := RL.cons hg (OW.q hd hq hk)

theorem OW.run_ {o : Oper} (hd : o.dst = some d) (hr : ∀ w0 ρ w, Ext σ ρ → Sat w0 S w → ∃ v w' S', (execOp ρ o).run P w = .ok (.value v) w' ∧ Sat w0 S' w' ∧ K ((d, v) :: σ) S') :
    OW P n o σ S K := by
  intro w0 ρ w hx hs
  obtain ⟨v, w', S', h1, h2, h3⟩ := hr w0 ρ w hx hs
  rw [h1]
  exact ⟨S', h2, by rw [hd]; exact h3⟩

section plain
variable {x y c : Operand} {v vx vy : Value}
theorem QW.move (hx : ev σ x = some v) : QW P S ⟨dst, .move x, ty, pos, aft, g⟩ σ (v) :=
  fun ρ w hρ _ => (by simp [execOp, hρ x v hx])
theorem QW.assign (hx : ev σ x = some v) : QW P S ⟨dst, .assign x, ty, pos, aft, g⟩ σ (v) :=
  fun ρ w hρ _ => (by simp [execOp, hρ x v hx])
theorem QW.pick_t (hc : ev σ c = some (.bool true)) (hx : ev σ x = some vx) : QW P S ⟨dst, .pick c x y, ty, pos, aft, g⟩ σ (vx) :=
  fun ρ w hρ _ => (by simp [execOp, hρ c _ hc, hρ x _ hx, asBool])
theorem QW.pick_f (hc : ev σ c = some (.bool false)) (hx : ev σ y = some vy) : QW P S ⟨dst, .pick c x y, ty, pos, aft, g⟩ σ (vy) :=
  fun ρ w hρ _ => (by simp [execOp, hρ c _ hc, hρ y _ hx, asBool])
theorem QW.nilCheck {a : Addr} (hx : ev σ x = some (.pointer (some a))) : QW P S ⟨dst, .nilCheck x, ty, pos, aft, g⟩ σ (.pointer (some a)) :=
  fun ρ w hρ _ => (by simp [execOp, hρ x _ hx])
theorem QW.not {b : Bool} {t : TypeId} (hx : ev σ x = some (.bool b)) : QW P S ⟨dst, .unOp .not t x, ty, pos, aft, g⟩ σ (.bool (!b)) :=
  fun ρ w hρ _ => (by simp [execOp, hρ x _ hx, Op.unary])
theorem QW.extract {vs : Array Value} {i : Nat} (hx : ev σ x = some (.tuple vs)) (hv : vs[i]? = some v) : QW P S ⟨dst, .extract x i, ty, pos, aft, g⟩ σ (v) :=
  fun ρ w hρ _ => (by simp [execOp, hρ x _ hx, Instr.extract, hv])
theorem QW.makeFunc {fn : Fn} {first captured : Array Operand} {vs ws : Array Value} (h1 : ∀ ρ, Ext σ ρ → first.map ρ = vs) (h2 : ∀ ρ, Ext σ ρ → captured.map ρ = ws)
    : QW P S ⟨dst, .makeFunc fn first captured, ty, pos, aft, g⟩ σ (.func fn vs ws) :=
  fun ρ w hρ _ => (by simp [execOp, h1 ρ hρ, h2 ρ hρ, Instr.makeFunc])
end plain

section ints
variable {x y : Operand} {k : IntKind} {a b c : Int} {xT yT : TypeId}
theorem QW.add (hx : ev σ x = some (.int k a)) (hy : ev σ y = some (.int k b)) (hc : k.wrap (a + b) = c) :
    QW P S ⟨dst, .binOp .add xT x y yT, ty, pos, aft, g⟩ σ (.int k c) :=
  fun ρ w hρ _ => (by subst hc; simp [execOp, hρ x _ hx, hρ y _ hy, eqGuard, binOp, Op.intArith])
theorem QW.sub (hx : ev σ x = some (.int k a)) (hy : ev σ y = some (.int k b)) (hc : k.wrap (a - b) = c) :
    QW P S ⟨dst, .binOp .sub xT x y yT, ty, pos, aft, g⟩ σ (.int k c) :=
  fun ρ w hρ _ => (by subst hc; simp [execOp, hρ x _ hx, hρ y _ hy, eqGuard, binOp, Op.intArith])
theorem QW.mul (hx : ev σ x = some (.int k a)) (hy : ev σ y = some (.int k b)) (hc : k.wrap (a * b) = c) :
    QW P S ⟨dst, .binOp .mul xT x y yT, ty, pos, aft, g⟩ σ (.int k c) :=
  fun ρ w hρ _ => (by subst hc; simp [execOp, hρ x _ hx, hρ y _ hy, eqGuard, binOp, Op.intArith])
theorem QW.quo (hx : ev σ x = some (.int k a)) (hy : ev σ y = some (.int k b)) (h0 : b ≠ 0) (hc : k.wrap (a.tdiv b) = c) :
    QW P S ⟨dst, .binOp .quo xT x y yT, ty, pos, aft, g⟩ σ (.int k c) :=
  fun ρ w hρ _ => (by subst hc; simp [execOp, hρ x _ hx, hρ y _ hy, eqGuard, binOp, Op.intDiv, h0])
theorem QW.rem (hx : ev σ x = some (.int k a)) (hy : ev σ y = some (.int k b)) (h0 : b ≠ 0) (hc : a.tmod b = c) :
    QW P S ⟨dst, .binOp .rem xT x y yT, ty, pos, aft, g⟩ σ (.int k c) :=
  fun ρ w hρ _ => (by subst hc; simp [execOp, hρ x _ hx, hρ y _ hy, eqGuard, binOp, Op.intDiv, h0])

def bitsB (op : BinOp) (k : IntKind) (x y : Int) : Int :=
  let a := BitVec.ofInt k.bits x
  let b := BitVec.ofInt k.bits y
  k.wrap (match op with
    | .and => (a &&& b).toNat
    | .or => (a ||| b).toNat
    | .xor => (a ^^^ b).toNat
    | .andNot => (a &&& ~~~b).toNat
    | _ => 0)
theorem QW.and_ (hx : ev σ x = some (.int k a)) (hy : ev σ y = some (.int k b)) (hc : bitsB .and k a b = c) :
    QW P S ⟨dst, .binOp .and xT x y yT, ty, pos, aft, g⟩ σ (.int k c) :=
  fun ρ w hρ _ => (by subst hc; simp [execOp, hρ x _ hx, hρ y _ hy, eqGuard, binOp, Op.intBits, bitsB])
theorem QW.or_ (hx : ev σ x = some (.int k a)) (hy : ev σ y = some (.int k b)) (hc : bitsB .or k a b = c) :
    QW P S ⟨dst, .binOp .or xT x y yT, ty, pos, aft, g⟩ σ (.int k c) :=
  fun ρ w hρ _ => (by subst hc; simp [execOp, hρ x _ hx, hρ y _ hy, eqGuard, binOp, Op.intBits, bitsB])
theorem QW.xor_ (hx : ev σ x = some (.int k a)) (hy : ev σ y = some (.int k b)) (hc : bitsB .xor k a b = c) :
    QW P S ⟨dst, .binOp .xor xT x y yT, ty, pos, aft, g⟩ σ (.int k c) :=
  fun ρ w hρ _ => (by subst hc; simp [execOp, hρ x _ hx, hρ y _ hy, eqGuard, binOp, Op.intBits, bitsB])
theorem QW.andNot_ (hx : ev σ x = some (.int k a)) (hy : ev σ y = some (.int k b)) (hc : bitsB .andNot k a b = c) :
    QW P S ⟨dst, .binOp .andNot xT x y yT, ty, pos, aft, g⟩ σ (.int k c) :=
  fun ρ w hρ _ => (by subst hc; simp [execOp, hρ x _ hx, hρ y _ hy, eqGuard, binOp, Op.intBits, bitsB])
theorem QW.shl {k' : IntKind} (hx : ev σ x = some (.int k a)) (hy : ev σ y = some (.int k' b)) (h0 : 0 ≤ b) (hc : k.wrap (a * 2 ^ (min b.toNat k.bits)) = c) :
    QW P S ⟨dst, .binOp .shl xT x y yT, ty, pos, aft, g⟩ σ (.int k c) :=
  fun ρ w hρ _ => (by subst hc; simp [execOp, hρ x _ hx, hρ y _ hy, eqGuard, binOp, Op.shift, Int.not_lt.2 h0])
theorem QW.shr {k' : IntKind} (hx : ev σ x = some (.int k a)) (hy : ev σ y = some (.int k' b)) (h0 : 0 ≤ b) (hc : a.fdiv (2 ^ (min b.toNat k.bits)) = c) :
    QW P S ⟨dst, .binOp .shr xT x y yT, ty, pos, aft, g⟩ σ (.int k c) :=
  fun ρ w hρ _ => (by subst hc; simp [execOp, hρ x _ hx, hρ y _ hy, eqGuard, binOp, Op.shift, Int.not_lt.2 h0])
theorem QW.neg {t : TypeId} (hx : ev σ x = some (.int k a)) (hc : k.wrap (0 - a) = c) : QW P S ⟨dst, .unOp .neg t x, ty, pos, aft, g⟩ σ (.int k c) :=
  fun ρ w hρ _ => (by subst hc; simp [execOp, hρ x _ hx, Op.unary, Op.intArith])
theorem QW.com {t : TypeId} (hx : ev σ x = some (.int k a)) (hc : bitsB .xor k (if k.signed then -1 else k.max) a = c) : QW P S ⟨dst, .unOp .xor t x, ty, pos, aft, g⟩ σ (.int k c) :=
  fun ρ w hρ _ => (by subst hc; simp [execOp, hρ x _ hx, Op.unary, Op.intBits, bitsB])

-- comparisons: a Bool of one's own, told by an equivalence
theorem QW.lss {t : Bool} (hx : ev σ x = some (.int k a)) (hy : ev σ y = some (.int k b)) (ht : decide (a < b) = t) :
    QW P S ⟨dst, .binOp .lss xT x y yT, ty, pos, aft, g⟩ σ (.bool t) :=
  fun ρ w hρ _ => (by subst ht; simp [execOp, hρ x _ hx, hρ y _ hy, eqGuard, binOp, Op.intCmp])
theorem QW.leq {t : Bool} (hx : ev σ x = some (.int k a)) (hy : ev σ y = some (.int k b)) (ht : decide (a ≤ b) = t) :
    QW P S ⟨dst, .binOp .leq xT x y yT, ty, pos, aft, g⟩ σ (.bool t) :=
  fun ρ w hρ _ => (by subst ht; simp [execOp, hρ x _ hx, hρ y _ hy, eqGuard, binOp, Op.intCmp])
theorem QW.gtr {t : Bool} (hx : ev σ x = some (.int k a)) (hy : ev σ y = some (.int k b)) (ht : decide (b < a) = t) :
    QW P S ⟨dst, .binOp .gtr xT x y yT, ty, pos, aft, g⟩ σ (.bool t) :=
  fun ρ w hρ _ => (by subst ht; simp [execOp, hρ x _ hx, hρ y _ hy, eqGuard, binOp, Op.intCmp])
theorem QW.geq {t : Bool} (hx : ev σ x = some (.int k a)) (hy : ev σ y = some (.int k b)) (ht : decide (b ≤ a) = t) :
    QW P S ⟨dst, .binOp .geq xT x y yT, ty, pos, aft, g⟩ σ (.bool t) :=
  fun ρ w hρ _ => (by subst ht; simp [execOp, hρ x _ hx, hρ y _ hy, eqGuard, binOp, Op.intCmp])
theorem QW.eql {t : Bool} (hx : ev σ x = some (.int k a)) (hy : ev σ y = some (.int k b)) (ht : decide (a = b) = t) :
    QW P S ⟨dst, .binOp .eql xT x y yT, ty, pos, aft, g⟩ σ (.bool t) :=
  fun ρ w hρ _ => (by subst ht; simp [execOp, hρ x _ hx, hρ y _ hy, eqGuard, binOp, Op.intCmp]; rfl)
theorem QW.neq {t : Bool} (hx : ev σ x = some (.int k a)) (hy : ev σ y = some (.int k b)) (ht : decide (a = b) = !t) :
    QW P S ⟨dst, .binOp .neq xT x y yT, ty, pos, aft, g⟩ σ (.bool t) :=
  fun ρ w hρ _ => (by
    have : t = !decide (a = b) := by rw [ht]; simp
    subst this; simp [execOp, hρ x _ hx, hρ y _ hy, eqGuard, binOp, Op.intCmp, bne]; rfl)
theorem QW.neq' {p : Prop} [Decidable p] (hx : ev σ x = some (.int k a)) (hy : ev σ y = some (.int k b)) (ht : decide (a = b) = decide p) :
    QW P S ⟨dst, .binOp .neq xT x y yT, ty, pos, aft, g⟩ σ (.bool (!decide p)) := QW.neq hx hy (by rw [ht, Bool.not_not])
/-- Convert between whole numbers. -/
theorem QW.conv {k' : IntKind} {src dt : TypeId} {D : TypeDesc} (hs : UT P src D) (hD : UT P dt (.int k')) (hx : ev σ x = some (.int k a)) (hc : k'.wrap a = c) : 
    QW P S ⟨dst, .convert src dt x, ty, pos, aft, g⟩ σ (.int k' c) :=
  fun ρ w hρ _ => (by subst hc; simp [execOp, hρ x _ hx, convert, hs w, hD w, Conv.intToInt])
end ints

section mem
variable {x y : Operand} {b off : Nat}
theorem QW.load1 {t : TypeId} {l : List Value} {T : TypeId} {fr : Nat × Nat} {v : Value} (hx : ev σ x = some (ptr b off)) (ha : AG P t false) (hm : (b, Obj.cells ⟨l⟩ T fr) ∈ S)
    (hv : l[off]? = some v) : QW P S ⟨dst, .load t x, ty, pos, aft, g⟩ σ v :=
  fun ρ w hρ hs => by simp [execOp, hρ x _ hx, Instr.loadAt, Instr.sureAddr, run_loadVar1 hs hm ha (c := ⟨l⟩) (by simpa using hv)]
theorem QW.loadN {t : TypeId} {l : List Value} {T : TypeId} {fr : Nat × Nat} {m : Nat} {r : List Value} (hx : ev σ x = some (ptr b off)) (ha : AG P t true) (hn : SZ P t m) (hm : (b, Obj.cells ⟨l⟩ T fr) ∈ S)
    (hle : off + m ≤ l.length) (hr : (l.drop off).take m = r) : QW P S ⟨dst, .load t x, ty, pos, aft, g⟩ σ (.agg ⟨r⟩) :=
  fun ρ w hρ hs => by subst hr; simp [execOp, hρ x _ hx, Instr.loadAt, Instr.sureAddr, run_loadVarN hs hm ha hn hle]
theorem OW.store1 {t : TypeId} {l : List Value} {T : TypeId} {v : Value} {S' : HL} {l' : List Value} (hx : ev σ x = some (ptr b off)) (hy : ev σ y = some v) (hn : SZ P t 1) (h1 : oneB v = true) (hm : (b, blk l T) ∈ S)
    (hle : off < l.length) (hl : l.set off v = l') (hu : Upd S b (blk l T) (blk l' T) S') (hk : K σ S') : OW P n ⟨none, .store t x y, ty, pos, aft, g⟩ σ S K := by
  intro w0 ρ w hρ hs
  have hc : v.cells = #[v] := by cases v <;> simp_all [oneB, Value.cells]
  subst hl
  obtain ⟨w', hr, hs'⟩ := run_storeVar (P := P) (v := v) (off := off) (l := l) (T := T) (b := b) (S' := S') hs hn (by simp [hc]) (by rw [hc]; simp only [wrL_one v hle]; exact hu) (by omega) (by simp [hc, h1])
  simp only [execOp, hρ x _ hx, hρ y _ hy, Instr.storeAt, Instr.sureAddr]
  simp [hr]
  exact ⟨S', hs', hk⟩
theorem OW.storeN {t : TypeId} {l : List Value} {T : TypeId} {vs : List Value} {S' : HL} {m : Nat} {l' : List Value} (hx : ev σ x = some (ptr b off)) (hy : ev σ y = some (.agg ⟨vs⟩)) (hn : SZ P t m) (hm : (b, blk l T) ∈ S) (hlen : vs.length = m) (h1 : vs.all oneB = true)
    (hle : off + m ≤ l.length) (hl : wrL l off vs = l') (hu : Upd S b (blk l T) (blk l' T) S') (hk : K σ S') : OW P n ⟨none, .store t x y, ty, pos, aft, g⟩ σ S K := by
  intro w0 ρ w hρ hs
  subst hl
  obtain ⟨w', hr, hs'⟩ := run_storeVar (P := P) (v := .agg ⟨vs⟩) (off := off) hs hn (by simp [Value.cells, hlen]) (by simpa [Value.cells] using hu) (by omega) (by simpa [Value.cells] using h1)
  simp only [execOp, hρ x _ hx, hρ y _ hy, Instr.storeAt, Instr.sureAddr]
  simp [hr]
  exact ⟨S', hs', hk⟩
theorem OW.alloc {t : TypeId} {z : Value} {l : List Value} (hz : ZV P t z) (hl : z.cells = ⟨l⟩) (hk : ∀ b, K ((d, ptr b 0) :: σ) ((b, blk l t) :: S)) : OW P n ⟨some d, .alloc t, ty, pos, aft, g⟩ σ S K :=
  OW.run_ rfl fun w0 ρ w hρ hs => ⟨_, _, _, by simp [execOp, Instr.alloc, hz w, newVar, newRow, hl], hs.alloc _, hk _⟩
theorem OW.box1 {t : TypeId} {v : Value} (hx : ev σ x = some v) (h1 : oneB v = true) (hk : ∀ b, K ((d, ptr b 0) :: σ) ((b, blk [v] t) :: S)) : OW P n ⟨some d, .box t x, ty, pos, aft, g⟩ σ S K :=
  OW.run_ rfl fun w0 ρ w hρ hs => ⟨_, _, _, by
    have hc : v.cells = #[v] := by cases v <;> simp_all [oneB, Value.cells]
    simp [execOp, Instr.box, hρ x _ hx, newVar, newRow, hc], hs.alloc _, hk _⟩
theorem OW.boxN {t : TypeId} {l : List Value} (hx : ev σ x = some (.agg ⟨l⟩)) (hk : ∀ b, K ((d, ptr b 0) :: σ) ((b, blk l t) :: S)) : OW P n ⟨some d, .box t x, ty, pos, aft, g⟩ σ S K :=
  OW.run_ rfl fun w0 ρ w hρ hs => ⟨_, _, _, by
    simp [execOp, Instr.box, hρ x _ hx, newVar, newRow, Value.cells], hs.alloc _, hk _⟩
theorem QW.fieldAddr {s : TypeId} {fs : Array Field} {i : Nat} {f : Field} {m off' : Nat} (hs : UT P s (.struct fs)) (hf : fs[i]? = some f) (hn : SZ P f.type m) (h0 : m ≠ 0)
    (hx : ev σ x = some (ptr b off)) (ho : off + f.offset = off') : QW P S ⟨dst, .fieldAddr s x i, ty, pos, aft, g⟩ σ (ptr b off') :=
  fun ρ w hρ _ => (by
    subst ho
    simp [execOp, hρ x _ hx, Instr.fieldAt, hs w, hf, Instr.sureAddr, fieldPlace, hn w, h0, Addr.add_none])
theorem QW.field1 {s : TypeId} {fs : Array Field} {i : Nat} {f : Field} {l : List Value} {v : Value} (hs : UT P s (.struct fs)) (hf : fs[i]? = some f) (ha : AG P f.type false)
    (hx : ev σ x = some (.agg ⟨l⟩)) (hv : l[f.offset]? = some v) : QW P S ⟨dst, .field s x i, ty, pos, aft, g⟩ σ (v) :=
  fun ρ w hρ _ => (by
    simp [execOp, hρ x _ hx, Instr.field, hs w, hf, asAgg, part, ha w, hv])
theorem QW.indexAddrA {t elem len m off' : Nat} {k : IntKind} {i : Int} (ht : UT P t (.array len elem)) (hn : SZ P elem m) (hx : ev σ x = some (ptr b off)) (hy : ev σ y = some (.int k i))
    (h0 : 0 ≤ i) (h1 : i < len) (ho : off + i.toNat * m = off') : QW P S ⟨dst, .indexAddr t x y, ty, pos, aft, g⟩ σ (ptr b off') :=
  fun ρ w hρ _ => (by
    subst ho
    simp [execOp, hρ x _ hx, hρ y _ hy, Instr.indexAt, asIntOf, ht w, Instr.sureAddr, h0, h1, hn w, Addr.add_none])
theorem QW.indexAddrS {t elem m len cap off' : Nat} {k : IntKind} {i : Int} (ht : UT P t (.slice elem)) (hn : SZ P elem m) (hx : ev σ x = some (sl b off len cap)) (hy : ev σ y = some (.int k i))
    (h0 : 0 ≤ i) (h1 : i < len) (ho : off + i.toNat * m = off') : QW P S ⟨dst, .indexAddr t x y, ty, pos, aft, g⟩ σ (ptr b off') :=
  fun ρ w hρ _ => (by
    subst ho
    simp [execOp, hρ x _ hx, hρ y _ hy, Instr.indexAt, asIntOf, ht w, h0, h1, hn w, Addr.add_none])
theorem QW.index1 {t elem len : Nat} {k : IntKind} {i : Int} {l : List Value} {v : Value} (ht : UT P t (.array len elem)) (ha : AG P elem false) (hn : SZ P elem 1) (hx : ev σ x = some (.agg ⟨l⟩)) (hy : ev σ y = some (.int k i))
    (h0 : 0 ≤ i) (h1 : i < len) (hv : l[i.toNat]? = some v) : QW P S ⟨dst, .index t x y, ty, pos, aft, g⟩ σ (v) :=
  fun ρ w hρ _ => (by
    simp [execOp, hρ x _ hx, hρ y _ hy, Instr.index, asIntOf, ht w, h0, h1, hn w, part, ha w, hv])
end mem

/-- A call of a function by its name. -/
theorem OW.call {f : FuncId} {args : Array Operand} {ats : Array TypeId} {vs : List Value} (hf : ∀ (as : Array Value) w, (callFunc f as).run P w = .ok (.enter f as) w)
    (ha : ∀ ρ, Ext σ ρ → args.map ρ = ⟨vs⟩) (hk : CallS P f ⟨vs⟩ S fun v S' => K (putE σ dst v) S') :
    OW P n ⟨dst, .call { callee := .value (.func f), args := args, argTypes := ats }, ty, pos, aft, g⟩ σ S K := by
  intro w0 ρ w hρ hs
  have h1 : ρ (.func f) = .func (.func f) #[] #[] := hρ (.func f) _ rfl
  simp only [execOp, resolve, ha ρ hρ, h1, Deferred.ofValue]
  simp [invoke, hf]
  exact ⟨S, hs, hk⟩
/-- A call of a function value. -/
theorem OW.callV {f : FuncId} {x : Operand} {first captured : List Value} {args : Array Operand} {ats : Array TypeId} {vs : List Value} (hx : ev σ x = some (.func (.func f) ⟨first⟩ ⟨captured⟩))
    (hf : ∀ (as : Array Value) w, (callFunc f as).run P w = .ok (.enter f as) w)
    (ha : ∀ ρ, Ext σ ρ → args.map ρ = ⟨vs⟩) (hk : CallS P f ⟨first ++ vs ++ captured⟩ S fun v S' => K (putE σ dst v) S') :
    OW P n ⟨dst, .call { callee := .value x, args := args, argTypes := ats }, ty, pos, aft, g⟩ σ S K := by
  intro w0 ρ w hρ hs
  have h1 := hρ x _ hx
  have e : (⟨first⟩ : Array Value) ++ ⟨vs⟩ ++ ⟨captured⟩ = ⟨first ++ vs ++ captured⟩ := by simp
  simp only [execOp, resolve, ha ρ hρ, h1, Deferred.ofValue]
  simp [invoke, hf]
  simp at e
  exact ⟨S, hs, by simpa using hk⟩

theorem ext_nil {ρ : Operand → Value} : (#[] : Array Operand).map ρ = ⟨[]⟩ := by simp
theorem ext1 {x : Operand} {v : Value} (h : ev σ x = some v) : ∀ ρ, Ext σ ρ → (#[x] : Array Operand).map ρ = ⟨[v]⟩ := fun ρ hρ => by simp [hρ x v h]
theorem ext2 {x y : Operand} {v u : Value} (h : ev σ x = some v) (h2 : ev σ y = some u) : ∀ ρ, Ext σ ρ → (#[x, y] : Array Operand).map ρ = ⟨[v, u]⟩ := fun ρ hρ => by simp [hρ x v h, hρ y u h2]
theorem ext3 {x y z : Operand} {v u t : Value} (h : ev σ x = some v) (h2 : ev σ y = some u) (h3 : ev σ z = some t) : ∀ ρ, Ext σ ρ → (#[x, y, z] : Array Operand).map ρ = ⟨[v, u, t]⟩ := fun ρ hρ => by simp [hρ x v h, hρ y u h2, hρ z t h3]
theorem ext4 {x y z s : Operand} {v u t r : Value} (h : ev σ x = some v) (h2 : ev σ y = some u) (h3 : ev σ z = some t) (h4 : ev σ s = some r) : ∀ ρ, Ext σ ρ → (#[x, y, z, s] : Array Operand).map ρ = ⟨[v, u, t, r]⟩ := fun ρ hρ => by simp [hρ x v h, hρ y u h2, hρ z t h3, hρ s r h4]
theorem ext5 {x y z s q : Operand} {v u t r p : Value} (h : ev σ x = some v) (h2 : ev σ y = some u) (h3 : ev σ z = some t) (h4 : ev σ s = some r) (h5 : ev σ q = some p) : ∀ ρ, Ext σ ρ → (#[x, y, z, s, q] : Array Operand).map ρ = ⟨[v, u, t, r, p]⟩ := fun ρ hρ => by simp [hρ x v h, hρ y u h2, hρ z t h3, hρ s r h4, hρ q p h5]

/-! ### results -/
def resF (tmps : Array Value) : ResultVar → Sem Value
  | .tmp t => pure (tmps.getD t undef)
  | .cell x t => do loadVar t (← asAddr (tmps.getD x undef))
theorem results_eq (fn : Func) (tmps : Array Value) : results fn tmps = (do
    let vs ← fn.results.mapM (resF tmps)
    pure (if h : vs.size = 1 then vs[0] else .tuple vs)) := by
  have e : (fun r : ResultVar => match r with
    | .tmp t => (pure (tmps.getD t undef) : Sem Value)
    | .cell a t => do loadVar t (← asAddr (tmps.getD a undef))) = resF tmps := by
    funext r
    cases r <;> rfl
  rw [← e]
  rfl
def ResV (P : Program) (σ : Env) (S : HL) (r : ResultVar) (v : Value) : Prop :=
  ∀ w0 tmps w, (∀ t u, look σ t = some u → tmps.getD t undef = u) → Sat w0 S w → (resF tmps r).run P w = .ok v w
theorem ResV.tmp {t : Nat} {v : Value} (hv : look σ t = some v) : ResV P σ S (.tmp t) v := by
  intro w0 tmps w hg hs
  have := hg t v hv
  simp only [resF, this]
  rfl
theorem ResV.cell1 {t u b off : Nat} {l : List Value} {T : TypeId} {fr : Nat × Nat} {v : Value} (hx : look σ t = some (ptr b off)) (ha : AG P u false) (hm : (b, Obj.cells ⟨l⟩ T fr) ∈ S) (hv : l[off]? = some v) : ResV P σ S (.cell t u) v := by
  intro w0 tmps w hg hs
  have := hg t _ hx
  simp only [resF, this]
  simp [asAddr, run_loadVar1 hs.held hm ha (c := ⟨l⟩) (by simpa using hv)]
theorem ResV.cellN {t u b off m : Nat} {l r : List Value} {T : TypeId} {fr : Nat × Nat} (hx : look σ t = some (ptr b off)) (ha : AG P u true) (hn : SZ P u m) (hm : (b, Obj.cells ⟨l⟩ T fr) ∈ S) (hle : off + m ≤ l.length)
    (hr : (l.drop off).take m = r) : ResV P σ S (.cell t u) (.agg ⟨r⟩) := by
  intro w0 tmps w hg hs
  have := hg t _ hx
  subst hr
  simp only [resF, this]
  simp [asAddr, run_loadVarN hs.held hm ha hn hle]
theorem ResOk.zero {fn : Func} (h : fn.results = #[]) : ResOk P fn σ S (.tuple #[]) := by
  intro w0 tmps w hg hs
  simp [results_eq, h]
theorem ResOk.one {fn : Func} {r : ResultVar} {v : Value} (h : fn.results = #[r]) (h1 : ResV P σ S r v) : ResOk P fn σ S v := by
  intro w0 tmps w hg hs
  simp [results_eq, h, h1 w0 tmps w hg hs]
theorem ResOk.two {fn : Func} {r s : ResultVar} {v x : Value} (h : fn.results = #[r, s]) (h1 : ResV P σ S r v) (h2 : ResV P σ S s x) : ResOk P fn σ S (.tuple #[v, x]) := by
  intro w0 tmps w hg hs
  simp [results_eq, h, h1 w0 tmps w hg hs, h2 w0 tmps w hg hs]
theorem ResOk.three {fn : Func} {r s t : ResultVar} {v x y : Value} (h : fn.results = #[r, s, t]) (h1 : ResV P σ S r v) (h2 : ResV P σ S s x) (h3 : ResV P σ S t y) : ResOk P fn σ S (.tuple #[v, x, y]) := by
  intro w0 tmps w hg hs
  simp [results_eq, h, h1 w0 tmps w hg hs, h2 w0 tmps w hg hs, h3 w0 tmps w hg hs]
theorem ResOk.four {fn : Func} {r s t u : ResultVar} {v x y z : Value} (h : fn.results = #[r, s, t, u]) (h1 : ResV P σ S r v) (h2 : ResV P σ S s x) (h3 : ResV P σ S t y) (h4 : ResV P σ S u z) : ResOk P fn σ S (.tuple #[v, x, y, z]) := by
  intro w0 tmps w hg hs
  simp [results_eq, h, h1 w0 tmps w hg hs, h2 w0 tmps w hg hs, h3 w0 tmps w hg hs, h4 w0 tmps w hg hs]

end Go.Sl

/- The engine, part D: a region whose order is drawn: what only reads is taken first. -/
set_option linter.unusedVariables false
namespace Go.Sl

/-- Operation e waits for i, at once or by way of others. -/
def waits (ops : Array Oper) : Nat → Nat → Nat → Bool
  | 0, _, _ => false
  | k + 1, e, i => match ops[e]? with
    | none => false
    | some o => o.after.any fun ed => Region.binds .any ed && (ed.on == i || waits ops k ed.on i)
/-- Operation e waits for all others (or there is none of that number). -/
def lastOk (ops : Array Oper) (e : Nat) : Bool :=
  match ops[e]? with
  | none => true
  | some _ => (List.range ops.size).all fun j => j == e || waits ops ops.size e j
def closedB (ops : Array Oper) (listed : Array Bool) : Bool :=
  (List.range ops.size).all fun j => !listed.getD j false || match ops[j]? with
    | none => true
    | some o => o.after.all fun ed => !Region.binds .any ed || listed.getD ed.on false
def Closed (ops : Array Oper) (listed : Array Bool) : Prop :=
  ∀ (j : Nat) (o : Oper), ops[j]? = some o → listed.getD j false = true → ∀ ed ∈ o.after, Region.binds .any ed = true → listed.getD ed.on false = true
theorem Closed.of_B {ops : Array Oper} {listed : Array Bool} (h : closedB ops listed = true) : Closed ops listed := by
  intro j o hj hl ed hed hb
  simp only [closedB, List.all_eq_true, List.mem_range] at h
  have h1 := h j (Array.getElem?_eq_some_iff.1 hj).1
  simp only [hl, hj, Bool.not_true, Bool.false_or] at h1
  have h2 := Array.all_eq_true_iff_forall_mem.1 h1 ed hed
  simpa [hb] using h2
theorem Closed.set {ops : Array Oper} {listed : Array Bool} (h : Closed ops listed) {i : Nat} (hr : i ∈ Region.ready .any ops listed) : Closed ops (listed.setIfInBounds i true) := by
  intro j o hj hl ed hed hb
  apply getD_set_true
  by_cases hij : i = j
  · subst hij
    obtain ⟨_, oi, hoi, hall⟩ := mem_ready.1 hr
    rw [hj] at hoi
    cases hoi
    exact hall ed hed hb
  · rw [getD_set_ne false hij] at hl
    exact h j o hj hl ed hed hb
theorem waits_listed {ops : Array Oper} {listed : Array Bool} (hc : Closed ops listed) : ∀ (k e i : Nat), waits ops k e i = true →
    (∀ o, ops[e]? = some o → ∀ ed ∈ o.after, Region.binds .any ed = true → listed.getD ed.on false = true) → listed.getD i false = true := by
  intro k
  induction k with
  | zero => intro e i h; simp [waits] at h
  | succ k ih =>
    intro e i h hall
    unfold waits at h
    cases ho : ops[e]? with
    | none => simp [ho] at h
    | some o =>
      simp only [ho] at h
      obtain ⟨ed, hed, hb⟩ := Array.any_eq_true'.1 h
      simp only [Bool.and_eq_true, Bool.or_eq_true, beq_iff_eq] at hb
      have hl := hall o ho ed hed hb.1
      rcases hb.2 with h1 | h1
      · rw [← h1]; exact hl
      · refine ih ed.on i h1 ?_
        intro o2 ho2 ed2 hed2 hb2
        exact hc ed.on o2 ho2 hl ed2 hed2 hb2

section
variable {P : Program} {ops : Array Oper} {Q : Exit → Act → World → Prop} {H : World → Prop} {e : Nat}
/-- Whatever order is picked from here on, and H holds behind each operation but e. -/
def anyH (P : Program) (ops : Array Oper) (Q : Exit → Act → World → Prop) (H : World → Prop) (e : Nat) : Nat → Array Bool → Act → World → Prop
  | 0, listed, a, w => Region.ready .any ops listed = [] ∧ Q .normal a w
  | fuel + 1, listed, a, w =>
    (Region.ready .any ops listed = [] → Q .normal a w) ∧
    ∀ i ∈ Region.ready .any ops listed, wpOp P ops Q i (fun a' w' => (i ≠ e → H w') ∧ anyH P ops Q H e fuel (listed.setIfInBounds i true) a' w') a w

theorem wpAny_of_anyH : ∀ (fuel : Nat) (listed : Array Bool) (a : Act) (w : World), anyH P ops Q H e fuel listed a w → wpAny P .any ops Q fuel listed a w
  | 0, _, _, _, h => h
  | fuel + 1, _, _, _, h => ⟨h.1, fun i hi => wpOp_mono (fun a' w' h' => wpAny_of_anyH fuel _ a' w' h'.2) (h.2 i hi)⟩

theorem ne_nil_of_mem {α : Type} {x : α} {l : List α} (h : x ∈ l) : l ≠ [] := fun e => by rw [e] at h; cases h

theorem anyH_first {i : Nat} {oi : Oper} {v : Value} (hi : ops[i]? = some oi) (hsel : Region.noSelect ops = true) (he : lastOk ops e = true)
    (hQ : ∀ c a w, Q (.panic c) (a.put oi.dst v) w → Q (.panic c) a w) :
    ∀ (fuel : Nat) (listed : Array Bool) (a : Act) (w : World),
      Closed ops listed → (∀ j oj, ops[j]? = some oj → j ≠ i → listed.getD j true = false → (∀ e ∈ oj.after, Region.binds .any e = true → e.on ≠ i) → oi.apart ops oj = true) →
      i ∈ Region.ready .any ops listed → YieldsIf P ops H oi v a → H w →
      anyH P ops Q H e fuel (listed.setIfInBounds i true) (a.put oi.dst v) w → anyH P ops Q H e (fuel + 1) listed a w := by
  intro fuel
  induction fuel with
  | zero =>
    intro listed a w _ _ hr hy hH h
    refine ⟨fun h0 => absurd h0 (ne_nil_of_mem hr), fun j hj => ?_⟩
    by_cases hji : j = i
    · subst hji; exact hy.wpOp hi hH ⟨fun _ => hH, h⟩
    · have h2 := ready_mono hj hji
      rw [h.1] at h2
      cases h2
  | succ fuel ih =>
    intro listed a w hcl hfree hr hy hH h
    refine ⟨fun h0 => absurd h0 (ne_nil_of_mem hr), fun j hj => ?_⟩
    by_cases hji : j = i
    · subst hji; exact hy.wpOp hi hH ⟨fun _ => hH, h⟩
    · have h1 := h.2 j (ready_mono hj hji)
      obtain ⟨hjun, oj, hoj, hall⟩ := mem_ready.1 hj
      have hnot : ∀ e ∈ oj.after, Region.binds .any e = true → e.on ≠ i := by
        intro e he hb heq
        have h1 := hall e he hb
        have h0 := (mem_ready.1 hr).1
        rw [heq] at h1
        rcases Nat.lt_or_ge i listed.size with h' | h'
        · simp [h'] at h0 h1; rw [h0] at h1; cases h1
        · simp [Array.getElem?_eq_none h'] at h1
      have hje : j ≠ e := by
        intro hje
        subst hje
        simp only [lastOk, hoj, List.all_eq_true, List.mem_range, Bool.or_eq_true, beq_iff_eq] at he
        have hlt : i < ops.size := (Array.getElem?_eq_some_iff.1 hi).1
        rcases he i hlt with h' | h'
        · exact hji h'.symm
        · have h1 := waits_listed hcl _ _ _ h' (fun o ho ed hed hb => by rw [hoj] at ho; cases ho; exact hall ed hed hb)
          have h0 := (mem_ready.1 hr).1
          rcases Nat.lt_or_ge i listed.size with h' | h'
          · simp [h'] at h0 h1; rw [h0] at h1; cases h1
          · simp [Array.getElem?_eq_none h'] at h1
      have h2 := wpOp_putIf hoj (hfree j oj hoj hji hjun hnot) (fun cs b => Region.noSelect_spec hsel i oi cs b hi) (fun cs b => Region.noSelect_spec hsel j oj cs b hoj) hQ hy h1
      have hfree' : ∀ k ok, ops[k]? = some ok → k ≠ i → (listed.setIfInBounds j true).getD k true = false →
          (∀ e ∈ ok.after, Region.binds .any e = true → e.on ≠ i) → oi.apart ops ok = true := by
        intro k ok hk hki hun hno
        refine hfree k ok hk hki ?_ hno
        by_cases hjk : j = k
        · subst hjk; exact hjun
        · rw [getD_set_ne true hjk] at hun; exact hun
      refine wpOp_mono (fun a' w' h3 => ⟨h3.2.1, ih (listed.setIfInBounds j true) a' w' (hcl.set hj) hfree' (ready_mono hr (Ne.symm hji)) h3.1 (h3.2.1 hje) ?_⟩) h2
      rw [Array.setIfInBounds_comm _ _ hji]
      exact h3.2.2
end

/-! ### over frames and blocks -/
/-- The rest of a drawn region: H holds till the end; e: the operation that waits for all. -/
def DL (P : Program) (n : Nat) (ops : Array Oper) (H : HL) (e : Nat) (fuel : Nat) (listed : Array Bool) (σ : Env) (S : HL) (K : KK) : Prop :=
  opsOk n ops.toList = true → Region.noSelect ops = true → lastOk ops e = true → (∀ c σ S, ¬ K (.panic c) σ S) →
  ∀ w0 a w, Good n w0 σ S a w → anyH P ops (Post n w0 K) (Held H) e fuel listed a w

theorem CW.drawn {P n id l σ S K} (H : HL) (e : Nat) (hm : (P.follows .mixedOrders || !Region.departs ⟨l⟩) = true) (hok : opsOk n l = true) (hsel : Region.noSelect ⟨l⟩ = true)
    (he : lastOk ⟨l⟩ e = true) (hp : ∀ c σ S, ¬ K (.panic c) σ S)
    (h : DL P n ⟨l⟩ H e l.length (Array.replicate l.length false) σ S K) : CW P n (.region id ⟨l⟩ true) σ S K := by
  intro w0 a w hg
  refine wp_region_draw fun t => ?_
  simp only [Region.schedule, hm, if_true]
  exact wpAny_sound _ _ _ _ _ (wpAny_of_anyH _ _ _ _ (h hok hsel he hp w0 a _ ⟨hg.fr, hg.sat.drawn _⟩))

theorem dst_lt {n : Nat} {ops : Array Oper} (h : opsOk n ops.toList = true) {i : Nat} {o : Oper} (hi : ops[i]? = some o) : ∀ k, o.dst = some k → k < n := by
  intro k hk
  simp only [opsOk, List.all_eq_true] at h
  have := h o (by simpa using Array.mem_of_getElem? hi)
  rw [hk] at this
  exact Nat.blt_eq.mp this

/-- What the guard of an operation says in a frame. -/
def guardV (σ : Env) (ops : Array Oper) (o : Oper) : Option Bool :=
  match o.guard with
  | none => some true
  | some (j, want) => match (ops[j]?).bind (·.dst) with
    | none => none
    | some d => match look σ d with
      | some (.bool b) => some (b == want)
      | _ => none

theorem wanted_of {n w0 σ S a w ops o t} (hg : Good n w0 σ S a w) (hok : opsOk n ops.toList = true) (h : guardV σ ops o = some t) : Region.wanted o (yielded ops a.tmps) = t := by
  unfold guardV at h
  split at h
  · rename_i hn; simp [Region.wanted, hn] at h ⊢; exact h
  · rename_i j want hgd
    split at h
    · cases h
    · rename_i d hd
      split at h
      · rename_i b hl
        have hlt : d < n := by
          cases hj : ops[j]? with
          | none => simp [hj] at hd
          | some oj => exact dst_lt hok hj d (by simpa [hj] using hd)
        have := yielded_of hg.fr hd hlt hl
        simp [Region.wanted, hgd, this] at h ⊢
        exact h
      · cases h

section
variable {P : Program} {n : Nat} {ops : Array Oper} {H : HL} {e fuel : Nat} {listed : Array Bool} {σ : Env} {S : HL} {K : KK}
theorem DL.take (i : Nat) {o : Oper} {d : Nat} {v : Value} (hi : ops[i]? = some o) (hf : Region.free .any ops listed i = true) (hr : (Region.ready .any ops listed).contains i = true) (hcl : closedB ops listed = true)
    (hd : o.dst = some d) (hgd : guardV σ ops o = some true) (hq : QW P H o σ v) (hH : ∀ p ∈ H, p ∈ S) (h : DL P n ops H e fuel (listed.setIfInBounds i true) ((d, v) :: σ) S K) :
    DL P n ops H e (fuel + 1) listed σ S K := by
  intro hok hsel he hp w0 a w hg
  have hput := hg.fr.put (d := o.dst) (v := v) (dst_lt hok hi)
  refine anyH_first (v := v) hi hsel he ?_ fuel listed a w (Closed.of_B hcl) (Region.free_spec hi hf) (by simpa using hr) ?_ (fun p hpm => hg.sat.get p (hH p hpm)) ?_
  · rintro c a w ⟨σ', S', _, hk⟩; exact (hp _ _ _ hk).elim
  · exact .inl ⟨wanted_of hg hok hgd, fun w' hw' => hq a.eval w' (fun x v hx => hg.fr.eval hx) hw'⟩
  · refine h hok hsel he hp w0 _ w ⟨?_, hg.sat⟩
    rw [hd] at hput ⊢; exact hput
theorem DL.pass (i : Nat) {o : Oper} {d : Nat} (hi : ops[i]? = some o) (hf : Region.free .any ops listed i = true) (hr : (Region.ready .any ops listed).contains i = true) (hcl : closedB ops listed = true)
    (hd : o.dst = some d) (hgd : guardV σ ops o = some false) (hH : ∀ p ∈ H, p ∈ S) (h : DL P n ops H e fuel (listed.setIfInBounds i true) ((d, undef) :: σ) S K) :
    DL P n ops H e (fuel + 1) listed σ S K := by
  intro hok hsel he hp w0 a w hg
  have hput := hg.fr.put (d := o.dst) (v := undef) (dst_lt hok hi)
  refine anyH_first (v := undef) hi hsel he ?_ fuel listed a w (Closed.of_B hcl) (Region.free_spec hi hf) (by simpa using hr) ?_ (fun p hpm => hg.sat.get p (hH p hpm)) ?_
  · rintro c a w ⟨σ', S', _, hk⟩; exact (hp _ _ _ hk).elim
  · exact .inr ⟨wanted_of hg hok hgd, rfl⟩
  · refine h hok hsel he hp w0 _ w ⟨?_, hg.sat⟩
    rw [hd] at hput ⊢; exact hput

theorem DL.step_core {i : Nat} {o : Oper} (hi : ops[i]? = some o) (hgd : guardV σ ops o = some true)
    (h : OW P n o σ S fun σ' S' => (i ≠ e → ∀ p ∈ H, p ∈ S') ∧ DL P n ops H e fuel (listed.setIfInBounds i true) σ' S' K)
    (hok : opsOk n ops.toList = true) (hsel : Region.noSelect ops = true) (he : lastOk ops e = true) (hp : ∀ c σ S, ¬ K (.panic c) σ S) {w0 a w} (hg : Good n w0 σ S a w) :
    wpOp P ops (Post n w0 K) i (fun a' w' => (i ≠ e → Held H w') ∧ anyH P ops (Post n w0 K) (Held H) e fuel (listed.setIfInBounds i true) a' w') a w := by
  unfold wpOp
  simp only [hi, wanted_of hg hok hgd, if_true]
  refine .inl (Oper.wp_mono ?_ (h.wp (dst_lt hok hi) hg _))
  rintro a' w' ⟨σ', S', hg', hH, hk⟩
  exact ⟨fun hne p hpm => hg'.sat.get p (hH hne p hpm), hk hok hsel he hp w0 a' w' hg'⟩
theorem DL.pass_core {i : Nat} {o : Oper} (hi : ops[i]? = some o) (hgd : guardV σ ops o = some false) (hH : ∀ p ∈ H, p ∈ S)
    (h : DL P n ops H e fuel (listed.setIfInBounds i true) (putE σ o.dst undef) S K)
    (hok : opsOk n ops.toList = true) (hsel : Region.noSelect ops = true) (he : lastOk ops e = true) (hp : ∀ c σ S, ¬ K (.panic c) σ S) {w0 a w} (hg : Good n w0 σ S a w) :
    wpOp P ops (Post n w0 K) i (fun a' w' => (i ≠ e → Held H w') ∧ anyH P ops (Post n w0 K) (Held H) e fuel (listed.setIfInBounds i true) a' w') a w := by
  unfold wpOp
  simp only [hi, wanted_of hg hok hgd]
  exact ⟨fun _ p hpm => hg.sat.get p (hH p hpm), h hok hsel he hp w0 _ w ⟨hg.fr.put (dst_lt hok hi), hg.sat⟩⟩

/-- The only one that may come up now. -/
theorem DL.one (i : Nat) {o : Oper} (hr : Region.ready .any ops listed = [i]) (hi : ops[i]? = some o) (hgd : guardV σ ops o = some true)
    (h : OW P n o σ S fun σ' S' => (i ≠ e → ∀ p ∈ H, p ∈ S') ∧ DL P n ops H e fuel (listed.setIfInBounds i true) σ' S' K) : DL P n ops H e (fuel + 1) listed σ S K := by
  intro hok hsel he hp w0 a w hg
  refine ⟨fun h0 => (by rw [hr] at h0; cases h0), fun j hj => ?_⟩
  rw [hr] at hj
  cases List.mem_singleton.1 hj
  exact DL.step_core hi hgd h hok hsel he hp hg
theorem DL.onePass (i : Nat) {o : Oper} (hr : Region.ready .any ops listed = [i]) (hi : ops[i]? = some o) (hgd : guardV σ ops o = some false) (hH : ∀ p ∈ H, p ∈ S)
    (h : DL P n ops H e fuel (listed.setIfInBounds i true) (putE σ o.dst undef) S K) : DL P n ops H e (fuel + 1) listed σ S K := by
  intro hok hsel he hp w0 a w hg
  refine ⟨fun h0 => (by rw [hr] at h0; cases h0), fun j hj => ?_⟩
  rw [hr] at hj
  cases List.mem_singleton.1 hj
  exact DL.pass_core hi hgd hH h hok hsel he hp hg
/-- One of two may come up now. -/
theorem DL.two (i j : Nat) {o o2 : Oper} (hr : Region.ready .any ops listed = [i, j]) (hi : ops[i]? = some o) (hgd : guardV σ ops o = some true) (hj : ops[j]? = some o2) (hgd2 : guardV σ ops o2 = some true)
    (h : OW P n o σ S fun σ' S' => (i ≠ e → ∀ p ∈ H, p ∈ S') ∧ DL P n ops H e fuel (listed.setIfInBounds i true) σ' S' K)
    (h2 : OW P n o2 σ S fun σ' S' => (j ≠ e → ∀ p ∈ H, p ∈ S') ∧ DL P n ops H e fuel (listed.setIfInBounds j true) σ' S' K) : DL P n ops H e (fuel + 1) listed σ S K := by
  intro hok hsel he hp w0 a w hg
  refine ⟨fun h0 => (by rw [hr] at h0; cases h0), fun k hk => ?_⟩
  rw [hr] at hk
  rcases List.mem_cons.1 hk with rfl | hk
  · exact DL.step_core hi hgd h hok hsel he hp hg
  · cases List.mem_singleton.1 hk
    exact DL.step_core hj hgd2 h2 hok hsel he hp hg
theorem DL.done (hr : Region.ready .any ops listed = []) (h : K .normal σ S) : DL P n ops H e fuel listed σ S K := by
  intro hok hsel he hp w0 a w hg
  cases fuel with
  | zero => exact ⟨hr, σ, S, hg, h⟩
  | succ m => exact ⟨fun _ => ⟨σ, S, hg, h⟩, by rw [hr]; simp⟩
end
end Go.Sl
