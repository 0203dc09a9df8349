/- The engine, part A: a memory is a list of blocks; frames as lists; sequential rules for the code of a function. -/
import Derived.Calls
import Derived.Orders
import Derived.OrdersHeld
import Derived.Scope
import Derived.Laws.Sem
import Derived.Below
import Derived.KernelRfl
import Derived.RangeFuncLeaves
import Derived.RangeFuncRecord
set_option linter.unusedVariables false
namespace Go.Sl

abbrev HL := List (Nat × Obj)
abbrev Env := List (Nat × Value)

/-- The world w, reached from w0, holds the blocks S (each once). -/
structure Sat (w0 : World) (S : HL) (w : World) : Prop where
  nd : (S.map (·.1)).Nodup
  get : ∀ p ∈ S, w.heap[p.1]? = some p.2
  os : w.os = w0.os
  tape : w.tape = w0.tape
  output : w.output = w0.output
  size : w0.heap.size ≤ w.heap.size

/-- The key under which a frame's list tells the mark of a loop over a function: no temporary has it. -/
abbrev MK : Nat := 1000000000000
def look0 : Env → Nat → Option Value
  | [], _ => none
  | (k, v) :: r, t => bif Nat.beq k t then some v else look0 r t
def look (σ : Env) (t : Nat) : Option Value := bif Nat.beq t MK then none else look0 σ t

theorem look0_cons_eq (k : Nat) (v : Value) (r : Env) : look0 ((k, v) :: r) k = some v := by simp [look0]
theorem look0_cons_ne {k t : Nat} (v : Value) (r : Env) (h : k ≠ t) : look0 ((k, v) :: r) t = look0 r t := by
  have : Nat.beq k t = false := by cases hb : Nat.beq k t with
    | true => exact absurd (Nat.eq_of_beq_eq_true hb) h
    | false => rfl
  simp [look0, this]
theorem look_ne {σ : Env} {t : Nat} (h : t ≠ MK) : look σ t = look0 σ t := by
  have : Nat.beq t MK = false := by cases hb : Nat.beq t MK with
    | true => exact absurd (Nat.eq_of_beq_eq_true hb) h
    | false => rfl
  simp only [look, this, cond_false]
theorem look_MK (σ : Env) : look σ MK = none := rfl
theorem look_lt {σ : Env} {t : Nat} {v : Value} (h : look σ t = some v) : t ≠ MK ∧ look0 σ t = some v := by
  by_cases e : t = MK
  · subst e; rw [look_MK] at h; cases h
  · exact ⟨e, look_ne e ▸ h⟩
theorem look_cons_eq {k : Nat} (v : Value) (r : Env) (h : k ≠ MK) : look ((k, v) :: r) k = some v := by rw [look_ne h, look0_cons_eq]
theorem look_cons_ne {k t : Nat} (v : Value) (r : Env) (h : k ≠ t) : look ((k, v) :: r) t = look r t := by
  by_cases e : t = MK
  · subst e; rfl
  · rw [look_ne e, look_ne e, look0_cons_ne _ _ h]
/-- The deferred calls of a frame: none, or the mark. -/
def dfs (σ : Env) : List Deferred := match look0 σ MK with
  | some (.pointer (some a)) => [{ target := .collected a.block, args := #[] }]
  | _ => []
theorem dfs_none {σ : Env} (h : look0 σ MK = none) : dfs σ = [] := by simp [dfs, h]

/-- What is known of a frame. -/
def Agree (n : Nat) (σ : Env) (a : Act) : Prop :=
  (a.defers = dfs σ ∧ n ≤ MK) ∧ a.tmps.size = n ∧ ∀ t v, look σ t = some v → a.tmps.getD t undef = v

def ev (σ : Env) : Operand → Option Value
  | .tmp t => look σ t
  | .const v => some v
  | .global g => some (.pointer (some ⟨g, 0, none⟩))
  | .func f => some (.func (.func f) #[] #[])

theorem Agree.eval {n σ a x v} (h : Agree n σ a) (hx : ev σ x = some v) : a.eval x = v := by
  cases x with
  | tmp t => exact h.2.2 t v hx
  | const u => simp only [ev, Option.some.injEq] at hx; exact hx
  | global g => simp only [ev, Option.some.injEq] at hx; exact hx
  | func f => simp only [ev, Option.some.injEq] at hx; exact hx

def putE (σ : Env) (d : Option Nat) (v : Value) : Env := match d with | some d => (d, v) :: σ | none => σ

theorem Agree.put {n σ a d v} (h : Agree n σ a) (hd : ∀ k, d = some k → k < n) : Agree n (putE σ d v) (a.put d v) := by
  cases d with
  | none => exact h
  | some k =>
    have hk := hd k rfl
    obtain ⟨h1, h2, h3⟩ := h
    have hkm : k ≠ MK := by have := h1.2; omega
    refine ⟨⟨?_, h1.2⟩, by simp [Act.put, h2], fun t u ht => ?_⟩
    · show a.defers = _
      rw [h1.1]
      simp only [dfs, putE, look0_cons_ne _ _ hkm]
    by_cases e : k = t
    · subst e
      simp only [putE, look_cons_eq _ _ hkm, Option.some.injEq] at ht
      subst ht
      simp [Act.put, h2, hk]
    · simp only [putE, look_cons_ne _ _ e] at ht
      have := h3 t u ht
      simpa [Act.put, Array.getElem?_setIfInBounds_ne e] using this

structure Good (n : Nat) (w0 : World) (σ : Env) (S : HL) (a : Act) (w : World) : Prop where
  fr : Agree n σ a
  sat : Sat w0 S w

/-- Post of a piece of code. -/
abbrev KK := Exit → Env → HL → Prop
def Post (n : Nat) (w0 : World) (K : KK) : Exit → Act → World → Prop :=
  fun e a w => ∃ σ S, Good n w0 σ S a w ∧ K e σ S

def CW (P : Program) (n : Nat) (c : Code) (σ : Env) (S : HL) (K : KK) : Prop :=
  ∀ w0 a w, Good n w0 σ S a w → c.wp P (Post n w0 K) a w

/-- Every operation's place is one of the frame's. -/
def opsOk (n : Nat) (os : List Oper) : Bool := os.all fun o => match o.dst with | some d => Nat.blt d n | none => true

/-- The rest of a region whose order is the text's. -/
def RL (P : Program) (n : Nat) (ops : Array Oper) (os : List Oper) (σ : Env) (S : HL) (K : KK) : Prop :=
  opsOk n os = true → ∀ w0 a w i, (∀ j, ops[i + j]? = os[j]?) → Good n w0 σ S a w →
    wpOps P ops (Post n w0 K) ((List.range os.length).map (i + ·)) a w

def CallS (P : Program) (f : FuncId) (args : Array Value) (S : HL) (K : Value → HL → Prop) : Prop :=
  ∀ w0 w, Sat w0 S w → Calls P f args w fun e w' => ∃ v S', e = .returned v ∧ Sat w0 S' w' ∧ K v S'

/-- What an operation comes to. -/
def After (P : Program) (n : Nat) (w0 : World) (o : Oper) (σ : Env) (K : Env → HL → Prop) : Result Next → Prop
  | .ok (.value v) w' => ∃ S', Sat w0 S' w' ∧ K (putE σ o.dst v) S'
  | .ok .skip w' => ∃ S', Sat w0 S' w' ∧ K (putE σ o.dst undef) S'
  | .ok (.enter f args) w' => ∃ S', Sat w0 S' w' ∧ CallS P f args S' fun v S'' => K (putE σ o.dst v) S''
  | _ => False

def Ext (σ : Env) (ρ : Operand → Value) : Prop := ∀ x v, ev σ x = some v → ρ x = v

def OW (P : Program) (n : Nat) (o : Oper) (σ : Env) (S : HL) (K : Env → HL → Prop) : Prop :=
  ∀ w0 ρ w, Ext σ ρ → Sat w0 S w → After P n w0 o σ K ((execOp ρ o).run P w)

theorem OW.wp {P n o σ S K} (h : OW P n o σ S K) (hd : ∀ k, o.dst = some k → k < n) {w0 a w} (hg : Good n w0 σ S a w)
    (Q : Exit → Act → World → Prop) : o.wp P a w (fun a' w' => ∃ σ' S', Good n w0 σ' S' a' w' ∧ K σ' S') Q := by
  have h1 := h w0 a.eval w (fun x v hx => hg.fr.eval hx) hg.sat
  unfold Oper.wp
  generalize (execOp a.eval o).run P w = r at h1
  cases r with
  | ok x w' =>
    cases x with
    | value v => obtain ⟨S', hs, hk⟩ := h1; exact ⟨_, S', ⟨hg.fr.put hd, hs⟩, hk⟩
    | skip => obtain ⟨S', hs, hk⟩ := h1; exact ⟨_, S', ⟨hg.fr.put hd, hs⟩, hk⟩
    | enter f args =>
      obtain ⟨S', hs, hk⟩ := h1
      refine (hk w0 w' hs).mono ?_
      rintro e w'' ⟨v, S'', rfl, hs'', hk''⟩
      exact ⟨_, S'', ⟨hg.fr.put hd, hs''⟩, hk''⟩
    | _ => exact h1.elim
  | halt x w' => exact h1.elim

theorem wanted_none {o : Oper} (h : o.guard = none) (y : Nat → Option Bool) : Region.wanted o y = true := by simp [Region.wanted, h]

theorem yielded_of {n σ a ops j d b} (h : Agree n σ a) (hd : (((ops : Array Oper)[j]?).bind (·.dst)) = some d) (hn : d < n) (hb : look σ d = some (.bool b)) :
    yielded ops a.tmps j = some b := by
  have := h.2.2 d _ hb
  have hs := h.2.1
  unfold yielded
  rw [hd]
  have hlt : d < a.tmps.size := by omega
  simp [Array.getElem?_eq_getElem hlt] at this ⊢
  simp [this]

theorem RL.nil {P n ops σ S K} (h : K .normal σ S) : RL P n ops [] σ S K := by
  intro _ w0 a w i _ hg
  exact ⟨σ, S, hg, h⟩

theorem range_cons_map (i m : Nat) : (List.range (m + 1)).map (i + ·) = i :: (List.range m).map (i + 1 + ·) := by
  rw [List.range_succ_eq_map]
  simp [List.map_map]
  omega

theorem opsOk_cons {n o os} (h : opsOk n (o :: os) = true) : (∀ k, o.dst = some k → k < n) ∧ opsOk n os = true := by
  simp only [opsOk, List.all_cons, Bool.and_eq_true] at h
  refine ⟨fun k hk => ?_, h.2⟩
  have := h.1
  rw [hk] at this
  exact Nat.blt_eq.mp this

theorem RL.cons {P n ops o os σ S K} (hg : o.guard = none) (h : OW P n o σ S fun σ' S' => RL P n ops os σ' S' K) :
    RL P n ops (o :: os) σ S K := by
  intro hok w0 a w i hi hgood
  obtain ⟨hd, hok'⟩ := opsOk_cons hok
  simp only [List.length_cons]
  rw [range_cons_map]
  have h0 : ops[i]? = some o := by simpa using hi 0
  simp only [wpOps, h0, wanted_none hg, if_true]
  refine .inl (Oper.wp_mono ?_ (h.wp hd hgood _))
  rintro a' w' ⟨σ', S', hg', hk⟩
  exact hk hok' w0 a' w' (i + 1) (fun j => by have := hi (j + 1); simpa [Nat.add_assoc, Nat.add_comm 1 j] using this) hg'

theorem RL.guard_yes {P n ops o os σ S K j want d} (hg : o.guard = some (j, want)) (hd : ((ops[j]?).bind (·.dst)) = some d) (hn : Nat.blt d n = true)
    (hb : look σ d = some (.bool want)) (h : OW P n o σ S fun σ' S' => RL P n ops os σ' S' K) : RL P n ops (o :: os) σ S K := by
  intro hok w0 a w i hi hgood
  obtain ⟨hd', hok'⟩ := opsOk_cons hok
  simp only [List.length_cons]
  rw [range_cons_map]
  have h0 : ops[i]? = some o := by simpa using hi 0
  have hy := yielded_of hgood.fr hd (Nat.blt_eq.mp hn) hb
  have hw : Region.wanted o (yielded ops a.tmps) = true := by simp [Region.wanted, hg, hy]
  simp only [wpOps, h0, hw, if_true]
  refine .inl (Oper.wp_mono ?_ (h.wp hd' hgood _))
  rintro a' w' ⟨σ', S', hg', hk⟩
  exact hk hok' w0 a' w' (i + 1) (fun j => by have := hi (j + 1); simpa [Nat.add_assoc, Nat.add_comm 1 j] using this) hg'

theorem RL.guard_no {P n ops o os σ S K j want d b} (hg : o.guard = some (j, want)) (hd : ((ops[j]?).bind (·.dst)) = some d) (hn : Nat.blt d n = true)
    (hb : look σ d = some (.bool b)) (hne : (b == want) = false) (h : RL P n ops os (putE σ o.dst undef) S K) : RL P n ops (o :: os) σ S K := by
  intro hok w0 a w i hi hgood
  obtain ⟨hd', hok'⟩ := opsOk_cons hok
  simp only [List.length_cons]
  rw [range_cons_map]
  have h0 : ops[i]? = some o := by simpa using hi 0
  have hy := yielded_of hgood.fr hd (Nat.blt_eq.mp hn) hb
  have hw : Region.wanted o (yielded ops a.tmps) = false := by simp [Region.wanted, hg, hy] at hne ⊢; exact hne
  simp only [wpOps, h0, hw]
  exact h hok' w0 _ w (i + 1) (fun j => by have := hi (j + 1); simpa [Nat.add_assoc, Nat.add_comm 1 j] using this) ⟨hgood.fr.put hd', hgood.sat⟩

/-! ### code -/
theorem CW.region {P n id l σ S K} (hok : opsOk n l = true) (h : RL P n ⟨l⟩ l σ S K) : CW P n (.region id ⟨l⟩ false) σ S K := by
  intro w0 a w hg
  refine wp_region ?_
  have := h hok w0 a w 0 (fun j => by simp) hg
  simpa using this

theorem CW.mono {P n c σ S K K'} (h : CW P n c σ S K) (hk : ∀ e σ S, K e σ S → K' e σ S) : CW P n c σ S K' :=
  fun w0 a w hg => wp_mono (h w0 a w hg) fun _ _ _ ⟨σ, S, hg, k⟩ => ⟨σ, S, hg, hk _ _ _ k⟩

def thenK (next : Env → HL → Prop) (K : KK) : KK
  | .normal, σ, S => next σ S
  | e, σ, S => K e σ S

theorem CW.seq {P n x y σ S K} (h : CW P n x σ S (thenK (fun σ S => CW P n y σ S K) K)) : CW P n (.seq x y) σ S K := by
  intro w0 a w hg
  refine wp_seq (wp_mono (h w0 a w hg) ?_)
  rintro e a' w' ⟨σ', S', hg', hk⟩
  cases e with
  | normal => exact hk w0 a' w' hg'
  | _ => exact ⟨σ', S', hg', hk⟩

theorem CW.skip {P n σ S K} (h : K .normal σ S) : CW P n .skip σ S K := fun _ _ _ hg => wp_skip ⟨σ, S, hg, h⟩
theorem CW.exit {P n id σ S K} (h : K (.exit id) σ S) : CW P n (.exit id) σ S K := fun _ _ _ hg => wp_exit ⟨σ, S, hg, h⟩
theorem CW.ret {P n σ S K} (h : K .ret σ S) : CW P n .ret σ S K := fun _ _ _ hg => wp_ret ⟨σ, S, hg, h⟩
theorem CW.label {P n l σ S K} (h : K .normal σ S) : CW P n (.label l) σ S K := fun _ _ _ hg => wp_label ⟨σ, S, hg, h⟩
theorem CW.cond_true {P n c x y σ S K} (hc : ev σ c = some (.bool true)) (h : CW P n x σ S K) : CW P n (.cond c x y) σ S K :=
  fun w0 a w hg => wp_cond_true (hg.fr.eval hc) (h w0 a w hg)
theorem CW.cond_false {P n c x y σ S K} (hc : ev σ c = some (.bool false)) (h : CW P n y σ S K) : CW P n (.cond c x y) σ S K :=
  fun w0 a w hg => wp_cond_false (hg.fr.eval hc) (h w0 a w hg)
theorem CW.cond {P n c x y σ S K b} (hc : ev σ c = some (.bool b)) (ht : b = true → CW P n x σ S K) (hf : b = false → CW P n y σ S K) : CW P n (.cond c x y) σ S K :=
  fun w0 a w hg => wp_cond_split (hg.fr.eval hc) (fun e => ht e w0 a w hg) (fun e => hf e w0 a w hg)

def blockK (id : Nat) (K : KK) : KK
  | .exit id', σ, S => if id' = id then K .normal σ S else K (.exit id') σ S
  | e, σ, S => K e σ S
theorem CW.block {P n id c σ S K} (h : CW P n c σ S (blockK id K)) : CW P n (.block id c) σ S K := by
  intro w0 a w hg
  refine wp_block (wp_mono (h w0 a w hg) ?_)
  rintro e a' w' ⟨σ', S', hg', hk⟩
  cases e with
  | exit id' =>
    simp only [Exit.inBlock]
    simp only [blockK] at hk
    split
    · rename_i he; rw [if_pos he] at hk; exact ⟨σ', S', hg', hk⟩
    · rename_i he; rw [if_neg he] at hk; exact ⟨σ', S', hg', hk⟩
  | _ => exact ⟨σ', S', hg', hk⟩

def gotoK (K : KK) : KK
  | .goto _, _, _ => False
  | e, σ, S => K e σ S
theorem CW.scope {P n c σ S K} (h : CW P n c σ S (gotoK K)) : CW P n (.scope c) σ S K := by
  intro w0 a w hg
  refine wp_scope_straight (wp_mono (h w0 a w hg) ?_)
  rintro e a' w' ⟨σ', S', hg', hk⟩
  cases e with
  | goto l => exact hk.elim
  | _ => exact ⟨σ', S', hg', hk⟩

/-- Frames: what is asked of τ is known in σ, and the mark is the same. -/
def SubE (τ σ : Env) : Prop := ∀ t v, look τ t = some v → look σ t = some v
def leL : Env → Env → Prop
  | [], _ => True
  | (t, v) :: r, σ => look0 σ t = some v ∧ leL r σ
def leE (τ σ : Env) : Prop := look0 τ MK = look0 σ MK ∧ leL τ σ
theorem leL.sub {τ σ : Env} (h : leL τ σ) : ∀ t v, look0 τ t = some v → look0 σ t = some v := by
  induction τ with
  | nil => intro t v ht; simp [look0] at ht
  | cons p r ih =>
    obtain ⟨k, u⟩ := p
    intro t v ht
    by_cases e : k = t
    · subst e; rw [look0_cons_eq] at ht; injection ht with ht; subst ht; exact h.1
    · rw [look0_cons_ne _ _ e] at ht; exact ih h.2 t v ht
theorem leE.sub {τ σ : Env} (h : leE τ σ) : SubE τ σ := by
  intro t v ht
  obtain ⟨h1, h2⟩ := look_lt ht
  rw [look_ne h1]
  exact h.2.sub t v h2
theorem Good.weak {n w0 σ τ S T a w} (h : Good n w0 σ S a w) (hs : leE τ σ) (hT : T.Sublist S) : Good n w0 τ T a w :=
  ⟨⟨⟨by rw [h.fr.1.1]; simp only [dfs, hs.1], h.fr.1.2⟩, h.fr.2.1, fun t v ht => h.fr.2.2 t v (hs.sub t v ht)⟩,
    ⟨h.sat.nd.sublist (hT.map _), fun p hp => h.sat.get p (hT.subset hp), h.sat.os, h.sat.tape, h.sat.output, h.sat.size⟩⟩
theorem CW.weak {P n c σ τ S T K} (hs : leE τ σ) (hT : T.Sublist S) (h : CW P n c τ T K) : CW P n c σ S K :=
  fun w0 a w hg => h w0 a w (hg.weak hs hT)

/-- A loop: ι its states; at each state frame and blocks are known; each round goes to a state of less measure, or leaves. -/
theorem CW.loop {ι : Type} {P n c σ S K} (I : ι → Prop) (E : ι → Env) (H : ι → HL) (μ : ι → Nat) (i0 : ι) (h0 : I i0)
    (hE : leE (E i0) σ) (hH : (H i0).Sublist S)
    (round : ∀ i, I i → CW P n c (E i) (H i) (thenK (fun σ' S' => ∃ j, I j ∧ μ j < μ i ∧ leE (E j) σ' ∧ (H j).Sublist S') K)) : CW P n (.loop c) σ S K := by
  intro w0 a w hg b k cs
  have key : ∀ m, ∀ i a w, μ i = m → I i → Good n w0 (E i) (H i) a w →
      ∃ e a' w', Post n w0 K e a' w' ∧ Arrives P (lone (b.at a (.code c :: .inLoop c :: k)) cs w) b k cs e a' w' := by
    intro m
    induction m using Nat.strongRecOn with
    | _ m ih =>
      intro i a w hm hI hgi
      obtain ⟨e, a1, w1, ⟨σ1, S1, hg1, hk1⟩, harr⟩ := round i hI w0 a w hgi b (.inLoop c :: k) cs
      cases e with
      | normal =>
        obtain ⟨j, hIj, hlt, hEj, hHj⟩ := hk1
        obtain ⟨e2, a2, w2, hq2, harr2⟩ := ih (μ j) (hm ▸ hlt) j a1 w1 rfl hIj (hg1.weak hEj hHj)
        exact ⟨e2, a2, w2, hq2, .of_steps (Steps.trans harr (.one step_inLoop)) harr2⟩
      | exit id => exact ⟨_, a1, w1, ⟨σ1, S1, hg1, hk1⟩, .pass (x := .inLoop c) rfl (fun _ _ => .inl (by simp)) harr⟩
      | goto l => exact ⟨_, a1, w1, ⟨σ1, S1, hg1, hk1⟩, .pass (x := .inLoop c) rfl (fun _ _ => .inl (by simp)) harr⟩
      | ret => exact ⟨_, a1, w1, ⟨σ1, S1, hg1, hk1⟩, .pass (x := .inLoop c) rfl (fun _ _ => .inl (by simp)) harr⟩
      | panic ch => exact ⟨_, a1, w1, ⟨σ1, S1, hg1, hk1⟩, .pass (x := .inLoop c) rfl (fun _ _ => .inl (by simp)) harr⟩
      | outgrown => exact ⟨_, a1, w1, ⟨σ1, S1, hg1, hk1⟩, .pass (x := .inLoop c) rfl (fun _ _ => .inl (by simp)) harr⟩
  obtain ⟨e, a', w', hq, harr⟩ := key _ i0 a w rfl h0 (hg.weak hE hH)
  exact ⟨e, a', w', hq, .of_steps (.one step_loop) harr⟩

/-- A loop, with what it leaves alone of the frame named once. -/
theorem CW.loopT {ι : Type} {P n c σ S K} (τ : Env) (hτ : leE τ σ) (I : ι → Prop) (E : ι → Env → Env) (H : ι → HL) (μ : ι → Nat) (i0 : ι) (h0 : I i0)
    (hE : leE (E i0 τ) σ) (hH : (H i0).Sublist S)
    (round : ∀ i, I i → CW P n c (E i τ) (H i) (thenK (fun σ' S' => ∃ j, I j ∧ μ j < μ i ∧ leE (E j τ) σ' ∧ (H j).Sublist S') K)) : CW P n (.loop c) σ S K :=
  CW.loop I (fun i => E i τ) H μ i0 h0 hE hH round
theorem CW.loopT2 {α β : Type} {P n c σ S K} (τ : Env) (hτ : leE τ σ) (I : α → β → Prop) (E : α → β → Env → Env) (H : α → β → HL) (μ : α → β → Nat) (i0 : α) (i1 : β) (h0 : I i0 i1)
    (hE : leE (E i0 i1 τ) σ) (hH : (H i0 i1).Sublist S)
    (round : ∀ i k, I i k → CW P n c (E i k τ) (H i k) (thenK (fun σ' S' => ∃ j l, I j l ∧ μ j l < μ i k ∧ leE (E j l τ) σ' ∧ (H j l).Sublist S') K)) : CW P n (.loop c) σ S K :=
  CW.loop (ι := α × β) (fun x => I x.1 x.2) (fun x => E x.1 x.2 τ) (fun x => H x.1 x.2) (fun x => μ x.1 x.2) (i0, i1) h0 hE hH fun x hx => by
    refine CW.mono (round x.1 x.2 hx) ?_
    rintro e σ' S' hk
    cases e with
    | normal => obtain ⟨j, l, h1, h2, h3, h4⟩ := hk; exact ⟨(j, l), h1, h2, h3, h4⟩
    | _ => exact hk
theorem CW.loopT3 {α β γ : Type} {P n c σ S K} (τ : Env) (hτ : leE τ σ) (I : α → β → γ → Prop) (E : α → β → γ → Env → Env) (H : α → β → γ → HL) (μ : α → β → γ → Nat) (i0 : α) (i1 : β) (i2 : γ) (h0 : I i0 i1 i2)
    (hE : leE (E i0 i1 i2 τ) σ) (hH : (H i0 i1 i2).Sublist S)
    (round : ∀ i k m, I i k m → CW P n c (E i k m τ) (H i k m) (thenK (fun σ' S' => ∃ j l q, I j l q ∧ μ j l q < μ i k m ∧ leE (E j l q τ) σ' ∧ (H j l q).Sublist S') K)) : CW P n (.loop c) σ S K :=
  CW.loop (ι := α × β × γ) (fun x => I x.1 x.2.1 x.2.2) (fun x => E x.1 x.2.1 x.2.2 τ) (fun x => H x.1 x.2.1 x.2.2) (fun x => μ x.1 x.2.1 x.2.2) (i0, i1, i2) h0 hE hH fun x hx => by
    refine CW.mono (round x.1 x.2.1 x.2.2 hx) ?_
    rintro e σ' S' hk
    cases e with
    | normal => obtain ⟨j, l, q, h1, h2, h3, h4⟩ := hk; exact ⟨(j, l, q), h1, h2, h3, h4⟩
    | _ => exact hk
theorem CW.seqCutT {ι : Type} {P n x y σ S K} (τ : Env) (hτ : leE τ σ) (I : ι → Prop) (E : ι → Env → Env) (H : ι → HL)
    (h : CW P n x σ S (thenK (fun σ' S' => ∃ i, I i ∧ leE (E i τ) σ' ∧ (H i).Sublist S') K)) (h2 : ∀ i, I i → CW P n y (E i τ) (H i) K) : CW P n (.seq x y) σ S K := by
  refine CW.seq (CW.mono h ?_)
  rintro e σ' S' hk
  cases e with
  | normal =>
    obtain ⟨i, hI, hE, hH⟩ := hk
    exact CW.weak hE hH (h2 i hI)
  | _ => exact hk

/-! ### a function -/
theorem Sat.weakT {w0 S T w} (h : Sat w0 S w) (hT : T.Sublist S) : Sat w0 T w :=
  ⟨h.nd.sublist (hT.map _), fun p hp => h.get p (hT.subset hp), h.os, h.tape, h.output, h.size⟩
theorem Sat.permT {w0 S T w} (h : Sat w0 S w) (hT : T.Perm S) : Sat w0 T w :=
  ⟨(hT.map _).nodup_iff.2 h.nd, fun p hp => h.get p (hT.subset hp), h.os, h.tape, h.output, h.size⟩
theorem Sat.weak {w0 S T w} (h : Sat w0 S w) (hT : T.Sublist S) : Sat w0 T w := h.weakT hT
theorem Sat.perm {w0 S T w} (h : Sat w0 S w) (hT : T.Perm S) : Sat w0 T w := h.permT hT
theorem Sat.refl {S w} (nd : (S.map (·.1)).Nodup) (get : ∀ p ∈ S, w.heap[p.1]? = some p.2) : Sat w S w := ⟨nd, get, rfl, rfl, rfl, Nat.le_refl _⟩

def argsE : Nat → List Value → Env
  | _, [] => []
  | i, v :: r => (i, v) :: argsE (i + 1) r
theorem look_argsE (l : List Value) : ∀ i t v, look0 (argsE i l) t = some v → i ≤ t ∧ l[t - i]? = some v := by
  induction l with
  | nil => intro i t v h; simp [argsE, look0] at h
  | cons x r ih =>
    intro i t v h
    by_cases e : i = t
    · subst e; simp only [argsE, look0_cons_eq, Option.some.injEq] at h; simp [h]
    · simp only [argsE, look0_cons_ne _ _ e] at h
      obtain ⟨h1, h2⟩ := ih (i + 1) t v h
      refine ⟨by omega, ?_⟩
      rw [show t - i = (t - (i + 1)) + 1 from by omega]
      simpa using h2

/-- What a frame's results are. -/
def ResOk (P : Program) (fn : Func) (σ : Env) (S : HL) (v : Value) : Prop :=
  ∀ w0 tmps w, (∀ t u, look σ t = some u → tmps.getD t undef = u) → Sat w0 S w → (results fn tmps).run P w = .ok v w

def retK (P : Program) (fn : Func) (K : Value → HL → Prop) : KK
  | .normal, σ, S | .ret, σ, S => ∃ v T, ((look0 σ MK = none ∧ ResOk P fn σ S v ∧ T.Sublist S) ∨
      (∃ D R, look0 σ MK = some (.pointer (some ⟨D, 0, none⟩)) ∧ S.Perm ((D, .deferred (some [])) :: R) ∧ ResOk P fn σ R v ∧ T.Sublist R)) ∧ K v T
  | _, _, _ => False

theorem Sat.putOther {w0 : World} {D : Nat} {o o' : Obj} {R : HL} {w : World} (h : Sat w0 ((D, o) :: R) w) : Sat w0 R (w.putObj D o') := by
  have hnd := h.nd
  simp only [List.map_cons, List.nodup_cons] at hnd
  refine ⟨hnd.2, fun p hp => ?_, h.os, h.tape, h.output, by simp [World.putObj]; exact h.size⟩
  have hne : D ≠ p.1 := fun e => hnd.1 (e ▸ List.mem_map_of_mem (f := (·.1)) hp)
  rw [World.putObj_heap_other hne.symm]
  exact h.get p (List.mem_cons_of_mem _ hp)

theorem CallS.enter {P f fn c n args S K} (hf : P.funcs[f]? = some fn) (hb : fn.body = some c) (hn : fn.ntmps = n) (hle : args.length ≤ n)
    (h : CW P n c (argsE 0 args) S (retK P fn K)) (hM : Nat.ble n MK = true := by rfl) : CallS P f ⟨args⟩ S K := by
  intro w0 w hs
  have hM' : n ≤ MK := Nat.le_of_ble_eq_true hM
  refine callsIn_wide.1 (callsIn_of_wp_marks (F := Fence.wide) (n := 0) hf hb trivial (wpIn_wide.2 ?_))
  have hg : Good n w0 (argsE 0 args) S { tmps := ⟨args⟩ ++ Array.replicate (fn.ntmps - (⟨args⟩ : Array Value).size) undef, defers := [] } w := by
    have hnone : look0 (argsE 0 args) MK = none := by
      cases hl : look0 (argsE 0 args) MK with
      | none => rfl
      | some v =>
        obtain ⟨_, h2⟩ := look_argsE args 0 MK v hl
        rw [List.getElem?_eq_none (by omega)] at h2
        cases h2
    refine ⟨⟨⟨(dfs_none hnone).symm, hM'⟩, by simp [hn]; omega, fun t v ht => ?_⟩, hs⟩
    obtain ⟨_, h2⟩ := look_argsE args 0 t v (look_lt ht).2
    simp only [Nat.sub_zero] at h2
    have hlt : t < args.length := by
      rcases Nat.lt_or_ge t args.length with h | h
      · exact h
      · simp [List.getElem?_eq_none h] at h2
    have h3 : args[t] = v := by simpa [List.getElem?_eq_getElem hlt] using h2
    simp [Array.getElem?_append, hlt, h3]
  refine wp_mono (h w0 _ w hg) ?_
  have key : ∀ (σ' : Env) (S' : HL) (a' : Act) (w' : World), Good n w0 σ' S' a' w' →
      (∃ v T, ((look0 σ' MK = none ∧ ResOk P fn σ' S' v ∧ T.Sublist S') ∨
        (∃ D R, look0 σ' MK = some (.pointer (some ⟨D, 0, none⟩)) ∧ S'.Perm ((D, .deferred (some [])) :: R) ∧ ResOk P fn σ' R v ∧ T.Sublist R)) ∧ K v T) →
      LeavesInM Fence.wide 0 P fn a'.tmps (fun e w' => ∃ v S', e = .returned v ∧ Sat w0 S' w' ∧ K v S') a'.defers .returning w' := by
    rintro σ' S' a' w' hg' ⟨v, T, hh, hk⟩
    rcases hh with ⟨hn0, hr, hT⟩ | ⟨D, R, hm, hp, hr, hT⟩
    · rw [hg'.fr.1.1, dfs_none hn0]
      exact ⟨v, hr w0 a'.tmps w' hg'.fr.2.2 hg'.sat, v, T, rfl, hg'.sat.weakT hT, hk⟩
    · have hd : a'.defers = [{ target := .collected D, args := #[] }] := by rw [hg'.fr.1.1]; simp only [dfs, hm]
      rw [hd]
      have hs2 := hg'.sat.permT hp.symm
      refine ⟨by simp, .inl ⟨D, _, rfl, run_takeDeferred (hs2.get _ List.mem_cons_self), ?_⟩⟩
      exact ⟨v, hr w0 a'.tmps _ hg'.fr.2.2 hs2.putOther, v, T, rfl, hs2.putOther.weakT hT, hk⟩
  rintro e a' w' ⟨σ', S', hg', hk⟩
  cases e with
  | normal => exact key σ' S' a' w' hg' hk
  | ret => exact key σ' S' a' w' hg' hk
  | _ => exact hk.elim

theorem CallS.mono {P f args S K K'} (h : CallS P f args S K) (hk : ∀ v S', K v S' → K' v S') : CallS P f args S K' :=
  fun w0 w hs => (h w0 w hs).mono fun _ _ ⟨v, S', he, hs', k⟩ => ⟨v, S', he, hs', hk _ _ k⟩
theorem CallS.perm {P f args S T K} (h : CallS P f args T K) (hT : T.Perm S) : CallS P f args S K :=
  fun w0 w hs => h w0 w (hs.perm hT)
theorem CallS.weak {P f args S T K} (h : CallS P f args T K) (hT : T.Sublist S) : CallS P f args S K :=
  fun w0 w hs => h w0 w (hs.weak hT)

end Go.Sl
