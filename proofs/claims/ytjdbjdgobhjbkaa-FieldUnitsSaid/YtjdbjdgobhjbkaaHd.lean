import Derived.Test.YtjdbjdgobhjbkaaHc
namespace Go.HL
open Go.RowKit

/-! a call begins, and ends -/
def argEnv : Nat → List Value → Env
  | _, [] => []
  | i, v :: r => (i, v) :: argEnv (i + 1) r
theorem argEnv_lookup : ∀ (vs : List Value) (i t : Nat) (v : Value), (argEnv i vs).lookup t = some v → i ≤ t ∧ vs[t - i]? = some v
  | [], i, t, v, h => by simp [argEnv] at h
  | u :: r, i, t, v, h => by
    simp only [argEnv, List.lookup] at h
    by_cases e : t = i
    · subst e; simp at h; subst h; simp
    · have : (t == i) = false := by simpa using e
      simp only [this] at h
      obtain ⟨h1, h2⟩ := argEnv_lookup r (i + 1) t v h
      refine ⟨by omega, ?_⟩
      have : t - i = (t - (i + 1)) + 1 := by omega
      rw [this]; simpa using h2
theorem Calls.of_WC {P : Program} {f : FuncId} {fn : Func} {c : Code} {vs : List Value} {w : World} {R : Ending → World → Prop} {N : Nat}
    (hf : P.funcs[f]? = some fn) (hb : fn.body = some c) (hN : fn.ntmps = N) (hle : vs.length ≤ N) (h : WC P c (bodyPost P fn R) N (argEnv 0 vs) w) : Calls P f vs.toArray w R := by
  refine calls_of_wp hf hb (h _ ⟨by simp [hN]; omega, rfl, fun t v ht => ?_⟩)
  obtain ⟨_, h2⟩ := argEnv_lookup vs 0 t v ht
  simp only [Nat.sub_zero] at h2
  have hlt : t < vs.length := (List.getElem?_eq_some_iff.1 h2).1
  simp only [Array.getElem?_append, List.size_toArray, hlt, if_true]
  simpa using h2
section
variable {P : Program} {Q : Exit → Act → World → Prop} {N : Nat} {E : Env} {w : World} {fn : Func} {R : Ending → World → Prop}
theorem WX.retOf {x : Exit} (hx : x = .ret ∨ x = .normal) (v : Value) (hr : ∀ a, Holds N E a → (results fn a.tmps).run P w = .ok v w) (hR : R (.returned v) w) : WX (bodyPost P fn R) x N E w := fun a ha => by
  rcases hx with rfl | rfl <;> exact ⟨ha.defs, v, hr a ha, hR⟩
theorem WX.ret0 {x : Exit} (hx : x = .ret ∨ x = .normal) (h : fn.results = #[]) (hR : R (.returned (.tuple #[])) w) : WX (bodyPost P fn R) x N E w :=
  WX.retOf hx _ (fun a _ => by simp [results, h]) hR
theorem getD_of {N : Nat} {E : Env} {a : Act} (ha : Holds N E a) {t : Nat} {v : Value} (hv : E.lookup t = some v) : a.tmps.getD t undef = v := by
  simp [Array.getD_eq_getD_getElem?, ha.env t v hv]
theorem WX.ret1 {x : Exit} (hx : x = .ret ∨ x = .normal) {t : Nat} {v : Value} (h : fn.results = #[.tmp t]) (hv : E.lookup t = some v) (hR : R (.returned v) w) : WX (bodyPost P fn R) x N E w :=
  WX.retOf hx v (fun a ha => by
    have := getD_of ha hv
    simp only [Array.getD_eq_getD_getElem?] at this
    simp [results, h, this]) hR
theorem WX.ret2 {x : Exit} (hx : x = .ret ∨ x = .normal) {t u : Nat} {v1 v2 : Value} (h : fn.results = #[.tmp t, .tmp u]) (hv : E.lookup t = some v1) (hu : E.lookup u = some v2) (hR : R (.returned (.tuple #[v1, v2])) w) : WX (bodyPost P fn R) x N E w :=
  WX.retOf hx _ (fun a ha => by
    have h1 := getD_of ha hv
    have h2 := getD_of ha hu
    simp only [Array.getD_eq_getD_getElem?] at h1 h2
    simp [results, h, h1, h2]) hR
theorem WX.ret3 {x : Exit} (hx : x = .ret ∨ x = .normal) {t u s : Nat} {v1 v2 v3 : Value} (h : fn.results = #[.tmp t, .tmp u, .tmp s]) (hv : E.lookup t = some v1) (hu : E.lookup u = some v2) (hs : E.lookup s = some v3) (hR : R (.returned (.tuple #[v1, v2, v3])) w) : WX (bodyPost P fn R) x N E w :=
  WX.retOf hx _ (fun a ha => by
    have h1 := getD_of ha hv
    have h2 := getD_of ha hu
    have h3 := getD_of ha hs
    simp only [Array.getD_eq_getD_getElem?] at h1 h2 h3
    simp [results, h, h1, h2, h3]) hR

theorem eg_of {P : Program} {f : FuncId} {fn : Func} (hf : P.funcs[f]? = some fn) (hn : (fn.name == "runtime.NumGoroutine") = false) (hb : fn.body.isNone = false) (args : Array Value) (w : World) : (callFunc f args).run P w = .ok (.enter f args) w := by
  simp only [callFunc, program, Sem.run_bind, Sem.run, Result.andThen, hf, hn, hb]
  rfl

/-! loops -/
def Sub : Env → Env → Prop
  | [], _ => True
  | (t, v) :: r, E => E.lookup t = some v ∧ Sub r E
theorem Holds.sub {N : Nat} {E' E : Env} {a : Act} (h : Holds N E a) (hs : Sub E' E) : Holds N E' a := by
  refine ⟨h.size, h.defs, fun t v ht => h.env t v ?_⟩
  induction E' with
  | nil => simp at ht
  | cons p r ih =>
    obtain ⟨s, u⟩ := p
    simp only [Sub] at hs
    simp only [List.lookup] at ht
    by_cases e : t = s
    · subst e
      simp at ht
      subst ht
      exact hs.1
    · have : (t == s) = false := by simpa using e
      simp only [this] at ht
      exact ih hs.2 ht
def LoopK {σ : Type} (N : Nat) (Ef : σ → Env) (I : σ → World → Prop) (μ : σ → Nat) (s : σ) : Act → World → Prop :=
  fun a' w' => ∃ s', Holds N (Ef s') a' ∧ I s' w' ∧ μ s' < μ s
theorem WC.loop {σ : Type} {c : Code} (Ef : σ → Env) (I : σ → World → Prop) (μ : σ → Nat) (s0 : σ) (hE : Sub (Ef s0) E) (h0 : I s0 w)
    (round : ∀ s w, I s w → WC P c (Exit.then (LoopK N Ef I μ s) Q) N (Ef s) w) : WC P (.loop c) Q N E w := fun a ha => by
  intro b k cs
  have key : ∀ n s a w, μ s = n → Holds N (Ef s) a → I s w →
      ∃ e a' w', Q e a' w' ∧ Arrives P (lone (b.at a (.code c :: .inLoop c :: k)) cs w) b k cs e a' w' := by
    intro n
    induction n using Nat.strongRecOn with
    | _ n ih =>
      intro s a w hn hh hI
      obtain ⟨e, a₁, w₁, hq, harr⟩ := round s w hI a hh b (.inLoop c :: k) cs
      cases e with
      | normal =>
        obtain ⟨s', hh', hI₁, hlt⟩ := hq
        obtain ⟨e₂, a₂, w₂, hq₂, harr₂⟩ := ih (μ s') (hn ▸ hlt) s' a₁ w₁ rfl hh' hI₁
        exact ⟨e₂, a₂, w₂, hq₂, .of_steps (Steps.trans harr (.one step_inLoop)) harr₂⟩
      | exit id => exact ⟨_, a₁, w₁, hq, .pass (x := .inLoop c) rfl (fun _ _ => .inl (by simp)) harr⟩
      | goto l => exact ⟨_, a₁, w₁, hq, .pass (x := .inLoop c) rfl (fun _ _ => .inl (by simp)) harr⟩
      | ret => exact ⟨_, a₁, w₁, hq, .pass (x := .inLoop c) rfl (fun _ _ => .inl (by simp)) harr⟩
      | panic ch => exact ⟨_, a₁, w₁, hq, .pass (x := .inLoop c) rfl (fun _ _ => .inl (by simp)) harr⟩
      | outgrown => exact ⟨_, a₁, w₁, hq, .pass (x := .inLoop c) rfl (fun _ _ => .inl (by simp)) harr⟩
  obtain ⟨e, a', w', hq, harr⟩ := key _ s0 a w rfl (ha.sub hE) h0
  exact ⟨e, a', w', hq, .of_steps (.one step_loop) harr⟩
theorem WX.loop_next {σ : Type} {Ef : σ → Env} {I : σ → World → Prop} {μ : σ → Nat} {s : σ} (s' : σ) (hE : Sub (Ef s') E) (hI : I s' w) (hμ : μ s' < μ s) : WX (Exit.then (LoopK N Ef I μ s) Q) .normal N E w :=
  fun _ ha => ⟨s', ha.sub hE, hI, hμ⟩
end
end Go.HL
