import Derived.Test.YtcdbkfaebgficaaDoorQPackSectors7
namespace Go.Proofs.YtcdbkfaebgficaaDoor
open Go.RowKit Go.HL

/-! products of 128 bits -/
def mulT (x y : UInt64) : UInt64 := (x >>> UInt64.ofNat 32) * (y &&& 4294967295) + ((x &&& 4294967295) * (y &&& 4294967295)) >>> UInt64.ofNat 32
def mulHi (x y : UInt64) : UInt64 := ((x >>> UInt64.ofNat 32) * (y >>> UInt64.ofNat 32) + (mulT x y) >>> UInt64.ofNat 32) + (((mulT x y) &&& 4294967295) + (x &&& 4294967295) * (y >>> UInt64.ofNat 32)) >>> UInt64.ofNat 32
theorem mul64_calls (x y : UInt64) (w : World) : Calls Tryd.prog 123 [v64 x, v64 y].toArray w (Ret fun v w' => v = .tuple #[v64 (mulHi x y), v64 (x * y)] ∧ Chg Nob w w') := by
  have hw := Chg.refl Nob w
  refine Calls.of_WC Tryd.func123 rfl Tryd.ntmps123 (by simp) ?_
  refine WC.seq (WC.region (WL.assign rfl rfl (WL.assign rfl rfl (WL.nil (WX.then_normal (WC.seq (WC.region (?_))))))))
  refine WL.move rfl rfl (WL.num rfl rfl (n_and64 _ _ _ 4294967295) rfl (WL.assign rfl rfl (WL.nil (WX.then_normal (WC.seq (WC.region (WL.move rfl rfl (?_))))))))
  refine WL.num rfl rfl (n_shr64 _ _ _ _ 32 (by decide)) rfl (WL.assign rfl rfl (WL.nil (WX.then_normal (WC.seq (WC.region (WL.move rfl rfl (WL.num rfl rfl (n_and64 _ _ _ 4294967295) rfl (?_))))))))
  refine WL.assign rfl rfl (WL.nil (WX.then_normal (WC.seq (WC.region (WL.move rfl rfl (WL.num rfl rfl (n_shr64 _ _ _ _ 32 (by decide)) rfl (WL.assign rfl rfl (?_))))))))
  refine WL.nil (WX.then_normal (WC.seq (WC.region (WL.move rfl rfl (WL.move rfl rfl (WL.num rfl rfl (n_mul64 _ _ _ _) rfl (WL.assign rfl rfl (?_))))))))
  refine WL.nil (WX.then_normal (WC.seq (WC.region (WL.move rfl rfl (WL.move rfl rfl (WL.num rfl rfl (n_mul64 _ _ _ _) rfl (WL.move rfl rfl (?_))))))))
  refine WL.num rfl rfl (n_shr64 _ _ _ _ 32 (by decide)) rfl (WL.num rfl rfl (n_add64 _ _ _ _) rfl (WL.assign rfl rfl (WL.nil (WX.then_normal (WC.seq (WC.region (WL.move rfl rfl (?_))))))))
  refine WL.num rfl rfl (n_and64 _ _ _ 4294967295) rfl (WL.assign rfl rfl (WL.nil (WX.then_normal (WC.seq (WC.region (WL.move rfl rfl (WL.num rfl rfl (n_shr64 _ _ _ _ 32 (by decide)) rfl (?_))))))))
  refine WL.assign rfl rfl (WL.nil (WX.then_normal (WC.seq (WC.region (WL.move rfl rfl (WL.move rfl rfl (WL.move rfl rfl (?_))))))))
  refine WL.num rfl rfl (n_mul64 _ _ _ _) rfl (WL.num rfl rfl (n_add64 _ _ _ _) rfl (WL.assign rfl rfl (WL.nil (WX.then_normal (WC.seq (WC.region (WL.move rfl rfl (?_))))))))
  refine WL.move rfl rfl (WL.num rfl rfl (n_mul64 _ _ _ _) rfl (WL.move rfl rfl (WL.num rfl rfl (n_add64 _ _ _ _) rfl (WL.move rfl rfl (WL.num rfl rfl (n_shr64 _ _ _ _ 32 (by decide)) rfl (WL.num rfl rfl (n_add64 _ _ _ _) rfl (WL.assign rfl rfl (?_))))))))
  refine WL.nil (WX.then_normal (WC.seq (WC.region (WL.move rfl rfl (WL.move rfl rfl (WL.num rfl rfl (n_mul64 _ _ _ _) rfl (WL.assign rfl rfl (?_))))))))
  refine WL.nil (WX.then_normal (WC.ret (?_)))
  refine WX.ret2 (.inl rfl) Tryd.results123 rfl rfl ?_
  exact ⟨_, rfl, rfl, hw⟩
def squareF (x p : UInt64) : Bool := decide ((mulHi x x).toNat < p.toNat) || (decide ((mulHi x x).toNat = p.toNat) && decide ((x * x).toNat = 0))
theorem square_calls (x p : UInt64) (w : World) : Calls Tryd.prog 115 [v64 x, v64 p].toArray w (Ret fun v w' => v = .bool (squareF x p) ∧ Chg Nob w w') := by
  have hw := Chg.refl Nob w
  refine Calls.of_WC Tryd.func115 rfl Tryd.ntmps115 (by simp) ?_
  refine WC.seq (WC.region (WL.assign rfl rfl (WL.nil (WX.then_normal (WC.seq (WC.region (WL.move rfl rfl (?_))))))))
  refine WL.move rfl rfl (?_)
  refine WL.call eg_123 rfl rfl (mul64_calls x x _) ?_
  rintro v w1 ⟨rfl, k⟩
  have zs_k := k.size
  replace hw := hw.pure k
  refine WL.move rfl rfl (WL.extract rfl rfl rfl (WL.extract rfl rfl rfl (WL.assign rfl rfl (WL.assign rfl rfl (WL.nil (WX.then_normal (WC.seq (?_))))))))
  refine WC.region (WL.move rfl rfl (WL.move rfl rfl (?_)))
  refine WL.lss? rfl rfl rfl (fun h15 => ?_) (fun h15 => ?_)
  ·
    refine WL.move rfl rfl (WL.pass rfl rfl rfl rfl (WL.pass rfl rfl rfl rfl (WL.pass rfl rfl rfl rfl (WL.pass rfl rfl rfl rfl (WL.passU rfl rfl rfl (WL.passU rfl rfl rfl (WL.pass rfl rfl rfl rfl (?_))))))))
    refine WL.pickT rfl rfl rfl (WL.assign rfl rfl (WL.nil (WX.then_normal (WC.ret (?_)))))
    refine WX.ret1 (.inl rfl) Tryd.results115 rfl ?_
    refine ⟨_, rfl, congrArg Value.bool ?_, hw⟩
    rw [squareF]
    first
      | (rw [show decide ((mulHi x x).toNat < p.toNat) = true from decide_eq_true (by omega)]; rfl)
      | (rw [show decide ((mulHi x x).toNat < p.toNat) = false from decide_eq_false (by omega), show decide ((mulHi x x).toNat = p.toNat) = true from decide_eq_true (by omega), Bool.false_or, Bool.true_and]; exact decide_eq_decide.2 (by omega))
      | (rw [show decide ((mulHi x x).toNat < p.toNat) = false from decide_eq_false (by omega), show decide ((mulHi x x).toNat = p.toNat) = false from decide_eq_false (by omega)]; rfl)
  ·
    refine WL.move rfl rfl (WL.want rfl rfl rfl (WL.move rfl rfl (WL.want rfl rfl rfl (WL.move rfl rfl (WL.want rfl rfl rfl (?_))))))
    refine WL.eql? rfl rfl rfl (fun h19 => ?_) (fun h19 => ?_)
    ·
      refine WL.want rfl rfl rfl (WL.move rfl rfl (WL.want rfl rfl rfl (WL.move rfl rfl (WL.want rfl rfl rfl (WL.eql rfl rfl rfl (WL.want rfl rfl rfl (WL.pickT rfl rfl rfl (?_))))))))
      refine WL.pickF rfl rfl rfl (WL.assign rfl rfl (WL.nil (WX.then_normal (WC.ret (?_)))))
      refine WX.ret1 (.inl rfl) Tryd.results115 rfl ?_
      refine ⟨_, rfl, congrArg Value.bool ?_, hw⟩
      rw [squareF]
      first
        | (rw [show decide ((mulHi x x).toNat < p.toNat) = true from decide_eq_true (by omega)]; rfl)
        | (rw [show decide ((mulHi x x).toNat < p.toNat) = false from decide_eq_false (by omega), show decide ((mulHi x x).toNat = p.toNat) = true from decide_eq_true (by omega), Bool.false_or, Bool.true_and]; exact decide_eq_decide.2 (by omega))
        | (rw [show decide ((mulHi x x).toNat < p.toNat) = false from decide_eq_false (by omega), show decide ((mulHi x x).toNat = p.toNat) = false from decide_eq_false (by omega)]; rfl)
    ·
      refine WL.want rfl rfl rfl (WL.move rfl rfl (WL.pass rfl rfl rfl rfl (WL.pass rfl rfl rfl rfl (WL.want rfl rfl rfl (WL.pickF rfl rfl rfl (WL.pickF rfl rfl rfl (WL.assign rfl rfl (?_))))))))
      refine WL.nil (WX.then_normal (WC.ret (?_)))
      refine WX.ret1 (.inl rfl) Tryd.results115 rfl ?_
      refine ⟨_, rfl, congrArg Value.bool ?_, hw⟩
      rw [squareF]
      first
        | (rw [show decide ((mulHi x x).toNat < p.toNat) = true from decide_eq_true (by omega)]; rfl)
        | (rw [show decide ((mulHi x x).toNat < p.toNat) = false from decide_eq_false (by omega), show decide ((mulHi x x).toNat = p.toNat) = true from decide_eq_true (by omega), Bool.false_or, Bool.true_and]; exact decide_eq_decide.2 (by omega))
        | (rw [show decide ((mulHi x x).toNat < p.toNat) = false from decide_eq_false (by omega), show decide ((mulHi x x).toNat = p.toNat) = false from decide_eq_false (by omega)]; rfl)
def cubeTop (x : UInt64) : UInt64 := mulHi x x * x + mulHi (x * x) x
def cubeF (x p : UInt64) : Bool := decide ((cubeTop x).toNat < (p <<< UInt64.ofNat 32).toNat) || (decide ((cubeTop x).toNat = (p <<< UInt64.ofNat 32).toNat) && decide ((x * x * x).toNat = 0))
theorem cube_calls (x p : UInt64) (w : World) : Calls Tryd.prog 114 [v64 x, v64 p].toArray w (Ret fun v w' => v = .bool (cubeF x p) ∧ Chg Nob w w') := by
  have hw := Chg.refl Nob w
  refine Calls.of_WC Tryd.func114 rfl Tryd.ntmps114 (by simp) ?_
  refine WC.seq (WC.region (WL.assign rfl rfl (WL.nil (WX.then_normal (WC.seq (WC.region (WL.move rfl rfl (?_))))))))
  refine WL.move rfl rfl (?_)
  refine WL.call eg_123 rfl rfl (mul64_calls x x _) ?_
  rintro v w1 ⟨rfl, k⟩
  have zs_k := k.size
  replace hw := hw.pure k
  refine WL.move rfl rfl (WL.extract rfl rfl rfl (WL.extract rfl rfl rfl (WL.assign rfl rfl (WL.assign rfl rfl (WL.nil (WX.then_normal (WC.seq (?_))))))))
  refine WC.region (WL.move rfl rfl (WL.move rfl rfl (?_)))
  refine WL.call eg_123 rfl rfl (mul64_calls (x * x) x _) ?_
  rintro v w1 ⟨rfl, k⟩
  have zs_k := k.size
  replace hw := hw.pure k
  refine WL.move rfl rfl (WL.extract rfl rfl rfl (WL.extract rfl rfl rfl (WL.assign rfl rfl (WL.assign rfl rfl (WL.nil (WX.then_normal (WC.seq (?_))))))))
  refine WC.region (WL.move rfl rfl (WL.move rfl rfl (WL.num rfl rfl (n_mul64 _ _ _ _) rfl (WL.move rfl rfl (?_)))))
  refine WL.num rfl rfl (n_add64 _ _ _ _) rfl ?_
  rw [show mulHi x x * x + mulHi (x * x) x = cubeTop x from rfl]
  refine WL.assign rfl rfl (WL.nil (WX.then_normal (WC.seq (WC.region (WL.move rfl rfl (WL.move rfl rfl (WL.num rfl rfl (n_shl64 _ _ _ _ 32 (by decide)) rfl (?_))))))))
  refine WL.lss? rfl rfl rfl (fun h30 => ?_) (fun h30 => ?_)
  ·
    refine WL.move rfl rfl (WL.pass rfl rfl rfl rfl (WL.pass rfl rfl rfl rfl (WL.pass rfl rfl rfl rfl (WL.pass rfl rfl rfl rfl (WL.pass rfl rfl rfl rfl (WL.passU rfl rfl rfl (WL.passU rfl rfl rfl (?_))))))))
    refine WL.pass rfl rfl rfl rfl (WL.pickT rfl rfl rfl (WL.assign rfl rfl (WL.nil (WX.then_normal (WC.ret (?_))))))
    refine WX.ret1 (.inl rfl) Tryd.results114 rfl ?_
    refine ⟨_, rfl, congrArg Value.bool ?_, hw⟩
    rw [cubeF]
    first
      | (rw [show decide ((cubeTop x).toNat < (p <<< UInt64.ofNat 32).toNat) = true from decide_eq_true (by omega)]; rfl)
      | (rw [show decide ((cubeTop x).toNat < (p <<< UInt64.ofNat 32).toNat) = false from decide_eq_false (by omega), show decide ((cubeTop x).toNat = (p <<< UInt64.ofNat 32).toNat) = true from decide_eq_true (by omega), Bool.false_or, Bool.true_and]; exact decide_eq_decide.2 (by omega))
      | (rw [show decide ((cubeTop x).toNat < (p <<< UInt64.ofNat 32).toNat) = false from decide_eq_false (by omega), show decide ((cubeTop x).toNat = (p <<< UInt64.ofNat 32).toNat) = false from decide_eq_false (by omega)]; rfl)
  ·
    refine WL.move rfl rfl (WL.want rfl rfl rfl (WL.move rfl rfl (WL.want rfl rfl rfl (WL.move rfl rfl (WL.want rfl rfl rfl (WL.num rfl rfl (n_shl64 _ _ _ _ 32 (by decide)) rfl (WL.want rfl rfl rfl (?_))))))))
    refine WL.eql? rfl rfl rfl (fun h35 => ?_) (fun h35 => ?_)
    ·
      refine WL.want rfl rfl rfl (WL.move rfl rfl (WL.want rfl rfl rfl (WL.move rfl rfl (WL.want rfl rfl rfl (WL.eql rfl rfl rfl (WL.want rfl rfl rfl (WL.pickT rfl rfl rfl (?_))))))))
      refine WL.pickF rfl rfl rfl (WL.assign rfl rfl (WL.nil (WX.then_normal (WC.ret (?_)))))
      refine WX.ret1 (.inl rfl) Tryd.results114 rfl ?_
      refine ⟨_, rfl, congrArg Value.bool ?_, hw⟩
      rw [cubeF]
      first
        | (rw [show decide ((cubeTop x).toNat < (p <<< UInt64.ofNat 32).toNat) = true from decide_eq_true (by omega)]; rfl)
        | (rw [show decide ((cubeTop x).toNat < (p <<< UInt64.ofNat 32).toNat) = false from decide_eq_false (by omega), show decide ((cubeTop x).toNat = (p <<< UInt64.ofNat 32).toNat) = true from decide_eq_true (by omega), Bool.false_or, Bool.true_and]; exact decide_eq_decide.2 (by omega))
        | (rw [show decide ((cubeTop x).toNat < (p <<< UInt64.ofNat 32).toNat) = false from decide_eq_false (by omega), show decide ((cubeTop x).toNat = (p <<< UInt64.ofNat 32).toNat) = false from decide_eq_false (by omega)]; rfl)
    ·
      refine WL.want rfl rfl rfl (WL.move rfl rfl (WL.pass rfl rfl rfl rfl (WL.pass rfl rfl rfl rfl (WL.want rfl rfl rfl (WL.pickF rfl rfl rfl (WL.pickF rfl rfl rfl (WL.assign rfl rfl (?_))))))))
      refine WL.nil (WX.then_normal (WC.ret (?_)))
      refine WX.ret1 (.inl rfl) Tryd.results114 rfl ?_
      refine ⟨_, rfl, congrArg Value.bool ?_, hw⟩
      rw [cubeF]
      first
        | (rw [show decide ((cubeTop x).toNat < (p <<< UInt64.ofNat 32).toNat) = true from decide_eq_true (by omega)]; rfl)
        | (rw [show decide ((cubeTop x).toNat < (p <<< UInt64.ofNat 32).toNat) = false from decide_eq_false (by omega), show decide ((cubeTop x).toNat = (p <<< UInt64.ofNat 32).toNat) = true from decide_eq_true (by omega), Bool.false_or, Bool.true_and]; exact decide_eq_decide.2 (by omega))
        | (rw [show decide ((cubeTop x).toNat < (p <<< UInt64.ofNat 32).toNat) = false from decide_eq_false (by omega), show decide ((cubeTop x).toNat = (p <<< UInt64.ofNat 32).toNat) = false from decide_eq_false (by omega)]; rfl)
/-! roots -/
def tryF (p y : UInt64) (third : Bool) (k : Nat) : Bool := if third then decide (k < 36) && cubeF y p else squareF y p
def rootStep (p : UInt64) (third : Bool) (x : UInt64) (k : Nat) : UInt64 := if tryF p (x + 1 <<< UInt64.ofNat k) third k then x + 1 <<< UInt64.ofNat k else x
def rootAt (p : UInt64) (third : Bool) : Nat → UInt64
  | 0 => 0
  | i + 1 => rootStep p third (rootAt p third i) (37 - i)
def rootF (p : UInt64) (third : Bool) : UInt64 := rootAt p third 38 &&& 4294967295
set_option maxHeartbeats 1000000 in
theorem root_calls (p : UInt64) (third : Bool) (w : World) : Calls Tryd.prog 93 [v64 p, .bool third].toArray w (Ret fun v w' => v = v64 (rootF p third) ∧ Chg Nob w w') := by
  have hw := Chg.refl Nob w
  refine Calls.of_WC Tryd.func93 rfl Tryd.ntmps93 (by simp) ?_
  refine WC.seq (WC.region (WL.assign rfl rfl (WL.nil (WX.then_normal (WC.seq (WC.region (WL.assign rfl rfl (?_))))))))
  refine WL.nil (WX.then_normal (WC.seq (WC.seq (WC.region (WL.assign rfl rfl (WL.nil (WX.then_normal (?_))))))))
  refine WC.block (?_)
  refine WC.loop (σ := Nat) (fun i => [(0, v64 p), (1, .bool third), (5, v64 (rootAt p third i)), (6, vi (37 - (i : Int)))])
    (fun i w' => i ≤ 38 ∧ Chg Nob w w') (fun i => 38 - i) 0 ⟨rfl, rfl, rfl, rfl, trivial⟩ ⟨Nat.zero_le _, hw⟩ ?_
  clear hw
  rintro i w9 ⟨hi, hw⟩
  rcases third with _ | _
  ·
    refine WC.seq (WC.seq (WC.region (WL.move rfl rfl (?_))))
    refine WL.geq? rfl rfl rfl (fun h9 => ?_) (fun h9 => ?_)
    ·
      refine WL.nil (WX.then_normal (WC.cond_true rfl (WC.skip (WX.then_normal (WC.seq (WC.block (WC.seq (?_))))))))
      refine WC.region (WL.move rfl rfl (WL.move rfl rfl (?_)))
      refine WL.shlv (a := 1) (37 - i) rfl rfl ⟨by omega, by omega⟩ rfl ?_
      refine WL.num rfl rfl (n_add64 _ _ _ _) rfl ?_
      refine WL.assign rfl rfl (WL.nil (WX.then_normal (WC.seq (WC.region (WL.move rfl rfl (WL.move rfl rfl (WL.pass rfl rfl rfl rfl (?_))))))))
      refine WL.pass rfl rfl rfl rfl (WL.pickF rfl rfl rfl (WL.move rfl rfl (WL.pass rfl rfl rfl rfl (WL.pass rfl rfl rfl rfl (WL.pass rfl rfl rfl rfl (WL.pickF rfl rfl rfl (WL.move rfl rfl (?_))))))))
      refine WL.want rfl rfl rfl (WL.move rfl rfl (WL.want rfl rfl rfl (WL.not rfl rfl (WL.want rfl rfl rfl (WL.move rfl rfl (WL.want rfl rfl rfl (WL.move rfl rfl (?_))))))))
      refine WL.want rfl rfl rfl (WL.move rfl rfl (WL.want rfl rfl rfl (?_)))
      refine WL.call eg_115 rfl rfl (square_calls _ _ _) ?_
      rintro v w1 ⟨rfl, k⟩
      have zs_k := k.size
      replace hw := hw.pure k
      obtain ⟨cb, hcb⟩ : ∃ cb, cb = squareF (rootAt p false i + 1 <<< UInt64.ofNat (37 - i)) p := ⟨_, rfl⟩
      rw [← hcb]
      rcases cb with _ | _
      ·
        refine WL.want rfl rfl rfl (WL.pickT rfl rfl rfl (WL.pickF rfl rfl rfl (WL.nil (WX.then_normal (WC.cond_false rfl (WC.skip (WX.block_normal (?_))))))))
        refine WX.then_normal (WC.region (WL.move rfl rfl (WL.sub64 rfl rfl (by first | omega | (constructor <;> omega)) rfl (WL.assign rfl rfl (WL.nil (?_))))))
        have e37 : 37 - ((i + 1 : Nat) : Int) = 37 - (i : Int) - 1 := by omega
        refine WX.loop_next (i + 1) ⟨rfl, rfl, ?_, by rw [e37]; rfl, trivial⟩ ⟨by omega, hw⟩ (by show _ - _ < _ - _; omega)
        rw [rootAt, rootStep]
        first
          | (rw [if_pos (by rw [tryF, if_neg (by decide), ← hcb])]; rfl)
          | (rw [if_neg (by rw [tryF, if_neg (by decide), ← hcb]; decide)]; rfl)
          | (rw [if_pos (by rw [tryF, if_pos rfl, ← hcb, show decide (37 - i < 36) = true from decide_eq_true (by omega)]; rfl)]; rfl)
          | (rw [if_neg (by rw [tryF, if_pos rfl, ← hcb, Bool.and_false]; decide)]; rfl)
          | (rw [if_neg (by rw [tryF, if_pos rfl, show decide (37 - i < 36) = false from decide_eq_false (by omega), Bool.false_and]; decide)]; rfl)
      ·
        refine WL.want rfl rfl rfl (WL.pickT rfl rfl rfl (WL.pickF rfl rfl rfl (WL.nil (WX.then_normal (WC.cond_true rfl (WC.region (WL.move rfl rfl (?_))))))))
        refine WL.assign rfl rfl (WL.nil (WX.block_normal (WX.then_normal (WC.region (WL.move rfl rfl (WL.sub64 rfl rfl (by first | omega | (constructor <;> omega)) rfl (WL.assign rfl rfl (?_))))))))
        refine WL.nil (?_)
        have e37 : 37 - ((i + 1 : Nat) : Int) = 37 - (i : Int) - 1 := by omega
        refine WX.loop_next (i + 1) ⟨rfl, rfl, ?_, by rw [e37]; rfl, trivial⟩ ⟨by omega, hw⟩ (by show _ - _ < _ - _; omega)
        rw [rootAt, rootStep]
        first
          | (rw [if_pos (by rw [tryF, if_neg (by decide), ← hcb])]; rfl)
          | (rw [if_neg (by rw [tryF, if_neg (by decide), ← hcb]; decide)]; rfl)
          | (rw [if_pos (by rw [tryF, if_pos rfl, ← hcb, show decide (37 - i < 36) = true from decide_eq_true (by omega)]; rfl)]; rfl)
          | (rw [if_neg (by rw [tryF, if_pos rfl, ← hcb, Bool.and_false]; decide)]; rfl)
          | (rw [if_neg (by rw [tryF, if_pos rfl, show decide (37 - i < 36) = false from decide_eq_false (by omega), Bool.false_and]; decide)]; rfl)
    ·
      refine WL.nil (WX.then_normal (WC.cond_false rfl (WC.exit (WX.then_exit (WX.then_exit (WX.block_here (WX.then_normal (?_))))))))
      refine WC.seq (WC.region (WL.move rfl rfl (WL.num rfl rfl (n_and64 _ _ _ 4294967295) rfl (WL.assign rfl rfl (WL.nil (WX.then_normal (WC.ret (?_))))))))
      refine WX.ret1 (.inl rfl) Tryd.results93 rfl ?_
      have h38 : i = 38 := by omega
      rw [h38]
      exact ⟨_, rfl, rfl, hw⟩
  ·
    refine WC.seq (WC.seq (WC.region (WL.move rfl rfl (?_))))
    refine WL.geq? rfl rfl rfl (fun h9 => ?_) (fun h9 => ?_)
    ·
      refine WL.nil (WX.then_normal (WC.cond_true rfl (WC.skip (WX.then_normal (WC.seq (WC.block (WC.seq (?_))))))))
      refine WC.region (WL.move rfl rfl (WL.move rfl rfl (?_)))
      refine WL.shlv (a := 1) (37 - i) rfl rfl ⟨by omega, by omega⟩ rfl ?_
      refine WL.num rfl rfl (n_add64 _ _ _ _) rfl ?_
      refine WL.assign rfl rfl (WL.nil (WX.then_normal (WC.seq (WC.region (WL.move rfl rfl (WL.move rfl rfl (WL.want rfl rfl rfl (?_))))))))
      refine WL.move rfl rfl (WL.want rfl rfl rfl (?_))
      refine WL.lss? rfl rfl rfl (fun h19 => ?_) (fun h19 => ?_)
      ·
        refine WL.pickT rfl rfl rfl (WL.move rfl rfl (WL.want rfl rfl rfl (WL.move rfl rfl (WL.want rfl rfl rfl (WL.move rfl rfl (WL.want rfl rfl rfl (?_)))))))
        refine WL.call eg_114 rfl rfl (cube_calls _ _ _) ?_
        rintro v w1 ⟨rfl, k⟩
        have zs_k := k.size
        replace hw := hw.pure k
        obtain ⟨cb, hcb⟩ : ∃ cb, cb = cubeF (rootAt p true i + 1 <<< UInt64.ofNat (37 - i)) p := ⟨_, rfl⟩
        rw [← hcb]
        rcases cb with _ | _
        ·
          refine WL.pickT rfl rfl rfl (WL.move rfl rfl (WL.want rfl rfl rfl (WL.move rfl rfl (WL.want rfl rfl rfl (WL.not rfl rfl (WL.want rfl rfl rfl (WL.move rfl rfl (?_))))))))
          refine WL.pass rfl rfl rfl rfl (WL.pass rfl rfl rfl rfl (WL.pass rfl rfl rfl rfl (WL.want rfl rfl rfl (WL.pickF rfl rfl rfl (WL.pickF rfl rfl rfl (WL.nil (WX.then_normal (?_))))))))
          refine WC.cond_false rfl (WC.skip (WX.block_normal (WX.then_normal (WC.region (WL.move rfl rfl (WL.sub64 rfl rfl (by first | omega | (constructor <;> omega)) rfl (WL.assign rfl rfl (?_))))))))
          refine WL.nil (?_)
          have e37 : 37 - ((i + 1 : Nat) : Int) = 37 - (i : Int) - 1 := by omega
          refine WX.loop_next (i + 1) ⟨rfl, rfl, ?_, by rw [e37]; rfl, trivial⟩ ⟨by omega, hw⟩ (by show _ - _ < _ - _; omega)
          rw [rootAt, rootStep]
          first
            | (rw [if_pos (by rw [tryF, if_neg (by decide), ← hcb])]; rfl)
            | (rw [if_neg (by rw [tryF, if_neg (by decide), ← hcb]; decide)]; rfl)
            | (rw [if_pos (by rw [tryF, if_pos rfl, ← hcb, show decide (37 - i < 36) = true from decide_eq_true (by omega)]; rfl)]; rfl)
            | (rw [if_neg (by rw [tryF, if_pos rfl, ← hcb, Bool.and_false]; decide)]; rfl)
            | (rw [if_neg (by rw [tryF, if_pos rfl, show decide (37 - i < 36) = false from decide_eq_false (by omega), Bool.false_and]; decide)]; rfl)
        ·
          refine WL.pickT rfl rfl rfl (WL.move rfl rfl (WL.pass rfl rfl rfl rfl (WL.pass rfl rfl rfl rfl (WL.pass rfl rfl rfl rfl (WL.passU rfl rfl rfl (WL.passU rfl rfl rfl (WL.passU rfl rfl rfl (?_))))))))
          refine WL.pass rfl rfl rfl rfl (WL.pickT rfl rfl rfl (WL.nil (WX.then_normal (WC.cond_true rfl (WC.region (WL.move rfl rfl (WL.assign rfl rfl (?_))))))))
          refine WL.nil (WX.block_normal (WX.then_normal (WC.region (WL.move rfl rfl (WL.sub64 rfl rfl (by first | omega | (constructor <;> omega)) rfl (WL.assign rfl rfl (WL.nil (?_))))))))
          have e37 : 37 - ((i + 1 : Nat) : Int) = 37 - (i : Int) - 1 := by omega
          refine WX.loop_next (i + 1) ⟨rfl, rfl, ?_, by rw [e37]; rfl, trivial⟩ ⟨by omega, hw⟩ (by show _ - _ < _ - _; omega)
          rw [rootAt, rootStep]
          first
            | (rw [if_pos (by rw [tryF, if_neg (by decide), ← hcb])]; rfl)
            | (rw [if_neg (by rw [tryF, if_neg (by decide), ← hcb]; decide)]; rfl)
            | (rw [if_pos (by rw [tryF, if_pos rfl, ← hcb, show decide (37 - i < 36) = true from decide_eq_true (by omega)]; rfl)]; rfl)
            | (rw [if_neg (by rw [tryF, if_pos rfl, ← hcb, Bool.and_false]; decide)]; rfl)
            | (rw [if_neg (by rw [tryF, if_pos rfl, show decide (37 - i < 36) = false from decide_eq_false (by omega), Bool.false_and]; decide)]; rfl)
      ·
        refine WL.pickT rfl rfl rfl (WL.move rfl rfl (WL.pass rfl rfl rfl rfl (WL.pass rfl rfl rfl rfl (WL.pass rfl rfl rfl rfl (WL.pickF rfl rfl rfl (WL.move rfl rfl (WL.want rfl rfl rfl (?_))))))))
        refine WL.move rfl rfl (WL.want rfl rfl rfl (WL.not rfl rfl (WL.want rfl rfl rfl (WL.move rfl rfl (WL.pass rfl rfl rfl rfl (WL.pass rfl rfl rfl rfl (WL.pass rfl rfl rfl rfl (?_))))))))
        refine WL.want rfl rfl rfl (WL.pickF rfl rfl rfl (WL.pickF rfl rfl rfl (WL.nil (WX.then_normal (WC.cond_false rfl (WC.skip (WX.block_normal (?_))))))))
        refine WX.then_normal (WC.region (WL.move rfl rfl (WL.sub64 rfl rfl (by first | omega | (constructor <;> omega)) rfl (WL.assign rfl rfl (WL.nil (?_))))))
        have e37 : 37 - ((i + 1 : Nat) : Int) = 37 - (i : Int) - 1 := by omega
        refine WX.loop_next (i + 1) ⟨rfl, rfl, ?_, by rw [e37]; rfl, trivial⟩ ⟨by omega, hw⟩ (by show _ - _ < _ - _; omega)
        rw [rootAt, rootStep]
        first
          | (rw [if_pos (by rw [tryF, if_neg (by decide), ← hcb])]; rfl)
          | (rw [if_neg (by rw [tryF, if_neg (by decide), ← hcb]; decide)]; rfl)
          | (rw [if_pos (by rw [tryF, if_pos rfl, ← hcb, show decide (37 - i < 36) = true from decide_eq_true (by omega)]; rfl)]; rfl)
          | (rw [if_neg (by rw [tryF, if_pos rfl, ← hcb, Bool.and_false]; decide)]; rfl)
          | (rw [if_neg (by rw [tryF, if_pos rfl, show decide (37 - i < 36) = false from decide_eq_false (by omega), Bool.false_and]; decide)]; rfl)
    ·
      refine WL.nil (WX.then_normal (WC.cond_false rfl (WC.exit (WX.then_exit (WX.then_exit (WX.block_here (WX.then_normal (?_))))))))
      refine WC.seq (WC.region (WL.move rfl rfl (WL.num rfl rfl (n_and64 _ _ _ 4294967295) rfl (WL.assign rfl rfl (WL.nil (WX.then_normal (WC.ret (?_))))))))
      refine WX.ret1 (.inl rfl) Tryd.results93 rfl ?_
      have h38 : i = 38 := by omega
      rw [h38]
      exact ⟨_, rfl, rfl, hw⟩
end Go.Proofs.YtcdbkfaebgficaaDoor
namespace Go.Proofs.YtcdbkfaebgficaaDoor
open Go.RowKit Go.HL
theorem roots_k : ∀ i : Fin 64, rootF (P64.getD i.1 0) true = (K256.getD i.1 0).toUInt64 := by decide +kernel
theorem roots_h : ∀ i : Fin 8, rootF (P64.getD i.1 0) false = (st0.list.getD i.1 0).toUInt64 := by decide +kernel
end Go.Proofs.YtcdbkfaebgficaaDoor
namespace Go.Proofs.YtcdbkfaebgficaaDoor
open Go.RowKit Go.HL

/-! the document's words are those of 32 bits -/
def UL (V : V8) : List UInt64 := V.list.map UInt32.toUInt64
def K64 : List UInt64 := K256.map UInt32.toUInt64
theorem down32 (a : UInt64) (x : UInt32) (h : a.toUInt32 = x) : a &&& 4294967295 = x.toUInt64 := by rw [m32, h]
theorem not_up (x : UInt32) : (x.toUInt64 ^^^ 4294967295).toUInt32 = ~~~x := by
  rw [UInt64.toUInt32_xor, up_down]
  apply UInt32.toBitVec_inj.1
  show x.toBitVec ^^^ BitVec.allOnes 32 = ~~~x.toBitVec
  rw [BitVec.xor_allOnes]
def S0r (x : UInt32) : UInt64 := ((rotr x 7).toUInt64 ^^^ (rotr x 18).toUInt64) ^^^ (x.toUInt64 >>> UInt64.ofNat 3)
def S1r (x : UInt32) : UInt64 := ((rotr x 17).toUInt64 ^^^ (rotr x 19).toUInt64) ^^^ (x.toUInt64 >>> UInt64.ofNat 10)
def nextW32 (ws : List UInt32) (t : Nat) : UInt32 := ws.getD (t - 16) 0 + ((rotr (ws.getD (t - 15) 0) 7 ^^^ rotr (ws.getD (t - 15) 0) 18) ^^^ (ws.getD (t - 15) 0) >>> UInt32.ofNat 3) + ws.getD (t - 7) 0 + ((rotr (ws.getD (t - 2) 0) 17 ^^^ rotr (ws.getD (t - 2) 0) 19) ^^^ (ws.getD (t - 2) 0) >>> UInt32.ofNat 10)
theorem nextW_big {b : List UInt8} {ws : List UInt32} {t : Nat} (h : 16 ≤ t) : nextW b ws t = nextW32 ws t := by
  rw [nextW, if_neg (by omega)]
  rfl
theorem nextW_up (ws : List UInt32) (t : Nat) : (((ws.getD (t - 16) 0).toUInt64 + S0r (ws.getD (t - 15) 0)) + (ws.getD (t - 7) 0).toUInt64 + S1r (ws.getD (t - 2) 0)) &&& 4294967295 = (nextW32 ws t).toUInt64 := by
  apply down32
  simp only [S0r, S1r, nextW32, UInt64.toUInt32_add, UInt64.toUInt32_xor, up_down, up_shr _ (show 3 < 32 by decide), up_shr _ (show 10 < 32 by decide)]
def T1r (V : V8) (k w : UInt32) : UInt64 := V.h.toUInt64 + (((rotr V.e 6).toUInt64 ^^^ (rotr V.e 11).toUInt64) ^^^ (rotr V.e 25).toUInt64) + ((V.e.toUInt64 &&& V.f.toUInt64) ^^^ ((V.e.toUInt64 ^^^ 4294967295) &&& V.g.toUInt64)) + k.toUInt64 + w.toUInt64
def T2r (V : V8) : UInt64 := (((rotr V.a 2).toUInt64 ^^^ (rotr V.a 13).toUInt64) ^^^ (rotr V.a 22).toUInt64) + (((V.a.toUInt64 &&& V.b.toUInt64) ^^^ (V.a.toUInt64 &&& V.c.toUInt64)) ^^^ (V.b.toUInt64 &&& V.c.toUInt64))
theorem round_up (V : V8) (k w : UInt32) : UL (round1 V k w) = [(T1r V k w + T2r V) &&& 4294967295, V.a.toUInt64, V.b.toUInt64, V.c.toUInt64, (V.d.toUInt64 + T1r V k w) &&& 4294967295, V.e.toUInt64, V.f.toUInt64, V.g.toUInt64] := by
  have h1 : (T1r V k w).toUInt32 = V.h + ((rotr V.e 6 ^^^ rotr V.e 11) ^^^ rotr V.e 25) + ((V.e &&& V.f) ^^^ (~~~V.e &&& V.g)) + k + w := by
    simp only [T1r, UInt64.toUInt32_add, UInt64.toUInt32_xor, UInt64.toUInt32_and, up_down]
    rw [← not_up V.e]
    simp only [UInt64.toUInt32_xor, up_down]
  have h2 : (T2r V).toUInt32 = ((rotr V.a 2 ^^^ rotr V.a 13) ^^^ rotr V.a 22) + (((V.a &&& V.b) ^^^ (V.a &&& V.c)) ^^^ (V.b &&& V.c)) := by
    simp only [T2r, UInt64.toUInt32_add, UInt64.toUInt32_xor, UInt64.toUInt32_and, up_down]
  rw [m32, m32, UInt64.toUInt32_add, UInt64.toUInt32_add, h1, h2, up_down]
  rfl
theorem add_up (a b : UInt32) : (a.toUInt64 + b.toUInt64) &&& 4294967295 = (a + b).toUInt64 := by
  rw [m32, UInt64.toUInt32_add, up_down, up_down]
theorem byte_up (x : UInt32) {k : Nat} (h : k < 32) : (x.toUInt64 >>> UInt64.ofNat k).toUInt8 = (x >>> UInt32.ofNat k).toUInt8 := by
  rw [← up_shr x h]
  apply UInt8.toNat_inj.1
  simp
theorem byte_up0 (x : UInt32) : x.toUInt64.toUInt8 = x.toUInt8 := by
  apply UInt8.toNat_inj.1
  simp
def accB (b : List UInt8) (t : Nat) : Nat → UInt64
  | 0 => 0
  | i + 1 => accB b t i * 256 + (b.getD (4 * t + i) 0).toUInt64
theorem word_up (a b c d : UInt8) : ((((0 * 256 + a.toUInt64) * 256 + b.toUInt64) * 256 + c.toUInt64) * 256 + d.toUInt64 : UInt64) = (((a.toUInt32 <<< UInt32.ofNat 24 ||| b.toUInt32 <<< UInt32.ofNat 16) ||| c.toUInt32 <<< UInt32.ofNat 8) ||| d.toUInt32).toUInt64 := by
  have ha := a.toNat_lt
  have hb := b.toNat_lt
  have hc := c.toNat_lt
  have hd := d.toNat_lt
  apply UInt64.toNat_inj.1
  have e24 : (a.toUInt32 <<< UInt32.ofNat 24).toNat = a.toNat <<< 24 := by
    simp [UInt32.toNat_shiftLeft, Nat.shiftLeft_eq]
    omega
  have e16 : (b.toUInt32 <<< UInt32.ofNat 16).toNat = b.toNat <<< 16 := by
    simp [UInt32.toNat_shiftLeft, Nat.shiftLeft_eq]
    omega
  have e8 : (c.toUInt32 <<< UInt32.ofNat 8).toNat = c.toNat <<< 8 := by
    simp [UInt32.toNat_shiftLeft, Nat.shiftLeft_eq]
    omega
  rw [UInt32.toNat_toUInt64, UInt32.toNat_or, UInt32.toNat_or, UInt32.toNat_or, e24, e16, e8, UInt8.toNat_toUInt32]
  have h1 : c.toNat <<< 8 ||| d.toNat = c.toNat <<< 8 + d.toNat := (Nat.shiftLeft_add_eq_or_of_lt (by simpa using hd) _).symm
  have h2 : b.toNat <<< 16 ||| (c.toNat <<< 8 + d.toNat) = b.toNat <<< 16 + (c.toNat <<< 8 + d.toNat) := (Nat.shiftLeft_add_eq_or_of_lt (by rw [Nat.shiftLeft_eq]; omega) _).symm
  have h3 : a.toNat <<< 24 ||| (b.toNat <<< 16 + (c.toNat <<< 8 + d.toNat)) = a.toNat <<< 24 + (b.toNat <<< 16 + (c.toNat <<< 8 + d.toNat)) := (Nat.shiftLeft_add_eq_or_of_lt (by rw [Nat.shiftLeft_eq, Nat.shiftLeft_eq]; omega) _).symm
  rw [Nat.or_assoc, Nat.or_assoc, h1, h2, h3]
  simp only [UInt64.toNat_add, UInt64.toNat_mul, UInt8.toNat_toUInt64, Nat.shiftLeft_eq]
  simp
  omega
theorem accB_word (b : List UInt8) (t : Nat) : accB b t 4 = (wordAt b t).toUInt64 := word_up _ _ _ _
theorem nextW_small {b : List UInt8} {ws : List UInt32} {t : Nat} (h : t < 16) : nextW b ws t = wordAt b t := by rw [nextW, if_pos h]
def WU (b : List UInt8) (t : Nat) : List UInt64 := (sch b t).map UInt32.toUInt64
theorem WU_len (b : List UInt8) (t : Nat) : (WU b t).length = t := by rw [WU, List.length_map, sch_len]
theorem WU_next (b : List UInt8) (t : Nat) : WU b (t + 1) = WU b t ++ [(nextW b (sch b t) t).toUInt64] := by rw [WU, sch, List.map_append]; rfl
theorem WU_at {b : List UInt8} {t i : Nat} (h : i < t) : (WU b t)[i]? = some ((sch b t).getD i 0).toUInt64 := map_at _ (getD_at (by rw [sch_len]; exact h))

theorem getD_at64 {xs : List UInt64} {i : Nat} (h : i < xs.length) : xs[i]? = some (xs.getD i 0) := by
  rw [List.getD_eq_getElem?_getD, List.getElem?_eq_getElem h]
  rfl
/-! two rows that grow by turns -/
section
variable {w w' : World} {T : TypeId} {n0 ca cb : Nat} {a b a2 : Option Addr} {xs ys : List UInt64}
theorem two_grow (hb : Row (fun x => n0 ≤ x ∧ ¬ Eqb a x) w T e64 b cb ys) (g : Grow (fun x => n0 ≤ x ∧ ¬ Eqb b x) w a w' a2) : Row (fun x => n0 ≤ x ∧ ¬ Eqb a2 x) w' T e64 b cb ys := by
  refine (hb.lt.chg g.chg (fun x _ h1 h2 => h1.1.2 h2.1)).mono (fun x h => ⟨h.1.1, fun e => ?_⟩)
  rcases g.fr with e1 | e1
  · subst e1
    exact h.1.2 e
  · have := e1.eqb e
    omega
theorem fresh_of (hb : Row (fun x => n0 ≤ x ∧ ¬ Eqb a x) w T e64 b cb ys) (hn : n0 ≤ w.heap.size) : ∀ x, w.heap.size ≤ x → n0 ≤ x ∧ ¬ Eqb b x := fun x hx => ⟨by omega, fun e => by
  have := hb.lt.at_.eqb e
  omega⟩
end
end Go.Proofs.YtcdbkfaebgficaaDoor
