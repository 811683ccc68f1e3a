import Derived.Test.YtfkaioldfmapjaaSj
namespace Go.Proofs.Ytfkaioldfmapjaa
open Go.RowKit Go.HL

/-! products of 128 bits -/
def mulT (x y : UInt64) : UInt64 := (x >>> UInt64.ofNat 32) * (y &&& 4294967295) + ((x &&& 4294967295) * (y &&& 4294967295)) >>> UInt64.ofNat 32
def mulHi (x y : UInt64) : UInt64 := ((x >>> UInt64.ofNat 32) * (y >>> UInt64.ofNat 32) + (mulT x y) >>> UInt64.ofNat 32) + (((mulT x y) &&& 4294967295) + (x &&& 4294967295) * (y >>> UInt64.ofNat 32)) >>> UInt64.ofNat 32
theorem mul64_calls (x y : UInt64) (w : World) : Calls Try.prog 58 [v64 x, v64 y].toArray w (Ret fun v w' => v = .tuple #[v64 (mulHi x y), v64 (x * y)] ∧ Chg Nob w w') := by
  have hw := Chg.refl Nob w
  refine Calls.of_WC Try.func58 rfl Try.ntmps58 (by simp) ?_
  refine WC.seq (WC.region (WL.assign rfl rfl (WL.assign rfl rfl (WL.nil (WX.then_normal (WC.seq (WC.region (?_))))))))
  refine WL.move rfl rfl (WL.num rfl rfl (n_and64 _ _ _ 4294967295) rfl (WL.assign rfl rfl (WL.nil (WX.then_normal (WC.seq (WC.region (WL.move rfl rfl (?_))))))))
  refine WL.num rfl rfl (n_shr64 _ _ _ _ 32 (by decide)) rfl (WL.assign rfl rfl (WL.nil (WX.then_normal (WC.seq (WC.region (WL.move rfl rfl (WL.num rfl rfl (n_and64 _ _ _ 4294967295) rfl (?_))))))))
  refine WL.assign rfl rfl (WL.nil (WX.then_normal (WC.seq (WC.region (WL.move rfl rfl (WL.num rfl rfl (n_shr64 _ _ _ _ 32 (by decide)) rfl (WL.assign rfl rfl (?_))))))))
  refine WL.nil (WX.then_normal (WC.seq (WC.region (WL.move rfl rfl (WL.move rfl rfl (WL.num rfl rfl (n_mul64 _ _ _ _) rfl (WL.assign rfl rfl (?_))))))))
  refine WL.nil (WX.then_normal (WC.seq (WC.region (WL.move rfl rfl (WL.move rfl rfl (WL.num rfl rfl (n_mul64 _ _ _ _) rfl (WL.move rfl rfl (?_))))))))
  refine WL.num rfl rfl (n_shr64 _ _ _ _ 32 (by decide)) rfl (WL.num rfl rfl (n_add64 _ _ _ _) rfl (WL.assign rfl rfl (WL.nil (WX.then_normal (WC.seq (WC.region (WL.move rfl rfl (?_))))))))
  refine WL.num rfl rfl (n_and64 _ _ _ 4294967295) rfl (WL.assign rfl rfl (WL.nil (WX.then_normal (WC.seq (WC.region (WL.move rfl rfl (WL.num rfl rfl (n_shr64 _ _ _ _ 32 (by decide)) rfl (?_))))))))
  refine WL.assign rfl rfl (WL.nil (WX.then_normal (WC.seq (WC.region (WL.move rfl rfl (WL.move rfl rfl (WL.move rfl rfl (?_))))))))
  refine WL.num rfl rfl (n_mul64 _ _ _ _) rfl (WL.num rfl rfl (n_add64 _ _ _ _) rfl (WL.assign rfl rfl (WL.nil (WX.then_normal (WC.seq (WC.region (WL.move rfl rfl (?_))))))))
  refine WL.move rfl rfl (WL.num rfl rfl (n_mul64 _ _ _ _) rfl (WL.move rfl rfl (WL.num rfl rfl (n_add64 _ _ _ _) rfl (WL.move rfl rfl (WL.num rfl rfl (n_shr64 _ _ _ _ 32 (by decide)) rfl (WL.num rfl rfl (n_add64 _ _ _ _) rfl (WL.assign rfl rfl (?_))))))))
  refine WL.nil (WX.then_normal (WC.seq (WC.region (WL.move rfl rfl (WL.move rfl rfl (WL.num rfl rfl (n_mul64 _ _ _ _) rfl (WL.assign rfl rfl (?_))))))))
  refine WL.nil (WX.then_normal (WC.ret (?_)))
  refine WX.ret2 (.inl rfl) Try.results58 rfl rfl ?_
  exact ⟨_, rfl, rfl, hw⟩
def squareF (x p : UInt64) : Bool := decide ((mulHi x x).toNat < p.toNat) || (decide ((mulHi x x).toNat = p.toNat) && decide ((x * x).toNat = 0))
theorem square_calls (x p : UInt64) (w : World) : Calls Try.prog 55 [v64 x, v64 p].toArray w (Ret fun v w' => v = .bool (squareF x p) ∧ Chg Nob w w') := by
  have hw := Chg.refl Nob w
  refine Calls.of_WC Try.func55 rfl Try.ntmps55 (by simp) ?_
  refine WC.seq (WC.region (WL.assign rfl rfl (WL.nil (WX.then_normal (WC.seq (WC.region (WL.move rfl rfl (?_))))))))
  refine WL.move rfl rfl (?_)
  refine WL.call eg_58 rfl rfl (mul64_calls x x _) ?_
  rintro v w1 ⟨rfl, k⟩
  have zs_k := k.size
  replace hw := hw.pure k
  refine WL.move rfl rfl (WL.extract rfl rfl rfl (WL.extract rfl rfl rfl (WL.assign rfl rfl (WL.assign rfl rfl (WL.nil (WX.then_normal (WC.seq (?_))))))))
  refine WC.region (WL.move rfl rfl (WL.move rfl rfl (?_)))
  refine WL.lss? rfl rfl rfl (fun h15 => ?_) (fun h15 => ?_)
  ·
    refine WL.move rfl rfl (WL.pass rfl rfl rfl rfl (WL.pass rfl rfl rfl rfl (WL.pass rfl rfl rfl rfl (WL.pass rfl rfl rfl rfl (WL.passU rfl rfl rfl (WL.passU rfl rfl rfl (WL.pass rfl rfl rfl rfl (?_))))))))
    refine WL.pickT rfl rfl rfl (WL.assign rfl rfl (WL.nil (WX.then_normal (WC.ret (?_)))))
    refine WX.ret1 (.inl rfl) Try.results55 rfl ?_
    refine ⟨_, rfl, congrArg Value.bool ?_, hw⟩
    rw [squareF]
    first
      | (rw [show decide ((mulHi x x).toNat < p.toNat) = true from decide_eq_true (by omega)]; rfl)
      | (rw [show decide ((mulHi x x).toNat < p.toNat) = false from decide_eq_false (by omega), show decide ((mulHi x x).toNat = p.toNat) = true from decide_eq_true (by omega), Bool.false_or, Bool.true_and]; exact decide_eq_decide.2 (by omega))
      | (rw [show decide ((mulHi x x).toNat < p.toNat) = false from decide_eq_false (by omega), show decide ((mulHi x x).toNat = p.toNat) = false from decide_eq_false (by omega)]; rfl)
  ·
    refine WL.move rfl rfl (WL.want rfl rfl rfl (WL.move rfl rfl (WL.want rfl rfl rfl (WL.move rfl rfl (WL.want rfl rfl rfl (?_))))))
    refine WL.eql? rfl rfl rfl (fun h19 => ?_) (fun h19 => ?_)
    ·
      refine WL.want rfl rfl rfl (WL.move rfl rfl (WL.want rfl rfl rfl (WL.move rfl rfl (WL.want rfl rfl rfl (WL.eql rfl rfl rfl (WL.want rfl rfl rfl (WL.pickT rfl rfl rfl (?_))))))))
      refine WL.pickF rfl rfl rfl (WL.assign rfl rfl (WL.nil (WX.then_normal (WC.ret (?_)))))
      refine WX.ret1 (.inl rfl) Try.results55 rfl ?_
      refine ⟨_, rfl, congrArg Value.bool ?_, hw⟩
      rw [squareF]
      first
        | (rw [show decide ((mulHi x x).toNat < p.toNat) = true from decide_eq_true (by omega)]; rfl)
        | (rw [show decide ((mulHi x x).toNat < p.toNat) = false from decide_eq_false (by omega), show decide ((mulHi x x).toNat = p.toNat) = true from decide_eq_true (by omega), Bool.false_or, Bool.true_and]; exact decide_eq_decide.2 (by omega))
        | (rw [show decide ((mulHi x x).toNat < p.toNat) = false from decide_eq_false (by omega), show decide ((mulHi x x).toNat = p.toNat) = false from decide_eq_false (by omega)]; rfl)
    ·
      refine WL.want rfl rfl rfl (WL.move rfl rfl (WL.pass rfl rfl rfl rfl (WL.pass rfl rfl rfl rfl (WL.want rfl rfl rfl (WL.pickF rfl rfl rfl (WL.pickF rfl rfl rfl (WL.assign rfl rfl (?_))))))))
      refine WL.nil (WX.then_normal (WC.ret (?_)))
      refine WX.ret1 (.inl rfl) Try.results55 rfl ?_
      refine ⟨_, rfl, congrArg Value.bool ?_, hw⟩
      rw [squareF]
      first
        | (rw [show decide ((mulHi x x).toNat < p.toNat) = true from decide_eq_true (by omega)]; rfl)
        | (rw [show decide ((mulHi x x).toNat < p.toNat) = false from decide_eq_false (by omega), show decide ((mulHi x x).toNat = p.toNat) = true from decide_eq_true (by omega), Bool.false_or, Bool.true_and]; exact decide_eq_decide.2 (by omega))
        | (rw [show decide ((mulHi x x).toNat < p.toNat) = false from decide_eq_false (by omega), show decide ((mulHi x x).toNat = p.toNat) = false from decide_eq_false (by omega)]; rfl)
def cubeTop (x : UInt64) : UInt64 := mulHi x x * x + mulHi (x * x) x
def cubeF (x p : UInt64) : Bool := decide ((cubeTop x).toNat < (p <<< UInt64.ofNat 32).toNat) || (decide ((cubeTop x).toNat = (p <<< UInt64.ofNat 32).toNat) && decide ((x * x * x).toNat = 0))
theorem cube_calls (x p : UInt64) (w : World) : Calls Try.prog 54 [v64 x, v64 p].toArray w (Ret fun v w' => v = .bool (cubeF x p) ∧ Chg Nob w w') := by
  have hw := Chg.refl Nob w
  refine Calls.of_WC Try.func54 rfl Try.ntmps54 (by simp) ?_
  refine WC.seq (WC.region (WL.assign rfl rfl (WL.nil (WX.then_normal (WC.seq (WC.region (WL.move rfl rfl (?_))))))))
  refine WL.move rfl rfl (?_)
  refine WL.call eg_58 rfl rfl (mul64_calls x x _) ?_
  rintro v w1 ⟨rfl, k⟩
  have zs_k := k.size
  replace hw := hw.pure k
  refine WL.move rfl rfl (WL.extract rfl rfl rfl (WL.extract rfl rfl rfl (WL.assign rfl rfl (WL.assign rfl rfl (WL.nil (WX.then_normal (WC.seq (?_))))))))
  refine WC.region (WL.move rfl rfl (WL.move rfl rfl (?_)))
  refine WL.call eg_58 rfl rfl (mul64_calls (x * x) x _) ?_
  rintro v w1 ⟨rfl, k⟩
  have zs_k := k.size
  replace hw := hw.pure k
  refine WL.move rfl rfl (WL.extract rfl rfl rfl (WL.extract rfl rfl rfl (WL.assign rfl rfl (WL.assign rfl rfl (WL.nil (WX.then_normal (WC.seq (?_))))))))
  refine WC.region (WL.move rfl rfl (WL.move rfl rfl (WL.num rfl rfl (n_mul64 _ _ _ _) rfl (WL.move rfl rfl (?_)))))
  refine WL.num rfl rfl (n_add64 _ _ _ _) rfl ?_
  rw [show mulHi x x * x + mulHi (x * x) x = cubeTop x from rfl]
  refine WL.assign rfl rfl (WL.nil (WX.then_normal (WC.seq (WC.region (WL.move rfl rfl (WL.move rfl rfl (WL.num rfl rfl (n_shl64 _ _ _ _ 32 (by decide)) rfl (?_))))))))
  refine WL.lss? rfl rfl rfl (fun h30 => ?_) (fun h30 => ?_)
  ·
    refine WL.move rfl rfl (WL.pass rfl rfl rfl rfl (WL.pass rfl rfl rfl rfl (WL.pass rfl rfl rfl rfl (WL.pass rfl rfl rfl rfl (WL.pass rfl rfl rfl rfl (WL.passU rfl rfl rfl (WL.passU rfl rfl rfl (?_))))))))
    refine WL.pass rfl rfl rfl rfl (WL.pickT rfl rfl rfl (WL.assign rfl rfl (WL.nil (WX.then_normal (WC.ret (?_))))))
    refine WX.ret1 (.inl rfl) Try.results54 rfl ?_
    refine ⟨_, rfl, congrArg Value.bool ?_, hw⟩
    rw [cubeF]
    first
      | (rw [show decide ((cubeTop x).toNat < (p <<< UInt64.ofNat 32).toNat) = true from decide_eq_true (by omega)]; rfl)
      | (rw [show decide ((cubeTop x).toNat < (p <<< UInt64.ofNat 32).toNat) = false from decide_eq_false (by omega), show decide ((cubeTop x).toNat = (p <<< UInt64.ofNat 32).toNat) = true from decide_eq_true (by omega), Bool.false_or, Bool.true_and]; exact decide_eq_decide.2 (by omega))
      | (rw [show decide ((cubeTop x).toNat < (p <<< UInt64.ofNat 32).toNat) = false from decide_eq_false (by omega), show decide ((cubeTop x).toNat = (p <<< UInt64.ofNat 32).toNat) = false from decide_eq_false (by omega)]; rfl)
  ·
    refine WL.move rfl rfl (WL.want rfl rfl rfl (WL.move rfl rfl (WL.want rfl rfl rfl (WL.move rfl rfl (WL.want rfl rfl rfl (WL.num rfl rfl (n_shl64 _ _ _ _ 32 (by decide)) rfl (WL.want rfl rfl rfl (?_))))))))
    refine WL.eql? rfl rfl rfl (fun h35 => ?_) (fun h35 => ?_)
    ·
      refine WL.want rfl rfl rfl (WL.move rfl rfl (WL.want rfl rfl rfl (WL.move rfl rfl (WL.want rfl rfl rfl (WL.eql rfl rfl rfl (WL.want rfl rfl rfl (WL.pickT rfl rfl rfl (?_))))))))
      refine WL.pickF rfl rfl rfl (WL.assign rfl rfl (WL.nil (WX.then_normal (WC.ret (?_)))))
      refine WX.ret1 (.inl rfl) Try.results54 rfl ?_
      refine ⟨_, rfl, congrArg Value.bool ?_, hw⟩
      rw [cubeF]
      first
        | (rw [show decide ((cubeTop x).toNat < (p <<< UInt64.ofNat 32).toNat) = true from decide_eq_true (by omega)]; rfl)
        | (rw [show decide ((cubeTop x).toNat < (p <<< UInt64.ofNat 32).toNat) = false from decide_eq_false (by omega), show decide ((cubeTop x).toNat = (p <<< UInt64.ofNat 32).toNat) = true from decide_eq_true (by omega), Bool.false_or, Bool.true_and]; exact decide_eq_decide.2 (by omega))
        | (rw [show decide ((cubeTop x).toNat < (p <<< UInt64.ofNat 32).toNat) = false from decide_eq_false (by omega), show decide ((cubeTop x).toNat = (p <<< UInt64.ofNat 32).toNat) = false from decide_eq_false (by omega)]; rfl)
    ·
      refine WL.want rfl rfl rfl (WL.move rfl rfl (WL.pass rfl rfl rfl rfl (WL.pass rfl rfl rfl rfl (WL.want rfl rfl rfl (WL.pickF rfl rfl rfl (WL.pickF rfl rfl rfl (WL.assign rfl rfl (?_))))))))
      refine WL.nil (WX.then_normal (WC.ret (?_)))
      refine WX.ret1 (.inl rfl) Try.results54 rfl ?_
      refine ⟨_, rfl, congrArg Value.bool ?_, hw⟩
      rw [cubeF]
      first
        | (rw [show decide ((cubeTop x).toNat < (p <<< UInt64.ofNat 32).toNat) = true from decide_eq_true (by omega)]; rfl)
        | (rw [show decide ((cubeTop x).toNat < (p <<< UInt64.ofNat 32).toNat) = false from decide_eq_false (by omega), show decide ((cubeTop x).toNat = (p <<< UInt64.ofNat 32).toNat) = true from decide_eq_true (by omega), Bool.false_or, Bool.true_and]; exact decide_eq_decide.2 (by omega))
        | (rw [show decide ((cubeTop x).toNat < (p <<< UInt64.ofNat 32).toNat) = false from decide_eq_false (by omega), show decide ((cubeTop x).toNat = (p <<< UInt64.ofNat 32).toNat) = false from decide_eq_false (by omega)]; rfl)
/-! roots -/
def tryF (p y : UInt64) (third : Bool) (k : Nat) : Bool := if third then decide (k < 36) && cubeF y p else squareF y p
def rootStep (p : UInt64) (third : Bool) (x : UInt64) (k : Nat) : UInt64 := if tryF p (x + 1 <<< UInt64.ofNat k) third k then x + 1 <<< UInt64.ofNat k else x
def rootAt (p : UInt64) (third : Bool) : Nat → UInt64
  | 0 => 0
  | i + 1 => rootStep p third (rootAt p third i) (37 - i)
def rootF (p : UInt64) (third : Bool) : UInt64 := rootAt p third 38 &&& 4294967295
set_option maxHeartbeats 1000000 in
theorem root_calls (p : UInt64) (third : Bool) (w : World) : Calls Try.prog 45 [v64 p, .bool third].toArray w (Ret fun v w' => v = v64 (rootF p third) ∧ Chg Nob w w') := by
  have hw := Chg.refl Nob w
  refine Calls.of_WC Try.func45 rfl Try.ntmps45 (by simp) ?_
  refine WC.seq (WC.region (WL.assign rfl rfl (WL.nil (WX.then_normal (WC.seq (WC.region (WL.assign rfl rfl (?_))))))))
  refine WL.nil (WX.then_normal (WC.seq (WC.seq (WC.region (WL.assign rfl rfl (WL.nil (WX.then_normal (?_))))))))
  refine WC.block (?_)
  refine WC.loop (σ := Nat) (fun i => [(0, v64 p), (1, .bool third), (5, v64 (rootAt p third i)), (6, vi (37 - (i : Int)))])
    (fun i w' => i ≤ 38 ∧ Chg Nob w w') (fun i => 38 - i) 0 ⟨rfl, rfl, rfl, rfl, trivial⟩ ⟨Nat.zero_le _, hw⟩ ?_
  clear hw
  rintro i w9 ⟨hi, hw⟩
  rcases third with _ | _
  ·
    refine WC.seq (WC.seq (WC.region (WL.move rfl rfl (?_))))
    refine WL.geq? rfl rfl rfl (fun h9 => ?_) (fun h9 => ?_)
    ·
      refine WL.nil (WX.then_normal (WC.cond_true rfl (WC.skip (WX.then_normal (WC.seq (WC.block (WC.seq (?_))))))))
      refine WC.region (WL.move rfl rfl (WL.move rfl rfl (?_)))
      refine WL.shlv (a := 1) (37 - i) rfl rfl ⟨by omega, by omega⟩ rfl ?_
      refine WL.num rfl rfl (n_add64 _ _ _ _) rfl ?_
      refine WL.assign rfl rfl (WL.nil (WX.then_normal (WC.seq (WC.region (WL.move rfl rfl (WL.move rfl rfl (WL.pass rfl rfl rfl rfl (?_))))))))
      refine WL.pass rfl rfl rfl rfl (WL.pickF rfl rfl rfl (WL.move rfl rfl (WL.pass rfl rfl rfl rfl (WL.pass rfl rfl rfl rfl (WL.pass rfl rfl rfl rfl (WL.pickF rfl rfl rfl (WL.move rfl rfl (?_))))))))
      refine WL.want rfl rfl rfl (WL.move rfl rfl (WL.want rfl rfl rfl (WL.not rfl rfl (WL.want rfl rfl rfl (WL.move rfl rfl (WL.want rfl rfl rfl (WL.move rfl rfl (?_))))))))
      refine WL.want rfl rfl rfl (WL.move rfl rfl (WL.want rfl rfl rfl (?_)))
      refine WL.call eg_55 rfl rfl (square_calls _ _ _) ?_
      rintro v w1 ⟨rfl, k⟩
      have zs_k := k.size
      replace hw := hw.pure k
      obtain ⟨cb, hcb⟩ : ∃ cb, cb = squareF (rootAt p false i + 1 <<< UInt64.ofNat (37 - i)) p := ⟨_, rfl⟩
      rw [← hcb]
      rcases cb with _ | _
      ·
        refine WL.want rfl rfl rfl (WL.pickT rfl rfl rfl (WL.pickF rfl rfl rfl (WL.nil (WX.then_normal (WC.cond_false rfl (WC.skip (WX.block_normal (?_))))))))
        refine WX.then_normal (WC.region (WL.move rfl rfl (WL.sub64 rfl rfl (by first | omega | (constructor <;> omega)) rfl (WL.assign rfl rfl (WL.nil (?_))))))
        have e37 : 37 - ((i + 1 : Nat) : Int) = 37 - (i : Int) - 1 := by omega
        refine WX.loop_next (i + 1) ⟨rfl, rfl, ?_, by rw [e37]; rfl, trivial⟩ ⟨by omega, hw⟩ (by show _ - _ < _ - _; omega)
        rw [rootAt, rootStep]
        first
          | (rw [if_pos (by rw [tryF, if_neg (by decide), ← hcb])]; rfl)
          | (rw [if_neg (by rw [tryF, if_neg (by decide), ← hcb]; decide)]; rfl)
          | (rw [if_pos (by rw [tryF, if_pos rfl, ← hcb, show decide (37 - i < 36) = true from decide_eq_true (by omega)]; rfl)]; rfl)
          | (rw [if_neg (by rw [tryF, if_pos rfl, ← hcb, Bool.and_false]; decide)]; rfl)
          | (rw [if_neg (by rw [tryF, if_pos rfl, show decide (37 - i < 36) = false from decide_eq_false (by omega), Bool.false_and]; decide)]; rfl)
      ·
        refine WL.want rfl rfl rfl (WL.pickT rfl rfl rfl (WL.pickF rfl rfl rfl (WL.nil (WX.then_normal (WC.cond_true rfl (WC.region (WL.move rfl rfl (?_))))))))
        refine WL.assign rfl rfl (WL.nil (WX.block_normal (WX.then_normal (WC.region (WL.move rfl rfl (WL.sub64 rfl rfl (by first | omega | (constructor <;> omega)) rfl (WL.assign rfl rfl (?_))))))))
        refine WL.nil (?_)
        have e37 : 37 - ((i + 1 : Nat) : Int) = 37 - (i : Int) - 1 := by omega
        refine WX.loop_next (i + 1) ⟨rfl, rfl, ?_, by rw [e37]; rfl, trivial⟩ ⟨by omega, hw⟩ (by show _ - _ < _ - _; omega)
        rw [rootAt, rootStep]
        first
          | (rw [if_pos (by rw [tryF, if_neg (by decide), ← hcb])]; rfl)
          | (rw [if_neg (by rw [tryF, if_neg (by decide), ← hcb]; decide)]; rfl)
          | (rw [if_pos (by rw [tryF, if_pos rfl, ← hcb, show decide (37 - i < 36) = true from decide_eq_true (by omega)]; rfl)]; rfl)
          | (rw [if_neg (by rw [tryF, if_pos rfl, ← hcb, Bool.and_false]; decide)]; rfl)
          | (rw [if_neg (by rw [tryF, if_pos rfl, show decide (37 - i < 36) = false from decide_eq_false (by omega), Bool.false_and]; decide)]; rfl)
    ·
      refine WL.nil (WX.then_normal (WC.cond_false rfl (WC.exit (WX.then_exit (WX.then_exit (WX.block_here (WX.then_normal (?_))))))))
      refine WC.seq (WC.region (WL.move rfl rfl (WL.num rfl rfl (n_and64 _ _ _ 4294967295) rfl (WL.assign rfl rfl (WL.nil (WX.then_normal (WC.ret (?_))))))))
      refine WX.ret1 (.inl rfl) Try.results45 rfl ?_
      have h38 : i = 38 := by omega
      rw [h38]
      exact ⟨_, rfl, rfl, hw⟩
  ·
    refine WC.seq (WC.seq (WC.region (WL.move rfl rfl (?_))))
    refine WL.geq? rfl rfl rfl (fun h9 => ?_) (fun h9 => ?_)
    ·
      refine WL.nil (WX.then_normal (WC.cond_true rfl (WC.skip (WX.then_normal (WC.seq (WC.block (WC.seq (?_))))))))
      refine WC.region (WL.move rfl rfl (WL.move rfl rfl (?_)))
      refine WL.shlv (a := 1) (37 - i) rfl rfl ⟨by omega, by omega⟩ rfl ?_
      refine WL.num rfl rfl (n_add64 _ _ _ _) rfl ?_
      refine WL.assign rfl rfl (WL.nil (WX.then_normal (WC.seq (WC.region (WL.move rfl rfl (WL.move rfl rfl (WL.want rfl rfl rfl (?_))))))))
      refine WL.move rfl rfl (WL.want rfl rfl rfl (?_))
      refine WL.lss? rfl rfl rfl (fun h19 => ?_) (fun h19 => ?_)
      ·
        refine WL.pickT rfl rfl rfl (WL.move rfl rfl (WL.want rfl rfl rfl (WL.move rfl rfl (WL.want rfl rfl rfl (WL.move rfl rfl (WL.want rfl rfl rfl (?_)))))))
        refine WL.call eg_54 rfl rfl (cube_calls _ _ _) ?_
        rintro v w1 ⟨rfl, k⟩
        have zs_k := k.size
        replace hw := hw.pure k
        obtain ⟨cb, hcb⟩ : ∃ cb, cb = cubeF (rootAt p true i + 1 <<< UInt64.ofNat (37 - i)) p := ⟨_, rfl⟩
        rw [← hcb]
        rcases cb with _ | _
        ·
          refine WL.pickT rfl rfl rfl (WL.move rfl rfl (WL.want rfl rfl rfl (WL.move rfl rfl (WL.want rfl rfl rfl (WL.not rfl rfl (WL.want rfl rfl rfl (WL.move rfl rfl (?_))))))))
          refine WL.pass rfl rfl rfl rfl (WL.pass rfl rfl rfl rfl (WL.pass rfl rfl rfl rfl (WL.want rfl rfl rfl (WL.pickF rfl rfl rfl (WL.pickF rfl rfl rfl (WL.nil (WX.then_normal (?_))))))))
          refine WC.cond_false rfl (WC.skip (WX.block_normal (WX.then_normal (WC.region (WL.move rfl rfl (WL.sub64 rfl rfl (by first | omega | (constructor <;> omega)) rfl (WL.assign rfl rfl (?_))))))))
          refine WL.nil (?_)
          have e37 : 37 - ((i + 1 : Nat) : Int) = 37 - (i : Int) - 1 := by omega
          refine WX.loop_next (i + 1) ⟨rfl, rfl, ?_, by rw [e37]; rfl, trivial⟩ ⟨by omega, hw⟩ (by show _ - _ < _ - _; omega)
          rw [rootAt, rootStep]
          first
            | (rw [if_pos (by rw [tryF, if_neg (by decide), ← hcb])]; rfl)
            | (rw [if_neg (by rw [tryF, if_neg (by decide), ← hcb]; decide)]; rfl)
            | (rw [if_pos (by rw [tryF, if_pos rfl, ← hcb, show decide (37 - i < 36) = true from decide_eq_true (by omega)]; rfl)]; rfl)
            | (rw [if_neg (by rw [tryF, if_pos rfl, ← hcb, Bool.and_false]; decide)]; rfl)
            | (rw [if_neg (by rw [tryF, if_pos rfl, show decide (37 - i < 36) = false from decide_eq_false (by omega), Bool.false_and]; decide)]; rfl)
        ·
          refine WL.pickT rfl rfl rfl (WL.move rfl rfl (WL.pass rfl rfl rfl rfl (WL.pass rfl rfl rfl rfl (WL.pass rfl rfl rfl rfl (WL.passU rfl rfl rfl (WL.passU rfl rfl rfl (WL.passU rfl rfl rfl (?_))))))))
          refine WL.pass rfl rfl rfl rfl (WL.pickT rfl rfl rfl (WL.nil (WX.then_normal (WC.cond_true rfl (WC.region (WL.move rfl rfl (WL.assign rfl rfl (?_))))))))
          refine WL.nil (WX.block_normal (WX.then_normal (WC.region (WL.move rfl rfl (WL.sub64 rfl rfl (by first | omega | (constructor <;> omega)) rfl (WL.assign rfl rfl (WL.nil (?_))))))))
          have e37 : 37 - ((i + 1 : Nat) : Int) = 37 - (i : Int) - 1 := by omega
          refine WX.loop_next (i + 1) ⟨rfl, rfl, ?_, by rw [e37]; rfl, trivial⟩ ⟨by omega, hw⟩ (by show _ - _ < _ - _; omega)
          rw [rootAt, rootStep]
          first
            | (rw [if_pos (by rw [tryF, if_neg (by decide), ← hcb])]; rfl)
            | (rw [if_neg (by rw [tryF, if_neg (by decide), ← hcb]; decide)]; rfl)
            | (rw [if_pos (by rw [tryF, if_pos rfl, ← hcb, show decide (37 - i < 36) = true from decide_eq_true (by omega)]; rfl)]; rfl)
            | (rw [if_neg (by rw [tryF, if_pos rfl, ← hcb, Bool.and_false]; decide)]; rfl)
            | (rw [if_neg (by rw [tryF, if_pos rfl, show decide (37 - i < 36) = false from decide_eq_false (by omega), Bool.false_and]; decide)]; rfl)
      ·
        refine WL.pickT rfl rfl rfl (WL.move rfl rfl (WL.pass rfl rfl rfl rfl (WL.pass rfl rfl rfl rfl (WL.pass rfl rfl rfl rfl (WL.pickF rfl rfl rfl (WL.move rfl rfl (WL.want rfl rfl rfl (?_))))))))
        refine WL.move rfl rfl (WL.want rfl rfl rfl (WL.not rfl rfl (WL.want rfl rfl rfl (WL.move rfl rfl (WL.pass rfl rfl rfl rfl (WL.pass rfl rfl rfl rfl (WL.pass rfl rfl rfl rfl (?_))))))))
        refine WL.want rfl rfl rfl (WL.pickF rfl rfl rfl (WL.pickF rfl rfl rfl (WL.nil (WX.then_normal (WC.cond_false rfl (WC.skip (WX.block_normal (?_))))))))
        refine WX.then_normal (WC.region (WL.move rfl rfl (WL.sub64 rfl rfl (by first | omega | (constructor <;> omega)) rfl (WL.assign rfl rfl (WL.nil (?_))))))
        have e37 : 37 - ((i + 1 : Nat) : Int) = 37 - (i : Int) - 1 := by omega
        refine WX.loop_next (i + 1) ⟨rfl, rfl, ?_, by rw [e37]; rfl, trivial⟩ ⟨by omega, hw⟩ (by show _ - _ < _ - _; omega)
        rw [rootAt, rootStep]
        first
          | (rw [if_pos (by rw [tryF, if_neg (by decide), ← hcb])]; rfl)
          | (rw [if_neg (by rw [tryF, if_neg (by decide), ← hcb]; decide)]; rfl)
          | (rw [if_pos (by rw [tryF, if_pos rfl, ← hcb, show decide (37 - i < 36) = true from decide_eq_true (by omega)]; rfl)]; rfl)
          | (rw [if_neg (by rw [tryF, if_pos rfl, ← hcb, Bool.and_false]; decide)]; rfl)
          | (rw [if_neg (by rw [tryF, if_pos rfl, show decide (37 - i < 36) = false from decide_eq_false (by omega), Bool.false_and]; decide)]; rfl)
    ·
      refine WL.nil (WX.then_normal (WC.cond_false rfl (WC.exit (WX.then_exit (WX.then_exit (WX.block_here (WX.then_normal (?_))))))))
      refine WC.seq (WC.region (WL.move rfl rfl (WL.num rfl rfl (n_and64 _ _ _ 4294967295) rfl (WL.assign rfl rfl (WL.nil (WX.then_normal (WC.ret (?_))))))))
      refine WX.ret1 (.inl rfl) Try.results45 rfl ?_
      have h38 : i = 38 := by omega
      rw [h38]
      exact ⟨_, rfl, rfl, hw⟩
end Go.Proofs.Ytfkaioldfmapjaa
