import Derived.Test.YtjeldcjchipdgaaGreatDoorQIntentPlays4
namespace Go.Proofs.YtjeldcjchipdgaaGreatDoor
open Go.RowKit Go.HL
set_option maxRecDepth 100000
def mulT (x y : UInt64) : UInt64 := (x >>> UInt64.ofNat 32) * (y &&& 4294967295) + ((x &&& 4294967295) * (y &&& 4294967295)) >>> UInt64.ofNat 32
def mulHi (x y : UInt64) : UInt64 := ((x >>> UInt64.ofNat 32) * (y >>> UInt64.ofNat 32) + (mulT x y) >>> UInt64.ofNat 32) + (((mulT x y) &&& 4294967295) + (x &&& 4294967295) * (y >>> UInt64.ofNat 32)) >>> UInt64.ofNat 32
theorem mul64_calls (x y : UInt64) (w : World) : Calls Tryz.prog 127 [v64 x, v64 y].toArray w (Ret fun v w' => v = .tuple #[v64 (mulHi x y), v64 (x * y)] ∧ Chg Nob w w') := by
 have hw := Chg.refl Nob w
 refine Calls.of_WC Tryz.func127 rfl Tryz.ntmps127 (by simp) ?_
 refine WC.sr (WL.assign rfl rfl (WL.assign rfl rfl (WL.t (WC.sr (WL.move rfl rfl (WL.num rfl rfl (n_and64 _ _ _ 4294967295) rfl (WL.assign rfl rfl (WL.t (WC.sr (WL.move rfl rfl (WL.num rfl rfl (n_shr64 _ _ _ _ 32 (by decide)) rfl (WL.assign rfl rfl (WL.t (WC.sr (WL.move rfl rfl (WL.num rfl rfl (n_and64 _ _ _ 4294967295) rfl (?_)))))))))))))))))
 refine WL.assign rfl rfl (WL.t (WC.sr (WL.move rfl rfl (WL.num rfl rfl (n_shr64 _ _ _ _ 32 (by decide)) rfl (WL.assign rfl rfl (?_))))))
 refine WL.t (WC.sr (WL.move rfl rfl (WL.move rfl rfl (WL.num rfl rfl (n_mul64 _ _ _ _) rfl (WL.assign rfl rfl (WL.t (WC.sr (WL.move rfl rfl (WL.move rfl rfl (WL.num rfl rfl (n_mul64 _ _ _ _) rfl (WL.move rfl rfl (WL.num rfl rfl (n_shr64 _ _ _ _ 32 (by decide)) rfl (WL.num rfl rfl (n_add64 _ _ _ _) rfl (WL.assign rfl rfl (WL.t (WC.sr (WL.move rfl rfl (?_))))))))))))))))))
 refine WL.num rfl rfl (n_and64 _ _ _ 4294967295) rfl (WL.assign rfl rfl (WL.t (WC.sr (WL.move rfl rfl (WL.num rfl rfl (n_shr64 _ _ _ _ 32 (by decide)) rfl (?_))))))
 refine WL.assign rfl rfl (WL.t (WC.sr (WL.move rfl rfl (WL.move rfl rfl (WL.move rfl rfl (WL.num rfl rfl (n_mul64 _ _ _ _) rfl (WL.num rfl rfl (n_add64 _ _ _ _) rfl (WL.assign rfl rfl (WL.t (WC.sr (WL.move rfl rfl (WL.move rfl rfl (WL.num rfl rfl (n_mul64 _ _ _ _) rfl (WL.move rfl rfl (WL.num rfl rfl (n_add64 _ _ _ _) rfl (WL.move rfl rfl (WL.num rfl rfl (n_shr64 _ _ _ _ 32 (by decide)) rfl (WL.num rfl rfl (n_add64 _ _ _ _) rfl (WL.assign rfl rfl (?_))))))))))))))))))))
 refine WL.t (WC.sr (WL.move rfl rfl (WL.move rfl rfl (WL.num rfl rfl (n_mul64 _ _ _ _) rfl (WL.assign rfl rfl (WL.t (WC.ret (WX.qi (.inl rfl) Tryz.results127 rfl rfl ?_))))))))
 exact ⟨_, rfl, rfl, hw⟩
def squareF (x p : UInt64) : Bool := decide ((mulHi x x).toNat < p.toNat) || (decide ((mulHi x x).toNat = p.toNat) && decide ((x * x).toNat = 0))
theorem square_calls (x p : UInt64) (w : World) : Calls Tryz.prog 115 [v64 x, v64 p].toArray w (Ret fun v w' => v = .bool (squareF x p) ∧ Chg Nob w w') := by
 have hw := Chg.refl Nob w
 refine Calls.of_WC Tryz.func115 rfl Tryz.ntmps115 (by simp) ?_
 refine WC.sr (WL.assign rfl rfl (WL.t (WC.sr (WL.move rfl rfl (WL.move rfl rfl (WL.call eg_127 rfl rfl (mul64_calls x x _) ?_))))))
 rintro v w1 ⟨rfl, k⟩
 replace hw := hw.pure k
 refine WL.move rfl rfl (WL.extract rfl rfl rfl (WL.extract rfl rfl rfl (WL.assign rfl rfl (WL.assign rfl rfl (WL.t (WC.seq (WC.region (WL.move rfl rfl (WL.move rfl rfl (WL.qh rfl rfl rfl (fun h15 => ?_) (fun h15 => ?_)))))))))))
 ·refine WL.move rfl rfl (WL.pass rfl rfl rfl rfl (WL.pass rfl rfl rfl rfl (WL.pass rfl rfl rfl rfl (WL.pass rfl rfl rfl rfl (WL.qk rfl rfl rfl (WL.qk rfl rfl rfl (WL.pass rfl rfl rfl rfl (WL.qd rfl rfl rfl (WL.assign rfl rfl (WL.t (WC.ret (WX.qg (.inl rfl) Tryz.results115 rfl ?_))))))))))))
  refine ⟨_, rfl, congrArg Value.bool ?_, hw⟩
  rw [squareF]
  rw [show decide ((mulHi x x).toNat < p.toNat) = true from decide_eq_true (by omega)]; rfl
 ·refine WL.move rfl rfl (WL.qa rfl rfl rfl (WL.move rfl rfl (WL.qa rfl rfl rfl (WL.move rfl rfl (WL.qa rfl rfl rfl (WL.qi rfl rfl rfl (fun h19 => ?_) (fun h19 => ?_)))))))
  ·refine WL.qa rfl rfl rfl (WL.move rfl rfl (WL.qa rfl rfl rfl (WL.move rfl rfl (WL.qa rfl rfl rfl (WL.eql rfl rfl rfl (WL.qa rfl rfl rfl (WL.qd rfl rfl rfl (WL.qc rfl rfl rfl (WL.assign rfl rfl (WL.t (WC.ret (WX.qg (.inl rfl) Tryz.results115 rfl ?_))))))))))))
   refine ⟨_, rfl, congrArg Value.bool ?_, hw⟩
   rw [squareF]
   rw [show decide ((mulHi x x).toNat < p.toNat) = false from decide_eq_false (by omega), show decide ((mulHi x x).toNat = p.toNat) = true from decide_eq_true (by omega), Bool.false_or, Bool.true_and]; exact decide_eq_decide.2 (by omega)
  ·refine WL.qa rfl rfl rfl (WL.move rfl rfl (WL.pass rfl rfl rfl rfl (WL.pass rfl rfl rfl rfl (WL.qa rfl rfl rfl (WL.qc rfl rfl rfl (WL.qc rfl rfl rfl (WL.assign rfl rfl (WL.t (WC.ret (WX.qg (.inl rfl) Tryz.results115 rfl ?_))))))))))
   refine ⟨_, rfl, congrArg Value.bool ?_, hw⟩
   rw [squareF]
   rw [show decide ((mulHi x x).toNat < p.toNat) = false from decide_eq_false (by omega), show decide ((mulHi x x).toNat = p.toNat) = false from decide_eq_false (by omega)]; rfl
def cubeTop (x : UInt64) : UInt64 := mulHi x x * x + mulHi (x * x) x
def cubeF (x p : UInt64) : Bool := decide ((cubeTop x).toNat < (p <<< UInt64.ofNat 32).toNat) || (decide ((cubeTop x).toNat = (p <<< UInt64.ofNat 32).toNat) && decide ((x * x * x).toNat = 0))
theorem cube_calls (x p : UInt64) (w : World) : Calls Tryz.prog 114 [v64 x, v64 p].toArray w (Ret fun v w' => v = .bool (cubeF x p) ∧ Chg Nob w w') := by
 have hw := Chg.refl Nob w
 refine Calls.of_WC Tryz.func114 rfl Tryz.ntmps114 (by simp) ?_
 refine WC.sr (WL.assign rfl rfl (WL.t (WC.sr (WL.move rfl rfl (WL.move rfl rfl (WL.call eg_127 rfl rfl (mul64_calls x x _) ?_))))))
 rintro v w1 ⟨rfl, k⟩
 replace hw := hw.pure k
 refine WL.move rfl rfl (WL.extract rfl rfl rfl (WL.extract rfl rfl rfl (WL.assign rfl rfl (WL.assign rfl rfl (WL.t (WC.seq (WC.region (WL.move rfl rfl (WL.move rfl rfl (WL.call eg_127 rfl rfl (mul64_calls (x * x) x _) ?_))))))))))
 rintro v w1 ⟨rfl, k⟩
 replace hw := hw.pure k
 refine WL.move rfl rfl (WL.extract rfl rfl rfl (WL.extract rfl rfl rfl (WL.assign rfl rfl (WL.assign rfl rfl (WL.t (WC.seq (WC.region (WL.move rfl rfl (WL.move rfl rfl (WL.num rfl rfl (n_mul64 _ _ _ _) rfl (WL.move rfl rfl (WL.num rfl rfl (n_add64 _ _ _ _) rfl ?_))))))))))))
 rw [show mulHi x x * x + mulHi (x * x) x = cubeTop x from rfl]
 refine WL.assign rfl rfl (WL.t (WC.sr (WL.move rfl rfl (WL.move rfl rfl (WL.num rfl rfl (n_shl64 _ _ _ _ 32 (by decide)) rfl (?_))))))
 refine WL.qh rfl rfl rfl (fun h30 => ?_) (fun h30 => ?_)
 ·refine WL.move rfl rfl (WL.pass rfl rfl rfl rfl (WL.pass rfl rfl rfl rfl (WL.pass rfl rfl rfl rfl (WL.pass rfl rfl rfl rfl (WL.pass rfl rfl rfl rfl (WL.qk rfl rfl rfl (WL.qk rfl rfl rfl (WL.pass rfl rfl rfl rfl (WL.qd rfl rfl rfl (WL.assign rfl rfl (WL.t (WC.ret (WX.qg (.inl rfl) Tryz.results114 rfl ?_)))))))))))))
  refine ⟨_, rfl, congrArg Value.bool ?_, hw⟩
  rw [cubeF]
  rw [show decide ((cubeTop x).toNat < (p <<< UInt64.ofNat 32).toNat) = true from decide_eq_true (by omega)]; rfl
 ·refine WL.move rfl rfl (WL.qa rfl rfl rfl (WL.move rfl rfl (WL.qa rfl rfl rfl (WL.move rfl rfl (WL.qa rfl rfl rfl (WL.num rfl rfl (n_shl64 _ _ _ _ 32 (by decide)) rfl (WL.qa rfl rfl rfl (?_))))))))
  refine WL.qi rfl rfl rfl (fun h35 => ?_) (fun h35 => ?_)
  ·refine WL.qa rfl rfl rfl (WL.move rfl rfl (WL.qa rfl rfl rfl (WL.move rfl rfl (WL.qa rfl rfl rfl (WL.eql rfl rfl rfl (WL.qa rfl rfl rfl (WL.qd rfl rfl rfl (WL.qc rfl rfl rfl (WL.assign rfl rfl (WL.t (WC.ret (WX.qg (.inl rfl) Tryz.results114 rfl ?_))))))))))))
   refine ⟨_, rfl, congrArg Value.bool ?_, hw⟩
   rw [cubeF]
   rw [show decide ((cubeTop x).toNat < (p <<< UInt64.ofNat 32).toNat) = false from decide_eq_false (by omega), show decide ((cubeTop x).toNat = (p <<< UInt64.ofNat 32).toNat) = true from decide_eq_true (by omega), Bool.false_or, Bool.true_and]; exact decide_eq_decide.2 (by omega)
  ·refine WL.qa rfl rfl rfl (WL.move rfl rfl (WL.pass rfl rfl rfl rfl (WL.pass rfl rfl rfl rfl (WL.qa rfl rfl rfl (WL.qc rfl rfl rfl (WL.qc rfl rfl rfl (WL.assign rfl rfl (WL.t (WC.ret (WX.qg (.inl rfl) Tryz.results114 rfl ?_))))))))))
   refine ⟨_, rfl, congrArg Value.bool ?_, hw⟩
   rw [cubeF]
   rw [show decide ((cubeTop x).toNat < (p <<< UInt64.ofNat 32).toNat) = false from decide_eq_false (by omega), show decide ((cubeTop x).toNat = (p <<< UInt64.ofNat 32).toNat) = false from decide_eq_false (by omega)]; rfl
def tryF (p y : UInt64) (third : Bool) (k : Nat) : Bool := if third then decide (k < 36) && cubeF y p else squareF y p
def rootStep (p : UInt64) (third : Bool) (x : UInt64) (k : Nat) : UInt64 := if tryF p (x + 1 <<< UInt64.ofNat k) third k then x + 1 <<< UInt64.ofNat k else x
def rootAt (p : UInt64) (third : Bool) : Nat → UInt64
 |0 => 0
 |i + 1 => rootStep p third (rootAt p third i) (37 - i)
def rootF (p : UInt64) (third : Bool) : UInt64 := rootAt p third 38 &&& 4294967295
set_option maxHeartbeats 1000000 in
theorem root_calls (p : UInt64) (third : Bool) (w : World) : Calls Tryz.prog 101 [v64 p, .bool third].toArray w (Ret fun v w' => v = v64 (rootF p third) ∧ Chg Nob w w') := by
 have hw := Chg.refl Nob w
 refine Calls.of_WC Tryz.func101 rfl Tryz.ntmps101 (by simp) ?_
 refine WC.sr (WL.assign rfl rfl (WL.t (WC.sr (WL.assign rfl rfl (WL.t (WC.seq (WC.sr (WL.assign rfl rfl (WL.t (WC.block (?_)))))))))))
 refine WC.loop (σ := Nat) (fun i => [(0, v64 p), (1, .bool third), (5, v64 (rootAt p third i)), (6, vi (37 - (i : Int)))])
  (fun i w' => i ≤ 38 ∧ Chg Nob w w') (fun i => 38 - i) 0 ⟨rfl, rfl, rfl, rfl, trivial⟩ ⟨Nat.zero_le _, hw⟩ ?_
 clear hw
 rintro i w9 ⟨hi, hw⟩
 rcases third with _ | _
 ·refine WC.seq (WC.sr (WL.move rfl rfl (WL.za rfl rfl rfl (fun h9 => ?_) (fun h9 => ?_))))
  ·refine WL.t (WC.qb rfl (WC.skip (WX.qa (WC.seq (WC.block (WC.seq (WC.region (WL.move rfl rfl (WL.move rfl rfl (WL.shlv (a := 1) (37 - i) rfl rfl ⟨by omega, by omega⟩ rfl ?_))))))))))
   refine WL.num rfl rfl (n_add64 _ _ _ _) rfl (WL.assign rfl rfl (WL.t (WC.sr (WL.move rfl rfl (WL.move rfl rfl (WL.pass rfl rfl rfl rfl (WL.pass rfl rfl rfl rfl (WL.qc rfl rfl rfl (WL.move rfl rfl (WL.pass rfl rfl rfl rfl (WL.pass rfl rfl rfl rfl (WL.pass rfl rfl rfl rfl (WL.qc rfl rfl rfl (WL.move rfl rfl (WL.qa rfl rfl rfl (WL.move rfl rfl (WL.qa rfl rfl rfl (WL.not rfl rfl (WL.qa rfl rfl rfl (WL.move rfl rfl (WL.qa rfl rfl rfl (WL.move rfl rfl (WL.qa rfl rfl rfl (WL.move rfl rfl (WL.qa rfl rfl rfl (WL.call eg_115 rfl rfl (square_calls _ _ _) ?_))))))))))))))))))))))))))
   rintro v w1 ⟨rfl, k⟩
   replace hw := hw.pure k
   obtain ⟨cb, hcb⟩ : ∃ cb, cb = squareF (rootAt p false i + 1 <<< UInt64.ofNat (37 - i)) p := ⟨_, rfl⟩
   rw [← hcb]
   rcases cb with _ | _
   ·refine WL.qa rfl rfl rfl (WL.qd rfl rfl rfl (WL.qc rfl rfl rfl (WL.t (WC.qa rfl (WC.skip (WX.qc (WX.qa (WC.region (WL.move rfl rfl (WL.qj rfl rfl (by omega) rfl (WL.assign rfl rfl (WL.nil (?_)))))))))))))
    have e37 : 37 - ((i + 1 : Nat) : Int) = 37 - (i : Int) - 1 := by omega
    refine WX.qf (i + 1) ⟨rfl, rfl, ?_, by rw [e37]; rfl, trivial⟩ ⟨by omega, hw⟩ (by show _ - _ < _ - _; omega)
    rw [rootAt, rootStep]
    rw [if_neg (by rw [tryF, if_neg (by decide), ← hcb]; decide)]; rfl
   ·refine WL.qa rfl rfl rfl (WL.qd rfl rfl rfl (WL.qc rfl rfl rfl (WL.t (WC.qb rfl (WC.region (WL.move rfl rfl (WL.assign rfl rfl (WL.nil (WX.qc (WX.qa (WC.region (WL.move rfl rfl (WL.qj rfl rfl (by omega) rfl (WL.assign rfl rfl (?_)))))))))))))))
    refine WL.nil (?_)
    have e37 : 37 - ((i + 1 : Nat) : Int) = 37 - (i : Int) - 1 := by omega
    refine WX.qf (i + 1) ⟨rfl, rfl, ?_, by rw [e37]; rfl, trivial⟩ ⟨by omega, hw⟩ (by show _ - _ < _ - _; omega)
    rw [rootAt, rootStep]
    rw [if_pos (by rw [tryF, if_neg (by decide), ← hcb])]; rfl
  ·refine WL.t (WC.qa rfl (WC.exit (WX.qd (WX.qd (WX.qh (WX.qa (WC.sr (WL.move rfl rfl (WL.num rfl rfl (n_and64 _ _ _ 4294967295) rfl (WL.assign rfl rfl (WL.t (WC.ret (WX.qg (.inl rfl) Tryz.results101 rfl ?_)))))))))))))
   have h38 : i = 38 := by omega
   rw [h38]
   exact ⟨_, rfl, rfl, hw⟩
 ·refine WC.seq (WC.sr (WL.move rfl rfl (WL.za rfl rfl rfl (fun h9 => ?_) (fun h9 => ?_))))
  ·refine WL.t (WC.qb rfl (WC.skip (WX.qa (WC.seq (WC.block (WC.seq (WC.region (WL.move rfl rfl (WL.move rfl rfl (WL.shlv (a := 1) (37 - i) rfl rfl ⟨by omega, by omega⟩ rfl ?_))))))))))
   refine WL.num rfl rfl (n_add64 _ _ _ _) rfl (WL.assign rfl rfl (WL.t (WC.sr (WL.move rfl rfl (WL.move rfl rfl (WL.qa rfl rfl rfl (WL.move rfl rfl (WL.qa rfl rfl rfl (WL.qh rfl rfl rfl (fun h19 => ?_) (fun h19 => ?_))))))))))
   ·refine WL.qd rfl rfl rfl (WL.move rfl rfl (WL.qa rfl rfl rfl (WL.move rfl rfl (WL.qa rfl rfl rfl (WL.move rfl rfl (WL.qa rfl rfl rfl (WL.call eg_114 rfl rfl (cube_calls _ _ _) ?_)))))))
    rintro v w1 ⟨rfl, k⟩
    replace hw := hw.pure k
    obtain ⟨cb, hcb⟩ : ∃ cb, cb = cubeF (rootAt p true i + 1 <<< UInt64.ofNat (37 - i)) p := ⟨_, rfl⟩
    rw [← hcb]
    rcases cb with _ | _
    ·refine WL.qd rfl rfl rfl (WL.move rfl rfl (WL.qa rfl rfl rfl (WL.move rfl rfl (WL.qa rfl rfl rfl (WL.not rfl rfl (WL.qa rfl rfl rfl (WL.move rfl rfl (WL.pass rfl rfl rfl rfl (WL.pass rfl rfl rfl rfl (WL.pass rfl rfl rfl rfl (WL.qa rfl rfl rfl (WL.qc rfl rfl rfl (WL.qc rfl rfl rfl (WL.t (WC.qa rfl (WC.skip (WX.qc (WX.qa (WC.region (WL.move rfl rfl (WL.qj rfl rfl (by omega) rfl (WL.assign rfl rfl (?_)))))))))))))))))))))))
     refine WL.nil (?_)
     have e37 : 37 - ((i + 1 : Nat) : Int) = 37 - (i : Int) - 1 := by omega
     refine WX.qf (i + 1) ⟨rfl, rfl, ?_, by rw [e37]; rfl, trivial⟩ ⟨by omega, hw⟩ (by show _ - _ < _ - _; omega)
     rw [rootAt, rootStep]
     rw [if_neg (by rw [tryF, if_pos rfl, ← hcb, Bool.and_false]; decide)]; rfl
    ·refine WL.qd rfl rfl rfl (WL.move rfl rfl (WL.pass rfl rfl rfl rfl (WL.pass rfl rfl rfl rfl (WL.pass rfl rfl rfl rfl (WL.qk rfl rfl rfl (WL.qk rfl rfl rfl (WL.qk rfl rfl rfl (WL.pass rfl rfl rfl rfl (WL.qd rfl rfl rfl (WL.t (WC.qb rfl (WC.region (WL.move rfl rfl (WL.assign rfl rfl (WL.nil (WX.qc (WX.qa (WC.region (WL.move rfl rfl (WL.qj rfl rfl (by omega) rfl (WL.assign rfl rfl (WL.nil (?_)))))))))))))))))))))))
     have e37 : 37 - ((i + 1 : Nat) : Int) = 37 - (i : Int) - 1 := by omega
     refine WX.qf (i + 1) ⟨rfl, rfl, ?_, by rw [e37]; rfl, trivial⟩ ⟨by omega, hw⟩ (by show _ - _ < _ - _; omega)
     rw [rootAt, rootStep]
     rw [if_pos (by rw [tryF, if_pos rfl, ← hcb, show decide (37 - i < 36) = true from decide_eq_true (by omega)]; rfl)]; rfl
   ·refine WL.qd rfl rfl rfl (WL.move rfl rfl (WL.pass rfl rfl rfl rfl (WL.pass rfl rfl rfl rfl (WL.pass rfl rfl rfl rfl (WL.qc rfl rfl rfl (WL.move rfl rfl (WL.qa rfl rfl rfl (WL.move rfl rfl (WL.qa rfl rfl rfl (WL.not rfl rfl (WL.qa rfl rfl rfl (WL.move rfl rfl (WL.pass rfl rfl rfl rfl (WL.pass rfl rfl rfl rfl (WL.pass rfl rfl rfl rfl (WL.qa rfl rfl rfl (WL.qc rfl rfl rfl (WL.qc rfl rfl rfl (WL.t (WC.qa rfl (WC.skip (WX.qc (WX.qa (WC.region (WL.move rfl rfl (WL.qj rfl rfl (by omega) rfl (WL.assign rfl rfl (WL.nil (?_)))))))))))))))))))))))))))))
    have e37 : 37 - ((i + 1 : Nat) : Int) = 37 - (i : Int) - 1 := by omega
    refine WX.qf (i + 1) ⟨rfl, rfl, ?_, by rw [e37]; rfl, trivial⟩ ⟨by omega, hw⟩ (by show _ - _ < _ - _; omega)
    rw [rootAt, rootStep]
    rw [if_neg (by rw [tryF, if_pos rfl, show decide (37 - i < 36) = false from decide_eq_false (by omega), Bool.false_and]; decide)]; rfl
  ·refine WL.t (WC.qa rfl (WC.exit (WX.qd (WX.qd (WX.qh (WX.qa (WC.sr (WL.move rfl rfl (WL.num rfl rfl (n_and64 _ _ _ 4294967295) rfl (WL.assign rfl rfl (WL.t (WC.ret (WX.qg (.inl rfl) Tryz.results101 rfl ?_)))))))))))))
   have h38 : i = 38 := by omega
   rw [h38]
   exact ⟨_, rfl, rfl, hw⟩
end Go.Proofs.YtjeldcjchipdgaaGreatDoor
namespace Go.Proofs.YtjeldcjchipdgaaGreatDoor
open Go.RowKit Go.HL
set_option maxRecDepth 100000
theorem roots_k : ∀ i : Fin 64, rootF (P64.getD i.1 0) true = (K256.getD i.1 0).toUInt64 := by decide +kernel
theorem roots_h : ∀ i : Fin 8, rootF (P64.getD i.1 0) false = (st0.list.getD i.1 0).toUInt64 := by decide +kernel
end Go.Proofs.YtjeldcjchipdgaaGreatDoor
namespace Go.Proofs.YtjeldcjchipdgaaGreatDoor
open Go.RowKit Go.HL
set_option maxRecDepth 100000
def UL (V : V8) : List UInt64 := V.list.map UInt32.toUInt64
def K64 : List UInt64 := K256.map UInt32.toUInt64
theorem down32 (a : UInt64) (x : UInt32) (h : a.toUInt32 = x) : a &&& 4294967295 = x.toUInt64 := by rw [m32, h]
theorem not_up (x : UInt32) : (x.toUInt64 ^^^ 4294967295).toUInt32 = ~~~x := by
 rw [UInt64.toUInt32_xor, up_down]
 apply UInt32.toBitVec_inj.1
 show x.toBitVec ^^^ BitVec.allOnes 32 = ~~~x.toBitVec
 rw [BitVec.xor_allOnes]
def S0r (x : UInt32) : UInt64 := ((rotr x 7).toUInt64 ^^^ (rotr x 18).toUInt64) ^^^ (x.toUInt64 >>> UInt64.ofNat 3)
def S1r (x : UInt32) : UInt64 := ((rotr x 17).toUInt64 ^^^ (rotr x 19).toUInt64) ^^^ (x.toUInt64 >>> UInt64.ofNat 10)
def nextW32 (ws : List UInt32) (t : Nat) : UInt32 := ws.getD (t - 16) 0 + ((rotr (ws.getD (t - 15) 0) 7 ^^^ rotr (ws.getD (t - 15) 0) 18) ^^^ (ws.getD (t - 15) 0) >>> UInt32.ofNat 3) + ws.getD (t - 7) 0 + ((rotr (ws.getD (t - 2) 0) 17 ^^^ rotr (ws.getD (t - 2) 0) 19) ^^^ (ws.getD (t - 2) 0) >>> UInt32.ofNat 10)
theorem nextW_big {b : List UInt8} {ws : List UInt32} {t : Nat} (h : 16 ≤ t) : nextW b ws t = nextW32 ws t := by
 rw [nextW, if_neg (by omega)]
 rfl
theorem nextW_up (ws : List UInt32) (t : Nat) : (((ws.getD (t - 16) 0).toUInt64 + S0r (ws.getD (t - 15) 0)) + (ws.getD (t - 7) 0).toUInt64 + S1r (ws.getD (t - 2) 0)) &&& 4294967295 = (nextW32 ws t).toUInt64 := by
 apply down32
 simp only [S0r, S1r, nextW32, UInt64.toUInt32_add, UInt64.toUInt32_xor, up_down, up_shr _ (show 3 < 32 by decide), up_shr _ (show 10 < 32 by decide)]
def T1r (V : V8) (k w : UInt32) : UInt64 := V.h.toUInt64 + (((rotr V.e 6).toUInt64 ^^^ (rotr V.e 11).toUInt64) ^^^ (rotr V.e 25).toUInt64) + ((V.e.toUInt64 &&& V.f.toUInt64) ^^^ ((V.e.toUInt64 ^^^ 4294967295) &&& V.g.toUInt64)) + k.toUInt64 + w.toUInt64
def T2r (V : V8) : UInt64 := (((rotr V.a 2).toUInt64 ^^^ (rotr V.a 13).toUInt64) ^^^ (rotr V.a 22).toUInt64) + (((V.a.toUInt64 &&& V.b.toUInt64) ^^^ (V.a.toUInt64 &&& V.c.toUInt64)) ^^^ (V.b.toUInt64 &&& V.c.toUInt64))
theorem round_up (V : V8) (k w : UInt32) : UL (round1 V k w) = [(T1r V k w + T2r V) &&& 4294967295, V.a.toUInt64, V.b.toUInt64, V.c.toUInt64, (V.d.toUInt64 + T1r V k w) &&& 4294967295, V.e.toUInt64, V.f.toUInt64, V.g.toUInt64] := by
 have h1 : (T1r V k w).toUInt32 = V.h + ((rotr V.e 6 ^^^ rotr V.e 11) ^^^ rotr V.e 25) + ((V.e &&& V.f) ^^^ (~~~V.e &&& V.g)) + k + w := by
  simp only [T1r, UInt64.toUInt32_add, UInt64.toUInt32_xor, UInt64.toUInt32_and, up_down]
  rw [← not_up V.e]
  simp only [UInt64.toUInt32_xor, up_down]
 have h2 : (T2r V).toUInt32 = ((rotr V.a 2 ^^^ rotr V.a 13) ^^^ rotr V.a 22) + (((V.a &&& V.b) ^^^ (V.a &&& V.c)) ^^^ (V.b &&& V.c)) := by
  simp only [T2r, UInt64.toUInt32_add, UInt64.toUInt32_xor, UInt64.toUInt32_and, up_down]
 rw [m32, m32, UInt64.toUInt32_add, UInt64.toUInt32_add, h1, h2, up_down]
 rfl
theorem add_up (a b : UInt32) : (a.toUInt64 + b.toUInt64) &&& 4294967295 = (a + b).toUInt64 := by
 rw [m32, UInt64.toUInt32_add, up_down, up_down]
theorem byte_up (x : UInt32) {k : Nat} (h : k < 32) : (x.toUInt64 >>> UInt64.ofNat k).toUInt8 = (x >>> UInt32.ofNat k).toUInt8 := by
 rw [← up_shr x h]
 apply UInt8.toNat_inj.1
 simp
theorem byte_up0 (x : UInt32) : x.toUInt64.toUInt8 = x.toUInt8 := by
 apply UInt8.toNat_inj.1
 simp
def accB (b : List UInt8) (t : Nat) : Nat → UInt64
 |0 => 0
 |i + 1 => accB b t i * 256 + (b.getD (4 * t + i) 0).toUInt64
theorem word_up (a b c d : UInt8) : ((((0 * 256 + a.toUInt64) * 256 + b.toUInt64) * 256 + c.toUInt64) * 256 + d.toUInt64 : UInt64) = (((a.toUInt32 <<< UInt32.ofNat 24 ||| b.toUInt32 <<< UInt32.ofNat 16) ||| c.toUInt32 <<< UInt32.ofNat 8) ||| d.toUInt32).toUInt64 := by
 have ha := a.toNat_lt
 have hb := b.toNat_lt
 have hc := c.toNat_lt
 have hd := d.toNat_lt
 apply UInt64.toNat_inj.1
 have e24 : (a.toUInt32 <<< UInt32.ofNat 24).toNat = a.toNat <<< 24 := by
  simp [UInt32.toNat_shiftLeft, Nat.shiftLeft_eq]
  omega
 have e16 : (b.toUInt32 <<< UInt32.ofNat 16).toNat = b.toNat <<< 16 := by
  simp [UInt32.toNat_shiftLeft, Nat.shiftLeft_eq]
  omega
 have e8 : (c.toUInt32 <<< UInt32.ofNat 8).toNat = c.toNat <<< 8 := by
  simp [UInt32.toNat_shiftLeft, Nat.shiftLeft_eq]
  omega
 rw [UInt32.toNat_toUInt64, UInt32.toNat_or, UInt32.toNat_or, UInt32.toNat_or, e24, e16, e8, UInt8.toNat_toUInt32]
 have h1 : c.toNat <<< 8 ||| d.toNat = c.toNat <<< 8 + d.toNat := (Nat.shiftLeft_add_eq_or_of_lt (by simpa using hd) _).symm
 have h2 : b.toNat <<< 16 ||| (c.toNat <<< 8 + d.toNat) = b.toNat <<< 16 + (c.toNat <<< 8 + d.toNat) := (Nat.shiftLeft_add_eq_or_of_lt (by rw [Nat.shiftLeft_eq]; omega) _).symm
 have h3 : a.toNat <<< 24 ||| (b.toNat <<< 16 + (c.toNat <<< 8 + d.toNat)) = a.toNat <<< 24 + (b.toNat <<< 16 + (c.toNat <<< 8 + d.toNat)) := (Nat.shiftLeft_add_eq_or_of_lt (by rw [Nat.shiftLeft_eq, Nat.shiftLeft_eq]; omega) _).symm
 rw [Nat.or_assoc, Nat.or_assoc, h1, h2, h3]
 simp only [UInt64.toNat_add, UInt64.toNat_mul, UInt8.toNat_toUInt64, Nat.shiftLeft_eq]
 simp
 omega
theorem accB_word (b : List UInt8) (t : Nat) : accB b t 4 = (wordAt b t).toUInt64 := word_up _ _ _ _
theorem nextW_small {b : List UInt8} {ws : List UInt32} {t : Nat} (h : t < 16) : nextW b ws t = wordAt b t := by rw [nextW, if_pos h]
def WU (b : List UInt8) (t : Nat) : List UInt64 := (sch b t).map UInt32.toUInt64
theorem WU_len (b : List UInt8) (t : Nat) : (WU b t).length = t := by rw [WU, List.length_map, sch_len]
theorem WU_next (b : List UInt8) (t : Nat) : WU b (t + 1) = WU b t ++ [(nextW b (sch b t) t).toUInt64] := by rw [WU, sch, List.map_append]; rfl
theorem WU_at {b : List UInt8} {t i : Nat} (h : i < t) : (WU b t)[i]? = some ((sch b t).getD i 0).toUInt64 := map_at _ (getD_at (by rw [sch_len]; exact h))
theorem getD_at64 {xs : List UInt64} {i : Nat} (h : i < xs.length) : xs[i]? = some (xs.getD i 0) := by
 rw [List.getD_eq_getElem?_getD, List.getElem?_eq_getElem h]
 rfl
section
variable {w w' : World} {T : TypeId} {n0 ca cb : Nat} {a b a2 : Option Addr} {xs ys : List UInt64}
theorem two_grow (hb : Row (fun x => n0 ≤ x ∧ ¬ Eqb a x) w T e64 b cb ys) (g : Grow (fun x => n0 ≤ x ∧ ¬ Eqb b x) w a w' a2) : Row (fun x => n0 ≤ x ∧ ¬ Eqb a2 x) w' T e64 b cb ys := by
 refine (hb.lt.chg g.chg (fun x _ h1 h2 => h1.1.2 h2.1)).mono (fun x h => ⟨h.1.1, fun e => ?_⟩)
 rcases g.fr with e1 | e1
 ·subst e1
  exact h.1.2 e
 ·have := e1.eqb e
  omega
theorem fresh_of (hb : Row (fun x => n0 ≤ x ∧ ¬ Eqb a x) w T e64 b cb ys) (hn : n0 ≤ w.heap.size) : ∀ x, w.heap.size ≤ x → n0 ≤ x ∧ ¬ Eqb b x := fun x hx => ⟨by omega, fun e => by
 have := hb.lt.at_.eqb e
 omega⟩
end
end Go.Proofs.YtjeldcjchipdgaaGreatDoor
namespace Go.Proofs.YtjeldcjchipdgaaGreatDoor
open Go.RowKit Go.HL
set_option maxRecDepth 100000
theorem comp_nil (s : V8) : comp s [] = s := comp_end (by decide)
theorem blk_at {m : List UInt8} {j q : Nat} (h : 64 * j + 64 ≤ m.length) (hq : q < 64) : m[64 * j + q]? = some (((m.drop (64 * j)).take 64).getD q 0) := by
 rw [List.getD_eq_getElem?_getD, List.getElem?_take_of_lt hq, List.getElem?_drop, List.getElem?_eq_getElem (by omega)]
 rfl
def JW (n2 bw cw : Nat) (B : List UInt8) (t : Nat) (w' : World) : Prop := RSl (fun x => n2 ≤ x) w' e64 (some ⟨bw, 0, none⟩) cw (WU B t)
theorem JW.pure {n2 bw cw : Nat} {B : List UInt8} {t : Nat} (a b : World) (h : JW n2 bw cw B t a) (k : Chg Nob a b) : JW n2 bw cw B t b := RSl.pure h k
theorem JW.rsl {n2 bw cw : Nat} {B : List UInt8} {t : Nat} {a : World} (h : JW n2 bw cw B t a) : RSl (fun x => n2 ≤ x) a e64 (some ⟨bw, 0, none⟩) cw (WU B t) := h
set_option maxHeartbeats 8000000 in
theorem sum64_calls (s : ByteArray) (w : World) (hl : s.size ≤ 4000) :
 Calls Tryz.prog 85 [.string s].toArray w (Ret fun v w' => v = .string ⟨(sumB s.data.toList).toArray⟩ ∧ Chg Nob w w') := by
 have hw := Chg.refl Nob w
 refine Calls.of_WC Tryz.func85 rfl Tryz.ntmps85 (by simp) ?_
 refine WC.sr (WL.assign rfl rfl (WL.t (WC.sr (WL.call eg_100 rfl rfl (primes_calls _) ?_))))
 rintro v w1 ⟨⟨ap, cp, rfl, hp⟩, k⟩
 have zs_k := k.size
 replace hw := hw.pure k
 obtain ⟨n0, hn0⟩ : ∃ n0, n0 = w1.heap.size := ⟨_, rfl⟩
 have hp0 : RSl (fun b => b < n0) w1 e64 ap cp P64 := hp.rsl.old.mono (fun b h => by omega)
 refine WL.assign rfl rfl (WL.t (WC.sr (WL.assign rfl rfl (WL.assign rfl rfl (WL.nil (WX.qa (WC.seq (WC.sr (WL.assign rfl rfl (WL.t (WC.block (?_))))))))))))
 refine WC.loop (σ := Nat × (Option Addr × Nat) × (Option Addr × Nat)) (fun q => [(0, .string s), (3, .slice ap P64.length cp), (4, .slice q.2.1.1 ((UL st0).take q.1).length q.2.1.2), (5, .slice q.2.2.1 (K64.take q.1).length q.2.2.2), (6, vi q.1)])
  (fun q w' => q.1 ≤ 64 ∧ n0 ≤ w'.heap.size ∧ w.heap.size ≤ n0 ∧ RSl (fun b => b < n0) w' e64 ap cp P64 ∧ Row (fun x => n0 ≤ x ∧ ¬ Eqb q.2.2.1 x) w' 24 e64 q.2.1.1 q.2.1.2 ((UL st0).take q.1) ∧ Row (fun x => n0 ≤ x ∧ ¬ Eqb q.2.1.1 x) w' 24 e64 q.2.2.1 q.2.2.2 (K64.take q.1) ∧ Chg Nob w w') (fun q => 64 - q.1)
  (0, (none, 0), (none, 0)) ⟨rfl, rfl, rfl, rfl, rfl, trivial⟩ ⟨Nat.zero_le _, Nat.le_of_eq hn0, by have := hw.size; omega, hp0, Row.nil _ _ _ _, Row.nil _ _ _ _, hw⟩ ?_
 clear hp hp0 hw
 rintro ⟨i, ⟨ah, ch⟩, ⟨ak, ck⟩⟩ w2 ⟨hi, hn2, hwn, hp, hh, hk, hw⟩
 dsimp only at hi hn2 hp hh hk hw ⊢
 refine WC.seq (WC.sr (WL.move rfl rfl (WL.qh rfl rfl rfl (fun h24 => ?_) (fun h24 => ?_))))
 ·refine WL.t (WC.qb rfl (WC.skip (WX.qa (WC.seq (WC.block (WC.seq (WC.region (WL.move rfl rfl (WL.move rfl rfl (WL.move rfl rfl (?_)))))))))))
  have hx := getD_at64 (xs := P64) (i := i) (by show i < 64; omega)
  have hrk : rootF (P64.getD i 0) true = (K256.getD i 0).toUInt64 := roots_k ⟨i, by omega⟩
  have hk1 : K64.take (i + 1) = K64.take i ++ [(K256.getD i 0).toUInt64] := by
   rw [List.take_add_one, show K64[i]? = some (K256.getD i 0).toUInt64 from map_at _ (getD_at (by show i < 64; omega))]
   rfl
  have hkl : (K64.take i).length ≤ 64 := by simp; omega
  have hhl : ((UL st0).take i).length ≤ 64 := by simp; omega
  refine WL.qg Tryz.underlying162 Tryz.sizeOf24 hp rfl rfl ⟨hx, rfl⟩ rfl ?_
  intro b_1 o_1 hc_1
  refine WL.load Tryz.isAgg24 rfl (hc_1 0 _ rfl) rfl (WL.call eg_101 rfl rfl (root_calls _ true _) ?_)
  rintro v w3 ⟨rfl, k⟩
  rw [hrk]
  have zs_k := k.size
  replace hp := hp.pure k
  replace hh := hh.pure k
  replace hk := hk.pure k
  replace hw := hw.pure k
  refine WL.build (e := e64) [(K256.getD i 0).toUInt64] Tryz.underlying162 Tryz.sizeOf24 Tryz.zeroValue24 rfl rfl rfl (by simp [Value.cells] <;> rfl) (by decide) rfl ?_
  intro a_hn w_hn hn l_hn z_hn k_hn
  replace hp := hp.pure k_hn
  replace hh := hh.pure k_hn
  replace hk := hk.pure k_hn
  replace hw := hw.pure k_hn
  refine WL.append (e := e64) info_24 rfl Tryz.underlying162 rfl rfl hk (hn.rsl.src Tryz.underlying162) (by constructor <;> (simp only [List.length_cons, List.length_nil]; omega)) (fresh_of hh (by omega)) rfl ?_
  intro ak2 ck2 wk hk2 gk nk
  have zk := gk.chg.size
  have hh2 := two_grow hh gk
  replace hp := hp.chg gk.chg (fun b h1 h2 h3 => by have h4 := h3.2.1; omega)
  replace hw := hw.chg gk.chg (fun x h1 h2 => by have h4 := h2.2.1; omega)
  rw [← hk1] at hk2 ⊢
  refine WL.assign rfl rfl (WL.t (WC.sr (WL.move rfl rfl (WL.qh rfl rfl rfl (fun h36 => ?_) (fun h36 => ?_)))))
  ·refine WL.t (WC.qb rfl (WC.region (WL.move rfl rfl (WL.move rfl rfl (WL.move rfl rfl (?_))))))
   have hx2 := getD_at64 (xs := P64) (i := i) (by show i < 64; omega)
   have hrh : rootF (P64.getD i 0) false = (st0.list.getD i 0).toUInt64 := roots_h ⟨i, by omega⟩
   have hh1 : (UL st0).take (i + 1) = (UL st0).take i ++ [(st0.list.getD i 0).toUInt64] := by
    rw [List.take_add_one, show (UL st0)[i]? = some (st0.list.getD i 0).toUInt64 from map_at _ (getD_at (by show i < 8; omega))]
    rfl
   refine WL.qg Tryz.underlying162 Tryz.sizeOf24 hp rfl rfl ⟨hx2, rfl⟩ rfl ?_
   intro b_2 o_2 hc_2
   refine WL.load Tryz.isAgg24 rfl (hc_2 0 _ rfl) rfl (WL.call eg_101 rfl rfl (root_calls _ false _) ?_)
   rintro v w3 ⟨rfl, k⟩
   rw [hrh]
   have zs_k := k.size
   replace hp := hp.pure k
   replace hw := hw.pure k
   replace hk2 := hk2.pure k
   replace hh2 := hh2.pure k
   refine WL.build (e := e64) [(st0.list.getD i 0).toUInt64] Tryz.underlying162 Tryz.sizeOf24 Tryz.zeroValue24 rfl rfl rfl (by simp [Value.cells] <;> rfl) (by decide) rfl ?_
   intro a_hm w_hm hm l_hm z_hm k_hm
   replace hp := hp.pure k_hm
   replace hw := hw.pure k_hm
   replace hk2 := hk2.pure k_hm
   replace hh2 := hh2.pure k_hm
   refine WL.append (e := e64) info_24 rfl Tryz.underlying162 rfl rfl hh2 (hm.rsl.src Tryz.underlying162) (by constructor <;> (simp only [List.length_cons, List.length_nil]; omega)) (fresh_of hk2 (by omega)) rfl ?_
   intro ah3 ch3 wh hh3 gh nh
   have zh := gh.chg.size
   have hk3 := two_grow hk2 gh
   replace hp := hp.chg gh.chg (fun b h1 h2 h3 => by have h4 := h3.2.1; omega)
   replace hw := hw.chg gh.chg (fun x h1 h2 => by have h4 := h2.2.1; omega)
   rw [← hh1] at hh3 ⊢
   refine WL.assign rfl rfl (WL.nil (WX.qc (WX.qa (WC.region (WL.move rfl rfl (WL.qe rfl rfl (by omega) rfl (WL.assign rfl rfl (?_))))))))
   refine WL.nil (?_)
   refine WX.qf (i + 1, (ah3, ch3), (ak2, ck2)) ⟨rfl, rfl, rfl, rfl, rfl, trivial⟩ ⟨by dsimp only; omega, by omega, hwn, hp, hh3, hk3, hw⟩ (by show _ - _ < _ - _; omega)
  ·refine WL.t (WC.qa rfl (WC.skip (WX.qc (WX.qa (WC.region (WL.move rfl rfl (WL.qe rfl rfl (by omega) rfl (WL.assign rfl rfl (WL.nil (?_))))))))))
   have h8 : (UL st0).take i = (UL st0).take (i + 1) := by rw [List.take_of_length_le (by show 8 ≤ i; omega), List.take_of_length_le (by show 8 ≤ i + 1; omega)]
   rw [h8] at hh2
   refine WX.qf (i + 1, (ah, ch), (ak2, ck2)) ⟨rfl, rfl, by dsimp only; rw [← h8]; rfl, rfl, rfl, trivial⟩ ⟨by dsimp only; omega, by omega, hwn, hp, hh2, hk2, hw⟩ (by show _ - _ < _ - _; omega)
 ·refine WL.t (WC.qa rfl (WC.exit (WX.qd (WX.qd (WX.qh (WX.qa (WC.sr (WL.move rfl rfl (?_)))))))))
  have h64 : i = 64 := by omega
  subst h64
  rw [show K64.take 64 = K64 from rfl] at hk ⊢
  rw [show (UL st0).take 64 = UL st0 from rfl] at hh ⊢
  obtain ⟨gh, rfl⟩ := hh.place0 (j := 0) (by show 0 < 8; decide)
  have hgh := hh.lt.at_ _ rfl
  dsimp only at hgh
  obtain ⟨n1, hn1⟩ : ∃ n1, n1 = w2.heap.size := ⟨_, rfl⟩
  have hk1 : RSl (fun b => b < n1 ∧ b ≠ gh) w2 e64 ak ck K64 := hk.lt.rsl.mono (fun b hb => ⟨by omega, fun e => hb.1.2 ⟨_, rfl, e⟩⟩)
  have hh1 : Row (fun b => b = gh) w2 24 e64 (some ⟨gh, 0, none⟩) ch (UL st0) := ⟨fun a ea => by injection ea with ea; subst ea; rfl, hh.own⟩
  have hgw : w.heap.size ≤ gh := by omega
  clear hk hh hp
  refine WL.call eg_102 rfl rfl (message_calls _ _ hl) ?_
  rintro v w4 ⟨⟨am, cm, rfl, hm⟩, k⟩
  have zs_k := k.size
  replace hw := hw.pure k
  replace hk1 := hk1.pure k
  replace hh1 := hh1.pure k
  have hml := padded_len s.data.toList
  have hml2 : (padded s.data.toList).length ≤ 4200 := by
   have : s.data.toList.length = s.size := by simp
   simp [padded, be8]
   omega
  obtain ⟨M, eM⟩ : ∃ M, M = padded s.data.toList := ⟨_, rfl⟩
  rw [← eM] at hm hml hml2 ⊢
  obtain ⟨n2, hn2'⟩ : ∃ n2, n2 = w4.heap.size := ⟨_, rfl⟩
  have hk0 : RSl (fun b => b < n2 ∧ b ≠ gh) w4 e64 ak ck K64 := hk1.mono (fun b hb => ⟨by omega, hb.2⟩)
  have hm0 : RSl (fun b => b < n2 ∧ b ≠ gh) w4 eb am cm M := hm.lt.rsl.mono (fun b hb => by constructor <;> omega)
  refine WL.assign rfl rfl (WL.t (WC.seq (WC.sr (WL.assign rfl rfl (WL.nil (WX.qa (WC.block (?_))))))))
  refine WC.loop (σ := V8 × Nat) (fun q => [(4, .slice (some ⟨gh, 0, none⟩) (UL q.1).length ch), (5, .slice ak K64.length ck), (7, .slice am M.length cm), (8, vi ((64 * q.2 : Nat) : Int))])
   (fun q w' => 64 * q.2 ≤ M.length ∧ n2 ≤ w'.heap.size ∧ comp q.1 (M.drop (64 * q.2)) = comp st0 M ∧ Row (fun b => b = gh) w' 24 e64 (some ⟨gh, 0, none⟩) ch (UL q.1) ∧ RSl (fun b => b < n2 ∧ b ≠ gh) w' e64 ak ck K64 ∧ RSl (fun b => b < n2 ∧ b ≠ gh) w' eb am cm M ∧ Chg Nob w w') (fun q => M.length - 64 * q.2)
   (st0, 0) ⟨rfl, rfl, rfl, rfl, trivial⟩ ⟨Nat.zero_le _, by omega, rfl, hh1, hk0, hm0, hw⟩ ?_
  have hgn2 : gh < n2 := by omega
  clear hh1 hk1 hk0 hm0 hm hw
  rintro ⟨V0, j⟩ w5 ⟨hj, hn5, hcomp, hh, hk, hm, hw⟩
  dsimp only at hj hcomp hh hk hm hw ⊢
  refine WC.seq (WC.sr (WL.move rfl rfl (WL.move rfl rfl (WL.len Tryz.underlying51 rfl rfl (WL.qh rfl rfl rfl (fun h50 => ?_) (fun h50 => ?_))))))
  ·refine WL.t (WC.qb rfl (WC.skip (WX.qa (WC.seq (WC.block (WC.seq (WC.region (WL.assign rfl rfl (WL.t (WC.seq (WC.sr (WL.assign rfl rfl (WL.t (WC.block (?_)))))))))))))))
   have hj64 : 64 * j + 64 ≤ M.length := by omega
   obtain ⟨B, eB⟩ : ∃ B, B = (M.drop (64 * j)).take 64 := ⟨_, rfl⟩
   refine WC.loop (σ := Nat × Option Addr × Nat) (fun q => [(4, .slice (some ⟨gh, 0, none⟩) (UL V0).length ch), (5, .slice ak K64.length ck), (7, .slice am M.length cm), (8, vi ((64 * j : Nat) : Int)), (9, .slice q.2.1 (WU B q.1).length q.2.2), (10, vi q.1)])
    (fun q w' => q.1 ≤ 64 ∧ n2 ≤ w'.heap.size ∧ Row (fun x => n2 ≤ x) w' 24 e64 q.2.1 q.2.2 (WU B q.1) ∧ Row (fun b => b = gh) w' 24 e64 (some ⟨gh, 0, none⟩) ch (UL V0) ∧ RSl (fun b => b < n2 ∧ b ≠ gh) w' e64 ak ck K64 ∧ RSl (fun b => b < n2 ∧ b ≠ gh) w' eb am cm M ∧ Chg Nob w w') (fun q => 64 - q.1)
    (0, none, 0) ⟨rfl, rfl, rfl, rfl, rfl, rfl, trivial⟩ ⟨Nat.zero_le _, hn5, Row.nil _ _ _ _, hh, hk, hm, hw⟩ ?_
   clear hh hk hm hw
   rintro ⟨t, aw, cw⟩ w6 ⟨ht, hn6, hv, hh, hk, hm, hw⟩
   dsimp only at ht hn6 hv hh hk hm hw ⊢
   have hwl := WU_len B t
   refine WC.seq (WC.sr (WL.move rfl rfl (WL.qh rfl rfl rfl (fun h54 => ?_) (fun h54 => ?_))))
   ·refine WL.t (WC.qb rfl (WC.skip (WX.qa (WC.seq (WC.block (WC.seq (WC.sr (WL.move rfl rfl (WL.qh rfl rfl rfl (fun h58 => ?_) (fun h58 => ?_))))))))))
    ·refine WL.t (WC.qb rfl (WC.sr (WL.assign rfl rfl (WL.t (WC.seq (WC.sr (WL.assign rfl rfl (WL.t (WC.block (?_))))))))))
     refine WC.loop (σ := Nat) (fun i => [(4, .slice (some ⟨gh, 0, none⟩) (UL V0).length ch), (5, .slice ak K64.length ck), (7, .slice am M.length cm), (8, vi ((64 * j : Nat) : Int)), (9, .slice aw (WU B t).length cw), (10, vi t), (11, v64 (accB B t i)), (12, vi i)])
      (fun i w' => i ≤ 4 ∧ n2 ≤ w'.heap.size ∧ Row (fun x => n2 ≤ x) w' 24 e64 aw cw (WU B t) ∧ Row (fun b => b = gh) w' 24 e64 (some ⟨gh, 0, none⟩) ch (UL V0) ∧ RSl (fun b => b < n2 ∧ b ≠ gh) w' e64 ak ck K64 ∧ RSl (fun b => b < n2 ∧ b ≠ gh) w' eb am cm M ∧ Chg Nob w w') (fun i => 4 - i)
      0 ⟨rfl, rfl, rfl, rfl, rfl, rfl, rfl, rfl, trivial⟩ ⟨Nat.zero_le _, hn6, hv, hh, hk, hm, hw⟩ ?_
     clear hv hh hk hm hw
     rintro i w7 ⟨hi, hn7, hv, hh, hk, hm, hw⟩
     refine WC.seq (WC.sr (WL.move rfl rfl (WL.qh rfl rfl rfl (fun h60 => ?_) (fun h60 => ?_))))
     ·refine WL.t (WC.qb rfl (WC.skip (WX.qa (WC.seq (WC.block (WC.region (WL.move rfl rfl (WL.num rfl rfl (n_mul64 _ _ _ 256) rfl (WL.move rfl rfl (WL.move rfl rfl (WL.move rfl rfl (WL.qy rfl rfl (by omega) rfl (WL.qe rfl rfl (by omega) rfl (WL.move rfl rfl (?_)))))))))))))))
      refine WL.qe rfl rfl (by omega) rfl (?_)
      have hby := blk_at (m := M) (j := j) (q := 4 * t + i) hj64 (by omega)
      rw [← eB] at hby
      refine WL.qg Tryz.underlying51 Tryz.sizeOf5 hm rfl rfl ⟨hby, (by omega)⟩ rfl ?_
      intro b_1 o_1 hc_1
      refine WL.load Tryz.isAgg5 rfl (hc_1 0 _ rfl) rfl (WL.c_u8_u64 Tryz.underlying5 Tryz.underlying24 rfl rfl (WL.num rfl rfl (n_add64 _ _ _ _) rfl (WL.assign rfl rfl (WL.nil (WX.qc (WX.qa (WC.region (WL.move rfl rfl (WL.qe rfl rfl (by omega) rfl (WL.assign rfl rfl (WL.nil (?_))))))))))))
      refine WX.qf (i + 1) ⟨rfl, rfl, rfl, rfl, rfl, rfl, rfl, rfl, trivial⟩ ⟨by omega, hn7, hv, hh, hk, hm, hw⟩ (by show _ - _ < _ - _; omega)
     ·refine WL.t (WC.qa rfl (WC.exit (WX.qd (WX.qd (WX.qh (WX.qa (WC.sr (WL.move rfl rfl (WL.move rfl rfl (?_))))))))))
      have hi4 : i = 4 := by omega
      rw [hi4, accB_word, ← nextW_small (b := B) (ws := sch B t) (by omega)]
      refine WL.build (e := e64) [(nextW B (sch B t) t).toUInt64] Tryz.underlying162 Tryz.sizeOf24 Tryz.zeroValue24 rfl rfl rfl (by simp [Value.cells] <;> rfl) (by decide) rfl ?_
      intro a_hn w_hn hn l_hn z_hn k_hn
      replace hv := hv.pure k_hn
      replace hh := hh.pure k_hn
      replace hk := hk.pure k_hn
      replace hm := hm.pure k_hn
      replace hw := hw.pure k_hn
      refine WL.append (e := e64) info_24 rfl Tryz.underlying162 rfl rfl hv (hn.rsl.src Tryz.underlying162) (by (try simp only [List.length_append, List.length_cons, List.length_nil] at *); omega) (by intro b hb; first | (apply hS; omega) | ((try dsimp only); omega)) rfl ?_
      intro a_hv2 c_hv2 w_hv2 hv2 g_hv2 n_hv2
      have z_hv2 := g_hv2.chg.size
      replace hh := hh.chg g_hv2.chg (by intros; exfalso; (try dsimp only at *); omega)
      replace hk := hk.chg g_hv2.chg (by intros; exfalso; (try dsimp only at *); omega)
      replace hm := hm.chg g_hv2.chg (by intros; exfalso; (try dsimp only at *); omega)
      replace hw := hw.chg g_hv2.chg (by intros; exfalso; (try dsimp only at *); omega)
      refine WL.assign rfl rfl (WL.t (WC.exit (WX.qd (WX.qh (WX.qa (WC.region (WL.move rfl rfl (WL.qe rfl rfl (by omega) rfl (WL.assign rfl rfl (WL.nil (?_)))))))))))
      have e1 := WU_next B t
      refine WX.qf (t + 1, a_hv2, c_hv2) ⟨rfl, rfl, rfl, rfl, ?_, rfl, trivial⟩ ⟨by dsimp only; omega, by omega, ?_, hh, hk, hm, hw⟩ (by show _ - _ < _ - _; omega)
      ·dsimp only; rw [e1]; rfl
      ·dsimp only; rw [e1]; exact hv2
    ·refine WL.t (WC.qa rfl (WC.skip (WX.qa (WC.seq (?_)))))
     have f15 := WU_at (b := B) (t := t) (i := t - 15) (by omega)
     have f2 := WU_at (b := B) (t := t) (i := t - 2) (by omega)
     have f16 := WU_at (b := B) (t := t) (i := t - 16) (by omega)
     have f7 := WU_at (b := B) (t := t) (i := t - 7) (by omega)
     obtain ⟨bw, rfl⟩ := hv.place0 (j := t - 15) (by omega)
     have hbw := hv.at_ _ rfl
     dsimp only at hbw
     refine WC.qc (Nob) [0, 1, 2, 3, 4, 5, 6, 7, 8, 9, 10, 11, 12, 13, 14, 15, 16, 17, 18, 19, 20] [] mixed rfl rfl (fun wd_1 kd_1 zd_1 => ?_)
     replace hv := hv.pure kd_1
     replace hh := hh.pure kd_1
     replace hk := hk.pure kd_1
     replace hm := hm.pure kd_1
     replace hw := hw.pure kd_1
     apply DQ.step [(9, _)] rfl ⟨rfl, trivial⟩ rfl (fun _ _ => WL.move rfl rfl  WL.q)
     apply DQ.step [(10, _)] rfl ⟨rfl, trivial⟩ rfl (fun _ _ => WL.move rfl rfl  WL.q)
     apply DQ.step [(81, _)] rfl ⟨rfl, trivial⟩ rfl (fun _ _ => WL.qj rfl rfl (by omega) rfl  WL.q)
     apply DQ.step [(80, _), (82, _)] rfl ⟨rfl, rfl, trivial⟩ rfl
     ·intro wq_5 kq_5
      replace hv := hv.pure kq_5
      refine WL.qf hv.rsl Tryz.underlying162 Tryz.sizeOf24 rfl rfl ⟨f15, (by omega)⟩ rfl ?_
      exact WL.q
     apply DQ.step [(83, _)] rfl ⟨rfl, trivial⟩ rfl
     ·intro wq_6 kq_6
      replace hv := hv.pure kq_6
      refine WL.load Tryz.isAgg24 rfl ((hv.rsl.cellsAt f15) 0 _ rfl) rfl (WL.q)
     apply DQ.step [(84, _)] rfl ⟨rfl, trivial⟩ rfl
     ·intro wq_7 kq_7
      refine WL.call eg_103 rfl rfl (ror64_calls _ 7 _ (by decide)) ?_
      rintro v w8 ⟨rfl, k⟩
      refine WL.nil (WX.one ⟨rfl, by assumption⟩)
     apply DQ.step [(9, _)] rfl ⟨rfl, trivial⟩ rfl (fun _ _ => WL.move rfl rfl  WL.q)
     apply DQ.step [(10, _)] rfl ⟨rfl, trivial⟩ rfl (fun _ _ => WL.move rfl rfl  WL.q)
     apply DQ.step [(87, _)] rfl ⟨rfl, trivial⟩ rfl (fun _ _ => WL.qj rfl rfl (by omega) rfl  WL.q)
     apply DQ.step [(86, _), (88, _)] rfl ⟨rfl, rfl, trivial⟩ rfl
     ·intro wq_11 kq_11
      replace hv := hv.pure kq_11
      refine WL.qf hv.rsl Tryz.underlying162 Tryz.sizeOf24 rfl rfl ⟨f15, (by omega)⟩ rfl ?_
      exact WL.q
     apply DQ.step [(89, _)] rfl ⟨rfl, trivial⟩ rfl
     ·intro wq_12 kq_12
      replace hv := hv.pure kq_12
      refine WL.load Tryz.isAgg24 rfl ((hv.rsl.cellsAt f15) 0 _ rfl) rfl (WL.q)
     apply DQ.step [(90, _)] rfl ⟨rfl, trivial⟩ rfl
     ·intro wq_13 kq_13
      refine WL.call eg_103 rfl rfl (ror64_calls _ 18 _ (by decide)) ?_
      rintro v w8 ⟨rfl, k⟩
      refine WL.nil (WX.one ⟨rfl, by assumption⟩)
     apply DQ.step [(85, _), (91, _)] rfl ⟨rfl, rfl, trivial⟩ rfl (fun _ _ => WL.num rfl rfl (n_xor64 _ _ _ _) rfl  WL.q)
     apply DQ.step [(9, _)] rfl ⟨rfl, trivial⟩ rfl (fun _ _ => WL.move rfl rfl  WL.q)
     apply DQ.step [(10, _)] rfl ⟨rfl, trivial⟩ rfl (fun _ _ => WL.move rfl rfl  WL.q)
     apply DQ.step [(94, _)] rfl ⟨rfl, trivial⟩ rfl (fun _ _ => WL.qj rfl rfl (by omega) rfl  WL.q)
     apply DQ.step [(93, _), (95, _)] rfl ⟨rfl, rfl, trivial⟩ rfl
     ·intro wq_18 kq_18
      replace hv := hv.pure kq_18
      refine WL.qf hv.rsl Tryz.underlying162 Tryz.sizeOf24 rfl rfl ⟨f15, (by omega)⟩ rfl ?_
      exact WL.q
     apply DQ.step [(96, _)] rfl ⟨rfl, trivial⟩ rfl
     ·intro wq_19 kq_19
      replace hv := hv.pure kq_19
      refine WL.load Tryz.isAgg24 rfl ((hv.rsl.cellsAt f15) 0 _ rfl) rfl (WL.q)
     apply DQ.step [(97, _)] rfl ⟨rfl, trivial⟩ rfl (fun _ _ => WL.num rfl rfl (n_shr64 _ _ _ _ 3 (by decide)) rfl  WL.q)
     apply DQ.step [(92, _), (98, _)] rfl ⟨rfl, rfl, trivial⟩ rfl
     ·intro wq_21 kq_21
      refine WL.num rfl rfl (n_xor64 _ _ _ _) rfl ?_
      rw [show ((rotr ((sch B t).getD (t - 15) 0) 7).toUInt64 ^^^ (rotr ((sch B t).getD (t - 15) 0) 18).toUInt64) ^^^ (((sch B t).getD (t - 15) 0).toUInt64 >>> UInt64.ofNat 3) = S0r ((sch B t).getD (t - 15) 0) from rfl]
      exact WL.q
     apply DQ.step [(99, _)] rfl ⟨rfl, trivial⟩ rfl (fun _ _ => WL.assign rfl rfl  WL.q)
     refine DQ.done (fun _ => ?_)
     refine DL.done (fun we_23 ke_23 => ?_)
     have zs_ke_23 := ke_23.size
     replace hv := hv.pure ke_23
     replace hh := hh.pure ke_23
     replace hk := hk.pure ke_23
     replace hm := hm.pure ke_23
     replace hw := hw.pure ke_23
     refine WX.qa (WC.seq (WC.qc (Nob) [0, 1, 2, 3, 4, 5, 6, 7, 8, 9, 10, 11, 12, 13, 14, 15, 16, 17, 18, 19, 20] [] mixed rfl rfl (fun wd_24 kd_24 zd_24 => ?_)))
     replace hv := hv.pure kd_24
     replace hh := hh.pure kd_24
     replace hk := hk.pure kd_24
     replace hm := hm.pure kd_24
     replace hw := hw.pure kd_24
     apply DQ.step [(9, _)] rfl ⟨rfl, trivial⟩ rfl (fun _ _ => WL.move rfl rfl  WL.q)
     apply DQ.step [(10, _)] rfl ⟨rfl, trivial⟩ rfl (fun _ _ => WL.move rfl rfl  WL.q)
     apply DQ.step [(101, _)] rfl ⟨rfl, trivial⟩ rfl (fun _ _ => WL.qj rfl rfl (by omega) rfl  WL.q)
     apply DQ.step [(100, _), (102, _)] rfl ⟨rfl, rfl, trivial⟩ rfl
     ·intro wq_28 kq_28
      replace hv := hv.pure kq_28
      refine WL.qf hv.rsl Tryz.underlying162 Tryz.sizeOf24 rfl rfl ⟨f2, (by omega)⟩ rfl ?_
      exact WL.q
     apply DQ.step [(103, _)] rfl ⟨rfl, trivial⟩ rfl
     ·intro wq_29 kq_29
      replace hv := hv.pure kq_29
      refine WL.load Tryz.isAgg24 rfl ((hv.rsl.cellsAt f2) 0 _ rfl) rfl (WL.q)
     apply DQ.step [(104, _)] rfl ⟨rfl, trivial⟩ rfl
     ·intro wq_30 kq_30
      refine WL.call eg_103 rfl rfl (ror64_calls _ 17 _ (by decide)) ?_
      rintro v w8 ⟨rfl, k⟩
      refine WL.nil (WX.one ⟨rfl, by assumption⟩)
     apply DQ.step [(9, _)] rfl ⟨rfl, trivial⟩ rfl (fun _ _ => WL.move rfl rfl  WL.q)
     apply DQ.step [(10, _)] rfl ⟨rfl, trivial⟩ rfl (fun _ _ => WL.move rfl rfl  WL.q)
     apply DQ.step [(107, _)] rfl ⟨rfl, trivial⟩ rfl (fun _ _ => WL.qj rfl rfl (by omega) rfl  WL.q)
     apply DQ.step [(106, _), (108, _)] rfl ⟨rfl, rfl, trivial⟩ rfl
     ·intro wq_34 kq_34
      replace hv := hv.pure kq_34
      refine WL.qf hv.rsl Tryz.underlying162 Tryz.sizeOf24 rfl rfl ⟨f2, (by omega)⟩ rfl ?_
      exact WL.q
     apply DQ.step [(109, _)] rfl ⟨rfl, trivial⟩ rfl
     ·intro wq_35 kq_35
      replace hv := hv.pure kq_35
      refine WL.load Tryz.isAgg24 rfl ((hv.rsl.cellsAt f2) 0 _ rfl) rfl (WL.q)
     apply DQ.step [(110, _)] rfl ⟨rfl, trivial⟩ rfl
     ·intro wq_36 kq_36
      refine WL.call eg_103 rfl rfl (ror64_calls _ 19 _ (by decide)) ?_
      rintro v w8 ⟨rfl, k⟩
      refine WL.nil (WX.one ⟨rfl, by assumption⟩)
     apply DQ.step [(105, _), (111, _)] rfl ⟨rfl, rfl, trivial⟩ rfl (fun _ _ => WL.num rfl rfl (n_xor64 _ _ _ _) rfl  WL.q)
     apply DQ.step [(9, _)] rfl ⟨rfl, trivial⟩ rfl (fun _ _ => WL.move rfl rfl  WL.q)
     apply DQ.step [(10, _)] rfl ⟨rfl, trivial⟩ rfl (fun _ _ => WL.move rfl rfl  WL.q)
     apply DQ.step [(114, _)] rfl ⟨rfl, trivial⟩ rfl (fun _ _ => WL.qj rfl rfl (by omega) rfl  WL.q)
     apply DQ.step [(113, _), (115, _)] rfl ⟨rfl, rfl, trivial⟩ rfl
     ·intro wq_41 kq_41
      replace hv := hv.pure kq_41
      refine WL.qf hv.rsl Tryz.underlying162 Tryz.sizeOf24 rfl rfl ⟨f2, (by omega)⟩ rfl ?_
      exact WL.q
     apply DQ.step [(116, _)] rfl ⟨rfl, trivial⟩ rfl
     ·intro wq_42 kq_42
      replace hv := hv.pure kq_42
      refine WL.load Tryz.isAgg24 rfl ((hv.rsl.cellsAt f2) 0 _ rfl) rfl (WL.q)
     apply DQ.step [(117, _)] rfl ⟨rfl, trivial⟩ rfl (fun _ _ => WL.num rfl rfl (n_shr64 _ _ _ _ 10 (by decide)) rfl  WL.q)
     apply DQ.step [(112, _), (118, _)] rfl ⟨rfl, rfl, trivial⟩ rfl
     ·intro wq_44 kq_44
      refine WL.num rfl rfl (n_xor64 _ _ _ _) rfl ?_
      rw [show ((rotr ((sch B t).getD (t - 2) 0) 17).toUInt64 ^^^ (rotr ((sch B t).getD (t - 2) 0) 19).toUInt64) ^^^ (((sch B t).getD (t - 2) 0).toUInt64 >>> UInt64.ofNat 10) = S1r ((sch B t).getD (t - 2) 0) from rfl]
      exact WL.q
     apply DQ.step [(119, _)] rfl ⟨rfl, trivial⟩ rfl (fun _ _ => WL.assign rfl rfl  WL.q)
     refine DQ.done (fun _ => ?_)
     refine DL.done (fun we_46 ke_46 => ?_)
     have zs_ke_46 := ke_46.size
     replace hv := hv.pure ke_46
     replace hh := hh.pure ke_46
     replace hk := hk.pure ke_46
     replace hm := hm.pure ke_46
     replace hw := hw.pure ke_46
     refine WX.qa (?_)
     have hJ : RSl (fun x => n2 ≤ x) _ e64 (some ⟨bw, 0, none⟩) cw (WU B t) := hv.rsl
     refine WC.drawJ (fun x => x = bw) (JW n2 bw cw B t) JW.pure [0, 1, 2, 3, 4, 5, 6, 7, 8, 9, 10, 11, 12, 13, 14, 15, 16] [17, 18, 19] mixed rfl rfl hJ (fun wd_47 kd_47 zd_47 => ?_)
     replace hv := hv.pure kd_47
     replace hh := hh.pure kd_47
     replace hk := hk.pure kd_47
     replace hm := hm.pure kd_47
     replace hw := hw.pure kd_47
     replace hJ := hJ.pure kd_47
     apply DQ.step [(9, _)] rfl ⟨rfl, trivial⟩ rfl
     ·rintro wq_49 ⟨kq_49, jq⟩
      refine WL.move rfl rfl (WL.q)
     apply DQ.step [(9, _)] rfl ⟨rfl, trivial⟩ rfl
     ·rintro wq_50 ⟨kq_50, jq⟩
      refine WL.move rfl rfl (WL.q)
     apply DQ.step [(10, _)] rfl ⟨rfl, trivial⟩ rfl
     ·rintro wq_51 ⟨kq_51, jq⟩
      refine WL.move rfl rfl (WL.q)
     apply DQ.step [(122, _)] rfl ⟨rfl, trivial⟩ rfl
     ·rintro wq_52 ⟨kq_52, jq⟩
      refine WL.qj rfl rfl (by omega) rfl (?_)
      exact WL.q
     apply DQ.step [(121, _), (123, _)] rfl ⟨rfl, rfl, trivial⟩ rfl
     ·rintro wq_53 ⟨kq_53, jq⟩
      refine WL.qf jq.rsl Tryz.underlying162 Tryz.sizeOf24 rfl rfl ⟨f16, (by omega)⟩ rfl ?_
      exact WL.q
     apply DQ.step [(124, _)] rfl ⟨rfl, trivial⟩ rfl
     ·rintro wq_54 ⟨kq_54, jq⟩
      refine WL.load Tryz.isAgg24 rfl ((jq.rsl.cellsAt f16) 0 _ rfl) rfl (WL.q)
     apply DQ.step [(13, _)] rfl ⟨rfl, trivial⟩ rfl
     ·rintro wq_55 ⟨kq_55, jq⟩
      refine WL.move rfl rfl (WL.q)
     apply DQ.step [(125, _), (126, _)] rfl ⟨rfl, rfl, trivial⟩ rfl
     ·rintro wq_56 ⟨kq_56, jq⟩
      refine WL.num rfl rfl (n_add64 _ _ _ _) rfl (WL.q)
     apply DQ.step [(9, _)] rfl ⟨rfl, trivial⟩ rfl
     ·rintro wq_57 ⟨kq_57, jq⟩
      refine WL.move rfl rfl (WL.q)
     apply DQ.step [(10, _)] rfl ⟨rfl, trivial⟩ rfl
     ·rintro wq_58 ⟨kq_58, jq⟩
      refine WL.move rfl rfl (WL.q)
     apply DQ.step [(129, _)] rfl ⟨rfl, trivial⟩ rfl
     ·rintro wq_59 ⟨kq_59, jq⟩
      refine WL.qj rfl rfl (by omega) rfl (?_)
      exact WL.q
     apply DQ.step [(128, _), (130, _)] rfl ⟨rfl, rfl, trivial⟩ rfl
     ·rintro wq_60 ⟨kq_60, jq⟩
      refine WL.qf jq.rsl Tryz.underlying162 Tryz.sizeOf24 rfl rfl ⟨f7, (by omega)⟩ rfl ?_
      exact WL.q
     apply DQ.step [(131, _)] rfl ⟨rfl, trivial⟩ rfl
     ·rintro wq_61 ⟨kq_61, jq⟩
      refine WL.load Tryz.isAgg24 rfl ((jq.rsl.cellsAt f7) 0 _ rfl) rfl (WL.q)
     apply DQ.step [(127, _), (132, _)] rfl ⟨rfl, rfl, trivial⟩ rfl
     ·rintro wq_62 ⟨kq_62, jq⟩
      refine WL.num rfl rfl (n_add64 _ _ _ _) rfl (WL.q)
     apply DQ.step [(14, _)] rfl ⟨rfl, trivial⟩ rfl
     ·rintro wq_63 ⟨kq_63, jq⟩
      refine WL.move rfl rfl (WL.q)
     apply DQ.step [(133, _), (134, _)] rfl ⟨rfl, rfl, trivial⟩ rfl
     ·rintro wq_64 ⟨kq_64, jq⟩
      refine WL.num rfl rfl (n_add64 _ _ _ _) rfl (WL.q)
     apply DQ.step [(135, _)] rfl ⟨rfl, trivial⟩ rfl
     ·rintro wq_65 ⟨kq_65, jq⟩
      refine WL.num rfl rfl (n_and64 _ _ _ 4294967295) rfl ?_
      rw [nextW_up, ← nextW_big (b := B) (by omega)]
      exact WL.q
     refine DQ.doneJ (fun hd_48 => ?_)
     refine DL.step [(136, _)] rfl ⟨rfl, trivial⟩ rfl (fun wq_66 kq_66 => ?_)
     have zs_kq_66 := kq_66.size
     replace hv := hv.pure kq_66
     replace hh := hh.pure kq_66
     replace hk := hk.pure kq_66
     replace hm := hm.pure kq_66
     replace hw := hw.pure kq_66
     replace hJ := hJ.pure kq_66
     replace hd_48 := hd_48.pure kq_66
     refine WL.build (e := e64) [(nextW B (sch B t) t).toUInt64] Tryz.underlying162 Tryz.sizeOf24 Tryz.zeroValue24 rfl rfl rfl (by simp [Value.cells] <;> rfl) (by decide) rfl ?_
     intro a_hn w_hn hn l_hn z_hn k_hn
     replace hv := hv.pure k_hn
     replace hh := hh.pure k_hn
     replace hk := hk.pure k_hn
     replace hm := hm.pure k_hn
     replace hw := hw.pure k_hn
     replace hJ := hJ.pure k_hn
     replace hd_48 := hd_48.pure k_hn
     refine WL.nil (WX.one ⟨⟨hd_48, (by exact hJ)⟩, ?_⟩)
     refine DL.step [(120, _), (137, _)] rfl ⟨rfl, rfl, trivial⟩ rfl (fun wq_67 kq_67 => ?_)
     have zs_kq_67 := kq_67.size
     replace hv := hv.pure kq_67
     replace hh := hh.pure kq_67
     replace hk := hk.pure kq_67
     replace hm := hm.pure kq_67
     replace hw := hw.pure kq_67
     replace hd_48 := hd_48.pure kq_67
     replace hn := hn.pure kq_67
     refine WL.append' (e := e64) info_24 rfl Tryz.underlying162 rfl rfl hv (hn.rsl.src Tryz.underlying162) (by constructor <;> (simp only [List.length_cons, List.length_nil]; omega)) (fun b hb => by omega) rfl ?_
     intro a_hv2 c_hv2 wa hv2 ga na hJ2
     have gc : Chg (fun x => x = bw) _ wa := ga.chg.mono (by rintro x _ ⟨⟨a, ea, rfl⟩, _⟩; injection ea with ea; rw [← ea])
     have zga := gc.size
     replace hh := hh.chg gc (by intro b h1 h2 h3; have h4 : _ = _ := h3; (try dsimp only at h2); exfalso; omega)
     replace hk := hk.chg gc (by intro b h1 h2 h3; have h4 : _ = _ := h3; (try dsimp only at h2); exfalso; omega)
     replace hm := hm.chg gc (by intro b h1 h2 h3; have h4 : _ = _ := h3; (try dsimp only at h2); exfalso; omega)
     replace hw := hw.chg gc (by intro x h1 h2; have h3 : _ = _ := h2; exfalso; omega)
     replace hd_48 := hd_48.chg gc (by intro x h1 h2; exact h2)
     replace hJ := hJ2
     refine WL.nil (WX.one ⟨⟨hd_48, (by exact hJ)⟩, ?_⟩)
     refine DL.step [(138, _)] rfl ⟨rfl, trivial⟩ rfl (fun wq_68 kq_68 => ?_)
     have zs_kq_68 := kq_68.size
     replace hh := hh.pure kq_68
     replace hk := hk.pure kq_68
     replace hm := hm.pure kq_68
     replace hw := hw.pure kq_68
     replace hJ := hJ.pure kq_68
     replace hd_48 := hd_48.pure kq_68
     replace hv2 := hv2.pure kq_68
     refine WL.assign rfl rfl (WL.nil ?_)
     refine WX.one ⟨⟨hd_48, (by exact hJ)⟩, ?_⟩
     refine DL.done (fun we_69 ke_69 => ?_)
     have zs_ke_69 := ke_69.size
     replace hh := hh.pure ke_69
     replace hk := hk.pure ke_69
     replace hm := hm.pure ke_69
     replace hw := hw.pure ke_69
     replace hv2 := hv2.pure ke_69
     refine WX.qc (WX.qa (WC.region (WL.move rfl rfl (WL.qe rfl rfl (by omega) rfl (WL.assign rfl rfl (WL.nil (?_)))))))
     have e1 := WU_next B t
     refine WX.qf (t + 1, a_hv2, c_hv2) ⟨rfl, rfl, rfl, rfl, ?_, rfl, trivial⟩ ⟨by dsimp only; omega, by omega, ?_, hh, hk, hm, hw⟩ (by show _ - _ < _ - _; omega)
     ·dsimp only; rw [e1]; rfl
     ·dsimp only; rw [e1]; exact hv2
   ·refine WL.t (WC.qa rfl (WC.exit (WX.qd (WX.qd (WX.qh (WX.qa (WC.sr (?_))))))))
    have ht64 : t = 64 := by omega
    subst ht64
    obtain ⟨WS, hWS⟩ : ∃ WS, WS = sch B 64 := ⟨_, rfl⟩
    have hWl : WS.length = 64 := by rw [hWS]; exact sch_len B 64
    obtain ⟨WW, hWW⟩ : ∃ WW, WW = WU B 64 := ⟨_, rfl⟩
    have hWW2 : WW = WS.map UInt32.toUInt64 := by rw [hWW, hWS]; rfl
    rw [← hWW] at hv hwl ⊢
    obtain ⟨n3, hn3⟩ : ∃ n3, n3 = w6.heap.size := ⟨_, rfl⟩
    have hgn3 : gh < n3 := by omega
    have hws : RSl (fun x => n2 ≤ x ∧ x < n3) w6 e64 aw cw WW := hv.lt.rsl.mono (fun x hx => by omega)
    refine WL.build (e := e64) [] Tryz.underlying162 Tryz.sizeOf24 Tryz.zeroValue24 rfl rfl rfl (by simp [Value.cells]; done) (by decide) rfl ?_
    intro a_hv0 w_hv0 hv0 l_hv0 z_hv0 k_hv0
    replace hh := hh.pure k_hv0
    replace hk := hk.pure k_hv0
    replace hm := hm.pure k_hv0
    replace hw := hw.pure k_hv0
    replace hws := hws.pure k_hv0
    rw [show ([] : List UInt64).length = 0 from rfl]
    refine WL.move rfl rfl (?_)
    have hul : (UL V0).length = 8 := rfl
    refine WL.append (e := e64) info_24 rfl Tryz.underlying162 rfl rfl hv0 (hh.rsl.src Tryz.underlying162) (by (try simp only [List.length_append, List.length_cons, List.length_nil] at *); omega) (by intro b hb; first | (apply hS; omega) | ((try dsimp only); omega)) rfl ?_
    intro a_hv1 c_hv1 w_hv1 hv1 g_hv1 n_hv1
    have z_hv1 := g_hv1.chg.size
    have zs_g_hv1_chg := g_hv1.chg.size
    replace hh := hh.chg g_hv1.chg (by intros; exfalso; (try dsimp only at *); omega)
    replace hk := hk.chg g_hv1.chg (by intros; exfalso; (try dsimp only at *); omega)
    replace hm := hm.chg g_hv1.chg (by intros; exfalso; (try dsimp only at *); omega)
    replace hw := hw.chg g_hv1.chg (by intros; exfalso; (try dsimp only at *); omega)
    replace hws := hws.chg g_hv1.chg (by intros; exfalso; (try dsimp only at *); omega)
    rw [List.nil_append] at hv1 ⊢
    refine WL.assign rfl rfl (WL.t (WC.seq (WC.sr (WL.assign rfl rfl (WL.nil (WX.qa (WC.block (?_))))))))
    have hvv : Row (fun x => n3 ≤ x) _ 24 e64 a_hv1 c_hv1 (UL V0) := hv1.mono (fun x hx => by omega)
    refine WC.loop (σ := Nat × Option Addr × Nat) (fun q => [(4, .slice (some ⟨gh, 0, none⟩) (UL V0).length ch), (5, .slice ak K64.length ck), (7, .slice am M.length cm), (8, vi ((64 * j : Nat) : Int)), (9, .slice aw WW.length cw), (15, .slice q.2.1 (UL (roundsN WS V0 q.1)).length q.2.2), (16, vi q.1)])
     (fun q w' => q.1 ≤ 64 ∧ n3 ≤ w'.heap.size ∧ RSl (fun x => n2 ≤ x ∧ x < n3) w' e64 aw cw WW ∧ Row (fun x => n3 ≤ x) w' 24 e64 q.2.1 q.2.2 (UL (roundsN WS V0 q.1)) ∧ Row (fun b => b = gh) w' 24 e64 (some ⟨gh, 0, none⟩) ch (UL V0) ∧ RSl (fun b => b < n2 ∧ b ≠ gh) w' e64 ak ck K64 ∧ RSl (fun b => b < n2 ∧ b ≠ gh) w' eb am cm M ∧ Chg Nob w w') (fun q => 64 - q.1)
     (0, a_hv1, c_hv1) ⟨rfl, rfl, rfl, rfl, rfl, rfl, rfl, trivial⟩ ⟨Nat.zero_le _, by omega, hws, hvv, hh, hk, hm, hw⟩ ?_
    clear hv hvv hv1 hh hk hm hw
    rintro ⟨r, av, cv⟩ w7 ⟨hr, hn7, hws, hv, hh, hk, hm, hw⟩
    dsimp only at hr hn7 hws hv hh hk hm hw ⊢
    refine WC.seq (WC.sr (WL.move rfl rfl (WL.qh rfl rfl rfl (fun h143 => ?_) (fun h143 => ?_))))
    ·refine WL.t (WC.qb rfl (WC.skip (WX.qa (WC.seq (WC.block (WC.seq (?_)))))))
     obtain ⟨V, hV⟩ : ∃ V, V = roundsN WS V0 r := ⟨_, rfl⟩
     rw [← hV] at hv ⊢
     obtain ⟨wt, hwt⟩ : ∃ wt, wt = WS.getD r 0 := ⟨_, rfl⟩
     obtain ⟨kt, hkt⟩ : ∃ kt, kt = K256.getD r 0 := ⟨_, rfl⟩
     have fk : K64[r]? = some kt.toUInt64 := by rw [hkt]; exact map_at _ (getD_at (by show r < 64; omega))
     have fw : WW[r]? = some wt.toUInt64 := by rw [hWW2, hwt]; exact map_at _ (getD_at (by omega))
     obtain ⟨gv, rfl⟩ := hv.place0 (j := 0) (by show 0 < 8; decide)
     obtain ⟨bk, ok, rfl⟩ := hk.place fk
     obtain ⟨bw, ow, rfl⟩ := hws.place fw
     have fa : (UL V)[0]? = some V.a.toUInt64 := rfl
     have fb : (UL V)[1]? = some V.b.toUInt64 := rfl
     have fc : (UL V)[2]? = some V.c.toUInt64 := rfl
     have fe : (UL V)[4]? = some V.e.toUInt64 := rfl
     have ff : (UL V)[5]? = some V.f.toUInt64 := rfl
     have fg : (UL V)[6]? = some V.g.toUInt64 := rfl
     have fh : (UL V)[7]? = some V.h.toUInt64 := rfl
     have hgv := hv.at_ _ rfl
     dsimp only at hgv
     refine WC.qc (Nob) [0, 1, 2, 3, 4, 5, 6, 7, 8, 9, 10, 11, 12, 13, 14, 15, 16, 17, 18, 19, 20, 21, 22, 23, 24, 25, 26, 27, 28, 29, 30, 31, 32, 33, 34, 35, 36, 37, 38, 39, 40, 41, 42, 43, 44, 45] [] mixed rfl rfl (fun wd_1 kd_1 zd_1 => ?_)
     replace hws := hws.pure kd_1
     replace hv := hv.pure kd_1
     replace hh := hh.pure kd_1
     replace hk := hk.pure kd_1
     replace hm := hm.pure kd_1
     replace hw := hw.pure kd_1
     apply DQ.step [(15, _)] rfl ⟨rfl, trivial⟩ rfl (fun _ _ => WL.move rfl rfl  WL.q)
     apply DQ.step [(146, _)] rfl ⟨rfl, trivial⟩ rfl
     ·intro wq_3 kq_3
      replace hv := hv.pure kq_3
      refine WL.qf hv.rsl Tryz.underlying162 Tryz.sizeOf24 rfl rfl ⟨fh, rfl⟩ rfl (WL.q)
     apply DQ.step [(147, _)] rfl ⟨rfl, trivial⟩ rfl
     ·intro wq_4 kq_4
      replace hv := hv.pure kq_4
      refine WL.load Tryz.isAgg24 rfl ((hv.rsl.cellsAt fh) 0 _ rfl) rfl (WL.q)
     apply DQ.step [(15, _)] rfl ⟨rfl, trivial⟩ rfl (fun _ _ => WL.move rfl rfl  WL.q)
     apply DQ.step [(149, _)] rfl ⟨rfl, trivial⟩ rfl
     ·intro wq_6 kq_6
      replace hv := hv.pure kq_6
      refine WL.qf hv.rsl Tryz.underlying162 Tryz.sizeOf24 rfl rfl ⟨fe, rfl⟩ rfl (WL.q)
     apply DQ.step [(150, _)] rfl ⟨rfl, trivial⟩ rfl
     ·intro wq_7 kq_7
      replace hv := hv.pure kq_7
      refine WL.load Tryz.isAgg24 rfl ((hv.rsl.cellsAt fe) 0 _ rfl) rfl (WL.q)
     apply DQ.step [(151, _)] rfl ⟨rfl, trivial⟩ rfl
     ·intro wq_8 kq_8
      refine WL.call eg_103 rfl rfl (ror64_calls _ 6 _ (by decide)) ?_
      rintro v w8 ⟨rfl, k⟩
      refine WL.nil (WX.one ⟨rfl, by assumption⟩)
     apply DQ.step [(15, _)] rfl ⟨rfl, trivial⟩ rfl (fun _ _ => WL.move rfl rfl  WL.q)
     apply DQ.step [(153, _)] rfl ⟨rfl, trivial⟩ rfl
     ·intro wq_10 kq_10
      replace hv := hv.pure kq_10
      refine WL.qf hv.rsl Tryz.underlying162 Tryz.sizeOf24 rfl rfl ⟨fe, rfl⟩ rfl (WL.q)
     apply DQ.step [(154, _)] rfl ⟨rfl, trivial⟩ rfl
     ·intro wq_11 kq_11
      replace hv := hv.pure kq_11
      refine WL.load Tryz.isAgg24 rfl ((hv.rsl.cellsAt fe) 0 _ rfl) rfl (WL.q)
     apply DQ.step [(155, _)] rfl ⟨rfl, trivial⟩ rfl
     ·intro wq_12 kq_12
      refine WL.call eg_103 rfl rfl (ror64_calls _ 11 _ (by decide)) ?_
      rintro v w8 ⟨rfl, k⟩
      refine WL.nil (WX.one ⟨rfl, by assumption⟩)
     apply DQ.step [(152, _), (156, _)] rfl ⟨rfl, rfl, trivial⟩ rfl (fun _ _ => WL.num rfl rfl (n_xor64 _ _ _ _) rfl  WL.q)
     apply DQ.step [(15, _)] rfl ⟨rfl, trivial⟩ rfl (fun _ _ => WL.move rfl rfl  WL.q)
     apply DQ.step [(158, _)] rfl ⟨rfl, trivial⟩ rfl
     ·intro wq_15 kq_15
      replace hv := hv.pure kq_15
      refine WL.qf hv.rsl Tryz.underlying162 Tryz.sizeOf24 rfl rfl ⟨fe, rfl⟩ rfl (WL.q)
     apply DQ.step [(159, _)] rfl ⟨rfl, trivial⟩ rfl
     ·intro wq_16 kq_16
      replace hv := hv.pure kq_16
      refine WL.load Tryz.isAgg24 rfl ((hv.rsl.cellsAt fe) 0 _ rfl) rfl (WL.q)
     apply DQ.step [(160, _)] rfl ⟨rfl, trivial⟩ rfl
     ·intro wq_17 kq_17
      refine WL.call eg_103 rfl rfl (ror64_calls _ 25 _ (by decide)) ?_
      rintro v w8 ⟨rfl, k⟩
      refine WL.nil (WX.one ⟨rfl, by assumption⟩)
     apply DQ.step [(157, _), (161, _)] rfl ⟨rfl, rfl, trivial⟩ rfl (fun _ _ => WL.num rfl rfl (n_xor64 _ _ _ _) rfl  WL.q)
     apply DQ.step [(148, _), (162, _)] rfl ⟨rfl, rfl, trivial⟩ rfl (fun _ _ => WL.num rfl rfl (n_add64 _ _ _ _) rfl  WL.q)
     apply DQ.step [(15, _)] rfl ⟨rfl, trivial⟩ rfl (fun _ _ => WL.move rfl rfl  WL.q)
     apply DQ.step [(164, _)] rfl ⟨rfl, trivial⟩ rfl
     ·intro wq_21 kq_21
      replace hv := hv.pure kq_21
      refine WL.qf hv.rsl Tryz.underlying162 Tryz.sizeOf24 rfl rfl ⟨fe, rfl⟩ rfl (WL.q)
     apply DQ.step [(165, _)] rfl ⟨rfl, trivial⟩ rfl
     ·intro wq_22 kq_22
      replace hv := hv.pure kq_22
      refine WL.load Tryz.isAgg24 rfl ((hv.rsl.cellsAt fe) 0 _ rfl) rfl (WL.q)
     apply DQ.step [(15, _)] rfl ⟨rfl, trivial⟩ rfl (fun _ _ => WL.move rfl rfl  WL.q)
     apply DQ.step [(167, _)] rfl ⟨rfl, trivial⟩ rfl
     ·intro wq_24 kq_24
      replace hv := hv.pure kq_24
      refine WL.qf hv.rsl Tryz.underlying162 Tryz.sizeOf24 rfl rfl ⟨ff, rfl⟩ rfl (WL.q)
     apply DQ.step [(168, _)] rfl ⟨rfl, trivial⟩ rfl
     ·intro wq_25 kq_25
      replace hv := hv.pure kq_25
      refine WL.load Tryz.isAgg24 rfl ((hv.rsl.cellsAt ff) 0 _ rfl) rfl (WL.q)
     apply DQ.step [(166, _), (169, _)] rfl ⟨rfl, rfl, trivial⟩ rfl (fun _ _ => WL.num rfl rfl (n_and64 _ _ _ _) rfl  WL.q)
     apply DQ.step [(15, _)] rfl ⟨rfl, trivial⟩ rfl (fun _ _ => WL.move rfl rfl  WL.q)
     apply DQ.step [(171, _)] rfl ⟨rfl, trivial⟩ rfl
     ·intro wq_28 kq_28
      replace hv := hv.pure kq_28
      refine WL.qf hv.rsl Tryz.underlying162 Tryz.sizeOf24 rfl rfl ⟨fe, rfl⟩ rfl (WL.q)
     apply DQ.step [(172, _)] rfl ⟨rfl, trivial⟩ rfl
     ·intro wq_29 kq_29
      replace hv := hv.pure kq_29
      refine WL.load Tryz.isAgg24 rfl ((hv.rsl.cellsAt fe) 0 _ rfl) rfl (WL.q)
     apply DQ.step [(173, _)] rfl ⟨rfl, trivial⟩ rfl (fun _ _ => WL.num rfl rfl (n_xor64 _ _ _ 4294967295) rfl  WL.q)
     apply DQ.step [(15, _)] rfl ⟨rfl, trivial⟩ rfl (fun _ _ => WL.move rfl rfl  WL.q)
     apply DQ.step [(175, _)] rfl ⟨rfl, trivial⟩ rfl
     ·intro wq_32 kq_32
      replace hv := hv.pure kq_32
      refine WL.qf hv.rsl Tryz.underlying162 Tryz.sizeOf24 rfl rfl ⟨fg, rfl⟩ rfl (WL.q)
     apply DQ.step [(176, _)] rfl ⟨rfl, trivial⟩ rfl
     ·intro wq_33 kq_33
      replace hv := hv.pure kq_33
      refine WL.load Tryz.isAgg24 rfl ((hv.rsl.cellsAt fg) 0 _ rfl) rfl (WL.q)
     apply DQ.step [(174, _), (177, _)] rfl ⟨rfl, rfl, trivial⟩ rfl (fun _ _ => WL.num rfl rfl (n_and64 _ _ _ _) rfl  WL.q)
     apply DQ.step [(170, _), (178, _)] rfl ⟨rfl, rfl, trivial⟩ rfl (fun _ _ => WL.num rfl rfl (n_xor64 _ _ _ _) rfl  WL.q)
     apply DQ.step [(163, _), (179, _)] rfl ⟨rfl, rfl, trivial⟩ rfl (fun _ _ => WL.num rfl rfl (n_add64 _ _ _ _) rfl  WL.q)
     apply DQ.step [(5, _)] rfl ⟨rfl, trivial⟩ rfl (fun _ _ => WL.move rfl rfl  WL.q)
     apply DQ.step [(16, _)] rfl ⟨rfl, trivial⟩ rfl (fun _ _ => WL.move rfl rfl  WL.q)
     apply DQ.step [(181, _), (182, _)] rfl ⟨rfl, rfl, trivial⟩ rfl
     ·intro wq_39 kq_39
      replace hk := hk.pure kq_39
      refine WL.qf hk Tryz.underlying162 Tryz.sizeOf24 rfl rfl ⟨fk, rfl⟩ rfl (WL.q)
     apply DQ.step [(183, _)] rfl ⟨rfl, trivial⟩ rfl
     ·intro wq_40 kq_40
      replace hk := hk.pure kq_40
      refine WL.load Tryz.isAgg24 rfl ((hk.cellsAt fk) 0 _ rfl) rfl (WL.q)
     apply DQ.step [(180, _), (184, _)] rfl ⟨rfl, rfl, trivial⟩ rfl (fun _ _ => WL.num rfl rfl (n_add64 _ _ _ _) rfl  WL.q)
     apply DQ.step [(9, _)] rfl ⟨rfl, trivial⟩ rfl (fun _ _ => WL.move rfl rfl  WL.q)
     apply DQ.step [(16, _)] rfl ⟨rfl, trivial⟩ rfl (fun _ _ => WL.move rfl rfl  WL.q)
     apply DQ.step [(186, _), (187, _)] rfl ⟨rfl, rfl, trivial⟩ rfl
     ·intro wq_44 kq_44
      replace hws := hws.pure kq_44
      refine WL.qf hws Tryz.underlying162 Tryz.sizeOf24 rfl rfl ⟨fw, rfl⟩ rfl (WL.q)
     apply DQ.step [(188, _)] rfl ⟨rfl, trivial⟩ rfl
     ·intro wq_45 kq_45
      replace hws := hws.pure kq_45
      refine WL.load Tryz.isAgg24 rfl ((hws.cellsAt fw) 0 _ rfl) rfl (WL.q)
     apply DQ.step [(185, _), (189, _)] rfl ⟨rfl, rfl, trivial⟩ rfl
     ·intro wq_46 kq_46
      refine WL.num rfl rfl (n_add64 _ _ _ _) rfl ?_
      rw [show V.h.toUInt64 + (((rotr V.e 6).toUInt64 ^^^ (rotr V.e 11).toUInt64) ^^^ (rotr V.e 25).toUInt64) + ((V.e.toUInt64 &&& V.f.toUInt64) ^^^ ((V.e.toUInt64 ^^^ 4294967295) &&& V.g.toUInt64)) + kt.toUInt64 + wt.toUInt64 = T1r V kt wt from rfl]
      exact WL.q
     apply DQ.step [(190, _)] rfl ⟨rfl, trivial⟩ rfl (fun _ _ => WL.assign rfl rfl  WL.q)
     refine DQ.done (fun _ => ?_)
     refine DL.done (fun we_48 ke_48 => ?_)
     have zs_ke_48 := ke_48.size
     replace hws := hws.pure ke_48
     replace hv := hv.pure ke_48
     replace hh := hh.pure ke_48
     replace hk := hk.pure ke_48
     replace hm := hm.pure ke_48
     replace hw := hw.pure ke_48
     refine WX.qa (WC.seq (WC.qc (Nob) [0, 1, 2, 3, 4, 5, 6, 7, 8, 9, 10, 11, 12, 13, 14, 15, 16, 17, 18, 19, 20, 21, 22, 23, 24, 25, 26, 27, 28, 29, 30, 31, 32, 33, 34, 35, 36, 37, 38] [] mixed rfl rfl (fun wd_49 kd_49 zd_49 => ?_)))
     replace hws := hws.pure kd_49
     replace hv := hv.pure kd_49
     replace hh := hh.pure kd_49
     replace hk := hk.pure kd_49
     replace hm := hm.pure kd_49
     replace hw := hw.pure kd_49
     apply DQ.step [(15, _)] rfl ⟨rfl, trivial⟩ rfl (fun _ _ => WL.move rfl rfl  WL.q)
     apply DQ.step [(191, _)] rfl ⟨rfl, trivial⟩ rfl
     ·intro wq_51 kq_51
      replace hv := hv.pure kq_51
      refine WL.qf hv.rsl Tryz.underlying162 Tryz.sizeOf24 rfl rfl ⟨fa, rfl⟩ rfl (WL.q)
     apply DQ.step [(192, _)] rfl ⟨rfl, trivial⟩ rfl
     ·intro wq_52 kq_52
      replace hv := hv.pure kq_52
      refine WL.load Tryz.isAgg24 rfl ((hv.rsl.cellsAt fa) 0 _ rfl) rfl (WL.q)
     apply DQ.step [(193, _)] rfl ⟨rfl, trivial⟩ rfl
     ·intro wq_53 kq_53
      refine WL.call eg_103 rfl rfl (ror64_calls _ 2 _ (by decide)) ?_
      rintro v w8 ⟨rfl, k⟩
      refine WL.nil (WX.one ⟨rfl, by assumption⟩)
     apply DQ.step [(15, _)] rfl ⟨rfl, trivial⟩ rfl (fun _ _ => WL.move rfl rfl  WL.q)
     apply DQ.step [(195, _)] rfl ⟨rfl, trivial⟩ rfl
     ·intro wq_55 kq_55
      replace hv := hv.pure kq_55
      refine WL.qf hv.rsl Tryz.underlying162 Tryz.sizeOf24 rfl rfl ⟨fa, rfl⟩ rfl (WL.q)
     apply DQ.step [(196, _)] rfl ⟨rfl, trivial⟩ rfl
     ·intro wq_56 kq_56
      replace hv := hv.pure kq_56
      refine WL.load Tryz.isAgg24 rfl ((hv.rsl.cellsAt fa) 0 _ rfl) rfl (WL.q)
     apply DQ.step [(197, _)] rfl ⟨rfl, trivial⟩ rfl
     ·intro wq_57 kq_57
      refine WL.call eg_103 rfl rfl (ror64_calls _ 13 _ (by decide)) ?_
      rintro v w8 ⟨rfl, k⟩
      refine WL.nil (WX.one ⟨rfl, by assumption⟩)
     apply DQ.step [(194, _), (198, _)] rfl ⟨rfl, rfl, trivial⟩ rfl (fun _ _ => WL.num rfl rfl (n_xor64 _ _ _ _) rfl  WL.q)
     apply DQ.step [(15, _)] rfl ⟨rfl, trivial⟩ rfl (fun _ _ => WL.move rfl rfl  WL.q)
     apply DQ.step [(200, _)] rfl ⟨rfl, trivial⟩ rfl
     ·intro wq_60 kq_60
      replace hv := hv.pure kq_60
      refine WL.qf hv.rsl Tryz.underlying162 Tryz.sizeOf24 rfl rfl ⟨fa, rfl⟩ rfl (WL.q)
     apply DQ.step [(201, _)] rfl ⟨rfl, trivial⟩ rfl
     ·intro wq_61 kq_61
      replace hv := hv.pure kq_61
      refine WL.load Tryz.isAgg24 rfl ((hv.rsl.cellsAt fa) 0 _ rfl) rfl (WL.q)
     apply DQ.step [(202, _)] rfl ⟨rfl, trivial⟩ rfl
     ·intro wq_62 kq_62
      refine WL.call eg_103 rfl rfl (ror64_calls _ 22 _ (by decide)) ?_
      rintro v w8 ⟨rfl, k⟩
      refine WL.nil (WX.one ⟨rfl, by assumption⟩)
     apply DQ.step [(199, _), (203, _)] rfl ⟨rfl, rfl, trivial⟩ rfl (fun _ _ => WL.num rfl rfl (n_xor64 _ _ _ _) rfl  WL.q)
     apply DQ.step [(15, _)] rfl ⟨rfl, trivial⟩ rfl (fun _ _ => WL.move rfl rfl  WL.q)
     apply DQ.step [(205, _)] rfl ⟨rfl, trivial⟩ rfl
     ·intro wq_65 kq_65
      replace hv := hv.pure kq_65
      refine WL.qf hv.rsl Tryz.underlying162 Tryz.sizeOf24 rfl rfl ⟨fa, rfl⟩ rfl (WL.q)
     apply DQ.step [(206, _)] rfl ⟨rfl, trivial⟩ rfl
     ·intro wq_66 kq_66
      replace hv := hv.pure kq_66
      refine WL.load Tryz.isAgg24 rfl ((hv.rsl.cellsAt fa) 0 _ rfl) rfl (WL.q)
     apply DQ.step [(15, _)] rfl ⟨rfl, trivial⟩ rfl (fun _ _ => WL.move rfl rfl  WL.q)
     apply DQ.step [(208, _)] rfl ⟨rfl, trivial⟩ rfl
     ·intro wq_68 kq_68
      replace hv := hv.pure kq_68
      refine WL.qf hv.rsl Tryz.underlying162 Tryz.sizeOf24 rfl rfl ⟨fb, rfl⟩ rfl (WL.q)
     apply DQ.step [(209, _)] rfl ⟨rfl, trivial⟩ rfl
     ·intro wq_69 kq_69
      replace hv := hv.pure kq_69
      refine WL.load Tryz.isAgg24 rfl ((hv.rsl.cellsAt fb) 0 _ rfl) rfl (WL.q)
     apply DQ.step [(207, _), (210, _)] rfl ⟨rfl, rfl, trivial⟩ rfl (fun _ _ => WL.num rfl rfl (n_and64 _ _ _ _) rfl  WL.q)
     apply DQ.step [(15, _)] rfl ⟨rfl, trivial⟩ rfl (fun _ _ => WL.move rfl rfl  WL.q)
     apply DQ.step [(212, _)] rfl ⟨rfl, trivial⟩ rfl
     ·intro wq_72 kq_72
      replace hv := hv.pure kq_72
      refine WL.qf hv.rsl Tryz.underlying162 Tryz.sizeOf24 rfl rfl ⟨fa, rfl⟩ rfl (WL.q)
     apply DQ.step [(213, _)] rfl ⟨rfl, trivial⟩ rfl
     ·intro wq_73 kq_73
      replace hv := hv.pure kq_73
      refine WL.load Tryz.isAgg24 rfl ((hv.rsl.cellsAt fa) 0 _ rfl) rfl (WL.q)
     apply DQ.step [(15, _)] rfl ⟨rfl, trivial⟩ rfl (fun _ _ => WL.move rfl rfl  WL.q)
     apply DQ.step [(215, _)] rfl ⟨rfl, trivial⟩ rfl
     ·intro wq_75 kq_75
      replace hv := hv.pure kq_75
      refine WL.qf hv.rsl Tryz.underlying162 Tryz.sizeOf24 rfl rfl ⟨fc, rfl⟩ rfl (WL.q)
     apply DQ.step [(216, _)] rfl ⟨rfl, trivial⟩ rfl
     ·intro wq_76 kq_76
      replace hv := hv.pure kq_76
      refine WL.load Tryz.isAgg24 rfl ((hv.rsl.cellsAt fc) 0 _ rfl) rfl (WL.q)
     apply DQ.step [(214, _), (217, _)] rfl ⟨rfl, rfl, trivial⟩ rfl (fun _ _ => WL.num rfl rfl (n_and64 _ _ _ _) rfl  WL.q)
     apply DQ.step [(211, _), (218, _)] rfl ⟨rfl, rfl, trivial⟩ rfl (fun _ _ => WL.num rfl rfl (n_xor64 _ _ _ _) rfl  WL.q)
     apply DQ.step [(15, _)] rfl ⟨rfl, trivial⟩ rfl (fun _ _ => WL.move rfl rfl  WL.q)
     apply DQ.step [(220, _)] rfl ⟨rfl, trivial⟩ rfl
     ·intro wq_80 kq_80
      replace hv := hv.pure kq_80
      refine WL.qf hv.rsl Tryz.underlying162 Tryz.sizeOf24 rfl rfl ⟨fb, rfl⟩ rfl (WL.q)
     apply DQ.step [(221, _)] rfl ⟨rfl, trivial⟩ rfl
     ·intro wq_81 kq_81
      replace hv := hv.pure kq_81
      refine WL.load Tryz.isAgg24 rfl ((hv.rsl.cellsAt fb) 0 _ rfl) rfl (WL.q)
     apply DQ.step [(15, _)] rfl ⟨rfl, trivial⟩ rfl (fun _ _ => WL.move rfl rfl  WL.q)
     apply DQ.step [(223, _)] rfl ⟨rfl, trivial⟩ rfl
     ·intro wq_83 kq_83
      replace hv := hv.pure kq_83
      refine WL.qf hv.rsl Tryz.underlying162 Tryz.sizeOf24 rfl rfl ⟨fc, rfl⟩ rfl (WL.q)
     apply DQ.step [(224, _)] rfl ⟨rfl, trivial⟩ rfl
     ·intro wq_84 kq_84
      replace hv := hv.pure kq_84
      refine WL.load Tryz.isAgg24 rfl ((hv.rsl.cellsAt fc) 0 _ rfl) rfl (WL.q)
     apply DQ.step [(222, _), (225, _)] rfl ⟨rfl, rfl, trivial⟩ rfl (fun _ _ => WL.num rfl rfl (n_and64 _ _ _ _) rfl  WL.q)
     apply DQ.step [(219, _), (226, _)] rfl ⟨rfl, rfl, trivial⟩ rfl (fun _ _ => WL.num rfl rfl (n_xor64 _ _ _ _) rfl  WL.q)
     apply DQ.step [(204, _), (227, _)] rfl ⟨rfl, rfl, trivial⟩ rfl
     ·intro wq_87 kq_87
      refine WL.num rfl rfl (n_add64 _ _ _ _) rfl ?_
      rw [show (((rotr V.a 2).toUInt64 ^^^ (rotr V.a 13).toUInt64) ^^^ (rotr V.a 22).toUInt64) + (((V.a.toUInt64 &&& V.b.toUInt64) ^^^ (V.a.toUInt64 &&& V.c.toUInt64)) ^^^ (V.b.toUInt64 &&& V.c.toUInt64)) = T2r V from rfl]
      exact WL.q
     apply DQ.step [(228, _)] rfl ⟨rfl, trivial⟩ rfl (fun _ _ => WL.assign rfl rfl  WL.q)
     refine DQ.done (fun _ => ?_)
     refine DL.done (fun we_89 ke_89 => ?_)
     have zs_ke_89 := ke_89.size
     replace hws := hws.pure ke_89
     replace hv := hv.pure ke_89
     replace hh := hh.pure ke_89
     replace hk := hk.pure ke_89
     replace hm := hm.pure ke_89
     replace hw := hw.pure ke_89
     refine WX.qa (WC.sr (WL.move rfl rfl (WL.move rfl rfl (WL.num rfl rfl (n_add64 _ _ _ _) rfl (WL.num rfl rfl (n_and64 _ _ _ 4294967295) rfl (?_))))))
     refine WL.build (e := e64) [(T1r V kt wt + T2r V) &&& 4294967295] Tryz.underlying162 Tryz.sizeOf24 Tryz.zeroValue24 rfl rfl rfl (by simp [Value.cells] <;> rfl) (by decide) rfl ?_
     intro a_hA w_hA hA l_hA z_hA k_hA
     replace hws := hws.pure k_hA
     replace hv := hv.pure k_hA
     replace hh := hh.pure k_hA
     replace hk := hk.pure k_hA
     replace hm := hm.pure k_hA
     replace hw := hw.pure k_hA
     refine WL.move rfl rfl (?_)
     refine WL.slice (l := 0) (h := 7) (k := .i64) Tryz.underlying162 Tryz.sizeOf24 hv.rsl rfl (.inr ⟨rfl, rfl⟩) (.inl rfl) (by constructor; decide; show 7 ≤ 8; decide) rfl ?_
     intro a_hc c_hc hc n_hc
     rw [show ((UL V).take 7).drop 0 = [V.a.toUInt64, V.b.toUInt64, V.c.toUInt64, V.d.toUInt64, V.e.toUInt64, V.f.toUInt64, V.g.toUInt64] from rfl] at hc ⊢
     refine WL.append (e := e64) info_24 rfl Tryz.underlying162 rfl rfl hA (hc.src Tryz.underlying162) (by (try simp only [List.length_append, List.length_cons, List.length_nil] at *); omega) (by intro b hb; first | (apply hS; omega) | ((try dsimp only); omega)) rfl ?_
     intro a_hB c_hB w_hB hB g_hB n_hB
     have z_hB := g_hB.chg.size
     replace hws := hws.chg g_hB.chg (by intros; exfalso; (try dsimp only at *); omega)
     replace hh := hh.chg g_hB.chg (by intros; exfalso; (try dsimp only at *); omega)
     replace hk := hk.chg g_hB.chg (by intros; exfalso; (try dsimp only at *); omega)
     replace hm := hm.chg g_hB.chg (by intros; exfalso; (try dsimp only at *); omega)
     replace hw := hw.chg g_hB.chg (by intros; exfalso; (try dsimp only at *); omega)
     obtain ⟨NL, hNL⟩ : ∃ NL, NL = [(T1r V kt wt + T2r V) &&& 4294967295] ++ [V.a.toUInt64, V.b.toUInt64, V.c.toUInt64, V.d.toUInt64, V.e.toUInt64, V.f.toUInt64, V.g.toUInt64] := ⟨_, rfl⟩
     have hN8 : NL.length = 8 := by rw [hNL]; rfl
     have fd : NL[4]? = some V.d.toUInt64 := by rw [hNL]; rfl
     rw [← hNL] at hB ⊢
     replace hB : Row (fun x => n3 ≤ x) _ 24 e64 a_hB c_hB NL := hB.mono (fun x hx => by omega)
     obtain ⟨gB, hgB⟩ := hB.place0 (j := 0) (by omega)
     subst hgB
     have hgB2 := hB.at_ _ rfl
     dsimp only at hgB2
     refine WL.assign rfl rfl (WL.t (WC.region (WL.move rfl rfl (WL.move rfl rfl (WL.qg Tryz.underlying162 Tryz.sizeOf24 hB.rsl rfl rfl ⟨fd, rfl⟩ rfl ?_)))))
     intro b_90 o_90 hc_90
     refine WL.load Tryz.isAgg24 rfl (hc_90 0 _ rfl) rfl (WL.move rfl rfl (WL.num rfl rfl (n_add64 _ _ _ _) rfl (WL.num rfl rfl (n_and64 _ _ _ 4294967295) rfl (WL.qf hB.rsl Tryz.underlying162 Tryz.sizeOf24 rfl rfl ⟨fd, rfl⟩ rfl ?_))))
     refine WL.qx (z := (V.d.toUInt64 + T1r V kt wt) &&& 4294967295) (4) Tryz.sizeOf24 hB rfl rfl rfl (by show 0 + _ * 1 = _; omega) (by omega) rfl ?_
     intro w_91 zs_91 nr_91 k_91
     replace hws := hws.chg k_91 (by intro b h1 h2 h3; have h4 : _ = _ := h3; (try dsimp only at h2); exfalso; omega)
     replace hh := hh.chg k_91 (by intro b h1 h2 h3; have h4 : _ = _ := h3; (try dsimp only at h2); exfalso; omega)
     replace hk := hk.chg k_91 (by intro b h1 h2 h3; have h4 : _ = _ := h3; (try dsimp only at h2); exfalso; omega)
     replace hm := hm.chg k_91 (by intro b h1 h2 h3; have h4 : _ = _ := h3; (try dsimp only at h2); exfalso; omega)
     replace hw := hw.chg k_91 (by intro x h1 h2; have h3 : _ = _ := h2; exfalso; omega)
     replace hB := nr_91
     refine WL.nil (WX.qc (WX.qa (WC.region (WL.move rfl rfl (WL.qe rfl rfl (by omega) rfl (WL.assign rfl rfl (WL.nil (?_))))))))
     have e1 : UL (roundsN WS V0 (r + 1)) = NL.set 4 ((V.d.toUInt64 + T1r V kt wt) &&& 4294967295) := by
      rw [roundsN, ← hV, ← hwt, ← hkt, round_up, hNL]
      rfl
     refine WX.qf (r + 1, some ⟨gB, 0, none⟩, c_hB) ⟨rfl, rfl, rfl, rfl, rfl, ?_, rfl, trivial⟩ ⟨by dsimp only; omega, by omega, hws, ?_, hh, hk, hm, hw⟩ (by show _ - _ < _ - _; omega)
     ·dsimp only; rw [e1, List.length_set]; rfl
     ·dsimp only; rw [e1]; exact hB
    ·refine WL.t (WC.qa rfl (WC.exit (WX.qd (WX.qd (WX.qh (WX.qa (WC.sr (WL.assign rfl rfl (WL.t (WC.block (?_)))))))))))
     have hr64 : r = 64 := by omega
     subst hr64
     obtain ⟨V, hV⟩ : ∃ V, V = roundsN WS V0 64 := ⟨_, rfl⟩
     rw [← hV] at hv ⊢
     refine WC.loop (σ := Nat) (fun i => [(4, .slice (some ⟨gh, 0, none⟩) ((addTo V0 V i).map UInt32.toUInt64).length ch), (5, .slice ak K64.length ck), (7, .slice am M.length cm), (8, vi ((64 * j : Nat) : Int)), (15, .slice av (UL V).length cv), (19, vi i)])
      (fun i w' => i ≤ 8 ∧ n3 ≤ w'.heap.size ∧ RSl (fun x => n3 ≤ x) w' e64 av cv (UL V) ∧ Row (fun b => b = gh) w' 24 e64 (some ⟨gh, 0, none⟩) ch ((addTo V0 V i).map UInt32.toUInt64) ∧ RSl (fun b => b < n2 ∧ b ≠ gh) w' e64 ak ck K64 ∧ RSl (fun b => b < n2 ∧ b ≠ gh) w' eb am cm M ∧ Chg Nob w w') (fun i => 8 - i)
      0 ⟨rfl, rfl, rfl, rfl, rfl, rfl, trivial⟩ ⟨Nat.zero_le _, hn7, hv.rsl, hh, hk, hm, hw⟩ ?_
     clear hws hv hh hk hm hw
     rintro i w8 ⟨hi, hn8, hv, hh, hk, hm, hw⟩
     have hal := addTo_len V0 V i hi
     have hal2 : ((addTo V0 V i).map UInt32.toUInt64).length = 8 := by rw [List.length_map]; exact hal
     refine WC.seq (WC.sr (WL.move rfl rfl (WL.qh rfl rfl rfl (fun h246 => ?_) (fun h246 => ?_))))
     ·refine WL.t (WC.qb rfl (WC.skip (WX.qa (WC.seq (WC.block (?_))))))
      obtain ⟨f1, f2, f3⟩ := addTo_at (s := V0) (v := V) (i := i) (by omega)
      have g1 := map_at UInt32.toUInt64 f1
      have g2 := map_at UInt32.toUInt64 f2
      obtain ⟨gv, ov, rfl⟩ := hv.place g2
      refine WC.qc (fun x => x = gh) [0, 1, 2, 3, 4, 6, 7, 8, 9, 12] [5, 10, 11, 13] mixed rfl rfl (fun wd_1 kd_1 zd_1 => ?_)
      replace hv := hv.pure kd_1
      replace hh := hh.pure kd_1
      replace hk := hk.pure kd_1
      replace hm := hm.pure kd_1
      replace hw := hw.pure kd_1
      apply DQ.step [(4, _)] rfl ⟨rfl, trivial⟩ rfl (fun _ _ => WL.move rfl rfl  WL.q)
      apply DQ.step [(19, _)] rfl ⟨rfl, trivial⟩ rfl (fun _ _ => WL.move rfl rfl  WL.q)
      apply DQ.step [(4, _)] rfl ⟨rfl, trivial⟩ rfl (fun _ _ => WL.move rfl rfl  WL.q)
      apply DQ.step [(19, _)] rfl ⟨rfl, trivial⟩ rfl (fun _ _ => WL.move rfl rfl  WL.q)
      apply DQ.step [(251, _), (252, _)] rfl ⟨rfl, rfl, trivial⟩ rfl
      ·intro wq_7 kq_7
       refine WL.index (sz := 1) Tryz.underlying162 Tryz.sizeOf24 rfl rfl rfl (by rw [List.length_map]; omega) rfl ?_
       exact WL.q
      apply DQ.step [(15, _)] rfl ⟨rfl, trivial⟩ rfl (fun _ _ => WL.move rfl rfl  WL.q)
      apply DQ.step [(19, _)] rfl ⟨rfl, trivial⟩ rfl (fun _ _ => WL.move rfl rfl  WL.q)
      apply DQ.step [(255, _), (256, _)] rfl ⟨rfl, rfl, trivial⟩ rfl
      ·intro wq_10 kq_10
       replace hv := hv.chg kq_10 (by intro b h1 h2 h3; have h4 : _ = _ := h3; (try dsimp only at h2); exfalso; omega)
       refine WL.qf hv Tryz.underlying162 Tryz.sizeOf24 rfl rfl ⟨g2, rfl⟩ rfl (WL.q)
      apply DQ.step [(257, _)] rfl ⟨rfl, trivial⟩ rfl
      ·intro wq_11 kq_11
       replace hv := hv.chg kq_11 (by intro b h1 h2 h3; have h4 : _ = _ := h3; (try dsimp only at h2); exfalso; omega)
       refine WL.load Tryz.isAgg24 rfl ((hv.cellsAt g2) 0 _ rfl) rfl (WL.q)
      apply DQ.step [(249, _), (250, _)] rfl ⟨rfl, rfl, trivial⟩ rfl
      ·intro wq_12 kq_12
       refine WL.index (sz := 1) Tryz.underlying162 Tryz.sizeOf24 rfl rfl rfl (by rw [List.length_map]; omega) rfl ?_
       exact WL.q
      refine DQ.done (fun hd_2 => ?_)
      refine DL.step [(253, _)] rfl ⟨rfl, trivial⟩ rfl (fun wq_13 kq_13 => ?_)
      have zs_kq_13 := kq_13.size
      replace hv := hv.pure kq_13
      replace hh := hh.pure kq_13
      replace hk := hk.pure kq_13
      replace hm := hm.pure kq_13
      replace hw := hw.pure kq_13
      replace hd_2 := hd_2.pure kq_13
      refine WL.load Tryz.isAgg24 rfl ((hh.rsl.cellsAt g1) 0 _ rfl) rfl (WL.nil ?_)
      refine WX.one ⟨hd_2, ?_⟩
      refine DL.step [(254, _), (258, _)] rfl ⟨rfl, rfl, trivial⟩ rfl (fun wq_14 kq_14 => ?_)
      have zs_kq_14 := kq_14.size
      replace hv := hv.pure kq_14
      replace hh := hh.pure kq_14
      replace hk := hk.pure kq_14
      replace hm := hm.pure kq_14
      replace hw := hw.pure kq_14
      replace hd_2 := hd_2.pure kq_14
      refine WL.num rfl rfl (n_add64 _ _ _ _) rfl (WL.nil ?_)
      refine WX.one ⟨hd_2, ?_⟩
      refine DL.step [(259, _)] rfl ⟨rfl, trivial⟩ rfl (fun wq_15 kq_15 => ?_)
      have zs_kq_15 := kq_15.size
      replace hv := hv.pure kq_15
      replace hh := hh.pure kq_15
      replace hk := hk.pure kq_15
      replace hm := hm.pure kq_15
      replace hw := hw.pure kq_15
      replace hd_2 := hd_2.pure kq_15
      refine WL.num rfl rfl (n_and64 _ _ _ 4294967295) rfl ?_
      rw [add_up]
      refine WL.nil (WX.one ⟨hd_2, ?_⟩)
      refine DL.step [(261, _), (260, _)] rfl ⟨rfl, rfl, trivial⟩ rfl (fun wq_16 kq_16 => ?_)
      have zs_kq_16 := kq_16.size
      replace hv := hv.pure kq_16
      replace hh := hh.pure kq_16
      replace hk := hk.pure kq_16
      replace hm := hm.pure kq_16
      replace hw := hw.pure kq_16
      replace hd_2 := hd_2.pure kq_16
      refine WL.qx (z := (V0.list.getD i 0 + V.list.getD i 0).toUInt64) (i) Tryz.sizeOf24 hh rfl rfl rfl (by simp; done) (by omega) rfl ?_
      intro w_17 zs_17 nr_17 k_17
      replace hv := hv.chg k_17 (by intro b h1 h2 h3; have h4 : _ = _ := h3; (try dsimp only at h2); exfalso; omega)
      replace hk := hk.chg k_17 (by intro b h1 h2 h3; have h4 : _ = _ := h3; (try dsimp only at h2); exfalso; omega)
      replace hm := hm.chg k_17 (by intro b h1 h2 h3; have h4 : _ = _ := h3; (try dsimp only at h2); exfalso; omega)
      replace hw := hw.chg k_17 (by intro x h1 h2; have h3 : _ = _ := h2; exfalso; omega)
      replace hd_2 := hd_2.chg k_17 (by intro x h1 h2; exact h2)
      replace hh := nr_17
      rw [← List.map_set, f3] at hh
      refine WL.nil (WX.qk (v := undef) ⟨hd_2, ?_⟩)
      refine DL.done (fun we_18 ke_18 => ?_)
      have zs_ke_18 := ke_18.size
      replace hv := hv.pure ke_18
      replace hh := hh.pure ke_18
      replace hk := hk.pure ke_18
      replace hm := hm.pure ke_18
      replace hw := hw.pure ke_18
      refine WX.qc (WX.qa (WC.region (WL.move rfl rfl (WL.qe rfl rfl (by omega) rfl (WL.assign rfl rfl (WL.nil (?_)))))))
      refine WX.qf (i + 1) ⟨?_, rfl, rfl, rfl, rfl, rfl, trivial⟩ ⟨by omega, by omega, hv, hh, hk, hm, hw⟩ (by show _ - _ < _ - _; omega)
      show some (Value.slice (some ⟨gh, 0, none⟩) (List.map UInt32.toUInt64 (addTo V0 V i)).length ch) = some (Value.slice (some ⟨gh, 0, none⟩) (List.map UInt32.toUInt64 (addTo V0 V (i + 1))).length ch)
      rw [hal2, List.length_map, addTo_len V0 V (i + 1) (by omega)]
     ·refine WL.t (WC.qa rfl (WC.exit (WX.qd (WX.qd (WX.qh (WX.qc (WX.qa (WC.region (WL.move rfl rfl (WL.qe rfl rfl (by omega) rfl (WL.assign rfl rfl (WL.nil (?_)))))))))))))
      have hi8 : i = 8 := by omega
      subst hi8
      obtain ⟨V1, hV1⟩ : ∃ V1, V1 = mix V0 B := ⟨_, rfl⟩
      have e1 : (addTo V0 V 8).map UInt32.toUInt64 = UL V1 := by
       rw [hV1, mix_eq, ← hWS, ← hV]
       rfl
      rw [e1] at hh ⊢
      have e2 : ((64 * (j + 1) : Nat) : Int) = ((64 * j : Nat) : Int) + 64 := by omega
      refine WX.qf (V1, j + 1) ⟨rfl, rfl, rfl, ?_, trivial⟩ ⟨by dsimp only; omega, by omega, ?_, hh, hk, hm, hw⟩ (by show M.length - 64 * (j + 1) < M.length - 64 * j; omega)
      ·dsimp only; rw [e2]; rfl
      ·dsimp only
       rw [← hcomp, comp_more (s := V0) (ms := M.drop (64 * j)) (by rw [List.length_drop]; omega), ← eB, ← hV1, List.drop_drop]
       rfl
  ·refine WL.t (WC.qa rfl (WC.exit (WX.qd (WX.qd (WX.qh (WX.qa (WC.sr (WL.assign rfl rfl (WL.t (WC.seq (WC.sr (WL.assign rfl rfl (WL.t (WC.block (?_)))))))))))))))
   have hV0 : V0 = comp st0 M := by rw [← hcomp, List.drop_of_length_le (by omega), comp_nil]
   refine WC.loop (σ := Nat × Option Addr × Nat) (fun q => [(4, .slice (some ⟨gh, 0, none⟩) (UL V0).length ch), (20, .slice q.2.1 ((V0.list.take q.1).flatMap bytes4).length q.2.2), (21, vi q.1)])
    (fun q w' => q.1 ≤ 8 ∧ n2 ≤ w'.heap.size ∧ Row (fun x => n2 ≤ x) w' 5 eb q.2.1 q.2.2 ((V0.list.take q.1).flatMap bytes4) ∧ RSl (fun b => b = gh) w' e64 (some ⟨gh, 0, none⟩) ch (UL V0) ∧ Chg Nob w w') (fun q => 8 - q.1)
    (0, none, 0) ⟨rfl, rfl, rfl, trivial⟩ ⟨Nat.zero_le _, hn5, Row.nil _ _ _ _, hh.rsl, hw⟩ ?_
   clear hh hk hm hw
   rintro ⟨i, ao, co⟩ w6 ⟨hi, hn6, ho, hh, hw⟩
   dsimp only at hi hn6 ho hh hw ⊢
   have hlen : ((V0.list.take i).flatMap bytes4).length = 4 * i := by
    have h9 : i = 0 ∨ i = 1 ∨ i = 2 ∨ i = 3 ∨ i = 4 ∨ i = 5 ∨ i = 6 ∨ i = 7 ∨ i = 8 := by omega
    rcases h9 with rfl | rfl | rfl | rfl | rfl | rfl | rfl | rfl | rfl <;> rfl
   refine WC.seq (WC.sr (WL.move rfl rfl (WL.qh rfl rfl rfl (fun h263 => ?_) (fun h263 => ?_))))
   ·refine WL.t (WC.qb rfl (WC.skip (WX.qa (WC.seq (WC.block (?_))))))
    have fx0 := getD_at (xs := V0.list) (i := i) (by show i < 8; omega)
    have fx : (UL V0)[i]? = some (V0.list.getD i 0).toUInt64 := map_at _ fx0
    refine WC.qc (fun b => Eqb ao b ∧ (fun x => n2 ≤ x) b) [0, 1, 2, 3, 4, 5, 6, 7, 8, 9, 10, 11, 12, 13, 14, 15, 16, 17, 18, 19, 20, 21, 22, 23] [24, 25, 26] mixed rfl rfl (fun wd_1 kd_1 zd_1 => ?_)
    replace ho := ho.pure kd_1
    replace hh := hh.pure kd_1
    replace hw := hw.pure kd_1
    apply DQ.step [(20, _)] rfl ⟨rfl, trivial⟩ rfl (fun _ _ => WL.move rfl rfl  WL.q)
    apply DQ.step [(4, _)] rfl ⟨rfl, trivial⟩ rfl (fun _ _ => WL.move rfl rfl  WL.q)
    apply DQ.step [(21, _)] rfl ⟨rfl, trivial⟩ rfl (fun _ _ => WL.move rfl rfl  WL.q)
    apply DQ.step [(267, _), (268, _)] rfl ⟨rfl, rfl, trivial⟩ rfl
    ·intro wq_6 kq_6
     replace hh := hh.chg kq_6 (by intros; exfalso; (try dsimp only at *); omega)
     refine WL.qf hh Tryz.underlying162 Tryz.sizeOf24 rfl rfl ⟨fx, rfl⟩ rfl (WL.q)
    apply DQ.step [(269, _)] rfl ⟨rfl, trivial⟩ rfl
    ·intro wq_7 kq_7
     replace hh := hh.chg kq_7 (by intros; exfalso; (try dsimp only at *); omega)
     refine WL.load Tryz.isAgg24 rfl ((hh.cellsAt fx) 0 _ rfl) rfl (WL.q)
    apply DQ.step [(270, _)] rfl ⟨rfl, trivial⟩ rfl (fun _ _ => WL.num rfl rfl (n_shr64 _ _ _ _ 24 (by decide)) rfl  WL.q)
    apply DQ.step [(271, _)] rfl ⟨rfl, trivial⟩ rfl
    ·intro wq_9 kq_9
     refine WL.c_u64_u8 Tryz.underlying24 Tryz.underlying5 rfl rfl ?_
     rw [byte_up _ (by decide)]
     exact WL.q
    apply DQ.step [(4, _)] rfl ⟨rfl, trivial⟩ rfl (fun _ _ => WL.move rfl rfl  WL.q)
    apply DQ.step [(21, _)] rfl ⟨rfl, trivial⟩ rfl (fun _ _ => WL.move rfl rfl  WL.q)
    apply DQ.step [(273, _), (274, _)] rfl ⟨rfl, rfl, trivial⟩ rfl
    ·intro wq_12 kq_12
     replace hh := hh.chg kq_12 (by intros; exfalso; (try dsimp only at *); omega)
     refine WL.qf hh Tryz.underlying162 Tryz.sizeOf24 rfl rfl ⟨fx, rfl⟩ rfl (WL.q)
    apply DQ.step [(275, _)] rfl ⟨rfl, trivial⟩ rfl
    ·intro wq_13 kq_13
     replace hh := hh.chg kq_13 (by intros; exfalso; (try dsimp only at *); omega)
     refine WL.load Tryz.isAgg24 rfl ((hh.cellsAt fx) 0 _ rfl) rfl (WL.q)
    apply DQ.step [(276, _)] rfl ⟨rfl, trivial⟩ rfl (fun _ _ => WL.num rfl rfl (n_shr64 _ _ _ _ 16 (by decide)) rfl  WL.q)
    apply DQ.step [(277, _)] rfl ⟨rfl, trivial⟩ rfl
    ·intro wq_15 kq_15
     refine WL.c_u64_u8 Tryz.underlying24 Tryz.underlying5 rfl rfl ?_
     rw [byte_up _ (by decide)]
     exact WL.q
    apply DQ.step [(4, _)] rfl ⟨rfl, trivial⟩ rfl (fun _ _ => WL.move rfl rfl  WL.q)
    apply DQ.step [(21, _)] rfl ⟨rfl, trivial⟩ rfl (fun _ _ => WL.move rfl rfl  WL.q)
    apply DQ.step [(279, _), (280, _)] rfl ⟨rfl, rfl, trivial⟩ rfl
    ·intro wq_18 kq_18
     replace hh := hh.chg kq_18 (by intros; exfalso; (try dsimp only at *); omega)
     refine WL.qf hh Tryz.underlying162 Tryz.sizeOf24 rfl rfl ⟨fx, rfl⟩ rfl (WL.q)
    apply DQ.step [(281, _)] rfl ⟨rfl, trivial⟩ rfl
    ·intro wq_19 kq_19
     replace hh := hh.chg kq_19 (by intros; exfalso; (try dsimp only at *); omega)
     refine WL.load Tryz.isAgg24 rfl ((hh.cellsAt fx) 0 _ rfl) rfl (WL.q)
    apply DQ.step [(282, _)] rfl ⟨rfl, trivial⟩ rfl (fun _ _ => WL.num rfl rfl (n_shr64 _ _ _ _ 8 (by decide)) rfl  WL.q)
    apply DQ.step [(283, _)] rfl ⟨rfl, trivial⟩ rfl
    ·intro wq_21 kq_21
     refine WL.c_u64_u8 Tryz.underlying24 Tryz.underlying5 rfl rfl ?_
     rw [byte_up _ (by decide)]
     exact WL.q
    apply DQ.step [(4, _)] rfl ⟨rfl, trivial⟩ rfl (fun _ _ => WL.move rfl rfl  WL.q)
    apply DQ.step [(21, _)] rfl ⟨rfl, trivial⟩ rfl (fun _ _ => WL.move rfl rfl  WL.q)
    apply DQ.step [(285, _), (286, _)] rfl ⟨rfl, rfl, trivial⟩ rfl
    ·intro wq_24 kq_24
     replace hh := hh.chg kq_24 (by intros; exfalso; (try dsimp only at *); omega)
     refine WL.qf hh Tryz.underlying162 Tryz.sizeOf24 rfl rfl ⟨fx, rfl⟩ rfl (WL.q)
    apply DQ.step [(287, _)] rfl ⟨rfl, trivial⟩ rfl
    ·intro wq_25 kq_25
     replace hh := hh.chg kq_25 (by intros; exfalso; (try dsimp only at *); omega)
     refine WL.load Tryz.isAgg24 rfl ((hh.cellsAt fx) 0 _ rfl) rfl (WL.q)
    apply DQ.step [(288, _)] rfl ⟨rfl, trivial⟩ rfl
    ·intro wq_26 kq_26
     refine WL.c_u64_u8 Tryz.underlying24 Tryz.underlying5 rfl rfl ?_
     rw [byte_up0]
     exact WL.q
    refine DQ.doneG (S := fun x => n2 ≤ x) (a := ao) (fun hd_2 => ?_)
    refine DL.step [(272, _), (278, _), (284, _), (289, _)] rfl ⟨rfl, rfl, rfl, rfl, trivial⟩ rfl (fun wq_27 kq_27 => ?_)
    have zs_kq_27 := kq_27.size
    replace hd_2 := hd_2.pure kq_27
    replace ho := ho.pure kq_27
    replace hh := hh.pure kq_27
    replace hw := hw.pure kq_27
    refine WL.build (e := eb) (bytes4 (V0.list.getD i 0)) Tryz.underlying51 Tryz.sizeOf5 Tryz.zeroValue5 rfl rfl rfl (by simp [Value.cells] <;> rfl) (by decide) rfl ?_
    intro a_hn w_hn hn l_hn z_hn k_hn
    replace hd_2 := hd_2.pure k_hn
    replace ho := ho.pure k_hn
    replace hh := hh.pure k_hn
    replace hw := hw.pure k_hn
    refine WL.nil (WX.one ⟨hd_2.chg, ?_⟩)
    refine DL.step [(266, _), (290, _)] rfl ⟨rfl, rfl, trivial⟩ rfl (fun wq_28 kq_28 => ?_)
    have zs_kq_28 := kq_28.size
    replace hd_2 := hd_2.pure kq_28
    replace ho := ho.pure kq_28
    replace hh := hh.pure kq_28
    replace hw := hw.pure kq_28
    replace hn := hn.pure kq_28
    refine WL.append (e := eb) info_5 rfl Tryz.underlying51 rfl rfl ho (hn.rsl.src Tryz.underlying51) (by (try simp only [List.length_append, List.length_cons, List.length_nil] at *); omega) (by intro b hb; first | (apply hS; omega) | ((try dsimp only); omega)) rfl ?_
    intro a_ho2 c_ho2 w_ho2 ho2 g_ho2 n_ho2
    have z_ho2 := g_ho2.chg.size
    replace hd_2 := hd_2.trans g_ho2
    replace hh := hh.chg g_ho2.chg (by intros; exfalso; (try dsimp only at *); omega)
    replace hw := hw.chg g_ho2.chg (by intros; exfalso; (try dsimp only at *); omega)
    refine WL.nil (WX.one ⟨hd_2.chg, ?_⟩)
    refine DL.step [(291, _)] rfl ⟨rfl, trivial⟩ rfl (fun wq_29 kq_29 => ?_)
    have zs_kq_29 := kq_29.size
    replace hd_2 := hd_2.pure kq_29
    replace hh := hh.pure kq_29
    replace hw := hw.pure kq_29
    replace ho2 := ho2.pure kq_29
    refine WL.assign rfl rfl (WL.nil ?_)
    refine WX.one ⟨hd_2.chg, ?_⟩
    refine DL.done (fun we_30 ke_30 => ?_)
    have zs_ke_30 := ke_30.size
    replace hh := hh.pure ke_30
    replace hw := hw.pure ke_30
    replace ho2 := ho2.pure ke_30
    refine WX.qc (WX.qa (WC.region (WL.move rfl rfl (WL.qe rfl rfl (by omega) rfl (WL.assign rfl rfl (WL.nil (?_)))))))
    have e1 : (V0.list.take (i + 1)).flatMap bytes4 = (V0.list.take i).flatMap bytes4 ++ bytes4 (V0.list.getD i 0) := by
     rw [List.take_add_one, fx0, List.flatMap_append]
     simp
    refine WX.qf (i + 1, a_ho2, c_ho2) ⟨rfl, ?_, rfl, trivial⟩ ⟨by dsimp only; omega, by omega, ?_, hh, hw⟩ (by show _ - _ < _ - _; omega)
    ·dsimp only; rw [e1]; rfl
    ·dsimp only; rw [e1]; exact ho2
   ·refine WL.t (WC.qa rfl (WC.exit (WX.qd (WX.qd (WX.qh (WX.qa (WC.sr (WL.move rfl rfl (WL.qp Tryz.underlying51 Tryz.underlying5 Tryz.underlying9 ho.rsl rfl rfl (WL.assign rfl rfl (WL.t (WC.ret (WX.qg (.inl rfl) Tryz.results85 rfl ?_)))))))))))))
    have h8 : i = 8 := by omega
    subst h8
    refine ⟨_, rfl, ?_, hw⟩
    rw [sumB, ← eM, ← hV0]
    rfl
end Go.Proofs.YtjeldcjchipdgaaGreatDoor
namespace Go.Proofs.YtjeldcjchipdgaaGreatDoor
open Go.RowKit Go.HL
set_option maxRecDepth 100000
theorem sx_drop (s : ByteArray) (n : Nat) : (s.extract n s.size).data.toList = s.data.toList.drop n := by
 simp
 rw [List.take_of_length_le (by simp)]
theorem sx_take (s : ByteArray) (n : Nat) : s.extract 0 n = ⟨(s.data.toList.take n).toArray⟩ := by
 apply ByteArray.ext
 apply Array.ext'
 simp
theorem sx_append (a b : List UInt8) : (⟨a.toArray⟩ : ByteArray) ++ ⟨b.toArray⟩ = ⟨(a ++ b).toArray⟩ := by
 apply ByteArray.ext
 simp
theorem docOpen_bad (s : ByteArray) (w : World) (hl : s.size < 32) :
 Calls Tryz.prog 119 [.string s].toArray w (Ret fun v w' => v = .tuple #[.string ⟨(openR s.data.toList).1.toArray⟩, vi (openR s.data.toList).2] ∧ Chg Nob w w') := by
 have hw := Chg.refl Nob w
 have hsz : s.data.toList.length = s.size := by simp
 refine Calls.of_WC Tryz.func119 rfl Tryz.ntmps119 (by simp) ?_
 refine WC.sr (WL.assign rfl rfl (WL.assign rfl rfl (WL.t (WC.seq (WC.seq (WC.qc (Nob) [0, 1, 2, 3, 4, 5, 6, 7, 8, 9, 10, 11, 12, 13, 14, 15, 16] [] mixed rfl rfl (fun wd_1 kd_1 zd_1 => ?_)))))))
 replace hw := hw.pure kd_1
 apply DQ.step [(0, _)] rfl ⟨rfl, trivial⟩ rfl (fun _ _ => WL.move rfl rfl  WL.q)
 apply DQ.step [(4, _)] rfl ⟨rfl, trivial⟩ rfl (fun _ _ => WL.qr Tryz.underlying9 rfl rfl  WL.q)
 apply DQ.step [(5, _)] rfl ⟨rfl, trivial⟩ rfl
 ·intro wq_4 kq_4
  refine WL.lss rfl rfl rfl ?_
  rw [show decide ((s.size : Int) < 32) = true from decide_eq_true (by omega)]
  exact WL.q
 apply DQ.step [(6, _)] rfl ⟨rfl, trivial⟩ rfl (fun _ _ => WL.move rfl rfl  WL.q)
 apply DQ.step [(0, _), (7, _)] rfl ⟨rfl, rfl, trivial⟩ rfl
 ·intro wq_6 kq_6
  refine WL.pass rfl rfl rfl rfl (WL.nil (WX.one ⟨rfl, by exact Chg.refl _ _⟩))
 apply DQ.step [(0, _), (7, _)] rfl ⟨rfl, rfl, trivial⟩ rfl
 ·intro wq_7 kq_7
  refine WL.pass rfl rfl rfl rfl (WL.nil (WX.one ⟨rfl, by exact Chg.refl _ _⟩))
 apply DQ.step [(9, _), (7, _)] rfl ⟨rfl, rfl, trivial⟩ rfl
 ·intro wq_8 kq_8
  refine WL.pass rfl rfl rfl rfl (WL.nil (WX.one ⟨rfl, by exact Chg.refl _ _⟩))
 apply DQ.step [(10, _), (7, _)] rfl ⟨rfl, rfl, trivial⟩ rfl
 ·intro wq_9 kq_9
  refine WL.pass rfl rfl rfl rfl (WL.nil (WX.one ⟨rfl, by exact Chg.refl _ _⟩))
 apply DQ.step [(8, _), (11, _), (7, _)] rfl ⟨rfl, rfl, rfl, trivial⟩ rfl
 ·intro wq_10 kq_10
  refine WL.pass rfl rfl rfl rfl (WL.nil (WX.one ⟨rfl, by exact Chg.refl _ _⟩))
 apply DQ.step [(12, _), (7, _)] rfl ⟨rfl, rfl, trivial⟩ rfl
 ·intro wq_11 kq_11
  refine WL.pass rfl rfl rfl rfl (WL.nil (WX.one ⟨rfl, by exact Chg.refl _ _⟩))
 apply DQ.step [(0, _), (7, _)] rfl ⟨rfl, rfl, trivial⟩ rfl
 ·intro wq_12 kq_12
  refine WL.pass rfl rfl rfl rfl (WL.nil (WX.one ⟨rfl, by exact Chg.refl _ _⟩))
 apply DQ.step [(0, _), (7, _)] rfl ⟨rfl, rfl, trivial⟩ rfl
 ·intro wq_13 kq_13
  refine WL.pass rfl rfl rfl rfl (WL.nil (WX.one ⟨rfl, by exact Chg.refl _ _⟩))
 apply DQ.step [(15, _), (7, _)] rfl ⟨rfl, rfl, trivial⟩ rfl
 ·intro wq_14 kq_14
  refine WL.pass rfl rfl rfl rfl (WL.nil (WX.one ⟨rfl, by exact Chg.refl _ _⟩))
 apply DQ.step [(16, _), (7, _)] rfl ⟨rfl, rfl, trivial⟩ rfl
 ·intro wq_15 kq_15
  refine WL.pass rfl rfl rfl rfl (WL.nil (WX.one ⟨rfl, by exact Chg.refl _ _⟩))
 apply DQ.step [(14, _), (17, _), (7, _)] rfl ⟨rfl, rfl, rfl, trivial⟩ rfl
 ·intro wq_16 kq_16
  refine WL.pass rfl rfl rfl rfl (WL.nil (WX.one ⟨rfl, by exact Chg.refl _ _⟩))
 apply DQ.step [(13, _), (18, _), (7, _)] rfl ⟨rfl, rfl, rfl, trivial⟩ rfl
 ·intro wq_17 kq_17
  refine WL.pass rfl rfl rfl rfl (WL.nil (WX.one ⟨rfl, by exact Chg.refl _ _⟩))
 apply DQ.step [(7, _), (19, _)] rfl ⟨rfl, rfl, trivial⟩ rfl (fun _ _ => WL.qd rfl rfl rfl  WL.q)
 refine DQ.done (fun _ => ?_)
 refine DL.done (fun we_19 ke_19 => ?_)
 replace hw := hw.pure ke_19
 refine WX.qa (WC.qb rfl (WC.sr (WL.assign rfl rfl (WL.assign rfl rfl (WL.t (WC.ret (WX.qb (WX.qi (.inl rfl) Tryz.results119 rfl rfl ?_))))))))
 rw [openR, if_neg (by omega)]
 exact ⟨_, rfl, rfl, hw⟩
theorem docOpen_good (s : ByteArray) (w : World) (n : Nat) (hn : s.size = n + 32) (hl : s.size ≤ 4000) :
 Calls Tryz.prog 119 [.string s].toArray w (Ret fun v w' => v = .tuple #[.string ⟨(openR s.data.toList).1.toArray⟩, vi (openR s.data.toList).2] ∧ Chg Nob w w') := by
 have hw := Chg.refl Nob w
 have hsz : s.data.toList.length = s.size := by simp
 obtain ⟨b, eb0⟩ : ∃ b, b = s.data.toList := ⟨_, rfl⟩
 have x1 : s.extract 0 n = ⟨(b.take n).toArray⟩ := by rw [sx_take, ← eb0]
 have x2 : s.extract n s.size = ⟨(b.drop n).toArray⟩ := by
  apply ByteArray.ext
  apply Array.ext'
  rw [sx_drop, ← eb0]
 have e3 : b.length - 32 = n := by rw [eb0]; omega
 have hbl : b.length = n + 32 := by rw [eb0]; omega
 rw [← eb0]
 refine Calls.of_WC Tryz.func119 rfl Tryz.ntmps119 (by simp) ?_
 refine WC.sr (WL.assign rfl rfl (WL.assign rfl rfl (WL.t (WC.seq (WC.seq (WC.qc (Nob) [0, 1, 2, 3, 4, 5, 6, 7, 8, 9, 10, 11, 12, 13, 14, 15, 16] [] mixed rfl rfl (fun wd_1 kd_1 zd_1 => ?_)))))))
 replace hw := hw.pure kd_1
 apply DQ.step [(0, _)] rfl ⟨rfl, trivial⟩ rfl (fun _ _ => WL.move rfl rfl  WL.q)
 apply DQ.step [(4, _)] rfl ⟨rfl, trivial⟩ rfl (fun _ _ => WL.qr Tryz.underlying9 rfl rfl  WL.q)
 apply DQ.step [(5, _)] rfl ⟨rfl, trivial⟩ rfl
 ·intro wq_4 kq_4
  refine WL.lss rfl rfl rfl ?_
  rw [show decide ((s.size : Int) < 32) = false from decide_eq_false (by omega)]
  exact WL.q
 apply DQ.step [(6, _)] rfl ⟨rfl, trivial⟩ rfl (fun _ _ => WL.move rfl rfl  WL.q)
 apply DQ.step [(0, _), (7, _)] rfl ⟨rfl, rfl, trivial⟩ rfl (fun _ _ => WL.qa rfl rfl rfl (WL.move rfl rfl  WL.q))
 apply DQ.step [(0, _), (7, _)] rfl ⟨rfl, rfl, trivial⟩ rfl (fun _ _ => WL.qa rfl rfl rfl (WL.move rfl rfl  WL.q))
 apply DQ.step [(9, _), (7, _)] rfl ⟨rfl, rfl, trivial⟩ rfl (fun _ _ => WL.qa rfl rfl rfl (WL.qr Tryz.underlying9 rfl rfl  WL.q))
 apply DQ.step [(10, _), (7, _)] rfl ⟨rfl, rfl, trivial⟩ rfl
 ·intro wq_9 kq_9
  refine WL.qa rfl rfl rfl (?_)
  refine WL.qj rfl rfl (by constructor <;> omega) rfl ?_
  rw [show ((s.size : Int) - 32) = (n : Int) from by omega]
  exact WL.q
 apply DQ.step [(8, _), (11, _), (7, _)] rfl ⟨rfl, rfl, rfl, trivial⟩ rfl
 ·intro wq_10 kq_10
  refine WL.qa rfl rfl rfl (?_)
  refine WL.qv (l := 0) (h := n) (k := .i64) Tryz.underlying9 rfl (.inr ⟨rfl, rfl⟩) (.inl rfl) (by constructor <;> omega) rfl ?_
  rw [x1]
  exact WL.q
 apply DQ.step [(12, _), (7, _)] rfl ⟨rfl, rfl, trivial⟩ rfl
 ·intro wq_11 kq_11
  refine WL.qa rfl rfl rfl (?_)
  refine WL.call eg_85 rfl rfl (sum64_calls _ _ (by show (b.take n).toArray.size ≤ 4000; rw [List.size_toArray, List.length_take]; omega)) ?_
  rintro v w2 ⟨rfl, k⟩
  rw [show (⟨(b.take n).toArray⟩ : ByteArray).data.toList = b.take n from rfl]
  refine WL.nil (WX.one ⟨rfl, by assumption⟩)
 apply DQ.step [(0, _), (7, _)] rfl ⟨rfl, rfl, trivial⟩ rfl (fun _ _ => WL.qa rfl rfl rfl (WL.move rfl rfl  WL.q))
 apply DQ.step [(0, _), (7, _)] rfl ⟨rfl, rfl, trivial⟩ rfl (fun _ _ => WL.qa rfl rfl rfl (WL.move rfl rfl  WL.q))
 apply DQ.step [(15, _), (7, _)] rfl ⟨rfl, rfl, trivial⟩ rfl (fun _ _ => WL.qa rfl rfl rfl (WL.qr Tryz.underlying9 rfl rfl  WL.q))
 apply DQ.step [(16, _), (7, _)] rfl ⟨rfl, rfl, trivial⟩ rfl
 ·intro wq_15 kq_15
  refine WL.qa rfl rfl rfl (?_)
  refine WL.qj rfl rfl (by constructor <;> omega) rfl ?_
  rw [show ((s.size : Int) - 32) = (n : Int) from by omega]
  exact WL.q
 apply DQ.step [(14, _), (17, _), (7, _)] rfl ⟨rfl, rfl, rfl, trivial⟩ rfl
 ·intro wq_16 kq_16
  refine WL.qa rfl rfl rfl (?_)
  refine WL.qv (l := n) (h := s.size) (j := .i64) Tryz.underlying9 rfl (.inl rfl) (.inr ⟨rfl, rfl⟩) (by constructor <;> omega) rfl ?_
  rw [x2]
  exact WL.q
 apply DQ.split (E' := [(13, _), (18, _), (7, _)])
 case ho => rfl
 case hs => exact ⟨rfl, rfl, rfl, trivial⟩
 case hk => rfl
 case h1 =>
  intro wq_17 kq_17
  refine WL.qa rfl rfl rfl (WL.sneq rfl rfl rfl ?_)
  exact WL.q
 case ht =>
  intro h19
  replace h19 := of_decide_eq_true h19
  apply DQ.step [(7, _), (19, _)] rfl ⟨rfl, rfl, trivial⟩ rfl (fun _ _ => WL.qc rfl rfl rfl  WL.q)
  refine DQ.done (fun _ => ?_)
  refine DL.done (fun we_19 ke_19 => ?_)
  replace hw := hw.pure ke_19
  refine WX.qa (WC.qb rfl (WC.sr (WL.assign rfl rfl (WL.assign rfl rfl (WL.t (WC.ret (WX.qb (WX.qi (.inl rfl) Tryz.results119 rfl rfl ?_))))))))
  simp only [openR, e3]
  first
   |(have h2 : sumB (b.take n) = b.drop n := by
      have h3 := congrArg (fun s : ByteArray => s.data.toList) (Classical.not_not.1 h19)
      exact h3
     rw [if_pos ⟨by omega, h2⟩]
     exact ⟨_, rfl, rfl, hw⟩)
   |(have h2 : ¬ sumB (b.take n) = b.drop n := fun h => h19 (by rw [h])
     rw [if_neg (fun h => h2 h.2)]
     exact ⟨_, rfl, rfl, hw⟩)
 case hf =>
  intro h19
  replace h19 := of_decide_eq_false h19
  apply DQ.step [(7, _), (19, _)] rfl ⟨rfl, rfl, trivial⟩ rfl (fun _ _ => WL.qc rfl rfl rfl  WL.q)
  refine DQ.done (fun _ => ?_)
  refine DL.done (fun we_19 ke_19 => ?_)
  replace hw := hw.pure ke_19
  refine WX.qa (WC.qa rfl (WC.skip (WX.qa (WC.sr (WL.move rfl rfl (WL.move rfl rfl (WL.qr Tryz.underlying9 rfl rfl (?_))))))))
  refine WL.qj rfl rfl (by constructor <;> omega) rfl ?_
  rw [show ((s.size : Int) - 32) = (n : Int) from by omega]
  refine WL.qv (l := 0) (h := n) (k := .i64) Tryz.underlying9 rfl (.inr ⟨rfl, rfl⟩) (.inl rfl) (by constructor <;> omega) rfl ?_
  rw [x1]
  refine WL.assign rfl rfl (WL.assign rfl rfl (WL.t (WC.ret (WX.qi (.inl rfl) Tryz.results119 rfl rfl ?_))))
  simp only [openR, e3]
  first
   |(have h2 : sumB (b.take n) = b.drop n := by
      have h3 := congrArg (fun s : ByteArray => s.data.toList) (Classical.not_not.1 h19)
      exact h3
     rw [if_pos ⟨by omega, h2⟩]
     exact ⟨_, rfl, rfl, hw⟩)
   |(have h2 : ¬ sumB (b.take n) = b.drop n := fun h => h19 (by rw [h])
     rw [if_neg (fun h => h2 h.2)]
     exact ⟨_, rfl, rfl, hw⟩)
theorem docOpen_calls (s : ByteArray) (w : World) (hl : s.size ≤ 4000) :
 Calls Tryz.prog 119 [.string s].toArray w (Ret fun v w' => v = .tuple #[.string ⟨(openR s.data.toList).1.toArray⟩, vi (openR s.data.toList).2] ∧ Chg Nob w w') := by
 rcases Nat.lt_or_ge s.size 32 with h | h
 ·exact docOpen_bad s w h
 ·exact docOpen_good s w (s.size - 32) (by omega) hl
end Go.Proofs.YtjeldcjchipdgaaGreatDoor
namespace Go.Proofs.YtjeldcjchipdgaaGreatDoor
open Go.RowKit Go.HL
set_option maxRecDepth 100000
def sec (c : List UInt8) : List UInt8 := B8 ((c.length : Int) + 32) :: (c ++ sumB c) ++ List.replicate (95 - c.length) 0
def secE (l : List Item) : Int := if checkE l = 0 then (if 95 < (encAll l).length then 14 else 0) else checkE l
def secB (l : List Item) : List UInt8 := if secE l = 0 then sec (encAll l) else []
theorem sec_len {c : List UInt8} (h : c.length ≤ 95) : (sec c).length = 128 := by
 simp [sec, sumB_len]
 omega
theorem sec_made {B Z Y : List UInt8} (eZ : Z = List.replicate 128 (0 : UInt8)) (eY : Y = Z.set 0 (B8 ((B ++ sumB B).length : Int))) (hl : (B ++ sumB B).length = B.length + 32) (hb : B.length ≤ 95) : Y.take 1 ++ (B ++ sumB B) ++ Y.drop (1 + (B ++ sumB B).length) = sec B := by
 have e1 : List.replicate 128 (0 : UInt8) = 0 :: List.replicate 127 0 := rfl
 rw [eY, eZ, e1, List.set_cons_zero, hl, show 1 + (B.length + 32) = (B.length + 32) + 1 from by omega, List.drop_succ_cons, List.drop_replicate, sec]
 rw [show (((B.length + 32 : Nat)) : Int) = (B.length : Int) + 32 from by omega, show 127 - (B.length + 32) = 95 - B.length from by omega]
 rfl
theorem sector_calls {w : World} {ao : Option Addr} {c : Nat} {l : List Item} (hr : RSl (· < w.heap.size) w eit ao c l) (hl : l.length ≤ 9223372036854775807) :
 Calls Tryz.prog 78 [.slice ao l.length c].toArray w (Ret fun v w' => (∃ (ao' : Option Addr) (c' : Nat), v = .tuple #[.slice ao' (secB l).length c', vi (secE l)] ∧ Row (w.heap.size ≤ ·) w' 5 eb ao' c' (secB l)) ∧ Chg Nob w w') := by
 have kk := Chg.refl Nob w
 refine Calls.of_WC Tryz.func78 rfl Tryz.ntmps78 (by simp) ?_
 refine WC.sr (WL.assign rfl rfl (WL.assign rfl rfl (WL.t (WC.sr (WL.move rfl rfl (WL.call eg_94 rfl rfl (encode_calls hr hl) ?_))))))
 rintro v w1 ⟨a1, c1, rfl, hq, k1⟩
 obtain ⟨B, eB⟩ : ∃ B, B = (if checkE l = 0 then encAll l else []) := ⟨_, rfl⟩
 rw [← eB] at hq ⊢
 have hBl : B.length ≤ 140737488351232 := by
  rw [eB]
  split
  ·rename_i h0
   obtain ⟨h1, h2⟩ := checkE_ok h0
   have := encAll_len h2
   omega
  ·simp
 have zs_k1 := k1.size
 replace hr := hr.pure k1
 replace kk := kk.pure k1
 replace hq := hq.lt
 refine WL.move rfl rfl (WL.extract rfl rfl rfl (WL.extract rfl rfl rfl (WL.assign rfl rfl (WL.assign rfl rfl (WL.t (WC.seq (WC.sr (WL.move rfl rfl (WL.qo rfl rfl rfl (fun h13 => ?_) (fun h13 => ?_))))))))))
 ·refine WL.t (WC.qb rfl (WC.sr (WL.move rfl rfl (WL.assign rfl rfl (WL.assign rfl rfl (WL.t (WC.ret (WX.qb (WX.qi (.inl rfl) Tryz.results78 rfl rfl ?_)))))))))
  have h1 : secE l = checkE l := by rw [secE, if_neg h13]
  refine ⟨_, rfl, ⟨none, 0, ?_, ?_⟩, kk⟩
  ·rw [secB, h1, if_neg h13]
   rfl
  ·rw [secB, h1, if_neg h13]
   exact Row.nil _ _ _ _
 ·refine WL.t (WC.qa rfl (WC.skip (WX.qa (WC.seq (WC.sr (WL.move rfl rfl (WL.len Tryz.underlying51 rfl rfl (WL.qe rfl rfl (by omega) rfl (WL.qe rfl rfl (by omega) rfl (?_))))))))))
  refine WL.qn rfl rfl rfl (fun h19 => ?_) (fun h19 => ?_)
  ·refine WL.t (WC.qb rfl (WC.sr (WL.assign rfl rfl (WL.assign rfl rfl (WL.nil (WX.qa (WC.ret (WX.qb (WX.qi (.inl rfl) Tryz.results78 rfl rfl ?_)))))))))
   have hB : B = encAll l := by rw [eB, if_pos h13]
   have hB2 : 95 < (encAll l).length := by rw [← hB]; omega
   have h1 : secE l = 14 := by rw [secE, if_pos h13, if_pos hB2]
   refine ⟨_, rfl, ⟨none, 0, ?_, ?_⟩, kk⟩
   ·rw [secB, h1, if_neg (by decide)]
    rfl
   ·rw [secB, h1, if_neg (by decide)]
    exact Row.nil _ _ _ _
  ·refine WL.t (WC.qa rfl (WC.skip (WX.qa (WC.sr (WL.move rfl rfl (?_))))))
   have hq1 := hq.rsl
   refine WL.call eg_95 rfl rfl (seal_calls hq1 (by omega)) ?_
   rintro v w2 ⟨⟨a2, c2, rfl, hs⟩, k2⟩
   have zs_k2 := k2.size
   replace hr := hr.pure k2
   replace kk := kk.pure k2
   replace hq := hq.pure k2
   replace hs := hs.lt
   refine WL.assign rfl rfl (WL.t (WC.sr (?_)))
   obtain ⟨Z, eZ⟩ : ∃ Z, Z = List.replicate 128 (0 : UInt8) := ⟨_, rfl⟩
   have hZl : Z.length = 128 := by rw [eZ, List.length_replicate]
   refine WL.make (e := eb) (0 : UInt8) 128 128 Tryz.underlying51 info_5 rfl rfl rfl ⟨rfl, rfl, Nat.le_refl _⟩ (by constructor <;> omega) rfl ?_
   intro g5 w5 hO k5 z5 e5
   rw [← eZ] at hO ⊢
   rw [hZl]
   replace hr := hr.pure k5
   replace kk := kk.pure k5
   replace hq := hq.pure k5
   replace hs := hs.pure k5
   refine WL.assign rfl rfl (WL.t (WC.sr (WL.move rfl rfl (WL.move rfl rfl (WL.len Tryz.underlying51 rfl rfl (WL.c_i64_u8 Tryz.underlying3 Tryz.underlying5 rfl rfl (WL.index (j := 0) Tryz.underlying51 Tryz.sizeOf5 rfl rfl (by decide) (by omega) rfl ?_)))))))
   refine WL.qx (z := B8 ((B ++ sumB B).length : Int)) (0) Tryz.sizeOf5 hO rfl rfl rfl (by simp; done) (by omega) rfl ?_
   intro w_1 zs_1 nr_1 k_1
   replace hr := hr.chg k_1 (by intro b h1 h2 h3; have h4 : _ = _ := h3; (try dsimp only at h2); exfalso; omega)
   replace kk := kk.chg k_1 (by intro x h1 h2; have h3 : _ = _ := h2; exfalso; omega)
   replace hq := hq.chg k_1 (by intro b h1 h2 h3; have h4 : _ = _ := h3; (try dsimp only at h2); exfalso; omega)
   replace hs := hs.chg k_1 (by intro b h1 h2 h3; have h4 : _ = _ := h3; (try dsimp only at h2); exfalso; omega)
   replace hO := nr_1
   refine WL.t (WC.sr (WL.move rfl rfl (?_)))
   obtain ⟨Y, eY⟩ : ∃ Y, Y = Z.set 0 (B8 ((B ++ sumB B).length : Int)) := ⟨_, rfl⟩
   rw [← eY] at hO
   have hYl : Y.length = 128 := by rw [eY, List.length_set, hZl]
   refine WL.sliceC (l := 1) (h := 128) (k := .i64) (j := .i64) Tryz.underlying51 Tryz.sizeOf5 hO.rsl (by rw [hYl]; rfl) (.inl rfl) (.inr ⟨rfl, hYl.symm⟩) ⟨by omega, by omega⟩ rfl ?_
   rw [show ((Y.take 128).drop 1).length = Y.length - 1 from by rw [List.length_drop, List.length_take]; omega]
   refine WL.move rfl rfl (?_)
   have hsl := sumB_len B
   have hbl2 : (B ++ sumB B).length = B.length + 32 := by rw [List.length_append, hsl]
   refine WL.copyRow (e := eb) (i := 1) Tryz.underlying51 (by kernel_rfl) rfl hO hs.rsl (by omega) (by omega) rfl rfl rfl ?_
   intro w7 z7 hO7 k7
   have zs_k7 := k7.size
   replace hr := hr.chg k7 (by intro b h1 h2 h3; have h4 : _ = _ := h3; (try dsimp only at h2); exfalso; omega)
   replace kk := kk.chg k7 (by intro x h1 h2; have h3 : _ = _ := h2; exfalso; omega)
   replace hq := hq.chg k7 (by intro b h1 h2 h3; have h4 : _ = _ := h3; (try dsimp only at h2); exfalso; omega)
   replace hs := hs.chg k7 (by intro b h1 h2 h3; have h4 : _ = _ := h3; (try dsimp only at h2); exfalso; omega)
   refine WL.t (WC.sr (WL.move rfl rfl (WL.assign rfl rfl (WL.assign rfl rfl (WL.nil (WX.qa (WC.ret (WX.qi (.inl rfl) Tryz.results78 rfl rfl ?_))))))))
   have hB : B = encAll l := by rw [eB, if_pos h13]
   have hB2 : ¬ 95 < (encAll l).length := by rw [← hB]; omega
   have h1 : secE l = 0 := by rw [secE, if_pos h13, if_neg hB2]
   have h2 : Y.take 1 ++ (B ++ sumB B) ++ Y.drop (1 + (B ++ sumB B).length) = secB l := by
    rw [secB, h1, if_pos rfl, ← hB]
    exact sec_made eZ eY hbl2 (by omega)
   rw [h2] at hO7
   refine ⟨_, rfl, ⟨some ⟨g5, 0, none⟩, 128, ?_, hO7.mono (fun x hx => by omega)⟩, kk⟩
   rw [h1, secB, h1, if_pos rfl, sec_len (by omega)]
def unS (b : List UInt8) : Option (List Item) :=
 if b.length = 128 ∧ (b.getD 0 0).toNat < 128 ∧ (∀ x ∈ b.drop (1 + (b.getD 0 0).toNat), x = 0) ∧ (openR ((b.take (1 + (b.getD 0 0).toNat)).drop 1)).2 = 0 then dec 0 (openR ((b.take (1 + (b.getD 0 0).toNat)).drop 1)).1 else none
def unL (b : List UInt8) : List Item := (unS b).getD []
def unE (b : List UInt8) : Int := if (unS b).isSome then 0 else 2
theorem openR_len (b : List UInt8) : (openR b).1.length ≤ b.length := by
 unfold openR
 split
 ·simp
 ·simp
theorem openR_err (b : List UInt8) : (openR b).2 = 0 ∨ (openR b).2 = 2 := by
 unfold openR
 split
 ·exact .inl rfl
 ·exact .inr rfl
theorem un_none {b : List UInt8} (h : unS b = none) : unL b = [] ∧ unE b = 2 := by
 rw [unL, unE, h]
 exact ⟨rfl, rfl⟩
theorem un_no {b s r : List UInt8} {n : Nat} (hn : n = (b.getD 0 0).toNat) (hs : s = (b.take (1 + n)).drop 1) (hrs : r = b.drop (1 + n)) (h : ¬ (b.length = 128 ∧ n < 128 ∧ (∀ x ∈ r, x = 0) ∧ (openR s).2 = 0)) : unL b = [] ∧ unE b = 2 := by
 subst hn; subst hs; subst hrs
 exact un_none (by rw [unS, if_neg h])
theorem un_yes {b s r : List UInt8} {n : Nat} (hn : n = (b.getD 0 0).toNat) (hs : s = (b.take (1 + n)).drop 1) (hrs : r = b.drop (1 + n)) (h : b.length = 128 ∧ n < 128 ∧ (∀ x ∈ r, x = 0) ∧ (openR s).2 = 0) : unL b = decL (openR s).1 ∧ unE b = decE (openR s).1 := by
 subst hn; subst hs; subst hrs
 rw [unL, unE, unS, if_pos h]
 exact ⟨rfl, rfl⟩
theorem unsector_calls {w : World} {ao : Option Addr} {c : Nat} {b : List UInt8} (hr : RSl (· < w.heap.size) w eb ao c b) (hl : b.length ≤ 140737488351232) :
 Calls Tryz.prog 104 [.slice ao b.length c].toArray w (Ret fun v w' => (∃ (ao' : Option Addr) (c' : Nat), v = .tuple #[.slice ao' (unL b).length c', vi (unE b)] ∧ Row (w.heap.size ≤ ·) w' 116 eit ao' c' (unL b)) ∧ Chg Nob w w') := by
 have kk := Chg.refl Nob w
 obtain ⟨n, hn⟩ : ∃ n, n = (b.getD 0 0).toNat := ⟨_, rfl⟩
 obtain ⟨s, hs⟩ : ∃ s, s = (b.take (1 + n)).drop 1 := ⟨_, rfl⟩
 obtain ⟨r, hrs⟩ : ∃ r, r = b.drop (1 + n) := ⟨_, rfl⟩
 refine Calls.of_WC Tryz.func104 rfl Tryz.ntmps104 (by simp) ?_
 refine WC.sr (WL.assign rfl rfl (WL.assign rfl rfl (WL.t (WC.seq (WC.seq (WC.region (WL.move rfl rfl (WL.len Tryz.underlying51 rfl rfl (WL.qo rfl rfl rfl (fun h10 => ?_) (fun h10 => ?_))))))))))
 ·refine WL.move rfl rfl (WL.pass rfl rfl rfl rfl (WL.pass rfl rfl rfl rfl (WL.pass rfl rfl rfl rfl (WL.pass rfl rfl rfl rfl (WL.pass rfl rfl rfl rfl (WL.qd rfl rfl rfl (WL.nil (WX.qa (WC.qb rfl (WC.sr (WL.assign rfl rfl (WL.assign rfl rfl (WL.t (WC.ret (WX.qb (WX.qi (.inl rfl) Tryz.results104 rfl rfl ?_))))))))))))))))
  by_cases hc : b.length = 128 ∧ n < 128 ∧ (∀ x ∈ r, x = 0) ∧ (openR s).2 = 0
  ·have hy := un_yes hn hs hrs hc
   obtain ⟨g1, g2, g3, g4⟩ := hc
   rw [hy.1, hy.2]
   exfalso; omega
  ·have hy := un_no hn hs hrs hc
   rw [hy.1, hy.2]
   exact ⟨_, rfl, ⟨none, 0, rfl, Row.nil _ _ _ _⟩, kk⟩
 ·refine WL.move rfl rfl (WL.qa rfl rfl rfl (WL.move rfl rfl (WL.qa rfl rfl rfl (?_))))
  obtain ⟨x, hx⟩ : ∃ x, b[0]? = some x := ⟨_, List.getElem?_eq_getElem (by omega)⟩
  have hxn : x.toNat = n := by rw [hn, List.getD_eq_getElem?_getD, hx]; rfl
  refine WL.qg Tryz.underlying51 Tryz.sizeOf5 hr rfl rfl ⟨hx, rfl⟩ rfl ?_
  intro b_1 o_1 hc_1
  refine WL.qa rfl rfl rfl (WL.load Tryz.isAgg5 rfl (hc_1 0 _ rfl) rfl (WL.qa rfl rfl rfl (WL.c_u8_i64 Tryz.underlying5 Tryz.underlying3 rfl rfl (WL.qa rfl rfl rfl (WL.za rfl rfl rfl (fun h16 => ?_) (fun h16 => ?_))))))
  ·refine WL.qc rfl rfl rfl (WL.t (WC.qb rfl (WC.sr (WL.assign rfl rfl (WL.assign rfl rfl (WL.t (WC.ret (WX.qb (WX.qi (.inl rfl) Tryz.results104 rfl rfl ?_)))))))))
   by_cases hc : b.length = 128 ∧ n < 128 ∧ (∀ x ∈ r, x = 0) ∧ (openR s).2 = 0
   ·have hy := un_yes hn hs hrs hc
    obtain ⟨g1, g2, g3, g4⟩ := hc
    rw [hy.1, hy.2]
    exfalso; omega
   ·have hy := un_no hn hs hrs hc
    rw [hy.1, hy.2]
    exact ⟨_, rfl, ⟨none, 0, rfl, Row.nil _ _ _ _⟩, kk⟩
  ·refine WL.qc rfl rfl rfl (WL.t (WC.qa rfl (WC.skip (WX.qa (WC.seq (?_))))))
   have hb1 := hr.cut 1 (1 + n) ⟨by omega, by omega⟩
   have hb2 := hr.cut (1 + n) b.length ⟨by omega, by omega⟩
   obtain ⟨b0, o0, rfl⟩ := hr.place hx
   refine WC.qc (Nob) [0, 1, 2, 3, 4, 5, 6, 7, 8, 9, 10, 11, 12, 13, 14, 15] [] mixed rfl rfl (fun wd_2 kd_2 zd_2 => ?_)
   replace hr := hr.pure kd_2
   replace kk := kk.pure kd_2
   replace hb1 := hb1.pure kd_2
   replace hb2 := hb2.pure kd_2
   apply DQ.step [(0, _)] rfl ⟨rfl, trivial⟩ rfl (fun _ _ => WL.move rfl rfl  WL.q)
   apply DQ.step [(0, _)] rfl ⟨rfl, trivial⟩ rfl (fun _ _ => WL.move rfl rfl  WL.q)
   apply DQ.step [(19, _)] rfl ⟨rfl, trivial⟩ rfl
   ·intro wq_5 kq_5
    replace hr := hr.pure kq_5
    refine WL.qf hr Tryz.underlying51 Tryz.sizeOf5 rfl rfl ⟨hx, rfl⟩ rfl (WL.q)
   apply DQ.step [(20, _)] rfl ⟨rfl, trivial⟩ rfl
   ·intro wq_6 kq_6
    replace hr := hr.pure kq_6
    refine WL.load Tryz.isAgg5 rfl ((hr.cellsAt hx) 0 _ rfl) rfl (WL.q)
   apply DQ.step [(21, _)] rfl ⟨rfl, trivial⟩ rfl (fun _ _ => WL.c_u8_i64 Tryz.underlying5 Tryz.underlying3 rfl rfl  WL.q)
   apply DQ.step [(22, _)] rfl ⟨rfl, trivial⟩ rfl
   ·intro wq_8 kq_8
    refine WL.qe rfl rfl (by constructor <;> omega) rfl ?_
    rw [show ((1 : Int) + x.toNat) = ((1 + n : Nat) : Int) from by omega]
    exact WL.q
   apply DQ.step [(18, _), (23, _)] rfl ⟨rfl, rfl, trivial⟩ rfl
   ·intro wq_9 kq_9
    replace hr := hr.pure kq_9
    refine WL.sliceC (l := 1) (h := 1 + n) Tryz.underlying51 Tryz.sizeOf5 hr rfl (.inl rfl) (.inl rfl) (by constructor <;> omega) rfl ?_
    exact WL.q
   apply DQ.step [(0, _)] rfl ⟨rfl, trivial⟩ rfl (fun _ _ => WL.move rfl rfl  WL.q)
   apply DQ.step [(0, _)] rfl ⟨rfl, trivial⟩ rfl (fun _ _ => WL.move rfl rfl  WL.q)
   apply DQ.step [(26, _)] rfl ⟨rfl, trivial⟩ rfl
   ·intro wq_12 kq_12
    replace hr := hr.pure kq_12
    refine WL.qf hr Tryz.underlying51 Tryz.sizeOf5 rfl rfl ⟨hx, rfl⟩ rfl (WL.q)
   apply DQ.step [(27, _)] rfl ⟨rfl, trivial⟩ rfl
   ·intro wq_13 kq_13
    replace hr := hr.pure kq_13
    refine WL.load Tryz.isAgg5 rfl ((hr.cellsAt hx) 0 _ rfl) rfl (WL.q)
   apply DQ.step [(28, _)] rfl ⟨rfl, trivial⟩ rfl (fun _ _ => WL.c_u8_i64 Tryz.underlying5 Tryz.underlying3 rfl rfl  WL.q)
   apply DQ.step [(29, _)] rfl ⟨rfl, trivial⟩ rfl
   ·intro wq_15 kq_15
    refine WL.qe rfl rfl (by constructor <;> omega) rfl ?_
    rw [show ((1 : Int) + x.toNat) = ((1 + n : Nat) : Int) from by omega]
    exact WL.q
   apply DQ.step [(25, _), (30, _)] rfl ⟨rfl, rfl, trivial⟩ rfl
   ·intro wq_16 kq_16
    replace hr := hr.pure kq_16
    refine WL.sliceC (l := 1 + n) (h := b.length) (j := .i64) Tryz.underlying51 Tryz.sizeOf5 hr rfl (.inl rfl) (.inr ⟨rfl, rfl⟩) (by constructor <;> omega) rfl ?_
    exact WL.q
   apply DQ.step [(24, _)] rfl ⟨rfl, trivial⟩ rfl (fun _ _ => WL.assign rfl rfl  WL.q)
   apply DQ.step [(31, _)] rfl ⟨rfl, trivial⟩ rfl (fun _ _ => WL.assign rfl rfl  WL.q)
   refine DQ.done (fun _ => ?_)
   refine DL.done (fun we_19 ke_19 => ?_)
   have zs_ke_19 := ke_19.size
   replace kk := kk.pure ke_19
   replace hb1 := hb1.pure ke_19
   replace hb2 := hb2.pure ke_19
   refine WX.qa (WC.seq (WC.sr (WL.move rfl rfl (?_))))
   have e2 : (b.take b.length).drop (1 + n) = r := by rw [List.take_length, hrs]
   rw [e2] at hb2 ⊢
   rw [← hs] at hb1 ⊢
   have hb2' := hb2.old
   refine WL.call eg_116 rfl rfl (trim_calls hb2' (by rw [hrs, List.length_drop]; omega)) ?_
   rintro v w1 ⟨⟨m, a1, c1, rfl, hm⟩, k1⟩
   have zs_k1 := k1.size
   replace kk := kk.pure k1
   replace hb1 := hb1.pure k1
   refine WL.len Tryz.underlying51 rfl rfl (WL.qn rfl rfl rfl (fun h35 => ?_) (fun h35 => ?_))
   ·refine WL.t (WC.qb rfl (WC.sr (WL.assign rfl rfl (WL.assign rfl rfl (WL.nil (WX.qa (WC.ret (WX.qb (WX.qi (.inl rfl) Tryz.results104 rfl rfl ?_)))))))))
    by_cases hc : b.length = 128 ∧ n < 128 ∧ (∀ x ∈ r, x = 0) ∧ (openR s).2 = 0
    ·have hy := un_yes hn hs hrs hc
     obtain ⟨g1, g2, g3, g4⟩ := hc
     rw [hy.1, hy.2]
     exfalso; have g5 := hm.2 g3; omega
    ·have hy := un_no hn hs hrs hc
     rw [hy.1, hy.2]
     exact ⟨_, rfl, ⟨none, 0, rfl, Row.nil _ _ _ _⟩, kk⟩
   ·refine WL.t (WC.qa rfl (WC.skip (WX.qa (WC.sr (WL.move rfl rfl (?_))))))
    have hb1' := hb1.old
    refine WL.call eg_117 rfl rfl (open_calls hb1' (by rw [hs, List.length_drop, List.length_take]; omega)) ?_
    rintro v w2 ⟨⟨a2, c2, rfl, ho⟩, k2⟩
    have zs_k2 := k2.size
    replace kk := kk.pure k2
    replace ho := ho.lt
    refine WL.move rfl rfl (WL.extract rfl rfl rfl (WL.extract rfl rfl rfl (WL.assign rfl rfl (WL.assign rfl rfl (WL.t (WC.seq (WC.sr (WL.move rfl rfl (WL.qo rfl rfl rfl (fun h42 => ?_) (fun h42 => ?_))))))))))
    ·refine WL.t (WC.qb rfl (WC.sr (WL.move rfl rfl (WL.assign rfl rfl (WL.assign rfl rfl (WL.t (WC.ret (WX.qb (WX.qi (.inl rfl) Tryz.results104 rfl rfl ?_)))))))))
     by_cases hc : b.length = 128 ∧ n < 128 ∧ (∀ x ∈ r, x = 0) ∧ (openR s).2 = 0
     ·have hy := un_yes hn hs hrs hc
      obtain ⟨g1, g2, g3, g4⟩ := hc
      rw [hy.1, hy.2]
      exfalso; have g5 := hm.2 g3; omega
     ·have hy := un_no hn hs hrs hc
      have ho2 := openR_err s
      rw [hy.1, hy.2]
      have h9 : (openR s).2 = 2 := ho2.resolve_left (by assumption)
      refine ⟨_, rfl, ⟨none, 0, ?_, Row.nil _ _ _ _⟩, kk⟩
      rw [← h9]
      rfl
    ·refine WL.t (WC.qa rfl (WC.skip (WX.qa (WC.sr (WL.move rfl rfl (?_))))))
     have ho' := ho.rsl.old
     refine WL.call eg_118 rfl rfl (decode_calls' ho' (by have := openR_len s; rw [hs, List.length_drop, List.length_take] at this; rw [← hs] at this; omega)) ?_
     rintro v w3 ⟨⟨a3, c3, rfl, hq⟩, k3⟩
     replace kk := kk.pure k3
     replace hq := hq.lt
     refine WL.extract rfl rfl rfl (WL.extract rfl rfl rfl (WL.assign rfl rfl (WL.assign rfl rfl (WL.t (WC.ret (WX.qi (.inl rfl) Tryz.results104 rfl rfl ?_))))))
     by_cases hc : b.length = 128 ∧ n < 128 ∧ (∀ x ∈ r, x = 0) ∧ (openR s).2 = 0
     ·have hy := un_yes hn hs hrs hc
      obtain ⟨g1, g2, g3, g4⟩ := hc
      rw [hy.1, hy.2]
      exact ⟨_, rfl, ⟨a3, c3, rfl, hq.mono (fun x hx => by omega)⟩, kk⟩
     ·have hy := un_no hn hs hrs hc
      have ho2 := openR_err s
      rw [hy.1, hy.2]
      exfalso; exact hc ⟨by omega, by omega, hm.1 (by omega), by assumption⟩
end Go.Proofs.YtjeldcjchipdgaaGreatDoor
namespace Go.Proofs.YtjeldcjchipdgaaGreatDoor
open Go.RowKit Go.HL
set_option maxRecDepth 100000
theorem icheck_good {l : List Item} (hl : l.length ≤ 2000) (hg : ∀ i ∈ l, Good i) : checkE l = 0 := by
 unfold checkE
 have h1 : ¬ (2000 < l.length ∨ l.any longI = true) := by
  rintro (h | h)
  ·omega
  ·obtain ⟨i, hi, h2⟩ := List.any_eq_true.1 h
   rw [(hg i hi).1] at h2
   cases h2
 rw [if_neg h1, if_pos (List.all_eq_true.2 fun i hi => (hg i hi).2.1)]
end Go.Proofs.YtjeldcjchipdgaaGreatDoor
