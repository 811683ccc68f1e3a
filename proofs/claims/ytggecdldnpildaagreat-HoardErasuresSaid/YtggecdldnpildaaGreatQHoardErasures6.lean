import Derived.Test.YtggecdldnpildaaGreatQHoardErasures5
namespace Go.Proofs.YtggecdldnpildaaGreat
open Go.RowKit Go.HL
set_option maxRecDepth 100000

/-! what a rack holds -/
abbrev Pl := Int × Int
def kpl (p : Pl) : Value := .agg #[vi p.1, vi p.2]
def vsl (r : Rw) : Value := .slice r.ao r.xs.length r.cap
def ewr : Enc (Pl × Rw) := ⟨3, fun x => [vi x.1.1, vi x.1.2, .slice x.2.ao x.2.xs.length x.2.cap], fun _ => rfl, by simp [Value.oneCell'], by decide⟩
theorem eqg_pl : Tryz.prog.eqGuardType Tryz.prog.depth 103 = false := by kernel_rfl
theorem eq_pl (a b c d : Int) (w : World) : (Op.equalIn 10000 103 (.agg #[vi a, vi b]) (.agg #[vi c, vi d])).run Tryz.prog w = .ok (decide (a = c ∧ b = d)) w := by
  refine eqA_of (d := 9999) Tryz.underlying103 (by kernel_rfl) ?_
  have h3 : (decide (a = c) && (decide (b = d) && true)) = decide (a = c ∧ b = d) := by simp [Bool.decide_and]
  rw [← h3]
  refine eqf_cons rfl (part1 (cs := [vi a, vi b]) Tryz.sizeOf3 Tryz.isAgg3 rfl) (part1 (cs := [vi c, vi d]) Tryz.sizeOf3 Tryz.isAgg3 rfl) (run_equalIn_int w 9998 _ _ _ _ _ Tryz.underlying3) ?_
  refine eqf_cons rfl (part1 (cs := [vi a, vi b]) Tryz.sizeOf3 Tryz.isAgg3 rfl) (part1 (cs := [vi c, vi d]) Tryz.sizeOf3 Tryz.isAgg3 rfl) (run_equalIn_int w 9998 _ _ _ _ _ Tryz.underlying3) eqf_nil
theorem plOk : KeyOk Tryz.prog 103 kpl where
  chk em w k := by
    have h1 : ∀ a w, (Instr.checkKey em 9999 3 (vi a)).run Tryz.prog w = .ok () w := fun a w => by
      rw [Instr.checkKey]
      simp [run_underlying Tryz.underlying3]
    show (Instr.checkKey em (9999 + 1) 103 (.agg #[vi k.1, vi k.2])).run Tryz.prog w = .ok () w
    rw [Instr.checkKey]
    simp [run_underlying Tryz.underlying103, part, Tryz.sizeOf3, Tryz.isAgg3, h1]
  eq w k k' := by
    show (Op.equalIn 10000 103 (.agg #[vi k.1, vi k.2]) (.agg #[vi k'.1, vi k'.2])).run Tryz.prog w = .ok (decide (k = k')) w
    rw [eq_pl, decide_eq_decide.2 (Prod.ext_iff (x := k) (y := k')).symm]
  st := ⟨_, Tryz.underlying103⟩
  same k := by
    show Instr.sameBits (9999 + 1) (.agg #[vi k.1, vi k.2]) (.agg #[vi k.1, vi k.2]) = true
    rw [Instr.sameBits]
    simp [Instr.sameBits]
structure RA where
  dn : Nat
  sn : Nat
  last : List (Pl × List UInt8)
  gone : List Bool
  waits : List (Pl × List UInt8)
  off : Bool
  armed : Bool
  left : Int
def xsm (l : List (Pl × Rw)) : List (Pl × List UInt8) := l.map fun p => (p.1, p.2.xs)
structure RA.ok (s : RA) : Prop where
  dn : 1 ≤ s.dn ∧ s.dn ≤ 16
  sn : 1 ≤ s.sn ∧ s.sn ≤ 2000
  gl : s.gone.length = s.dn
  ll : ∀ p ∈ s.last, p.2.length = 128
  lw : ∀ p ∈ s.waits, p.2.length = 128
  lf : (s.armed = true → 0 ≤ s.left) ∧ -9223372036854775808 ≤ s.left ∧ s.left ≤ 9223372036854775807
  nd : (s.last.map (·.1)).Nodup
abbrev rcells (s : RA) (m : Nat) (ga : Option Addr) (gc : Nat) (wa : Option Addr) (wc n : Nat) : List Value := [vi s.dn, vi s.sn, .map (some m), .slice ga s.gone.length gc, .slice wa n wc, .bool s.off, .bool s.armed, vi s.left]
/-- all but the rack's own block -/
structure RI (S : Nat → Prop) (w : World) (m : Nat) (ga : Option Addr) (gc : Nat) (wa : Option Addr) (wc : Nat) (gl : List Bool) (ws ls : List (Pl × Rw)) : Prop where
  sm : S m
  map : Mp kpl vsl w m ls
  gone : Row S w 4 ebool ga gc gl
  waits : Row S w 105 ewr wa wc ws
  byl : ∀ p ∈ ls, Row S w 5 eb p.2.ao p.2.cap p.2.xs
  byw : ∀ p ∈ ws, Row S w 5 eb p.2.ao p.2.cap p.2.xs
section
variable {S M : Nat → Prop} {w w' : World} {m : Nat} {ga : Option Addr} {gc : Nat} {wa : Option Addr} {wc : Nat} {gl : List Bool} {ws ls : List (Pl × Rw)}
theorem RI.chg (h : RI S w m ga gc wa wc gl ws ls) (k : Chg M w w') (hd : ∀ b, b < w.heap.size → S b → M b → False) : RI S w' m ga gc wa wc gl ws ls :=
  ⟨h.sm, h.map.chg k (fun hm => hd m h.map.lt h.sm hm), h.gone.chg k hd, h.waits.chg k hd, fun p hp => (h.byl p hp).chg k hd, fun p hp => (h.byw p hp).chg k hd⟩
theorem RI.pure (h : RI S w m ga gc wa wc gl ws ls) (k : Chg Nob w w') : RI S w' m ga gc wa wc gl ws ls := h.chg k (fun _ _ _ x => x)
theorem RI.mono {S' : Nat → Prop} (h : RI S w m ga gc wa wc gl ws ls) (k : ∀ b, S b → S' b) : RI S' w m ga gc wa wc gl ws ls :=
  ⟨k _ h.sm, h.map, h.gone.mono k, h.waits.mono k, fun p hp => (h.byl p hp).mono k, fun p hp => (h.byw p hp).mono k⟩
/-- no part of it is the rack's own block -/
theorem RI.open {R : Nat} {cs : List Value} (h : RI S w m ga gc wa wc gl ws ls) (hB : Blk w R 79 cs) : RI (fun b => S b ∧ b ≠ R) w m ga gc wa wc gl ws ls := by
  have hk := hB.kb
  refine ⟨⟨h.sm, fun e => ?_⟩, h.map, h.gone.kb.mono ?_, h.waits.kb.mono ?_, fun p hp => (h.byl p hp).kb.mono ?_, fun p hp => (h.byw p hp).kb.mono ?_⟩
  · have := h.map.kb
    rw [e, hk] at this
    simp at this
  all_goals
    rintro b ⟨h1, h2⟩
    refine ⟨h1, fun e => ?_⟩
    rw [e, hk] at h2
    exact absurd h2 (by decide)
/-- the map alone has turned -/
theorem RI.putMap {ls2 : List (Pl × Rw)} (h : RI S w m ga gc wa wc gl ws ls) (hM : Mp kpl vsl w' m ls2) (k : Chg (· = m) w w') (hn : ∀ p ∈ ls2, (∃ q ∈ ls, q.2 = p.2) ∨ (∃ q ∈ ws, q.2 = p.2)) : RI S w' m ga gc wa wc gl ws ls2 := by
  have hk := h.map.kb
  have hd : ∀ T b, b < w.heap.size → b = m → kb w b ≠ some (some T) := by
    rintro T b _ rfl
    rw [hk]
    simp
  have hb : ∀ p ∈ ls2, Row S w 5 eb p.2.ao p.2.cap p.2.xs := fun p hp => by
    rcases hn p hp with ⟨q, hq, e⟩ | ⟨q, hq, e⟩
    · rw [← e]; exact h.byl q hq
    · rw [← e]; exact h.byw q hq
  exact ⟨h.sm, hM, h.gone.chgK k (hd _), h.waits.chgK k (hd _), fun p hp => (hb p hp).chgK k (hd _), fun p hp => (h.byw p hp).chgK k (hd _)⟩
/-- the row of the writes that wait alone has turned -/
theorem RI.setWaits {wa2 : Option Addr} {wc2 : Nat} {ws2 : List (Pl × Rw)} (h : RI S w m ga gc wa wc gl ws ls) (hW : Row S w' 105 ewr wa2 wc2 ws2) (k : Chg M w w') (hM : ∀ b, M b → Eqb wa b) (hn : ∀ p ∈ ws2, (∃ q ∈ ws, q.2 = p.2) ∨ Row S w 5 eb p.2.ao p.2.cap p.2.xs) : RI S w' m ga gc wa2 wc2 gl ws2 ls := by
  have hd : ∀ b, b < w.heap.size → M b → kb w b = some (some 105) := fun b _ hm => h.waits.kb.at_.eqb (hM b hm) |>.2
  have hb : ∀ p ∈ ws2, Row S w 5 eb p.2.ao p.2.cap p.2.xs := fun p hp => by
    rcases hn p hp with ⟨q, hq, e⟩ | h1
    · rw [← e]; exact h.byw q hq
    · exact h1
  refine ⟨h.sm, h.map.chg k (fun hm => ?_), h.gone.chgK k (fun b h1 h2 => ?_), hW, fun p hp => (h.byl p hp).chgK k (fun b h1 h2 => ?_), fun p hp => (hb p hp).chgK k (fun b h1 h2 => ?_)⟩
  · have h1 := hd m h.map.lt hm
    rw [h.map.kb] at h1
    simp at h1
  all_goals
    rw [hd b h1 h2]
    decide
/-- the row of the drives that are gone alone has turned -/
theorem RI.setGone {gl2 : List Bool} {g : Nat} (h : RI S w m (some ⟨g, 0, none⟩) gc wa wc gl ws ls) (hG : Row S w' 4 ebool (some ⟨g, 0, none⟩) gc gl2) (k : Chg (· = g) w w') : RI S w' m (some ⟨g, 0, none⟩) gc wa wc gl2 ws ls := by
  have hk : kb w g = some (some 4) := (h.gone.kb.at_ _ rfl).2
  have hd : ∀ T, T ≠ 4 → ∀ b, b < w.heap.size → b = g → kb w b ≠ some (some T) := by
    rintro T hT b _ rfl e
    rw [hk] at e
    injection e with e
    injection e with e
    exact hT e.symm
  refine ⟨h.sm, h.map.chg k (fun hm => ?_), hG, h.waits.chgK k (hd _ (by decide)), fun p hp => (h.byl p hp).chgK k (hd _ (by decide)), fun p hp => (h.byw p hp).chgK k (hd _ (by decide))⟩
  have h1 := h.map.kb
  rw [show m = g from hm, hk] at h1
  simp at h1
end
/-- a rack -/
structure RK (A : Nat → Prop) (w : World) (R : Nat) (s : RA) : Prop where
  aR : A R
  ok : s.ok
  ex : ∃ (m : Nat) (ga : Option Addr) (gc : Nat) (wa : Option Addr) (wc : Nat) (ws ls : List (Pl × Rw)), Blk w R 79 (rcells s m ga gc wa wc ws.length) ∧ RI A w m ga gc wa wc s.gone ws ls ∧ s.last = xsm ls ∧ s.waits = xsm ws
theorem RK.chg {A M : Nat → Prop} {w w' : World} {R : Nat} {s : RA} (h : RK A w R s) (k : Chg M w w') (hd : ∀ b, b < w.heap.size → A b → M b → False) : RK A w' R s := by
  obtain ⟨m, ga, gc, wa, wc, ws, ls, hB, hI, hl⟩ := h.ex
  exact ⟨h.aR, h.ok, m, ga, gc, wa, wc, ws, ls, hB.chg k (fun hm => hd R hB.lt h.aR hm), hI.chg k hd, hl⟩
theorem RK.pure {A : Nat → Prop} {w w' : World} {R : Nat} {s : RA} (h : RK A w R s) (k : Chg Nob w w') : RK A w' R s := h.chg k (fun _ _ _ x => x)
theorem RK.mono {A A' : Nat → Prop} {w : World} {R : Nat} {s : RA} (h : RK A w R s) (k : ∀ b, A b → A' b) : RK A' w R s := by
  obtain ⟨m, ga, gc, wa, wc, ws, ls, hB, hI, hl⟩ := h.ex
  exact ⟨k _ h.aR, h.ok, m, ga, gc, wa, wc, ws, ls, hB, hI.mono k, hl⟩
abbrev ptr (g : Nat) : Value := .pointer (some ⟨g, 0, none⟩)
/-! asking for a drive, for a sector -/
theorem is_calls {A : Nat → Prop} {w : World} {R : Nat} {s : RA} (h : RK A w R s) (d : Int) : Calls Tryz.prog 43 [ptr R, vi d].toArray w (Ret fun v w' => v = .bool (decide (0 ≤ d ∧ d < s.dn)) ∧ Chg Nob w w') := by
  obtain ⟨m, ga, gc, wa, wc, ws, ls, hB, -⟩ := h.ex
  have hw := Chg.refl Nob w
  refine Calls.of_WC Tryz.func43 rfl Tryz.ntmps43 (by simp) ?_
  refine WC.seq (WC.region (WL.assign rfl rfl (WL.nil (WX.then_normal (WC.seq (WC.region (WL.move rfl rfl (?_))))))))
  refine WL.ptrSome Tryz.underlying27 rfl rfl rfl ?_
  refine WL.move rfl rfl (WL.want rfl rfl rfl (WL.move rfl rfl (WL.want rfl rfl rfl (?_))))
  refine WL.geq? rfl rfl rfl (fun h9 => ?_) (fun h9 => ?_)
  ·
    refine WL.pickT rfl rfl rfl (WL.move rfl rfl (WL.want rfl rfl rfl (WL.move rfl rfl (WL.want rfl rfl rfl (WL.move rfl rfl (WL.want rfl rfl rfl (WL.nilCheck rfl rfl (?_))))))))
    refine WL.want rfl rfl rfl (WL.fieldAddr (fld_79_0) rfl rfl (WL.want rfl rfl rfl (WL.loadB Tryz.isAgg3 hB rfl rfl rfl (WL.want rfl rfl rfl (WL.lss rfl rfl rfl (WL.pickT rfl rfl rfl (WL.assign rfl rfl (?_))))))))
    refine WL.nil (WX.then_normal (WC.ret (?_)))
    refine WX.ret1 (.inl rfl) Tryz.results43 rfl ?_
    refine ⟨_, rfl, ?_, hw⟩
    congr 1
    simp
    omega
  ·
    refine WL.pickT rfl rfl rfl (WL.move rfl rfl (WL.pass rfl rfl rfl rfl (WL.pass rfl rfl rfl rfl (WL.pass rfl rfl rfl rfl (WL.pass rfl rfl rfl rfl (WL.pass rfl rfl rfl rfl (WL.pass rfl rfl rfl rfl (?_))))))))
    refine WL.pickF rfl rfl rfl (WL.assign rfl rfl (WL.nil (WX.then_normal (WC.ret (?_)))))
    refine WX.ret1 (.inl rfl) Tryz.results43 rfl ?_
    refine ⟨_, rfl, ?_, hw⟩
    congr 1
    simp
    omega
theorem in_calls {A : Nat → Prop} {w : World} {R : Nat} {s : RA} (h : RK A w R s) (d a : Int) : Calls Tryz.prog 56 [ptr R, vi d, vi a].toArray w (Ret fun v w' => v = .bool (decide (0 ≤ d ∧ d < s.dn ∧ 0 ≤ a ∧ a < s.sn)) ∧ Chg Nob w w') := by
  have hw := Chg.refl Nob w
  refine Calls.of_WC Tryz.func56 rfl Tryz.ntmps56 (by simp) ?_
  refine WC.seq (WC.region (WL.assign rfl rfl (WL.nil (WX.then_normal (WC.seq (WC.region (WL.move rfl rfl (?_))))))))
  refine WL.move rfl rfl (?_)
  refine WL.call eg_43 rfl rfl (is_calls h d) ?_
  rintro v w1 ⟨rfl, k1⟩
  have zs_k1 := k1.size
  replace h := h.pure k1
  replace hw := hw.pure k1
  obtain ⟨m, ga, gc, wa, wc, ws, ls, hB, -⟩ := h.ex
  by_cases h9 : 0 ≤ d ∧ d < s.dn
  ·
    rw [decide_eq_true h9]
    refine WL.move rfl rfl (WL.want rfl rfl rfl (WL.move rfl rfl (WL.want rfl rfl rfl (?_))))
    refine WL.geq? rfl rfl rfl (fun h12 => ?_) (fun h12 => ?_)
    ·
      refine WL.pickT rfl rfl rfl (WL.move rfl rfl (WL.want rfl rfl rfl (WL.move rfl rfl (WL.want rfl rfl rfl (WL.move rfl rfl (WL.want rfl rfl rfl (WL.nilCheck rfl rfl (?_))))))))
      refine WL.want rfl rfl rfl (WL.fieldAddr (fld_79_1) rfl rfl (WL.want rfl rfl rfl (WL.loadB Tryz.isAgg3 hB rfl rfl rfl (WL.want rfl rfl rfl (WL.lss rfl rfl rfl (WL.pickT rfl rfl rfl (WL.assign rfl rfl (?_))))))))
      refine WL.nil (WX.then_normal (WC.ret (?_)))
      refine WX.ret1 (.inl rfl) Tryz.results56 rfl ?_
      refine ⟨_, rfl, ?_, hw⟩
      congr 1
      simp [h9.1, h9.2, h12]; done
    ·
      refine WL.pickT rfl rfl rfl (WL.move rfl rfl (WL.pass rfl rfl rfl rfl (WL.pass rfl rfl rfl rfl (WL.pass rfl rfl rfl rfl (WL.pass rfl rfl rfl rfl (WL.pass rfl rfl rfl rfl (WL.pass rfl rfl rfl rfl (?_))))))))
      refine WL.pickF rfl rfl rfl (WL.assign rfl rfl (WL.nil (WX.then_normal (WC.ret (?_)))))
      refine WX.ret1 (.inl rfl) Tryz.results56 rfl ?_
      refine ⟨_, rfl, ?_, hw⟩
      congr 1
      simp; omega
  ·
    rw [decide_eq_false h9]
    refine WL.move rfl rfl (WL.pass rfl rfl rfl rfl (WL.pass rfl rfl rfl rfl (WL.pickF rfl rfl rfl (WL.move rfl rfl (WL.pass rfl rfl rfl rfl (WL.pass rfl rfl rfl rfl (WL.pass rfl rfl rfl rfl (?_))))))))
    refine WL.pass rfl rfl rfl rfl (WL.pass rfl rfl rfl rfl (WL.pass rfl rfl rfl rfl (WL.pickF rfl rfl rfl (WL.assign rfl rfl (WL.nil (WX.then_normal (WC.ret (?_))))))))
    refine WX.ret1 (.inl rfl) Tryz.results56 rfl ?_
    refine ⟨_, rfl, ?_, hw⟩
    congr 1
    simp; omega
end Go.Proofs.YtggecdldnpildaaGreat
namespace Go.Proofs.YtggecdldnpildaaGreat
open Go.RowKit Go.HL
set_option maxRecDepth 100000

/-! the last write that waits for a sector -/
theorem newest_calls {S : Nat → Prop} {w : World} {R : Nat} {s : RA} {m : Nat} {ga : Option Addr} {gc : Nat} {wa : Option Addr} {wc : Nat} {ws : List (Pl × Rw)} (hB : Blk w R 79 (rcells s m ga gc wa wc ws.length)) (hW : Row S w 105 ewr wa wc ws) (p : Pl) :
    Calls Tryz.prog 59 [ptr R, kpl p].toArray w (Ret fun v w' => (∃ ao : Option Addr, v = .pointer ao ∧ ((ao = none ∧ ∀ x ∈ ws, x.1 ≠ p) ∨ (∃ j x g, ws[j]? = some x ∧ x.1 = p ∧ (∀ k y, j < k → ws[k]? = some y → y.1 ≠ p) ∧ wa = some ⟨g, 0, none⟩ ∧ ao = some ⟨g, 0 + j * 3, none⟩))) ∧ Chg Nob w w') := by
  replace hW := hW.lt
  have hw := Chg.refl Nob w
  have hcap := hW.own.cap
  have hws : ws.length ≤ 9223372036854775807 := by
    rcases hW.own.2.2 with ⟨_, h⟩ | ⟨_, _, _, _, _, _, h, _⟩
    · omega
    · simp only [maxLen] at h; omega
  obtain ⟨pd, pa⟩ := p
  refine Calls.of_WC Tryz.func59 rfl Tryz.ntmps59 (by simp) ?_
  refine WC.seq (WC.region (?_))
  refine WL.box rfl rfl ?_
  intro g1 w1 hge1 hlt1 hP k1
  replace hP : Blk w1 g1 103 [vi pd, vi pa] := hP
  have zs_k1 := k1.size
  replace hB := hB.pure k1
  replace hW := hW.pure k1
  replace hw := hw.pure k1
  refine WL.assign rfl rfl (WL.nil (WX.then_normal (WC.seq (WC.seq (WC.region (WL.move rfl rfl (WL.nilCheck rfl rfl (?_))))))))
  refine WL.fieldAddr (fld_79_4) rfl rfl (WL.loadB Tryz.isAgg77 hB rfl rfl rfl (WL.len Tryz.underlying77 rfl rfl (?_)))
  refine WL.sub64 rfl rfl (by constructor <;> omega) rfl ?_
  refine WL.assign rfl rfl (WL.nil (WX.then_normal (WC.block (?_))))
  refine WC.loop (σ := Nat) (fun i => [(0, ptr R), (3, ptr g1), (4, .pointer none), (5, vi ((i : Int) - 1))]) (fun i w' => i ≤ ws.length ∧ (∀ k x, i ≤ k → ws[k]? = some x → x.1 ≠ (pd, pa)) ∧ Blk w' R 79 (rcells s m ga gc wa wc ws.length) ∧ Row (fun b => S b ∧ b < w.heap.size) w' 105 ewr wa wc ws ∧ Blk w' g1 103 [vi pd, vi pa] ∧ Chg Nob w w') (fun i => i) ws.length ⟨rfl, rfl, rfl, rfl, trivial⟩ ⟨Nat.le_refl _, fun k x hk hx => by have := (List.getElem?_eq_some_iff.1 hx).1; omega, hB, hW, hP, hw⟩ ?_
  clear hB hW hP hw
  rintro i w1 ⟨hi, hno, hB, hW, hP, hw⟩
  refine WC.seq (WC.seq (WC.region (WL.move rfl rfl (?_))))
  refine WL.geq? rfl rfl rfl (fun h13 => ?_) (fun h13 => ?_)
  ·
    refine WL.nil (WX.then_normal (WC.cond_true rfl (WC.skip (WX.then_normal (WC.seq (WC.block (WC.seq (?_))))))))
    obtain ⟨j, rfl⟩ : ∃ j, i = j + 1 := ⟨i - 1, by omega⟩
    have hx : ws[j]? = some ws[j] := List.getElem?_eq_getElem (by omega)
    obtain ⟨x, ex⟩ : ∃ x, x = ws[j] := ⟨_, rfl⟩
    rw [← ex] at hx
    obtain ⟨g, rfl⟩ := hW.place0 (j := j) (by omega)
    refine WC.draw (Nob) [0, 1, 2, 3, 4, 5, 6, 7, 8, 9] [] mixed rfl rfl (fun wd_1 kd_1 zd_1 => ?_)
    have zs_kd_1 := kd_1.size
    replace hB := hB.pure kd_1
    replace hW := hW.pure kd_1
    replace hw := hw.pure kd_1
    replace hP := hP.pure kd_1
    apply DQ.step (E' := [(0, _)])
    case ho => rfl
    case hs => exact ⟨rfl, trivial⟩
    case hk => rfl
    case h1 =>
      intro wq_2 kq_2
      refine WL.move rfl rfl (?_)
      refine WL.nil ?_
      exact WX.one ⟨rfl, by exact Chg.refl _ _⟩
    apply DQ.step (E' := [(16, _)])
    case ho => rfl
    case hs => exact ⟨rfl, trivial⟩
    case hk => rfl
    case h1 =>
      intro wq_3 kq_3
      refine WL.nilCheck rfl rfl (?_)
      refine WL.nil ?_
      exact WX.one ⟨rfl, by exact Chg.refl _ _⟩
    apply DQ.step (E' := [(17, _)])
    case ho => rfl
    case hs => exact ⟨rfl, trivial⟩
    case hk => rfl
    case h1 =>
      intro wq_4 kq_4
      refine WL.fieldAddr (fld_79_4) rfl rfl (?_)
      refine WL.nil ?_
      exact WX.one ⟨rfl, by exact Chg.refl _ _⟩
    apply DQ.step (E' := [(18, _)])
    case ho => rfl
    case hs => exact ⟨rfl, trivial⟩
    case hk => rfl
    case h1 =>
      intro wq_5 kq_5
      have zs_kq_5 := kq_5.size
      replace hB := hB.pure kq_5
      replace hW := hW.pure kq_5
      replace hw := hw.pure kq_5
      replace hP := hP.pure kq_5
      refine WL.loadB Tryz.isAgg77 hB rfl rfl rfl (?_)
      refine WL.nil ?_
      exact WX.one ⟨rfl, by exact Chg.refl _ _⟩
    apply DQ.step (E' := [(5, _)])
    case ho => rfl
    case hs => exact ⟨rfl, trivial⟩
    case hk => rfl
    case h1 =>
      intro wq_6 kq_6
      refine WL.move rfl rfl (?_)
      refine WL.nil ?_
      exact WX.one ⟨rfl, by exact Chg.refl _ _⟩
    apply DQ.step (E' := [(19, _), (20, _)])
    case ho => rfl
    case hs => exact ⟨rfl, rfl, trivial⟩
    case hk => rfl
    case h1 =>
      intro wq_7 kq_7
      have zs_kq_7 := kq_7.size
      replace hB := hB.pure kq_7
      replace hW := hW.pure kq_7
      replace hw := hw.pure kq_7
      replace hP := hP.pure kq_7
      refine WL.indexC hW.rsl Tryz.underlying77 Tryz.sizeOf105 rfl rfl ⟨hx, (by omega)⟩ rfl ?_
      refine WL.nil ?_
      exact WX.one ⟨rfl, by exact Chg.refl _ _⟩
    apply DQ.step (E' := [(21, _)])
    case ho => rfl
    case hs => exact ⟨rfl, trivial⟩
    case hk => rfl
    case h1 =>
      intro wq_8 kq_8
      refine WL.fieldAddr (fld_105_0) rfl rfl (?_)
      refine WL.nil ?_
      exact WX.one ⟨rfl, by exact Chg.refl _ _⟩
    apply DQ.step (E' := [(22, _)])
    case ho => rfl
    case hs => exact ⟨rfl, trivial⟩
    case hk => rfl
    case h1 =>
      intro wq_9 kq_9
      have zs_kq_9 := kq_9.size
      replace hB := hB.pure kq_9
      replace hW := hW.pure kq_9
      replace hw := hw.pure kq_9
      replace hP := hP.pure kq_9
      refine WL.loads [vi x.1.1, vi x.1.2] Tryz.isAgg103 Tryz.sizeOf103 rfl (fun q v hv => ?_) rfl rfl ?_
      ·
        have h1 := hW.rsl.cellsAt hx q v
        refine h1 ?_
        obtain ⟨⟨x1, x2⟩, x3⟩ := x
        match q, hv with
        | 0, hv => exact hv
        | 1, hv => exact hv
      refine WL.nil ?_
      exact WX.one ⟨rfl, by exact Chg.refl _ _⟩
    apply DQ.step (E' := [(3, _)])
    case ho => rfl
    case hs => exact ⟨rfl, trivial⟩
    case hk => rfl
    case h1 =>
      intro wq_10 kq_10
      have zs_kq_10 := kq_10.size
      replace hB := hB.pure kq_10
      replace hW := hW.pure kq_10
      replace hw := hw.pure kq_10
      replace hP := hP.pure kq_10
      refine WL.loadsB Tryz.isAgg103 Tryz.sizeOf103 hP rfl (by simp; done) rfl (?_)
      refine WL.nil ?_
      exact WX.one ⟨rfl, by exact Chg.refl _ _⟩
    apply DQ.split (E' := [(23, _), (24, _)])
    case ho => rfl
    case hs => exact ⟨rfl, rfl, trivial⟩
    case hk => rfl
    case h1 =>
      intro wq_11 kq_11
      refine WL.aeql eqg_pl (eq_pl _ _ _ _) rfl rfl rfl ?_
      refine WL.nil ?_
      exact WX.one ⟨rfl, by exact Chg.refl _ _⟩
    case ht =>
      intro h25
      replace h25 := of_decide_eq_true h25
      refine DQ.done (fun _ => ?_)
      refine DL.done (fun we_12 ke_12 => ?_)
      have zs_ke_12 := ke_12.size
      replace hB := hB.pure ke_12
      replace hW := hW.pure ke_12
      replace hw := hw.pure ke_12
      replace hP := hP.pure ke_12
      refine WX.then_normal (WC.cond_true rfl (WC.seq (WC.region (WL.move rfl rfl (WL.nilCheck rfl rfl (WL.fieldAddr (fld_79_4) rfl rfl (WL.loadB Tryz.isAgg77 hB rfl rfl rfl (?_))))))))
      refine WL.move rfl rfl (?_)
      refine WL.indexC hW.rsl Tryz.underlying77 Tryz.sizeOf105 rfl rfl ⟨hx, by omega⟩ rfl ?_
      refine WL.assign rfl rfl (WL.nil (WX.then_normal (WC.ret (WX.block_ret (WX.then_ret (WX.then_ret (WX.block_ret (?_))))))))
      refine WX.then_ret (?_)
      refine WX.ret1 (.inl rfl) Tryz.results59 rfl ?_
      refine ⟨_, rfl, ?_, hw⟩
      first
        | exact ⟨_, rfl, .inr ⟨j, x, g, hx, Prod.ext h25.1 h25.2, fun k y hk hy => hno k y (by omega) hy, rfl, rfl⟩⟩
        | exact ⟨_, rfl, .inl ⟨rfl, fun x hx => by
            obtain ⟨k, hk, rfl⟩ := List.getElem_of_mem hx
            exact hno k _ (by omega) (List.getElem?_eq_getElem hk)⟩⟩
    case hf =>
      intro h25
      replace h25 := of_decide_eq_false h25
      refine DQ.done (fun _ => ?_)
      refine DL.done (fun we_12 ke_12 => ?_)
      have zs_ke_12 := ke_12.size
      replace hB := hB.pure ke_12
      replace hW := hW.pure ke_12
      replace hw := hw.pure ke_12
      replace hP := hP.pure ke_12
      refine WX.then_normal (WC.cond_false rfl (WC.skip (WX.block_normal (WX.then_normal (WC.region (WL.move rfl rfl (WL.sub64 rfl rfl (by omega) rfl (?_))))))))
      refine WL.assign rfl rfl (WL.nil (?_))
      refine WX.loop_next j ⟨rfl, rfl, rfl, by simp [List.lookup, ev]; try omega, trivial⟩ ⟨by omega, ?_, hB, hW, hP, hw⟩ (by omega)
      intro k y hk hy
      rcases Nat.lt_or_ge j k with h1 | h1
      ·
        exact hno k y (by omega) hy
      ·
        have : k = j := by omega
        subst this
        rw [hx] at hy
        injection hy with hy
        subst hy
        intro e
        rw [e] at h25
        exact h25 ⟨rfl, rfl⟩
  ·
    refine WL.nil (WX.then_normal (WC.cond_false rfl (WC.exit (WX.then_exit (WX.then_exit (WX.block_here (WX.then_normal (?_))))))))
    refine WC.seq (WC.region (WL.assign rfl rfl (WL.nil (WX.then_normal (WC.ret (?_))))))
    refine WX.ret1 (.inl rfl) Tryz.results59 rfl ?_
    refine ⟨_, rfl, ?_, hw⟩
    first
      | exact ⟨_, rfl, .inr ⟨j, x, g, hx, Prod.ext h25.1 h25.2, fun k y hk hy => hno k y (by omega) hy, rfl, rfl⟩⟩
      | exact ⟨_, rfl, .inl ⟨rfl, fun x hx => by
          obtain ⟨k, hk, rfl⟩ := List.getElem_of_mem hx
          exact hno k _ (by omega) (List.getElem?_eq_getElem hk)⟩⟩
end Go.Proofs.YtggecdldnpildaaGreat
namespace Go.Proofs.YtggecdldnpildaaGreat
open Go.RowKit Go.HL
set_option maxRecDepth 100000

/-! plain: the last of those with a place -/
section
variable {K V : Type} [DecidableEq K]
theorem mget_app (l1 l2 : List (K × V)) (k : K) : mget (l1 ++ l2) k = match mget l1 k with | some v => some v | none => mget l2 k := by
  induction l1 with
  | nil => rfl
  | cons p r ih =>
    obtain ⟨k', v⟩ := p
    simp only [List.cons_append, mget]
    by_cases h : k = k'
    · simp [h]
    · simp [h, ih]
theorem mget_no {l : List (K × V)} {k : K} (h : ∀ x ∈ l, x.1 ≠ k) : mget l k = none := by
  induction l with
  | nil => rfl
  | cons p r ih =>
    obtain ⟨k', v⟩ := p
    have h1 := h (k', v) (by simp)
    simp only [mget]
    rw [if_neg (fun e => h1 e.symm)]
    exact ih (fun x hx => h x (List.mem_cons_of_mem _ hx))
theorem mget_mem {l : List (K × V)} {k : K} {v : V} (h : mget l k = some v) : (k, v) ∈ l := by
  induction l with
  | nil => cases h
  | cons p r ih =>
    obtain ⟨k', u⟩ := p
    simp only [mget] at h
    by_cases e : k = k'
    · subst e
      simp at h
      simp [h]
    · rw [if_neg e] at h
      exact List.mem_cons_of_mem _ (ih h)
/-- of those with a place the last -/
def newV (ws : List (K × V)) (p : K) : Option V := mget ws.reverse p
theorem newV_none {ws : List (K × V)} {p : K} (h : ∀ x ∈ ws, x.1 ≠ p) : newV ws p = none := mget_no (fun x hx => h x (List.mem_reverse.1 hx))
omit [DecidableEq K] in
theorem split_at {ws : List (K × V)} {j : Nat} {x : K × V} (hx : ws[j]? = some x) : ws = ws.take j ++ [x] ++ ws.drop (j + 1) := by
  obtain ⟨hj, e⟩ := List.getElem?_eq_some_iff.1 hx
  rw [← e, List.append_assoc]
  simp
omit [DecidableEq K] in
theorem later_no {ws : List (K × V)} {p : K} {j : Nat} (h : ∀ k y, j < k → ws[k]? = some y → y.1 ≠ p) : ∀ x ∈ (ws.drop (j + 1)).reverse, x.1 ≠ p := by
  intro x hx
  obtain ⟨i, hi, rfl⟩ := List.getElem_of_mem (List.mem_reverse.1 hx)
  refine h (j + 1 + i) _ (by omega) ?_
  rw [← List.getElem?_drop]
  exact List.getElem?_eq_getElem hi
theorem newV_some {ws : List (K × V)} {p : K} {j : Nat} {x : K × V} (hx : ws[j]? = some x) (hp : x.1 = p) (h : ∀ k y, j < k → ws[k]? = some y → y.1 ≠ p) : newV ws p = some x.2 := by
  obtain ⟨x1, x2⟩ := x
  subst hp
  unfold newV
  rw [split_at hx, List.reverse_append, List.reverse_append, mget_app, mget_no (later_no h)]
  simp [mget]
theorem mput_fst {l : List (K × V)} {k : K} {v : V} : (mput l k v).map (·.1) = if k ∈ l.map (·.1) then l.map (·.1) else l.map (·.1) ++ [k] := by
  induction l with
  | nil => simp [mput]
  | cons p r ih =>
    obtain ⟨k', u⟩ := p
    simp only [mput]
    by_cases h : k = k'
    · simp [h]
    · rw [if_neg h]
      simp only [List.map_cons, ih, List.mem_cons, h, false_or]
      split <;> rfl
theorem mput_nodup {l : List (K × V)} {k : K} {v : V} (h : (l.map (·.1)).Nodup) : ((mput l k v).map (·.1)).Nodup := by
  rw [mput_fst]
  split
  · exact h
  · rename_i h1
    rw [List.nodup_append]
    refine ⟨h, by simp, ?_⟩
    intro a ha b hb e
    simp at hb
    subst hb; subst e
    exact h1 ha
theorem mput_mem {l : List (K × V)} {k : K} {v : V} {x : K × V} (h : x ∈ mput l k v) : x ∈ l ∨ x = (k, v) := by
  induction l with
  | nil => simp [mput] at h; exact .inr h
  | cons p r ih =>
    obtain ⟨k', u⟩ := p
    simp only [mput] at h
    split at h
    · rcases List.mem_cons.1 h with h1 | h1
      · exact .inr h1
      · exact .inl (List.mem_cons_of_mem _ h1)
    · rcases List.mem_cons.1 h with h1 | h1
      · exact .inl (by simp [h1])
      · rcases ih h1 with h2 | h2
        · exact .inl (List.mem_cons_of_mem _ h2)
        · exact .inr h2
end
theorem xsm_get (l : List (Pl × Rw)) (p : Pl) : mget (xsm l) p = (mget l p).map (·.xs) := by
  induction l with
  | nil => rfl
  | cons x r ih =>
    obtain ⟨k', v⟩ := x
    simp only [xsm, List.map_cons, mget] at ih ⊢
    by_cases h : p = k'
    · simp [h]
    · simp [h, ih]
theorem xsm_put (l : List (Pl × Rw)) (p : Pl) (v : Rw) : xsm (mput l p v) = mput (xsm l) p v.xs := by
  induction l with
  | nil => rfl
  | cons x r ih =>
    obtain ⟨k', u⟩ := x
    simp only [xsm, List.map_cons, mput] at ih ⊢
    by_cases h : p = k'
    · simp [h]
    · simp [h, ih]
theorem xsm_rev (l : List (Pl × Rw)) : xsm l.reverse = (xsm l).reverse := by simp [xsm]
theorem xsm_newV (l : List (Pl × Rw)) (p : Pl) : newV (xsm l) p = (newV l p).map (·.xs) := by
  unfold newV
  rw [← xsm_rev, xsm_get]
theorem xsm_len (l : List (Pl × Rw)) : (xsm l).length = l.length := by simp [xsm]
/-- what a sector holds -/
def heldS (s : RA) (p : Pl) : List UInt8 := match newV s.waits p with
  | some b => b
  | none => (mget s.last p).getD (List.replicate 128 0)
theorem heldS_len {s : RA} (h : s.ok) (p : Pl) : (heldS s p).length = 128 := by
  unfold heldS
  cases h1 : newV s.waits p with
  | some b => exact h.lw _ (List.mem_reverse.1 (mget_mem h1))
  | none =>
    cases h2 : mget s.last p with
    | some b => exact h.ll _ (mget_mem h2)
    | none => rfl
/-! what a sector holds -/
theorem held_calls {A : Nat → Prop} {w : World} {R : Nat} {s : RA} (h : RK A w R s) (p : Pl) :
    Calls Tryz.prog 58 [ptr R, kpl p].toArray w (Ret fun v w' => (∃ r, v = vsl r ∧ RSl (· < w'.heap.size) w' eb r.ao r.cap r.xs ∧ r.xs = heldS s p) ∧ Chg Nob w w') := by
  obtain ⟨m, ga, gc, wa, wc, ws, ls, hB, hI, hls, hws⟩ := h.ex
  have hw := Chg.refl Nob w
  obtain ⟨pd, pa⟩ := p
  refine Calls.of_WC Tryz.func58 rfl Tryz.ntmps58 (by simp) ?_
  refine WC.seq (WC.region (?_))
  refine WL.box rfl rfl ?_
  intro g1 w1 hge1 hlt1 hP k1
  replace hP : Blk w1 g1 103 [vi pd, vi pa] := hP
  have zs_k1 := k1.size
  replace hB := hB.pure k1
  replace hI := hI.pure k1
  replace hw := hw.pure k1
  refine WL.assign rfl rfl (WL.nil (WX.then_normal (WC.seq (WC.seq (WC.region (WL.move rfl rfl (WL.loadsB Tryz.isAgg103 Tryz.sizeOf103 hP rfl (by simp; done) rfl (?_))))))))
  refine WL.call eg_59 rfl rfl (newest_calls hB hI.waits (pd, pa)) ?_
  rintro v w2 ⟨⟨ao, rfl, hnew⟩, k2⟩
  have zs_k2 := k2.size
  replace hB := hB.pure k2
  replace hI := hI.pure k2
  replace hw := hw.pure k2
  replace hP := hP.pure k2
  refine WL.assign rfl rfl (WL.nil (WX.then_normal (WC.seq (WC.region (WL.move rfl rfl (?_))))))
  refine WL.ptrSome Tryz.underlying108 rfl rfl rfl ?_
  rcases hnew with ⟨rfl, hno⟩ | ⟨j, x, g, hx, hxp, hno, rfl, rfl⟩
  ·
    refine WL.nil (WX.then_normal (WC.cond_false rfl (WC.skip (WX.then_normal (WC.seq (WC.seq (?_)))))))
    refine WC.draw (Nob) [0, 1, 2, 3, 4, 5, 6, 7, 8, 9, 10] [] mixed rfl rfl (fun wd_1 kd_1 zd_1 => ?_)
    have zs_kd_1 := kd_1.size
    replace hB := hB.pure kd_1
    replace hI := hI.pure kd_1
    replace hw := hw.pure kd_1
    replace hP := hP.pure kd_1
    apply DQ.step (E' := [(0, _)])
    case ho => rfl
    case hs => exact ⟨rfl, trivial⟩
    case hk => rfl
    case h1 =>
      intro wq_2 kq_2
      refine WL.move rfl rfl (?_)
      refine WL.nil ?_
      exact WX.one ⟨rfl, by exact Chg.refl _ _⟩
    apply DQ.step (E' := [(18, _)])
    case ho => rfl
    case hs => exact ⟨rfl, trivial⟩
    case hk => rfl
    case h1 =>
      intro wq_3 kq_3
      refine WL.nilCheck rfl rfl (?_)
      refine WL.nil ?_
      exact WX.one ⟨rfl, by exact Chg.refl _ _⟩
    apply DQ.step (E' := [(19, _)])
    case ho => rfl
    case hs => exact ⟨rfl, trivial⟩
    case hk => rfl
    case h1 =>
      intro wq_4 kq_4
      refine WL.fieldAddr (fld_79_2) rfl rfl (?_)
      refine WL.nil ?_
      exact WX.one ⟨rfl, by exact Chg.refl _ _⟩
    apply DQ.step (E' := [(20, _)])
    case ho => rfl
    case hs => exact ⟨rfl, trivial⟩
    case hk => rfl
    case h1 =>
      intro wq_5 kq_5
      have zs_kq_5 := kq_5.size
      replace hB := hB.pure kq_5
      replace hI := hI.pure kq_5
      replace hw := hw.pure kq_5
      replace hP := hP.pure kq_5
      refine WL.loadB Tryz.isAgg76 hB rfl rfl rfl (?_)
      refine WL.nil ?_
      exact WX.one ⟨rfl, by exact Chg.refl _ _⟩
    apply DQ.step (E' := [(3, _)])
    case ho => rfl
    case hs => exact ⟨rfl, trivial⟩
    case hk => rfl
    case h1 =>
      intro wq_6 kq_6
      have zs_kq_6 := kq_6.size
      replace hB := hB.pure kq_6
      replace hI := hI.pure kq_6
      replace hw := hw.pure kq_6
      replace hP := hP.pure kq_6
      refine WL.loadsB Tryz.isAgg103 Tryz.sizeOf103 hP rfl (by simp; done) rfl (?_)
      refine WL.nil ?_
      exact WX.one ⟨rfl, by exact Chg.refl _ _⟩
    apply DQ.step (E' := [(21, _), (22, _)])
    case ho => rfl
    case hs => exact ⟨rfl, rfl, trivial⟩
    case hk => rfl
    case h1 =>
      intro wq_7 kq_7
      have zs_kq_7 := kq_7.size
      replace hB := hB.pure kq_7
      replace hI := hI.pure kq_7
      replace hw := hw.pure kq_7
      replace hP := hP.pure kq_7
      refine WL.mlookup plOk Tryz.underlying76 Tryz.zeroValue26 hI.map rfl (show _ = some (kpl (pd, pa)) from rfl) rfl ?_
      rw [show (mget ls (pd, pa)).isSome = decide ((mget ls (pd, pa)).isSome = true) from by simp]
      refine WL.nil ?_
      exact WX.one ⟨rfl, by exact Chg.refl _ _⟩
    apply DQ.step (E' := [(23, _)])
    case ho => rfl
    case hs => exact ⟨rfl, trivial⟩
    case hk => rfl
    case h1 =>
      intro wq_8 kq_8
      refine WL.move rfl rfl (?_)
      refine WL.nil ?_
      exact WX.one ⟨rfl, by exact Chg.refl _ _⟩
    apply DQ.step (E' := [(17, _)])
    case ho => rfl
    case hs => exact ⟨rfl, trivial⟩
    case hk => rfl
    case h1 =>
      intro wq_9 kq_9
      refine WL.extract rfl rfl rfl (?_)
      refine WL.nil ?_
      exact WX.one ⟨rfl, by exact Chg.refl _ _⟩
    apply DQ.step (E' := [(17, _)])
    case ho => rfl
    case hs => exact ⟨rfl, trivial⟩
    case hk => rfl
    case h1 =>
      intro wq_10 kq_10
      refine WL.extract rfl rfl rfl (?_)
      refine WL.nil ?_
      exact WX.one ⟨rfl, by exact Chg.refl _ _⟩
    apply DQ.step (E' := [(24, _)])
    case ho => rfl
    case hs => exact ⟨rfl, trivial⟩
    case hk => rfl
    case h1 =>
      intro wq_11 kq_11
      refine WL.assign rfl rfl (?_)
      refine WL.nil ?_
      exact WX.one ⟨rfl, by exact Chg.refl _ _⟩
    apply DQ.step (E' := [(25, _)])
    case ho => rfl
    case hs => exact ⟨rfl, trivial⟩
    case hk => rfl
    case h1 =>
      intro wq_12 kq_12
      refine WL.assign rfl rfl (?_)
      refine WL.nil ?_
      exact WX.one ⟨rfl, by exact Chg.refl _ _⟩
    refine DQ.done (fun _ => ?_)
    refine DL.done (fun we_13 ke_13 => ?_)
    have zs_ke_13 := ke_13.size
    replace hB := hB.pure ke_13
    replace hI := hI.pure ke_13
    replace hw := hw.pure ke_13
    replace hP := hP.pure ke_13
    refine WX.then_normal (WC.seq (WC.region (WL.move rfl rfl (WL.nil (WX.then_normal (?_))))))
    first | refine WC.cond_dec rfl (fun hc26 => ?_) (fun hc26 => ?_) | refine WC.cond_split rfl (fun hc26 => ?_) (fun hc26 => ?_)
    ·
      refine WC.seq (WC.region (WL.move rfl rfl (WL.assign rfl rfl (WL.nil (WX.then_normal (WC.ret (WX.then_ret (?_))))))))
      refine WX.ret1 (.inl rfl) Tryz.results58 rfl ?_
      obtain ⟨r, hr⟩ := Option.isSome_iff_exists.1 hc26
      simp only [hr]
      exact ⟨_, rfl, ⟨r, rfl, (hI.byl _ (mget_mem hr)).rsl.old, by rw [heldS, hws, xsm_newV, newV_none hno, hls, xsm_get, hr]; rfl⟩, hw⟩
    ·
      refine WC.skip (WX.then_normal (WC.seq (WC.region (?_))))
      refine WL.make (e := eb) (0 : UInt8) 128 128 Tryz.underlying26 info_5 rfl rfl rfl ⟨rfl, rfl, Nat.le_refl _⟩ (by decide) rfl ?_
      intro g3 w3 hm k3 z3 eg3
      have zs_k3 := k3.size
      replace hB := hB.pure k3
      replace hI := hI.pure k3
      replace hw := hw.pure k3
      replace hP := hP.pure k3
      refine WL.assign rfl rfl (WL.nil (WX.then_normal (WC.ret (?_))))
      refine WX.ret1 (.inl rfl) Tryz.results58 rfl ?_
      have hr : mget ls (pd, pa) = none := by simpa using hc26
      exact ⟨_, rfl, ⟨⟨some ⟨g3, 0, none⟩, 128, List.replicate 128 0⟩, rfl, hm.rsl.old, by rw [heldS, hws, xsm_newV, newV_none hno, hls, xsm_get, hr]; rfl⟩, hw⟩
  ·
    refine WL.nil (WX.then_normal (WC.cond_true rfl (WC.seq (WC.region (WL.move rfl rfl (WL.nilCheck rfl rfl (WL.fieldAddr (fld_105_1) rfl rfl (?_))))))))
    refine WL.load Tryz.isAgg26 rfl (hI.waits.rsl.cellsAt hx 2 _ rfl) rfl ?_
    refine WL.assign rfl rfl (WL.nil (WX.then_normal (WC.ret (WX.then_ret (?_)))))
    refine WX.ret1 (.inl rfl) Tryz.results58 rfl ?_
    exact ⟨_, rfl, ⟨x.2, rfl, (hI.byw x (List.mem_of_getElem? hx)).rsl.old, by rw [heldS, hws, xsm_newV, newV_some hx hxp hno]; rfl⟩, hw⟩
/-! bytes of one's own -/
theorem bclone_calls {S : Nat → Prop} {w : World} {ao : Option Addr} {c : Nat} {b : List UInt8} (hr : RSl S w eb ao c b) (hl : b.length = 128) :
    Calls Tryz.prog 57 [.slice ao b.length c].toArray w (Ret fun v w' => (∃ (g c' : Nat), v = .slice (some ⟨g, 0, none⟩) b.length c' ∧ Row (· = g) w' 5 eb (some ⟨g, 0, none⟩) c' b ∧ w.heap.size ≤ g ∧ g < w'.heap.size) ∧ Chg Nob w w') := by
  replace hr := hr.old
  have hw := Chg.refl Nob w
  have hlt := hr.lt
  refine Calls.of_WC Tryz.func57 rfl Tryz.ntmps57 (by simp) ?_
  refine WC.seq (WC.region (WL.assign rfl rfl (WL.nil (WX.then_normal (WC.seq (WC.seq (WC.region (?_))))))))
  refine WL.move rfl rfl (?_)
  refine WL.isNil? Tryz.underlying26 rfl rfl rfl (fun h4 => ?_) (fun h4 => ?_)
  ·
    subst h4
    have hn := hr.none_nil
    rw [hn] at hl
    cases hl
  ·
    refine WL.nil (WX.then_normal (WC.cond_false rfl (WC.skip (WX.then_normal (WC.seq (WC.region (?_)))))))
    refine WL.build (e := eb) [] Tryz.underlying26 Tryz.sizeOf5 Tryz.zeroValue5 rfl rfl rfl (by simp [Value.cells]; done) (by decide) rfl ?_
    intro a_hq w_hq hq l_hq z_hq k_hq
    have zs_k_hq := k_hq.size
    replace hr := hr.pure k_hq
    replace hw := hw.pure k_hq
    refine WL.move rfl rfl (?_)
    refine WL.append0 (e := eb) info_5 rfl Tryz.underlying26 rfl rfl hq (hr.src Tryz.underlying26) (by omega) (by constructor <;> omega) rfl ?_
    intro g2 c2 w2 hb2 k2 eg2 z2
    have zs_k2 := k2.size
    replace hr := hr.pure k2
    replace hw := hw.pure k2
    refine WL.assign rfl rfl (WL.nil (WX.then_normal (WC.ret (?_))))
    refine WX.ret1 (.inl rfl) Tryz.results57 rfl ?_
    exact ⟨_, rfl, ⟨g2, c2, rfl, hb2, by omega, by omega⟩, hw⟩
end Go.Proofs.YtggecdldnpildaaGreat
namespace Go.Proofs.YtggecdldnpildaaGreat
open Go.RowKit Go.HL
set_option maxRecDepth 100000

theorem RK.old {A : Nat → Prop} {w : World} {R : Nat} {s : RA} (h : RK A w R s) : RK (fun b => A b ∧ b < w.heap.size) w R s := by
  obtain ⟨m, ga, gc, wa, wc, ws, ls, hB, hI, hl⟩ := h.ex
  exact ⟨⟨h.aR, hB.lt⟩, h.ok, m, ga, gc, wa, wc, ws, ls, hB, ⟨⟨hI.sm, hI.map.lt⟩, hI.map, hI.gone.lt, hI.waits.lt, fun p hp => (hI.byl p hp).lt, fun p hp => (hI.byw p hp).lt⟩, hl⟩
def inS (s : RA) (d a : Int) : Prop := 0 ≤ d ∧ d < s.dn ∧ 0 ≤ a ∧ a < s.sn
instance (s : RA) (d a : Int) : Decidable (inS s d a) := inferInstanceAs (Decidable (0 ≤ d ∧ d < s.dn ∧ 0 ≤ a ∧ a < s.sn))
def isS (s : RA) (d : Int) : Prop := 0 ≤ d ∧ d < s.dn
instance (s : RA) (d : Int) : Decidable (isS s d) := inferInstanceAs (Decidable (0 ≤ d ∧ d < s.dn))
def goneS (s : RA) (d : Int) : Bool := s.gone.getD d.toNat false
theorem goneS_at {s : RA} (h : s.ok) {d : Int} (hd : isS s d) : s.gone[d.toNat]? = some (goneS s d) := by
  have : d.toNat < s.gone.length := by rw [h.gl]; have h1 := hd.1; have h2 := hd.2; omega
  rw [goneS, List.getD_eq_getElem?_getD, List.getElem?_eq_getElem this]
  rfl
theorem Gone_calls {A : Nat → Prop} {w : World} {R : Nat} {s : RA} (h : RK A w R s) (d : Int) : Calls Tryz.prog 26 [ptr R, vi d].toArray w (Ret fun v w' => v = .bool (decide (isS s d) && goneS s d) ∧ Chg Nob w w') := by
  have hw := Chg.refl Nob w
  refine Calls.of_WC Tryz.func26 rfl Tryz.ntmps26 (by simp) ?_
  refine WC.seq (WC.region (WL.assign rfl rfl (WL.nil (WX.then_normal (WC.seq (WC.region (WL.move rfl rfl (?_))))))))
  refine WL.move rfl rfl (?_)
  refine WL.call eg_43 rfl rfl (is_calls h d) ?_
  rintro v w1 ⟨rfl, k1⟩
  have zs_k1 := k1.size
  replace h := h.pure k1
  replace hw := hw.pure k1
  obtain ⟨m, ga, gc, wa, wc, ws, ls, hB, hI, -⟩ := h.ex
  by_cases h9 : isS s d
  ·
    rw [show decide (0 ≤ d ∧ d < (s.dn : Int)) = true from decide_eq_true h9]
    refine WL.move rfl rfl (WL.want rfl rfl rfl (WL.move rfl rfl (WL.want rfl rfl rfl (WL.nilCheck rfl rfl (WL.want rfl rfl rfl (WL.fieldAddr (fld_79_3) rfl rfl (WL.want rfl rfl rfl (?_))))))))
    refine WL.loadB Tryz.isAgg55 hB rfl rfl rfl (WL.want rfl rfl rfl (WL.move rfl rfl (WL.want rfl rfl rfl (?_))))
    have hgd := goneS_at h.ok h9
    refine WL.indexT (e := ebool) Tryz.underlying55 Tryz.sizeOf4 hI.gone.rsl rfl rfl ⟨hgd, by have := h9.1; omega⟩ rfl ?_
    intro bb oo hcc
    refine WL.want rfl rfl rfl (?_)
    refine WL.load Tryz.isAgg4 rfl (hcc 0 _ rfl) rfl ?_
    refine WL.pickT rfl rfl rfl (WL.assign rfl rfl (WL.nil (WX.then_normal (WC.ret (?_)))))
    refine WX.ret1 (.inl rfl) Tryz.results26 rfl ?_
    refine ⟨_, rfl, ?_, hw⟩
    congr 1
    simp [h9]
  ·
    rw [show decide (0 ≤ d ∧ d < (s.dn : Int)) = false from decide_eq_false h9]
    refine WL.move rfl rfl (WL.pass rfl rfl rfl rfl (WL.pass rfl rfl rfl rfl (WL.pass rfl rfl rfl rfl (WL.pass rfl rfl rfl rfl (WL.pass rfl rfl rfl rfl (WL.pass rfl rfl rfl rfl (WL.pass rfl rfl rfl rfl (?_))))))))
    refine WL.pickF rfl rfl rfl (WL.assign rfl rfl (WL.nil (WX.then_normal (WC.ret (?_)))))
    refine WX.ret1 (.inl rfl) Tryz.results26 rfl ?_
    refine ⟨_, rfl, ?_, hw⟩
    congr 1
    simp [h9]
theorem Drives_calls {A : Nat → Prop} {w : World} {R : Nat} {s : RA} (h : RK A w R s) : Calls Tryz.prog 25 [ptr R].toArray w (Ret fun v w' => v = vi s.dn ∧ Chg Nob w w') := by
  obtain ⟨m, ga, gc, wa, wc, ws, ls, hB, -⟩ := h.ex
  have hw := Chg.refl Nob w
  refine Calls.of_WC Tryz.func25 rfl Tryz.ntmps25 (by simp) ?_
  refine WC.seq (WC.region (WL.assign rfl rfl (WL.nil (WX.then_normal (WC.seq (WC.seq (WC.region (?_))))))))
  refine WL.move rfl rfl (?_)
  refine WL.ptrNil Tryz.underlying27 rfl rfl rfl ?_
  refine WL.nil (WX.then_normal (WC.cond_false rfl (WC.skip (WX.then_normal (WC.seq (WC.region (WL.move rfl rfl (?_))))))))
  refine WL.nilCheck rfl rfl (WL.fieldAddr (fld_79_0) rfl rfl (WL.loadB Tryz.isAgg3 hB rfl rfl rfl (WL.assign rfl rfl (WL.nil (WX.then_normal (WC.ret (?_)))))))
  refine WX.ret1 (.inl rfl) Tryz.results25 rfl ?_
  exact ⟨_, rfl, rfl, hw⟩
theorem Sectors_calls {A : Nat → Prop} {w : World} {R : Nat} {s : RA} (h : RK A w R s) : Calls Tryz.prog 38 [ptr R].toArray w (Ret fun v w' => v = vi s.sn ∧ Chg Nob w w') := by
  obtain ⟨m, ga, gc, wa, wc, ws, ls, hB, -⟩ := h.ex
  have hw := Chg.refl Nob w
  refine Calls.of_WC Tryz.func38 rfl Tryz.ntmps38 (by simp) ?_
  refine WC.seq (WC.region (WL.assign rfl rfl (WL.nil (WX.then_normal (WC.seq (WC.seq (WC.region (?_))))))))
  refine WL.move rfl rfl (?_)
  refine WL.ptrNil Tryz.underlying27 rfl rfl rfl ?_
  refine WL.nil (WX.then_normal (WC.cond_false rfl (WC.skip (WX.then_normal (WC.seq (WC.region (WL.move rfl rfl (?_))))))))
  refine WL.nilCheck rfl rfl (WL.fieldAddr (fld_79_1) rfl rfl (WL.loadB Tryz.isAgg3 hB rfl rfl rfl (WL.assign rfl rfl (WL.nil (WX.then_normal (WC.ret (?_)))))))
  refine WX.ret1 (.inl rfl) Tryz.results38 rfl ?_
  exact ⟨_, rfl, rfl, hw⟩
/-- why a sector isn't to be had: 0: it is -/
def errS (s : RA) (d a : Int) : Int := if ¬ inS s d a then 1 else if goneS s d = true then 3 else if s.off = true then 16 else 0
theorem Read_calls {A : Nat → Prop} {w : World} {R : Nat} {s : RA} (h : RK A w R s) (d a : Int) :
    Calls Tryz.prog 30 [ptr R, vi d, vi a].toArray w (Ret fun v w' => (∃ (r : Rw) (e : Int), v = .tuple #[vsl r, vi e] ∧ e = errS s d a ∧ (e = 0 → r.xs = heldS s (d, a)) ∧ (e ≠ 0 → r = ⟨none, 0, []⟩) ∧ Row (w.heap.size ≤ ·) w' 5 eb r.ao r.cap r.xs) ∧ Chg Nob w w') := by
  have hw := Chg.refl Nob w
  refine Calls.of_WC Tryz.func30 rfl Tryz.ntmps30 (by simp) ?_
  refine WC.seq (WC.region (WL.assign rfl rfl (WL.assign rfl rfl (WL.nil (WX.then_normal (WC.seq (WC.block (?_))))))))
  refine WC.seq (WC.region (WL.move rfl rfl (WL.move rfl rfl (WL.move rfl rfl (?_)))))
  refine WL.call eg_56 rfl rfl (in_calls h d a) ?_
  rintro v w1 ⟨rfl, k1⟩
  have zs_k1 := k1.size
  replace h := h.pure k1
  replace hw := hw.pure k1
  obtain ⟨m, ga, gc, wa, wc, ws, ls, hB, hI, -⟩ := h.ex
  by_cases h12 : inS s d a
  ·
    rw [show decide (0 ≤ d ∧ d < (s.dn : Int) ∧ 0 ≤ a ∧ a < (s.sn : Int)) = true from decide_eq_true h12]
    refine WL.not rfl rfl (WL.assign rfl rfl (WL.nil (WX.then_normal (WC.cond_false rfl (WC.seq (WC.region (WL.move rfl rfl (?_))))))))
    refine WL.nilCheck rfl rfl (WL.fieldAddr (fld_79_3) rfl rfl (WL.loadB Tryz.isAgg55 hB rfl rfl rfl (WL.move rfl rfl (?_))))
    have hgd := goneS_at h.ok (d := d) ⟨h12.1, h12.2.1⟩
    refine WL.indexT (e := ebool) Tryz.underlying55 Tryz.sizeOf4 hI.gone.rsl rfl rfl ⟨hgd, by have := h12.1; omega⟩ rfl ?_
    intro bb oo hcc
    refine WL.load Tryz.isAgg4 rfl (hcc 0 _ rfl) rfl ?_
    rcases hg : goneS s d with _ | _
    ·
      refine WL.assign rfl rfl (WL.nil (WX.then_normal (WC.cond_false rfl (WC.seq (WC.region (WL.move rfl rfl (WL.nilCheck rfl rfl (?_))))))))
      refine WL.fieldAddr (fld_79_5) rfl rfl (?_)
      refine WL.loadB Tryz.isAgg4 hB rfl rfl rfl ?_
      rcases ho : s.off with _ | _
      ·
        refine WL.assign rfl rfl (WL.nil (WX.then_normal (WC.cond_false rfl (WC.skip (WX.block_normal (WX.then_normal (WC.seq (?_))))))))
        refine WC.region (WL.move rfl rfl (WL.move rfl rfl (WL.move rfl rfl (WL.bld rfl (bld_103_0_1 _ _) rfl (?_)))))
        refine WL.call eg_58 rfl rfl (held_calls h (d, a)) ?_
        rintro v w2 ⟨⟨r, rfl, hr, hx⟩, k2⟩
        have zs_k2 := k2.size
        replace h := h.pure k2
        replace hw := hw.pure k2
        replace hB := hB.pure k2
        replace hI := hI.pure k2
        refine WL.call eg_57 rfl rfl (bclone_calls hr (by rw [hx]; exact heldS_len h.ok _)) ?_
        rintro v w3 ⟨⟨g, c, rfl, hq, hq1, hq2⟩, k3⟩
        have zs_k3 := k3.size
        replace h := h.pure k3
        replace hw := hw.pure k3
        replace hB := hB.pure k3
        replace hI := hI.pure k3
        replace hr := hr.pure k3
        refine WL.assign rfl rfl (WL.assign rfl rfl (WL.nil (WX.then_normal (WC.ret (?_)))))
        refine WX.ret2 (.inl rfl) Tryz.results30 rfl rfl ?_
        exact ⟨_, rfl, ⟨⟨some ⟨g, 0, none⟩, c, r.xs⟩, 0, rfl, by simp [errS, h12, hg, ho], fun _ => hx, fun h0 => absurd rfl h0, hq.mono (fun b hb => by omega)⟩, hw⟩
      ·
        refine WL.assign rfl rfl (WL.nil (WX.then_normal (WC.cond_true rfl (WC.seq (WC.region (WL.assign rfl rfl (WL.assign rfl rfl (?_))))))))
        refine WL.nil (WX.then_normal (WC.ret (WX.block_ret (WX.then_ret (?_)))))
        refine WX.ret2 (.inl rfl) Tryz.results30 rfl rfl ?_
        exact ⟨_, rfl, ⟨⟨none, 0, []⟩, 16, rfl, by simp [errS, h12, hg, ho], fun h0 => absurd h0 (by decide), fun _ => rfl, Row.nil _ _ _ _⟩, hw⟩
    ·
      refine WL.assign rfl rfl (WL.nil (WX.then_normal (WC.cond_true rfl (WC.seq (WC.region (WL.assign rfl rfl (WL.assign rfl rfl (?_))))))))
      refine WL.nil (WX.then_normal (WC.ret (WX.block_ret (WX.then_ret (?_)))))
      refine WX.ret2 (.inl rfl) Tryz.results30 rfl rfl ?_
      exact ⟨_, rfl, ⟨⟨none, 0, []⟩, 3, rfl, by simp [errS, h12, hg], fun h0 => absurd h0 (by decide), fun _ => rfl, Row.nil _ _ _ _⟩, hw⟩
  ·
    rw [show decide (0 ≤ d ∧ d < (s.dn : Int) ∧ 0 ≤ a ∧ a < (s.sn : Int)) = false from decide_eq_false h12]
    refine WL.not rfl rfl (WL.assign rfl rfl (WL.nil (WX.then_normal (WC.cond_true rfl (WC.seq (WC.region (WL.assign rfl rfl (?_))))))))
    refine WL.assign rfl rfl (WL.nil (WX.then_normal (WC.ret (WX.block_ret (WX.then_ret (?_))))))
    refine WX.ret2 (.inl rfl) Tryz.results30 rfl rfl ?_
    exact ⟨_, rfl, ⟨⟨none, 0, []⟩, 1, rfl, by simp [errS, h12], fun h0 => absurd h0 (by decide), fun _ => rfl, Row.nil _ _ _ _⟩, hw⟩
/-! a write or flush is counted -/
def offS (s : RA) : Bool := s.off || (s.armed && decide (s.left = 0))
def spendS (s : RA) : RA := if offS s = true then { s with off := true } else { s with left := if s.armed = true then s.left - 1 else s.left }
theorem spendS_ok {s : RA} (h : s.ok) : (spendS s).ok := by
  unfold spendS
  split
  · exact ⟨h.dn, h.sn, h.gl, h.ll, h.lw, h.lf, h.nd⟩
  · rename_i h1
    refine ⟨h.dn, h.sn, h.gl, h.ll, h.lw, ?_, h.nd⟩
    obtain ⟨l1, l2, l3⟩ := h.lf
    show (s.armed = true → 0 ≤ (if s.armed = true then s.left - 1 else s.left)) ∧ _ ≤ (if s.armed = true then s.left - 1 else s.left) ∧ (if s.armed = true then s.left - 1 else s.left) ≤ _
    by_cases h2 : s.armed = true
    · rw [if_pos h2]
      have := l1 h2
      simp [offS, h2] at h1
      have h3 := h1.2
      refine ⟨fun _ => ?_, ?_, ?_⟩ <;> omega
    · rw [if_neg h2]
      exact ⟨fun h3 => absurd h3 h2, l2, l3⟩
theorem spend_calls {A : Nat → Prop} {w : World} {R : Nat} {s : RA} (h : RK A w R s) :
    Calls Tryz.prog 55 [ptr R].toArray w (Ret fun v w' => v = .bool (!offS s) ∧ RK A w' R (spendS s) ∧ Chg (fun x => x = R) w w' ∧ w'.heap.size = w.heap.size) := by
  have aR := h.aR
  have hok := h.ok
  have hsok := spendS_ok h.ok
  obtain ⟨m, ga, gc, wa, wc, ws, ls, hB, hI, hls, hws⟩ := h.ex
  replace hI := hI.open hB
  have hw := Chg.refl (fun x => x = R) w
  have hsz : w.heap.size = w.heap.size := rfl
  refine Calls.of_WC Tryz.func55 rfl Tryz.ntmps55 (by simp) ?_
  refine WC.seq (WC.region (WL.assign rfl rfl (WL.nil (WX.then_normal (WC.seq (WC.seq (WC.region (?_))))))))
  refine WL.move rfl rfl (WL.nilCheck rfl rfl (WL.fieldAddr (fld_79_6) rfl rfl (WL.loadB Tryz.isAgg4 hB rfl rfl rfl (WL.move rfl rfl (?_)))))
  refine WL.caseB (t := 7) rfl (fun hb7 => ?_) (fun hb7 => ?_)
  ·
    refine WL.want rfl rfl rfl (WL.move rfl rfl (WL.want rfl rfl rfl (WL.nilCheck rfl rfl (WL.want rfl rfl rfl (WL.fieldAddr (fld_79_7) rfl rfl (WL.want rfl rfl rfl (WL.loadB Tryz.isAgg3 hB rfl rfl rfl (?_))))))))
    refine WL.want rfl rfl rfl (?_)
    refine WL.eql? rfl rfl rfl (fun h12 => ?_) (fun h12 => ?_)
    ·
      refine WL.pickT rfl rfl rfl (WL.nil (WX.then_normal (WC.cond_true rfl (WC.region (WL.move rfl rfl (WL.nilCheck rfl rfl (WL.fieldAddr (fld_79_5) rfl rfl (?_))))))))
      refine WL.store Tryz.sizeOf4 hB rfl rfl rfl rfl ?_
      intro w_1 hs_1 hn_1 k_1
      have zs_k_1 := k_1.size
      replace hI := hI.chg k_1 (by intro b h1 h2 h3; have h4 : _ = _ := h3; (try dsimp only at h2); exfalso; omega)
      replace hw := hw.chg k_1 (by intro x h1 h2; exact h2)
      replace hB := hn_1
      refine WL.nil (WX.then_normal (WC.seq (WC.seq (WC.region (WL.move rfl rfl (WL.nilCheck rfl rfl (WL.fieldAddr (fld_79_5) rfl rfl (?_))))))))
      refine WL.loadB Tryz.isAgg4 hB rfl rfl rfl (WL.nil (WX.then_normal (?_)))
      first | refine WC.cond_dec rfl (fun hc20 => ?_) (fun hc20 => ?_) | refine WC.cond_split rfl (fun hc20 => ?_) (fun hc20 => ?_)
      ·
        refine WC.seq (WC.region (WL.assign rfl rfl (WL.nil (WX.then_normal (WC.ret (WX.then_ret (?_)))))))
        refine WX.ret1 (.inl rfl) Tryz.results55 rfl ?_
        refine ⟨_, rfl, ?_, ⟨aR, hsok, m, ga, gc, wa, wc, ws, ls, Eq.mp (congrArg (Blk _ R 79) ?_) hB, ?_, ?_, ?_⟩, hw, by omega⟩
        ·
          congr 1
          simp [offS, *]
        ·
          simp [rcells, spendS, offS, *]
        ·
          refine (show (spendS s).gone = s.gone from ?_) ▸ hI.mono (fun b hb => hb.1)
          unfold spendS
          split <;> rfl
        ·
          rw [← hls]
          unfold spendS
          split <;> rfl
        ·
          rw [← hws]
          unfold spendS
          split <;> rfl
      ·
        refine WC.skip (WX.then_normal (WC.seq (WC.seq (WC.region (WL.move rfl rfl (WL.nilCheck rfl rfl (WL.fieldAddr (fld_79_6) rfl rfl (?_))))))))
        refine WL.loadB Tryz.isAgg4 hB rfl rfl rfl (WL.nil (WX.then_normal (?_)))
        first | refine WC.cond_dec rfl (fun hc24 => ?_) (fun hc24 => ?_) | refine WC.cond_split rfl (fun hc24 => ?_) (fun hc24 => ?_)
        ·
          refine WC.region (WL.move rfl rfl (WL.nilCheck rfl rfl (WL.fieldAddr (fld_79_7) rfl rfl (WL.loadB Tryz.isAgg3 hB rfl rfl rfl (?_)))))
          have hl0 := hok.lf.1 hc24
          have hl1 := hok.lf.2.2
          refine WL.sub64 rfl rfl (by constructor <;> omega) rfl ?_
          refine WL.nilCheck rfl rfl (WL.fieldAddr (fld_79_7) rfl rfl (?_))
          refine WL.store Tryz.sizeOf3 hB rfl rfl rfl rfl ?_
          intro w_2 hs_2 hn_2 k_2
          have zs_k_2 := k_2.size
          replace hI := hI.chg k_2 (by intro b h1 h2 h3; have h4 : _ = _ := h3; (try dsimp only at h2); exfalso; omega)
          replace hw := hw.chg k_2 (by intro x h1 h2; exact h2)
          replace hB := hn_2
          refine WL.nil (WX.then_normal (WC.seq (WC.region (WL.assign rfl rfl (WL.nil (WX.then_normal (WC.ret (?_))))))))
          refine WX.ret1 (.inl rfl) Tryz.results55 rfl ?_
          exfalso; cases hc20; done
        ·
          refine WC.skip (WX.then_normal (WC.seq (WC.region (WL.assign rfl rfl (WL.nil (WX.then_normal (WC.ret (?_))))))))
          refine WX.ret1 (.inl rfl) Tryz.results55 rfl ?_
          exfalso; cases hc20; done
    ·
      refine WL.pickT rfl rfl rfl (WL.nil (WX.then_normal (WC.cond_false rfl (WC.skip (WX.then_normal (WC.seq (WC.seq (?_))))))))
      refine WC.region (WL.move rfl rfl (WL.nilCheck rfl rfl (WL.fieldAddr (fld_79_5) rfl rfl (WL.loadB Tryz.isAgg4 hB rfl rfl rfl (WL.nil (WX.then_normal (?_)))))))
      first | refine WC.cond_dec rfl (fun hc20 => ?_) (fun hc20 => ?_) | refine WC.cond_split rfl (fun hc20 => ?_) (fun hc20 => ?_)
      ·
        refine WC.seq (WC.region (WL.assign rfl rfl (WL.nil (WX.then_normal (WC.ret (WX.then_ret (?_)))))))
        refine WX.ret1 (.inl rfl) Tryz.results55 rfl ?_
        refine ⟨_, rfl, ?_, ⟨aR, hsok, m, ga, gc, wa, wc, ws, ls, Eq.mp (congrArg (Blk _ R 79) ?_) hB, ?_, ?_, ?_⟩, hw, by omega⟩
        ·
          congr 1
          simp [offS, *]
        ·
          simp [rcells, spendS, offS, *]
        ·
          refine (show (spendS s).gone = s.gone from ?_) ▸ hI.mono (fun b hb => hb.1)
          unfold spendS
          split <;> rfl
        ·
          rw [← hls]
          unfold spendS
          split <;> rfl
        ·
          rw [← hws]
          unfold spendS
          split <;> rfl
      ·
        refine WC.skip (WX.then_normal (WC.seq (WC.seq (WC.region (WL.move rfl rfl (WL.nilCheck rfl rfl (WL.fieldAddr (fld_79_6) rfl rfl (?_))))))))
        refine WL.loadB Tryz.isAgg4 hB rfl rfl rfl (WL.nil (WX.then_normal (?_)))
        first | refine WC.cond_dec rfl (fun hc24 => ?_) (fun hc24 => ?_) | refine WC.cond_split rfl (fun hc24 => ?_) (fun hc24 => ?_)
        ·
          refine WC.region (WL.move rfl rfl (WL.nilCheck rfl rfl (WL.fieldAddr (fld_79_7) rfl rfl (WL.loadB Tryz.isAgg3 hB rfl rfl rfl (?_)))))
          have hl0 := hok.lf.1 hc24
          have hl1 := hok.lf.2.2
          refine WL.sub64 rfl rfl (by constructor <;> omega) rfl ?_
          refine WL.nilCheck rfl rfl (WL.fieldAddr (fld_79_7) rfl rfl (?_))
          refine WL.store Tryz.sizeOf3 hB rfl rfl rfl rfl ?_
          intro w_1 hs_1 hn_1 k_1
          have zs_k_1 := k_1.size
          replace hI := hI.chg k_1 (by intro b h1 h2 h3; have h4 : _ = _ := h3; (try dsimp only at h2); exfalso; omega)
          replace hw := hw.chg k_1 (by intro x h1 h2; exact h2)
          replace hB := hn_1
          refine WL.nil (WX.then_normal (WC.seq (WC.region (WL.assign rfl rfl (WL.nil (WX.then_normal (WC.ret (?_))))))))
          refine WX.ret1 (.inl rfl) Tryz.results55 rfl ?_
          refine ⟨_, rfl, ?_, ⟨aR, hsok, m, ga, gc, wa, wc, ws, ls, Eq.mp (congrArg (Blk _ R 79) ?_) hB, ?_, ?_, ?_⟩, hw, by omega⟩
          ·
            congr 1
            simp [offS, *]
          ·
            simp [rcells, spendS, offS, *]
          ·
            refine (show (spendS s).gone = s.gone from ?_) ▸ hI.mono (fun b hb => hb.1)
            unfold spendS
            split <;> rfl
          ·
            rw [← hls]
            unfold spendS
            split <;> rfl
          ·
            rw [← hws]
            unfold spendS
            split <;> rfl
        ·
          refine WC.skip (WX.then_normal (WC.seq (WC.region (WL.assign rfl rfl (WL.nil (WX.then_normal (WC.ret (?_))))))))
          refine WX.ret1 (.inl rfl) Tryz.results55 rfl ?_
          exfalso; rw [hb7] at hc24; cases hc24; done
  ·
    refine WL.pass rfl rfl rfl rfl (WL.pass rfl rfl rfl rfl (WL.pass rfl rfl rfl rfl (WL.pass rfl rfl rfl rfl (WL.pass rfl rfl rfl rfl (WL.pickF rfl rfl rfl (WL.nil (WX.then_normal (?_))))))))
    refine WC.cond_false rfl (WC.skip (WX.then_normal (WC.seq (WC.seq (WC.region (WL.move rfl rfl (WL.nilCheck rfl rfl (?_))))))))
    refine WL.fieldAddr (fld_79_5) rfl rfl (WL.loadB Tryz.isAgg4 hB rfl rfl rfl (WL.nil (WX.then_normal (?_))))
    first | refine WC.cond_dec rfl (fun hc20 => ?_) (fun hc20 => ?_) | refine WC.cond_split rfl (fun hc20 => ?_) (fun hc20 => ?_)
    ·
      refine WC.seq (WC.region (WL.assign rfl rfl (WL.nil (WX.then_normal (WC.ret (WX.then_ret (?_)))))))
      refine WX.ret1 (.inl rfl) Tryz.results55 rfl ?_
      refine ⟨_, rfl, ?_, ⟨aR, hsok, m, ga, gc, wa, wc, ws, ls, Eq.mp (congrArg (Blk _ R 79) ?_) hB, ?_, ?_, ?_⟩, hw, by omega⟩
      ·
        congr 1
        simp [offS, *]
      ·
        simp [rcells, spendS, offS, *]
      ·
        refine (show (spendS s).gone = s.gone from ?_) ▸ hI.mono (fun b hb => hb.1)
        unfold spendS
        split <;> rfl
      ·
        rw [← hls]
        unfold spendS
        split <;> rfl
      ·
        rw [← hws]
        unfold spendS
        split <;> rfl
    ·
      refine WC.skip (WX.then_normal (WC.seq (WC.seq (WC.region (WL.move rfl rfl (WL.nilCheck rfl rfl (WL.fieldAddr (fld_79_6) rfl rfl (?_))))))))
      refine WL.loadB Tryz.isAgg4 hB rfl rfl rfl (WL.nil (WX.then_normal (?_)))
      first | refine WC.cond_dec rfl (fun hc24 => ?_) (fun hc24 => ?_) | refine WC.cond_split rfl (fun hc24 => ?_) (fun hc24 => ?_)
      ·
        refine WC.region (WL.move rfl rfl (WL.nilCheck rfl rfl (WL.fieldAddr (fld_79_7) rfl rfl (WL.loadB Tryz.isAgg3 hB rfl rfl rfl (?_)))))
        have hl0 := hok.lf.1 hc24
        have hl1 := hok.lf.2.2
        refine WL.sub64 rfl rfl (by constructor <;> omega) rfl ?_
        refine WL.nilCheck rfl rfl (WL.fieldAddr (fld_79_7) rfl rfl (?_))
        refine WL.store Tryz.sizeOf3 hB rfl rfl rfl rfl ?_
        intro w_1 hs_1 hn_1 k_1
        have zs_k_1 := k_1.size
        replace hI := hI.chg k_1 (by intro b h1 h2 h3; have h4 : _ = _ := h3; (try dsimp only at h2); exfalso; omega)
        replace hw := hw.chg k_1 (by intro x h1 h2; exact h2)
        replace hB := hn_1
        refine WL.nil (WX.then_normal (WC.seq (WC.region (WL.assign rfl rfl (WL.nil (WX.then_normal (WC.ret (?_))))))))
        refine WX.ret1 (.inl rfl) Tryz.results55 rfl ?_
        exfalso; rw [hb7] at hc24; cases hc24; done
      ·
        refine WC.skip (WX.then_normal (WC.seq (WC.region (WL.assign rfl rfl (WL.nil (WX.then_normal (WC.ret (?_))))))))
        refine WX.ret1 (.inl rfl) Tryz.results55 rfl ?_
        refine ⟨_, rfl, ?_, ⟨aR, hsok, m, ga, gc, wa, wc, ws, ls, Eq.mp (congrArg (Blk _ R 79) ?_) hB, ?_, ?_, ?_⟩, hw, by omega⟩
        ·
          congr 1
          simp [offS, *]
        ·
          simp [rcells, spendS, offS, *]
        ·
          refine (show (spendS s).gone = s.gone from ?_) ▸ hI.mono (fun b hb => hb.1)
          unfold spendS
          split <;> rfl
        ·
          rw [← hls]
          unfold spendS
          split <;> rfl
        ·
          rw [← hws]
          unfold spendS
          split <;> rfl
end Go.Proofs.YtggecdldnpildaaGreat
namespace Go.Proofs.YtggecdldnpildaaGreat
open Go.RowKit Go.HL
set_option maxRecDepth 100000

/-! a write -/
theorem spendS_dn (s : RA) : (spendS s).dn = s.dn := by unfold spendS; split <;> rfl
theorem spendS_sn (s : RA) : (spendS s).sn = s.sn := by unfold spendS; split <;> rfl
theorem spendS_gone (s : RA) : (spendS s).gone = s.gone := by unfold spendS; split <;> rfl
theorem spendS_waits (s : RA) : (spendS s).waits = s.waits := by unfold spendS; split <;> rfl
theorem spendS_last (s : RA) : (spendS s).last = s.last := by unfold spendS; split <;> rfl
def writeE (s : RA) (d a : Int) (n : Nat) : Int := if ¬ inS s d a ∨ n ≠ 128 then 1 else if goneS s d = true then 3 else if offS s = true then 16 else 0
def writeS (s : RA) (d a : Int) (b : List UInt8) : RA := if writeE s d a b.length = 0 then { spendS s with waits := s.waits ++ [((d, a), b)] } else if writeE s d a b.length = 16 then spendS s else s
theorem writeE_0 {s : RA} {d a : Int} {n : Nat} : writeE s d a n = 0 ↔ inS s d a ∧ n = 128 ∧ goneS s d = false ∧ offS s = false := by
  unfold writeE
  by_cases h1 : inS s d a <;> by_cases h2 : n = 128 <;> cases h3 : goneS s d <;> cases h4 : offS s <;> simp [h1, h2]
theorem writeS_ok {s : RA} (h : s.ok) (d a : Int) (b : List UInt8) : (writeS s d a b).ok := by
  have h1 := spendS_ok h
  unfold writeS
  split
  · rename_i h2
    have hb := (writeE_0.1 h2).2.1
    refine ⟨h1.dn, h1.sn, h1.gl, h1.ll, fun p hp => ?_, h1.lf, h1.nd⟩
    rcases List.mem_append.1 hp with h3 | h3
    · exact h.lw p h3
    · simp at h3
      rw [h3]
      exact hb
  · split
    · exact h1
    · exact h
theorem Write_calls {A S : Nat → Prop} {w : World} {R : Nat} {s : RA} (h : RK A w R s) (d a : Int) {ao : Option Addr} {c : Nat} {b : List UInt8} (hb : RSl S w eb ao c b) (hS : ∀ x, S x → x = R → False) (hn : s.waits.length ≤ 100000) :
    Calls Tryz.prog 31 [ptr R, vi d, vi a, .slice ao b.length c].toArray w (Ret fun v w' => v = vi (writeE s d a b.length) ∧ RK (fun x => A x ∨ w.heap.size ≤ x) w' R (writeS s d a b) ∧ Chg A w w') := by
  have aR := h.aR
  have hok := h.ok
  have hwok := writeS_ok h.ok d a b
  have hcap := hb.cap
  have hlen : b.length ≤ 140737488355328 ∨ 140737488355328 < b.length := by omega
  have hw := Chg.refl A w
  refine Calls.of_WC Tryz.func31 rfl Tryz.ntmps31 (by simp) ?_
  refine WC.seq (WC.region (WL.assign rfl rfl (WL.nil (WX.then_normal (WC.seq (WC.block (WC.seq (?_))))))))
  refine WC.region (WL.move rfl rfl (WL.move rfl rfl (WL.move rfl rfl (?_))))
  refine WL.call eg_56 rfl rfl (in_calls h d a) ?_
  rintro v w1 ⟨rfl, k1⟩
  have zs_k1 := k1.size
  replace h := h.pure k1
  replace hb := hb.pure k1
  replace hw := hw.pure k1
  by_cases h12 : inS s d a
  ·
    rw [show decide (0 ≤ d ∧ d < (s.dn : Int) ∧ 0 ≤ a ∧ a < (s.sn : Int)) = true from decide_eq_true h12]
    refine WL.not rfl rfl (WL.move rfl rfl (WL.want rfl rfl rfl (WL.move rfl rfl (WL.want rfl rfl rfl (WL.len Tryz.underlying26 rfl rfl (WL.want rfl rfl rfl (?_)))))))
    refine WL.neq? rfl rfl rfl (fun h18 => ?_) (fun h18 => ?_)
    ·
      refine WL.pickF rfl rfl rfl (WL.assign rfl rfl (WL.nil (WX.then_normal (WC.cond_true rfl (WC.seq (WC.region (WL.assign rfl rfl (?_))))))))
      refine WL.nil (WX.then_normal (WC.ret (WX.block_ret (WX.then_ret (?_)))))
      refine WX.ret1 (.inl rfl) Tryz.results31 rfl ?_
      have hh : (b.length : Int) ≠ 128 := h18
      have hh2 : b.length ≠ 128 := by omega
      exact ⟨_, rfl, by simp [writeE, hh2], by rw [show writeS s d a b = s from by simp [writeS, writeE, hh2]]; exact h.mono (fun x hx => .inl hx), hw⟩
    ·
      refine WL.pickF rfl rfl rfl (WL.assign rfl rfl (WL.nil (WX.then_normal (WC.cond_false rfl (WC.seq (WC.region (WL.move rfl rfl (?_))))))))
      refine WL.nilCheck rfl rfl (WL.fieldAddr (fld_79_3) rfl rfl (?_))
      obtain ⟨m, ga, gc, wa, wc, ws, ls, hB, hI, -⟩ := h.ex
      refine WL.loadB Tryz.isAgg55 hB rfl rfl rfl ?_
      refine WL.move rfl rfl (?_)
      have hgd := goneS_at h.ok (d := d) ⟨h12.1, h12.2.1⟩
      refine WL.indexT (e := ebool) Tryz.underlying55 Tryz.sizeOf4 hI.gone.rsl rfl rfl ⟨hgd, by have := h12.1; omega⟩ rfl ?_
      intro bb oo hcc
      refine WL.load Tryz.isAgg4 rfl (hcc 0 _ rfl) rfl ?_
      rcases hg : goneS s d with _ | _
      ·
        refine WL.assign rfl rfl (WL.nil (WX.then_normal (WC.cond_false rfl (WC.seq (WC.region (WL.move rfl rfl (?_)))))))
        clear hB hI hcc
        refine WL.call eg_55 rfl rfl (spend_calls h) ?_
        rintro v w2 ⟨rfl, h2, k2, z2⟩
        have zs_k2 := k2.size
        replace hb := hb.chg k2 (by intro x h0 h1 h2; exact hS x h1 h2)
        replace hw := hw.chg k2 (by intro x h1 h2; have h3 : _ = _ := h2; subst h3; assumption)
        rcases ho : offS s with _ | _
        ·
          refine WL.not rfl rfl (WL.assign rfl rfl (WL.nil (WX.then_normal (WC.cond_false rfl (WC.skip (WX.block_normal (WX.then_normal (?_))))))))
          refine WC.seq (?_)
          obtain ⟨m, ga, gc, wa, wc, ws, ls, hB, hI, hls, hws⟩ := h2.ex
          replace hI := (hI.open hB).mono (S' := fun x => (A x ∨ w.heap.size ≤ x) ∧ x ≠ R) (fun x hx => ⟨.inl hx.1, hx.2⟩)
          have aR2 : A R ∨ w.heap.size ≤ R := .inl aR
          have lR := hB.lt
          have zw := hw.size
          have hwl : ws.length ≤ 100000 := by rw [← xsm_len, ← hws, spendS_waits]; exact hn
          refine WC.drawM ((fun x => A x ∨ w.heap.size ≤ x)) [0, 1, 2, 3, 5, 6, 7, 8, 13, 14] [4, 9, 10, 11, 12, 15] mixed rfl rfl (fun wd_1 kd_1 zd_1 => ?_)
          have zs_kd_1 := kd_1.size
          replace hb := hb.pure kd_1
          replace hw := hw.pure kd_1
          replace hB := hB.pure kd_1
          replace hI := hI.pure kd_1
          apply DQT.step (E' := [(0, _)])
          case ho => rfl
          case hs => exact ⟨rfl, trivial⟩
          case hk => rfl
          case h1 =>
            intro wq_3 kq_3
            refine WL.move rfl rfl (?_)
            refine WL.nil ?_
            exact WX.one ⟨rfl, by exact Chg.refl _ _⟩
          apply DQT.step (E' := [(0, _)])
          case ho => rfl
          case hs => exact ⟨rfl, trivial⟩
          case hk => rfl
          case h1 =>
            intro wq_4 kq_4
            refine WL.move rfl rfl (?_)
            refine WL.nil ?_
            exact WX.one ⟨rfl, by exact Chg.refl _ _⟩
          apply DQT.step (E' := [(33, _)])
          case ho => rfl
          case hs => exact ⟨rfl, trivial⟩
          case hk => rfl
          case h1 =>
            intro wq_5 kq_5
            refine WL.nilCheck rfl rfl (?_)
            refine WL.nil ?_
            exact WX.one ⟨rfl, by exact Chg.refl _ _⟩
          apply DQT.step (E' := [(34, _)])
          case ho => rfl
          case hs => exact ⟨rfl, trivial⟩
          case hk => rfl
          case h1 =>
            intro wq_6 kq_6
            refine WL.fieldAddr (fld_79_4) rfl rfl (?_)
            refine WL.nil ?_
            exact WX.one ⟨rfl, by exact Chg.refl _ _⟩
          apply DQT.step (E' := [(1, _)])
          case ho => rfl
          case hs => exact ⟨rfl, trivial⟩
          case hk => rfl
          case h1 =>
            intro wq_7 kq_7
            refine WL.move rfl rfl (?_)
            refine WL.nil ?_
            exact WX.one ⟨rfl, by exact Chg.refl _ _⟩
          apply DQT.step (E' := [(2, _)])
          case ho => rfl
          case hs => exact ⟨rfl, trivial⟩
          case hk => rfl
          case h1 =>
            intro wq_8 kq_8
            refine WL.move rfl rfl (?_)
            refine WL.nil ?_
            exact WX.one ⟨rfl, by exact Chg.refl _ _⟩
          apply DQT.step (E' := [(37, _), (38, _)])
          case ho => rfl
          case hs => exact ⟨rfl, rfl, trivial⟩
          case hk => rfl
          case h1 =>
            intro wq_9 kq_9
            refine WL.bld rfl (bld_103_0_1 _ _) rfl (?_)
            refine WL.nil ?_
            exact WX.one ⟨rfl, by exact Chg.refl _ _⟩
          apply DQT.step (E' := [(3, _)])
          case ho => rfl
          case hs => exact ⟨rfl, trivial⟩
          case hk => rfl
          case h1 =>
            intro wq_10 kq_10
            refine WL.move rfl rfl (?_)
            refine WL.nil ?_
            exact WX.one ⟨rfl, by exact Chg.refl _ _⟩
          apply DQT.step (E' := [(32, _)])
          case ho => rfl
          case hs => exact ⟨rfl, trivial⟩
          case hk => rfl
          case h1 =>
            intro wq_11 kq_11
            refine WL.nilCheck rfl rfl (?_)
            refine WL.nil ?_
            exact WX.one ⟨rfl, by exact Chg.refl _ _⟩
          apply DQT.step (E' := [(45, _)])
          case ho => rfl
          case hs => exact ⟨rfl, trivial⟩
          case hk => rfl
          case h1 =>
            intro wq_12 kq_12
            refine WL.fieldAddr (fld_79_4) rfl rfl (?_)
            refine WL.nil ?_
            exact WX.one ⟨rfl, by exact Chg.refl _ _⟩
          refine DQT.done (fun hd_2 => ?_)
          refine ⟨?_, ?_, trivial, trivial, trivial, trivial, trivial⟩
          refine DT.step [(35, _)] rfl ⟨rfl, trivial⟩ rfl (fun wq_13 kq_13 => ?_)
          have zs_kq_13 := kq_13.size
          replace hb := hb.pure kq_13
          replace hw := hw.pure kq_13
          replace hB := hB.pure kq_13
          replace hI := hI.pure kq_13
          replace hd_2 := hd_2.pure kq_13
          refine WL.loadB Tryz.isAgg77 hB rfl rfl rfl (?_)
          refine WL.nil (WX.one ⟨hd_2, ?_⟩)
          refine ⟨?_, trivial, trivial, trivial, trivial, trivial⟩
          refine DT.step [(40, _)] rfl ⟨rfl, trivial⟩ rfl (fun wq_14 kq_14 => ?_)
          have zs_kq_14 := kq_14.size
          replace hb := hb.pure kq_14
          replace hw := hw.pure kq_14
          replace hB := hB.pure kq_14
          replace hI := hI.pure kq_14
          replace hd_2 := hd_2.pure kq_14
          refine WL.call eg_57 rfl rfl (bclone_calls hb (by omega)) ?_
          rintro v w3 ⟨⟨gq, cq, rfl, hq, hq1, hq2⟩, k3⟩
          have zs_k3 := k3.size
          replace hb := hb.pure k3
          replace hw := hw.pure k3
          replace hB := hB.pure k3
          replace hI := hI.pure k3
          replace hd_2 := hd_2.pure k3
          refine WL.nil (WX.one ⟨hd_2, ?_⟩)
          refine ⟨?_, trivial, trivial, trivial, trivial⟩
          refine DT.step [(39, _), (41, _)] rfl ⟨rfl, rfl, trivial⟩ rfl (fun wq_15 kq_15 => ?_)
          have zs_kq_15 := kq_15.size
          replace hb := hb.pure kq_15
          replace hw := hw.pure kq_15
          replace hB := hB.pure kq_15
          replace hI := hI.pure kq_15
          replace hd_2 := hd_2.pure kq_15
          replace hq := hq.pure kq_15
          refine WL.bld rfl (bld_105_0_1 _ _ _ _ _) rfl (?_)
          refine WL.nil (WX.one ⟨hd_2, ?_⟩)
          refine ⟨?_, trivial, trivial, trivial⟩
          refine DT.step [(42, _)] rfl ⟨rfl, trivial⟩ rfl (fun wq_16 kq_16 => ?_)
          have zs_kq_16 := kq_16.size
          replace hb := hb.pure kq_16
          replace hw := hw.pure kq_16
          replace hB := hB.pure kq_16
          replace hI := hI.pure kq_16
          replace hd_2 := hd_2.pure kq_16
          replace hq := hq.pure kq_16
          refine WL.build (e := ewr) [((d, a), ⟨some ⟨gq, 0, none⟩, cq, b⟩)] Tryz.underlying77 Tryz.sizeOf105 Tryz.zeroValue105 rfl rfl rfl (by simp [Value.cells] <;> rfl) (by decide) rfl ?_
          intro a_b43 w_b43 b43 l_b43 z_b43 k_b43
          have zs_k_b43 := k_b43.size
          replace hb := hb.pure k_b43
          replace hw := hw.pure k_b43
          replace hB := hB.pure k_b43
          replace hI := hI.pure k_b43
          replace hd_2 := hd_2.pure k_b43
          replace hq := hq.pure k_b43
          refine WL.nil (WX.one ⟨hd_2, ?_⟩)
          refine ⟨?_, trivial, trivial⟩
          refine DT.step [(36, _), (43, _)] rfl ⟨rfl, rfl, trivial⟩ rfl (fun wq_17 kq_17 => ?_)
          have zs_kq_17 := kq_17.size
          replace hb := hb.pure kq_17
          replace hw := hw.pure kq_17
          replace hB := hB.pure kq_17
          replace hI := hI.pure kq_17
          replace hd_2 := hd_2.pure kq_17
          replace hq := hq.pure kq_17
          replace b43 := b43.pure kq_17
          refine WL.append (e := ewr) info_105 rfl Tryz.underlying77 rfl rfl hI.waits (b43.rsl.src Tryz.underlying77) (by constructor <;> (simp only [List.length_cons, List.length_nil]; omega)) (fun x hx => ⟨.inr (by omega), by omega⟩) rfl ?_
          intro ao9 c9 w9 hb9 gg9 n9
          have hq9 : Row (fun x => (A x ∨ w.heap.size ≤ x) ∧ x ≠ R) _ 5 eb (some ⟨gq, 0, none⟩) cq b := hq.mono (fun x hx => ⟨.inr (by omega), by omega⟩)
          have hI9 := hI.setWaits hb9 gg9.chg (fun x hx => hx.1) (fun p hp => by
            rcases List.mem_append.1 hp with h3 | h3
            ·
              exact .inl ⟨p, h3, rfl⟩
            ·
              simp at h3
              right
              rw [h3]
              exact hq9)
          have gk : Chg (fun x => (A x ∨ w.heap.size ≤ x) ∧ x ≠ R) _ w9 := gg9.chg.mono (fun x _ hx => hx.2)
          have zs_gk := gk.size
          replace hw := hw.chg gk (by intro x h1 h2; rcases h2.1 with h3 | h3; exact h3; exfalso; omega)
          replace hB := hB.chg gk (by intro h1; exfalso; have h4 := h1.2; (try dsimp only at *); omega)
          replace hd_2 := hd_2.chg gk (by intro x h1 h2; exact h2.1)
          refine WL.nil (WX.one ⟨hd_2, ?_⟩)
          refine ⟨?_, trivial⟩
          refine DT.step [(46, _), (44, _)] rfl ⟨rfl, rfl, trivial⟩ rfl (fun wq_18 kq_18 => ?_)
          have zs_kq_18 := kq_18.size
          replace hw := hw.pure kq_18
          replace hB := hB.pure kq_18
          replace hd_2 := hd_2.pure kq_18
          replace hI9 := hI9.pure kq_18
          refine WL.store Tryz.sizeOf77 hB rfl rfl rfl rfl ?_
          intro w_19 hs_19 hn_19 k_19
          have zs_k_19 := k_19.size
          replace hw := hw.chg k_19 (by intro x h1 h2; have h3 : _ = _ := h2; subst h3; assumption)
          replace hd_2 := hd_2.chg k_19 (by intro x h1 h2; have h3 : _ = _ := h2; subst h3; assumption)
          replace hI9 := hI9.chg k_19 (by intro b h1 h2 h3; have h4 : _ = _ := h3; (try dsimp only at h2); exfalso; omega)
          replace hB := hn_19
          refine WL.nil (WX.one0 (v := undef) ⟨hd_2, ?_⟩)
          refine DT.done (fun we_20 ke_20 => ?_) _
          have zs_ke_20 := ke_20.size
          replace hw := hw.pure ke_20
          replace hB := hB.pure ke_20
          replace hd_2 := hd_2.pure ke_20
          replace hI9 := hI9.pure ke_20
          rotate_left
          refine DT.step [(40, _)] rfl ⟨rfl, trivial⟩ rfl (fun wq_13 kq_13 => ?_)
          have zs_kq_13 := kq_13.size
          replace hb := hb.pure kq_13
          replace hw := hw.pure kq_13
          replace hB := hB.pure kq_13
          replace hI := hI.pure kq_13
          replace hd_2 := hd_2.pure kq_13
          refine WL.call eg_57 rfl rfl (bclone_calls hb (by omega)) ?_
          rintro v w3 ⟨⟨gq, cq, rfl, hq, hq1, hq2⟩, k3⟩
          have zs_k3 := k3.size
          replace hb := hb.pure k3
          replace hw := hw.pure k3
          replace hB := hB.pure k3
          replace hI := hI.pure k3
          replace hd_2 := hd_2.pure k3
          refine WL.nil (WX.one ⟨hd_2, ?_⟩)
          refine ⟨?_, ?_, trivial, trivial, trivial, trivial⟩
          refine DT.step [(35, _)] rfl ⟨rfl, trivial⟩ rfl (fun wq_14 kq_14 => ?_)
          have zs_kq_14 := kq_14.size
          replace hb := hb.pure kq_14
          replace hw := hw.pure kq_14
          replace hB := hB.pure kq_14
          replace hI := hI.pure kq_14
          replace hd_2 := hd_2.pure kq_14
          replace hq := hq.pure kq_14
          refine WL.loadB Tryz.isAgg77 hB rfl rfl rfl (?_)
          refine WL.nil (WX.one ⟨hd_2, ?_⟩)
          refine ⟨?_, trivial, trivial, trivial, trivial⟩
          refine DT.step [(39, _), (41, _)] rfl ⟨rfl, rfl, trivial⟩ rfl (fun wq_15 kq_15 => ?_)
          have zs_kq_15 := kq_15.size
          replace hb := hb.pure kq_15
          replace hw := hw.pure kq_15
          replace hB := hB.pure kq_15
          replace hI := hI.pure kq_15
          replace hd_2 := hd_2.pure kq_15
          replace hq := hq.pure kq_15
          refine WL.bld rfl (bld_105_0_1 _ _ _ _ _) rfl (?_)
          refine WL.nil (WX.one ⟨hd_2, ?_⟩)
          refine ⟨?_, trivial, trivial, trivial⟩
          refine DT.step [(42, _)] rfl ⟨rfl, trivial⟩ rfl (fun wq_16 kq_16 => ?_)
          have zs_kq_16 := kq_16.size
          replace hb := hb.pure kq_16
          replace hw := hw.pure kq_16
          replace hB := hB.pure kq_16
          replace hI := hI.pure kq_16
          replace hd_2 := hd_2.pure kq_16
          replace hq := hq.pure kq_16
          refine WL.build (e := ewr) [((d, a), ⟨some ⟨gq, 0, none⟩, cq, b⟩)] Tryz.underlying77 Tryz.sizeOf105 Tryz.zeroValue105 rfl rfl rfl (by simp [Value.cells] <;> rfl) (by decide) rfl ?_
          intro a_b43 w_b43 b43 l_b43 z_b43 k_b43
          have zs_k_b43 := k_b43.size
          replace hb := hb.pure k_b43
          replace hw := hw.pure k_b43
          replace hB := hB.pure k_b43
          replace hI := hI.pure k_b43
          replace hd_2 := hd_2.pure k_b43
          replace hq := hq.pure k_b43
          refine WL.nil (WX.one ⟨hd_2, ?_⟩)
          refine ⟨?_, trivial, trivial⟩
          refine DT.step [(36, _), (43, _)] rfl ⟨rfl, rfl, trivial⟩ rfl (fun wq_17 kq_17 => ?_)
          have zs_kq_17 := kq_17.size
          replace hb := hb.pure kq_17
          replace hw := hw.pure kq_17
          replace hB := hB.pure kq_17
          replace hI := hI.pure kq_17
          replace hd_2 := hd_2.pure kq_17
          replace hq := hq.pure kq_17
          replace b43 := b43.pure kq_17
          refine WL.append (e := ewr) info_105 rfl Tryz.underlying77 rfl rfl hI.waits (b43.rsl.src Tryz.underlying77) (by constructor <;> (simp only [List.length_cons, List.length_nil]; omega)) (fun x hx => ⟨.inr (by omega), by omega⟩) rfl ?_
          intro ao9 c9 w9 hb9 gg9 n9
          have hq9 : Row (fun x => (A x ∨ w.heap.size ≤ x) ∧ x ≠ R) _ 5 eb (some ⟨gq, 0, none⟩) cq b := hq.mono (fun x hx => ⟨.inr (by omega), by omega⟩)
          have hI9 := hI.setWaits hb9 gg9.chg (fun x hx => hx.1) (fun p hp => by
            rcases List.mem_append.1 hp with h3 | h3
            ·
              exact .inl ⟨p, h3, rfl⟩
            ·
              simp at h3
              right
              rw [h3]
              exact hq9)
          have gk : Chg (fun x => (A x ∨ w.heap.size ≤ x) ∧ x ≠ R) _ w9 := gg9.chg.mono (fun x _ hx => hx.2)
          have zs_gk := gk.size
          replace hw := hw.chg gk (by intro x h1 h2; rcases h2.1 with h3 | h3; exact h3; exfalso; omega)
          replace hB := hB.chg gk (by intro h1; exfalso; have h4 := h1.2; (try dsimp only at *); omega)
          replace hd_2 := hd_2.chg gk (by intro x h1 h2; exact h2.1)
          refine WL.nil (WX.one ⟨hd_2, ?_⟩)
          refine ⟨?_, trivial⟩
          refine DT.step [(46, _), (44, _)] rfl ⟨rfl, rfl, trivial⟩ rfl (fun wq_18 kq_18 => ?_)
          have zs_kq_18 := kq_18.size
          replace hw := hw.pure kq_18
          replace hB := hB.pure kq_18
          replace hd_2 := hd_2.pure kq_18
          replace hI9 := hI9.pure kq_18
          refine WL.store Tryz.sizeOf77 hB rfl rfl rfl rfl ?_
          intro w_19 hs_19 hn_19 k_19
          have zs_k_19 := k_19.size
          replace hw := hw.chg k_19 (by intro x h1 h2; have h3 : _ = _ := h2; subst h3; assumption)
          replace hd_2 := hd_2.chg k_19 (by intro x h1 h2; have h3 : _ = _ := h2; subst h3; assumption)
          replace hI9 := hI9.chg k_19 (by intro b h1 h2 h3; have h4 : _ = _ := h3; (try dsimp only at h2); exfalso; omega)
          replace hB := hn_19
          refine WL.nil (WX.one0 (v := undef) ⟨hd_2, ?_⟩)
          refine DT.done (fun we_20 ke_20 => ?_) _
          have zs_ke_20 := ke_20.size
          replace hw := hw.pure ke_20
          replace hB := hB.pure ke_20
          replace hd_2 := hd_2.pure ke_20
          replace hI9 := hI9.pure ke_20
          rotate_left
          refine DT.step [(39, _), (41, _)] rfl ⟨rfl, rfl, trivial⟩ rfl (fun wq_14 kq_14 => ?_)
          have zs_kq_14 := kq_14.size
          replace hb := hb.pure kq_14
          replace hw := hw.pure kq_14
          replace hB := hB.pure kq_14
          replace hI := hI.pure kq_14
          replace hd_2 := hd_2.pure kq_14
          replace hq := hq.pure kq_14
          refine WL.bld rfl (bld_105_0_1 _ _ _ _ _) rfl (?_)
          refine WL.nil (WX.one ⟨hd_2, ?_⟩)
          refine ⟨?_, ?_, trivial, trivial, trivial⟩
          refine DT.step [(35, _)] rfl ⟨rfl, trivial⟩ rfl (fun wq_15 kq_15 => ?_)
          have zs_kq_15 := kq_15.size
          replace hb := hb.pure kq_15
          replace hw := hw.pure kq_15
          replace hB := hB.pure kq_15
          replace hI := hI.pure kq_15
          replace hd_2 := hd_2.pure kq_15
          replace hq := hq.pure kq_15
          refine WL.loadB Tryz.isAgg77 hB rfl rfl rfl (?_)
          refine WL.nil (WX.one ⟨hd_2, ?_⟩)
          refine ⟨?_, trivial, trivial, trivial⟩
          refine DT.step [(42, _)] rfl ⟨rfl, trivial⟩ rfl (fun wq_16 kq_16 => ?_)
          have zs_kq_16 := kq_16.size
          replace hb := hb.pure kq_16
          replace hw := hw.pure kq_16
          replace hB := hB.pure kq_16
          replace hI := hI.pure kq_16
          replace hd_2 := hd_2.pure kq_16
          replace hq := hq.pure kq_16
          refine WL.build (e := ewr) [((d, a), ⟨some ⟨gq, 0, none⟩, cq, b⟩)] Tryz.underlying77 Tryz.sizeOf105 Tryz.zeroValue105 rfl rfl rfl (by simp [Value.cells] <;> rfl) (by decide) rfl ?_
          intro a_b43 w_b43 b43 l_b43 z_b43 k_b43
          have zs_k_b43 := k_b43.size
          replace hb := hb.pure k_b43
          replace hw := hw.pure k_b43
          replace hB := hB.pure k_b43
          replace hI := hI.pure k_b43
          replace hd_2 := hd_2.pure k_b43
          replace hq := hq.pure k_b43
          refine WL.nil (WX.one ⟨hd_2, ?_⟩)
          refine ⟨?_, trivial, trivial⟩
          refine DT.step [(36, _), (43, _)] rfl ⟨rfl, rfl, trivial⟩ rfl (fun wq_17 kq_17 => ?_)
          have zs_kq_17 := kq_17.size
          replace hb := hb.pure kq_17
          replace hw := hw.pure kq_17
          replace hB := hB.pure kq_17
          replace hI := hI.pure kq_17
          replace hd_2 := hd_2.pure kq_17
          replace hq := hq.pure kq_17
          replace b43 := b43.pure kq_17
          refine WL.append (e := ewr) info_105 rfl Tryz.underlying77 rfl rfl hI.waits (b43.rsl.src Tryz.underlying77) (by constructor <;> (simp only [List.length_cons, List.length_nil]; omega)) (fun x hx => ⟨.inr (by omega), by omega⟩) rfl ?_
          intro ao9 c9 w9 hb9 gg9 n9
          have hq9 : Row (fun x => (A x ∨ w.heap.size ≤ x) ∧ x ≠ R) _ 5 eb (some ⟨gq, 0, none⟩) cq b := hq.mono (fun x hx => ⟨.inr (by omega), by omega⟩)
          have hI9 := hI.setWaits hb9 gg9.chg (fun x hx => hx.1) (fun p hp => by
            rcases List.mem_append.1 hp with h3 | h3
            ·
              exact .inl ⟨p, h3, rfl⟩
            ·
              simp at h3
              right
              rw [h3]
              exact hq9)
          have gk : Chg (fun x => (A x ∨ w.heap.size ≤ x) ∧ x ≠ R) _ w9 := gg9.chg.mono (fun x _ hx => hx.2)
          have zs_gk := gk.size
          replace hw := hw.chg gk (by intro x h1 h2; rcases h2.1 with h3 | h3; exact h3; exfalso; omega)
          replace hB := hB.chg gk (by intro h1; exfalso; have h4 := h1.2; (try dsimp only at *); omega)
          replace hd_2 := hd_2.chg gk (by intro x h1 h2; exact h2.1)
          refine WL.nil (WX.one ⟨hd_2, ?_⟩)
          refine ⟨?_, trivial⟩
          refine DT.step [(46, _), (44, _)] rfl ⟨rfl, rfl, trivial⟩ rfl (fun wq_18 kq_18 => ?_)
          have zs_kq_18 := kq_18.size
          replace hw := hw.pure kq_18
          replace hB := hB.pure kq_18
          replace hd_2 := hd_2.pure kq_18
          replace hI9 := hI9.pure kq_18
          refine WL.store Tryz.sizeOf77 hB rfl rfl rfl rfl ?_
          intro w_19 hs_19 hn_19 k_19
          have zs_k_19 := k_19.size
          replace hw := hw.chg k_19 (by intro x h1 h2; have h3 : _ = _ := h2; subst h3; assumption)
          replace hd_2 := hd_2.chg k_19 (by intro x h1 h2; have h3 : _ = _ := h2; subst h3; assumption)
          replace hI9 := hI9.chg k_19 (by intro b h1 h2 h3; have h4 : _ = _ := h3; (try dsimp only at h2); exfalso; omega)
          replace hB := hn_19
          refine WL.nil (WX.one0 (v := undef) ⟨hd_2, ?_⟩)
          refine DT.done (fun we_20 ke_20 => ?_) _
          have zs_ke_20 := ke_20.size
          replace hw := hw.pure ke_20
          replace hB := hB.pure ke_20
          replace hd_2 := hd_2.pure ke_20
          replace hI9 := hI9.pure ke_20
          rotate_left
          refine DT.step [(42, _)] rfl ⟨rfl, trivial⟩ rfl (fun wq_15 kq_15 => ?_)
          have zs_kq_15 := kq_15.size
          replace hb := hb.pure kq_15
          replace hw := hw.pure kq_15
          replace hB := hB.pure kq_15
          replace hI := hI.pure kq_15
          replace hd_2 := hd_2.pure kq_15
          replace hq := hq.pure kq_15
          refine WL.build (e := ewr) [((d, a), ⟨some ⟨gq, 0, none⟩, cq, b⟩)] Tryz.underlying77 Tryz.sizeOf105 Tryz.zeroValue105 rfl rfl rfl (by simp [Value.cells] <;> rfl) (by decide) rfl ?_
          intro a_b43 w_b43 b43 l_b43 z_b43 k_b43
          have zs_k_b43 := k_b43.size
          replace hb := hb.pure k_b43
          replace hw := hw.pure k_b43
          replace hB := hB.pure k_b43
          replace hI := hI.pure k_b43
          replace hd_2 := hd_2.pure k_b43
          replace hq := hq.pure k_b43
          refine WL.nil (WX.one ⟨hd_2, ?_⟩)
          refine ⟨?_, trivial, trivial, trivial⟩
          refine DT.step [(35, _)] rfl ⟨rfl, trivial⟩ rfl (fun wq_16 kq_16 => ?_)
          have zs_kq_16 := kq_16.size
          replace hb := hb.pure kq_16
          replace hw := hw.pure kq_16
          replace hB := hB.pure kq_16
          replace hI := hI.pure kq_16
          replace hd_2 := hd_2.pure kq_16
          replace hq := hq.pure kq_16
          replace b43 := b43.pure kq_16
          refine WL.loadB Tryz.isAgg77 hB rfl rfl rfl (?_)
          refine WL.nil (WX.one ⟨hd_2, ?_⟩)
          refine ⟨?_, trivial, trivial⟩
          refine DT.step [(36, _), (43, _)] rfl ⟨rfl, rfl, trivial⟩ rfl (fun wq_17 kq_17 => ?_)
          have zs_kq_17 := kq_17.size
          replace hb := hb.pure kq_17
          replace hw := hw.pure kq_17
          replace hB := hB.pure kq_17
          replace hI := hI.pure kq_17
          replace hd_2 := hd_2.pure kq_17
          replace hq := hq.pure kq_17
          replace b43 := b43.pure kq_17
          refine WL.append (e := ewr) info_105 rfl Tryz.underlying77 rfl rfl hI.waits (b43.rsl.src Tryz.underlying77) (by constructor <;> (simp only [List.length_cons, List.length_nil]; omega)) (fun x hx => ⟨.inr (by omega), by omega⟩) rfl ?_
          intro ao9 c9 w9 hb9 gg9 n9
          have hq9 : Row (fun x => (A x ∨ w.heap.size ≤ x) ∧ x ≠ R) _ 5 eb (some ⟨gq, 0, none⟩) cq b := hq.mono (fun x hx => ⟨.inr (by omega), by omega⟩)
          have hI9 := hI.setWaits hb9 gg9.chg (fun x hx => hx.1) (fun p hp => by
            rcases List.mem_append.1 hp with h3 | h3
            ·
              exact .inl ⟨p, h3, rfl⟩
            ·
              simp at h3
              right
              rw [h3]
              exact hq9)
          have gk : Chg (fun x => (A x ∨ w.heap.size ≤ x) ∧ x ≠ R) _ w9 := gg9.chg.mono (fun x _ hx => hx.2)
          have zs_gk := gk.size
          replace hw := hw.chg gk (by intro x h1 h2; rcases h2.1 with h3 | h3; exact h3; exfalso; omega)
          replace hB := hB.chg gk (by intro h1; exfalso; have h4 := h1.2; (try dsimp only at *); omega)
          replace hd_2 := hd_2.chg gk (by intro x h1 h2; exact h2.1)
          refine WL.nil (WX.one ⟨hd_2, ?_⟩)
          refine ⟨?_, trivial⟩
          refine DT.step [(46, _), (44, _)] rfl ⟨rfl, rfl, trivial⟩ rfl (fun wq_18 kq_18 => ?_)
          have zs_kq_18 := kq_18.size
          replace hw := hw.pure kq_18
          replace hB := hB.pure kq_18
          replace hd_2 := hd_2.pure kq_18
          replace hI9 := hI9.pure kq_18
          refine WL.store Tryz.sizeOf77 hB rfl rfl rfl rfl ?_
          intro w_19 hs_19 hn_19 k_19
          have zs_k_19 := k_19.size
          replace hw := hw.chg k_19 (by intro x h1 h2; have h3 : _ = _ := h2; subst h3; assumption)
          replace hd_2 := hd_2.chg k_19 (by intro x h1 h2; have h3 : _ = _ := h2; subst h3; assumption)
          replace hI9 := hI9.chg k_19 (by intro b h1 h2 h3; have h4 : _ = _ := h3; (try dsimp only at h2); exfalso; omega)
          replace hB := hn_19
          refine WL.nil (WX.one0 (v := undef) ⟨hd_2, ?_⟩)
          refine DT.done (fun we_20 ke_20 => ?_) _
          have zs_ke_20 := ke_20.size
          replace hw := hw.pure ke_20
          replace hB := hB.pure ke_20
          replace hd_2 := hd_2.pure ke_20
          replace hI9 := hI9.pure ke_20
          rotate_left
          all_goals
            refine WX.then_normal (WC.seq (WC.region (WL.assign rfl rfl (WL.nil (WX.then_normal (WC.ret (?_)))))))
            refine WX.ret1 (.inl rfl) Tryz.results31 rfl ?_
            have hh2 : b.length = 128 := by omega
            have e0 : writeE s d a b.length = 0 := by simp [writeE, h12, hh2, hg, ho]
            refine ⟨_, rfl, by rw [e0], ⟨aR2, hwok, m, ga, gc, ao9, c9, ws ++ [((d, a), ⟨some ⟨gq, 0, none⟩, cq, b⟩)], ls, Eq.mp (congrArg (Blk _ R 79) ?_) hB, ?_, ?_, ?_⟩, hw⟩
            ·
              simp [writeS, e0]
            ·
              simp only [writeS, e0, if_true]
              exact hI9.mono (fun x hx => hx.1)
            ·
              simp only [writeS, e0, if_true]
              exact hls
            ·
              simp only [writeS, e0, if_true]
              rw [spendS_waits] at hws
              rw [hws]
              simp [xsm]
        ·
          refine WL.not rfl rfl (WL.assign rfl rfl (WL.nil (WX.then_normal (WC.cond_true rfl (WC.seq (WC.region (WL.assign rfl rfl (?_))))))))
          refine WL.nil (WX.then_normal (WC.ret (WX.block_ret (WX.then_ret (?_)))))
          refine WX.ret1 (.inl rfl) Tryz.results31 rfl ?_
          have hh : offS s = true := ho
          have hh2 : b.length = 128 := by omega
          exact ⟨_, rfl, by simp [writeE, h12, hh2, hg, ho], by rw [show writeS s d a b = spendS s from by simp [writeS, writeE, h12, hh2, hg, ho]]; exact h2.mono (fun x hx => .inl hx), hw⟩
      ·
        refine WL.assign rfl rfl (WL.nil (WX.then_normal (WC.cond_true rfl (WC.seq (WC.region (WL.assign rfl rfl (WL.nil (?_))))))))
        refine WX.then_normal (WC.ret (WX.block_ret (WX.then_ret (?_))))
        refine WX.ret1 (.inl rfl) Tryz.results31 rfl ?_
        have hh : goneS s d = true := hg
        have hh2 : b.length = 128 := by omega
        exact ⟨_, rfl, by simp [writeE, h12, hh2, hg], by rw [show writeS s d a b = s from by simp [writeS, writeE, h12, hh2, hg]]; exact h.mono (fun x hx => .inl hx), hw⟩
  ·
    rw [show decide (0 ≤ d ∧ d < (s.dn : Int) ∧ 0 ≤ a ∧ a < (s.sn : Int)) = false from decide_eq_false h12]
    refine WL.not rfl rfl (WL.move rfl rfl (WL.pass rfl rfl rfl rfl (WL.pass rfl rfl rfl rfl (WL.pass rfl rfl rfl rfl (WL.pickT rfl rfl rfl (WL.assign rfl rfl (WL.nil (?_))))))))
    refine WX.then_normal (WC.cond_true rfl (WC.seq (WC.region (WL.assign rfl rfl (WL.nil (WX.then_normal (WC.ret (?_))))))))
    refine WX.block_ret (WX.then_ret (?_))
    refine WX.ret1 (.inl rfl) Tryz.results31 rfl ?_
    have hh : ¬ inS s d a := h12
    exact ⟨_, rfl, by simp [writeE, h12], by rw [show writeS s d a b = s from by simp [writeS, writeE, h12]]; exact h.mono (fun x hx => .inl hx), hw⟩
end Go.Proofs.YtggecdldnpildaaGreat
namespace Go.Proofs.YtggecdldnpildaaGreat
open Go.RowKit Go.HL
set_option maxRecDepth 100000

/-! writes that come to last, those that kp tells -/
def puts {V : Type} (kp : Nat → Bool) (ws l : List (Pl × V)) : Nat → List (Pl × V)
  | 0 => l
  | i + 1 => match ws[i]? with
    | some x => if kp i = true then mput (puts kp ws l i) x.1 x.2 else puts kp ws l i
    | none => puts kp ws l i
theorem puts_yes {V : Type} {kp : Nat → Bool} {ws l : List (Pl × V)} {i : Nat} {x : Pl × V} (hx : ws[i]? = some x) (hk : kp i = true) : puts kp ws l (i + 1) = mput (puts kp ws l i) x.1 x.2 := by simp [puts, hx, hk]
theorem puts_not {V : Type} {kp : Nat → Bool} {ws l : List (Pl × V)} {i : Nat} {x : Pl × V} (hx : ws[i]? = some x) (hk : kp i = false) : puts kp ws l (i + 1) = puts kp ws l i := by simp [puts, hx, hk]
theorem xsm_at (l : List (Pl × Rw)) (i : Nat) : (xsm l)[i]? = (l[i]?).map fun p => (p.1, p.2.xs) := by simp [xsm]
theorem xsm_puts (kp : Nat → Bool) (ws l : List (Pl × Rw)) (i : Nat) : xsm (puts kp ws l i) = puts kp (xsm ws) (xsm l) i := by
  induction i with
  | zero => rfl
  | succ i ih =>
    simp only [puts, xsm_at]
    cases h : ws[i]? with
    | none => simpa using ih
    | some x =>
      simp only [Option.map_some]
      split
      · rw [xsm_put, ih]
      · exact ih
theorem puts_nodup {V : Type} {kp : Nat → Bool} {ws l : List (Pl × V)} (h : (l.map (·.1)).Nodup) (i : Nat) : ((puts kp ws l i).map (·.1)).Nodup := by
  induction i with
  | zero => exact h
  | succ i ih =>
    simp only [puts]
    split
    · split
      · exact mput_nodup ih
      · exact ih
    · exact ih
theorem puts_mem {V : Type} {kp : Nat → Bool} {ws l : List (Pl × V)} {i : Nat} {x : Pl × V} (h : x ∈ puts kp ws l i) : x ∈ l ∨ x ∈ ws := by
  induction i with
  | zero => exact .inl h
  | succ i ih =>
    simp only [puts] at h
    split at h
    · rename_i y hy
      split at h
      · rcases mput_mem h with h1 | h1
        · exact ih h1
        · subst h1
          exact .inr (List.mem_of_getElem? hy)
      · exact ih h
    · exact ih h
theorem RI.noWaits {S : Nat → Prop} {w : World} {m : Nat} {ga : Option Addr} {gc : Nat} {wa : Option Addr} {wc : Nat} {gl : List Bool} {ws ls : List (Pl × Rw)} (h : RI S w m ga gc wa wc gl ws ls) : RI S w m ga gc none 0 gl [] ls :=
  ⟨h.sm, h.map, h.gone, Row.nil _ _ _ _, h.byl, fun p hp => by simp at hp⟩
/-- all that waits comes to last -/
def flushS (s : RA) : RA := if offS s = true then spendS s else { spendS s with last := puts (fun _ => true) s.waits s.last s.waits.length, waits := [] }
theorem flushS_ok {s : RA} (h : s.ok) : (flushS s).ok := by
  have h1 := spendS_ok h
  unfold flushS
  split
  · exact h1
  · refine ⟨h1.dn, h1.sn, h1.gl, fun p hp => ?_, fun p hp => by simp at hp, h1.lf, puts_nodup h.nd _⟩
    rcases puts_mem hp with h2 | h2
    · exact h.ll p h2
    · exact h.lw p h2
theorem Flush_calls {A : Nat → Prop} {w : World} {R : Nat} {s : RA} (h : RK A w R s) :
    Calls Tryz.prog 23 [ptr R].toArray w (Ret fun v w' => v = vi (if offS s = true then 16 else 0) ∧ RK A w' R (flushS s) ∧ Chg A w w') := by
  have aR := h.aR
  have hok := h.ok
  have hfok := flushS_ok h.ok
  have hw := Chg.refl A w
  refine Calls.of_WC Tryz.func23 rfl Tryz.ntmps23 (by simp) ?_
  refine WC.seq (WC.region (WL.assign rfl rfl (WL.nil (WX.then_normal (WC.seq (WC.block (WC.seq (?_))))))))
  refine WC.region (WL.move rfl rfl (?_))
  refine WL.ptrNil Tryz.underlying27 rfl rfl rfl ?_
  refine WL.assign rfl rfl (WL.nil (WX.then_normal (WC.cond_false rfl (WC.seq (WC.region (WL.move rfl rfl (?_)))))))
  refine WL.call eg_55 rfl rfl (spend_calls h) ?_
  rintro v w2 ⟨rfl, h2, k2, z2⟩
  have zs_k2 := k2.size
  replace hw := hw.chg k2 (by intro x h1 h2; have h3 : _ = _ := h2; subst h3; assumption)
  rcases ho : offS s with _ | _
  ·
    obtain ⟨m, ga, gc, wa, wc, ws, ls, hB, hI, hls, hws⟩ := h2.old.ex
    have am : A m := hI.sm.1
    replace hI := hI.open hB
    have hmR : m ≠ R := hI.sm.2
    have lR := hB.lt
    have lm := hI.map.lt
    have hcap := hI.waits.own.cap
    have hwl : ws.length ≤ 9223372036854775807 := by
      rcases hI.waits.own.2.2 with ⟨_, h⟩ | ⟨_, _, _, _, _, _, h, _⟩
      ·
        omega
      ·
        simp only [maxLen] at h; omega
    refine WL.not rfl rfl (WL.assign rfl rfl (WL.nil (WX.then_normal (WC.cond_false rfl (WC.skip (WX.block_normal (WX.then_normal (?_))))))))
    refine WC.seq (WC.seq (WC.region (WL.move rfl rfl (WL.nilCheck rfl rfl (WL.fieldAddr (fld_79_4) rfl rfl (WL.loadB Tryz.isAgg77 hB rfl rfl rfl (WL.len Tryz.underlying77 rfl rfl (?_))))))))
    refine WL.move rfl rfl (WL.nil (WX.then_normal (WC.block (?_))))
    have zw := hw.size
    refine WC.loop (σ := Nat) (fun i => [(0, ptr R), (15, .slice wa ws.length wc), (16, vi ws.length), (17, vi (i : Int))]) (fun i w' => i ≤ ws.length ∧ Blk w' R 79 (rcells (spendS s) m ga gc wa wc ws.length) ∧ RI (fun b => (A b ∧ b < w2.heap.size) ∧ b ≠ R) w' m ga gc wa wc (spendS s).gone ws (puts (fun _ => true) ws ls i) ∧ Chg A w w' ∧ w2.heap.size ≤ w'.heap.size) (fun i => ws.length - i) 0 ⟨rfl, rfl, rfl, rfl, trivial⟩ ⟨Nat.zero_le _, hB, hI, hw, Nat.le_refl _⟩ ?_
    clear hB hI hw
    rintro i w1 ⟨hi, hB, hI, hw, z1⟩
    refine WC.seq (WC.region (?_))
    refine WL.lss? rfl rfl rfl (fun h18 => ?_) (fun h18 => ?_)
    ·
      refine WL.nil (WX.then_normal (WC.seq (WC.cond_true rfl (WC.skip (WX.then_normal (WC.seq (WC.block (?_))))))))
      refine WC.seq (WC.region (?_))
      have hi2 : i < ws.length := by omega
      have hx : ws[i]? = some ws[i] := List.getElem?_eq_getElem hi2
      obtain ⟨x, ex⟩ : ∃ x, x = ws[i] := ⟨_, rfl⟩
      rw [← ex] at hx
      refine WL.indexT (e := ewr) Tryz.underlying77 Tryz.sizeOf105 hI.waits.rsl rfl rfl ⟨hx, rfl⟩ rfl ?_
      intro bb oo hcc
      refine WL.loads _ Tryz.isAgg105 Tryz.sizeOf105 rfl hcc rfl rfl (?_)
      refine WL.alloc Tryz.zeroValue105 rfl ?_
      intro g_1 w_1 hge_1 hlt_1 hb_1 k_1
      have zs_k_1 := k_1.size
      replace hw := hw.pure k_1
      replace hB := hB.pure k_1
      replace hI := hI.pure k_1
      refine WL.stores Tryz.sizeOf105 hb_1 rfl rfl (by rfl) (by exact Enc.one _ _) (by exact Nat.le_of_ble_eq_true rfl) rfl ?_
      intro w_2 hs_2 hn_2 k_2
      have zs_k_2 := k_2.size
      replace hw := hw.chg k_2 (by intro x h1 h2; have h3 : _ = _ := h2; exfalso; omega)
      replace hB := hB.chg k_2 (by intro h1; have h2 : _ = _ := h1; exfalso; omega)
      replace hI := hI.chg k_2 (by intro b h1 h2 h3; have h4 : _ = _ := h3; (try dsimp only at h2); exfalso; omega)
      replace hb_1 := hn_2
      refine WL.nil (WX.then_normal (?_))
      have hb8 : Blk _ g_1 105 [vi x.1.1, vi x.1.2, vsl x.2] := hb_1
      refine WC.draw ((fun x => x = m)) [0, 1, 2, 3, 4, 5, 6, 7] [8] mixed rfl rfl (fun wd_3 kd_3 zd_3 => ?_)
      have zs_kd_3 := kd_3.size
      replace hw := hw.pure kd_3
      replace hB := hB.pure kd_3
      replace hI := hI.pure kd_3
      replace hb8 := hb8.pure kd_3
      apply DQ.step (E' := [(0, _)])
      case ho => rfl
      case hs => exact ⟨rfl, trivial⟩
      case hk => rfl
      case h1 =>
        intro wq_5 kq_5
        refine WL.move rfl rfl (?_)
        refine WL.nil ?_
        exact WX.one ⟨rfl, by exact Chg.refl _ _⟩
      apply DQ.step (E' := [(21, _)])
      case ho => rfl
      case hs => exact ⟨rfl, trivial⟩
      case hk => rfl
      case h1 =>
        intro wq_6 kq_6
        refine WL.nilCheck rfl rfl (?_)
        refine WL.nil ?_
        exact WX.one ⟨rfl, by exact Chg.refl _ _⟩
      apply DQ.step (E' := [(22, _)])
      case ho => rfl
      case hs => exact ⟨rfl, trivial⟩
      case hk => rfl
      case h1 =>
        intro wq_7 kq_7
        refine WL.fieldAddr (fld_79_2) rfl rfl (?_)
        refine WL.nil ?_
        exact WX.one ⟨rfl, by exact Chg.refl _ _⟩
      apply DQ.step (E' := [(23, _)])
      case ho => rfl
      case hs => exact ⟨rfl, trivial⟩
      case hk => rfl
      case h1 =>
        intro wq_8 kq_8
        have zs_kq_8 := kq_8.size
        replace hw := hw.chg kq_8 (by intro x h1 h2; have h3 : _ = _ := h2; subst h3; assumption)
        replace hB := hB.chg kq_8 (by intro h1; have h2 : _ = _ := h1; exfalso; omega)
        replace hb8 := hb8.chg kq_8 (by intro h1; have h2 : _ = _ := h1; exfalso; omega)
        refine WL.loadB Tryz.isAgg76 hB rfl rfl rfl (?_)
        refine WL.nil ?_
        exact WX.one ⟨rfl, by exact Chg.refl _ _⟩
      apply DQ.step (E' := [(4, _)])
      case ho => rfl
      case hs => exact ⟨rfl, trivial⟩
      case hk => rfl
      case h1 =>
        intro wq_9 kq_9
        refine WL.fieldAddr (fld_105_0) rfl rfl (?_)
        refine WL.nil ?_
        exact WX.one ⟨rfl, by exact Chg.refl _ _⟩
      apply DQ.step (E' := [(25, _)])
      case ho => rfl
      case hs => exact ⟨rfl, trivial⟩
      case hk => rfl
      case h1 =>
        intro wq_10 kq_10
        have zs_kq_10 := kq_10.size
        replace hw := hw.chg kq_10 (by intro x h1 h2; have h3 : _ = _ := h2; subst h3; assumption)
        replace hB := hB.chg kq_10 (by intro h1; have h2 : _ = _ := h1; exfalso; omega)
        replace hb8 := hb8.chg kq_10 (by intro h1; have h2 : _ = _ := h1; exfalso; omega)
        refine WL.loads [vi x.1.1, vi x.1.2] Tryz.isAgg103 Tryz.sizeOf103 rfl (fun q v hv => ?_) rfl rfl ?_
        ·
          refine hb8.cell (j := 0 + 0 + q) ?_
          match q, hv with
          | 0, hv => exact hv
          | 1, hv => exact hv
        refine WL.nil ?_
        exact WX.one ⟨rfl, by exact Chg.refl _ _⟩
      apply DQ.step (E' := [(4, _)])
      case ho => rfl
      case hs => exact ⟨rfl, trivial⟩
      case hk => rfl
      case h1 =>
        intro wq_11 kq_11
        refine WL.fieldAddr (fld_105_1) rfl rfl (?_)
        refine WL.nil ?_
        exact WX.one ⟨rfl, by exact Chg.refl _ _⟩
      apply DQ.step (E' := [(27, _)])
      case ho => rfl
      case hs => exact ⟨rfl, trivial⟩
      case hk => rfl
      case h1 =>
        intro wq_12 kq_12
        have zs_kq_12 := kq_12.size
        replace hw := hw.chg kq_12 (by intro x h1 h2; have h3 : _ = _ := h2; subst h3; assumption)
        replace hB := hB.chg kq_12 (by intro h1; have h2 : _ = _ := h1; exfalso; omega)
        replace hb8 := hb8.chg kq_12 (by intro h1; have h2 : _ = _ := h1; exfalso; omega)
        refine WL.loadB Tryz.isAgg26 hb8 rfl rfl rfl (?_)
        refine WL.nil ?_
        exact WX.one ⟨rfl, by exact Chg.refl _ _⟩
      refine DQ.done (fun hd_4 => ?_)
      refine DL.step [(24, _), (26, _), (28, _)] rfl ⟨rfl, rfl, rfl, trivial⟩ rfl (fun wq_13 kq_13 => ?_)
      have zs_kq_13 := kq_13.size
      replace hw := hw.pure kq_13
      replace hB := hB.pure kq_13
      replace hI := hI.pure kq_13
      replace hb8 := hb8.pure kq_13
      replace hd_4 := hd_4.pure kq_13
      refine WL.mput (v := x.2) plOk Tryz.underlying76 hI.map rfl (show _ = some (kpl x.1) from rfl) (show _ = some (vsl x.2) from rfl) ?_
      intro w9 z9 hM9 k9
      have hI9 := hI.putMap hM9 k9 (fun p hp => by
        rcases mput_mem hp with h3 | h3
        ·
          exact .inl ⟨p, h3, rfl⟩
        ·
          subst h3
          exact .inr ⟨x, List.mem_of_getElem? hx, rfl⟩)
      rw [← puts_yes (kp := fun _ => true) hx rfl] at hI9
      have zs_k9 := k9.size
      replace hw := hw.chg k9 (by intro x h1 h2; have h3 : _ = _ := h2; subst h3; assumption)
      replace hB := hB.chg k9 (by intro h1; have h2 : _ = _ := h1; exfalso; omega)
      replace hb8 := hb8.chg k9 (by intro h1; have h2 : _ = _ := h1; exfalso; omega)
      replace hd_4 := hd_4.chg k9 (by intro x h1 h2; exact h2)
      refine WL.nil ?_
      refine WX.one0 (v := undef) ⟨hd_4, ?_⟩
      refine DL.done (fun we_14 ke_14 => ?_)
      have zs_ke_14 := ke_14.size
      replace hw := hw.pure ke_14
      replace hB := hB.pure ke_14
      replace hb8 := hb8.pure ke_14
      replace hd_4 := hd_4.pure ke_14
      replace hI9 := hI9.pure ke_14
      refine WX.block_normal (WX.then_normal (WC.region (WL.add64 rfl rfl (by omega) rfl (WL.move rfl rfl (WL.nil (?_))))))
      exact WX.loop_next (i + 1) ⟨rfl, rfl, rfl, rfl, trivial⟩ ⟨by omega, hB, hI9, hw, by omega⟩ (by omega)
    ·
      refine WL.nil (WX.then_normal (WC.seq (WC.cond_false rfl (WC.exit (WX.then_exit (WX.then_exit (WX.block_here (?_))))))))
      refine WX.then_normal (WC.seq (WC.region (WL.move rfl rfl (WL.nilCheck rfl rfl (WL.fieldAddr (fld_79_4) rfl rfl (?_))))))
      refine WL.store Tryz.sizeOf77 hB rfl rfl rfl rfl ?_
      intro w_1 hs_1 hn_1 k_1
      have zs_k_1 := k_1.size
      replace hw := hw.chg k_1 (by intro x h1 h2; have h3 : _ = _ := h2; subst h3; assumption)
      replace hI := hI.chg k_1 (by intro b h1 h2 h3; have h4 : _ = _ := h3; (try dsimp only at h2); exfalso; omega)
      replace hB := hn_1
      refine WL.nil (WX.then_normal (WC.seq (WC.region (WL.assign rfl rfl (WL.nil (WX.then_normal (WC.ret (?_))))))))
      refine WX.ret1 (.inl rfl) Tryz.results23 rfl ?_
      have hil : i = ws.length := by omega
      subst hil
      rw [spendS_waits] at hws
      rw [spendS_last] at hls
      refine ⟨_, rfl, rfl, ⟨aR, hfok, m, ga, gc, none, 0, [], puts (fun _ => true) ws ls ws.length, Eq.mp (congrArg (Blk _ R 79) ?_) hB, ?_, ?_, ?_⟩, hw⟩
      ·
        simp [flushS, ho]
      ·
        simp only [flushS, ho]
        exact (hI.mono (fun x hx => hx.1.1)).noWaits
      ·
        simp only [flushS, ho]
        rw [xsm_puts, hls, hws, xsm_len]
        rfl
      ·
        simp [flushS, ho, xsm]
  ·
    refine WL.not rfl rfl (WL.assign rfl rfl (WL.nil (WX.then_normal (WC.cond_true rfl (WC.seq (WC.region (WL.assign rfl rfl (?_))))))))
    refine WL.nil (WX.then_normal (WC.ret (WX.block_ret (WX.then_ret (?_)))))
    refine WX.ret1 (.inl rfl) Tryz.results23 rfl ?_
    have hh : offS s = true := ho
    refine ⟨_, rfl, rfl, ?_, hw⟩
    rw [show flushS s = spendS s from by simp [flushS, ho]]
    exact h2
end Go.Proofs.YtggecdldnpildaaGreat
namespace Go.Proofs.YtggecdldnpildaaGreat
open Go.RowKit Go.HL
set_option maxRecDepth 100000

theorem n_and1 {P : Program} (t : TypeId) (w : World) (a : Int) : (binOp .and t (vi a) (vi 1)).run P w = .ok (vi (a % 2)) w := by
  have h1 : IntKind.i64.wrap ((BitVec.ofInt 64 a &&& BitVec.ofInt 64 1).toNat : Int) = a % 2 := by
    have e2 : (BitVec.ofInt 64 1).toNat = 1 := by decide
    rw [BitVec.toNat_and, e2, Nat.and_one_is_mod, BitVec.toNat_ofInt]
    rw [wrap_i64 (by omega)]
    omega
  rw [← h1]
  simp only [binOp, Op.intBits, IntKind.bits]
  simp only [ne_eq, not_true_eq_false, if_false, Sem.run_pure]
  rfl
/-! the power goes off later -/
/-! the power goes off and comes back -/
def keep (ps : List Int) (i : Nat) : Bool := match ps[i]? with
  | some x => decide (x % 2 = 1)
  | none => false
def crashS (s : RA) (ps : List Int) : RA := { s with last := puts (keep ps) s.waits s.last s.waits.length, waits := [], off := false, armed := false }
theorem crashS_ok {s : RA} (h : s.ok) (ps : List Int) : (crashS s ps).ok := by
  refine ⟨h.dn, h.sn, h.gl, fun p hp => ?_, fun p hp => ?_, ⟨fun h1 => ?_, h.lf.2⟩, puts_nodup h.nd _⟩
  · rcases puts_mem hp with h2 | h2
    · exact h.ll p h2
    · exact h.lw p h2
  · cases hp
  · cases h1
theorem Crash_calls {A S : Nat → Prop} {w : World} {R : Nat} {s : RA} (h : RK A w R s) {ao : Option Addr} {c : Nat} {ps : List Int} (hp : RSl S w ei ao c ps) (hS : ∀ x, S x → A x → False) :
    Calls Tryz.prog 33 [ptr R, .slice ao ps.length c].toArray w (Ret fun v w' => v = .tuple #[] ∧ RK A w' R (crashS s ps) ∧ Chg A w w') := by
  have aR := h.aR
  have hok := crashS_ok h.ok ps
  obtain ⟨m, ga, gc, wa, wc, ws, ls, hB, hI, hls, hws⟩ := h.old.ex
  have am : A m := hI.sm.1
  replace hI := hI.open hB
  replace hp := hp.lt
  have hmR : m ≠ R := hI.sm.2
  have lR := hB.lt
  have lm := hI.map.lt
  have hcap := hI.waits.own.cap
  have hwl : ws.length ≤ 9223372036854775807 := by
    rcases hI.waits.own.2.2 with ⟨_, h⟩ | ⟨_, _, _, _, _, _, h, _⟩
    · omega
    · simp only [maxLen] at h; omega
  have hw := Chg.refl A w
  have z0 : w.heap.size ≤ w.heap.size := Nat.le_refl _
  have hSm : ¬ S m := fun hs => hS m hs am
  have hSR : ¬ S R := fun hs => hS R hs aR
  refine Calls.of_WC Tryz.func33 rfl Tryz.ntmps33 (by simp) ?_
  refine WC.seq (WC.seq (WC.region (WL.move rfl rfl (?_))))
  refine WL.ptrNil Tryz.underlying27 rfl rfl rfl ?_
  refine WL.nil (WX.then_normal (WC.cond_false rfl (WC.skip (WX.then_normal (WC.seq (WC.seq (WC.region (?_))))))))
  refine WL.move rfl rfl (WL.nilCheck rfl rfl (WL.fieldAddr (fld_79_4) rfl rfl (WL.loadB Tryz.isAgg77 hB rfl rfl rfl (WL.len Tryz.underlying77 rfl rfl (WL.move rfl rfl (WL.nil (WX.then_normal (?_))))))))
  refine WC.block (?_)
  refine WC.loop (σ := Nat) (fun i => [(0, ptr R), (1, .slice ao ps.length c), (11, .slice wa ws.length wc), (12, vi ws.length), (13, vi (i : Int))]) (fun i w' => i ≤ ws.length ∧ Blk w' R 79 (rcells s m ga gc wa wc ws.length) ∧ RI (fun b => (A b ∧ b < w.heap.size) ∧ b ≠ R) w' m ga gc wa wc s.gone ws (puts (keep ps) ws ls i) ∧ Chg A w w' ∧ w.heap.size ≤ w'.heap.size ∧ RSl (fun b => S b ∧ b < w.heap.size) w' ei ao c ps) (fun i => ws.length - i) 0 ⟨rfl, rfl, rfl, rfl, rfl, trivial⟩ ⟨Nat.zero_le _, hB, hI, hw, Nat.le_refl _, hp⟩ ?_
  clear hB hI hw hp
  rintro i w1 ⟨hi, hB, hI, hw, z1, hp⟩
  refine WC.seq (WC.region (?_))
  refine WL.lss? rfl rfl rfl (fun h14 => ?_) (fun h14 => ?_)
  ·
    refine WL.nil (WX.then_normal (WC.seq (WC.cond_true rfl (WC.skip (WX.then_normal (WC.seq (WC.block (?_))))))))
    refine WC.seq (WC.region (WL.move rfl rfl (?_)))
    have hi2 : i < ws.length := by omega
    have hx : ws[i]? = some ws[i] := List.getElem?_eq_getElem hi2
    obtain ⟨x, ex⟩ : ∃ x, x = ws[i] := ⟨_, rfl⟩
    rw [← ex] at hx
    refine WL.indexT (e := ewr) Tryz.underlying77 Tryz.sizeOf105 hI.waits.rsl rfl rfl ⟨hx, rfl⟩ rfl ?_
    intro bb oo hcc
    refine WL.loads _ Tryz.isAgg105 Tryz.sizeOf105 rfl hcc rfl rfl (?_)
    refine WL.alloc Tryz.zeroValue105 rfl ?_
    intro g_1 w_1 hge_1 hlt_1 hb_1 k_1
    have zs_k_1 := k_1.size
    replace hB := hB.pure k_1
    replace hI := hI.pure k_1
    replace hw := hw.pure k_1
    replace hp := hp.pure k_1
    refine WL.assign rfl rfl (?_)
    refine WL.stores Tryz.sizeOf105 hb_1 rfl rfl (by rfl) (by exact Enc.one _ _) (by exact Nat.le_of_ble_eq_true rfl) rfl ?_
    intro w_2 hs_2 hn_2 k_2
    have zs_k_2 := k_2.size
    replace hB := hB.chg k_2 (by intro h1; have h2 : _ = _ := h1; exfalso; omega)
    replace hI := hI.chg k_2 (by intro b h1 h2 h3; have h4 : _ = _ := h3; (try dsimp only at h2); exfalso; omega)
    replace hw := hw.chg k_2 (by intro x h1 h2; have h3 : _ = _ := h2; exfalso; omega)
    replace hp := hp.chg k_2 (by intro b h1 h2 h3; have h4 : _ = _ := h3; (try dsimp only at h2); exfalso; omega)
    replace hb_1 := hn_2
    refine WL.nil (WX.then_normal (WC.seq (WC.region (WL.move rfl rfl (WL.move rfl rfl (WL.len Tryz.underlying39 rfl rfl (?_)))))))
    refine WL.lss? rfl rfl rfl (fun h21 => ?_) (fun h21 => ?_)
    ·
      refine WL.move rfl rfl (WL.want rfl rfl rfl (WL.move rfl rfl (WL.want rfl rfl rfl (WL.move rfl rfl (WL.want rfl rfl rfl (?_))))))
      have hi3 : i < ps.length := by omega
      have hy : ps[i]? = some ps[i] := List.getElem?_eq_getElem hi3
      obtain ⟨y, ey⟩ : ∃ y, y = ps[i] := ⟨_, rfl⟩
      rw [← ey] at hy
      refine WL.indexT Tryz.underlying39 Tryz.sizeOf3 hp rfl rfl ⟨hy, rfl⟩ rfl ?_
      intro b_3 o_3 hc_3
      refine WL.want rfl rfl rfl (WL.load Tryz.isAgg3 rfl (hc_3 0 _ rfl) rfl (WL.want rfl rfl rfl (?_)))
      refine WL.num rfl rfl (n_and1 _ _ _) rfl ?_
      refine WL.want rfl rfl rfl (?_)
      refine WL.eql? rfl rfl rfl (fun h28 => ?_) (fun h28 => ?_)
      ·
        refine WL.pickT rfl rfl rfl (WL.nil (WX.then_normal (WC.cond_true rfl (?_))))
        have hb8 : Blk _ g_1 105 [vi x.1.1, vi x.1.2, vsl x.2] := hb_1
        refine WC.draw ((fun x => x = m)) [0, 1, 2, 3, 4, 5, 6, 7] [8] mixed rfl rfl (fun wd_4 kd_4 zd_4 => ?_)
        have zs_kd_4 := kd_4.size
        replace hB := hB.pure kd_4
        replace hI := hI.pure kd_4
        replace hw := hw.pure kd_4
        replace hp := hp.pure kd_4
        replace hb8 := hb8.pure kd_4
        apply DQ.step (E' := [(0, _)])
        case ho => rfl
        case hs => exact ⟨rfl, trivial⟩
        case hk => rfl
        case h1 =>
          intro wq_6 kq_6
          refine WL.move rfl rfl (?_)
          refine WL.nil ?_
          exact WX.one ⟨rfl, by exact Chg.refl _ _⟩
        apply DQ.step (E' := [(30, _)])
        case ho => rfl
        case hs => exact ⟨rfl, trivial⟩
        case hk => rfl
        case h1 =>
          intro wq_7 kq_7
          refine WL.nilCheck rfl rfl (?_)
          refine WL.nil ?_
          exact WX.one ⟨rfl, by exact Chg.refl _ _⟩
        apply DQ.step (E' := [(31, _)])
        case ho => rfl
        case hs => exact ⟨rfl, trivial⟩
        case hk => rfl
        case h1 =>
          intro wq_8 kq_8
          refine WL.fieldAddr (fld_79_2) rfl rfl (?_)
          refine WL.nil ?_
          exact WX.one ⟨rfl, by exact Chg.refl _ _⟩
        apply DQ.step (E' := [(32, _)])
        case ho => rfl
        case hs => exact ⟨rfl, trivial⟩
        case hk => rfl
        case h1 =>
          intro wq_9 kq_9
          have zs_kq_9 := kq_9.size
          replace hB := hB.chg kq_9 (by intro h1; have h2 : _ = _ := h1; exfalso; omega)
          replace hw := hw.chg kq_9 (by intro x h1 h2; have h3 : _ = _ := h2; subst h3; assumption)
          replace hb8 := hb8.chg kq_9 (by intro h1; have h2 : _ = _ := h1; exfalso; omega)
          refine WL.loadB Tryz.isAgg76 hB rfl rfl rfl (?_)
          refine WL.nil ?_
          exact WX.one ⟨rfl, by exact Chg.refl _ _⟩
        apply DQ.step (E' := [(5, _)])
        case ho => rfl
        case hs => exact ⟨rfl, trivial⟩
        case hk => rfl
        case h1 =>
          intro wq_10 kq_10
          refine WL.fieldAddr (fld_105_0) rfl rfl (?_)
          refine WL.nil ?_
          exact WX.one ⟨rfl, by exact Chg.refl _ _⟩
        apply DQ.step (E' := [(34, _)])
        case ho => rfl
        case hs => exact ⟨rfl, trivial⟩
        case hk => rfl
        case h1 =>
          intro wq_11 kq_11
          have zs_kq_11 := kq_11.size
          replace hB := hB.chg kq_11 (by intro h1; have h2 : _ = _ := h1; exfalso; omega)
          replace hw := hw.chg kq_11 (by intro x h1 h2; have h3 : _ = _ := h2; subst h3; assumption)
          replace hb8 := hb8.chg kq_11 (by intro h1; have h2 : _ = _ := h1; exfalso; omega)
          refine WL.loads [vi x.1.1, vi x.1.2] Tryz.isAgg103 Tryz.sizeOf103 rfl (fun q v hv => ?_) rfl rfl ?_
          ·
            refine hb8.cell (j := 0 + 0 + q) ?_
            match q, hv with
            | 0, hv => exact hv
            | 1, hv => exact hv
          refine WL.nil ?_
          exact WX.one ⟨rfl, by exact Chg.refl _ _⟩
        apply DQ.step (E' := [(5, _)])
        case ho => rfl
        case hs => exact ⟨rfl, trivial⟩
        case hk => rfl
        case h1 =>
          intro wq_12 kq_12
          refine WL.fieldAddr (fld_105_1) rfl rfl (?_)
          refine WL.nil ?_
          exact WX.one ⟨rfl, by exact Chg.refl _ _⟩
        apply DQ.step (E' := [(36, _)])
        case ho => rfl
        case hs => exact ⟨rfl, trivial⟩
        case hk => rfl
        case h1 =>
          intro wq_13 kq_13
          have zs_kq_13 := kq_13.size
          replace hB := hB.chg kq_13 (by intro h1; have h2 : _ = _ := h1; exfalso; omega)
          replace hw := hw.chg kq_13 (by intro x h1 h2; have h3 : _ = _ := h2; subst h3; assumption)
          replace hb8 := hb8.chg kq_13 (by intro h1; have h2 : _ = _ := h1; exfalso; omega)
          refine WL.loadB Tryz.isAgg26 hb8 rfl rfl rfl (?_)
          refine WL.nil ?_
          exact WX.one ⟨rfl, by exact Chg.refl _ _⟩
        refine DQ.done (fun hd_5 => ?_)
        refine DL.step [(33, _), (35, _), (37, _)] rfl ⟨rfl, rfl, rfl, trivial⟩ rfl (fun wq_14 kq_14 => ?_)
        have zs_kq_14 := kq_14.size
        replace hB := hB.pure kq_14
        replace hI := hI.pure kq_14
        replace hw := hw.pure kq_14
        replace hp := hp.pure kq_14
        replace hb8 := hb8.pure kq_14
        replace hd_5 := hd_5.pure kq_14
        refine WL.mput (v := x.2) plOk Tryz.underlying76 hI.map rfl (show _ = some (kpl x.1) from rfl) (show _ = some (vsl x.2) from rfl) ?_
        intro w9 z9 hM9 k9
        have hI9 := hI.putMap hM9 k9 (fun p hp => by
          rcases mput_mem hp with h3 | h3
          ·
            exact .inl ⟨p, h3, rfl⟩
          ·
            subst h3
            exact .inr ⟨x, List.mem_of_getElem? hx, rfl⟩)
        have hp9 := hp.chg k9 (fun b _ h1 h2 => hSm (by rw [← (show b = m from h2)]; exact h1.1))
        have zs_k9 := k9.size
        replace hB := hB.chg k9 (by intro h1; have h2 : _ = _ := h1; exfalso; omega)
        replace hw := hw.chg k9 (by intro x h1 h2; have h3 : _ = _ := h2; subst h3; assumption)
        replace hb8 := hb8.chg k9 (by intro h1; have h2 : _ = _ := h1; exfalso; omega)
        replace hd_5 := hd_5.chg k9 (by intro x h1 h2; exact h2)
        refine WL.nil ?_
        refine WX.one0 (v := undef) ⟨hd_5, ?_⟩
        refine DL.done (fun we_15 ke_15 => ?_)
        have zs_ke_15 := ke_15.size
        replace hB := hB.pure ke_15
        replace hw := hw.pure ke_15
        replace hb8 := hb8.pure ke_15
        replace hd_5 := hd_5.pure ke_15
        replace hI9 := hI9.pure ke_15
        replace hp9 := hp9.pure ke_15
        refine WX.block_normal (WX.then_normal (WC.region (WL.add64 rfl rfl (by omega) rfl (WL.move rfl rfl (WL.nil (?_))))))
        have hy1 : y % 2 = 1 := by omega
        rw [← puts_yes (kp := keep ps) hx (by simp [keep, hy, hy1])] at hI9
        exact WX.loop_next (i + 1) ⟨rfl, rfl, rfl, rfl, rfl, trivial⟩ ⟨by omega, hB, hI9, hw, by omega, hp9⟩ (by omega)
      ·
        refine WL.pickT rfl rfl rfl (WL.nil (WX.then_normal (WC.cond_false rfl (WC.skip (WX.block_normal (WX.then_normal (WC.region (?_))))))))
        refine WL.add64 rfl rfl (by omega) rfl (WL.move rfl rfl (WL.nil (?_)))
        have hy1 : ¬ y % 2 = 1 := by omega
        rw [← puts_not (kp := keep ps) hx (by simp [keep, hy, hy1])] at hI
        exact WX.loop_next (i + 1) ⟨rfl, rfl, rfl, rfl, rfl, trivial⟩ ⟨by omega, hB, hI, hw, by omega, hp⟩ (by omega)
    ·
      refine WL.move rfl rfl (WL.pass rfl rfl rfl rfl (WL.pass rfl rfl rfl rfl (WL.pass rfl rfl rfl rfl (WL.pass rfl rfl rfl rfl (WL.pass rfl rfl rfl rfl (WL.pass rfl rfl rfl rfl (WL.pickF rfl rfl rfl (?_))))))))
      refine WL.nil (WX.then_normal (WC.cond_false rfl (WC.skip (WX.block_normal (WX.then_normal (WC.region (WL.add64 rfl rfl (by omega) rfl (?_))))))))
      refine WL.move rfl rfl (WL.nil (?_))
      have hy : ps[i]? = none := List.getElem?_eq_none (by omega)
      rw [← puts_not (kp := keep ps) hx (by simp [keep, hy])] at hI
      exact WX.loop_next (i + 1) ⟨rfl, rfl, rfl, rfl, rfl, trivial⟩ ⟨by omega, hB, hI, hw, by omega, hp⟩ (by omega)
  ·
    refine WL.nil (WX.then_normal (WC.seq (WC.cond_false rfl (WC.exit (WX.then_exit (WX.then_exit (WX.block_here (?_))))))))
    refine WX.then_normal (WC.region (WL.move rfl rfl (WL.move rfl rfl (WL.move rfl rfl (WL.nilCheck rfl rfl (WL.fieldAddr (fld_79_4) rfl rfl (?_)))))))
    refine WL.store Tryz.sizeOf77 hB rfl rfl rfl rfl ?_
    intro w_1 hs_1 hn_1 k_1
    have zs_k_1 := k_1.size
    replace hI := hI.chg k_1 (by intro b h1 h2 h3; have h4 : _ = _ := h3; (try dsimp only at h2); exfalso; omega)
    replace hw := hw.chg k_1 (by intro x h1 h2; have h3 : _ = _ := h2; subst h3; assumption)
    replace hp := hp.chg k_1 (by intro x h0 h1 h2; have h3 : _ = _ := h2; subst h3; exact hSR h1.1)
    replace hB := hn_1
    refine WL.nilCheck rfl rfl (WL.fieldAddr (fld_79_5) rfl rfl (?_))
    refine WL.store Tryz.sizeOf4 hB rfl rfl rfl rfl ?_
    intro w_2 hs_2 hn_2 k_2
    have zs_k_2 := k_2.size
    replace hI := hI.chg k_2 (by intro b h1 h2 h3; have h4 : _ = _ := h3; (try dsimp only at h2); exfalso; omega)
    replace hw := hw.chg k_2 (by intro x h1 h2; have h3 : _ = _ := h2; subst h3; assumption)
    replace hp := hp.chg k_2 (by intro x h0 h1 h2; have h3 : _ = _ := h2; subst h3; exact hSR h1.1)
    replace hB := hn_2
    refine WL.nilCheck rfl rfl (WL.fieldAddr (fld_79_6) rfl rfl (?_))
    refine WL.store Tryz.sizeOf4 hB rfl rfl rfl rfl ?_
    intro w_3 hs_3 hn_3 k_3
    have zs_k_3 := k_3.size
    replace hI := hI.chg k_3 (by intro b h1 h2 h3; have h4 : _ = _ := h3; (try dsimp only at h2); exfalso; omega)
    replace hw := hw.chg k_3 (by intro x h1 h2; have h3 : _ = _ := h2; subst h3; assumption)
    replace hp := hp.chg k_3 (by intro x h0 h1 h2; have h3 : _ = _ := h2; subst h3; exact hSR h1.1)
    replace hB := hn_3
    refine WL.nil (?_)
    refine WX.ret0 (.inr rfl) Tryz.results33 ?_
    have hil : i = ws.length := by omega
    subst hil
    refine ⟨_, rfl, rfl, ⟨aR, hok, m, ga, gc, none, 0, [], puts (keep ps) ws ls ws.length, hB, (hI.mono (fun x hx => hx.1.1)).noWaits, ?_, rfl⟩, hw⟩
    show puts (keep ps) s.waits s.last s.waits.length = _
    rw [xsm_puts, hls, hws, xsm_len]
/-! a new rack -/
def newS (dn sn : Nat) : RA := ⟨dn, sn, [], List.replicate dn false, [], false, false, 0⟩
theorem newS_ok {dn sn : Nat} (hd : 1 ≤ dn ∧ dn ≤ 16) (hs : 1 ≤ sn ∧ sn ≤ 2000) : (newS dn sn).ok :=
  ⟨hd, hs, by simp [newS], fun p hp => by simp [newS] at hp, fun p hp => by simp [newS] at hp, ⟨fun h => by simp [newS] at h, by simp [newS], by simp [newS]⟩, by simp [newS]⟩
theorem New_calls (w : World) {dn sn : Nat} (hd : 1 ≤ dn ∧ dn ≤ 16) (hs : 1 ≤ sn ∧ sn ≤ 2000) :
    Calls Tryz.prog 13 [vi dn, vi sn].toArray w (Ret fun v w' => (∃ R, v = .tuple #[ptr R, vi 0] ∧ RK (w.heap.size ≤ ·) w' R (newS dn sn)) ∧ Chg Nob w w') := by
  have hw := Chg.refl Nob w
  refine Calls.of_WC Tryz.func13 rfl Tryz.ntmps13 (by simp) ?_
  refine WC.seq (WC.region (WL.assign rfl rfl (WL.assign rfl rfl (WL.nil (WX.then_normal (WC.seq (WC.seq (?_))))))))
  refine WC.region (WL.move rfl rfl (?_))
  refine WL.lss? rfl rfl rfl (fun h7 => ?_) (fun h7 => ?_)
  ·
    refine WL.move rfl rfl (WL.pass rfl rfl rfl rfl (WL.pass rfl rfl rfl rfl (WL.pickT rfl rfl rfl (WL.move rfl rfl (WL.pass rfl rfl rfl rfl (WL.pass rfl rfl rfl rfl (WL.pickT rfl rfl rfl (?_))))))))
    refine WL.move rfl rfl (WL.pass rfl rfl rfl rfl (WL.pass rfl rfl rfl rfl (WL.pickT rfl rfl rfl (WL.nil (WX.then_normal (WC.cond_true rfl (WC.seq (?_))))))))
    refine WC.region (WL.assign rfl rfl (WL.assign rfl rfl (WL.nil (WX.then_normal (WC.ret (WX.then_ret (?_)))))))
    refine WX.ret2 (.inl rfl) Tryz.results13 rfl rfl ?_
    exfalso; omega
  ·
    refine WL.move rfl rfl (WL.want rfl rfl rfl (WL.move rfl rfl (WL.want rfl rfl rfl (?_))))
    refine WL.gtr? rfl rfl rfl (fun h10 => ?_) (fun h10 => ?_)
    ·
      refine WL.pickF rfl rfl rfl (WL.move rfl rfl (WL.pass rfl rfl rfl rfl (WL.pass rfl rfl rfl rfl (WL.pickT rfl rfl rfl (WL.move rfl rfl (WL.pass rfl rfl rfl rfl (WL.pass rfl rfl rfl rfl (?_))))))))
      refine WL.pickT rfl rfl rfl (WL.nil (WX.then_normal (WC.cond_true rfl (WC.seq (WC.region (WL.assign rfl rfl (WL.assign rfl rfl (?_))))))))
      refine WL.nil (WX.then_normal (WC.ret (WX.then_ret (?_))))
      refine WX.ret2 (.inl rfl) Tryz.results13 rfl rfl ?_
      exfalso; omega
    ·
      refine WL.pickF rfl rfl rfl (WL.move rfl rfl (WL.want rfl rfl rfl (WL.move rfl rfl (WL.want rfl rfl rfl (?_)))))
      refine WL.lss? rfl rfl rfl (fun h14 => ?_) (fun h14 => ?_)
      ·
        refine WL.pickF rfl rfl rfl (WL.move rfl rfl (WL.pass rfl rfl rfl rfl (WL.pass rfl rfl rfl rfl (WL.pickT rfl rfl rfl (WL.nil (WX.then_normal (WC.cond_true rfl (?_))))))))
        refine WC.seq (WC.region (WL.assign rfl rfl (WL.assign rfl rfl (WL.nil (WX.then_normal (WC.ret (WX.then_ret (?_))))))))
        refine WX.ret2 (.inl rfl) Tryz.results13 rfl rfl ?_
        exfalso; omega
      ·
        refine WL.pickF rfl rfl rfl (WL.move rfl rfl (WL.want rfl rfl rfl (WL.move rfl rfl (WL.want rfl rfl rfl (?_)))))
        refine WL.gtr? rfl rfl rfl (fun h18 => ?_) (fun h18 => ?_)
        ·
          refine WL.pickF rfl rfl rfl (WL.nil (WX.then_normal (WC.cond_true rfl (WC.seq (WC.region (WL.assign rfl rfl (WL.assign rfl rfl (?_))))))))
          refine WL.nil (WX.then_normal (WC.ret (WX.then_ret (?_))))
          refine WX.ret2 (.inl rfl) Tryz.results13 rfl rfl ?_
          exfalso; omega
        ·
          refine WL.pickF rfl rfl rfl (WL.nil (WX.then_normal (WC.cond_false rfl (WC.skip (WX.then_normal (WC.seq (WC.region (?_))))))))
          refine WL.move rfl rfl (WL.move rfl rfl (?_))
          refine WL.makeMap (kv := kpl) (vv := vsl) rfl ?_
          intro m w1 em lm hM k1
          have zs_k1 := k1.size
          replace hw := hw.pure k1
          refine WL.move rfl rfl (?_)
          refine WL.make (e := ebool) false dn dn Tryz.underlying55 info_4 rfl rfl rfl ⟨rfl, rfl, Nat.le_refl _⟩ (by constructor <;> omega) rfl ?_
          intro g3 w3 hm k3 z3 eg3
          have zs_k3 := k3.size
          replace hw := hw.pure k3
          replace hM := hM.pure k3
          refine WL.bld rfl (bld_79_0_1_2_3 _ _ _ _ _ _) rfl (?_)
          refine WL.box rfl rfl ?_
          intro g_1 w_1 hge_1 hlt_1 hb_1 k_1
          have zs_k_1 := k_1.size
          replace hw := hw.pure k_1
          replace hM := hM.pure k_1
          replace hm := hm.pure k_1
          refine WL.assign rfl rfl (WL.assign rfl rfl (WL.nil (WX.then_normal (WC.ret (?_)))))
          refine WX.ret2 (.inl rfl) Tryz.results13 rfl rfl ?_
          refine ⟨_, rfl, ⟨_, rfl, ⟨by omega, newS_ok hd hs, m, _, _, none, 0, [], [], hb_1, ⟨by omega, hM, hm.mono (fun x hx => by omega), Row.nil _ _ _ _, fun p hp => by simp at hp, fun p hp => by simp at hp⟩, rfl, rfl⟩⟩, hw⟩
end Go.Proofs.YtggecdldnpildaaGreat
namespace Go.Proofs.YtggecdldnpildaaGreat
open Go.RowKit Go.HL
set_option maxRecDepth 100000

/-! what the calls do to what is read -/
def zeros : List UInt8 := List.replicate 128 0
def lastS (s : RA) (p : Pl) : List UInt8 := (mget s.last p).getD zeros
theorem heldS_eq (s : RA) (p : Pl) : heldS s p = match newV s.waits p with | some b => b | none => lastS s p := rfl
theorem newV_snoc {V : Type} (ws : List (Pl × V)) (p q : Pl) (b : V) : newV (ws ++ [(p, b)]) q = if q = p then some b else newV ws q := by
  unfold newV
  rw [List.reverse_append]
  rfl
theorem mget_puts {V : Type} {kp : Nat → Bool} {ws l : List (Pl × V)} {i : Nat} {x : Pl × V} (hx : ws[i]? = some x) (q : Pl) : mget (puts kp ws l (i + 1)) q = if kp i = true ∧ q = x.1 then some x.2 else mget (puts kp ws l i) q := by
  cases hk : kp i
  · rw [puts_not hx hk]
    simp
  · rw [puts_yes hx hk, mget_put]
    simp
theorem mget_puts_all {V : Type} (ws l : List (Pl × V)) (q : Pl) : ∀ i, i ≤ ws.length → mget (puts (fun _ => true) ws l i) q = match newV (ws.take i) q with | some v => some v | none => mget l q := by
  intro i
  induction i with
  | zero => intro _; rfl
  | succ i ih =>
    intro hi
    have hx : ws[i]? = some ws[i] := List.getElem?_eq_getElem (by omega)
    rw [mget_puts hx, ih (by omega), List.take_add_one, hx]
    show _ = match newV (ws.take i ++ [(ws[i].1, ws[i].2)]) q with | some v => some v | none => mget l q
    rw [newV_snoc]
    by_cases h : q = ws[i].1 <;> simp [h]
structure Up (s : RA) : Prop where
  off : s.off = false
  armed : s.armed = false
theorem Up.offS {s : RA} (h : Up s) : offS s = false := by simp [Go.Proofs.YtggecdldnpildaaGreat.offS, h.off, h.armed]
theorem Up.spend {s : RA} (h : Up s) : spendS s = s := by
  have h1 := h.offS
  have h2 := h.armed
  unfold spendS
  rw [h1]
  obtain ⟨dn, sn, last, gone, waits, off, armed, left⟩ := s
  simp only at h2
  subst h2
  rfl
/-- one more that waits -/
def addS (s : RA) (p : Pl) (b : List UInt8) : RA := { s with waits := s.waits ++ [(p, b)] }
theorem Up.write {s : RA} (h : Up s) {d a : Int} {b : List UInt8} (hi : inS s d a) (hg : goneS s d = false) (hb : b.length = 128) : writeE s d a b.length = 0 ∧ writeS s d a b = addS s (d, a) b := by
  have h0 : writeE s d a b.length = 0 := writeE_0.2 ⟨hi, hb, hg, h.offS⟩
  refine ⟨h0, ?_⟩
  rw [writeS, if_pos h0, h.spend]
  rfl
theorem addS_held (s : RA) (p q : Pl) (b : List UInt8) : heldS (addS s p b) q = if q = p then b else heldS s q := by
  rw [heldS_eq, heldS_eq, show (addS s p b).waits = s.waits ++ [(p, b)] from rfl, newV_snoc]
  by_cases h : q = p <;> simp [h]
  rfl
theorem addS_up {s : RA} (h : Up s) (p : Pl) (b : List UInt8) : Up (addS s p b) := ⟨h.off, h.armed⟩
/-- all lasts -/
def allS (s : RA) : RA := { s with last := puts (fun _ => true) s.waits s.last s.waits.length, waits := [] }
theorem Up.flush {s : RA} (h : Up s) : flushS s = allS s := by
  unfold flushS
  rw [h.offS, h.spend]
  rfl
theorem allS_last (s : RA) (q : Pl) : lastS (allS s) q = heldS s q := by
  rw [heldS_eq, lastS, show (allS s).last = puts (fun _ => true) s.waits s.last s.waits.length from rfl, mget_puts_all s.waits s.last q _ (Nat.le_refl _), List.take_length]
  cases newV s.waits q <;> rfl
theorem allS_held (s : RA) (q : Pl) : heldS (allS s) q = heldS s q := by
  rw [← allS_last s q]
  rfl
theorem heldS_none {s : RA} (h : s.waits = []) (q : Pl) : heldS s q = lastS s q := by
  rw [heldS_eq, h]
  rfl
theorem crash_up (s : RA) (ps : List Int) : Up (crashS s ps) := ⟨rfl, rfl⟩
theorem crash_held (s : RA) (ps : List Int) (q : Pl) : heldS (crashS s ps) q = lastS (crashS s ps) q := rfl
theorem puts_no {V : Type} {kp : Nat → Bool} {ws l : List (Pl × V)} (h : ∀ i, kp i = false) (n : Nat) : puts kp ws l n = l := by
  induction n with
  | zero => rfl
  | succ n ih =>
    simp only [puts]
    split
    · rw [if_neg (by rw [h]; decide)]; exact ih
    · exact ih
theorem crash_nil (s : RA) (q : Pl) : lastS (crashS s []) q = lastS s q := by
  rw [lastS, show (crashS s []).last = puts (keep []) s.waits s.last s.waits.length from rfl, puts_no (kp := keep []) (fun i => rfl)]
  rfl
theorem newS_up (d n : Nat) : Up (newS d n) := ⟨rfl, rfl⟩
theorem newS_gone (d n : Nat) (x : Int) : goneS (newS d n) x = false := by
  rw [goneS, show (newS d n).gone = List.replicate d false from rfl, List.getD_eq_getElem?_getD, List.getElem?_replicate]
  split <;> rfl
theorem errS_up {s : RA} (h : Up s) {d a : Int} (hi : inS s d a) (hg : goneS s d = false) : errS s d a = 0 := by
  simp [errS, hi, hg, h.off]
theorem RK.ne {A S : Nat → Prop} {w : World} {R : Nat} {s : RA} {ao : Option Addr} {c : Nat} {xs : List UInt8} (h : RK A w R s) (hq : Row S w 5 eb ao c xs) : Row (fun x => S x ∧ x ≠ R) w 5 eb ao c xs := by
  obtain ⟨m, ga, gc, wa, wc, ws, ls, hB, -⟩ := h.ex
  have hk := hB.kb
  refine hq.kb.mono ?_
  rintro x ⟨h1, h2⟩
  refine ⟨h1, fun e => ?_⟩
  rw [e, hk] at h2
  exact absurd h2 (by decide)
theorem Crash0_calls {A : Nat → Prop} {w : World} {R : Nat} {s : RA} (h : RK A w R s) :
    Calls Tryz.prog 33 [ptr R, .slice none 0 0].toArray w (Ret fun v w' => v = .tuple #[] ∧ RK A w' R (crashS s []) ∧ Chg A w w') :=
  Crash_calls (S := fun _ => False) (ao := none) (c := 0) (ps := []) h (RSl.nil _ _ _ _ _) (fun _ h _ => h)
end Go.Proofs.YtggecdldnpildaaGreat
namespace Go.Proofs.YtggecdldnpildaaGreat
open Go.RowKit Go.HL
set_option maxRecDepth 100000

/-! calls of a rack that has power -/
theorem RK.grow {A : Nat → Prop} {w w' : World} {R : Nat} {s : RA} (h : RK (fun x => A x ∨ w.heap.size ≤ x) w' R s) (hA : ∀ x, w.heap.size ≤ x → A x) : RK A w' R s := h.mono (fun x hx => hx.elim (fun h => h) (hA x))
theorem WriteU {A S : Nat → Prop} {w : World} {R : Nat} {s : RA} (h : RK A w R s) (hA : ∀ x, w.heap.size ≤ x → A x) (hu : Up s) {d a : Int} (hi : inS s d a) (hg : goneS s d = false) {ao : Option Addr} {c : Nat} {b : List UInt8} (hb : Row S w 5 eb ao c b) (hl : b.length = 128) (hn : s.waits.length ≤ 100000) :
    Calls Tryz.prog 31 [ptr R, vi d, vi a, .slice ao b.length c].toArray w (Ret fun v w' => v = vi 0 ∧ RK A w' R (addS s (d, a) b) ∧ Chg A w w') := by
  have h0 := hu.write hi hg hl
  refine (Write_calls h d a (h.ne hb).rsl (fun x h1 h2 => h1.2 h2) hn).mono ?_
  rintro e w' ⟨v, rfl, rfl, hR, k⟩
  rw [h0.2] at hR
  exact ⟨_, rfl, by rw [h0.1], hR.grow hA, k⟩
theorem FlushU {A : Nat → Prop} {w : World} {R : Nat} {s : RA} (h : RK A w R s) (hu : Up s) :
    Calls Tryz.prog 23 [ptr R].toArray w (Ret fun v w' => v = vi 0 ∧ RK A w' R (allS s) ∧ Chg A w w') := by
  refine (Flush_calls h).mono ?_
  rintro e w' ⟨v, rfl, rfl, hR, k⟩
  rw [hu.flush] at hR
  exact ⟨_, rfl, by rw [hu.offS]; rfl, hR, k⟩
theorem ReadU {A : Nat → Prop} {w : World} {R : Nat} {s : RA} (h : RK A w R s) (hu : Up s) {d a : Int} (hi : inS s d a) (hg : goneS s d = false) :
    Calls Tryz.prog 30 [ptr R, vi d, vi a].toArray w (Ret fun v w' => (∃ r : Rw, v = .tuple #[vsl r, vi 0] ∧ r.xs = heldS s (d, a) ∧ RSl (· < w'.heap.size) w' eb r.ao r.cap r.xs) ∧ Chg Nob w w') := by
  refine (Read_calls h d a).mono ?_
  rintro e w' ⟨v, rfl, ⟨r, e, rfl, he, hx, -, hq⟩, k⟩
  have he0 : e = 0 := he.trans (errS_up hu hi hg)
  subst he0
  exact ⟨_, rfl, ⟨r, rfl, hx rfl, hq.rsl.old⟩, k⟩
end Go.Proofs.YtggecdldnpildaaGreat
namespace Go.Proofs.YtggecdldnpildaaGreat
open Go.RowKit Go.HL
set_option maxRecDepth 100000

/-! writes that wait and are of a drive are lost -/
abbrev fnDel (g : Nat) : Value := .func (.func 68) #[] #[ptr g]
theorem del_calls {w : World} {g : Nat} {d : Int} (hD : Blk w g 3 [vi d]) (x : Pl × Rw) : Calls Tryz.prog 68 [.agg (ewr.f x).toArray, ptr g].toArray w (Ret fun v w' => v = .bool (decide (x.1.1 = d)) ∧ Chg Nob w w') := by
  have hw := Chg.refl Nob w
  refine Calls.of_WC Tryz.func68 rfl Tryz.ntmps68 (by simp) ?_
  refine WC.seq (WC.region (?_))
  refine WL.box rfl rfl ?_
  intro g_1 w_1 hge_1 hlt_1 hb_1 k_1
  have zs_k_1 := k_1.size
  replace hD := hD.pure k_1
  replace hw := hw.pure k_1
  refine WL.assign rfl rfl (WL.nil (WX.then_normal (WC.seq (WC.region (WL.fieldAddr (fld_105_0) rfl rfl (WL.fieldAddr (fld_103_0) rfl rfl (WL.loadB Tryz.isAgg3 hb_1 rfl rfl rfl (?_))))))))
  refine WL.loadB Tryz.isAgg3 hD rfl rfl rfl (WL.eql rfl rfl rfl (WL.assign rfl rfl (WL.nil (WX.then_normal (WC.ret (?_))))))
  refine WX.ret1 (.inl rfl) Tryz.results68 rfl ?_
  exact ⟨_, rfl, rfl, hw⟩
theorem dindex_calls {S : Nat → Prop} {w : World} {g : Nat} {d : Int} (hD : Blk w g 3 [vi d]) {wa : Option Addr} {wc : Nat} {ws : List (Pl × Rw)} (hW : Row S w 105 ewr wa wc ws) :
    Calls Tryz.prog 79 [.slice wa ws.length wc, fnDel g].toArray w (Ret fun v w' => (∃ k : Int, v = vi k ∧ ((k = -1 ∧ ∀ x ∈ ws, x.1.1 ≠ d) ∨ ∃ (i : Nat) (x : Pl × Rw), k = (i : Int) ∧ ws[i]? = some x ∧ x.1.1 = d ∧ ∀ j x, j < i → ws[j]? = some x → x.1.1 ≠ d)) ∧ Chg Nob w w') := by
  have hw := Chg.refl Nob w
  have hcap := hW.own.cap
  have hws : ws.length ≤ 9223372036854775807 := by
    rcases hW.own.2.2 with ⟨_, h⟩ | ⟨_, _, _, _, _, _, h, _⟩
    · omega
    · simp only [maxLen] at h; omega
  refine Calls.of_WC Tryz.func79 rfl Tryz.ntmps79 (by simp) ?_
  refine WC.seq (WC.region (WL.assign rfl rfl (WL.nil (WX.then_normal (WC.seq (WC.seq (WC.region (?_))))))))
  refine WL.move rfl rfl (WL.len Tryz.underlying77 rfl rfl (WL.move rfl rfl (WL.nil (WX.then_normal (WC.block (?_))))))
  refine WC.loop (σ := Nat) (fun i => [(0, .slice wa ws.length wc), (1, fnDel g), (7, vi ws.length), (8, vi (i : Int))]) (fun i w' => i ≤ ws.length ∧ Blk w' g 3 [vi d] ∧ Row S w' 105 ewr wa wc ws ∧ Chg Nob w w' ∧ ∀ j x, j < i → ws[j]? = some x → x.1.1 ≠ d) (fun i => ws.length - i) 0 ⟨rfl, rfl, rfl, rfl, trivial⟩ ⟨Nat.zero_le _, hD, hW, hw, fun j x hj => by omega⟩ ?_
  clear hD hW hw
  rintro i w1 ⟨hi, hD, hW, hw, hno⟩
  refine WC.seq (WC.region (?_))
  refine WL.lss? rfl rfl rfl (fun h9 => ?_) (fun h9 => ?_)
  ·
    refine WL.nil (WX.then_normal (WC.seq (WC.cond_true rfl (WC.skip (WX.then_normal (WC.seq (WC.block (?_))))))))
    refine WC.seq (WC.region (WL.move rfl rfl (WL.assign rfl rfl (WL.nil (WX.then_normal (WC.seq (WC.region (?_))))))))
    refine WL.move rfl rfl (WL.move rfl rfl (WL.move rfl rfl (?_)))
    obtain ⟨x, hx⟩ : ∃ x, ws[i]? = some x := ⟨_, List.getElem?_eq_getElem (by omega)⟩
    refine WL.indexT (e := ewr) Tryz.underlying77 Tryz.sizeOf105 hW.rsl rfl rfl ⟨hx, rfl⟩ rfl ?_
    intro bb oo hcc
    refine WL.loads _ Tryz.isAgg105 Tryz.sizeOf105 rfl hcc rfl rfl (?_)
    refine WL.callv eg_68 rfl rfl rfl (del_calls hD x) ?_
    rintro v w2 ⟨rfl, k2⟩
    have zs_k2 := k2.size
    replace hD := hD.pure k2
    replace hW := hW.pure k2
    replace hw := hw.pure k2
    refine WL.nil (WX.then_normal (?_))
    first | refine WC.cond_dec rfl (fun hc16 => ?_) (fun hc16 => ?_) | refine WC.cond_split rfl (fun hc16 => ?_) (fun hc16 => ?_)
    ·
      refine WC.seq (WC.region (WL.move rfl rfl (WL.assign rfl rfl (WL.nil (WX.then_normal (WC.ret (WX.block_ret (?_))))))))
      refine WX.then_ret (WX.then_ret (WX.block_ret (WX.then_ret (?_))))
      refine WX.ret1 (.inl rfl) Tryz.results79 rfl ?_
      exact ⟨_, rfl, ⟨_, rfl, .inr ⟨i, x, rfl, hx, hc16, hno⟩⟩, hw⟩
    ·
      refine WC.skip (WX.block_normal (WX.then_normal (WC.region (WL.add64 rfl rfl (by omega) rfl (WL.move rfl rfl (WL.nil (?_)))))))
      refine WX.loop_next (i + 1) ⟨rfl, rfl, rfl, rfl, trivial⟩ ⟨by omega, hD, hW, hw, fun j y hj hy => ?_⟩ (by omega)
      rcases Nat.lt_or_ge j i with h1 | h1
      ·
        exact hno j y h1 hy
      ·
        have h2 : j = i := by omega
        subst h2
        rw [hx] at hy
        injection hy with hy
        subst hy
        exact hc16
  ·
    refine WL.nil (WX.then_normal (WC.seq (WC.cond_false rfl (WC.exit (WX.then_exit (WX.then_exit (WX.block_here (?_))))))))
    refine WX.then_normal (WC.seq (WC.region (WL.assign rfl rfl (WL.nil (WX.then_normal (WC.ret (?_)))))))
    refine WX.ret1 (.inl rfl) Tryz.results79 rfl ?_
    refine ⟨_, rfl, ⟨_, rfl, .inl ⟨rfl, fun y hy => ?_⟩⟩, hw⟩
    obtain ⟨k, hk, rfl⟩ := List.getElem_of_mem hy
    exact hno k _ (by omega) (List.getElem?_eq_getElem hk)
def stay {V : Type} (d : Int) (ws : List (Pl × V)) : List (Pl × V) := ws.filter fun x => !decide (x.1.1 = d)
theorem stay_all {V : Type} {d : Int} {ws : List (Pl × V)} (h : ∀ x ∈ ws, x.1.1 ≠ d) : stay d ws = ws := List.filter_eq_self.2 fun x hx => by simp [h x hx]
theorem stay_snoc {V : Type} {d : Int} {ws : List (Pl × V)} {j : Nat} {x : Pl × V} (hx : ws[j]? = some x) : stay d (ws.take (j + 1)) = if x.1.1 = d then stay d (ws.take j) else stay d (ws.take j) ++ [x] := by
  unfold stay
  rw [List.take_add_one, hx, Option.toList_some, List.filter_append]
  by_cases h : x.1.1 = d <;> simp [h]
theorem delete_calls {S : Nat → Prop} {w : World} {g : Nat} {d : Int} (hD : Blk w g 3 [vi d]) {wa : Option Addr} {wc : Nat} {ws : List (Pl × Rw)} (hW : Row S w 105 ewr wa wc ws) :
    Calls Tryz.prog 67 [.slice wa ws.length wc, fnDel g].toArray w (Ret fun v w' => v = .slice wa (stay d ws).length wc ∧ Row S w' 105 ewr wa wc (stay d ws) ∧ Chg (fun b => Eqb wa b) w w') := by
  have hw := Chg.refl (fun b => Eqb wa b) w
  have hcap := hW.own.cap
  have hD0 := hD
  have hkD := hD.kb
  have hws : ws.length ≤ 9223372036854775807 := by
    rcases hW.own.2.2 with ⟨_, h⟩ | ⟨_, _, _, _, _, _, h, _⟩
    · omega
    · simp only [maxLen] at h; omega
  have lD := hD.lt
  replace hW := hW.kb.lt
  refine Calls.of_WC Tryz.func67 rfl Tryz.ntmps67 (by simp) ?_
  refine WC.seq (WC.region (WL.assign rfl rfl (WL.nil (WX.then_normal (WC.seq (WC.region (WL.move rfl rfl (?_))))))))
  refine WL.move rfl rfl (?_)
  refine WL.call eg_79 rfl rfl (dindex_calls hD hW) ?_
  rintro v w2 ⟨⟨k, rfl, hix⟩, k2⟩
  have zs_k2 := k2.size
  replace hD := hD.pure k2
  replace hW := hW.pure k2
  replace hw := hw.pure k2
  refine WL.assign rfl rfl (WL.nil (WX.then_normal (WC.seq (WC.seq (WC.region (WL.move rfl rfl (?_)))))))
  refine WL.eql? rfl rfl rfl (fun h12 => ?_) (fun h12 => ?_)
  ·
    refine WL.nil (WX.then_normal (WC.cond_true rfl (WC.seq (WC.region (WL.move rfl rfl (WL.assign rfl rfl (WL.nil (?_))))))))
    refine WX.then_normal (WC.ret (WX.then_ret (?_)))
    refine WX.ret1 (.inl rfl) Tryz.results67 rfl ?_
    have hk1 : k = -1 := h12
    rcases hix with ⟨-, hno⟩ | ⟨i0, x0, e0, -⟩
    ·
      rw [stay_all hno]
      exact ⟨_, rfl, rfl, hW.mono (fun x hx => hx.1.1), hw⟩
    ·
      omega
  ·
    refine WL.nil (WX.then_normal (WC.cond_false rfl (WC.skip (WX.then_normal (WC.seq (WC.seq (WC.region (?_))))))))
    refine WL.move rfl rfl (?_)
    obtain ⟨i0, x0, rfl, hx0, hxd, hno⟩ := hix.resolve_left (fun h => h12 h.1)
    have hi0 := (List.getElem?_eq_some_iff.1 hx0).1
    obtain ⟨gw, rfl⟩ := hW.place0 hi0
    have lgw := hW.own.lt _ rfl
    have hne : g ≠ gw := fun e => by
      have h1 := (hW.at_ _ rfl).1.2
      rw [← e, hkD] at h1
      exact absurd h1 (by decide)
    have h0i : ws.take i0 = stay d (ws.take (i0 + 1)) := by
      rw [stay_snoc hx0, if_pos hxd, stay_all]
      intro x hx
      obtain ⟨k, hk, rfl⟩ := List.getElem_of_mem hx
      have hk2 : k < i0 := by simp at hk; omega
      refine hno k _ hk2 ?_
      rw [List.getElem_take]
      exact List.getElem?_eq_getElem (by omega)
    refine WL.add64 rfl rfl (by constructor <;> omega) rfl ?_
    refine WL.assign rfl rfl (WL.nil (WX.then_normal (WC.block (?_))))
    have zw := hw.size
    refine WC.loop (σ := Nat × Nat × List (Pl × Rw)) (fun q => [(0, .slice (some ⟨gw, 0, none⟩) ws.length wc), (1, fnDel g), (5, vi (q.1 : Int)), (6, vi (q.2.1 : Int))]) (fun q w' => (q.1 < q.2.1 ∧ q.2.1 ≤ ws.length) ∧ q.2.2.length = ws.length ∧ q.2.2.take q.1 = stay d (ws.take q.2.1) ∧ (∀ k, q.2.1 ≤ k → q.2.2[k]? = ws[k]?) ∧ Blk w' g 3 [vi d] ∧ Row (fun b => (S b ∧ kb w b = some (some 105)) ∧ b < w.heap.size) w' 105 ewr (some ⟨gw, 0, none⟩) wc q.2.2 ∧ Chg (fun b => Eqb (some ⟨gw, 0, none⟩) b) w w' ∧ w2.heap.size ≤ w'.heap.size) (fun q => ws.length - q.2.1) (i0, i0 + 1, ws) ⟨rfl, rfl, rfl, rfl, trivial⟩ ⟨⟨Nat.lt_succ_self _, hi0⟩, rfl, h0i, fun _ _ => rfl, hD, hW, hw, Nat.le_refl _⟩ ?_
    clear hD hW hw
    rintro ⟨i, j, xs⟩ w1 ⟨⟨hij, hj⟩, hlen, htk, hdr, hD, hW, hw, z1⟩
    simp only at hij hj hlen htk hdr hW
    dsimp only
    refine WC.seq (WC.seq (WC.region (WL.move rfl rfl (WL.move rfl rfl (WL.len Tryz.underlying77 rfl rfl (?_))))))
    refine WL.lss? rfl rfl rfl (fun h19 => ?_) (fun h19 => ?_)
    ·
      refine WL.nil (WX.then_normal (WC.cond_true rfl (WC.skip (WX.then_normal (WC.seq (WC.block (WC.seq (?_))))))))
      refine WC.region (WL.move rfl rfl (WL.move rfl rfl (?_)))
      obtain ⟨x, hx⟩ : ∃ x, ws[j]? = some x := ⟨_, List.getElem?_eq_getElem (by omega)⟩
      have hx2 : xs[j]? = some x := (hdr j (Nat.le_refl _)).trans hx
      refine WL.indexT (e := ewr) Tryz.underlying77 Tryz.sizeOf105 hW.rsl (show _ = some (Value.slice (some ⟨gw, 0, none⟩) xs.length wc) from by rw [hlen]; rfl) rfl ⟨hx2, rfl⟩ rfl ?_
      intro bb oo hcc
      refine WL.loads _ Tryz.isAgg105 Tryz.sizeOf105 rfl hcc rfl rfl (?_)
      refine WL.alloc Tryz.zeroValue105 rfl ?_
      intro g_1 w_1 hge_1 hlt_1 hb_1 k_1
      have zs_k_1 := k_1.size
      replace hD := hD.pure k_1
      replace hW := hW.pure k_1
      replace hw := hw.pure k_1
      refine WL.stores Tryz.sizeOf105 hb_1 rfl rfl (by rfl) (by exact Enc.one _ _) (by exact Nat.le_of_ble_eq_true rfl) rfl ?_
      intro w_2 hs_2 hn_2 k_2
      have zs_k_2 := k_2.size
      replace hD := hD.chg k_2 (by intro h1; have h2 : _ = _ := h1; exfalso; omega)
      replace hW := hW.chg k_2 (by intro b h1 h2 h3; have h4 : _ = _ := h3; (try dsimp only at h2); exfalso; omega)
      replace hw := hw.chg k_2 (by intro x h1 h2; have h3 : _ = _ := h2; exfalso; omega)
      replace hb_1 := hn_2
      refine WL.nil (WX.then_normal (WC.seq (WC.region (?_))))
      have hb8 : Blk _ g_1 105 (ewr.f x) := hb_1
      refine WL.move rfl rfl ?_
      refine WL.loadsB Tryz.isAgg105 Tryz.sizeOf105 hb8 rfl rfl rfl ?_
      refine WL.callv eg_68 rfl rfl rfl (del_calls hD x) ?_
      rintro v w3 ⟨rfl, k3⟩
      have zs_k3 := k3.size
      replace hD := hD.pure k3
      replace hW := hW.pure k3
      replace hw := hw.pure k3
      replace hb8 := hb8.pure k3
      refine WL.not rfl rfl (WL.nil (WX.then_normal (?_)))
      first | refine WC.cond_dec rfl (fun hc29 => ?_) (fun hc29 => ?_) | refine WC.cond_split rfl (fun hc29 => ?_) (fun hc29 => ?_)
      ·
        refine WC.seq (WC.region (WL.move rfl rfl (WL.move rfl rfl (?_))))
        refine WL.loadsB Tryz.isAgg105 Tryz.sizeOf105 hb8 rfl rfl rfl ?_
        refine WL.index (j := i) Tryz.underlying77 Tryz.sizeOf105 rfl rfl rfl (by omega) rfl ?_
        refine WL.storeE (e := ewr) (vs := ewr.f x) (ys := xs.set i x) Tryz.sizeOf105 hW rfl rfl rfl (ewr.one x) (by show 0 + i * 3 + 3 ≤ xs.length * 3; omega) (List.length_set ..) (by rw [Nat.zero_add]; exact (Enc.all_set ewr (by omega) x).symm) ?_
        intro w8 z8 hW8 k8
        have zs_k8 := k8.size
        replace hD := hD.chg k8 (by intro h1; have h2 : _ = _ := h1; exfalso; omega)
        replace hw := hw.chg k8 (by intro x h1 h2; exact ⟨_, rfl, h2⟩)
        refine WL.nil (WX.then_normal (WC.region (WL.move rfl rfl (WL.add64 rfl rfl (by omega) rfl (WL.assign rfl rfl (WL.nil (WX.block_normal (?_))))))))
        refine WX.then_normal (WC.region (WL.move rfl rfl (WL.add64 rfl rfl (by omega) rfl (WL.assign rfl rfl (WL.nil (?_))))))
        have hs : (!decide (x.1.1 = d)) = true := hc29
        have hs2 : ¬ x.1.1 = d := by simpa using hs
        refine WX.loop_next (i + 1, j + 1, xs.set i x) ⟨rfl, rfl, rfl, rfl, trivial⟩ ⟨⟨by show i + 1 < j + 1; omega, by show j + 1 ≤ _; omega⟩, by show (xs.set i x).length = _; rw [List.length_set, hlen], ?_, ?_, hD, hW8, hw, by omega⟩ (by show ws.length - (j + 1) < ws.length - j; omega)
        ·
          show (xs.set i x).take (i + 1) = stay d (ws.take (j + 1))
          rw [stay_snoc hx, if_neg hs2, ← htk, List.take_add_one, List.take_set_of_le (Nat.le_refl _), List.getElem?_set_self (by omega)]
          rfl
        ·
          intro k hk
          have hk' : j + 1 ≤ k := hk
          show (xs.set i x)[k]? = ws[k]?
          rw [List.getElem?_set_ne (by omega)]
          exact hdr k (by omega)
      ·
        refine WC.skip (WX.block_normal (WX.then_normal (WC.region (WL.move rfl rfl (WL.add64 rfl rfl (by omega) rfl (WL.assign rfl rfl (WL.nil (?_))))))))
        have hs : (!decide (x.1.1 = d)) = false := hc29
        have hs2 : x.1.1 = d := by simpa using hs
        refine WX.loop_next (i, j + 1, xs) ⟨rfl, rfl, rfl, rfl, trivial⟩ ⟨⟨by show i < j + 1; omega, by show j + 1 ≤ _; omega⟩, hlen, ?_, ?_, hD, hW, hw, by omega⟩ (by show ws.length - (j + 1) < ws.length - j; omega)
        ·
          show xs.take i = stay d (ws.take (j + 1))
          rw [stay_snoc hx, if_pos hs2, htk]
        ·
          intro k hk
          have hk' : j + 1 ≤ k := hk
          exact hdr k (by omega)
    ·
      refine WL.nil (WX.then_normal (WC.cond_false rfl (WC.exit (WX.then_exit (WX.then_exit (WX.block_here (WX.then_normal (?_))))))))
      refine WC.seq (WC.region (WL.move rfl rfl (WL.move rfl rfl (?_))))
      refine WL.sliceC (e := ewr) (l := i) (h := xs.length) (k := .i64) (j := .i64) Tryz.underlying77 Tryz.sizeOf105 hW.rsl (by rw [hlen]; rfl) (.inl rfl) (.inr ⟨rfl, rfl⟩) ⟨by omega, Nat.le_refl _⟩ rfl ?_
      refine WL.clearTail (e := ewr) (i := i) Tryz.underlying77 Tryz.zeroValue105 rfl (by simp [Value.cells, Value.oneCell']) hW (by rw [List.take_length, List.length_drop]; omega) rfl ?_
      intro w9 z9 hW9 k9
      have zs_k9 := k9.size
      replace hD := hD.chg k9 (by intro h1; have h2 : _ = _ := h1; exfalso; omega)
      replace hw := hw.chg k9 (by intro x h1 h2; exact ⟨_, rfl, h2⟩)
      refine WL.nil (WX.then_normal (WC.seq (WC.region (WL.move rfl rfl (WL.move rfl rfl (?_))))))
      refine WL.sliceRow (e := ewr) (i := i) Tryz.underlying77 Tryz.sizeOf105 rfl rfl (by omega) rfl ?_
      refine WL.assign rfl rfl (WL.nil (WX.then_normal (WC.ret (?_))))
      refine WX.ret1 (.inl rfl) Tryz.results67 rfl ?_
      have hjl : j = ws.length := by omega
      subst hjl
      rw [List.take_length] at htk
      have hil : (stay d ws).length = i := by rw [← htk, List.length_take]; omega
      rw [htk] at hW9
      exact ⟨_, rfl, by rw [hil], hW9.mono (fun x hx => hx.1.1), hw⟩
end Go.Proofs.YtggecdldnpildaaGreat
