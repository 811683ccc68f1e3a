import Derived.Test.YtdjlfbadcijjaaaHq
import Derived.Test.YtdjlfbadcijjaaaHi
import Derived.Test.YtdjlfbadcijjaaaHu
import Derived.Test.YtdjlfbadcijjaaaHz
namespace Go.Proofs.Ytdjlfbadcijjaaa
open Go.RowKit Go.HL

/-! what a rack holds -/
abbrev Pl := Int × Int
def kpl (p : Pl) : Value := .agg #[vi p.1, vi p.2]
def vsl (r : Rw) : Value := .slice r.ao r.xs.length r.cap
def ewr : Enc (Pl × Rw) := ⟨3, fun x => [vi x.1.1, vi x.1.2, .slice x.2.ao x.2.xs.length x.2.cap], fun _ => rfl, by simp [Value.oneCell'], by decide⟩
theorem eqg_pl : Try.prog.eqGuardType Try.prog.depth 69 = false := by kernel_rfl
theorem eq_pl (a b c d : Int) (w : World) : (Op.equalIn 10000 69 (.agg #[vi a, vi b]) (.agg #[vi c, vi d])).run Try.prog w = .ok (decide (a = c ∧ b = d)) w := by
  refine eqA_of (d := 9999) Try.underlying69 (by kernel_rfl) ?_
  have h3 : (decide (a = c) && (decide (b = d) && true)) = decide (a = c ∧ b = d) := by simp [Bool.decide_and]
  rw [← h3]
  refine eqf_cons rfl (part1 (cs := [vi a, vi b]) Try.sizeOf3 Try.isAgg3 rfl) (part1 (cs := [vi c, vi d]) Try.sizeOf3 Try.isAgg3 rfl) (run_equalIn_int w 9998 _ _ _ _ _ Try.underlying3) ?_
  refine eqf_cons rfl (part1 (cs := [vi a, vi b]) Try.sizeOf3 Try.isAgg3 rfl) (part1 (cs := [vi c, vi d]) Try.sizeOf3 Try.isAgg3 rfl) (run_equalIn_int w 9998 _ _ _ _ _ Try.underlying3) eqf_nil
theorem plOk : KeyOk Try.prog 69 kpl where
  chk em w k := by
    have h1 : ∀ a w, (Instr.checkKey em 9999 3 (vi a)).run Try.prog w = .ok () w := fun a w => by
      rw [Instr.checkKey]
      simp [run_underlying Try.underlying3]
    show (Instr.checkKey em (9999 + 1) 69 (.agg #[vi k.1, vi k.2])).run Try.prog w = .ok () w
    rw [Instr.checkKey]
    simp [run_underlying Try.underlying69, part, Try.sizeOf3, Try.isAgg3, h1]
  eq w k k' := by
    show (Op.equalIn 10000 69 (.agg #[vi k.1, vi k.2]) (.agg #[vi k'.1, vi k'.2])).run Try.prog w = .ok (decide (k = k')) w
    rw [eq_pl, decide_eq_decide.2 (Prod.ext_iff (x := k) (y := k')).symm]
  st := ⟨_, Try.underlying69⟩
  same k := by
    show Instr.sameBits (9999 + 1) (.agg #[vi k.1, vi k.2]) (.agg #[vi k.1, vi k.2]) = true
    rw [Instr.sameBits]
    simp [Instr.sameBits]
structure RA where
  dn : Nat
  sn : Nat
  last : List (Pl × List UInt8)
  gone : List Bool
  waits : List (Pl × List UInt8)
  off : Bool
  armed : Bool
  left : Int
def xsm (l : List (Pl × Rw)) : List (Pl × List UInt8) := l.map fun p => (p.1, p.2.xs)
structure RA.ok (s : RA) : Prop where
  dn : 1 ≤ s.dn ∧ s.dn ≤ 16
  sn : 1 ≤ s.sn ∧ s.sn ≤ 2000
  gl : s.gone.length = s.dn
  ll : ∀ p ∈ s.last, p.2.length = 128
  lw : ∀ p ∈ s.waits, p.2.length = 128
  lf : (s.armed = true → 0 ≤ s.left) ∧ -9223372036854775808 ≤ s.left ∧ s.left ≤ 9223372036854775807
  nd : (s.last.map (·.1)).Nodup
abbrev rcells (s : RA) (m : Nat) (ga : Option Addr) (gc : Nat) (wa : Option Addr) (wc n : Nat) : List Value := [vi s.dn, vi s.sn, .map (some m), .slice ga s.gone.length gc, .slice wa n wc, .bool s.off, .bool s.armed, vi s.left]
/-- all but the rack's own block -/
structure RI (S : Nat → Prop) (w : World) (m : Nat) (ga : Option Addr) (gc : Nat) (wa : Option Addr) (wc : Nat) (gl : List Bool) (ws ls : List (Pl × Rw)) : Prop where
  sm : S m
  map : Mp kpl vsl w m ls
  gone : Row S w 4 ebool ga gc gl
  waits : Row S w 72 ewr wa wc ws
  byl : ∀ p ∈ ls, Row S w 5 eb p.2.ao p.2.cap p.2.xs
  byw : ∀ p ∈ ws, Row S w 5 eb p.2.ao p.2.cap p.2.xs
section
variable {S M : Nat → Prop} {w w' : World} {m : Nat} {ga : Option Addr} {gc : Nat} {wa : Option Addr} {wc : Nat} {gl : List Bool} {ws ls : List (Pl × Rw)}
theorem RI.chg (h : RI S w m ga gc wa wc gl ws ls) (k : Chg M w w') (hd : ∀ b, b < w.heap.size → S b → M b → False) : RI S w' m ga gc wa wc gl ws ls :=
  ⟨h.sm, h.map.chg k (fun hm => hd m h.map.lt h.sm hm), h.gone.chg k hd, h.waits.chg k hd, fun p hp => (h.byl p hp).chg k hd, fun p hp => (h.byw p hp).chg k hd⟩
theorem RI.pure (h : RI S w m ga gc wa wc gl ws ls) (k : Chg Nob w w') : RI S w' m ga gc wa wc gl ws ls := h.chg k (fun _ _ _ x => x)
theorem RI.mono {S' : Nat → Prop} (h : RI S w m ga gc wa wc gl ws ls) (k : ∀ b, S b → S' b) : RI S' w m ga gc wa wc gl ws ls :=
  ⟨k _ h.sm, h.map, h.gone.mono k, h.waits.mono k, fun p hp => (h.byl p hp).mono k, fun p hp => (h.byw p hp).mono k⟩
/-- no part of it is the rack's own block -/
theorem RI.open {R : Nat} {cs : List Value} (h : RI S w m ga gc wa wc gl ws ls) (hB : Blk w R 66 cs) : RI (fun b => S b ∧ b ≠ R) w m ga gc wa wc gl ws ls := by
  have hk := hB.kb
  refine ⟨⟨h.sm, fun e => ?_⟩, h.map, h.gone.kb.mono ?_, h.waits.kb.mono ?_, fun p hp => (h.byl p hp).kb.mono ?_, fun p hp => (h.byw p hp).kb.mono ?_⟩
  · have := h.map.kb
    rw [e, hk] at this
    simp at this
  all_goals
    rintro b ⟨h1, h2⟩
    refine ⟨h1, fun e => ?_⟩
    rw [e, hk] at h2
    exact absurd h2 (by decide)
/-- the map alone has turned -/
theorem RI.putMap {ls2 : List (Pl × Rw)} (h : RI S w m ga gc wa wc gl ws ls) (hM : Mp kpl vsl w' m ls2) (k : Chg (· = m) w w') (hn : ∀ p ∈ ls2, (∃ q ∈ ls, q.2 = p.2) ∨ (∃ q ∈ ws, q.2 = p.2)) : RI S w' m ga gc wa wc gl ws ls2 := by
  have hk := h.map.kb
  have hd : ∀ T b, b < w.heap.size → b = m → kb w b ≠ some (some T) := by
    rintro T b _ rfl
    rw [hk]
    simp
  have hb : ∀ p ∈ ls2, Row S w 5 eb p.2.ao p.2.cap p.2.xs := fun p hp => by
    rcases hn p hp with ⟨q, hq, e⟩ | ⟨q, hq, e⟩
    · rw [← e]; exact h.byl q hq
    · rw [← e]; exact h.byw q hq
  exact ⟨h.sm, hM, h.gone.chgK k (hd _), h.waits.chgK k (hd _), fun p hp => (hb p hp).chgK k (hd _), fun p hp => (h.byw p hp).chgK k (hd _)⟩
/-- the row of the writes that wait alone has turned -/
theorem RI.setWaits {wa2 : Option Addr} {wc2 : Nat} {ws2 : List (Pl × Rw)} (h : RI S w m ga gc wa wc gl ws ls) (hW : Row S w' 72 ewr wa2 wc2 ws2) (k : Chg M w w') (hM : ∀ b, M b → Eqb wa b) (hn : ∀ p ∈ ws2, (∃ q ∈ ws, q.2 = p.2) ∨ Row S w 5 eb p.2.ao p.2.cap p.2.xs) : RI S w' m ga gc wa2 wc2 gl ws2 ls := by
  have hd : ∀ b, b < w.heap.size → M b → kb w b = some (some 72) := fun b _ hm => h.waits.kb.at_.eqb (hM b hm) |>.2
  have hb : ∀ p ∈ ws2, Row S w 5 eb p.2.ao p.2.cap p.2.xs := fun p hp => by
    rcases hn p hp with ⟨q, hq, e⟩ | h1
    · rw [← e]; exact h.byw q hq
    · exact h1
  refine ⟨h.sm, h.map.chg k (fun hm => ?_), h.gone.chgK k (fun b h1 h2 => ?_), hW, fun p hp => (h.byl p hp).chgK k (fun b h1 h2 => ?_), fun p hp => (hb p hp).chgK k (fun b h1 h2 => ?_)⟩
  · have h1 := hd m h.map.lt hm
    rw [h.map.kb] at h1
    simp at h1
  all_goals
    rw [hd b h1 h2]
    decide
/-- the row of the drives that are gone alone has turned -/
theorem RI.setGone {gl2 : List Bool} {g : Nat} (h : RI S w m (some ⟨g, 0, none⟩) gc wa wc gl ws ls) (hG : Row S w' 4 ebool (some ⟨g, 0, none⟩) gc gl2) (k : Chg (· = g) w w') : RI S w' m (some ⟨g, 0, none⟩) gc wa wc gl2 ws ls := by
  have hk : kb w g = some (some 4) := (h.gone.kb.at_ _ rfl).2
  have hd : ∀ T, T ≠ 4 → ∀ b, b < w.heap.size → b = g → kb w b ≠ some (some T) := by
    rintro T hT b _ rfl e
    rw [hk] at e
    injection e with e
    injection e with e
    exact hT e.symm
  refine ⟨h.sm, h.map.chg k (fun hm => ?_), hG, h.waits.chgK k (hd _ (by decide)), fun p hp => (h.byl p hp).chgK k (hd _ (by decide)), fun p hp => (h.byw p hp).chgK k (hd _ (by decide))⟩
  have h1 := h.map.kb
  rw [show m = g from hm, hk] at h1
  simp at h1
end
/-- a rack -/
structure RK (A : Nat → Prop) (w : World) (R : Nat) (s : RA) : Prop where
  aR : A R
  ok : s.ok
  ex : ∃ (m : Nat) (ga : Option Addr) (gc : Nat) (wa : Option Addr) (wc : Nat) (ws ls : List (Pl × Rw)), Blk w R 66 (rcells s m ga gc wa wc ws.length) ∧ RI A w m ga gc wa wc s.gone ws ls ∧ s.last = xsm ls ∧ s.waits = xsm ws
theorem RK.chg {A M : Nat → Prop} {w w' : World} {R : Nat} {s : RA} (h : RK A w R s) (k : Chg M w w') (hd : ∀ b, b < w.heap.size → A b → M b → False) : RK A w' R s := by
  obtain ⟨m, ga, gc, wa, wc, ws, ls, hB, hI, hl⟩ := h.ex
  exact ⟨h.aR, h.ok, m, ga, gc, wa, wc, ws, ls, hB.chg k (fun hm => hd R hB.lt h.aR hm), hI.chg k hd, hl⟩
theorem RK.pure {A : Nat → Prop} {w w' : World} {R : Nat} {s : RA} (h : RK A w R s) (k : Chg Nob w w') : RK A w' R s := h.chg k (fun _ _ _ x => x)
theorem RK.mono {A A' : Nat → Prop} {w : World} {R : Nat} {s : RA} (h : RK A w R s) (k : ∀ b, A b → A' b) : RK A' w R s := by
  obtain ⟨m, ga, gc, wa, wc, ws, ls, hB, hI, hl⟩ := h.ex
  exact ⟨k _ h.aR, h.ok, m, ga, gc, wa, wc, ws, ls, hB, hI.mono k, hl⟩
abbrev ptr (g : Nat) : Value := .pointer (some ⟨g, 0, none⟩)
/-! asking for a drive, for a sector -/
theorem is_calls {A : Nat → Prop} {w : World} {R : Nat} {s : RA} (h : RK A w R s) (d : Int) : Calls Try.prog 35 [ptr R, vi d].toArray w (Ret fun v w' => v = .bool (decide (0 ≤ d ∧ d < s.dn)) ∧ Chg Nob w w') := by
  obtain ⟨m, ga, gc, wa, wc, ws, ls, hB, -⟩ := h.ex
  have hw := Chg.refl Nob w
  refine Calls.of_WC Try.func35 rfl Try.ntmps35 (by simp) ?_
  refine WC.seq (WC.region (WL.assign rfl rfl (WL.nil (WX.then_normal (WC.seq (WC.region (WL.move rfl rfl (?_))))))))
  refine WL.ptrSome Try.underlying25 rfl rfl rfl ?_
  refine WL.move rfl rfl (WL.want rfl rfl rfl (WL.move rfl rfl (WL.want rfl rfl rfl (?_))))
  refine WL.geq? rfl rfl rfl (fun h9 => ?_) (fun h9 => ?_)
  ·
    refine WL.pickT rfl rfl rfl (WL.move rfl rfl (WL.want rfl rfl rfl (WL.move rfl rfl (WL.want rfl rfl rfl (WL.move rfl rfl (WL.want rfl rfl rfl (WL.nilCheck rfl rfl (?_))))))))
    refine WL.want rfl rfl rfl (WL.fieldAddr (fld_66_0) rfl rfl (WL.want rfl rfl rfl (WL.loadB Try.isAgg3 hB rfl rfl rfl (WL.want rfl rfl rfl (WL.lss rfl rfl rfl (WL.pickT rfl rfl rfl (WL.assign rfl rfl (?_))))))))
    refine WL.nil (WX.then_normal (WC.ret (?_)))
    refine WX.ret1 (.inl rfl) Try.results35 rfl ?_
    refine ⟨_, rfl, ?_, hw⟩
    congr 1
    simp
    omega
  ·
    refine WL.pickT rfl rfl rfl (WL.move rfl rfl (WL.pass rfl rfl rfl rfl (WL.pass rfl rfl rfl rfl (WL.pass rfl rfl rfl rfl (WL.pass rfl rfl rfl rfl (WL.pass rfl rfl rfl rfl (WL.pass rfl rfl rfl rfl (?_))))))))
    refine WL.pickF rfl rfl rfl (WL.assign rfl rfl (WL.nil (WX.then_normal (WC.ret (?_)))))
    refine WX.ret1 (.inl rfl) Try.results35 rfl ?_
    refine ⟨_, rfl, ?_, hw⟩
    congr 1
    simp
    omega
theorem in_calls {A : Nat → Prop} {w : World} {R : Nat} {s : RA} (h : RK A w R s) (d a : Int) : Calls Try.prog 30 [ptr R, vi d, vi a].toArray w (Ret fun v w' => v = .bool (decide (0 ≤ d ∧ d < s.dn ∧ 0 ≤ a ∧ a < s.sn)) ∧ Chg Nob w w') := by
  have hw := Chg.refl Nob w
  refine Calls.of_WC Try.func30 rfl Try.ntmps30 (by simp) ?_
  refine WC.seq (WC.region (WL.assign rfl rfl (WL.nil (WX.then_normal (WC.seq (WC.region (WL.move rfl rfl (?_))))))))
  refine WL.move rfl rfl (?_)
  refine WL.call eg_35 rfl rfl (is_calls h d) ?_
  rintro v w1 ⟨rfl, k1⟩
  have zs_k1 := k1.size
  replace h := h.pure k1
  replace hw := hw.pure k1
  obtain ⟨m, ga, gc, wa, wc, ws, ls, hB, -⟩ := h.ex
  by_cases h9 : 0 ≤ d ∧ d < s.dn
  ·
    rw [decide_eq_true h9]
    refine WL.move rfl rfl (WL.want rfl rfl rfl (WL.move rfl rfl (WL.want rfl rfl rfl (?_))))
    refine WL.geq? rfl rfl rfl (fun h12 => ?_) (fun h12 => ?_)
    ·
      refine WL.pickT rfl rfl rfl (WL.move rfl rfl (WL.want rfl rfl rfl (WL.move rfl rfl (WL.want rfl rfl rfl (WL.move rfl rfl (WL.want rfl rfl rfl (WL.nilCheck rfl rfl (?_))))))))
      refine WL.want rfl rfl rfl (WL.fieldAddr (fld_66_1) rfl rfl (WL.want rfl rfl rfl (WL.loadB Try.isAgg3 hB rfl rfl rfl (WL.want rfl rfl rfl (WL.lss rfl rfl rfl (WL.pickT rfl rfl rfl (WL.assign rfl rfl (?_))))))))
      refine WL.nil (WX.then_normal (WC.ret (?_)))
      refine WX.ret1 (.inl rfl) Try.results30 rfl ?_
      refine ⟨_, rfl, ?_, hw⟩
      congr 1
      first
        | (simp [h9.1, h9.2, h12]; done)
        | (simp; omega)
    ·
      refine WL.pickT rfl rfl rfl (WL.move rfl rfl (WL.pass rfl rfl rfl rfl (WL.pass rfl rfl rfl rfl (WL.pass rfl rfl rfl rfl (WL.pass rfl rfl rfl rfl (WL.pass rfl rfl rfl rfl (WL.pass rfl rfl rfl rfl (?_))))))))
      refine WL.pickF rfl rfl rfl (WL.assign rfl rfl (WL.nil (WX.then_normal (WC.ret (?_)))))
      refine WX.ret1 (.inl rfl) Try.results30 rfl ?_
      refine ⟨_, rfl, ?_, hw⟩
      congr 1
      first
        | (simp [h9.1, h9.2, h12]; done)
        | (simp; omega)
  ·
    rw [decide_eq_false h9]
    refine WL.move rfl rfl (WL.pass rfl rfl rfl rfl (WL.pass rfl rfl rfl rfl (WL.pickF rfl rfl rfl (WL.move rfl rfl (WL.pass rfl rfl rfl rfl (WL.pass rfl rfl rfl rfl (WL.pass rfl rfl rfl rfl (?_))))))))
    refine WL.pass rfl rfl rfl rfl (WL.pass rfl rfl rfl rfl (WL.pass rfl rfl rfl rfl (WL.pickF rfl rfl rfl (WL.assign rfl rfl (WL.nil (WX.then_normal (WC.ret (?_))))))))
    refine WX.ret1 (.inl rfl) Try.results30 rfl ?_
    refine ⟨_, rfl, ?_, hw⟩
    congr 1
    first
      | (simp [h9.1, h9.2, h12]; done)
      | (simp; omega)
end Go.Proofs.Ytdjlfbadcijjaaa
