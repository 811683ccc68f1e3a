import Derived.Test.YtgmkoieemmglpaaHv
import Derived.Test.YtgmkoieemmglpaaHw
import Derived.Test.YtgmkoieemmglpaaHr
import Derived.Test.YtgmkoieemmglpaaHz
namespace Go.Proofs.Ytgmkoieemmglpaa
open Go.RowKit Go.HL

/-! blocks that are dead: pointers, snapshots, lines -/
structure PtV where
  a : Int
  z : Int
  b : Int
  s : ByteArray
theorem PtV.eq_iff (p q : PtV) : (p.a = q.a ∧ p.z = q.z ∧ p.b = q.b ∧ p.s = q.s) ↔ p = q := by
  obtain ⟨a, z, b, s⟩ := p
  obtain ⟨a2, z2, b2, s2⟩ := q
  simp
instance : DecidableEq PtV := fun a b => decidable_of_iff _ (PtV.eq_iff a b)
def ept : Enc PtV := ⟨4, fun p => [vi p.a, vi p.z, vi p.b, .string p.s], fun _ => rfl, by simp [Value.oneCell'], by decide⟩
structure SnV where
  txg : Int
  ao : Option Addr
  cap : Nat
  dead : List PtV
def esn : Enc SnV := ⟨2, fun x => [vi x.txg, .slice x.ao x.dead.length x.cap], fun _ => rfl, by simp [Value.oneCell'], by decide⟩
structure LnV where
  base : Int
  sao : Option Addr
  scap : Nat
  snaps : List SnV
  dao : Option Addr
  dcap : Nat
  dead : List PtV
abbrev lcells (l : LnV) : List Value := [vi l.base, .slice l.sao l.snaps.length l.scap, .slice l.dao l.dead.length l.dcap]
abbrev lval (l : LnV) : Value := .agg (lcells l).toArray
/-- what a line says -/
structure LA where
  base : Int
  snaps : List (Int × List PtV)
  dead : List PtV
def sabs (l : List SnV) : List (Int × List PtV) := l.map fun x => (x.txg, x.dead)
def LnV.abs (l : LnV) : LA := ⟨l.base, sabs l.snaps, l.dead⟩
theorem sabs_len (l : List SnV) : (sabs l).length = l.length := by simp [sabs]
theorem sabs_at {l : List SnV} {i : Nat} {x : SnV} (h : l[i]? = some x) : (sabs l)[i]? = some (x.txg, x.dead) := by simp [sabs, h]
def LA.ahead (L : LA) (i : Nat) : Int := if i = 0 then L.base else ((L.snaps[i - 1]?).map (·.1)).getD 0
structure LA.Right (L : LA) : Prop where
  base : 0 ≤ L.base
  dead : ∀ p ∈ L.dead, p.b ≤ L.ahead L.snaps.length
  snaps : ∀ i x, L.snaps[i]? = some x → L.ahead i < x.1 ∧ ∀ p ∈ x.2, p.b ≤ L.ahead i
/-- a line that is read -/
structure LS (S : Nat → Prop) (w : World) (l : LnV) : Prop where
  snaps : RSl S w esn l.sao l.scap l.snaps
  dead : RSl S w ept l.dao l.dcap l.dead
  inner : ∀ x ∈ l.snaps, RSl S w ept x.ao x.cap x.dead
section
variable {S M : Nat → Prop} {w w' : World} {l : LnV}
theorem LS.chg (h : LS S w l) (k : Chg M w w') (hd : ∀ b, b < w.heap.size → S b → M b → False) : LS S w' l := ⟨h.snaps.chg k hd, h.dead.chg k hd, fun x hx => (h.inner x hx).chg k hd⟩
theorem LS.pure (h : LS S w l) (k : Chg Nob w w') : LS S w' l := h.chg k (fun _ _ _ x => x)
theorem LS.mono {S' : Nat → Prop} (h : LS S w l) (k : ∀ b, S b → S' b) : LS S' w l := ⟨h.snaps.mono k, h.dead.mono k, fun x hx => (h.inner x hx).mono k⟩
theorem LS.old (h : LS S w l) : LS (· < w.heap.size) w l := ⟨h.snaps.old, h.dead.old, fun x hx => (h.inner x hx).old⟩
end
abbrev gptr (g : Nat) : Value := .pointer (some ⟨g, 0, none⟩)
abbrev fnLater (g : Nat) : Value := .func (.func 33) #[] #[gptr g]
theorem lat_calls {w : World} {g : Nat} {t : Int} (hD : Blk w g 3 [vi t]) (x : PtV) : Calls Try.prog 33 [.agg (ept.f x).toArray, gptr g].toArray w (Ret fun v w' => v = .bool (decide (t < x.b)) ∧ Chg Nob w w') := by
  have hw := Chg.refl Nob w
  refine Calls.of_WC Try.func33 rfl Try.ntmps33 (by simp) ?_
  refine WC.seq (WC.region (?_))
  refine WL.box rfl rfl ?_
  intro g_1 w_1 hge_1 hlt_1 hb_1 k_1
  have zs_k_1 := k_1.size
  replace hD := hD.pure k_1
  replace hw := hw.pure k_1
  refine WL.assign rfl rfl (WL.nil (WX.then_normal (WC.seq (WC.region (WL.fieldAddr (fld_27_2) rfl rfl (WL.loadB Try.isAgg3 hb_1 rfl rfl rfl (WL.loadB Try.isAgg3 hD rfl rfl rfl (?_))))))))
  refine WL.gtr rfl rfl rfl (WL.assign rfl rfl (WL.nil (WX.then_normal (WC.ret (?_)))))
  refine WX.ret1 (.inl rfl) Try.results33 rfl ?_
  exact ⟨_, rfl, rfl, hw⟩
theorem later_calls (w : World) (t : Int) : Calls Try.prog 24 [vi t].toArray w (Ret fun v w' => (∃ g, v = fnLater g ∧ Blk w' g 3 [vi t] ∧ w.heap.size ≤ g) ∧ Chg Nob w w') := by
  have hw := Chg.refl Nob w
  refine Calls.of_WC Try.func24 rfl Try.ntmps24 (by simp) ?_
  refine WC.seq (WC.region (?_))
  refine WL.box rfl rfl ?_
  intro g_1 w_1 hge_1 hlt_1 hb_1 k_1
  have zs_k_1 := k_1.size
  replace hw := hw.pure k_1
  refine WL.assign rfl rfl (WL.nil (WX.then_normal (WC.seq (WC.region (?_)))))
  refine WL.makeFun rfl rfl ?_
  refine WL.assign rfl rfl (WL.nil (WX.then_normal (WC.ret (?_))))
  refine WX.ret1 (.inl rfl) Try.results24 rfl ?_
  exact ⟨_, rfl, ⟨g_1, rfl, hb_1, hge_1⟩, hw⟩
theorem pindex_calls {S : Nat → Prop} {w : World} {g : Nat} {t : Int} (hD : Blk w g 3 [vi t]) {ao : Option Addr} {c : Nat} {ps : List PtV} (hr : RSl S w ept ao c ps) (hl : ps.length ≤ 9223372036854775807) :
    Calls Try.prog 32 [.slice ao ps.length c, fnLater g].toArray w (Ret fun v w' => (∃ k : Int, v = vi k ∧ (0 ≤ k ↔ ∃ p ∈ ps, t < p.b)) ∧ Chg Nob w w') := by
  have hw := Chg.refl Nob w
  refine Calls.of_WC Try.func32 rfl Try.ntmps32 (by simp) ?_
  refine WC.seq (WC.region (WL.assign rfl rfl (WL.nil (WX.then_normal (WC.seq (WC.seq (WC.region (?_))))))))
  refine WL.move rfl rfl (WL.len Try.underlying23 rfl rfl (WL.move rfl rfl (WL.nil (WX.then_normal (WC.block (?_))))))
  refine WC.loop (σ := Nat) (fun i => [(0, .slice ao ps.length c), (1, fnLater g), (7, vi ps.length), (8, vi (i : Int))]) (fun i w' => i ≤ ps.length ∧ Blk w' g 3 [vi t] ∧ RSl S w' ept ao c ps ∧ Chg Nob w w' ∧ ∀ j x, j < i → ps[j]? = some x → ¬ t < x.b) (fun i => ps.length - i) 0 ⟨rfl, rfl, rfl, rfl, trivial⟩ ⟨Nat.zero_le _, hD, hr, hw, fun j x hj => by omega⟩ ?_
  clear hD hr hw
  rintro i w1 ⟨hi, hD, hr, hw, hno⟩
  refine WC.seq (WC.region (?_))
  refine WL.lss? rfl rfl rfl (fun h9 => ?_) (fun h9 => ?_)
  ·
    refine WL.nil (WX.then_normal (WC.seq (WC.cond_true rfl (WC.skip (WX.then_normal (WC.seq (WC.block (?_))))))))
    refine WC.seq (WC.region (WL.move rfl rfl (WL.assign rfl rfl (WL.nil (WX.then_normal (WC.seq (WC.region (?_))))))))
    refine WL.move rfl rfl (WL.move rfl rfl (WL.move rfl rfl (?_)))
    obtain ⟨x, hx⟩ : ∃ x, ps[i]? = some x := ⟨_, List.getElem?_eq_getElem (by omega)⟩
    refine WL.indexT (e := ept) Try.underlying23 Try.sizeOf27 hr rfl rfl ⟨hx, rfl⟩ rfl ?_
    intro bb oo hcc
    refine WL.loads _ Try.isAgg27 Try.sizeOf27 rfl hcc rfl rfl (?_)
    refine WL.callv eg_33 rfl rfl rfl (lat_calls hD x) ?_
    rintro v w2 ⟨rfl, k2⟩
    have zs_k2 := k2.size
    replace hD := hD.pure k2
    replace hr := hr.pure k2
    replace hw := hw.pure k2
    refine WL.nil (WX.then_normal (?_))
    first | refine WC.cond_dec rfl (fun hc16 => ?_) (fun hc16 => ?_) | refine WC.cond_split rfl (fun hc16 => ?_) (fun hc16 => ?_)
    ·
      refine WC.seq (WC.region (WL.move rfl rfl (WL.assign rfl rfl (WL.nil (WX.then_normal (WC.ret (WX.block_ret (?_))))))))
      refine WX.then_ret (WX.then_ret (WX.block_ret (WX.then_ret (?_))))
      refine WX.ret1 (.inl rfl) Try.results32 rfl ?_
      first
        | exact ⟨_, rfl, ⟨_, rfl, fun _ => ⟨x, List.mem_of_getElem? hx, hc16⟩, fun _ => by omega⟩, hw⟩
        | (refine ⟨_, rfl, ⟨_, rfl, fun h => absurd h (by decide), fun h => ?_⟩, hw⟩
           obtain ⟨y, hy, hy2⟩ := h
           obtain ⟨k, hk, rfl⟩ := List.getElem_of_mem hy
           exact absurd hy2 (hno k _ (by omega) (List.getElem?_eq_getElem hk)))
    ·
      refine WC.skip (WX.block_normal (WX.then_normal (WC.region (WL.add64 rfl rfl (by first | omega | (constructor <;> omega)) rfl (WL.move rfl rfl (WL.nil (?_)))))))
      refine WX.loop_next (i + 1) ⟨rfl, rfl, rfl, rfl, trivial⟩ ⟨by omega, hD, hr, hw, fun j y hj hy => ?_⟩ (by omega)
      rcases Nat.lt_or_ge j i with h1 | h1
      ·
        exact hno j y h1 hy
      ·
        have h2 : j = i := by omega
        subst h2
        rw [hx] at hy
        injection hy with hy
        subst hy
        exact hc16
  ·
    refine WL.nil (WX.then_normal (WC.seq (WC.cond_false rfl (WC.exit (WX.then_exit (WX.then_exit (WX.block_here (?_))))))))
    refine WX.then_normal (WC.seq (WC.region (WL.assign rfl rfl (WL.nil (WX.then_normal (WC.ret (?_)))))))
    refine WX.ret1 (.inl rfl) Try.results32 rfl ?_
    first
      | exact ⟨_, rfl, ⟨_, rfl, fun _ => ⟨x, List.mem_of_getElem? hx, hc16⟩, fun _ => by omega⟩, hw⟩
      | (refine ⟨_, rfl, ⟨_, rfl, fun h => absurd h (by decide), fun h => ?_⟩, hw⟩
         obtain ⟨y, hy, hy2⟩ := h
         obtain ⟨k, hk, rfl⟩ := List.getElem_of_mem hy
         exact absurd hy2 (hno k _ (by omega) (List.getElem?_eq_getElem hk)))
theorem contains_calls {S : Nat → Prop} {w : World} {g : Nat} {t : Int} (hD : Blk w g 3 [vi t]) {ao : Option Addr} {c : Nat} {ps : List PtV} (hr : RSl S w ept ao c ps) (hl : ps.length ≤ 9223372036854775807) :
    Calls Try.prog 23 [.slice ao ps.length c, fnLater g].toArray w (Ret fun v w' => (∃ b : Bool, v = .bool b ∧ (b = true ↔ ∃ p ∈ ps, t < p.b)) ∧ Chg Nob w w') := by
  have hw := Chg.refl Nob w
  refine Calls.of_WC Try.func23 rfl Try.ntmps23 (by simp) ?_
  refine WC.seq (WC.region (WL.assign rfl rfl (WL.nil (WX.then_normal (WC.seq (WC.region (WL.move rfl rfl (?_))))))))
  refine WL.move rfl rfl (?_)
  refine WL.call eg_32 rfl rfl (pindex_calls hD hr hl) ?_
  rintro v w2 ⟨⟨k, rfl, hk⟩, k2⟩
  have zs_k2 := k2.size
  replace hw := hw.pure k2
  refine WL.geq rfl rfl rfl (WL.assign rfl rfl (WL.nil (WX.then_normal (WC.ret (?_)))))
  refine WX.ret1 (.inl rfl) Try.results23 rfl ?_
  exact ⟨_, rfl, ⟨_, rfl, by simpa using hk⟩, hw⟩
theorem ahead_calls {S : Nat → Prop} {w : World} {l : LnV} (h : RSl S w esn l.sao l.scap l.snaps) (hb : l.snaps.length ≤ 5000000000000) (i : Nat) (hi : i ≤ l.snaps.length) : Calls Try.prog 26 [lval l, vi (i : Int)].toArray w (Ret fun v w' => v = vi (l.abs.ahead i) ∧ Chg Nob w w') := by
  have hw := Chg.refl Nob w
  refine Calls.of_WC Try.func26 rfl Try.ntmps26 (by simp) ?_
  refine WC.seq (WC.region (?_))
  refine WL.box rfl rfl ?_
  intro g_1 w_1 hge_1 hlt_1 hb_1 k_1
  have zs_k_1 := k_1.size
  replace h := h.pure k_1
  replace hw := hw.pure k_1
  refine WL.assign rfl rfl (WL.nil (WX.then_normal (WC.seq (WC.seq (WC.region (WL.move rfl rfl (?_)))))))
  refine WL.eql? rfl rfl rfl (fun h6 => ?_) (fun h6 => ?_)
  ·
    refine WL.nil (WX.then_normal (WC.cond_true rfl (WC.seq (WC.region (WL.fieldAddr (fld_33_0) rfl rfl (WL.loadB Try.isAgg3 hb_1 rfl rfl rfl (WL.assign rfl rfl (?_))))))))
    refine WL.nil (WX.then_normal (WC.ret (WX.then_ret (?_))))
    refine WX.ret1 (.inl rfl) Try.results26 rfl ?_
    first
      | (have h0 : i = 0 := by omega
         subst h0
         exact ⟨_, rfl, rfl, hw⟩)
      | (have h0 : i ≠ 0 := by omega
         refine ⟨_, rfl, ?_, hw⟩
         rw [LA.ahead, if_neg h0, show l.abs.snaps = sabs l.snaps from rfl, sabs_at hx]
         rfl)
  ·
    refine WL.nil (WX.then_normal (WC.cond_false rfl (WC.skip (WX.then_normal (WC.seq (WC.region (WL.fieldAddr (fld_33_1) rfl rfl (?_))))))))
    refine WL.loadB Try.isAgg31 hb_1 rfl rfl rfl (WL.move rfl rfl (?_))
    refine WL.sub64 rfl rfl (by constructor <;> omega) rfl ?_
    obtain ⟨x, hx⟩ : ∃ x, l.snaps[i - 1]? = some x := ⟨_, List.getElem?_eq_getElem (by omega)⟩
    refine WL.indexT (e := esn) Try.underlying31 Try.sizeOf65 h rfl rfl ⟨hx, by omega⟩ rfl ?_
    intro bb oo hcc
    refine WL.fieldAddr (fld_65_0) rfl rfl (WL.load Try.isAgg3 rfl (hcc _ _ rfl) rfl (WL.assign rfl rfl (WL.nil (WX.then_normal (WC.ret (?_))))))
    refine WX.ret1 (.inl rfl) Try.results26 rfl ?_
    first
      | (have h0 : i = 0 := by omega
         subst h0
         exact ⟨_, rfl, rfl, hw⟩)
      | (have h0 : i ≠ 0 := by omega
         refine ⟨_, rfl, ?_, hw⟩
         rw [LA.ahead, if_neg h0, show l.abs.snaps = sabs l.snaps from rfl, sabs_at hx]
         rfl)
theorem last_calls {S : Nat → Prop} {w : World} {l : LnV} (h : LS S w l) (hb : l.snaps.length ≤ 5000000000000) : Calls Try.prog 25 [lval l].toArray w (Ret fun v w' => v = vi (l.abs.ahead l.snaps.length) ∧ Chg Nob w w') := by
  have hw := Chg.refl Nob w
  refine Calls.of_WC Try.func25 rfl Try.ntmps25 (by simp) ?_
  refine WC.seq (WC.region (?_))
  refine WL.box rfl rfl ?_
  intro g_1 w_1 hge_1 hlt_1 hb_1 k_1
  have zs_k_1 := k_1.size
  replace h := h.pure k_1
  replace hw := hw.pure k_1
  refine WL.assign rfl rfl (WL.nil (WX.then_normal (WC.seq (WC.region (WL.loadsB Try.isAgg33 Try.sizeOf33 hb_1 rfl (by first | (simp; done) | (simp; omega) | rfl) rfl (WL.fieldAddr (fld_33_1) rfl rfl (WL.loadB Try.isAgg31 hb_1 rfl rfl rfl (?_))))))))
  refine WL.len Try.underlying31 rfl rfl (?_)
  refine WL.call eg_26 rfl rfl (ahead_calls h.snaps hb l.snaps.length (Nat.le_refl _)) ?_
  rintro v w2 ⟨rfl, k2⟩
  have zs_k2 := k2.size
  replace h := h.pure k2
  replace hw := hw.pure k2
  replace hb_1 := hb_1.pure k2
  refine WL.assign rfl rfl (WL.nil (WX.then_normal (WC.ret (?_))))
  refine WX.ret1 (.inl rfl) Try.results25 rfl ?_
  exact ⟨_, rfl, rfl, hw⟩
end Go.Proofs.Ytgmkoieemmglpaa
