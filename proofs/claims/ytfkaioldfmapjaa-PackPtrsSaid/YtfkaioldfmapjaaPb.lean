import Derived.Test.YtfkaioldfmapjaaPa
namespace Go.Proofs.Ytfkaioldfmapjaa
open Go.RowKit Go.HL

/-! items -/
structure Item where
  kind : Int
  n : Int
  s : ByteArray
theorem Item.eq_iff (a b : Item) : (a.kind = b.kind ∧ a.n = b.n ∧ a.s = b.s) ↔ a = b := by
  obtain ⟨k, n, s⟩ := a
  obtain ⟨k2, n2, s2⟩ := b
  simp
instance : DecidableEq Item := fun a b => decidable_of_iff _ (Item.eq_iff a b)
def eit : Enc Item := ⟨3, fun i => [vi i.kind, vi i.n, .string i.s], fun _ => rfl, by simp [Value.oneCell'], by decide⟩

theorem check1_calls (i : Item) (w : World) : Calls Try.prog 48 [.agg (eit.f i).toArray].toArray w (Ret fun v w' => v = .bool (decide (i.kind = 2 ∧ 4000 < i.s.size)) ∧ Chg Nob w w') := by
  refine Calls.of_WC Try.func48 rfl Try.ntmps48 (by simp) ?_
  refine WC.seq (WC.region (?_))
  refine WL.box rfl rfl ?_
  intro g_1 w_1 hge_1 hlt_1 hb_1 k_1
  have zs_k_1 := k_1.size
  refine WL.assign rfl rfl (WL.nil (WX.then_normal (WC.seq (WC.region (WL.fieldAddr (fld_37_0) rfl rfl (WL.loadB Try.isAgg3 hb_1 rfl rfl rfl (?_)))))))
  refine WL.eql? rfl rfl rfl (fun h => ?_) (fun h => ?_)
  ·
    refine WL.move rfl rfl (WL.want rfl rfl rfl (WL.fieldAddr (fld_37_2) rfl rfl (WL.want rfl rfl rfl (WL.loadB Try.isAgg9 hb_1 rfl rfl rfl (WL.want rfl rfl rfl (WL.lens Try.underlying9 rfl rfl (WL.want rfl rfl rfl (?_))))))))
    refine WL.gtr rfl rfl rfl (WL.pickT rfl rfl rfl (WL.assign rfl rfl (WL.nil (WX.then_normal (WC.ret (?_))))))
    have he : decide (i.kind = 2 ∧ 4000 < i.s.size) = decide (4000 < (i.s.size : Int)) := decide_eq_decide.2 (by omega)
    rw [he]
    exact WX.ret1 (.inl rfl) Try.results48 rfl ⟨_, rfl, rfl, k_1⟩
  ·
    refine WL.move rfl rfl (WL.pass rfl rfl rfl rfl (WL.pass rfl rfl rfl rfl (WL.pass rfl rfl rfl rfl (WL.pass rfl rfl rfl rfl (WL.pickF rfl rfl rfl (WL.assign rfl rfl (WL.nil (?_))))))))
    refine WX.then_normal (WC.ret (?_))
    have he : decide (i.kind = 2 ∧ 4000 < i.s.size) = false := by simp [h]
    rw [he]
    exact WX.ret1 (.inl rfl) Try.results48 rfl ⟨_, rfl, rfl, k_1⟩

/-- the closure: what it must answer at every later moment -/
def Pred {α : Type} (P : Program) (f : FuncId) (lb : Array Value) (val : α → Value) (p : α → Bool) (w : World) : Prop :=
  ∀ (W : World) (x : α), Chg Nob w W → Calls P f (#[] ++ [val x].toArray ++ lb) W (Ret fun v w' => v = .bool (p x) ∧ Chg Nob W w')

theorem indexFunc_item {S : Nat → Prop} {w : World} {ao : Option Addr} {c : Nat} {l : List Item} (hr : RSl S w eit ao c l) (g : FuncId) (lb : Array Value) (p : Item → Bool) (eg : ∀ (args : Array Value) (w : World), (callFunc g args).run Try.prog w = .ok (.enter g args) w)
    (hp : Pred Try.prog g lb (fun x => .agg (eit.f x).toArray) p w) (hl : l.length ≤ 9223372036854775807) :
    Calls Try.prog 56 [.slice ao l.length c, .func (.func g) #[] lb].toArray w (Ret fun v w' => ∃ r : Int, v = vi r ∧ decide (0 ≤ r) = l.any p ∧ Chg Nob w w') := by
  refine Calls.of_WC Try.func56 rfl Try.ntmps56 (by simp) ?_
  refine WC.seq (WC.region (WL.assign rfl rfl (WL.nil (WX.then_normal (WC.seq (WC.seq (WC.region (?_))))))))
  refine WL.move rfl rfl (WL.len Try.underlying22 rfl rfl (WL.move rfl rfl (WL.nil (WX.then_normal (WC.block (?_))))))
  refine WC.loop (σ := Nat) (fun k => [(0, .slice ao l.length c), (1, .func (.func g) #[] lb), (7, vi l.length), (8, vi k)])
    (fun k w' => k ≤ l.length ∧ (l.take k).any p = false ∧ Chg Nob w w') (fun k => l.length - k) 0 ⟨rfl, rfl, rfl, rfl, trivial⟩ ⟨Nat.zero_le _, by simp, Chg.refl _ _⟩ ?_
  rintro k w1 ⟨hk, hno, k1⟩
  replace hr := hr.pure k1
  refine WC.seq (WC.region (?_))
  refine WL.lss? rfl rfl rfl (fun h => ?_) (fun h => ?_)
  ·
    refine WL.nil (WX.then_normal (WC.seq (WC.cond_true rfl (WC.skip (WX.then_normal (WC.seq (WC.block (?_))))))))
    refine WC.seq (WC.region (WL.move rfl rfl (WL.assign rfl rfl (WL.nil (WX.then_normal (WC.seq (WC.region (?_))))))))
    refine WL.move rfl rfl (WL.move rfl rfl (WL.move rfl rfl (?_)))
    obtain ⟨x, hx⟩ : ∃ x, l[k]? = some x := ⟨_, List.getElem?_eq_getElem (by omega)⟩
    refine WL.indexT Try.underlying22 Try.sizeOf37 hr rfl rfl ⟨hx, rfl⟩ rfl ?_
    intro b_1 o_1 hc_1
    refine WL.loads _ Try.isAgg37 Try.sizeOf37 rfl hc_1 rfl rfl (?_)
    refine WL.callv eg rfl rfl rfl (hp w1 x k1) ?_
    rintro v w2 ⟨rfl, k2⟩
    refine WL.nil (WX.then_normal (?_))
    cases hpx : p x
    ·
      refine WC.cond_false rfl (WC.skip (WX.block_normal (WX.then_normal (WC.region (WL.add64 rfl rfl (by first | omega | (constructor <;> omega)) rfl (WL.move rfl rfl (WL.nil (?_))))))))
      refine WX.loop_next (k + 1) ⟨rfl, rfl, rfl, rfl, trivial⟩ ⟨by omega, ?_, k1.pure k2⟩ (by show _ - _ < _ - _; omega)
      rw [List.take_add_one, hx]
      simp [hno, hpx]
    ·
      refine WC.cond_true rfl (WC.seq (WC.region (WL.move rfl rfl (WL.assign rfl rfl (WL.nil (WX.then_normal (WC.ret (?_))))))))
      refine WX.block_ret (WX.then_ret (WX.then_ret (WX.block_ret (WX.then_ret (?_)))))
      refine WX.ret1 (.inl rfl) Try.results56 rfl ⟨_, rfl, _, rfl, ?_, k1.pure k2⟩
      have : l.any p = true := List.any_eq_true.2 ⟨x, List.mem_of_getElem? hx, hpx⟩
      rw [this]; simp
  ·
    refine WL.nil (WX.then_normal (WC.seq (WC.cond_false rfl (WC.exit (WX.then_exit (WX.then_exit (WX.block_here (?_))))))))
    refine WX.then_normal (WC.seq (WC.region (WL.assign rfl rfl (WL.nil (WX.then_normal (WC.ret (?_)))))))
    refine WX.ret1 (.inl rfl) Try.results56 rfl ⟨_, rfl, _, rfl, ?_, k1⟩
    have : l.any p = false := by rw [List.take_of_length_le (by omega)] at hno; exact hno
    rw [this]; simp

theorem containsFunc_item {S : Nat → Prop} {w : World} {ao : Option Addr} {c : Nat} {l : List Item} (hr : RSl S w eit ao c l) (g : FuncId) (lb : Array Value) (p : Item → Bool) (eg : ∀ (args : Array Value) (w : World), (callFunc g args).run Try.prog w = .ok (.enter g args) w)
    (hp : Pred Try.prog g lb (fun x => .agg (eit.f x).toArray) p w) (hl : l.length ≤ 9223372036854775807) :
    Calls Try.prog 49 [.slice ao l.length c, .func (.func g) #[] lb].toArray w (Ret fun v w' => v = .bool (l.any p) ∧ Chg Nob w w') := by
  refine Calls.of_WC Try.func49 rfl Try.ntmps49 (by simp) ?_
  refine WC.seq (WC.region (WL.assign rfl rfl (WL.nil (WX.then_normal (WC.seq (WC.region (WL.move rfl rfl (?_))))))))
  refine WL.move rfl rfl (?_)
  refine WL.call eg_56 rfl rfl (indexFunc_item hr g lb p eg hp hl) ?_
  rintro v w1 ⟨r, rfl, h, k⟩
  refine WL.geq rfl rfl rfl (WL.assign rfl rfl (WL.nil (WX.then_normal (WC.ret (?_)))))
  rw [← h]
  exact WX.ret1 (.inl rfl) Try.results49 rfl ⟨_, rfl, rfl, k⟩
end Go.Proofs.Ytfkaioldfmapjaa
