import Derived.Test.YtcdbkfaebgficaaDoorQPackSectors3
namespace Go.Proofs.YtcdbkfaebgficaaDoor
open Go.RowKit Go.HL

/-! items out of bytes -/
def unz (c : Nat) : Int := if c % 2 = 1 then -((c / 2 : Nat) : Int) - 1 else ((c / 2 : Nat) : Int)
def dec (n : Nat) (bs : List UInt8) : Option (List Item) :=
  match bs with
  | [] => some []
  | k :: r =>
    match h : ctd 0 r with
    | none => none
    | some (c, r') =>
      if n = 2000 then none
      else if k.toNat = 1 then (dec (n + 1) r').map (⟨1, unz c, ⟨#[]⟩⟩ :: ·)
      else if k.toNat = 2 ∧ c ≤ 4000 ∧ c ≤ r'.length then (dec (n + 1) (r'.drop c)).map (⟨2, 0, ⟨(r'.take c).toArray⟩⟩ :: ·)
      else none
termination_by bs.length
decreasing_by
  all_goals
    have := (ctd_bound r 0 (by omega) h).2.2
    simp
    omega
theorem dec_nil (n : Nat) : dec n [] = some [] := by rw [dec]
theorem dec_none {n : Nat} {k : UInt8} {r : List UInt8} (h : ctd 0 r = none) : dec n (k :: r) = none := by
  rw [dec]
  split
  · rfl
  · rename_i h2; rw [h] at h2; cases h2
theorem dec_some {n : Nat} {k : UInt8} {r r' : List UInt8} {c : Nat} (h : ctd 0 r = some (c, r')) : dec n (k :: r) = if n = 2000 then none
      else if k.toNat = 1 then (dec (n + 1) r').map (⟨1, unz c, ⟨#[]⟩⟩ :: ·)
      else if k.toNat = 2 ∧ c ≤ 4000 ∧ c ≤ r'.length then (dec (n + 1) (r'.drop c)).map (⟨2, 0, ⟨(r'.take c).toArray⟩⟩ :: ·)
      else none := by
  rw [dec]
  split
  · rename_i h2; rw [h] at h2; cases h2
  · rename_i h2
    rw [h] at h2
    injection h2 with h2
    injection h2 with h3 h4
    subst h3; subst h4
    rfl
/-- what has been taken, with what is to come -/
def decI (b0 : List UInt8) (out : List Item) (bs : List UInt8) : Prop := dec 0 b0 = (dec out.length bs).map (out ++ ·)
theorem decI_start (b : List UInt8) : decI b [] b := by unfold decI; cases h : dec 0 b <;> simp [h]
theorem decI_end {b : List UInt8} {out : List Item} (h : decI b out []) : dec 0 b = some out := by unfold decI at h; rw [h, dec_nil]; simp
theorem decI_step {b : List UInt8} {out : List Item} {k : UInt8} {r r' : List UInt8} {i : Item} (h : decI b out (k :: r)) (hs : dec out.length (k :: r) = (dec (out.length + 1) r').map (i :: ·)) : decI b (out ++ [i]) r' := by
  unfold decI at *
  rw [h, hs, Option.map_map, List.length_append, List.length_singleton]
  congr 1
  funext l
  simp
theorem decI_bad {b : List UInt8} {out : List Item} {k : UInt8} {r : List UInt8} (h : decI b out (k :: r)) (hs : dec out.length (k :: r) = none) : dec 0 b = none := by
  unfold decI at h
  rw [h, hs]
  rfl
theorem shr1 (c : UInt64) : (c >>> UInt64.ofNat 1).toNat = c.toNat / 2 := by simp [Nat.shiftRight_eq_div_pow]
theorem and1 (c : UInt64) : (c &&& 1).toNat = c.toNat % 2 := by
  rw [UInt64.toNat_and]
  exact Nat.and_one_is_mod _

set_option maxHeartbeats 1000000 in
theorem decode_calls {w : World} {ao : Option Addr} {c : Nat} {b : List UInt8} (hr : RSl (· < w.heap.size) w eb ao c b) (hl : b.length ≤ 140737488351232) :
    Calls Tryd.prog 15 [.slice ao b.length c].toArray w (Ret fun v w' => ((∃ (l : List Item) (ao' : Option Addr) (c' : Nat), v = .tuple #[.slice ao' l.length c', vi 0] ∧ dec 0 b = some l ∧ Row (w.heap.size ≤ ·) w' 31 eit ao' c' l) ∨ (v = .tuple #[.slice none 0 0, vi 2] ∧ dec 0 b = none)) ∧ Chg Nob w w') := by
  refine Calls.of_WC Tryd.func15 rfl Tryd.ntmps15 (by simp) ?_
  refine WC.seq (WC.region (WL.assign rfl rfl (WL.assign rfl rfl (WL.nil (WX.then_normal (WC.seq (WC.region (?_))))))))
  refine WL.assign rfl rfl (WL.nil (WX.then_normal (WC.seq (WC.block (?_)))))
  refine WC.loop (σ := (List Item × Option Addr × Nat) × (List UInt8 × Option Addr × Nat)) (fun s => [(4, .slice s.1.2.1 s.1.1.length s.1.2.2), (0, .slice s.2.2.1 s.2.1.length s.2.2.2)])
    (fun s w' => s.1.1.length ≤ 2000 ∧ s.2.1.length ≤ b.length ∧ decI b s.1.1 s.2.1 ∧ Row (w.heap.size ≤ ·) w' 31 eit s.1.2.1 s.1.2.2 s.1.1 ∧ RSl (· < w.heap.size) w' eb s.2.2.1 s.2.2.2 s.2.1 ∧ Chg Nob w w') (fun s => s.2.1.length) (([], none, 0), (b, ao, c)) ⟨rfl, rfl, trivial⟩ ⟨by simp, Nat.le_refl _, decI_start _, Row.nil _ _ _ _, hr, Chg.refl _ _⟩ ?_
  clear hr
  rintro ⟨⟨out, a1, c1⟩, ⟨bs, ab, cb⟩⟩ w1 ⟨ho, hbl, hi, hq, hr, kk⟩
  dsimp only at ho hbl hi hq hr kk ⊢
  have zk := kk.size
  refine WC.seq (WC.seq (WC.region (WL.move rfl rfl (WL.len Tryd.underlying22 rfl rfl (?_)))))
  refine WL.gtr? rfl rfl rfl (fun h11 => ?_) (fun h11 => ?_)
  ·
    refine WL.nil (WX.then_normal (WC.cond_true rfl (WC.skip (WX.then_normal (WC.block (WC.seq (WC.region (?_))))))))
    refine WL.move rfl rfl (?_)
    obtain ⟨x, bs', rfl⟩ : ∃ x bs', bs = x :: bs' := by cases bs with | nil => simp at h11 | cons x r => exact ⟨x, r, rfl⟩
    have hx : (x :: bs')[0]? = some x := rfl
    have hxl := x.toNat_lt
    refine WL.indexT Tryd.underlying22 Tryd.sizeOf5 hr rfl rfl ⟨hx, rfl⟩ rfl ?_
    intro b_1 o_1 hc_1
    refine WL.load Tryd.isAgg5 rfl (hc_1 0 _ rfl) rfl (WL.assign rfl rfl (WL.nil (WX.then_normal (WC.seq (WC.region (WL.move rfl rfl (?_)))))))
    refine WL.slice (l := 1) (h := (x :: bs').length) (j := .i64) Tryd.underlying22 Tryd.sizeOf5 hr rfl (.inl rfl) (.inr ⟨rfl, rfl⟩) (by simp) rfl ?_
    intro a_hb c_hb hb n_hb
    have e1 : (List.drop 1 (List.take (x :: bs').length (x :: bs'))) = bs' := by simp
    rw [e1] at hb ⊢
    have hxb : bs'.length + 1 ≤ b.length := by simpa using hbl
    have hlb : bs'.length ≤ 140737488351232 := by omega
    refine WL.call eg_50 rfl rfl (counted_calls hb (by omega)) ?_
    rintro v w2 ⟨(⟨u, r, ar, cr, rfl, hc, hr2⟩ | ⟨rfl, hc⟩), k2⟩
    ·
      have zs_k2 := k2.size
      replace hr := hr.pure k2
      replace kk := kk.pure k2
      replace hq := hq.pure k2
      replace hb := hb.pure k2
      have hrb := (ctd_bound bs' 0 (by omega) hc).2.2
      have e64 : ((B64 (r.length : Int)).toNat : Int) = r.length := by rw [B64_nat (by omega)]
      refine WL.move rfl rfl (WL.extract rfl rfl rfl (WL.extract rfl rfl rfl (WL.extract rfl rfl rfl (WL.assign rfl rfl (WL.assign rfl rfl (WL.assign rfl rfl (WL.nil (?_))))))))
      refine WX.then_normal (WC.block (WC.seq (WC.region (WL.move rfl rfl (WL.not rfl rfl (WL.move rfl rfl (WL.want rfl rfl rfl (?_))))))))
      refine WL.move rfl rfl (WL.want rfl rfl rfl (WL.len Tryd.underlying23 rfl rfl (WL.want rfl rfl rfl (?_))))
      refine WL.eql? rfl rfl rfl (fun h28 => ?_) (fun h28 => ?_)
      ·
        refine WL.pickF rfl rfl rfl (WL.assign rfl rfl (WL.nil (WX.then_normal (WC.cond_true rfl (WC.seq (WC.region (WL.assign rfl rfl (?_))))))))
        refine WL.assign rfl rfl (WL.nil (WX.then_normal (WC.ret (WX.block_ret (WX.block_ret (WX.then_ret (WX.block_ret (?_))))))))
        refine WX.then_ret (?_)
        refine WX.ret2 (.inl rfl) Tryd.results15 rfl rfl ?_
        first
          | (refine ⟨_, rfl, .inl ⟨out, a1, c1, rfl, ?_, hq⟩, kk⟩
             have : bs = [] := List.eq_nil_of_length_eq_zero (by omega)
             subst this
             exact decI_end hi)
          | (refine ⟨_, rfl, .inr ⟨rfl, decI_bad hi ?_⟩, kk⟩
             first
               | exact dec_none hc
               | (rw [dec_some hc]
                  first
                    | (rw [if_pos (by omega)]; done)
                    | (rw [if_neg (by omega), if_neg (by omega), if_neg (by omega)])))
      ·
        refine WL.pickF rfl rfl rfl (WL.assign rfl rfl (WL.nil (WX.then_normal (WC.cond_false rfl (WC.seq (WC.region (WL.move rfl rfl (?_))))))))
        refine WL.eql? rfl rfl rfl (fun h32 => ?_) (fun h32 => ?_)
        ·
          refine WL.assign rfl rfl (WL.nil (WX.then_normal (WC.cond_true rfl (WC.seq (WC.region (WL.move rfl rfl (WL.move rfl rfl (?_))))))))
          refine WL.num rfl rfl (n_shr64 _ _ _ _ 1 (by decide)) rfl (?_)
          refine WL.c_u64_i64s (n := u.toNat / 2) Tryd.underlying41 Tryd.underlying3 rfl ⟨shr1 u, by have := u.toNat_lt; omega⟩ rfl ?_
          refine WL.move rfl rfl (WL.num rfl rfl (n_and64 _ _ _ 1) rfl (?_))
          refine WL.c_u64_i64s (n := u.toNat % 2) Tryd.underlying41 Tryd.underlying3 rfl ⟨and1 u, by omega⟩ rfl ?_
          refine WL.neg64 rfl (by first | omega | (constructor <;> omega)) rfl (?_)
          refine WL.num rfl rfl (n_xornegb _ _ (u.toNat / 2) (u.toNat % 2) (by omega) (by have := u.toNat_lt; omega)) rfl ?_
          refine WL.bld rfl (bld_31_0_1 _ _) rfl (?_)
          refine WL.build (e := eit) [⟨1, unz u.toNat, ⟨#[]⟩⟩] Tryd.underlying23 Tryd.sizeOf31 Tryd.zeroValue31 rfl rfl rfl (by first | (simp [Value.cells]; done) | (simp [Value.cells] <;> rfl) | (simp [Value.cells, eb, ei, es, ebool, e32, e64]; done)) (by decide) rfl ?_
          intro a_hn w_hn hn l_hn z_hn k_hn
          have zs_k_hn := k_hn.size
          replace hr := hr.pure k_hn
          replace kk := kk.pure k_hn
          replace hq := hq.pure k_hn
          replace hb := hb.pure k_hn
          replace hr2 := hr2.pure k_hn
          refine WL.append (e := eit) info_31 rfl Tryd.underlying23 rfl rfl hq (hn.rsl.src Tryd.underlying23) (by (try simp only [List.length_append, List.length_cons, List.length_nil] at *); omega) (by intro b hb; first | (apply hS; omega) | ((try dsimp only); omega)) rfl ?_
          intro a_hq2 c_hq2 w_hq2 hq2 g_hq2 n_hq2
          have z_hq2 := g_hq2.chg.size
          have zs_g_hq2_chg := g_hq2.chg.size
          replace hr := hr.chg g_hq2.chg (by first | (intro x h1 h2; exact h2) | (intro x h0 h1 h2; exact hS x h1 h2) | (intro x h0 h1 h2; have h3 : _ = _ := h2; subst h3; exact hSR h1.1) | (intro x h1 h2; have h3 : _ = _ := h2; subst h3; assumption) | (intro x h1 h2; have h3 : _ = _ := h2; exfalso; omega) | (intro b h1 h2 h3; have h4 : _ = _ := h3; (try dsimp only at h2); exfalso; omega) | (intro h1; have h2 : _ = _ := h1; exfalso; omega) | (intro h1; have h2 : _ ≤ _ := h1; exfalso; omega) | (intros; exfalso; (try dsimp only at *); omega) | (intro b h1 h2 h3; exfalso; have h4 := h3.2; (try dsimp only at *); omega) | (intro h1; exfalso; have h4 := h1.2; (try dsimp only at *); omega) | (intro x h1 h2; exfalso; have h4 := h2.2; (try dsimp only at *); omega) | (intro x h1 h2; exact ⟨_, rfl, h2⟩) | (intro x h1 h2; have h4 := h2.1; have h5 := h2.2; exfalso; omega) | (intro x h1 h2; exact h2.1) | (intro x h1 h2; rcases h2.1 with h3 | h3; exact h3; exfalso; omega) | (intro x h1 h2; rcases h2 with h3 | h3; exact h3; exfalso; omega))
          replace kk := kk.chg g_hq2.chg (by first | (intro x h1 h2; exact h2) | (intro x h0 h1 h2; exact hS x h1 h2) | (intro x h0 h1 h2; have h3 : _ = _ := h2; subst h3; exact hSR h1.1) | (intro x h1 h2; have h3 : _ = _ := h2; subst h3; assumption) | (intro x h1 h2; have h3 : _ = _ := h2; exfalso; omega) | (intro b h1 h2 h3; have h4 : _ = _ := h3; (try dsimp only at h2); exfalso; omega) | (intro h1; have h2 : _ = _ := h1; exfalso; omega) | (intro h1; have h2 : _ ≤ _ := h1; exfalso; omega) | (intros; exfalso; (try dsimp only at *); omega) | (intro b h1 h2 h3; exfalso; have h4 := h3.2; (try dsimp only at *); omega) | (intro h1; exfalso; have h4 := h1.2; (try dsimp only at *); omega) | (intro x h1 h2; exfalso; have h4 := h2.2; (try dsimp only at *); omega) | (intro x h1 h2; exact ⟨_, rfl, h2⟩) | (intro x h1 h2; have h4 := h2.1; have h5 := h2.2; exfalso; omega) | (intro x h1 h2; exact h2.1) | (intro x h1 h2; rcases h2.1 with h3 | h3; exact h3; exfalso; omega) | (intro x h1 h2; rcases h2 with h3 | h3; exact h3; exfalso; omega))
          replace hb := hb.chg g_hq2.chg (by first | (intro x h1 h2; exact h2) | (intro x h0 h1 h2; exact hS x h1 h2) | (intro x h0 h1 h2; have h3 : _ = _ := h2; subst h3; exact hSR h1.1) | (intro x h1 h2; have h3 : _ = _ := h2; subst h3; assumption) | (intro x h1 h2; have h3 : _ = _ := h2; exfalso; omega) | (intro b h1 h2 h3; have h4 : _ = _ := h3; (try dsimp only at h2); exfalso; omega) | (intro h1; have h2 : _ = _ := h1; exfalso; omega) | (intro h1; have h2 : _ ≤ _ := h1; exfalso; omega) | (intros; exfalso; (try dsimp only at *); omega) | (intro b h1 h2 h3; exfalso; have h4 := h3.2; (try dsimp only at *); omega) | (intro h1; exfalso; have h4 := h1.2; (try dsimp only at *); omega) | (intro x h1 h2; exfalso; have h4 := h2.2; (try dsimp only at *); omega) | (intro x h1 h2; exact ⟨_, rfl, h2⟩) | (intro x h1 h2; have h4 := h2.1; have h5 := h2.2; exfalso; omega) | (intro x h1 h2; exact h2.1) | (intro x h1 h2; rcases h2.1 with h3 | h3; exact h3; exfalso; omega) | (intro x h1 h2; rcases h2 with h3 | h3; exact h3; exfalso; omega))
          replace hr2 := hr2.chg g_hq2.chg (by first | (intro x h1 h2; exact h2) | (intro x h0 h1 h2; exact hS x h1 h2) | (intro x h0 h1 h2; have h3 : _ = _ := h2; subst h3; exact hSR h1.1) | (intro x h1 h2; have h3 : _ = _ := h2; subst h3; assumption) | (intro x h1 h2; have h3 : _ = _ := h2; exfalso; omega) | (intro b h1 h2 h3; have h4 : _ = _ := h3; (try dsimp only at h2); exfalso; omega) | (intro h1; have h2 : _ = _ := h1; exfalso; omega) | (intro h1; have h2 : _ ≤ _ := h1; exfalso; omega) | (intros; exfalso; (try dsimp only at *); omega) | (intro b h1 h2 h3; exfalso; have h4 := h3.2; (try dsimp only at *); omega) | (intro h1; exfalso; have h4 := h1.2; (try dsimp only at *); omega) | (intro x h1 h2; exfalso; have h4 := h2.2; (try dsimp only at *); omega) | (intro x h1 h2; exact ⟨_, rfl, h2⟩) | (intro x h1 h2; have h4 := h2.1; have h5 := h2.2; exfalso; omega) | (intro x h1 h2; exact h2.1) | (intro x h1 h2; rcases h2.1 with h3 | h3; exact h3; exfalso; omega) | (intro x h1 h2; rcases h2 with h3 | h3; exact h3; exfalso; omega))
          refine WL.assign rfl rfl (WL.nil (WX.then_normal (WC.region (WL.move rfl rfl (WL.assign rfl rfl (WL.nil (WX.block_normal (?_))))))))
          refine WX.block_normal (?_)
          first
            | (refine WX.loop_next ((out ++ [⟨2, 0, ⟨(List.drop 0 (List.take u.toNat r)).toArray⟩⟩], a_hq2, c_hq2), (List.drop u.toNat (List.take r.length r), a_ht, c_ht)) ⟨rfl, rfl, trivial⟩ ⟨by dsimp only; simp; omega, by dsimp only; simp; omega, ?_, hq2, ht, kk⟩ (by show (List.drop u.toNat (List.take r.length r)).length < (x :: bs').length; simp; omega)
               have e1 : List.drop u.toNat (List.take r.length r) = r.drop u.toNat := by simp
               rw [e1]
               refine decI_step hi ?_
               rw [dec_some hc, if_neg (by omega), if_neg (by omega), if_pos (by omega)]
               rfl)
            | (refine WX.loop_next ((out ++ [⟨1, unz u.toNat, ⟨#[]⟩⟩], a_hq2, c_hq2), (r, ar, cr)) ⟨rfl, rfl, trivial⟩ ⟨by dsimp only; simp; omega, by dsimp only; omega, ?_, hq2, hr2, kk⟩ (by show r.length < (x :: bs').length; simp; omega)
               refine decI_step hi ?_
               rw [dec_some hc, if_neg (by omega), if_pos (by omega)])
        ·
          refine WL.assign rfl rfl (WL.nil (WX.then_normal (WC.cond_false rfl (WC.seq (WC.region (WL.move rfl rfl (?_)))))))
          refine WL.eql? rfl rfl rfl (fun h48 => ?_) (fun h48 => ?_)
          ·
            refine WL.move rfl rfl (WL.want rfl rfl rfl (WL.move rfl rfl (WL.want rfl rfl rfl (?_))))
            refine WL.leq? rfl rfl rfl (fun h51 => ?_) (fun h51 => ?_)
            ·
              refine WL.pickT rfl rfl rfl (WL.move rfl rfl (WL.want rfl rfl rfl (WL.move rfl rfl (WL.want rfl rfl rfl (WL.move rfl rfl (WL.want rfl rfl rfl (WL.len Tryd.underlying22 rfl rfl (?_))))))))
              refine WL.want rfl rfl rfl (WL.c_i64_u64 Tryd.underlying3 Tryd.underlying41 rfl rfl (WL.want rfl rfl rfl (?_)))
              refine WL.leq? rfl rfl rfl (fun h58 => ?_) (fun h58 => ?_)
              ·
                refine WL.pickT rfl rfl rfl (WL.assign rfl rfl (WL.nil (WX.then_normal (WC.cond_true rfl (WC.seq (WC.region (WL.move rfl rfl (?_))))))))
                refine WL.move rfl rfl (WL.move rfl rfl (?_))
                refine WL.slice (l := 0) (h := u.toNat) (k := .i64) Tryd.underlying22 Tryd.sizeOf5 hr2 rfl (.inr ⟨rfl, rfl⟩) (.inl rfl) (by constructor <;> omega) rfl ?_
                intro a_hs c_hs hs n_hs
                refine WL.toStr Tryd.underlying22 Tryd.underlying5 Tryd.underlying9 hs rfl rfl ?_
                refine WL.bld rfl (bld_31_0_2 _ _) rfl (?_)
                refine WL.build (e := eit) [⟨2, 0, ⟨(List.drop 0 (List.take u.toNat r)).toArray⟩⟩] Tryd.underlying23 Tryd.sizeOf31 Tryd.zeroValue31 rfl rfl rfl (by first | (simp [Value.cells]; done) | (simp [Value.cells] <;> rfl) | (simp [Value.cells, eb, ei, es, ebool, e32, e64]; done)) (by decide) rfl ?_
                intro a_hn w_hn hn l_hn z_hn k_hn
                have zs_k_hn := k_hn.size
                replace hr := hr.pure k_hn
                replace kk := kk.pure k_hn
                replace hq := hq.pure k_hn
                replace hb := hb.pure k_hn
                replace hr2 := hr2.pure k_hn
                replace hs := hs.pure k_hn
                refine WL.append (e := eit) info_31 rfl Tryd.underlying23 rfl rfl hq (hn.rsl.src Tryd.underlying23) (by (try simp only [List.length_append, List.length_cons, List.length_nil] at *); omega) (by intro b hb; first | (apply hS; omega) | ((try dsimp only); omega)) rfl ?_
                intro a_hq2 c_hq2 w_hq2 hq2 g_hq2 n_hq2
                have z_hq2 := g_hq2.chg.size
                have zs_g_hq2_chg := g_hq2.chg.size
                replace hr := hr.chg g_hq2.chg (by first | (intro x h1 h2; exact h2) | (intro x h0 h1 h2; exact hS x h1 h2) | (intro x h0 h1 h2; have h3 : _ = _ := h2; subst h3; exact hSR h1.1) | (intro x h1 h2; have h3 : _ = _ := h2; subst h3; assumption) | (intro x h1 h2; have h3 : _ = _ := h2; exfalso; omega) | (intro b h1 h2 h3; have h4 : _ = _ := h3; (try dsimp only at h2); exfalso; omega) | (intro h1; have h2 : _ = _ := h1; exfalso; omega) | (intro h1; have h2 : _ ≤ _ := h1; exfalso; omega) | (intros; exfalso; (try dsimp only at *); omega) | (intro b h1 h2 h3; exfalso; have h4 := h3.2; (try dsimp only at *); omega) | (intro h1; exfalso; have h4 := h1.2; (try dsimp only at *); omega) | (intro x h1 h2; exfalso; have h4 := h2.2; (try dsimp only at *); omega) | (intro x h1 h2; exact ⟨_, rfl, h2⟩) | (intro x h1 h2; have h4 := h2.1; have h5 := h2.2; exfalso; omega) | (intro x h1 h2; exact h2.1) | (intro x h1 h2; rcases h2.1 with h3 | h3; exact h3; exfalso; omega) | (intro x h1 h2; rcases h2 with h3 | h3; exact h3; exfalso; omega))
                replace kk := kk.chg g_hq2.chg (by first | (intro x h1 h2; exact h2) | (intro x h0 h1 h2; exact hS x h1 h2) | (intro x h0 h1 h2; have h3 : _ = _ := h2; subst h3; exact hSR h1.1) | (intro x h1 h2; have h3 : _ = _ := h2; subst h3; assumption) | (intro x h1 h2; have h3 : _ = _ := h2; exfalso; omega) | (intro b h1 h2 h3; have h4 : _ = _ := h3; (try dsimp only at h2); exfalso; omega) | (intro h1; have h2 : _ = _ := h1; exfalso; omega) | (intro h1; have h2 : _ ≤ _ := h1; exfalso; omega) | (intros; exfalso; (try dsimp only at *); omega) | (intro b h1 h2 h3; exfalso; have h4 := h3.2; (try dsimp only at *); omega) | (intro h1; exfalso; have h4 := h1.2; (try dsimp only at *); omega) | (intro x h1 h2; exfalso; have h4 := h2.2; (try dsimp only at *); omega) | (intro x h1 h2; exact ⟨_, rfl, h2⟩) | (intro x h1 h2; have h4 := h2.1; have h5 := h2.2; exfalso; omega) | (intro x h1 h2; exact h2.1) | (intro x h1 h2; rcases h2.1 with h3 | h3; exact h3; exfalso; omega) | (intro x h1 h2; rcases h2 with h3 | h3; exact h3; exfalso; omega))
                replace hb := hb.chg g_hq2.chg (by first | (intro x h1 h2; exact h2) | (intro x h0 h1 h2; exact hS x h1 h2) | (intro x h0 h1 h2; have h3 : _ = _ := h2; subst h3; exact hSR h1.1) | (intro x h1 h2; have h3 : _ = _ := h2; subst h3; assumption) | (intro x h1 h2; have h3 : _ = _ := h2; exfalso; omega) | (intro b h1 h2 h3; have h4 : _ = _ := h3; (try dsimp only at h2); exfalso; omega) | (intro h1; have h2 : _ = _ := h1; exfalso; omega) | (intro h1; have h2 : _ ≤ _ := h1; exfalso; omega) | (intros; exfalso; (try dsimp only at *); omega) | (intro b h1 h2 h3; exfalso; have h4 := h3.2; (try dsimp only at *); omega) | (intro h1; exfalso; have h4 := h1.2; (try dsimp only at *); omega) | (intro x h1 h2; exfalso; have h4 := h2.2; (try dsimp only at *); omega) | (intro x h1 h2; exact ⟨_, rfl, h2⟩) | (intro x h1 h2; have h4 := h2.1; have h5 := h2.2; exfalso; omega) | (intro x h1 h2; exact h2.1) | (intro x h1 h2; rcases h2.1 with h3 | h3; exact h3; exfalso; omega) | (intro x h1 h2; rcases h2 with h3 | h3; exact h3; exfalso; omega))
                replace hr2 := hr2.chg g_hq2.chg (by first | (intro x h1 h2; exact h2) | (intro x h0 h1 h2; exact hS x h1 h2) | (intro x h0 h1 h2; have h3 : _ = _ := h2; subst h3; exact hSR h1.1) | (intro x h1 h2; have h3 : _ = _ := h2; subst h3; assumption) | (intro x h1 h2; have h3 : _ = _ := h2; exfalso; omega) | (intro b h1 h2 h3; have h4 : _ = _ := h3; (try dsimp only at h2); exfalso; omega) | (intro h1; have h2 : _ = _ := h1; exfalso; omega) | (intro h1; have h2 : _ ≤ _ := h1; exfalso; omega) | (intros; exfalso; (try dsimp only at *); omega) | (intro b h1 h2 h3; exfalso; have h4 := h3.2; (try dsimp only at *); omega) | (intro h1; exfalso; have h4 := h1.2; (try dsimp only at *); omega) | (intro x h1 h2; exfalso; have h4 := h2.2; (try dsimp only at *); omega) | (intro x h1 h2; exact ⟨_, rfl, h2⟩) | (intro x h1 h2; have h4 := h2.1; have h5 := h2.2; exfalso; omega) | (intro x h1 h2; exact h2.1) | (intro x h1 h2; rcases h2.1 with h3 | h3; exact h3; exfalso; omega) | (intro x h1 h2; rcases h2 with h3 | h3; exact h3; exfalso; omega))
                replace hs := hs.chg g_hq2.chg (by first | (intro x h1 h2; exact h2) | (intro x h0 h1 h2; exact hS x h1 h2) | (intro x h0 h1 h2; have h3 : _ = _ := h2; subst h3; exact hSR h1.1) | (intro x h1 h2; have h3 : _ = _ := h2; subst h3; assumption) | (intro x h1 h2; have h3 : _ = _ := h2; exfalso; omega) | (intro b h1 h2 h3; have h4 : _ = _ := h3; (try dsimp only at h2); exfalso; omega) | (intro h1; have h2 : _ = _ := h1; exfalso; omega) | (intro h1; have h2 : _ ≤ _ := h1; exfalso; omega) | (intros; exfalso; (try dsimp only at *); omega) | (intro b h1 h2 h3; exfalso; have h4 := h3.2; (try dsimp only at *); omega) | (intro h1; exfalso; have h4 := h1.2; (try dsimp only at *); omega) | (intro x h1 h2; exfalso; have h4 := h2.2; (try dsimp only at *); omega) | (intro x h1 h2; exact ⟨_, rfl, h2⟩) | (intro x h1 h2; have h4 := h2.1; have h5 := h2.2; exfalso; omega) | (intro x h1 h2; exact h2.1) | (intro x h1 h2; rcases h2.1 with h3 | h3; exact h3; exfalso; omega) | (intro x h1 h2; rcases h2 with h3 | h3; exact h3; exfalso; omega))
                refine WL.assign rfl rfl (WL.nil (WX.then_normal (WC.region (WL.move rfl rfl (WL.move rfl rfl (?_))))))
                refine WL.slice (l := u.toNat) (h := r.length) (j := .i64) Tryd.underlying22 Tryd.sizeOf5 hr2 rfl (.inl rfl) (.inr ⟨rfl, rfl⟩) (by constructor <;> omega) rfl ?_
                intro a_ht c_ht ht n_ht
                refine WL.assign rfl rfl (WL.nil (WX.block_normal (WX.block_normal (?_))))
                first
                  | (refine WX.loop_next ((out ++ [⟨2, 0, ⟨(List.drop 0 (List.take u.toNat r)).toArray⟩⟩], a_hq2, c_hq2), (List.drop u.toNat (List.take r.length r), a_ht, c_ht)) ⟨rfl, rfl, trivial⟩ ⟨by dsimp only; simp; omega, by dsimp only; simp; omega, ?_, hq2, ht, kk⟩ (by show (List.drop u.toNat (List.take r.length r)).length < (x :: bs').length; simp; omega)
                     have e1 : List.drop u.toNat (List.take r.length r) = r.drop u.toNat := by simp
                     rw [e1]
                     refine decI_step hi ?_
                     rw [dec_some hc, if_neg (by omega), if_neg (by omega), if_pos (by omega)]
                     rfl)
                  | (refine WX.loop_next ((out ++ [⟨1, unz u.toNat, ⟨#[]⟩⟩], a_hq2, c_hq2), (r, ar, cr)) ⟨rfl, rfl, trivial⟩ ⟨by dsimp only; simp; omega, by dsimp only; omega, ?_, hq2, hr2, kk⟩ (by show r.length < (x :: bs').length; simp; omega)
                     refine decI_step hi ?_
                     rw [dec_some hc, if_neg (by omega), if_pos (by omega)])
              ·
                refine WL.pickT rfl rfl rfl (WL.assign rfl rfl (WL.nil (WX.then_normal (WC.cond_false rfl (WC.seq (WC.region (WL.assign rfl rfl (?_))))))))
                refine WL.assign rfl rfl (WL.nil (WX.then_normal (WC.ret (WX.block_ret (WX.block_ret (WX.then_ret (WX.block_ret (?_))))))))
                refine WX.then_ret (?_)
                refine WX.ret2 (.inl rfl) Tryd.results15 rfl rfl ?_
                first
                  | (refine ⟨_, rfl, .inl ⟨out, a1, c1, rfl, ?_, hq⟩, kk⟩
                     have : bs = [] := List.eq_nil_of_length_eq_zero (by omega)
                     subst this
                     exact decI_end hi)
                  | (refine ⟨_, rfl, .inr ⟨rfl, decI_bad hi ?_⟩, kk⟩
                     first
                       | exact dec_none hc
                       | (rw [dec_some hc]
                          first
                            | (rw [if_pos (by omega)]; done)
                            | (rw [if_neg (by omega), if_neg (by omega), if_neg (by omega)])))
            ·
              refine WL.pickT rfl rfl rfl (WL.move rfl rfl (WL.pass rfl rfl rfl rfl (WL.pass rfl rfl rfl rfl (WL.pass rfl rfl rfl rfl (WL.pass rfl rfl rfl rfl (WL.pass rfl rfl rfl rfl (WL.pickF rfl rfl rfl (?_))))))))
              refine WL.assign rfl rfl (WL.nil (WX.then_normal (WC.cond_false rfl (WC.seq (WC.region (WL.assign rfl rfl (WL.assign rfl rfl (?_))))))))
              refine WL.nil (WX.then_normal (WC.ret (WX.block_ret (WX.block_ret (WX.then_ret (WX.block_ret (WX.then_ret (?_))))))))
              refine WX.ret2 (.inl rfl) Tryd.results15 rfl rfl ?_
              first
                | (refine ⟨_, rfl, .inl ⟨out, a1, c1, rfl, ?_, hq⟩, kk⟩
                   have : bs = [] := List.eq_nil_of_length_eq_zero (by omega)
                   subst this
                   exact decI_end hi)
                | (refine ⟨_, rfl, .inr ⟨rfl, decI_bad hi ?_⟩, kk⟩
                   first
                     | exact dec_none hc
                     | (rw [dec_some hc]
                        first
                          | (rw [if_pos (by omega)]; done)
                          | (rw [if_neg (by omega), if_neg (by omega), if_neg (by omega)])))
          ·
            refine WL.move rfl rfl (WL.pass rfl rfl rfl rfl (WL.pass rfl rfl rfl rfl (WL.pickF rfl rfl rfl (WL.move rfl rfl (WL.pass rfl rfl rfl rfl (WL.pass rfl rfl rfl rfl (WL.pass rfl rfl rfl rfl (?_))))))))
            refine WL.pass rfl rfl rfl rfl (WL.pass rfl rfl rfl rfl (WL.pickF rfl rfl rfl (WL.assign rfl rfl (WL.nil (WX.then_normal (WC.cond_false rfl (WC.seq (?_))))))))
            refine WC.region (WL.assign rfl rfl (WL.assign rfl rfl (WL.nil (WX.then_normal (WC.ret (WX.block_ret (WX.block_ret (?_))))))))
            refine WX.then_ret (WX.block_ret (WX.then_ret (?_)))
            refine WX.ret2 (.inl rfl) Tryd.results15 rfl rfl ?_
            first
              | (refine ⟨_, rfl, .inl ⟨out, a1, c1, rfl, ?_, hq⟩, kk⟩
                 have : bs = [] := List.eq_nil_of_length_eq_zero (by omega)
                 subst this
                 exact decI_end hi)
              | (refine ⟨_, rfl, .inr ⟨rfl, decI_bad hi ?_⟩, kk⟩
                 first
                   | exact dec_none hc
                   | (rw [dec_some hc]
                      first
                        | (rw [if_pos (by omega)]; done)
                        | (rw [if_neg (by omega), if_neg (by omega), if_neg (by omega)])))
    ·
      have zs_k2 := k2.size
      replace hr := hr.pure k2
      replace kk := kk.pure k2
      replace hq := hq.pure k2
      replace hb := hb.pure k2
      refine WL.move rfl rfl (WL.extract rfl rfl rfl (WL.extract rfl rfl rfl (WL.extract rfl rfl rfl (WL.assign rfl rfl (WL.assign rfl rfl (WL.assign rfl rfl (WL.nil (?_))))))))
      refine WX.then_normal (WC.block (WC.seq (WC.region (WL.move rfl rfl (WL.not rfl rfl (WL.move rfl rfl (WL.pass rfl rfl rfl rfl (?_))))))))
      refine WL.pass rfl rfl rfl rfl (WL.pass rfl rfl rfl rfl (WL.pickT rfl rfl rfl (WL.assign rfl rfl (WL.nil (WX.then_normal (WC.cond_true rfl (WC.seq (?_))))))))
      refine WC.region (WL.assign rfl rfl (WL.assign rfl rfl (WL.nil (WX.then_normal (WC.ret (WX.block_ret (WX.block_ret (?_))))))))
      refine WX.then_ret (WX.block_ret (WX.then_ret (?_)))
      refine WX.ret2 (.inl rfl) Tryd.results15 rfl rfl ?_
      first
        | (refine ⟨_, rfl, .inl ⟨out, a1, c1, rfl, ?_, hq⟩, kk⟩
           have : bs = [] := List.eq_nil_of_length_eq_zero (by omega)
           subst this
           exact decI_end hi)
        | (refine ⟨_, rfl, .inr ⟨rfl, decI_bad hi ?_⟩, kk⟩
           first
             | exact dec_none hc
             | (rw [dec_some hc]
                first
                  | (rw [if_pos (by omega)]; done)
                  | (rw [if_neg (by omega), if_neg (by omega), if_neg (by omega)])))
  ·
    refine WL.nil (WX.then_normal (WC.cond_false rfl (WC.exit (WX.then_exit (WX.then_exit (WX.block_here (WX.then_normal (?_))))))))
    refine WC.seq (WC.region (WL.move rfl rfl (WL.assign rfl rfl (WL.assign rfl rfl (WL.nil (WX.then_normal (WC.ret (?_))))))))
    refine WX.ret2 (.inl rfl) Tryd.results15 rfl rfl ?_
    first
      | (refine ⟨_, rfl, .inl ⟨out, a1, c1, rfl, ?_, hq⟩, kk⟩
         have : bs = [] := List.eq_nil_of_length_eq_zero (by omega)
         subst this
         exact decI_end hi)
      | (refine ⟨_, rfl, .inr ⟨rfl, decI_bad hi ?_⟩, kk⟩
         first
           | exact dec_none hc
           | (rw [dec_some hc]
              first
                | (rw [if_pos (by omega)]; done)
                | (rw [if_neg (by omega), if_neg (by omega), if_neg (by omega)])))
end Go.Proofs.YtcdbkfaebgficaaDoor
namespace Go.Proofs.YtcdbkfaebgficaaDoor
open Go.RowKit Go.HL

theorem eqg_item : Tryd.prog.eqGuardType Tryd.prog.depth 31 = false := by kernel_rfl
theorem eq_item (a b : Item) (w : World) : (Op.equalIn 10000 31 (.agg (eit.f a).toArray) (.agg (eit.f b).toArray)).run Tryd.prog w = .ok (decide (a = b)) w := by
  refine eqA_of (d := 9999) Tryd.underlying31 (by kernel_rfl) ?_
  have h3 : (decide (a.kind = b.kind) && (decide (a.n = b.n) && (decide (a.s = b.s) && true))) = decide (a = b) := by
    have : decide (a = b) = decide (a.kind = b.kind ∧ a.n = b.n ∧ a.s = b.s) := decide_eq_decide.2 (Item.eq_iff a b).symm
    rw [this]
    simp [Bool.decide_and]
  rw [← h3]
  refine eqf_cons rfl (part1 Tryd.sizeOf3 Tryd.isAgg3 rfl) (part1 Tryd.sizeOf3 Tryd.isAgg3 rfl) (run_equalIn_int w 9998 _ _ _ _ _ Tryd.underlying3) ?_
  refine eqf_cons rfl (part1 Tryd.sizeOf3 Tryd.isAgg3 rfl) (part1 Tryd.sizeOf3 Tryd.isAgg3 rfl) (run_equalIn_int w 9998 _ _ _ _ _ Tryd.underlying3) ?_
  refine eqf_cons rfl (part1 Tryd.sizeOf9 Tryd.isAgg9 rfl) (part1 Tryd.sizeOf9 Tryd.isAgg9 rfl) (by rw [← beq_bytes]; exact run_equalIn_string w 9998 _ _ _ Tryd.underlying9) eqf_nil

theorem same_calls {S : Nat → Prop} {w : World} {aa ab : Option Addr} {ca cb : Nat} {a b : List Item} (ha : RSl S w eit aa ca a) (hb : RSl S w eit ab cb b) (hl : a.length ≤ 9223372036854775807) :
    Calls Tryd.prog 19 [.slice aa a.length ca, .slice ab b.length cb].toArray w (Ret fun v w' => v = .bool (decide (a = b)) ∧ Chg Nob w w') := by
  have hw := Chg.refl Nob w
  refine Calls.of_WC Tryd.func19 rfl Tryd.ntmps19 (by simp) ?_
  refine WC.seq (WC.region (WL.assign rfl rfl (WL.nil (WX.then_normal (WC.seq (WC.seq (WC.region (?_))))))))
  refine WL.move rfl rfl (WL.len Tryd.underlying23 rfl rfl (WL.move rfl rfl (WL.len Tryd.underlying23 rfl rfl (?_))))
  refine WL.neq? rfl rfl rfl (fun h10 => ?_) (fun h10 => ?_)
  ·
    refine WL.nil (WX.then_normal (WC.cond_true rfl (WC.seq (WC.region (WL.assign rfl rfl (WL.nil (WX.then_normal (?_))))))))
    refine WC.ret (WX.then_ret (?_))
    refine WX.ret1 (.inl rfl) Tryd.results19 rfl ?_
    refine ⟨_, rfl, ?_, hw⟩
    first
      | (have : a ≠ b := fun h => by rw [h] at h10; exact h10 rfl
         rw [decide_eq_false this])
      | (have : a ≠ b := fun h => by rw [h, hy] at hx; injection hx with hx; exact h25 hx.symm
         rw [decide_eq_false this])
      | (rw [List.take_of_length_le (by omega), List.take_of_length_le (by omega)] at he
         rw [decide_eq_true he])
  ·
    refine WL.nil (WX.then_normal (WC.cond_false rfl (WC.skip (WX.then_normal (WC.seq (WC.seq (WC.region (?_))))))))
    refine WL.assign rfl rfl (WL.nil (WX.then_normal (WC.block (?_))))
    refine WC.loop (σ := Nat) (fun k => [(0, .slice aa a.length ca), (1, .slice ab b.length cb), (5, vi k)])
      (fun k w' => k ≤ a.length ∧ a.take k = b.take k ∧ Chg Nob w w') (fun k => a.length - k) 0 ⟨rfl, rfl, rfl, trivial⟩ ⟨Nat.zero_le _, by simp, hw⟩ ?_
    clear hw
    rintro k w1 ⟨hk, he, hw⟩
    replace ha := ha.pure hw
    replace hb := hb.pure hw
    refine WC.seq (WC.seq (WC.region (WL.move rfl rfl (WL.move rfl rfl (WL.len Tryd.underlying23 rfl rfl (?_))))))
    refine WL.lss? rfl rfl rfl (fun h14 => ?_) (fun h14 => ?_)
    ·
      refine WL.nil (WX.then_normal (WC.cond_true rfl (WC.skip (WX.then_normal (WC.seq (WC.block (WC.seq (?_))))))))
      obtain ⟨x, hx⟩ : ∃ x, a[k]? = some x := ⟨_, List.getElem?_eq_getElem (by omega)⟩
      obtain ⟨y, hy⟩ : ∃ y, b[k]? = some y := ⟨_, List.getElem?_eq_getElem (by omega)⟩
      obtain ⟨b1, o1, rfl⟩ := ha.place hx
      obtain ⟨b2, o2, rfl⟩ := hb.place hy
      refine WC.draw (Nob) [0, 1, 2, 3, 4, 5, 6, 7, 8] [] mixed rfl rfl (fun wd_1 kd_1 zd_1 => ?_)
      have zs_kd_1 := kd_1.size
      replace ha := ha.pure kd_1
      replace hb := hb.pure kd_1
      replace hw := hw.pure kd_1
      apply DQ.step (E' := [(0, _)])
      case ho => rfl
      case hs => exact ⟨rfl, trivial⟩
      case hk => rfl
      case h1 =>
        intro wq_2 kq_2
        refine WL.move rfl rfl (?_)
        refine WL.nil ?_
        exact WX.one ⟨rfl, by first | exact Chg.refl _ _ | assumption⟩
      apply DQ.step (E' := [(5, _)])
      case ho => rfl
      case hs => exact ⟨rfl, trivial⟩
      case hk => rfl
      case h1 =>
        intro wq_3 kq_3
        refine WL.move rfl rfl (?_)
        refine WL.nil ?_
        exact WX.one ⟨rfl, by first | exact Chg.refl _ _ | assumption⟩
      apply DQ.step (E' := [(17, _), (18, _)])
      case ho => rfl
      case hs => exact ⟨rfl, rfl, trivial⟩
      case hk => rfl
      case h1 =>
        intro wq_4 kq_4
        have zs_kq_4 := kq_4.size
        replace ha := ha.pure kq_4
        replace hb := hb.pure kq_4
        replace hw := hw.pure kq_4
        refine WL.indexC ha Tryd.underlying23 Tryd.sizeOf31 rfl rfl ⟨hx, rfl⟩ rfl ?_
        refine WL.nil ?_
        exact WX.one ⟨rfl, by first | exact Chg.refl _ _ | assumption⟩
      apply DQ.step (E' := [(19, _)])
      case ho => rfl
      case hs => exact ⟨rfl, trivial⟩
      case hk => rfl
      case h1 =>
        intro wq_5 kq_5
        have zs_kq_5 := kq_5.size
        replace ha := ha.pure kq_5
        replace hb := hb.pure kq_5
        replace hw := hw.pure kq_5
        refine WL.loads _ Tryd.isAgg31 Tryd.sizeOf31 rfl (ha.cellsAt hx) rfl rfl (?_)
        refine WL.nil ?_
        exact WX.one ⟨rfl, by first | exact Chg.refl _ _ | assumption⟩
      apply DQ.step (E' := [(1, _)])
      case ho => rfl
      case hs => exact ⟨rfl, trivial⟩
      case hk => rfl
      case h1 =>
        intro wq_6 kq_6
        refine WL.move rfl rfl (?_)
        refine WL.nil ?_
        exact WX.one ⟨rfl, by first | exact Chg.refl _ _ | assumption⟩
      apply DQ.step (E' := [(5, _)])
      case ho => rfl
      case hs => exact ⟨rfl, trivial⟩
      case hk => rfl
      case h1 =>
        intro wq_7 kq_7
        refine WL.move rfl rfl (?_)
        refine WL.nil ?_
        exact WX.one ⟨rfl, by first | exact Chg.refl _ _ | assumption⟩
      apply DQ.step (E' := [(21, _), (22, _)])
      case ho => rfl
      case hs => exact ⟨rfl, rfl, trivial⟩
      case hk => rfl
      case h1 =>
        intro wq_8 kq_8
        have zs_kq_8 := kq_8.size
        replace ha := ha.pure kq_8
        replace hb := hb.pure kq_8
        replace hw := hw.pure kq_8
        refine WL.indexC hb Tryd.underlying23 Tryd.sizeOf31 rfl rfl ⟨hy, rfl⟩ rfl ?_
        refine WL.nil ?_
        exact WX.one ⟨rfl, by first | exact Chg.refl _ _ | assumption⟩
      apply DQ.step (E' := [(23, _)])
      case ho => rfl
      case hs => exact ⟨rfl, trivial⟩
      case hk => rfl
      case h1 =>
        intro wq_9 kq_9
        have zs_kq_9 := kq_9.size
        replace ha := ha.pure kq_9
        replace hb := hb.pure kq_9
        replace hw := hw.pure kq_9
        refine WL.loads _ Tryd.isAgg31 Tryd.sizeOf31 rfl (hb.cellsAt hy) rfl rfl (?_)
        refine WL.nil ?_
        exact WX.one ⟨rfl, by first | exact Chg.refl _ _ | assumption⟩
      apply DQ.split (E' := [(20, _), (24, _)])
      case ho => rfl
      case hs => exact ⟨rfl, rfl, trivial⟩
      case hk => rfl
      case h1 =>
        intro wq_10 kq_10
        refine WL.aneq eqg_item (eq_item _ _) rfl rfl rfl ?_
        refine WL.nil ?_
        exact WX.one ⟨rfl, by first | exact Chg.refl _ _ | assumption⟩
      case ht =>
        intro h25
        replace h25 := of_decide_eq_true h25
        refine DQ.done (fun _ => ?_)
        refine DL.done (fun we_11 ke_11 => ?_)
        have zs_ke_11 := ke_11.size
        replace ha := ha.pure ke_11
        replace hb := hb.pure ke_11
        replace hw := hw.pure ke_11
        refine WX.then_normal (WC.cond_true rfl (WC.seq (WC.region (WL.assign rfl rfl (WL.nil (WX.then_normal (WC.ret (?_))))))))
        refine WX.block_ret (WX.then_ret (WX.then_ret (WX.block_ret (WX.then_ret (?_)))))
        refine WX.ret1 (.inl rfl) Tryd.results19 rfl ?_
        refine ⟨_, rfl, ?_, hw⟩
        first
          | (have : a ≠ b := fun h => by rw [h] at h10; exact h10 rfl
             rw [decide_eq_false this])
          | (have : a ≠ b := fun h => by rw [h, hy] at hx; injection hx with hx; exact h25 hx.symm
             rw [decide_eq_false this])
          | (rw [List.take_of_length_le (by omega), List.take_of_length_le (by omega)] at he
             rw [decide_eq_true he])
      case hf =>
        intro h25
        replace h25 := of_decide_eq_false h25
        refine DQ.done (fun _ => ?_)
        refine DL.done (fun we_11 ke_11 => ?_)
        have zs_ke_11 := ke_11.size
        replace ha := ha.pure ke_11
        replace hb := hb.pure ke_11
        replace hw := hw.pure ke_11
        refine WX.then_normal (WC.cond_false rfl (WC.skip (WX.block_normal (WX.then_normal (WC.region (WL.move rfl rfl (WL.add64 rfl rfl (by first | omega | (constructor <;> omega)) rfl (?_))))))))
        refine WL.assign rfl rfl (WL.nil (?_))
        refine WX.loop_next (k + 1) ⟨rfl, rfl, rfl, trivial⟩ ⟨by omega, ?_, hw⟩ (by show _ - _ < _ - _; omega)
        rw [List.take_add_one, List.take_add_one, hx, hy, he, Classical.not_not.1 h25]
    ·
      refine WL.nil (WX.then_normal (WC.cond_false rfl (WC.exit (WX.then_exit (WX.then_exit (WX.block_here (WX.then_normal (?_))))))))
      refine WC.seq (WC.region (WL.assign rfl rfl (WL.nil (WX.then_normal (WC.ret (?_))))))
      refine WX.ret1 (.inl rfl) Tryd.results19 rfl ?_
      refine ⟨_, rfl, ?_, hw⟩
      first
        | (have : a ≠ b := fun h => by rw [h] at h10; exact h10 rfl
           rw [decide_eq_false this])
        | (have : a ≠ b := fun h => by rw [h, hy] at hx; injection hx with hx; exact h25 hx.symm
           rw [decide_eq_false this])
        | (rw [List.take_of_length_le (by omega), List.take_of_length_le (by omega)] at he
           rw [decide_eq_true he])
theorem rcheck_calls {S : Nat → Prop} {w : World} {ao : Option Addr} {c : Nat} {l : List Item} (hr : RSl S w eit ao c l) (hl : l.length ≤ 9223372036854775807) :
    Calls Tryd.prog 90 [.slice ao l.length c].toArray w (Ret fun v w' => v = vi (checkE l) ∧ Chg Nob w w') := by
  have hw := Chg.refl Nob w
  have hr00 := hr
  refine Calls.of_WC Tryd.func90 rfl Tryd.ntmps90 (by simp) ?_
  refine WC.seq (WC.region (WL.assign rfl rfl (WL.nil (WX.then_normal (WC.seq (WC.seq (WC.region (?_))))))))
  refine WL.move rfl rfl (WL.len Tryd.underlying23 rfl rfl (?_))
  refine WL.gtr? rfl rfl rfl (fun h7 => ?_) (fun h7 => ?_)
  ·
    refine WL.nil (WX.then_normal (WC.cond_true rfl (WC.seq (WC.region (WL.assign rfl rfl (WL.nil (WX.then_normal (?_))))))))
    refine WC.ret (WX.then_ret (?_))
    refine WX.ret1 (.inl rfl) Tryd.results90 rfl ?_
    refine ⟨_, rfl, ?_, hw⟩
    congr 1
    unfold checkE
    by_cases h1 : 2000 < l.length ∨ l.any longI = true
    ·
      rw [if_pos h1]
      all_goals (exfalso; rcases h1 with h8 | h8; omega; rw [hno] at h8; cases h8)
    ·
      rw [if_neg h1]
      first
        | (exfalso; apply h1; left; omega)
        | (exfalso; apply h1; right; refine List.any_eq_true.2 ⟨x, List.mem_of_getElem? hx, ?_⟩; simp only [longI, decide_eq_true_eq]; omega)
        | (by_cases hall' : l.all okI = true
           ·
             rw [if_pos hall']
             all_goals
               exfalso
               have h9 := List.all_eq_true.1 hall' x (List.mem_of_getElem? hx)
               simp only [okI, decide_eq_true_eq] at h9
               rcases h9 with ⟨h8, h9⟩ | ⟨h8, h9⟩
               ·
                 first | omega | exact absurd h9 (by assumption)
               ·
                 omega
           ·
             rw [if_neg hall']
             all_goals
               exfalso
               have h9 : l.length ≤ j := by omega
               rw [List.take_of_length_le h9] at hall
               exact hall' hall)
  ·
    refine WL.nil (WX.then_normal (WC.cond_false rfl (WC.skip (WX.then_normal (WC.seq (WC.seq (WC.region (?_))))))))
    refine WL.assign rfl rfl (WL.nil (WX.then_normal (WC.block (?_))))
    refine WC.loop (σ := Nat) (fun i => [(0, .slice ao l.length c), (3, vi i)])
      (fun i w' => i ≤ l.length ∧ (l.take i).any longI = false ∧ Chg Nob w w') (fun i => l.length - i) 0 ⟨rfl, rfl, trivial⟩ ⟨Nat.zero_le _, by simp, hw⟩ ?_
    clear hw
    rintro i w1 ⟨hi, hno, hw⟩
    replace hr := hr.pure hw
    refine WC.seq (WC.seq (WC.region (WL.move rfl rfl (WL.move rfl rfl (WL.len Tryd.underlying23 rfl rfl (?_))))))
    refine WL.lss? rfl rfl rfl (fun h11 => ?_) (fun h11 => ?_)
    ·
      refine WL.nil (WX.then_normal (WC.cond_true rfl (WC.skip (WX.then_normal (WC.seq (WC.block (WC.seq (?_))))))))
      refine WC.region (WL.move rfl rfl (WL.move rfl rfl (?_)))
      obtain ⟨x, hx⟩ : ∃ x, l[i]? = some x := ⟨_, List.getElem?_eq_getElem (by omega)⟩
      refine WL.indexT Tryd.underlying23 Tryd.sizeOf31 hr rfl rfl ⟨hx, rfl⟩ rfl ?_
      intro b_1 o_1 hc_1
      refine WL.fieldAddr (fld_31_0) rfl rfl (WL.load Tryd.isAgg3 rfl (hc_1 _ _ rfl) rfl (?_))
      refine WL.eql? rfl rfl rfl (fun h19 => ?_) (fun h19 => ?_)
      ·
        refine WL.move rfl rfl (WL.want rfl rfl rfl (WL.move rfl rfl (WL.want rfl rfl rfl (WL.move rfl rfl (WL.want rfl rfl rfl (?_))))))
        refine WL.indexT Tryd.underlying23 Tryd.sizeOf31 hr rfl rfl ⟨hx, rfl⟩ rfl ?_
        intro b_2 o_2 hc_2
        refine WL.want rfl rfl rfl (WL.fieldAddr (fld_31_2) rfl rfl (WL.want rfl rfl rfl (WL.load Tryd.isAgg9 rfl (hc_2 _ _ rfl) rfl (WL.want rfl rfl rfl (WL.lens Tryd.underlying9 rfl rfl (WL.want rfl rfl rfl (?_)))))))
        refine WL.gtr? rfl rfl rfl (fun h27 => ?_) (fun h27 => ?_)
        ·
          refine WL.pickT rfl rfl rfl (WL.nil (WX.then_normal (WC.cond_true rfl (WC.seq (WC.region (WL.assign rfl rfl (WL.nil (?_))))))))
          refine WX.then_normal (WC.ret (WX.block_ret (WX.then_ret (WX.then_ret (WX.block_ret (WX.then_ret (?_)))))))
          refine WX.ret1 (.inl rfl) Tryd.results90 rfl ?_
          refine ⟨_, rfl, ?_, hw⟩
          congr 1
          unfold checkE
          by_cases h1 : 2000 < l.length ∨ l.any longI = true
          ·
            rw [if_pos h1]
            all_goals (exfalso; rcases h1 with h8 | h8; omega; rw [hno] at h8; cases h8)
          ·
            rw [if_neg h1]
            first
              | (exfalso; apply h1; left; omega)
              | (exfalso; apply h1; right; refine List.any_eq_true.2 ⟨x, List.mem_of_getElem? hx, ?_⟩; simp only [longI, decide_eq_true_eq]; omega)
              | (by_cases hall' : l.all okI = true
                 ·
                   rw [if_pos hall']
                   all_goals
                     exfalso
                     have h9 := List.all_eq_true.1 hall' x (List.mem_of_getElem? hx)
                     simp only [okI, decide_eq_true_eq] at h9
                     rcases h9 with ⟨h8, h9⟩ | ⟨h8, h9⟩
                     ·
                       first | omega | exact absurd h9 (by assumption)
                     ·
                       omega
                 ·
                   rw [if_neg hall']
                   all_goals
                     exfalso
                     have h9 : l.length ≤ j := by omega
                     rw [List.take_of_length_le h9] at hall
                     exact hall' hall)
        ·
          refine WL.pickT rfl rfl rfl (WL.nil (WX.then_normal (WC.cond_false rfl (WC.skip (WX.block_normal (WX.then_normal (WC.region (?_))))))))
          refine WL.move rfl rfl (WL.add64 rfl rfl (by first | omega | (constructor <;> omega)) rfl (WL.assign rfl rfl (WL.nil (?_))))
          first
            | (refine WX.loop_next (i + 1) ⟨rfl, rfl, trivial⟩ ⟨by omega, ?_, hw⟩ (by show _ - _ < _ - _; omega)
               have hx9 : longI x = false := by simp only [longI, decide_eq_false_iff_not]; omega
               rw [List.take_add_one, hx, List.any_append, hno]
               simp [hx9])
            | (refine WX.loop_next (j + 1) ⟨rfl, rfl, trivial⟩ ⟨by omega, ?_, hw⟩ (by show _ - _ < _ - _; omega)
               have hx9 : okI x = true := by
                 simp only [okI, decide_eq_true_eq]
                 first
                   | exact .inl ⟨by omega, by assumption⟩
                   | exact .inr ⟨by omega, by omega⟩
               rw [List.take_add_one, hx, List.all_append, hall]
               simp [hx9])
      ·
        refine WL.move rfl rfl (WL.pass rfl rfl rfl rfl (WL.pass rfl rfl rfl rfl (WL.pass rfl rfl rfl rfl (WL.pass rfl rfl rfl rfl (WL.pass rfl rfl rfl rfl (WL.pass rfl rfl rfl rfl (WL.pass rfl rfl rfl rfl (?_))))))))
        refine WL.pickF rfl rfl rfl (WL.nil (WX.then_normal (WC.cond_false rfl (WC.skip (WX.block_normal (WX.then_normal (WC.region (?_))))))))
        refine WL.move rfl rfl (WL.add64 rfl rfl (by first | omega | (constructor <;> omega)) rfl (WL.assign rfl rfl (WL.nil (?_))))
        first
          | (refine WX.loop_next (i + 1) ⟨rfl, rfl, trivial⟩ ⟨by omega, ?_, hw⟩ (by show _ - _ < _ - _; omega)
             have hx9 : longI x = false := by simp only [longI, decide_eq_false_iff_not]; omega
             rw [List.take_add_one, hx, List.any_append, hno]
             simp [hx9])
          | (refine WX.loop_next (j + 1) ⟨rfl, rfl, trivial⟩ ⟨by omega, ?_, hw⟩ (by show _ - _ < _ - _; omega)
             have hx9 : okI x = true := by
               simp only [okI, decide_eq_true_eq]
               first
                 | exact .inl ⟨by omega, by assumption⟩
                 | exact .inr ⟨by omega, by omega⟩
             rw [List.take_add_one, hx, List.all_append, hall]
             simp [hx9])
    ·
      refine WL.nil (WX.then_normal (WC.cond_false rfl (WC.exit (WX.then_exit (WX.then_exit (WX.block_here (WX.then_normal (?_))))))))
      refine WC.seq (WC.seq (WC.region (WL.assign rfl rfl (WL.nil (WX.then_normal (WC.block (?_)))))))
      have hno' : l.any longI = false := by rw [List.take_of_length_le (by omega)] at hno; exact hno
      clear hno
      have hno := hno'
      refine WC.loop (σ := Nat) (fun i => [(0, .slice ao l.length c), (4, vi i)])
        (fun i w' => i ≤ l.length ∧ (l.take i).all okI = true ∧ Chg Nob w w') (fun i => l.length - i) 0 ⟨rfl, rfl, trivial⟩ ⟨Nat.zero_le _, by simp, hw⟩ ?_
      clear hw
      rintro j w2 ⟨hj, hall, hw⟩
      replace hr := hr00.pure hw
      refine WC.seq (WC.seq (WC.region (WL.move rfl rfl (WL.move rfl rfl (WL.len Tryd.underlying23 rfl rfl (?_))))))
      refine WL.lss? rfl rfl rfl (fun h32 => ?_) (fun h32 => ?_)
      ·
        refine WL.nil (WX.then_normal (WC.cond_true rfl (WC.skip (WX.then_normal (WC.seq (WC.block (WC.seq (?_))))))))
        refine WC.region (WL.move rfl rfl (WL.move rfl rfl (?_)))
        obtain ⟨x, hx⟩ : ∃ x, l[j]? = some x := ⟨_, List.getElem?_eq_getElem (by omega)⟩
        refine WL.indexT Tryd.underlying23 Tryd.sizeOf31 hr rfl rfl ⟨hx, rfl⟩ rfl ?_
        intro b_1 o_1 hc_1
        refine WL.fieldAddr (fld_31_0) rfl rfl (WL.load Tryd.isAgg3 rfl (hc_1 _ _ rfl) rfl (?_))
        refine WL.neq? rfl rfl rfl (fun h40 => ?_) (fun h40 => ?_)
        ·
          refine WL.move rfl rfl (WL.want rfl rfl rfl (WL.move rfl rfl (WL.want rfl rfl rfl (WL.move rfl rfl (WL.want rfl rfl rfl (?_))))))
          refine WL.indexT Tryd.underlying23 Tryd.sizeOf31 hr rfl rfl ⟨hx, rfl⟩ rfl ?_
          intro b_2 o_2 hc_2
          refine WL.want rfl rfl rfl (WL.fieldAddr (fld_31_0) rfl rfl (WL.want rfl rfl rfl (WL.load Tryd.isAgg3 rfl (hc_2 _ _ rfl) rfl (WL.want rfl rfl rfl (?_)))))
          refine WL.neq? rfl rfl rfl (fun h47 => ?_) (fun h47 => ?_)
          ·
            refine WL.pickT rfl rfl rfl (WL.move rfl rfl (WL.pass rfl rfl rfl rfl (WL.pass rfl rfl rfl rfl (WL.pass rfl rfl rfl rfl (WL.pass rfl rfl rfl rfl (WL.pass rfl rfl rfl rfl (WL.pass rfl rfl rfl rfl (?_))))))))
            refine WL.pass rfl rfl rfl rfl (WL.passU rfl rfl rfl (WL.passU rfl rfl rfl (WL.passU rfl rfl rfl (WL.passU rfl rfl rfl (WL.passU rfl rfl rfl (WL.passU rfl rfl rfl (WL.pass rfl rfl rfl rfl (?_))))))))
            refine WL.pickT rfl rfl rfl (WL.move rfl rfl (WL.pass rfl rfl rfl rfl (WL.pass rfl rfl rfl rfl (WL.pass rfl rfl rfl rfl (WL.pass rfl rfl rfl rfl (WL.pass rfl rfl rfl rfl (WL.pass rfl rfl rfl rfl (?_))))))))
            refine WL.pass rfl rfl rfl rfl (WL.passU rfl rfl rfl (WL.passU rfl rfl rfl (WL.passU rfl rfl rfl (WL.passU rfl rfl rfl (WL.passU rfl rfl rfl (WL.passU rfl rfl rfl (WL.pass rfl rfl rfl rfl (?_))))))))
            refine WL.pickT rfl rfl rfl (WL.nil (WX.then_normal (WC.cond_true rfl (WC.seq (WC.region (WL.assign rfl rfl (WL.nil (?_))))))))
            refine WX.then_normal (WC.ret (WX.block_ret (WX.then_ret (WX.then_ret (WX.block_ret (WX.then_ret (?_)))))))
            refine WX.ret1 (.inl rfl) Tryd.results90 rfl ?_
            refine ⟨_, rfl, ?_, hw⟩
            congr 1
            unfold checkE
            by_cases h1 : 2000 < l.length ∨ l.any longI = true
            ·
              rw [if_pos h1]
              all_goals (exfalso; rcases h1 with h8 | h8; omega; rw [hno] at h8; cases h8)
            ·
              rw [if_neg h1]
              first
                | (exfalso; apply h1; left; omega)
                | (exfalso; apply h1; right; refine List.any_eq_true.2 ⟨x, List.mem_of_getElem? hx, ?_⟩; simp only [longI, decide_eq_true_eq]; omega)
                | (by_cases hall' : l.all okI = true
                   ·
                     rw [if_pos hall']
                     all_goals
                       exfalso
                       have h9 := List.all_eq_true.1 hall' x (List.mem_of_getElem? hx)
                       simp only [okI, decide_eq_true_eq] at h9
                       rcases h9 with ⟨h8, h9⟩ | ⟨h8, h9⟩
                       ·
                         first | omega | exact absurd h9 (by assumption)
                       ·
                         omega
                   ·
                     rw [if_neg hall']
                     all_goals
                       exfalso
                       have h9 : l.length ≤ j := by omega
                       rw [List.take_of_length_le h9] at hall
                       exact hall' hall)
          ·
            refine WL.pickT rfl rfl rfl (WL.move rfl rfl (WL.want rfl rfl rfl (WL.move rfl rfl (WL.want rfl rfl rfl (WL.move rfl rfl (WL.want rfl rfl rfl (?_)))))))
            refine WL.indexT Tryd.underlying23 Tryd.sizeOf31 hr rfl rfl ⟨hx, rfl⟩ rfl ?_
            intro b_3 o_3 hc_3
            refine WL.want rfl rfl rfl (WL.fieldAddr (fld_31_0) rfl rfl (WL.want rfl rfl rfl (WL.load Tryd.isAgg3 rfl (hc_3 _ _ rfl) rfl (WL.want rfl rfl rfl (?_)))))
            refine WL.eql? rfl rfl rfl (fun h55 => ?_) (fun h55 => ?_)
            ·
              refine WL.want rfl rfl rfl (WL.move rfl rfl (WL.want rfl rfl rfl (WL.move rfl rfl (WL.want rfl rfl rfl (WL.move rfl rfl (WL.want rfl rfl rfl (?_)))))))
              refine WL.indexT Tryd.underlying23 Tryd.sizeOf31 hr rfl rfl ⟨hx, rfl⟩ rfl ?_
              intro b_4 o_4 hc_4
              refine WL.want rfl rfl rfl (WL.fieldAddr (fld_31_2) rfl rfl (WL.want rfl rfl rfl (WL.load Tryd.isAgg9 rfl (hc_4 _ _ rfl) rfl (WL.want rfl rfl rfl (?_)))))
              refine WL.sneq? rfl rfl rfl (fun h62 => ?_) (fun h62 => ?_)
              ·
                refine WL.want rfl rfl rfl (WL.pickT rfl rfl rfl (WL.pickF rfl rfl rfl (WL.move rfl rfl (WL.pass rfl rfl rfl rfl (WL.pass rfl rfl rfl rfl (WL.pass rfl rfl rfl rfl (WL.pass rfl rfl rfl rfl (?_))))))))
                refine WL.pass rfl rfl rfl rfl (WL.pass rfl rfl rfl rfl (WL.pass rfl rfl rfl rfl (WL.passU rfl rfl rfl (WL.passU rfl rfl rfl (WL.passU rfl rfl rfl (WL.passU rfl rfl rfl (WL.passU rfl rfl rfl (?_))))))))
                refine WL.passU rfl rfl rfl (WL.pass rfl rfl rfl rfl (WL.pickT rfl rfl rfl (WL.nil (WX.then_normal (WC.cond_true rfl (WC.seq (WC.region (?_))))))))
                refine WL.assign rfl rfl (WL.nil (WX.then_normal (WC.ret (WX.block_ret (WX.then_ret (WX.then_ret (WX.block_ret (?_))))))))
                refine WX.then_ret (?_)
                refine WX.ret1 (.inl rfl) Tryd.results90 rfl ?_
                refine ⟨_, rfl, ?_, hw⟩
                congr 1
                unfold checkE
                by_cases h1 : 2000 < l.length ∨ l.any longI = true
                ·
                  rw [if_pos h1]
                  all_goals (exfalso; rcases h1 with h8 | h8; omega; rw [hno] at h8; cases h8)
                ·
                  rw [if_neg h1]
                  first
                    | (exfalso; apply h1; left; omega)
                    | (exfalso; apply h1; right; refine List.any_eq_true.2 ⟨x, List.mem_of_getElem? hx, ?_⟩; simp only [longI, decide_eq_true_eq]; omega)
                    | (by_cases hall' : l.all okI = true
                       ·
                         rw [if_pos hall']
                         all_goals
                           exfalso
                           have h9 := List.all_eq_true.1 hall' x (List.mem_of_getElem? hx)
                           simp only [okI, decide_eq_true_eq] at h9
                           rcases h9 with ⟨h8, h9⟩ | ⟨h8, h9⟩
                           ·
                             first | omega | exact absurd h9 (by assumption)
                           ·
                             omega
                       ·
                         rw [if_neg hall']
                         all_goals
                           exfalso
                           have h9 : l.length ≤ j := by omega
                           rw [List.take_of_length_le h9] at hall
                           exact hall' hall)
              ·
                refine WL.want rfl rfl rfl (WL.pickT rfl rfl rfl (WL.pickF rfl rfl rfl (WL.move rfl rfl (WL.want rfl rfl rfl (WL.move rfl rfl (WL.want rfl rfl rfl (WL.move rfl rfl (?_))))))))
                refine WL.want rfl rfl rfl (?_)
                refine WL.indexT Tryd.underlying23 Tryd.sizeOf31 hr rfl rfl ⟨hx, rfl⟩ rfl ?_
                intro b_5 o_5 hc_5
                refine WL.want rfl rfl rfl (WL.fieldAddr (fld_31_0) rfl rfl (WL.want rfl rfl rfl (WL.load Tryd.isAgg3 rfl (hc_5 _ _ rfl) rfl (WL.want rfl rfl rfl (?_)))))
                refine WL.eql? rfl rfl rfl (fun h71 => ?_) (fun h71 => ?_)
                ·
                  refine WL.want rfl rfl rfl (WL.move rfl rfl (WL.want rfl rfl rfl (WL.move rfl rfl (WL.want rfl rfl rfl (WL.move rfl rfl (WL.want rfl rfl rfl (?_)))))))
                  refine WL.indexT Tryd.underlying23 Tryd.sizeOf31 hr rfl rfl ⟨hx, rfl⟩ rfl ?_
                  intro b_6 o_6 hc_6
                  refine WL.want rfl rfl rfl (WL.fieldAddr (fld_31_1) rfl rfl (WL.want rfl rfl rfl (WL.load Tryd.isAgg3 rfl (hc_6 _ _ rfl) rfl (WL.want rfl rfl rfl (?_)))))
                  refine WL.neq? rfl rfl rfl (fun h78 => ?_) (fun h78 => ?_)
                  ·
                    refine WL.want rfl rfl rfl (WL.pickT rfl rfl rfl (WL.pickF rfl rfl rfl (WL.nil (WX.then_normal (WC.cond_true rfl (WC.seq (WC.region (?_))))))))
                    refine WL.assign rfl rfl (WL.nil (WX.then_normal (WC.ret (WX.block_ret (WX.then_ret (WX.then_ret (WX.block_ret (?_))))))))
                    refine WX.then_ret (?_)
                    refine WX.ret1 (.inl rfl) Tryd.results90 rfl ?_
                    refine ⟨_, rfl, ?_, hw⟩
                    congr 1
                    unfold checkE
                    by_cases h1 : 2000 < l.length ∨ l.any longI = true
                    ·
                      rw [if_pos h1]
                      all_goals (exfalso; rcases h1 with h8 | h8; omega; rw [hno] at h8; cases h8)
                    ·
                      rw [if_neg h1]
                      first
                        | (exfalso; apply h1; left; omega)
                        | (exfalso; apply h1; right; refine List.any_eq_true.2 ⟨x, List.mem_of_getElem? hx, ?_⟩; simp only [longI, decide_eq_true_eq]; omega)
                        | (by_cases hall' : l.all okI = true
                           ·
                             rw [if_pos hall']
                             all_goals
                               exfalso
                               have h9 := List.all_eq_true.1 hall' x (List.mem_of_getElem? hx)
                               simp only [okI, decide_eq_true_eq] at h9
                               rcases h9 with ⟨h8, h9⟩ | ⟨h8, h9⟩
                               ·
                                 first | omega | exact absurd h9 (by assumption)
                               ·
                                 omega
                           ·
                             rw [if_neg hall']
                             all_goals
                               exfalso
                               have h9 : l.length ≤ j := by omega
                               rw [List.take_of_length_le h9] at hall
                               exact hall' hall)
                  ·
                    refine WL.want rfl rfl rfl (WL.pickT rfl rfl rfl (WL.pickF rfl rfl rfl (WL.nil (WX.then_normal (WC.cond_false rfl (WC.skip (WX.block_normal (?_))))))))
                    refine WX.then_normal (WC.region (WL.move rfl rfl (WL.add64 rfl rfl (by first | omega | (constructor <;> omega)) rfl (WL.assign rfl rfl (WL.nil (?_))))))
                    first
                      | (refine WX.loop_next (i + 1) ⟨rfl, rfl, trivial⟩ ⟨by omega, ?_, hw⟩ (by show _ - _ < _ - _; omega)
                         have hx9 : longI x = false := by simp only [longI, decide_eq_false_iff_not]; omega
                         rw [List.take_add_one, hx, List.any_append, hno]
                         simp [hx9])
                      | (refine WX.loop_next (j + 1) ⟨rfl, rfl, trivial⟩ ⟨by omega, ?_, hw⟩ (by show _ - _ < _ - _; omega)
                         have hx9 : okI x = true := by
                           simp only [okI, decide_eq_true_eq]
                           first
                             | exact .inl ⟨by omega, by assumption⟩
                             | exact .inr ⟨by omega, by omega⟩
                         rw [List.take_add_one, hx, List.all_append, hall]
                         simp [hx9])
                ·
                  refine WL.want rfl rfl rfl (WL.move rfl rfl (WL.pass rfl rfl rfl rfl (WL.pass rfl rfl rfl rfl (WL.pass rfl rfl rfl rfl (WL.pass rfl rfl rfl rfl (WL.pass rfl rfl rfl rfl (WL.pass rfl rfl rfl rfl (?_))))))))
                  refine WL.want rfl rfl rfl (WL.pickF rfl rfl rfl (WL.pickF rfl rfl rfl (WL.nil (WX.then_normal (WC.cond_false rfl (WC.skip (WX.block_normal (?_))))))))
                  refine WX.then_normal (WC.region (WL.move rfl rfl (WL.add64 rfl rfl (by first | omega | (constructor <;> omega)) rfl (WL.assign rfl rfl (WL.nil (?_))))))
                  first
                    | (refine WX.loop_next (i + 1) ⟨rfl, rfl, trivial⟩ ⟨by omega, ?_, hw⟩ (by show _ - _ < _ - _; omega)
                       have hx9 : longI x = false := by simp only [longI, decide_eq_false_iff_not]; omega
                       rw [List.take_add_one, hx, List.any_append, hno]
                       simp [hx9])
                    | (refine WX.loop_next (j + 1) ⟨rfl, rfl, trivial⟩ ⟨by omega, ?_, hw⟩ (by show _ - _ < _ - _; omega)
                       have hx9 : okI x = true := by
                         simp only [okI, decide_eq_true_eq]
                         first
                           | exact .inl ⟨by omega, by assumption⟩
                           | exact .inr ⟨by omega, by omega⟩
                       rw [List.take_add_one, hx, List.all_append, hall]
                       simp [hx9])
            ·
              refine WL.want rfl rfl rfl (WL.move rfl rfl (WL.pass rfl rfl rfl rfl (WL.pass rfl rfl rfl rfl (WL.pass rfl rfl rfl rfl (WL.pass rfl rfl rfl rfl (WL.pass rfl rfl rfl rfl (WL.pass rfl rfl rfl rfl (?_))))))))
              refine WL.want rfl rfl rfl (WL.pickF rfl rfl rfl (WL.pickF rfl rfl rfl (WL.move rfl rfl (WL.want rfl rfl rfl (WL.move rfl rfl (WL.want rfl rfl rfl (WL.move rfl rfl (?_))))))))
              refine WL.want rfl rfl rfl (?_)
              refine WL.indexT Tryd.underlying23 Tryd.sizeOf31 hr rfl rfl ⟨hx, rfl⟩ rfl ?_
              intro b_4 o_4 hc_4
              refine WL.want rfl rfl rfl (WL.fieldAddr (fld_31_0) rfl rfl (WL.want rfl rfl rfl (WL.load Tryd.isAgg3 rfl (hc_4 _ _ rfl) rfl (WL.want rfl rfl rfl (?_)))))
              refine WL.eql? rfl rfl rfl (fun h71 => ?_) (fun h71 => ?_)
              ·
                refine WL.want rfl rfl rfl (WL.move rfl rfl (WL.want rfl rfl rfl (WL.move rfl rfl (WL.want rfl rfl rfl (WL.move rfl rfl (WL.want rfl rfl rfl (?_)))))))
                refine WL.indexT Tryd.underlying23 Tryd.sizeOf31 hr rfl rfl ⟨hx, rfl⟩ rfl ?_
                intro b_5 o_5 hc_5
                refine WL.want rfl rfl rfl (WL.fieldAddr (fld_31_1) rfl rfl (WL.want rfl rfl rfl (WL.load Tryd.isAgg3 rfl (hc_5 _ _ rfl) rfl (WL.want rfl rfl rfl (?_)))))
                refine WL.neq? rfl rfl rfl (fun h78 => ?_) (fun h78 => ?_)
                ·
                  refine WL.want rfl rfl rfl (WL.pickT rfl rfl rfl (WL.pickF rfl rfl rfl (WL.nil (WX.then_normal (WC.cond_true rfl (WC.seq (WC.region (?_))))))))
                  refine WL.assign rfl rfl (WL.nil (WX.then_normal (WC.ret (WX.block_ret (WX.then_ret (WX.then_ret (WX.block_ret (?_))))))))
                  refine WX.then_ret (?_)
                  refine WX.ret1 (.inl rfl) Tryd.results90 rfl ?_
                  refine ⟨_, rfl, ?_, hw⟩
                  congr 1
                  unfold checkE
                  by_cases h1 : 2000 < l.length ∨ l.any longI = true
                  ·
                    rw [if_pos h1]
                    all_goals (exfalso; rcases h1 with h8 | h8; omega; rw [hno] at h8; cases h8)
                  ·
                    rw [if_neg h1]
                    first
                      | (exfalso; apply h1; left; omega)
                      | (exfalso; apply h1; right; refine List.any_eq_true.2 ⟨x, List.mem_of_getElem? hx, ?_⟩; simp only [longI, decide_eq_true_eq]; omega)
                      | (by_cases hall' : l.all okI = true
                         ·
                           rw [if_pos hall']
                           all_goals
                             exfalso
                             have h9 := List.all_eq_true.1 hall' x (List.mem_of_getElem? hx)
                             simp only [okI, decide_eq_true_eq] at h9
                             rcases h9 with ⟨h8, h9⟩ | ⟨h8, h9⟩
                             ·
                               first | omega | exact absurd h9 (by assumption)
                             ·
                               omega
                         ·
                           rw [if_neg hall']
                           all_goals
                             exfalso
                             have h9 : l.length ≤ j := by omega
                             rw [List.take_of_length_le h9] at hall
                             exact hall' hall)
                ·
                  refine WL.want rfl rfl rfl (WL.pickT rfl rfl rfl (WL.pickF rfl rfl rfl (WL.nil (WX.then_normal (WC.cond_false rfl (WC.skip (WX.block_normal (?_))))))))
                  refine WX.then_normal (WC.region (WL.move rfl rfl (WL.add64 rfl rfl (by first | omega | (constructor <;> omega)) rfl (WL.assign rfl rfl (WL.nil (?_))))))
                  first
                    | (refine WX.loop_next (i + 1) ⟨rfl, rfl, trivial⟩ ⟨by omega, ?_, hw⟩ (by show _ - _ < _ - _; omega)
                       have hx9 : longI x = false := by simp only [longI, decide_eq_false_iff_not]; omega
                       rw [List.take_add_one, hx, List.any_append, hno]
                       simp [hx9])
                    | (refine WX.loop_next (j + 1) ⟨rfl, rfl, trivial⟩ ⟨by omega, ?_, hw⟩ (by show _ - _ < _ - _; omega)
                       have hx9 : okI x = true := by
                         simp only [okI, decide_eq_true_eq]
                         first
                           | exact .inl ⟨by omega, by assumption⟩
                           | exact .inr ⟨by omega, by omega⟩
                       rw [List.take_add_one, hx, List.all_append, hall]
                       simp [hx9])
              ·
                refine WL.want rfl rfl rfl (WL.move rfl rfl (WL.pass rfl rfl rfl rfl (WL.pass rfl rfl rfl rfl (WL.pass rfl rfl rfl rfl (WL.pass rfl rfl rfl rfl (WL.pass rfl rfl rfl rfl (WL.pass rfl rfl rfl rfl (?_))))))))
                refine WL.want rfl rfl rfl (WL.pickF rfl rfl rfl (WL.pickF rfl rfl rfl (WL.nil (WX.then_normal (WC.cond_false rfl (WC.skip (WX.block_normal (?_))))))))
                refine WX.then_normal (WC.region (WL.move rfl rfl (WL.add64 rfl rfl (by first | omega | (constructor <;> omega)) rfl (WL.assign rfl rfl (WL.nil (?_))))))
                first
                  | (refine WX.loop_next (i + 1) ⟨rfl, rfl, trivial⟩ ⟨by omega, ?_, hw⟩ (by show _ - _ < _ - _; omega)
                     have hx9 : longI x = false := by simp only [longI, decide_eq_false_iff_not]; omega
                     rw [List.take_add_one, hx, List.any_append, hno]
                     simp [hx9])
                  | (refine WX.loop_next (j + 1) ⟨rfl, rfl, trivial⟩ ⟨by omega, ?_, hw⟩ (by show _ - _ < _ - _; omega)
                     have hx9 : okI x = true := by
                       simp only [okI, decide_eq_true_eq]
                       first
                         | exact .inl ⟨by omega, by assumption⟩
                         | exact .inr ⟨by omega, by omega⟩
                     rw [List.take_add_one, hx, List.all_append, hall]
                     simp [hx9])
        ·
          refine WL.move rfl rfl (WL.pass rfl rfl rfl rfl (WL.pass rfl rfl rfl rfl (WL.pass rfl rfl rfl rfl (WL.pass rfl rfl rfl rfl (WL.pass rfl rfl rfl rfl (WL.pass rfl rfl rfl rfl (WL.pickF rfl rfl rfl (?_))))))))
          refine WL.move rfl rfl (WL.want rfl rfl rfl (WL.move rfl rfl (WL.want rfl rfl rfl (WL.move rfl rfl (WL.want rfl rfl rfl (?_))))))
          refine WL.indexT Tryd.underlying23 Tryd.sizeOf31 hr rfl rfl ⟨hx, rfl⟩ rfl ?_
          intro b_2 o_2 hc_2
          refine WL.want rfl rfl rfl (WL.fieldAddr (fld_31_0) rfl rfl (WL.want rfl rfl rfl (WL.load Tryd.isAgg3 rfl (hc_2 _ _ rfl) rfl (WL.want rfl rfl rfl (?_)))))
          refine WL.eql? rfl rfl rfl (fun h55 => ?_) (fun h55 => ?_)
          ·
            refine WL.want rfl rfl rfl (WL.move rfl rfl (WL.want rfl rfl rfl (WL.move rfl rfl (WL.want rfl rfl rfl (WL.move rfl rfl (WL.want rfl rfl rfl (?_)))))))
            refine WL.indexT Tryd.underlying23 Tryd.sizeOf31 hr rfl rfl ⟨hx, rfl⟩ rfl ?_
            intro b_3 o_3 hc_3
            refine WL.want rfl rfl rfl (WL.fieldAddr (fld_31_2) rfl rfl (WL.want rfl rfl rfl (WL.load Tryd.isAgg9 rfl (hc_3 _ _ rfl) rfl (WL.want rfl rfl rfl (?_)))))
            refine WL.sneq? rfl rfl rfl (fun h62 => ?_) (fun h62 => ?_)
            ·
              refine WL.want rfl rfl rfl (WL.pickT rfl rfl rfl (WL.pickF rfl rfl rfl (WL.move rfl rfl (WL.pass rfl rfl rfl rfl (WL.pass rfl rfl rfl rfl (WL.pass rfl rfl rfl rfl (WL.pass rfl rfl rfl rfl (?_))))))))
              refine WL.pass rfl rfl rfl rfl (WL.pass rfl rfl rfl rfl (WL.pass rfl rfl rfl rfl (WL.passU rfl rfl rfl (WL.passU rfl rfl rfl (WL.passU rfl rfl rfl (WL.passU rfl rfl rfl (WL.passU rfl rfl rfl (?_))))))))
              refine WL.passU rfl rfl rfl (WL.pass rfl rfl rfl rfl (WL.pickT rfl rfl rfl (WL.nil (WX.then_normal (WC.cond_true rfl (WC.seq (WC.region (?_))))))))
              refine WL.assign rfl rfl (WL.nil (WX.then_normal (WC.ret (WX.block_ret (WX.then_ret (WX.then_ret (WX.block_ret (?_))))))))
              refine WX.then_ret (?_)
              refine WX.ret1 (.inl rfl) Tryd.results90 rfl ?_
              refine ⟨_, rfl, ?_, hw⟩
              congr 1
              unfold checkE
              by_cases h1 : 2000 < l.length ∨ l.any longI = true
              ·
                rw [if_pos h1]
                all_goals (exfalso; rcases h1 with h8 | h8; omega; rw [hno] at h8; cases h8)
              ·
                rw [if_neg h1]
                first
                  | (exfalso; apply h1; left; omega)
                  | (exfalso; apply h1; right; refine List.any_eq_true.2 ⟨x, List.mem_of_getElem? hx, ?_⟩; simp only [longI, decide_eq_true_eq]; omega)
                  | (by_cases hall' : l.all okI = true
                     ·
                       rw [if_pos hall']
                       all_goals
                         exfalso
                         have h9 := List.all_eq_true.1 hall' x (List.mem_of_getElem? hx)
                         simp only [okI, decide_eq_true_eq] at h9
                         rcases h9 with ⟨h8, h9⟩ | ⟨h8, h9⟩
                         ·
                           first | omega | exact absurd h9 (by assumption)
                         ·
                           omega
                     ·
                       rw [if_neg hall']
                       all_goals
                         exfalso
                         have h9 : l.length ≤ j := by omega
                         rw [List.take_of_length_le h9] at hall
                         exact hall' hall)
            ·
              refine WL.want rfl rfl rfl (WL.pickT rfl rfl rfl (WL.pickF rfl rfl rfl (WL.move rfl rfl (WL.want rfl rfl rfl (WL.move rfl rfl (WL.want rfl rfl rfl (WL.move rfl rfl (?_))))))))
              refine WL.want rfl rfl rfl (?_)
              refine WL.indexT Tryd.underlying23 Tryd.sizeOf31 hr rfl rfl ⟨hx, rfl⟩ rfl ?_
              intro b_4 o_4 hc_4
              refine WL.want rfl rfl rfl (WL.fieldAddr (fld_31_0) rfl rfl (WL.want rfl rfl rfl (WL.load Tryd.isAgg3 rfl (hc_4 _ _ rfl) rfl (WL.want rfl rfl rfl (?_)))))
              refine WL.eql? rfl rfl rfl (fun h71 => ?_) (fun h71 => ?_)
              ·
                refine WL.want rfl rfl rfl (WL.move rfl rfl (WL.want rfl rfl rfl (WL.move rfl rfl (WL.want rfl rfl rfl (WL.move rfl rfl (WL.want rfl rfl rfl (?_)))))))
                refine WL.indexT Tryd.underlying23 Tryd.sizeOf31 hr rfl rfl ⟨hx, rfl⟩ rfl ?_
                intro b_5 o_5 hc_5
                refine WL.want rfl rfl rfl (WL.fieldAddr (fld_31_1) rfl rfl (WL.want rfl rfl rfl (WL.load Tryd.isAgg3 rfl (hc_5 _ _ rfl) rfl (WL.want rfl rfl rfl (?_)))))
                refine WL.neq? rfl rfl rfl (fun h78 => ?_) (fun h78 => ?_)
                ·
                  refine WL.want rfl rfl rfl (WL.pickT rfl rfl rfl (WL.pickF rfl rfl rfl (WL.nil (WX.then_normal (WC.cond_true rfl (WC.seq (WC.region (?_))))))))
                  refine WL.assign rfl rfl (WL.nil (WX.then_normal (WC.ret (WX.block_ret (WX.then_ret (WX.then_ret (WX.block_ret (?_))))))))
                  refine WX.then_ret (?_)
                  refine WX.ret1 (.inl rfl) Tryd.results90 rfl ?_
                  refine ⟨_, rfl, ?_, hw⟩
                  congr 1
                  unfold checkE
                  by_cases h1 : 2000 < l.length ∨ l.any longI = true
                  ·
                    rw [if_pos h1]
                    all_goals (exfalso; rcases h1 with h8 | h8; omega; rw [hno] at h8; cases h8)
                  ·
                    rw [if_neg h1]
                    first
                      | (exfalso; apply h1; left; omega)
                      | (exfalso; apply h1; right; refine List.any_eq_true.2 ⟨x, List.mem_of_getElem? hx, ?_⟩; simp only [longI, decide_eq_true_eq]; omega)
                      | (by_cases hall' : l.all okI = true
                         ·
                           rw [if_pos hall']
                           all_goals
                             exfalso
                             have h9 := List.all_eq_true.1 hall' x (List.mem_of_getElem? hx)
                             simp only [okI, decide_eq_true_eq] at h9
                             rcases h9 with ⟨h8, h9⟩ | ⟨h8, h9⟩
                             ·
                               first | omega | exact absurd h9 (by assumption)
                             ·
                               omega
                         ·
                           rw [if_neg hall']
                           all_goals
                             exfalso
                             have h9 : l.length ≤ j := by omega
                             rw [List.take_of_length_le h9] at hall
                             exact hall' hall)
                ·
                  refine WL.want rfl rfl rfl (WL.pickT rfl rfl rfl (WL.pickF rfl rfl rfl (WL.nil (WX.then_normal (WC.cond_false rfl (WC.skip (WX.block_normal (?_))))))))
                  refine WX.then_normal (WC.region (WL.move rfl rfl (WL.add64 rfl rfl (by first | omega | (constructor <;> omega)) rfl (WL.assign rfl rfl (WL.nil (?_))))))
                  first
                    | (refine WX.loop_next (i + 1) ⟨rfl, rfl, trivial⟩ ⟨by omega, ?_, hw⟩ (by show _ - _ < _ - _; omega)
                       have hx9 : longI x = false := by simp only [longI, decide_eq_false_iff_not]; omega
                       rw [List.take_add_one, hx, List.any_append, hno]
                       simp [hx9])
                    | (refine WX.loop_next (j + 1) ⟨rfl, rfl, trivial⟩ ⟨by omega, ?_, hw⟩ (by show _ - _ < _ - _; omega)
                       have hx9 : okI x = true := by
                         simp only [okI, decide_eq_true_eq]
                         first
                           | exact .inl ⟨by omega, by assumption⟩
                           | exact .inr ⟨by omega, by omega⟩
                       rw [List.take_add_one, hx, List.all_append, hall]
                       simp [hx9])
              ·
                refine WL.want rfl rfl rfl (WL.move rfl rfl (WL.pass rfl rfl rfl rfl (WL.pass rfl rfl rfl rfl (WL.pass rfl rfl rfl rfl (WL.pass rfl rfl rfl rfl (WL.pass rfl rfl rfl rfl (WL.pass rfl rfl rfl rfl (?_))))))))
                refine WL.want rfl rfl rfl (WL.pickF rfl rfl rfl (WL.pickF rfl rfl rfl (WL.nil (WX.then_normal (WC.cond_false rfl (WC.skip (WX.block_normal (?_))))))))
                refine WX.then_normal (WC.region (WL.move rfl rfl (WL.add64 rfl rfl (by first | omega | (constructor <;> omega)) rfl (WL.assign rfl rfl (WL.nil (?_))))))
                first
                  | (refine WX.loop_next (i + 1) ⟨rfl, rfl, trivial⟩ ⟨by omega, ?_, hw⟩ (by show _ - _ < _ - _; omega)
                     have hx9 : longI x = false := by simp only [longI, decide_eq_false_iff_not]; omega
                     rw [List.take_add_one, hx, List.any_append, hno]
                     simp [hx9])
                  | (refine WX.loop_next (j + 1) ⟨rfl, rfl, trivial⟩ ⟨by omega, ?_, hw⟩ (by show _ - _ < _ - _; omega)
                     have hx9 : okI x = true := by
                       simp only [okI, decide_eq_true_eq]
                       first
                         | exact .inl ⟨by omega, by assumption⟩
                         | exact .inr ⟨by omega, by omega⟩
                     rw [List.take_add_one, hx, List.all_append, hall]
                     simp [hx9])
          ·
            refine WL.want rfl rfl rfl (WL.move rfl rfl (WL.pass rfl rfl rfl rfl (WL.pass rfl rfl rfl rfl (WL.pass rfl rfl rfl rfl (WL.pass rfl rfl rfl rfl (WL.pass rfl rfl rfl rfl (WL.pass rfl rfl rfl rfl (?_))))))))
            refine WL.want rfl rfl rfl (WL.pickF rfl rfl rfl (WL.pickF rfl rfl rfl (WL.move rfl rfl (WL.want rfl rfl rfl (WL.move rfl rfl (WL.want rfl rfl rfl (WL.move rfl rfl (?_))))))))
            refine WL.want rfl rfl rfl (?_)
            refine WL.indexT Tryd.underlying23 Tryd.sizeOf31 hr rfl rfl ⟨hx, rfl⟩ rfl ?_
            intro b_3 o_3 hc_3
            refine WL.want rfl rfl rfl (WL.fieldAddr (fld_31_0) rfl rfl (WL.want rfl rfl rfl (WL.load Tryd.isAgg3 rfl (hc_3 _ _ rfl) rfl (WL.want rfl rfl rfl (?_)))))
            refine WL.eql? rfl rfl rfl (fun h71 => ?_) (fun h71 => ?_)
            ·
              refine WL.want rfl rfl rfl (WL.move rfl rfl (WL.want rfl rfl rfl (WL.move rfl rfl (WL.want rfl rfl rfl (WL.move rfl rfl (WL.want rfl rfl rfl (?_)))))))
              refine WL.indexT Tryd.underlying23 Tryd.sizeOf31 hr rfl rfl ⟨hx, rfl⟩ rfl ?_
              intro b_4 o_4 hc_4
              refine WL.want rfl rfl rfl (WL.fieldAddr (fld_31_1) rfl rfl (WL.want rfl rfl rfl (WL.load Tryd.isAgg3 rfl (hc_4 _ _ rfl) rfl (WL.want rfl rfl rfl (?_)))))
              refine WL.neq? rfl rfl rfl (fun h78 => ?_) (fun h78 => ?_)
              ·
                refine WL.want rfl rfl rfl (WL.pickT rfl rfl rfl (WL.pickF rfl rfl rfl (WL.nil (WX.then_normal (WC.cond_true rfl (WC.seq (WC.region (?_))))))))
                refine WL.assign rfl rfl (WL.nil (WX.then_normal (WC.ret (WX.block_ret (WX.then_ret (WX.then_ret (WX.block_ret (?_))))))))
                refine WX.then_ret (?_)
                refine WX.ret1 (.inl rfl) Tryd.results90 rfl ?_
                refine ⟨_, rfl, ?_, hw⟩
                congr 1
                unfold checkE
                by_cases h1 : 2000 < l.length ∨ l.any longI = true
                ·
                  rw [if_pos h1]
                  all_goals (exfalso; rcases h1 with h8 | h8; omega; rw [hno] at h8; cases h8)
                ·
                  rw [if_neg h1]
                  first
                    | (exfalso; apply h1; left; omega)
                    | (exfalso; apply h1; right; refine List.any_eq_true.2 ⟨x, List.mem_of_getElem? hx, ?_⟩; simp only [longI, decide_eq_true_eq]; omega)
                    | (by_cases hall' : l.all okI = true
                       ·
                         rw [if_pos hall']
                         all_goals
                           exfalso
                           have h9 := List.all_eq_true.1 hall' x (List.mem_of_getElem? hx)
                           simp only [okI, decide_eq_true_eq] at h9
                           rcases h9 with ⟨h8, h9⟩ | ⟨h8, h9⟩
                           ·
                             first | omega | exact absurd h9 (by assumption)
                           ·
                             omega
                       ·
                         rw [if_neg hall']
                         all_goals
                           exfalso
                           have h9 : l.length ≤ j := by omega
                           rw [List.take_of_length_le h9] at hall
                           exact hall' hall)
              ·
                refine WL.want rfl rfl rfl (WL.pickT rfl rfl rfl (WL.pickF rfl rfl rfl (WL.nil (WX.then_normal (WC.cond_false rfl (WC.skip (WX.block_normal (?_))))))))
                refine WX.then_normal (WC.region (WL.move rfl rfl (WL.add64 rfl rfl (by first | omega | (constructor <;> omega)) rfl (WL.assign rfl rfl (WL.nil (?_))))))
                first
                  | (refine WX.loop_next (i + 1) ⟨rfl, rfl, trivial⟩ ⟨by omega, ?_, hw⟩ (by show _ - _ < _ - _; omega)
                     have hx9 : longI x = false := by simp only [longI, decide_eq_false_iff_not]; omega
                     rw [List.take_add_one, hx, List.any_append, hno]
                     simp [hx9])
                  | (refine WX.loop_next (j + 1) ⟨rfl, rfl, trivial⟩ ⟨by omega, ?_, hw⟩ (by show _ - _ < _ - _; omega)
                     have hx9 : okI x = true := by
                       simp only [okI, decide_eq_true_eq]
                       first
                         | exact .inl ⟨by omega, by assumption⟩
                         | exact .inr ⟨by omega, by omega⟩
                     rw [List.take_add_one, hx, List.all_append, hall]
                     simp [hx9])
            ·
              refine WL.want rfl rfl rfl (WL.move rfl rfl (WL.pass rfl rfl rfl rfl (WL.pass rfl rfl rfl rfl (WL.pass rfl rfl rfl rfl (WL.pass rfl rfl rfl rfl (WL.pass rfl rfl rfl rfl (WL.pass rfl rfl rfl rfl (?_))))))))
              refine WL.want rfl rfl rfl (WL.pickF rfl rfl rfl (WL.pickF rfl rfl rfl (WL.nil (WX.then_normal (WC.cond_false rfl (WC.skip (WX.block_normal (?_))))))))
              refine WX.then_normal (WC.region (WL.move rfl rfl (WL.add64 rfl rfl (by first | omega | (constructor <;> omega)) rfl (WL.assign rfl rfl (WL.nil (?_))))))
              first
                | (refine WX.loop_next (i + 1) ⟨rfl, rfl, trivial⟩ ⟨by omega, ?_, hw⟩ (by show _ - _ < _ - _; omega)
                   have hx9 : longI x = false := by simp only [longI, decide_eq_false_iff_not]; omega
                   rw [List.take_add_one, hx, List.any_append, hno]
                   simp [hx9])
                | (refine WX.loop_next (j + 1) ⟨rfl, rfl, trivial⟩ ⟨by omega, ?_, hw⟩ (by show _ - _ < _ - _; omega)
                   have hx9 : okI x = true := by
                     simp only [okI, decide_eq_true_eq]
                     first
                       | exact .inl ⟨by omega, by assumption⟩
                       | exact .inr ⟨by omega, by omega⟩
                   rw [List.take_add_one, hx, List.all_append, hall]
                   simp [hx9])
      ·
        refine WL.nil (WX.then_normal (WC.cond_false rfl (WC.exit (WX.then_exit (WX.then_exit (WX.block_here (WX.then_normal (?_))))))))
        refine WC.seq (WC.region (WL.assign rfl rfl (WL.nil (WX.then_normal (WC.ret (?_))))))
        refine WX.ret1 (.inl rfl) Tryd.results90 rfl ?_
        refine ⟨_, rfl, ?_, hw⟩
        congr 1
        unfold checkE
        by_cases h1 : 2000 < l.length ∨ l.any longI = true
        ·
          rw [if_pos h1]
          all_goals (exfalso; rcases h1 with h8 | h8; omega; rw [hno] at h8; cases h8)
        ·
          rw [if_neg h1]
          first
            | (exfalso; apply h1; left; omega)
            | (exfalso; apply h1; right; refine List.any_eq_true.2 ⟨x, List.mem_of_getElem? hx, ?_⟩; simp only [longI, decide_eq_true_eq]; omega)
            | (by_cases hall' : l.all okI = true
               ·
                 rw [if_pos hall']
                 all_goals
                   exfalso
                   have h9 := List.all_eq_true.1 hall' x (List.mem_of_getElem? hx)
                   simp only [okI, decide_eq_true_eq] at h9
                   rcases h9 with ⟨h8, h9⟩ | ⟨h8, h9⟩
                   ·
                     first | omega | exact absurd h9 (by assumption)
                   ·
                     omega
               ·
                 rw [if_neg hall']
                 all_goals
                   exfalso
                   have h9 : l.length ≤ j := by omega
                   rw [List.take_of_length_le h9] at hall
                   exact hall' hall)
end Go.Proofs.YtcdbkfaebgficaaDoor
namespace Go.Proofs.YtcdbkfaebgficaaDoor
open Go.RowKit Go.HL

/-! numbers: the document's count -/
def zig (n : Int) : Nat := if n < 0 then (-2 * n - 1).toNat else (2 * n).toNat
theorem zigU_zig {n : Int} (h : -9223372036854775808 ≤ n ∧ n ≤ 9223372036854775807) : (zigU n).toNat = zig n := by
  unfold zigU zig
  rw [UInt64.toNat_xor, UInt64.toNat_shiftLeft]
  have e1 : (UInt64.ofNat 1).toNat % 64 = 1 := by decide
  rw [e1, Nat.shiftLeft_eq]
  split
  · have e2 : n / 2 ^ 63 = -1 := by omega
    have e3 : (B64 (n / 2 ^ 63)).toNat = 18446744073709551615 := by rw [e2]; decide
    have e4 : (B64 n).toNat = (n + 18446744073709551616).toNat := by simp [B64]; omega
    rw [e3, e4]
    have e5 : (n + 18446744073709551616).toNat * 2 ^ 1 % 2 ^ 64 = (2 * n + 18446744073709551616).toNat := by omega
    rw [e5]
    have hlt : (2 * n + 18446744073709551616).toNat < 2 ^ 64 := by omega
    have e6 : (2 * n + 18446744073709551616).toNat ^^^ 18446744073709551615 = 18446744073709551615 - (2 * n + 18446744073709551616).toNat := by
      have := BitVec.toNat_not (x := BitVec.ofNat 64 (2 * n + 18446744073709551616).toNat)
      rw [BitVec.toNat_ofNat, Nat.mod_eq_of_lt hlt] at this
      rw [← BitVec.xor_allOnes, BitVec.toNat_xor, BitVec.toNat_ofNat, Nat.mod_eq_of_lt hlt, BitVec.toNat_allOnes] at this
      exact this
    rw [e6]
    omega
  · have e2 : n / 2 ^ 63 = 0 := by omega
    have e3 : (B64 (n / 2 ^ 63)).toNat = 0 := by rw [e2]; decide
    have e4 : (B64 n).toNat = n.toNat := by simp [B64]; omega
    rw [e3, e4, Nat.xor_zero]
    omega
theorem told_calls {n : Int} (w : World) (h : -9223372036854775808 ≤ n ∧ n ≤ 9223372036854775807) : Calls Tryd.prog 113 [vi n].toArray w (Ret fun v w' => (∃ u : UInt64, v = v64 u ∧ u.toNat = zig n) ∧ Chg Nob w w') := by
  have hw := Chg.refl Nob w
  refine Calls.of_WC Tryd.func113 rfl Tryd.ntmps113 (by simp) ?_
  refine WC.seq (WC.region (WL.assign rfl rfl (WL.nil (WX.then_normal (WC.seq (WC.seq (WC.region (?_))))))))
  refine WL.move rfl rfl (?_)
  refine WL.lss? rfl rfl rfl (fun h4 => ?_) (fun h4 => ?_)
  ·
    refine WL.nil (WX.then_normal (WC.cond_true rfl (WC.seq (WC.region (WL.move rfl rfl (WL.add64 rfl rfl (by first | omega | (constructor <;> omega)) rfl (WL.neg64 rfl (by first | omega | (constructor <;> omega)) rfl (?_))))))))
    refine WL.c_i64_u64 Tryd.underlying3 Tryd.underlying41 rfl rfl (WL.num rfl rfl (n_mul64 _ _ 2 _) rfl (WL.num rfl rfl (n_add64 _ _ _ 1) rfl (WL.assign rfl rfl (WL.nil (WX.then_normal (WC.ret (WX.then_ret (?_))))))))
    refine WX.ret1 (.inl rfl) Tryd.results113 rfl ?_
    refine ⟨_, rfl, ⟨_, rfl, ?_⟩, hw⟩
    unfold zig
    first
      | (rw [if_pos h4]
         have e4 : (B64 (-(n + 1))).toNat = (-(n + 1)).toNat := by simp [B64]; omega
         simp only [UInt64.toNat_add, UInt64.toNat_mul, e4]
         simp
         omega)
      | (rw [if_neg (Int.not_lt.2 h4)]
         have e4 : (B64 n).toNat = n.toNat := by simp [B64]; omega
         simp only [UInt64.toNat_mul, e4]
         simp
         omega)
  ·
    refine WL.nil (WX.then_normal (WC.cond_false rfl (WC.skip (WX.then_normal (WC.seq (WC.region (WL.move rfl rfl (?_))))))))
    refine WL.c_i64_u64 Tryd.underlying3 Tryd.underlying41 rfl rfl (WL.num rfl rfl (n_mul64 _ _ 2 _) rfl (WL.assign rfl rfl (WL.nil (WX.then_normal (WC.ret (?_))))))
    refine WX.ret1 (.inl rfl) Tryd.results113 rfl ?_
    refine ⟨_, rfl, ⟨_, rfl, ?_⟩, hw⟩
    unfold zig
    first
      | (rw [if_pos h4]
         have e4 : (B64 (-(n + 1))).toNat = (-(n + 1)).toNat := by simp [B64]; omega
         simp only [UInt64.toNat_add, UInt64.toNat_mul, e4]
         simp
         omega)
      | (rw [if_neg (Int.not_lt.2 h4)]
         have e4 : (B64 n).toNat = n.toNat := by simp [B64]; omega
         simp only [UInt64.toNat_mul, e4]
         simp
         omega)
theorem rcount_calls (n : UInt64) (w : World) : Calls Tryd.prog 112 [v64 n].toArray w (Ret fun v w' => v = .string ⟨(cnt n.toNat).toArray⟩ ∧ Chg Nob w w') := by
  refine Calls.of_WC Tryd.func112 rfl Tryd.ntmps112 (by simp) ?_
  refine WC.seq (WC.region (WL.assign rfl rfl (WL.nil (WX.then_normal (WC.seq (WC.region (WL.assign rfl rfl (?_))))))))
  refine WL.nil (WX.then_normal (WC.seq (WC.block (?_))))
  refine WC.loop (σ := List UInt8 × Option Addr × Nat × UInt64) (fun s => [(3, .slice s.2.1 s.1.length s.2.2.1), (0, v64 s.2.2.2)])
    (fun s w' => s.1 ++ cnt s.2.2.2.toNat = cnt n.toNat ∧ Row (w.heap.size ≤ ·) w' 5 eb s.2.1 s.2.2.1 s.1 ∧ Chg Nob w w') (fun s => s.2.2.2.toNat) ([], none, 0, n) ⟨rfl, rfl, trivial⟩ ⟨rfl, Row.nil _ _ _ _, Chg.refl _ _⟩ ?_
  rintro ⟨ys, a1, c1, m⟩ w1 ⟨he, hq, hw⟩
  dsimp only at he hq hw ⊢
  have hlen : ys.length ≤ 10 := by
    have h1 := congrArg List.length he
    have h2 := cnt_len64 n
    simp only [List.length_append] at h1
    omega
  have zw := hw.size
  refine WC.seq (WC.seq (WC.region (WL.move rfl rfl (?_))))
  refine WL.geq? rfl rfl rfl (fun h5 => ?_) (fun h5 => ?_)
  ·
    refine WL.nil (WX.then_normal (WC.cond_true rfl (WC.skip (WX.then_normal (WC.block (WC.seq (WC.region (?_))))))))
    refine WL.move rfl rfl (WL.move rfl rfl (WL.num rfl rfl (n_rem64 _ _ _ 128 (by decide)) rfl (WL.num rfl rfl (n_add64 _ _ 128 _) rfl (WL.c_u64_u8 Tryd.underlying41 Tryd.underlying5 rfl rfl (?_)))))
    refine WL.build (e := eb) [(128 + m % 128).toUInt8] Tryd.underlying22 Tryd.sizeOf5 Tryd.zeroValue5 rfl rfl rfl (by first | (simp [Value.cells]; done) | (simp [Value.cells] <;> rfl) | (simp [Value.cells, eb, ei, es, ebool, e32, e64]; done)) (by decide) rfl ?_
    intro a_hn w_hn hn l_hn z_hn k_hn
    have zs_k_hn := k_hn.size
    replace hq := hq.pure k_hn
    replace hw := hw.pure k_hn
    refine WL.append (e := eb) info_5 rfl Tryd.underlying22 rfl rfl hq (hn.rsl.src Tryd.underlying22) (by (try simp only [List.length_append, List.length_cons, List.length_nil] at *); omega) (by intro b hb; first | (apply hS; omega) | ((try dsimp only); omega)) rfl ?_
    intro a_hq2 c_hq2 w_hq2 hq2 g_hq2 n_hq2
    have z_hq2 := g_hq2.chg.size
    have zs_g_hq2_chg := g_hq2.chg.size
    replace hw := hw.chg g_hq2.chg (by first | (intro x h1 h2; exact h2) | (intro x h0 h1 h2; exact hS x h1 h2) | (intro x h0 h1 h2; have h3 : _ = _ := h2; subst h3; exact hSR h1.1) | (intro x h1 h2; have h3 : _ = _ := h2; subst h3; assumption) | (intro x h1 h2; have h3 : _ = _ := h2; exfalso; omega) | (intro b h1 h2 h3; have h4 : _ = _ := h3; (try dsimp only at h2); exfalso; omega) | (intro h1; have h2 : _ = _ := h1; exfalso; omega) | (intro h1; have h2 : _ ≤ _ := h1; exfalso; omega) | (intros; exfalso; (try dsimp only at *); omega) | (intro b h1 h2 h3; exfalso; have h4 := h3.2; (try dsimp only at *); omega) | (intro h1; exfalso; have h4 := h1.2; (try dsimp only at *); omega) | (intro x h1 h2; exfalso; have h4 := h2.2; (try dsimp only at *); omega) | (intro x h1 h2; exact ⟨_, rfl, h2⟩) | (intro x h1 h2; have h4 := h2.1; have h5 := h2.2; exfalso; omega) | (intro x h1 h2; exact h2.1) | (intro x h1 h2; rcases h2.1 with h3 | h3; exact h3; exfalso; omega) | (intro x h1 h2; rcases h2 with h3 | h3; exact h3; exfalso; omega))
    refine WL.assign rfl rfl (WL.nil (WX.then_normal (WC.region (WL.move rfl rfl (WL.num rfl rfl (n_quo64 _ _ _ 128 (by decide)) rfl (WL.assign rfl rfl (WL.nil (?_))))))))
    refine WX.block_normal (?_)
    have hm : (m / 128).toNat = m.toNat / 128 := by simp
    have hb : (128 + m % 128).toUInt8 = UInt8.ofNat (m.toNat % 128 + 128) := by
      apply UInt8.toNat_inj.1
      simp
      omega
    refine WX.loop_next (ys ++ [(128 + m % 128).toUInt8], a_hq2, c_hq2, m / 128) ⟨rfl, rfl, trivial⟩ ⟨?_, hq2, hw⟩ ?_
    ·
      dsimp only
      rw [← he, hm, cnt_big (n := m.toNat) (by omega), hb]
      simp
    ·
      show (m / 128).toNat < m.toNat
      rw [hm]; omega
  ·
    refine WL.nil (WX.then_normal (WC.cond_false rfl (WC.exit (WX.then_exit (WX.then_exit (WX.block_here (WX.then_normal (?_))))))))
    refine WC.seq (WC.region (WL.move rfl rfl (WL.move rfl rfl (WL.c_u64_u8 Tryd.underlying41 Tryd.underlying5 rfl rfl (?_)))))
    refine WL.build (e := eb) [m.toUInt8] Tryd.underlying22 Tryd.sizeOf5 Tryd.zeroValue5 rfl rfl rfl (by first | (simp [Value.cells]; done) | (simp [Value.cells] <;> rfl) | (simp [Value.cells, eb, ei, es, ebool, e32, e64]; done)) (by decide) rfl ?_
    intro a_hn w_hn hn l_hn z_hn k_hn
    have zs_k_hn := k_hn.size
    replace hq := hq.pure k_hn
    replace hw := hw.pure k_hn
    refine WL.append (e := eb) info_5 rfl Tryd.underlying22 rfl rfl hq (hn.rsl.src Tryd.underlying22) (by (try simp only [List.length_append, List.length_cons, List.length_nil] at *); omega) (by intro b hb; first | (apply hS; omega) | ((try dsimp only); omega)) rfl ?_
    intro a_hq2 c_hq2 w_hq2 hq2 g_hq2 n_hq2
    have z_hq2 := g_hq2.chg.size
    have zs_g_hq2_chg := g_hq2.chg.size
    replace hw := hw.chg g_hq2.chg (by first | (intro x h1 h2; exact h2) | (intro x h0 h1 h2; exact hS x h1 h2) | (intro x h0 h1 h2; have h3 : _ = _ := h2; subst h3; exact hSR h1.1) | (intro x h1 h2; have h3 : _ = _ := h2; subst h3; assumption) | (intro x h1 h2; have h3 : _ = _ := h2; exfalso; omega) | (intro b h1 h2 h3; have h4 : _ = _ := h3; (try dsimp only at h2); exfalso; omega) | (intro h1; have h2 : _ = _ := h1; exfalso; omega) | (intro h1; have h2 : _ ≤ _ := h1; exfalso; omega) | (intros; exfalso; (try dsimp only at *); omega) | (intro b h1 h2 h3; exfalso; have h4 := h3.2; (try dsimp only at *); omega) | (intro h1; exfalso; have h4 := h1.2; (try dsimp only at *); omega) | (intro x h1 h2; exfalso; have h4 := h2.2; (try dsimp only at *); omega) | (intro x h1 h2; exact ⟨_, rfl, h2⟩) | (intro x h1 h2; have h4 := h2.1; have h5 := h2.2; exfalso; omega) | (intro x h1 h2; exact h2.1) | (intro x h1 h2; rcases h2.1 with h3 | h3; exact h3; exfalso; omega) | (intro x h1 h2; rcases h2 with h3 | h3; exact h3; exfalso; omega))
    refine WL.toStr Tryd.underlying22 Tryd.underlying5 Tryd.underlying9 hq2.rsl rfl rfl (WL.assign rfl rfl (WL.nil (WX.then_normal (WC.ret (?_)))))
    refine WX.ret1 (.inl rfl) Tryd.results112 rfl ?_
    refine ⟨_, rfl, ?_, hw⟩
    have hx : cnt n.toNat = ys ++ [m.toUInt8] := by
      rw [← he, cnt_small (by omega)]; rfl
    rw [hx]
def RIt (i : Item) : Prop := -9223372036854775808 ≤ i.n ∧ i.n ≤ 9223372036854775807
/-- the document's bytes of an item -/
def renc1 (i : Item) : List UInt8 := if i.kind = 1 then 1 :: cnt (zig i.n) else 2 :: (cnt i.s.size ++ i.s.data.toList)
theorem renc1_eq {i : Item} (h : okI i = true) (hr : RIt i) : renc1 i = enc1 i := by
  unfold renc1 enc1
  simp only [okI, decide_eq_true_eq] at h
  split
  · rename_i h1
    rw [zigU_zig hr, h1]
    rfl
  · have h1 : i.kind = 2 := by omega
    rw [h1]
    rfl
theorem rencode_calls {w : World} {ao : Option Addr} {c : Nat} {l : List Item} (hr : RSl (· < w.heap.size) w eit ao c l) (hl : l.length ≤ 2000) (hok : ∀ i ∈ l, longI i = false ∧ okI i = true) (hwf : ∀ i ∈ l, RIt i) :
    Calls Tryd.prog 91 [.slice ao l.length c].toArray w (Ret fun v w' => v = .string ⟨(encAll l).toArray⟩ ∧ Chg Nob w w') := by
  refine Calls.of_WC Tryd.func91 rfl Tryd.ntmps91 (by simp) ?_
  refine WC.seq (WC.region (WL.assign rfl rfl (WL.nil (WX.then_normal (WC.seq (WC.region (WL.assign rfl rfl (?_))))))))
  refine WL.nil (WX.then_normal (WC.seq (WC.seq (WC.region (WL.assign rfl rfl (WL.nil (WX.then_normal (?_))))))))
  refine WC.block (?_)
  refine WC.loop (σ := Nat × Option Addr × Nat) (fun s => [(3, .slice s.2.1 (encAll (l.take s.1)).length s.2.2), (0, .slice ao l.length c), (4, vi s.1)])
    (fun s w' => s.1 ≤ l.length ∧ Row (w.heap.size ≤ ·) w' 5 eb s.2.1 s.2.2 (encAll (l.take s.1)) ∧ Chg Nob w w' ∧ RSl (· < w.heap.size) w' eit ao c l) (fun s => l.length - s.1) (0, none, 0) ⟨rfl, rfl, rfl, trivial⟩ ⟨Nat.zero_le _, Row.nil _ _ _ _, Chg.refl _ _, hr⟩ ?_
  clear hr
  rintro ⟨i, a1, c1⟩ w2 ⟨hi, hb, hw, hr⟩
  dsimp only at hi hb hw hr ⊢
  have zw := hw.size
  have hel := encAll_len (l := l.take i) (fun j hj => hok j (List.mem_of_mem_take hj))
  have hlt := List.length_take_le i l
  refine WC.seq (WC.seq (WC.region (WL.move rfl rfl (WL.move rfl rfl (WL.len Tryd.underlying23 rfl rfl (?_))))))
  refine WL.lss? rfl rfl rfl (fun h8 => ?_) (fun h8 => ?_)
  ·
    refine WL.nil (WX.then_normal (WC.cond_true rfl (WC.skip (WX.then_normal (WC.seq (WC.block (WC.seq (?_))))))))
    refine WC.region (WL.move rfl rfl (WL.move rfl rfl (?_)))
    obtain ⟨x, hx⟩ : ∃ x, l[i]? = some x := ⟨_, List.getElem?_eq_getElem (by omega)⟩
    have hx2 := hok x (List.mem_of_getElem? hx)
    have hxr := hwf x (List.mem_of_getElem? hx)
    have hx3 : encAll (l.take (i + 1)) = encAll (l.take i) ++ renc1 x := by rw [List.take_add_one, hx, renc1_eq hx2.2 hxr]; exact encAll_snoc _ _
    obtain ⟨bp, op, rfl⟩ := hr.place hx
    refine WL.indexT Tryd.underlying23 Tryd.sizeOf31 hr rfl rfl ⟨hx, rfl⟩ rfl ?_
    intro b_1 o_1 hc_1
    refine WL.fieldAddr (fld_31_0) rfl rfl (WL.load Tryd.isAgg3 rfl (hc_1 _ _ rfl) rfl (?_))
    refine WL.eql? rfl rfl rfl (fun h16 => ?_) (fun h16 => ?_)
    ·
      refine WL.nil (WX.then_normal (WC.cond_true rfl (?_)))
      refine WC.draw (fun b => Eqb a1 b ∧ (fun b => w.heap.size ≤ b) b) [0, 3, 4, 5, 6, 7] [1, 2, 8, 9, 10, 11] mixed rfl rfl (fun wd_2 kd_2 zd_2 => ?_)
      have zs_kd_2 := kd_2.size
      replace hr := hr.pure kd_2
      replace hb := hb.pure kd_2
      replace hw := hw.pure kd_2
      apply DQ.step (E' := [(3, _)])
      case ho => rfl
      case hs => exact ⟨rfl, trivial⟩
      case hk => rfl
      case h1 =>
        intro wq_4 kq_4
        refine WL.move rfl rfl (?_)
        refine WL.nil ?_
        exact WX.one ⟨rfl, by first | exact Chg.refl _ _ | assumption⟩
      apply DQ.step (E' := [(0, _)])
      case ho => rfl
      case hs => exact ⟨rfl, trivial⟩
      case hk => rfl
      case h1 =>
        intro wq_5 kq_5
        refine WL.move rfl rfl (?_)
        refine WL.nil ?_
        exact WX.one ⟨rfl, by first | exact Chg.refl _ _ | assumption⟩
      apply DQ.step (E' := [(4, _)])
      case ho => rfl
      case hs => exact ⟨rfl, trivial⟩
      case hk => rfl
      case h1 =>
        intro wq_6 kq_6
        refine WL.move rfl rfl (?_)
        refine WL.nil ?_
        exact WX.one ⟨rfl, by first | exact Chg.refl _ _ | assumption⟩
      apply DQ.step (E' := [(20, _), (21, _)])
      case ho => rfl
      case hs => exact ⟨rfl, rfl, trivial⟩
      case hk => rfl
      case h1 =>
        intro wq_7 kq_7
        have zs_kq_7 := kq_7.size
        replace hr := hr.chg kq_7 (by first | (intro x h1 h2; exact h2) | (intro x h0 h1 h2; exact hS x h1 h2) | (intro x h0 h1 h2; have h3 : _ = _ := h2; subst h3; exact hSR h1.1) | (intro x h1 h2; have h3 : _ = _ := h2; subst h3; assumption) | (intro x h1 h2; have h3 : _ = _ := h2; exfalso; omega) | (intro b h1 h2 h3; have h4 : _ = _ := h3; (try dsimp only at h2); exfalso; omega) | (intro h1; have h2 : _ = _ := h1; exfalso; omega) | (intro h1; have h2 : _ ≤ _ := h1; exfalso; omega) | (intros; exfalso; (try dsimp only at *); omega) | (intro b h1 h2 h3; exfalso; have h4 := h3.2; (try dsimp only at *); omega) | (intro h1; exfalso; have h4 := h1.2; (try dsimp only at *); omega) | (intro x h1 h2; exfalso; have h4 := h2.2; (try dsimp only at *); omega) | (intro x h1 h2; exact ⟨_, rfl, h2⟩) | (intro x h1 h2; have h4 := h2.1; have h5 := h2.2; exfalso; omega) | (intro x h1 h2; exact h2.1) | (intro x h1 h2; rcases h2.1 with h3 | h3; exact h3; exfalso; omega) | (intro x h1 h2; rcases h2 with h3 | h3; exact h3; exfalso; omega))
        replace hw := hw.chg kq_7 (by first | (intro x h1 h2; exact h2) | (intro x h0 h1 h2; exact hS x h1 h2) | (intro x h0 h1 h2; have h3 : _ = _ := h2; subst h3; exact hSR h1.1) | (intro x h1 h2; have h3 : _ = _ := h2; subst h3; assumption) | (intro x h1 h2; have h3 : _ = _ := h2; exfalso; omega) | (intro b h1 h2 h3; have h4 : _ = _ := h3; (try dsimp only at h2); exfalso; omega) | (intro h1; have h2 : _ = _ := h1; exfalso; omega) | (intro h1; have h2 : _ ≤ _ := h1; exfalso; omega) | (intros; exfalso; (try dsimp only at *); omega) | (intro b h1 h2 h3; exfalso; have h4 := h3.2; (try dsimp only at *); omega) | (intro h1; exfalso; have h4 := h1.2; (try dsimp only at *); omega) | (intro x h1 h2; exfalso; have h4 := h2.2; (try dsimp only at *); omega) | (intro x h1 h2; exact ⟨_, rfl, h2⟩) | (intro x h1 h2; have h4 := h2.1; have h5 := h2.2; exfalso; omega) | (intro x h1 h2; exact h2.1) | (intro x h1 h2; rcases h2.1 with h3 | h3; exact h3; exfalso; omega) | (intro x h1 h2; rcases h2 with h3 | h3; exact h3; exfalso; omega))
        refine WL.indexC hr Tryd.underlying23 Tryd.sizeOf31 rfl rfl ⟨hx, rfl⟩ rfl ?_
        refine WL.nil ?_
        exact WX.one ⟨rfl, by first | exact Chg.refl _ _ | assumption⟩
      apply DQ.step (E' := [(22, _)])
      case ho => rfl
      case hs => exact ⟨rfl, trivial⟩
      case hk => rfl
      case h1 =>
        intro wq_8 kq_8
        refine WL.fieldAddr (fld_31_1) rfl rfl (?_)
        refine WL.nil ?_
        exact WX.one ⟨rfl, by first | exact Chg.refl _ _ | assumption⟩
      apply DQ.step (E' := [(23, _)])
      case ho => rfl
      case hs => exact ⟨rfl, trivial⟩
      case hk => rfl
      case h1 =>
        intro wq_9 kq_9
        have zs_kq_9 := kq_9.size
        replace hr := hr.chg kq_9 (by first | (intro x h1 h2; exact h2) | (intro x h0 h1 h2; exact hS x h1 h2) | (intro x h0 h1 h2; have h3 : _ = _ := h2; subst h3; exact hSR h1.1) | (intro x h1 h2; have h3 : _ = _ := h2; subst h3; assumption) | (intro x h1 h2; have h3 : _ = _ := h2; exfalso; omega) | (intro b h1 h2 h3; have h4 : _ = _ := h3; (try dsimp only at h2); exfalso; omega) | (intro h1; have h2 : _ = _ := h1; exfalso; omega) | (intro h1; have h2 : _ ≤ _ := h1; exfalso; omega) | (intros; exfalso; (try dsimp only at *); omega) | (intro b h1 h2 h3; exfalso; have h4 := h3.2; (try dsimp only at *); omega) | (intro h1; exfalso; have h4 := h1.2; (try dsimp only at *); omega) | (intro x h1 h2; exfalso; have h4 := h2.2; (try dsimp only at *); omega) | (intro x h1 h2; exact ⟨_, rfl, h2⟩) | (intro x h1 h2; have h4 := h2.1; have h5 := h2.2; exfalso; omega) | (intro x h1 h2; exact h2.1) | (intro x h1 h2; rcases h2.1 with h3 | h3; exact h3; exfalso; omega) | (intro x h1 h2; rcases h2 with h3 | h3; exact h3; exfalso; omega))
        replace hw := hw.chg kq_9 (by first | (intro x h1 h2; exact h2) | (intro x h0 h1 h2; exact hS x h1 h2) | (intro x h0 h1 h2; have h3 : _ = _ := h2; subst h3; exact hSR h1.1) | (intro x h1 h2; have h3 : _ = _ := h2; subst h3; assumption) | (intro x h1 h2; have h3 : _ = _ := h2; exfalso; omega) | (intro b h1 h2 h3; have h4 : _ = _ := h3; (try dsimp only at h2); exfalso; omega) | (intro h1; have h2 : _ = _ := h1; exfalso; omega) | (intro h1; have h2 : _ ≤ _ := h1; exfalso; omega) | (intros; exfalso; (try dsimp only at *); omega) | (intro b h1 h2 h3; exfalso; have h4 := h3.2; (try dsimp only at *); omega) | (intro h1; exfalso; have h4 := h1.2; (try dsimp only at *); omega) | (intro x h1 h2; exfalso; have h4 := h2.2; (try dsimp only at *); omega) | (intro x h1 h2; exact ⟨_, rfl, h2⟩) | (intro x h1 h2; have h4 := h2.1; have h5 := h2.2; exfalso; omega) | (intro x h1 h2; exact h2.1) | (intro x h1 h2; rcases h2.1 with h3 | h3; exact h3; exfalso; omega) | (intro x h1 h2; rcases h2 with h3 | h3; exact h3; exfalso; omega))
        refine WL.load Tryd.isAgg3 rfl ((hr.cellsAt hx) _ _ rfl) rfl (?_)
        refine WL.nil ?_
        exact WX.one ⟨rfl, by first | exact Chg.refl _ _ | assumption⟩
      refine DQ.doneG (S := fun b => w.heap.size ≤ b) (a := a1) (fun hd_3 => ?_)
      refine DL.step [] rfl trivial rfl (fun wq_10 kq_10 => ?_)
      have zs_kq_10 := kq_10.size
      replace hd_3 := hd_3.pure kq_10
      replace hr := hr.pure kq_10
      replace hb := hb.pure kq_10
      replace hw := hw.pure kq_10
      refine WL.build (e := eb) [1] Tryd.underlying22 Tryd.sizeOf5 Tryd.zeroValue5 rfl rfl rfl (by first | (simp [Value.cells]; done) | (simp [Value.cells] <;> rfl) | (simp [Value.cells, eb, ei, es, ebool, e32, e64]; done)) (by decide) rfl ?_
      intro a_hq w_hq hq l_hq z_hq k_hq
      have zs_k_hq := k_hq.size
      replace hd_3 := hd_3.pure k_hq
      replace hr := hr.pure k_hq
      replace hb := hb.pure k_hq
      replace hw := hw.pure k_hq
      refine WL.nil ?_
      refine WX.one ⟨hd_3.chg, ?_⟩
      refine DL.step [(17, _), (18, _)] rfl ⟨rfl, rfl, trivial⟩ rfl (fun wq_11 kq_11 => ?_)
      have zs_kq_11 := kq_11.size
      replace hd_3 := hd_3.pure kq_11
      replace hr := hr.pure kq_11
      replace hb := hb.pure kq_11
      replace hw := hw.pure kq_11
      replace hq := hq.pure kq_11
      refine WL.append (e := eb) info_5 rfl Tryd.underlying22 rfl rfl hb (hq.rsl.src Tryd.underlying22) (by (try simp only [List.length_append, List.length_cons, List.length_nil] at *); omega) (by intro b hb; first | (apply hS; omega) | ((try dsimp only); omega)) rfl ?_
      intro a_hb2 c_hb2 w_hb2 hb2 g_hb2 n_hb2
      have z_hb2 := g_hb2.chg.size
      replace hd_3 := hd_3.trans g_hb2
      have zs_g_hb2_chg := g_hb2.chg.size
      replace hr := hr.chg g_hb2.chg (by first | (intro x h1 h2; exact h2) | (intro x h0 h1 h2; exact hS x h1 h2) | (intro x h0 h1 h2; have h3 : _ = _ := h2; subst h3; exact hSR h1.1) | (intro x h1 h2; have h3 : _ = _ := h2; subst h3; assumption) | (intro x h1 h2; have h3 : _ = _ := h2; exfalso; omega) | (intro b h1 h2 h3; have h4 : _ = _ := h3; (try dsimp only at h2); exfalso; omega) | (intro h1; have h2 : _ = _ := h1; exfalso; omega) | (intro h1; have h2 : _ ≤ _ := h1; exfalso; omega) | (intros; exfalso; (try dsimp only at *); omega) | (intro b h1 h2 h3; exfalso; have h4 := h3.2; (try dsimp only at *); omega) | (intro h1; exfalso; have h4 := h1.2; (try dsimp only at *); omega) | (intro x h1 h2; exfalso; have h4 := h2.2; (try dsimp only at *); omega) | (intro x h1 h2; exact ⟨_, rfl, h2⟩) | (intro x h1 h2; have h4 := h2.1; have h5 := h2.2; exfalso; omega) | (intro x h1 h2; exact h2.1) | (intro x h1 h2; rcases h2.1 with h3 | h3; exact h3; exfalso; omega) | (intro x h1 h2; rcases h2 with h3 | h3; exact h3; exfalso; omega))
      replace hw := hw.chg g_hb2.chg (by first | (intro x h1 h2; exact h2) | (intro x h0 h1 h2; exact hS x h1 h2) | (intro x h0 h1 h2; have h3 : _ = _ := h2; subst h3; exact hSR h1.1) | (intro x h1 h2; have h3 : _ = _ := h2; subst h3; assumption) | (intro x h1 h2; have h3 : _ = _ := h2; exfalso; omega) | (intro b h1 h2 h3; have h4 : _ = _ := h3; (try dsimp only at h2); exfalso; omega) | (intro h1; have h2 : _ = _ := h1; exfalso; omega) | (intro h1; have h2 : _ ≤ _ := h1; exfalso; omega) | (intros; exfalso; (try dsimp only at *); omega) | (intro b h1 h2 h3; exfalso; have h4 := h3.2; (try dsimp only at *); omega) | (intro h1; exfalso; have h4 := h1.2; (try dsimp only at *); omega) | (intro x h1 h2; exfalso; have h4 := h2.2; (try dsimp only at *); omega) | (intro x h1 h2; exact ⟨_, rfl, h2⟩) | (intro x h1 h2; have h4 := h2.1; have h5 := h2.2; exfalso; omega) | (intro x h1 h2; exact h2.1) | (intro x h1 h2; rcases h2.1 with h3 | h3; exact h3; exfalso; omega) | (intro x h1 h2; rcases h2 with h3 | h3; exact h3; exfalso; omega))
      refine WL.nil ?_
      refine WX.one ⟨hd_3.chg, ?_⟩
      refine DL.step [(24, _)] rfl ⟨rfl, trivial⟩ rfl (fun wq_12 kq_12 => ?_)
      have zs_kq_12 := kq_12.size
      replace hd_3 := hd_3.pure kq_12
      replace hr := hr.pure kq_12
      replace hw := hw.pure kq_12
      replace hb2 := hb2.pure kq_12
      refine WL.call eg_113 rfl rfl (told_calls _ hxr) ?_
      rintro v w4 ⟨⟨u, rfl, hu⟩, k4⟩
      have zs_k4 := k4.size
      replace hd_3 := hd_3.pure k4
      replace hr := hr.pure k4
      replace hw := hw.pure k4
      replace hb2 := hb2.pure k4
      refine WL.nil ?_
      refine WX.one ⟨hd_3.chg, ?_⟩
      refine DL.step [(25, _)] rfl ⟨rfl, trivial⟩ rfl (fun wq_13 kq_13 => ?_)
      have zs_kq_13 := kq_13.size
      replace hd_3 := hd_3.pure kq_13
      replace hr := hr.pure kq_13
      replace hw := hw.pure kq_13
      replace hb2 := hb2.pure kq_13
      have hcl := cnt_len64 u
      refine WL.call eg_112 rfl rfl (rcount_calls u _) ?_
      rintro v w5 ⟨rfl, k5⟩
      have zs_k5 := k5.size
      replace hd_3 := hd_3.pure k5
      replace hr := hr.pure k5
      replace hw := hw.pure k5
      replace hb2 := hb2.pure k5
      refine WL.nil ?_
      refine WX.one ⟨hd_3.chg, ?_⟩
      refine DL.step [(19, _), (26, _)] rfl ⟨rfl, rfl, trivial⟩ rfl (fun wq_14 kq_14 => ?_)
      have zs_kq_14 := kq_14.size
      replace hd_3 := hd_3.pure kq_14
      replace hr := hr.pure kq_14
      replace hw := hw.pure kq_14
      replace hb2 := hb2.pure kq_14
      refine WL.append (e := eb) info_5 rfl Tryd.underlying22 rfl rfl hb2 (src_string _ Tryd.underlying9) (by (try simp only [List.length_append, List.length_cons, List.length_nil] at *); omega) (by intro b hb; first | (apply hS; omega) | ((try dsimp only); omega)) rfl ?_
      intro a_hb3 c_hb3 w_hb3 hb3 g_hb3 n_hb3
      have z_hb3 := g_hb3.chg.size
      replace hd_3 := hd_3.trans g_hb3
      have zs_g_hb3_chg := g_hb3.chg.size
      replace hr := hr.chg g_hb3.chg (by first | (intro x h1 h2; exact h2) | (intro x h0 h1 h2; exact hS x h1 h2) | (intro x h0 h1 h2; have h3 : _ = _ := h2; subst h3; exact hSR h1.1) | (intro x h1 h2; have h3 : _ = _ := h2; subst h3; assumption) | (intro x h1 h2; have h3 : _ = _ := h2; exfalso; omega) | (intro b h1 h2 h3; have h4 : _ = _ := h3; (try dsimp only at h2); exfalso; omega) | (intro h1; have h2 : _ = _ := h1; exfalso; omega) | (intro h1; have h2 : _ ≤ _ := h1; exfalso; omega) | (intros; exfalso; (try dsimp only at *); omega) | (intro b h1 h2 h3; exfalso; have h4 := h3.2; (try dsimp only at *); omega) | (intro h1; exfalso; have h4 := h1.2; (try dsimp only at *); omega) | (intro x h1 h2; exfalso; have h4 := h2.2; (try dsimp only at *); omega) | (intro x h1 h2; exact ⟨_, rfl, h2⟩) | (intro x h1 h2; have h4 := h2.1; have h5 := h2.2; exfalso; omega) | (intro x h1 h2; exact h2.1) | (intro x h1 h2; rcases h2.1 with h3 | h3; exact h3; exfalso; omega) | (intro x h1 h2; rcases h2 with h3 | h3; exact h3; exfalso; omega))
      replace hw := hw.chg g_hb3.chg (by first | (intro x h1 h2; exact h2) | (intro x h0 h1 h2; exact hS x h1 h2) | (intro x h0 h1 h2; have h3 : _ = _ := h2; subst h3; exact hSR h1.1) | (intro x h1 h2; have h3 : _ = _ := h2; subst h3; assumption) | (intro x h1 h2; have h3 : _ = _ := h2; exfalso; omega) | (intro b h1 h2 h3; have h4 : _ = _ := h3; (try dsimp only at h2); exfalso; omega) | (intro h1; have h2 : _ = _ := h1; exfalso; omega) | (intro h1; have h2 : _ ≤ _ := h1; exfalso; omega) | (intros; exfalso; (try dsimp only at *); omega) | (intro b h1 h2 h3; exfalso; have h4 := h3.2; (try dsimp only at *); omega) | (intro h1; exfalso; have h4 := h1.2; (try dsimp only at *); omega) | (intro x h1 h2; exfalso; have h4 := h2.2; (try dsimp only at *); omega) | (intro x h1 h2; exact ⟨_, rfl, h2⟩) | (intro x h1 h2; have h4 := h2.1; have h5 := h2.2; exfalso; omega) | (intro x h1 h2; exact h2.1) | (intro x h1 h2; rcases h2.1 with h3 | h3; exact h3; exfalso; omega) | (intro x h1 h2; rcases h2 with h3 | h3; exact h3; exfalso; omega))
      refine WL.nil ?_
      refine WX.one ⟨hd_3.chg, ?_⟩
      refine DL.step [(27, _)] rfl ⟨rfl, trivial⟩ rfl (fun wq_15 kq_15 => ?_)
      have zs_kq_15 := kq_15.size
      replace hd_3 := hd_3.pure kq_15
      replace hr := hr.pure kq_15
      replace hw := hw.pure kq_15
      replace hb3 := hb3.pure kq_15
      refine WL.assign rfl rfl (?_)
      refine WL.nil ?_
      refine WX.one ⟨hd_3.chg, ?_⟩
      refine DL.done (fun we_16 ke_16 => ?_)
      have zs_ke_16 := ke_16.size
      replace hd_3 := hd_3.pure ke_16
      replace hr := hr.pure ke_16
      replace hw := hw.pure ke_16
      replace hb3 := hb3.pure ke_16
      refine WX.block_normal (WX.then_normal (WC.region (WL.move rfl rfl (WL.add64 rfl rfl (by first | omega | (constructor <;> omega)) rfl (WL.assign rfl rfl (WL.nil (?_)))))))
      first
        | (have h1 : encAll (l.take (i + 1)) = encAll (l.take i) ++ [1] ++ cnt u.toNat := by rw [hx3, renc1, if_pos h16, hu]; simp
           refine WX.loop_next (i + 1, a_hb3, c_hb3) ⟨?_, rfl, rfl, trivial⟩ ⟨by dsimp only; omega, ?_, hw, hr⟩ (by show _ - _ < _ - _; omega)
           ·
             dsimp only; rw [h1]; rfl
           ·
             dsimp only; rw [h1]; exact hb3)
        | (have h1 : encAll (l.take (i + 1)) = encAll (l.take i) ++ [2] ++ cnt (B64 x.s.size).toNat ++ x.s.data.toList := by
             have h5 : x.s.data.toList.length = x.s.size := by simp
             rw [hx3, renc1, if_neg h16, B64_nat (by omega)]; simp
           refine WX.loop_next (i + 1, a_hb4, c_hb4) ⟨?_, rfl, rfl, trivial⟩ ⟨by dsimp only; omega, ?_, hw, hr⟩ (by show _ - _ < _ - _; omega)
           ·
             dsimp only; rw [h1]; rfl
           ·
             dsimp only; rw [h1]; exact hb4)
    ·
      refine WL.nil (WX.then_normal (WC.cond_false rfl (?_)))
      refine WC.draw (fun b => Eqb a1 b ∧ (fun b => w.heap.size ≤ b) b) [0, 3, 4, 5, 6, 7, 8, 9, 12, 13, 14, 15, 16] [1, 2, 10, 11, 17, 18] mixed rfl rfl (fun wd_2 kd_2 zd_2 => ?_)
      have zs_kd_2 := kd_2.size
      replace hr := hr.pure kd_2
      replace hb := hb.pure kd_2
      replace hw := hw.pure kd_2
      apply DQ.step (E' := [(3, _)])
      case ho => rfl
      case hs => exact ⟨rfl, trivial⟩
      case hk => rfl
      case h1 =>
        intro wq_4 kq_4
        refine WL.move rfl rfl (?_)
        refine WL.nil ?_
        exact WX.one ⟨rfl, by first | exact Chg.refl _ _ | assumption⟩
      apply DQ.step (E' := [(0, _)])
      case ho => rfl
      case hs => exact ⟨rfl, trivial⟩
      case hk => rfl
      case h1 =>
        intro wq_5 kq_5
        refine WL.move rfl rfl (?_)
        refine WL.nil ?_
        exact WX.one ⟨rfl, by first | exact Chg.refl _ _ | assumption⟩
      apply DQ.step (E' := [(4, _)])
      case ho => rfl
      case hs => exact ⟨rfl, trivial⟩
      case hk => rfl
      case h1 =>
        intro wq_6 kq_6
        refine WL.move rfl rfl (?_)
        refine WL.nil ?_
        exact WX.one ⟨rfl, by first | exact Chg.refl _ _ | assumption⟩
      apply DQ.step (E' := [(31, _), (32, _)])
      case ho => rfl
      case hs => exact ⟨rfl, rfl, trivial⟩
      case hk => rfl
      case h1 =>
        intro wq_7 kq_7
        have zs_kq_7 := kq_7.size
        replace hr := hr.chg kq_7 (by first | (intro x h1 h2; exact h2) | (intro x h0 h1 h2; exact hS x h1 h2) | (intro x h0 h1 h2; have h3 : _ = _ := h2; subst h3; exact hSR h1.1) | (intro x h1 h2; have h3 : _ = _ := h2; subst h3; assumption) | (intro x h1 h2; have h3 : _ = _ := h2; exfalso; omega) | (intro b h1 h2 h3; have h4 : _ = _ := h3; (try dsimp only at h2); exfalso; omega) | (intro h1; have h2 : _ = _ := h1; exfalso; omega) | (intro h1; have h2 : _ ≤ _ := h1; exfalso; omega) | (intros; exfalso; (try dsimp only at *); omega) | (intro b h1 h2 h3; exfalso; have h4 := h3.2; (try dsimp only at *); omega) | (intro h1; exfalso; have h4 := h1.2; (try dsimp only at *); omega) | (intro x h1 h2; exfalso; have h4 := h2.2; (try dsimp only at *); omega) | (intro x h1 h2; exact ⟨_, rfl, h2⟩) | (intro x h1 h2; have h4 := h2.1; have h5 := h2.2; exfalso; omega) | (intro x h1 h2; exact h2.1) | (intro x h1 h2; rcases h2.1 with h3 | h3; exact h3; exfalso; omega) | (intro x h1 h2; rcases h2 with h3 | h3; exact h3; exfalso; omega))
        replace hw := hw.chg kq_7 (by first | (intro x h1 h2; exact h2) | (intro x h0 h1 h2; exact hS x h1 h2) | (intro x h0 h1 h2; have h3 : _ = _ := h2; subst h3; exact hSR h1.1) | (intro x h1 h2; have h3 : _ = _ := h2; subst h3; assumption) | (intro x h1 h2; have h3 : _ = _ := h2; exfalso; omega) | (intro b h1 h2 h3; have h4 : _ = _ := h3; (try dsimp only at h2); exfalso; omega) | (intro h1; have h2 : _ = _ := h1; exfalso; omega) | (intro h1; have h2 : _ ≤ _ := h1; exfalso; omega) | (intros; exfalso; (try dsimp only at *); omega) | (intro b h1 h2 h3; exfalso; have h4 := h3.2; (try dsimp only at *); omega) | (intro h1; exfalso; have h4 := h1.2; (try dsimp only at *); omega) | (intro x h1 h2; exfalso; have h4 := h2.2; (try dsimp only at *); omega) | (intro x h1 h2; exact ⟨_, rfl, h2⟩) | (intro x h1 h2; have h4 := h2.1; have h5 := h2.2; exfalso; omega) | (intro x h1 h2; exact h2.1) | (intro x h1 h2; rcases h2.1 with h3 | h3; exact h3; exfalso; omega) | (intro x h1 h2; rcases h2 with h3 | h3; exact h3; exfalso; omega))
        refine WL.indexC hr Tryd.underlying23 Tryd.sizeOf31 rfl rfl ⟨hx, rfl⟩ rfl ?_
        refine WL.nil ?_
        exact WX.one ⟨rfl, by first | exact Chg.refl _ _ | assumption⟩
      apply DQ.step (E' := [(33, _)])
      case ho => rfl
      case hs => exact ⟨rfl, trivial⟩
      case hk => rfl
      case h1 =>
        intro wq_8 kq_8
        refine WL.fieldAddr (fld_31_2) rfl rfl (?_)
        refine WL.nil ?_
        exact WX.one ⟨rfl, by first | exact Chg.refl _ _ | assumption⟩
      apply DQ.step (E' := [(34, _)])
      case ho => rfl
      case hs => exact ⟨rfl, trivial⟩
      case hk => rfl
      case h1 =>
        intro wq_9 kq_9
        have zs_kq_9 := kq_9.size
        replace hr := hr.chg kq_9 (by first | (intro x h1 h2; exact h2) | (intro x h0 h1 h2; exact hS x h1 h2) | (intro x h0 h1 h2; have h3 : _ = _ := h2; subst h3; exact hSR h1.1) | (intro x h1 h2; have h3 : _ = _ := h2; subst h3; assumption) | (intro x h1 h2; have h3 : _ = _ := h2; exfalso; omega) | (intro b h1 h2 h3; have h4 : _ = _ := h3; (try dsimp only at h2); exfalso; omega) | (intro h1; have h2 : _ = _ := h1; exfalso; omega) | (intro h1; have h2 : _ ≤ _ := h1; exfalso; omega) | (intros; exfalso; (try dsimp only at *); omega) | (intro b h1 h2 h3; exfalso; have h4 := h3.2; (try dsimp only at *); omega) | (intro h1; exfalso; have h4 := h1.2; (try dsimp only at *); omega) | (intro x h1 h2; exfalso; have h4 := h2.2; (try dsimp only at *); omega) | (intro x h1 h2; exact ⟨_, rfl, h2⟩) | (intro x h1 h2; have h4 := h2.1; have h5 := h2.2; exfalso; omega) | (intro x h1 h2; exact h2.1) | (intro x h1 h2; rcases h2.1 with h3 | h3; exact h3; exfalso; omega) | (intro x h1 h2; rcases h2 with h3 | h3; exact h3; exfalso; omega))
        replace hw := hw.chg kq_9 (by first | (intro x h1 h2; exact h2) | (intro x h0 h1 h2; exact hS x h1 h2) | (intro x h0 h1 h2; have h3 : _ = _ := h2; subst h3; exact hSR h1.1) | (intro x h1 h2; have h3 : _ = _ := h2; subst h3; assumption) | (intro x h1 h2; have h3 : _ = _ := h2; exfalso; omega) | (intro b h1 h2 h3; have h4 : _ = _ := h3; (try dsimp only at h2); exfalso; omega) | (intro h1; have h2 : _ = _ := h1; exfalso; omega) | (intro h1; have h2 : _ ≤ _ := h1; exfalso; omega) | (intros; exfalso; (try dsimp only at *); omega) | (intro b h1 h2 h3; exfalso; have h4 := h3.2; (try dsimp only at *); omega) | (intro h1; exfalso; have h4 := h1.2; (try dsimp only at *); omega) | (intro x h1 h2; exfalso; have h4 := h2.2; (try dsimp only at *); omega) | (intro x h1 h2; exact ⟨_, rfl, h2⟩) | (intro x h1 h2; have h4 := h2.1; have h5 := h2.2; exfalso; omega) | (intro x h1 h2; exact h2.1) | (intro x h1 h2; rcases h2.1 with h3 | h3; exact h3; exfalso; omega) | (intro x h1 h2; rcases h2 with h3 | h3; exact h3; exfalso; omega))
        refine WL.load Tryd.isAgg9 rfl ((hr.cellsAt hx) _ _ rfl) rfl (?_)
        refine WL.nil ?_
        exact WX.one ⟨rfl, by first | exact Chg.refl _ _ | assumption⟩
      apply DQ.step (E' := [(35, _)])
      case ho => rfl
      case hs => exact ⟨rfl, trivial⟩
      case hk => rfl
      case h1 =>
        intro wq_10 kq_10
        have zs_kq_10 := kq_10.size
        replace hr := hr.chg kq_10 (by first | (intro x h1 h2; exact h2) | (intro x h0 h1 h2; exact hS x h1 h2) | (intro x h0 h1 h2; have h3 : _ = _ := h2; subst h3; exact hSR h1.1) | (intro x h1 h2; have h3 : _ = _ := h2; subst h3; assumption) | (intro x h1 h2; have h3 : _ = _ := h2; exfalso; omega) | (intro b h1 h2 h3; have h4 : _ = _ := h3; (try dsimp only at h2); exfalso; omega) | (intro h1; have h2 : _ = _ := h1; exfalso; omega) | (intro h1; have h2 : _ ≤ _ := h1; exfalso; omega) | (intros; exfalso; (try dsimp only at *); omega) | (intro b h1 h2 h3; exfalso; have h4 := h3.2; (try dsimp only at *); omega) | (intro h1; exfalso; have h4 := h1.2; (try dsimp only at *); omega) | (intro x h1 h2; exfalso; have h4 := h2.2; (try dsimp only at *); omega) | (intro x h1 h2; exact ⟨_, rfl, h2⟩) | (intro x h1 h2; have h4 := h2.1; have h5 := h2.2; exfalso; omega) | (intro x h1 h2; exact h2.1) | (intro x h1 h2; rcases h2.1 with h3 | h3; exact h3; exfalso; omega) | (intro x h1 h2; rcases h2 with h3 | h3; exact h3; exfalso; omega))
        replace hw := hw.chg kq_10 (by first | (intro x h1 h2; exact h2) | (intro x h0 h1 h2; exact hS x h1 h2) | (intro x h0 h1 h2; have h3 : _ = _ := h2; subst h3; exact hSR h1.1) | (intro x h1 h2; have h3 : _ = _ := h2; subst h3; assumption) | (intro x h1 h2; have h3 : _ = _ := h2; exfalso; omega) | (intro b h1 h2 h3; have h4 : _ = _ := h3; (try dsimp only at h2); exfalso; omega) | (intro h1; have h2 : _ = _ := h1; exfalso; omega) | (intro h1; have h2 : _ ≤ _ := h1; exfalso; omega) | (intros; exfalso; (try dsimp only at *); omega) | (intro b h1 h2 h3; exfalso; have h4 := h3.2; (try dsimp only at *); omega) | (intro h1; exfalso; have h4 := h1.2; (try dsimp only at *); omega) | (intro x h1 h2; exfalso; have h4 := h2.2; (try dsimp only at *); omega) | (intro x h1 h2; exact ⟨_, rfl, h2⟩) | (intro x h1 h2; have h4 := h2.1; have h5 := h2.2; exfalso; omega) | (intro x h1 h2; exact h2.1) | (intro x h1 h2; rcases h2.1 with h3 | h3; exact h3; exfalso; omega) | (intro x h1 h2; rcases h2 with h3 | h3; exact h3; exfalso; omega))
        refine WL.lens Tryd.underlying9 rfl rfl (?_)
        refine WL.nil ?_
        exact WX.one ⟨rfl, by first | exact Chg.refl _ _ | assumption⟩
      apply DQ.step (E' := [(36, _)])
      case ho => rfl
      case hs => exact ⟨rfl, trivial⟩
      case hk => rfl
      case h1 =>
        intro wq_11 kq_11
        have zs_kq_11 := kq_11.size
        replace hr := hr.chg kq_11 (by first | (intro x h1 h2; exact h2) | (intro x h0 h1 h2; exact hS x h1 h2) | (intro x h0 h1 h2; have h3 : _ = _ := h2; subst h3; exact hSR h1.1) | (intro x h1 h2; have h3 : _ = _ := h2; subst h3; assumption) | (intro x h1 h2; have h3 : _ = _ := h2; exfalso; omega) | (intro b h1 h2 h3; have h4 : _ = _ := h3; (try dsimp only at h2); exfalso; omega) | (intro h1; have h2 : _ = _ := h1; exfalso; omega) | (intro h1; have h2 : _ ≤ _ := h1; exfalso; omega) | (intros; exfalso; (try dsimp only at *); omega) | (intro b h1 h2 h3; exfalso; have h4 := h3.2; (try dsimp only at *); omega) | (intro h1; exfalso; have h4 := h1.2; (try dsimp only at *); omega) | (intro x h1 h2; exfalso; have h4 := h2.2; (try dsimp only at *); omega) | (intro x h1 h2; exact ⟨_, rfl, h2⟩) | (intro x h1 h2; have h4 := h2.1; have h5 := h2.2; exfalso; omega) | (intro x h1 h2; exact h2.1) | (intro x h1 h2; rcases h2.1 with h3 | h3; exact h3; exfalso; omega) | (intro x h1 h2; rcases h2 with h3 | h3; exact h3; exfalso; omega))
        replace hw := hw.chg kq_11 (by first | (intro x h1 h2; exact h2) | (intro x h0 h1 h2; exact hS x h1 h2) | (intro x h0 h1 h2; have h3 : _ = _ := h2; subst h3; exact hSR h1.1) | (intro x h1 h2; have h3 : _ = _ := h2; subst h3; assumption) | (intro x h1 h2; have h3 : _ = _ := h2; exfalso; omega) | (intro b h1 h2 h3; have h4 : _ = _ := h3; (try dsimp only at h2); exfalso; omega) | (intro h1; have h2 : _ = _ := h1; exfalso; omega) | (intro h1; have h2 : _ ≤ _ := h1; exfalso; omega) | (intros; exfalso; (try dsimp only at *); omega) | (intro b h1 h2 h3; exfalso; have h4 := h3.2; (try dsimp only at *); omega) | (intro h1; exfalso; have h4 := h1.2; (try dsimp only at *); omega) | (intro x h1 h2; exfalso; have h4 := h2.2; (try dsimp only at *); omega) | (intro x h1 h2; exact ⟨_, rfl, h2⟩) | (intro x h1 h2; have h4 := h2.1; have h5 := h2.2; exfalso; omega) | (intro x h1 h2; exact h2.1) | (intro x h1 h2; rcases h2.1 with h3 | h3; exact h3; exfalso; omega) | (intro x h1 h2; rcases h2 with h3 | h3; exact h3; exfalso; omega))
        refine WL.c_i64_u64 Tryd.underlying3 Tryd.underlying41 rfl rfl (?_)
        refine WL.nil ?_
        exact WX.one ⟨rfl, by first | exact Chg.refl _ _ | assumption⟩
      apply DQ.step (E' := [(0, _)])
      case ho => rfl
      case hs => exact ⟨rfl, trivial⟩
      case hk => rfl
      case h1 =>
        intro wq_12 kq_12
        refine WL.move rfl rfl (?_)
        refine WL.nil ?_
        exact WX.one ⟨rfl, by first | exact Chg.refl _ _ | assumption⟩
      apply DQ.step (E' := [(4, _)])
      case ho => rfl
      case hs => exact ⟨rfl, trivial⟩
      case hk => rfl
      case h1 =>
        intro wq_13 kq_13
        refine WL.move rfl rfl (?_)
        refine WL.nil ?_
        exact WX.one ⟨rfl, by first | exact Chg.refl _ _ | assumption⟩
      apply DQ.step (E' := [(40, _), (41, _)])
      case ho => rfl
      case hs => exact ⟨rfl, rfl, trivial⟩
      case hk => rfl
      case h1 =>
        intro wq_14 kq_14
        have zs_kq_14 := kq_14.size
        replace hr := hr.chg kq_14 (by first | (intro x h1 h2; exact h2) | (intro x h0 h1 h2; exact hS x h1 h2) | (intro x h0 h1 h2; have h3 : _ = _ := h2; subst h3; exact hSR h1.1) | (intro x h1 h2; have h3 : _ = _ := h2; subst h3; assumption) | (intro x h1 h2; have h3 : _ = _ := h2; exfalso; omega) | (intro b h1 h2 h3; have h4 : _ = _ := h3; (try dsimp only at h2); exfalso; omega) | (intro h1; have h2 : _ = _ := h1; exfalso; omega) | (intro h1; have h2 : _ ≤ _ := h1; exfalso; omega) | (intros; exfalso; (try dsimp only at *); omega) | (intro b h1 h2 h3; exfalso; have h4 := h3.2; (try dsimp only at *); omega) | (intro h1; exfalso; have h4 := h1.2; (try dsimp only at *); omega) | (intro x h1 h2; exfalso; have h4 := h2.2; (try dsimp only at *); omega) | (intro x h1 h2; exact ⟨_, rfl, h2⟩) | (intro x h1 h2; have h4 := h2.1; have h5 := h2.2; exfalso; omega) | (intro x h1 h2; exact h2.1) | (intro x h1 h2; rcases h2.1 with h3 | h3; exact h3; exfalso; omega) | (intro x h1 h2; rcases h2 with h3 | h3; exact h3; exfalso; omega))
        replace hw := hw.chg kq_14 (by first | (intro x h1 h2; exact h2) | (intro x h0 h1 h2; exact hS x h1 h2) | (intro x h0 h1 h2; have h3 : _ = _ := h2; subst h3; exact hSR h1.1) | (intro x h1 h2; have h3 : _ = _ := h2; subst h3; assumption) | (intro x h1 h2; have h3 : _ = _ := h2; exfalso; omega) | (intro b h1 h2 h3; have h4 : _ = _ := h3; (try dsimp only at h2); exfalso; omega) | (intro h1; have h2 : _ = _ := h1; exfalso; omega) | (intro h1; have h2 : _ ≤ _ := h1; exfalso; omega) | (intros; exfalso; (try dsimp only at *); omega) | (intro b h1 h2 h3; exfalso; have h4 := h3.2; (try dsimp only at *); omega) | (intro h1; exfalso; have h4 := h1.2; (try dsimp only at *); omega) | (intro x h1 h2; exfalso; have h4 := h2.2; (try dsimp only at *); omega) | (intro x h1 h2; exact ⟨_, rfl, h2⟩) | (intro x h1 h2; have h4 := h2.1; have h5 := h2.2; exfalso; omega) | (intro x h1 h2; exact h2.1) | (intro x h1 h2; rcases h2.1 with h3 | h3; exact h3; exfalso; omega) | (intro x h1 h2; rcases h2 with h3 | h3; exact h3; exfalso; omega))
        refine WL.indexC hr Tryd.underlying23 Tryd.sizeOf31 rfl rfl ⟨hx, rfl⟩ rfl ?_
        refine WL.nil ?_
        exact WX.one ⟨rfl, by first | exact Chg.refl _ _ | assumption⟩
      apply DQ.step (E' := [(42, _)])
      case ho => rfl
      case hs => exact ⟨rfl, trivial⟩
      case hk => rfl
      case h1 =>
        intro wq_15 kq_15
        refine WL.fieldAddr (fld_31_2) rfl rfl (?_)
        refine WL.nil ?_
        exact WX.one ⟨rfl, by first | exact Chg.refl _ _ | assumption⟩
      apply DQ.step (E' := [(43, _)])
      case ho => rfl
      case hs => exact ⟨rfl, trivial⟩
      case hk => rfl
      case h1 =>
        intro wq_16 kq_16
        have zs_kq_16 := kq_16.size
        replace hr := hr.chg kq_16 (by first | (intro x h1 h2; exact h2) | (intro x h0 h1 h2; exact hS x h1 h2) | (intro x h0 h1 h2; have h3 : _ = _ := h2; subst h3; exact hSR h1.1) | (intro x h1 h2; have h3 : _ = _ := h2; subst h3; assumption) | (intro x h1 h2; have h3 : _ = _ := h2; exfalso; omega) | (intro b h1 h2 h3; have h4 : _ = _ := h3; (try dsimp only at h2); exfalso; omega) | (intro h1; have h2 : _ = _ := h1; exfalso; omega) | (intro h1; have h2 : _ ≤ _ := h1; exfalso; omega) | (intros; exfalso; (try dsimp only at *); omega) | (intro b h1 h2 h3; exfalso; have h4 := h3.2; (try dsimp only at *); omega) | (intro h1; exfalso; have h4 := h1.2; (try dsimp only at *); omega) | (intro x h1 h2; exfalso; have h4 := h2.2; (try dsimp only at *); omega) | (intro x h1 h2; exact ⟨_, rfl, h2⟩) | (intro x h1 h2; have h4 := h2.1; have h5 := h2.2; exfalso; omega) | (intro x h1 h2; exact h2.1) | (intro x h1 h2; rcases h2.1 with h3 | h3; exact h3; exfalso; omega) | (intro x h1 h2; rcases h2 with h3 | h3; exact h3; exfalso; omega))
        replace hw := hw.chg kq_16 (by first | (intro x h1 h2; exact h2) | (intro x h0 h1 h2; exact hS x h1 h2) | (intro x h0 h1 h2; have h3 : _ = _ := h2; subst h3; exact hSR h1.1) | (intro x h1 h2; have h3 : _ = _ := h2; subst h3; assumption) | (intro x h1 h2; have h3 : _ = _ := h2; exfalso; omega) | (intro b h1 h2 h3; have h4 : _ = _ := h3; (try dsimp only at h2); exfalso; omega) | (intro h1; have h2 : _ = _ := h1; exfalso; omega) | (intro h1; have h2 : _ ≤ _ := h1; exfalso; omega) | (intros; exfalso; (try dsimp only at *); omega) | (intro b h1 h2 h3; exfalso; have h4 := h3.2; (try dsimp only at *); omega) | (intro h1; exfalso; have h4 := h1.2; (try dsimp only at *); omega) | (intro x h1 h2; exfalso; have h4 := h2.2; (try dsimp only at *); omega) | (intro x h1 h2; exact ⟨_, rfl, h2⟩) | (intro x h1 h2; have h4 := h2.1; have h5 := h2.2; exfalso; omega) | (intro x h1 h2; exact h2.1) | (intro x h1 h2; rcases h2.1 with h3 | h3; exact h3; exfalso; omega) | (intro x h1 h2; rcases h2 with h3 | h3; exact h3; exfalso; omega))
        refine WL.load Tryd.isAgg9 rfl ((hr.cellsAt hx) _ _ rfl) rfl (?_)
        refine WL.nil ?_
        exact WX.one ⟨rfl, by first | exact Chg.refl _ _ | assumption⟩
      refine DQ.doneG (S := fun b => w.heap.size ≤ b) (a := a1) (fun hd_3 => ?_)
      refine DL.step [] rfl trivial rfl (fun wq_17 kq_17 => ?_)
      have zs_kq_17 := kq_17.size
      replace hd_3 := hd_3.pure kq_17
      replace hr := hr.pure kq_17
      replace hb := hb.pure kq_17
      replace hw := hw.pure kq_17
      refine WL.build (e := eb) [2] Tryd.underlying22 Tryd.sizeOf5 Tryd.zeroValue5 rfl rfl rfl (by first | (simp [Value.cells]; done) | (simp [Value.cells] <;> rfl) | (simp [Value.cells, eb, ei, es, ebool, e32, e64]; done)) (by decide) rfl ?_
      intro a_hq w_hq hq l_hq z_hq k_hq
      have zs_k_hq := k_hq.size
      replace hd_3 := hd_3.pure k_hq
      replace hr := hr.pure k_hq
      replace hb := hb.pure k_hq
      replace hw := hw.pure k_hq
      refine WL.nil ?_
      refine WX.one ⟨hd_3.chg, ?_⟩
      refine DL.step [(28, _), (29, _)] rfl ⟨rfl, rfl, trivial⟩ rfl (fun wq_18 kq_18 => ?_)
      have zs_kq_18 := kq_18.size
      replace hd_3 := hd_3.pure kq_18
      replace hr := hr.pure kq_18
      replace hb := hb.pure kq_18
      replace hw := hw.pure kq_18
      replace hq := hq.pure kq_18
      refine WL.append (e := eb) info_5 rfl Tryd.underlying22 rfl rfl hb (hq.rsl.src Tryd.underlying22) (by (try simp only [List.length_append, List.length_cons, List.length_nil] at *); omega) (by intro b hb; first | (apply hS; omega) | ((try dsimp only); omega)) rfl ?_
      intro a_hb2 c_hb2 w_hb2 hb2 g_hb2 n_hb2
      have z_hb2 := g_hb2.chg.size
      replace hd_3 := hd_3.trans g_hb2
      have zs_g_hb2_chg := g_hb2.chg.size
      replace hr := hr.chg g_hb2.chg (by first | (intro x h1 h2; exact h2) | (intro x h0 h1 h2; exact hS x h1 h2) | (intro x h0 h1 h2; have h3 : _ = _ := h2; subst h3; exact hSR h1.1) | (intro x h1 h2; have h3 : _ = _ := h2; subst h3; assumption) | (intro x h1 h2; have h3 : _ = _ := h2; exfalso; omega) | (intro b h1 h2 h3; have h4 : _ = _ := h3; (try dsimp only at h2); exfalso; omega) | (intro h1; have h2 : _ = _ := h1; exfalso; omega) | (intro h1; have h2 : _ ≤ _ := h1; exfalso; omega) | (intros; exfalso; (try dsimp only at *); omega) | (intro b h1 h2 h3; exfalso; have h4 := h3.2; (try dsimp only at *); omega) | (intro h1; exfalso; have h4 := h1.2; (try dsimp only at *); omega) | (intro x h1 h2; exfalso; have h4 := h2.2; (try dsimp only at *); omega) | (intro x h1 h2; exact ⟨_, rfl, h2⟩) | (intro x h1 h2; have h4 := h2.1; have h5 := h2.2; exfalso; omega) | (intro x h1 h2; exact h2.1) | (intro x h1 h2; rcases h2.1 with h3 | h3; exact h3; exfalso; omega) | (intro x h1 h2; rcases h2 with h3 | h3; exact h3; exfalso; omega))
      replace hw := hw.chg g_hb2.chg (by first | (intro x h1 h2; exact h2) | (intro x h0 h1 h2; exact hS x h1 h2) | (intro x h0 h1 h2; have h3 : _ = _ := h2; subst h3; exact hSR h1.1) | (intro x h1 h2; have h3 : _ = _ := h2; subst h3; assumption) | (intro x h1 h2; have h3 : _ = _ := h2; exfalso; omega) | (intro b h1 h2 h3; have h4 : _ = _ := h3; (try dsimp only at h2); exfalso; omega) | (intro h1; have h2 : _ = _ := h1; exfalso; omega) | (intro h1; have h2 : _ ≤ _ := h1; exfalso; omega) | (intros; exfalso; (try dsimp only at *); omega) | (intro b h1 h2 h3; exfalso; have h4 := h3.2; (try dsimp only at *); omega) | (intro h1; exfalso; have h4 := h1.2; (try dsimp only at *); omega) | (intro x h1 h2; exfalso; have h4 := h2.2; (try dsimp only at *); omega) | (intro x h1 h2; exact ⟨_, rfl, h2⟩) | (intro x h1 h2; have h4 := h2.1; have h5 := h2.2; exfalso; omega) | (intro x h1 h2; exact h2.1) | (intro x h1 h2; rcases h2.1 with h3 | h3; exact h3; exfalso; omega) | (intro x h1 h2; rcases h2 with h3 | h3; exact h3; exfalso; omega))
      refine WL.nil ?_
      refine WX.one ⟨hd_3.chg, ?_⟩
      refine DL.step [(37, _)] rfl ⟨rfl, trivial⟩ rfl (fun wq_19 kq_19 => ?_)
      have zs_kq_19 := kq_19.size
      replace hd_3 := hd_3.pure kq_19
      replace hr := hr.pure kq_19
      replace hw := hw.pure kq_19
      replace hb2 := hb2.pure kq_19
      have hcl := cnt_len64 (B64 x.s.size)
      have hs4 : x.s.data.toList.length ≤ 4000 := by have h5 := hx2.1; have h6 := hx2.2; simp only [longI, okI, decide_eq_false_iff_not, decide_eq_true_eq] at h5 h6; rw [show x.s.data.toList.length = x.s.size from by simp]; omega
      refine WL.call eg_112 rfl rfl (rcount_calls (B64 x.s.size) _) ?_
      rintro v w5 ⟨rfl, k5⟩
      have zs_k5 := k5.size
      replace hd_3 := hd_3.pure k5
      replace hr := hr.pure k5
      replace hw := hw.pure k5
      replace hb2 := hb2.pure k5
      refine WL.nil ?_
      refine WX.one ⟨hd_3.chg, ?_⟩
      refine DL.step [(30, _), (38, _)] rfl ⟨rfl, rfl, trivial⟩ rfl (fun wq_20 kq_20 => ?_)
      have zs_kq_20 := kq_20.size
      replace hd_3 := hd_3.pure kq_20
      replace hr := hr.pure kq_20
      replace hw := hw.pure kq_20
      replace hb2 := hb2.pure kq_20
      refine WL.append (e := eb) info_5 rfl Tryd.underlying22 rfl rfl hb2 (src_string _ Tryd.underlying9) (by (try simp only [List.length_append, List.length_cons, List.length_nil] at *); omega) (by intro b hb; first | (apply hS; omega) | ((try dsimp only); omega)) rfl ?_
      intro a_hb3 c_hb3 w_hb3 hb3 g_hb3 n_hb3
      have z_hb3 := g_hb3.chg.size
      replace hd_3 := hd_3.trans g_hb3
      have zs_g_hb3_chg := g_hb3.chg.size
      replace hr := hr.chg g_hb3.chg (by first | (intro x h1 h2; exact h2) | (intro x h0 h1 h2; exact hS x h1 h2) | (intro x h0 h1 h2; have h3 : _ = _ := h2; subst h3; exact hSR h1.1) | (intro x h1 h2; have h3 : _ = _ := h2; subst h3; assumption) | (intro x h1 h2; have h3 : _ = _ := h2; exfalso; omega) | (intro b h1 h2 h3; have h4 : _ = _ := h3; (try dsimp only at h2); exfalso; omega) | (intro h1; have h2 : _ = _ := h1; exfalso; omega) | (intro h1; have h2 : _ ≤ _ := h1; exfalso; omega) | (intros; exfalso; (try dsimp only at *); omega) | (intro b h1 h2 h3; exfalso; have h4 := h3.2; (try dsimp only at *); omega) | (intro h1; exfalso; have h4 := h1.2; (try dsimp only at *); omega) | (intro x h1 h2; exfalso; have h4 := h2.2; (try dsimp only at *); omega) | (intro x h1 h2; exact ⟨_, rfl, h2⟩) | (intro x h1 h2; have h4 := h2.1; have h5 := h2.2; exfalso; omega) | (intro x h1 h2; exact h2.1) | (intro x h1 h2; rcases h2.1 with h3 | h3; exact h3; exfalso; omega) | (intro x h1 h2; rcases h2 with h3 | h3; exact h3; exfalso; omega))
      replace hw := hw.chg g_hb3.chg (by first | (intro x h1 h2; exact h2) | (intro x h0 h1 h2; exact hS x h1 h2) | (intro x h0 h1 h2; have h3 : _ = _ := h2; subst h3; exact hSR h1.1) | (intro x h1 h2; have h3 : _ = _ := h2; subst h3; assumption) | (intro x h1 h2; have h3 : _ = _ := h2; exfalso; omega) | (intro b h1 h2 h3; have h4 : _ = _ := h3; (try dsimp only at h2); exfalso; omega) | (intro h1; have h2 : _ = _ := h1; exfalso; omega) | (intro h1; have h2 : _ ≤ _ := h1; exfalso; omega) | (intros; exfalso; (try dsimp only at *); omega) | (intro b h1 h2 h3; exfalso; have h4 := h3.2; (try dsimp only at *); omega) | (intro h1; exfalso; have h4 := h1.2; (try dsimp only at *); omega) | (intro x h1 h2; exfalso; have h4 := h2.2; (try dsimp only at *); omega) | (intro x h1 h2; exact ⟨_, rfl, h2⟩) | (intro x h1 h2; have h4 := h2.1; have h5 := h2.2; exfalso; omega) | (intro x h1 h2; exact h2.1) | (intro x h1 h2; rcases h2.1 with h3 | h3; exact h3; exfalso; omega) | (intro x h1 h2; rcases h2 with h3 | h3; exact h3; exfalso; omega))
      refine WL.nil ?_
      refine WX.one ⟨hd_3.chg, ?_⟩
      refine DL.step [(39, _), (44, _)] rfl ⟨rfl, rfl, trivial⟩ rfl (fun wq_21 kq_21 => ?_)
      have zs_kq_21 := kq_21.size
      replace hd_3 := hd_3.pure kq_21
      replace hr := hr.pure kq_21
      replace hw := hw.pure kq_21
      replace hb3 := hb3.pure kq_21
      refine WL.append (e := eb) info_5 rfl Tryd.underlying22 rfl rfl hb3 (src_string _ Tryd.underlying9) (by (try simp only [List.length_append, List.length_cons, List.length_nil] at *); omega) (by intro b hb; first | (apply hS; omega) | ((try dsimp only); omega)) rfl ?_
      intro a_hb4 c_hb4 w_hb4 hb4 g_hb4 n_hb4
      have z_hb4 := g_hb4.chg.size
      replace hd_3 := hd_3.trans g_hb4
      have zs_g_hb4_chg := g_hb4.chg.size
      replace hr := hr.chg g_hb4.chg (by first | (intro x h1 h2; exact h2) | (intro x h0 h1 h2; exact hS x h1 h2) | (intro x h0 h1 h2; have h3 : _ = _ := h2; subst h3; exact hSR h1.1) | (intro x h1 h2; have h3 : _ = _ := h2; subst h3; assumption) | (intro x h1 h2; have h3 : _ = _ := h2; exfalso; omega) | (intro b h1 h2 h3; have h4 : _ = _ := h3; (try dsimp only at h2); exfalso; omega) | (intro h1; have h2 : _ = _ := h1; exfalso; omega) | (intro h1; have h2 : _ ≤ _ := h1; exfalso; omega) | (intros; exfalso; (try dsimp only at *); omega) | (intro b h1 h2 h3; exfalso; have h4 := h3.2; (try dsimp only at *); omega) | (intro h1; exfalso; have h4 := h1.2; (try dsimp only at *); omega) | (intro x h1 h2; exfalso; have h4 := h2.2; (try dsimp only at *); omega) | (intro x h1 h2; exact ⟨_, rfl, h2⟩) | (intro x h1 h2; have h4 := h2.1; have h5 := h2.2; exfalso; omega) | (intro x h1 h2; exact h2.1) | (intro x h1 h2; rcases h2.1 with h3 | h3; exact h3; exfalso; omega) | (intro x h1 h2; rcases h2 with h3 | h3; exact h3; exfalso; omega))
      replace hw := hw.chg g_hb4.chg (by first | (intro x h1 h2; exact h2) | (intro x h0 h1 h2; exact hS x h1 h2) | (intro x h0 h1 h2; have h3 : _ = _ := h2; subst h3; exact hSR h1.1) | (intro x h1 h2; have h3 : _ = _ := h2; subst h3; assumption) | (intro x h1 h2; have h3 : _ = _ := h2; exfalso; omega) | (intro b h1 h2 h3; have h4 : _ = _ := h3; (try dsimp only at h2); exfalso; omega) | (intro h1; have h2 : _ = _ := h1; exfalso; omega) | (intro h1; have h2 : _ ≤ _ := h1; exfalso; omega) | (intros; exfalso; (try dsimp only at *); omega) | (intro b h1 h2 h3; exfalso; have h4 := h3.2; (try dsimp only at *); omega) | (intro h1; exfalso; have h4 := h1.2; (try dsimp only at *); omega) | (intro x h1 h2; exfalso; have h4 := h2.2; (try dsimp only at *); omega) | (intro x h1 h2; exact ⟨_, rfl, h2⟩) | (intro x h1 h2; have h4 := h2.1; have h5 := h2.2; exfalso; omega) | (intro x h1 h2; exact h2.1) | (intro x h1 h2; rcases h2.1 with h3 | h3; exact h3; exfalso; omega) | (intro x h1 h2; rcases h2 with h3 | h3; exact h3; exfalso; omega))
      refine WL.nil ?_
      refine WX.one ⟨hd_3.chg, ?_⟩
      refine DL.step [(45, _)] rfl ⟨rfl, trivial⟩ rfl (fun wq_22 kq_22 => ?_)
      have zs_kq_22 := kq_22.size
      replace hd_3 := hd_3.pure kq_22
      replace hr := hr.pure kq_22
      replace hw := hw.pure kq_22
      replace hb4 := hb4.pure kq_22
      refine WL.assign rfl rfl (?_)
      refine WL.nil ?_
      refine WX.one ⟨hd_3.chg, ?_⟩
      refine DL.done (fun we_23 ke_23 => ?_)
      have zs_ke_23 := ke_23.size
      replace hd_3 := hd_3.pure ke_23
      replace hr := hr.pure ke_23
      replace hw := hw.pure ke_23
      replace hb4 := hb4.pure ke_23
      refine WX.block_normal (WX.then_normal (WC.region (WL.move rfl rfl (WL.add64 rfl rfl (by first | omega | (constructor <;> omega)) rfl (WL.assign rfl rfl (WL.nil (?_)))))))
      first
        | (have h1 : encAll (l.take (i + 1)) = encAll (l.take i) ++ [1] ++ cnt u.toNat := by rw [hx3, renc1, if_pos h16, hu]; simp
           refine WX.loop_next (i + 1, a_hb3, c_hb3) ⟨?_, rfl, rfl, trivial⟩ ⟨by dsimp only; omega, ?_, hw, hr⟩ (by show _ - _ < _ - _; omega)
           ·
             dsimp only; rw [h1]; rfl
           ·
             dsimp only; rw [h1]; exact hb3)
        | (have h1 : encAll (l.take (i + 1)) = encAll (l.take i) ++ [2] ++ cnt (B64 x.s.size).toNat ++ x.s.data.toList := by
             have h5 : x.s.data.toList.length = x.s.size := by simp
             rw [hx3, renc1, if_neg h16, B64_nat (by omega)]; simp
           refine WX.loop_next (i + 1, a_hb4, c_hb4) ⟨?_, rfl, rfl, trivial⟩ ⟨by dsimp only; omega, ?_, hw, hr⟩ (by show _ - _ < _ - _; omega)
           ·
             dsimp only; rw [h1]; rfl
           ·
             dsimp only; rw [h1]; exact hb4)
  ·
    refine WL.nil (WX.then_normal (WC.cond_false rfl (WC.exit (WX.then_exit (WX.then_exit (WX.block_here (WX.then_normal (?_))))))))
    refine WC.seq (WC.region (WL.move rfl rfl (?_)))
    refine WL.toStr Tryd.underlying22 Tryd.underlying5 Tryd.underlying9 hb.rsl rfl rfl ?_
    refine WL.assign rfl rfl (WL.nil (WX.then_normal (WC.ret (?_))))
    refine WX.ret1 (.inl rfl) Tryd.results91 rfl ?_
    refine ⟨_, rfl, ?_, hw⟩
    rw [List.take_of_length_le (by omega)]
end Go.Proofs.YtcdbkfaebgficaaDoor
