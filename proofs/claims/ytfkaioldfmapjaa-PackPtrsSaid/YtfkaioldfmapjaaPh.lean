import Derived.Test.YtfkaioldfmapjaaPg
namespace Go.Proofs.Ytfkaioldfmapjaa
open Go.RowKit Go.HL

/-! items out of bytes -/
def unz (c : Nat) : Int := if c % 2 = 1 then -((c / 2 : Nat) : Int) - 1 else ((c / 2 : Nat) : Int)
def dec (n : Nat) (bs : List UInt8) : Option (List Item) :=
  match bs with
  | [] => some []
  | k :: r =>
    match h : ctd 0 r with
    | none => none
    | some (c, r') =>
      if n = 2000 then none
      else if k.toNat = 1 then (dec (n + 1) r').map (⟨1, unz c, ⟨#[]⟩⟩ :: ·)
      else if k.toNat = 2 ∧ c ≤ 4000 ∧ c ≤ r'.length then (dec (n + 1) (r'.drop c)).map (⟨2, 0, ⟨(r'.take c).toArray⟩⟩ :: ·)
      else none
termination_by bs.length
decreasing_by
  all_goals
    have := (ctd_bound r 0 (by omega) h).2.2
    simp
    omega
theorem dec_nil (n : Nat) : dec n [] = some [] := by rw [dec]
theorem dec_none {n : Nat} {k : UInt8} {r : List UInt8} (h : ctd 0 r = none) : dec n (k :: r) = none := by
  rw [dec]
  split
  · rfl
  · rename_i h2; rw [h] at h2; cases h2
theorem dec_some {n : Nat} {k : UInt8} {r r' : List UInt8} {c : Nat} (h : ctd 0 r = some (c, r')) : dec n (k :: r) = if n = 2000 then none
      else if k.toNat = 1 then (dec (n + 1) r').map (⟨1, unz c, ⟨#[]⟩⟩ :: ·)
      else if k.toNat = 2 ∧ c ≤ 4000 ∧ c ≤ r'.length then (dec (n + 1) (r'.drop c)).map (⟨2, 0, ⟨(r'.take c).toArray⟩⟩ :: ·)
      else none := by
  rw [dec]
  split
  · rename_i h2; rw [h] at h2; cases h2
  · rename_i h2
    rw [h] at h2
    injection h2 with h2
    injection h2 with h3 h4
    subst h3; subst h4
    rfl
/-- what has been taken, with what is to come -/
def decI (b0 : List UInt8) (out : List Item) (bs : List UInt8) : Prop := dec 0 b0 = (dec out.length bs).map (out ++ ·)
theorem decI_start (b : List UInt8) : decI b [] b := by unfold decI; cases h : dec 0 b <;> simp [h]
theorem decI_end {b : List UInt8} {out : List Item} (h : decI b out []) : dec 0 b = some out := by unfold decI at h; rw [h, dec_nil]; simp
theorem decI_step {b : List UInt8} {out : List Item} {k : UInt8} {r r' : List UInt8} {i : Item} (h : decI b out (k :: r)) (hs : dec out.length (k :: r) = (dec (out.length + 1) r').map (i :: ·)) : decI b (out ++ [i]) r' := by
  unfold decI at *
  rw [h, hs, Option.map_map, List.length_append, List.length_singleton]
  congr 1
  funext l
  simp
theorem decI_bad {b : List UInt8} {out : List Item} {k : UInt8} {r : List UInt8} (h : decI b out (k :: r)) (hs : dec out.length (k :: r) = none) : dec 0 b = none := by
  unfold decI at h
  rw [h, hs]
  rfl
theorem shr1 (c : UInt64) : (c >>> UInt64.ofNat 1).toNat = c.toNat / 2 := by simp [Nat.shiftRight_eq_div_pow]
theorem and1 (c : UInt64) : (c &&& 1).toNat = c.toNat % 2 := by
  rw [UInt64.toNat_and]
  exact Nat.and_one_is_mod _

set_option maxHeartbeats 1000000 in
theorem decode_calls {w : World} {ao : Option Addr} {c : Nat} {b : List UInt8} (hr : RSl (· < w.heap.size) w eb ao c b) (hl : b.length ≤ 140737488351232) :
    Calls Try.prog 17 [.slice ao b.length c].toArray w (Ret fun v w' => ((∃ (l : List Item) (ao' : Option Addr) (c' : Nat), v = .tuple #[.slice ao' l.length c', vi 0] ∧ dec 0 b = some l ∧ Row (w.heap.size ≤ ·) w' 37 eit ao' c' l) ∨ (v = .tuple #[.slice none 0 0, vi 2] ∧ dec 0 b = none)) ∧ Chg Nob w w') := by
  refine Calls.of_WC Try.func17 rfl Try.ntmps17 (by simp) ?_
  refine WC.seq (WC.region (WL.assign rfl rfl (WL.assign rfl rfl (WL.nil (WX.then_normal (WC.seq (WC.region (?_))))))))
  refine WL.assign rfl rfl (WL.nil (WX.then_normal (WC.seq (WC.block (?_)))))
  refine WC.loop (σ := (List Item × Option Addr × Nat) × (List UInt8 × Option Addr × Nat)) (fun s => [(4, .slice s.1.2.1 s.1.1.length s.1.2.2), (0, .slice s.2.2.1 s.2.1.length s.2.2.2)])
    (fun s w' => s.1.1.length ≤ 2000 ∧ s.2.1.length ≤ b.length ∧ decI b s.1.1 s.2.1 ∧ Row (w.heap.size ≤ ·) w' 37 eit s.1.2.1 s.1.2.2 s.1.1 ∧ RSl (· < w.heap.size) w' eb s.2.2.1 s.2.2.2 s.2.1 ∧ Chg Nob w w') (fun s => s.2.1.length) (([], none, 0), (b, ao, c)) ⟨rfl, rfl, trivial⟩ ⟨by simp, Nat.le_refl _, decI_start _, Row.nil _ _ _ _, hr, Chg.refl _ _⟩ ?_
  clear hr
  rintro ⟨⟨out, a1, c1⟩, ⟨bs, ab, cb⟩⟩ w1 ⟨ho, hbl, hi, hq, hr, kk⟩
  dsimp only at ho hbl hi hq hr kk ⊢
  have zk := kk.size
  refine WC.seq (WC.seq (WC.region (WL.move rfl rfl (WL.len Try.underlying24 rfl rfl (?_)))))
  refine WL.gtr? rfl rfl rfl (fun h11 => ?_) (fun h11 => ?_)
  ·
    refine WL.nil (WX.then_normal (WC.cond_true rfl (WC.skip (WX.then_normal (WC.block (WC.seq (WC.region (?_))))))))
    refine WL.move rfl rfl (?_)
    obtain ⟨x, bs', rfl⟩ : ∃ x bs', bs = x :: bs' := by cases bs with | nil => simp at h11 | cons x r => exact ⟨x, r, rfl⟩
    have hx : (x :: bs')[0]? = some x := rfl
    have hxl := x.toNat_lt
    refine WL.indexT Try.underlying24 Try.sizeOf5 hr rfl rfl ⟨hx, rfl⟩ rfl ?_
    intro b_1 o_1 hc_1
    refine WL.load Try.isAgg5 rfl (hc_1 0 _ rfl) rfl (WL.assign rfl rfl (WL.nil (WX.then_normal (WC.seq (WC.region (WL.move rfl rfl (?_)))))))
    refine WL.slice (l := 1) (h := (x :: bs').length) (j := .i64) Try.underlying24 Try.sizeOf5 hr rfl (.inl rfl) (.inr ⟨rfl, rfl⟩) (by simp) rfl ?_
    intro a_hb c_hb hb n_hb
    have e1 : (List.drop 1 (List.take (x :: bs').length (x :: bs'))) = bs' := by simp
    rw [e1] at hb ⊢
    have hxb : bs'.length + 1 ≤ b.length := by simpa using hbl
    have hlb : bs'.length ≤ 140737488351232 := by omega
    refine WL.call eg_36 rfl rfl (counted_calls hb (by omega)) ?_
    rintro v w2 ⟨(⟨u, r, ar, cr, rfl, hc, hr2⟩ | ⟨rfl, hc⟩), k2⟩
    ·
      have zs_k2 := k2.size
      replace hr := hr.pure k2
      replace kk := kk.pure k2
      replace hq := hq.pure k2
      replace hb := hb.pure k2
      have hrb := (ctd_bound bs' 0 (by omega) hc).2.2
      have e64 : ((B64 (r.length : Int)).toNat : Int) = r.length := by rw [B64_nat (by omega)]
      refine WL.move rfl rfl (WL.extract rfl rfl rfl (WL.extract rfl rfl rfl (WL.extract rfl rfl rfl (WL.assign rfl rfl (WL.assign rfl rfl (WL.assign rfl rfl (WL.nil (?_))))))))
      refine WX.then_normal (WC.block (WC.seq (WC.region (WL.move rfl rfl (WL.not rfl rfl (WL.move rfl rfl (WL.want rfl rfl rfl (?_))))))))
      refine WL.move rfl rfl (WL.want rfl rfl rfl (WL.len Try.underlying22 rfl rfl (WL.want rfl rfl rfl (?_))))
      refine WL.eql? rfl rfl rfl (fun h28 => ?_) (fun h28 => ?_)
      ·
        refine WL.pickF rfl rfl rfl (WL.assign rfl rfl (WL.nil (WX.then_normal (WC.cond_true rfl (WC.seq (WC.region (WL.assign rfl rfl (?_))))))))
        refine WL.assign rfl rfl (WL.nil (WX.then_normal (WC.ret (WX.block_ret (WX.block_ret (WX.then_ret (WX.block_ret (?_))))))))
        refine WX.then_ret (?_)
        refine WX.ret2 (.inl rfl) Try.results17 rfl rfl ?_
        first
          | (refine ⟨_, rfl, .inl ⟨out, a1, c1, rfl, ?_, hq⟩, kk⟩
             have : bs = [] := List.eq_nil_of_length_eq_zero (by omega)
             subst this
             exact decI_end hi)
          | (refine ⟨_, rfl, .inr ⟨rfl, decI_bad hi ?_⟩, kk⟩
             first
               | exact dec_none hc
               | (rw [dec_some hc]
                  first
                    | (rw [if_pos (by omega)]; done)
                    | (rw [if_neg (by omega), if_neg (by omega), if_neg (by omega)])))
      ·
        refine WL.pickF rfl rfl rfl (WL.assign rfl rfl (WL.nil (WX.then_normal (WC.cond_false rfl (WC.seq (WC.region (WL.move rfl rfl (?_))))))))
        refine WL.eql? rfl rfl rfl (fun h32 => ?_) (fun h32 => ?_)
        ·
          refine WL.assign rfl rfl (WL.nil (WX.then_normal (WC.cond_true rfl (WC.seq (WC.region (WL.move rfl rfl (WL.move rfl rfl (?_))))))))
          refine WL.num rfl rfl (n_shr64 _ _ _ _ 1 (by decide)) rfl (?_)
          refine WL.c_u64_i64s (n := u.toNat / 2) Try.underlying38 Try.underlying3 rfl ⟨shr1 u, by have := u.toNat_lt; omega⟩ rfl ?_
          refine WL.move rfl rfl (WL.num rfl rfl (n_and64 _ _ _ 1) rfl (?_))
          refine WL.c_u64_i64s (n := u.toNat % 2) Try.underlying38 Try.underlying3 rfl ⟨and1 u, by omega⟩ rfl ?_
          refine WL.neg64 rfl (by first | omega | (constructor <;> omega)) rfl (?_)
          refine WL.num rfl rfl (n_xornegb _ _ (u.toNat / 2) (u.toNat % 2) (by omega) (by have := u.toNat_lt; omega)) rfl ?_
          refine WL.bld rfl (bld_37_0_1 _ _) rfl (?_)
          refine WL.build (e := eit) [⟨1, unz u.toNat, ⟨#[]⟩⟩] Try.underlying22 Try.sizeOf37 Try.zeroValue37 rfl rfl rfl (by first | (simp [Value.cells]; done) | (simp [Value.cells] <;> rfl) | (simp [Value.cells, eb, ei, es, ebool, e32, e64]; done)) (by decide) rfl ?_
          intro a_hn w_hn hn l_hn z_hn k_hn
          have zs_k_hn := k_hn.size
          replace hr := hr.pure k_hn
          replace kk := kk.pure k_hn
          replace hq := hq.pure k_hn
          replace hb := hb.pure k_hn
          replace hr2 := hr2.pure k_hn
          refine WL.append (e := eit) info_37 rfl Try.underlying22 rfl rfl hq (hn.rsl.src Try.underlying22) (by (try simp only [List.length_append, List.length_cons, List.length_nil] at *); omega) (by intro b hb; first | (apply hS; omega) | ((try dsimp only); omega)) rfl ?_
          intro a_hq2 c_hq2 w_hq2 hq2 g_hq2 n_hq2
          have z_hq2 := g_hq2.chg.size
          have zs_g_hq2_chg := g_hq2.chg.size
          replace hr := hr.chg g_hq2.chg (by first | (intro h1; have h2 : _ = _ := h1; exfalso; omega) | (intros; exfalso; (try dsimp only at *); omega) | (intro b h1 h2 h3; exfalso; have h4 := h3.2; (try dsimp only at *); omega) | (intro h1; exfalso; have h4 := h1.2; (try dsimp only at *); omega) | (intro x h1 h2; exfalso; have h4 := h2.2; (try dsimp only at *); omega))
          replace kk := kk.chg g_hq2.chg (by first | (intro h1; have h2 : _ = _ := h1; exfalso; omega) | (intros; exfalso; (try dsimp only at *); omega) | (intro b h1 h2 h3; exfalso; have h4 := h3.2; (try dsimp only at *); omega) | (intro h1; exfalso; have h4 := h1.2; (try dsimp only at *); omega) | (intro x h1 h2; exfalso; have h4 := h2.2; (try dsimp only at *); omega))
          replace hb := hb.chg g_hq2.chg (by first | (intro h1; have h2 : _ = _ := h1; exfalso; omega) | (intros; exfalso; (try dsimp only at *); omega) | (intro b h1 h2 h3; exfalso; have h4 := h3.2; (try dsimp only at *); omega) | (intro h1; exfalso; have h4 := h1.2; (try dsimp only at *); omega) | (intro x h1 h2; exfalso; have h4 := h2.2; (try dsimp only at *); omega))
          replace hr2 := hr2.chg g_hq2.chg (by first | (intro h1; have h2 : _ = _ := h1; exfalso; omega) | (intros; exfalso; (try dsimp only at *); omega) | (intro b h1 h2 h3; exfalso; have h4 := h3.2; (try dsimp only at *); omega) | (intro h1; exfalso; have h4 := h1.2; (try dsimp only at *); omega) | (intro x h1 h2; exfalso; have h4 := h2.2; (try dsimp only at *); omega))
          refine WL.assign rfl rfl (WL.nil (WX.then_normal (WC.region (WL.move rfl rfl (WL.assign rfl rfl (WL.nil (WX.block_normal (?_))))))))
          refine WX.block_normal (?_)
          first
            | (refine WX.loop_next ((out ++ [⟨2, 0, ⟨(List.drop 0 (List.take u.toNat r)).toArray⟩⟩], a_hq2, c_hq2), (List.drop u.toNat (List.take r.length r), a_ht, c_ht)) ⟨rfl, rfl, trivial⟩ ⟨by dsimp only; simp; omega, by dsimp only; simp; omega, ?_, hq2, ht, kk⟩ (by show (List.drop u.toNat (List.take r.length r)).length < (x :: bs').length; simp; omega)
               have e1 : List.drop u.toNat (List.take r.length r) = r.drop u.toNat := by simp
               rw [e1]
               refine decI_step hi ?_
               rw [dec_some hc, if_neg (by omega), if_neg (by omega), if_pos (by omega)]
               rfl)
            | (refine WX.loop_next ((out ++ [⟨1, unz u.toNat, ⟨#[]⟩⟩], a_hq2, c_hq2), (r, ar, cr)) ⟨rfl, rfl, trivial⟩ ⟨by dsimp only; simp; omega, by dsimp only; omega, ?_, hq2, hr2, kk⟩ (by show r.length < (x :: bs').length; simp; omega)
               refine decI_step hi ?_
               rw [dec_some hc, if_neg (by omega), if_pos (by omega)])
        ·
          refine WL.assign rfl rfl (WL.nil (WX.then_normal (WC.cond_false rfl (WC.seq (WC.region (WL.move rfl rfl (?_)))))))
          refine WL.eql? rfl rfl rfl (fun h48 => ?_) (fun h48 => ?_)
          ·
            refine WL.move rfl rfl (WL.want rfl rfl rfl (WL.move rfl rfl (WL.want rfl rfl rfl (?_))))
            refine WL.leq? rfl rfl rfl (fun h51 => ?_) (fun h51 => ?_)
            ·
              refine WL.pickT rfl rfl rfl (WL.move rfl rfl (WL.want rfl rfl rfl (WL.move rfl rfl (WL.want rfl rfl rfl (WL.move rfl rfl (WL.want rfl rfl rfl (WL.len Try.underlying24 rfl rfl (?_))))))))
              refine WL.want rfl rfl rfl (WL.c_i64_u64 Try.underlying3 Try.underlying38 rfl rfl (WL.want rfl rfl rfl (?_)))
              refine WL.leq? rfl rfl rfl (fun h58 => ?_) (fun h58 => ?_)
              ·
                refine WL.pickT rfl rfl rfl (WL.assign rfl rfl (WL.nil (WX.then_normal (WC.cond_true rfl (WC.seq (WC.region (WL.move rfl rfl (?_))))))))
                refine WL.move rfl rfl (WL.move rfl rfl (?_))
                refine WL.slice (l := 0) (h := u.toNat) (k := .i64) Try.underlying24 Try.sizeOf5 hr2 rfl (.inr ⟨rfl, rfl⟩) (.inl rfl) (by constructor <;> omega) rfl ?_
                intro a_hs c_hs hs n_hs
                refine WL.toStr Try.underlying24 Try.underlying5 Try.underlying9 hs rfl rfl ?_
                refine WL.bld rfl (bld_37_0_2 _ _) rfl (?_)
                refine WL.build (e := eit) [⟨2, 0, ⟨(List.drop 0 (List.take u.toNat r)).toArray⟩⟩] Try.underlying22 Try.sizeOf37 Try.zeroValue37 rfl rfl rfl (by first | (simp [Value.cells]; done) | (simp [Value.cells] <;> rfl) | (simp [Value.cells, eb, ei, es, ebool, e32, e64]; done)) (by decide) rfl ?_
                intro a_hn w_hn hn l_hn z_hn k_hn
                have zs_k_hn := k_hn.size
                replace hr := hr.pure k_hn
                replace kk := kk.pure k_hn
                replace hq := hq.pure k_hn
                replace hb := hb.pure k_hn
                replace hr2 := hr2.pure k_hn
                replace hs := hs.pure k_hn
                refine WL.append (e := eit) info_37 rfl Try.underlying22 rfl rfl hq (hn.rsl.src Try.underlying22) (by (try simp only [List.length_append, List.length_cons, List.length_nil] at *); omega) (by intro b hb; first | (apply hS; omega) | ((try dsimp only); omega)) rfl ?_
                intro a_hq2 c_hq2 w_hq2 hq2 g_hq2 n_hq2
                have z_hq2 := g_hq2.chg.size
                have zs_g_hq2_chg := g_hq2.chg.size
                replace hr := hr.chg g_hq2.chg (by first | (intro h1; have h2 : _ = _ := h1; exfalso; omega) | (intros; exfalso; (try dsimp only at *); omega) | (intro b h1 h2 h3; exfalso; have h4 := h3.2; (try dsimp only at *); omega) | (intro h1; exfalso; have h4 := h1.2; (try dsimp only at *); omega) | (intro x h1 h2; exfalso; have h4 := h2.2; (try dsimp only at *); omega))
                replace kk := kk.chg g_hq2.chg (by first | (intro h1; have h2 : _ = _ := h1; exfalso; omega) | (intros; exfalso; (try dsimp only at *); omega) | (intro b h1 h2 h3; exfalso; have h4 := h3.2; (try dsimp only at *); omega) | (intro h1; exfalso; have h4 := h1.2; (try dsimp only at *); omega) | (intro x h1 h2; exfalso; have h4 := h2.2; (try dsimp only at *); omega))
                replace hb := hb.chg g_hq2.chg (by first | (intro h1; have h2 : _ = _ := h1; exfalso; omega) | (intros; exfalso; (try dsimp only at *); omega) | (intro b h1 h2 h3; exfalso; have h4 := h3.2; (try dsimp only at *); omega) | (intro h1; exfalso; have h4 := h1.2; (try dsimp only at *); omega) | (intro x h1 h2; exfalso; have h4 := h2.2; (try dsimp only at *); omega))
                replace hr2 := hr2.chg g_hq2.chg (by first | (intro h1; have h2 : _ = _ := h1; exfalso; omega) | (intros; exfalso; (try dsimp only at *); omega) | (intro b h1 h2 h3; exfalso; have h4 := h3.2; (try dsimp only at *); omega) | (intro h1; exfalso; have h4 := h1.2; (try dsimp only at *); omega) | (intro x h1 h2; exfalso; have h4 := h2.2; (try dsimp only at *); omega))
                replace hs := hs.chg g_hq2.chg (by first | (intro h1; have h2 : _ = _ := h1; exfalso; omega) | (intros; exfalso; (try dsimp only at *); omega) | (intro b h1 h2 h3; exfalso; have h4 := h3.2; (try dsimp only at *); omega) | (intro h1; exfalso; have h4 := h1.2; (try dsimp only at *); omega) | (intro x h1 h2; exfalso; have h4 := h2.2; (try dsimp only at *); omega))
                refine WL.assign rfl rfl (WL.nil (WX.then_normal (WC.region (WL.move rfl rfl (WL.move rfl rfl (?_))))))
                refine WL.slice (l := u.toNat) (h := r.length) (j := .i64) Try.underlying24 Try.sizeOf5 hr2 rfl (.inl rfl) (.inr ⟨rfl, rfl⟩) (by constructor <;> omega) rfl ?_
                intro a_ht c_ht ht n_ht
                refine WL.assign rfl rfl (WL.nil (WX.block_normal (WX.block_normal (?_))))
                first
                  | (refine WX.loop_next ((out ++ [⟨2, 0, ⟨(List.drop 0 (List.take u.toNat r)).toArray⟩⟩], a_hq2, c_hq2), (List.drop u.toNat (List.take r.length r), a_ht, c_ht)) ⟨rfl, rfl, trivial⟩ ⟨by dsimp only; simp; omega, by dsimp only; simp; omega, ?_, hq2, ht, kk⟩ (by show (List.drop u.toNat (List.take r.length r)).length < (x :: bs').length; simp; omega)
                     have e1 : List.drop u.toNat (List.take r.length r) = r.drop u.toNat := by simp
                     rw [e1]
                     refine decI_step hi ?_
                     rw [dec_some hc, if_neg (by omega), if_neg (by omega), if_pos (by omega)]
                     rfl)
                  | (refine WX.loop_next ((out ++ [⟨1, unz u.toNat, ⟨#[]⟩⟩], a_hq2, c_hq2), (r, ar, cr)) ⟨rfl, rfl, trivial⟩ ⟨by dsimp only; simp; omega, by dsimp only; omega, ?_, hq2, hr2, kk⟩ (by show r.length < (x :: bs').length; simp; omega)
                     refine decI_step hi ?_
                     rw [dec_some hc, if_neg (by omega), if_pos (by omega)])
              ·
                refine WL.pickT rfl rfl rfl (WL.assign rfl rfl (WL.nil (WX.then_normal (WC.cond_false rfl (WC.seq (WC.region (WL.assign rfl rfl (?_))))))))
                refine WL.assign rfl rfl (WL.nil (WX.then_normal (WC.ret (WX.block_ret (WX.block_ret (WX.then_ret (WX.block_ret (?_))))))))
                refine WX.then_ret (?_)
                refine WX.ret2 (.inl rfl) Try.results17 rfl rfl ?_
                first
                  | (refine ⟨_, rfl, .inl ⟨out, a1, c1, rfl, ?_, hq⟩, kk⟩
                     have : bs = [] := List.eq_nil_of_length_eq_zero (by omega)
                     subst this
                     exact decI_end hi)
                  | (refine ⟨_, rfl, .inr ⟨rfl, decI_bad hi ?_⟩, kk⟩
                     first
                       | exact dec_none hc
                       | (rw [dec_some hc]
                          first
                            | (rw [if_pos (by omega)]; done)
                            | (rw [if_neg (by omega), if_neg (by omega), if_neg (by omega)])))
            ·
              refine WL.pickT rfl rfl rfl (WL.move rfl rfl (WL.pass rfl rfl rfl rfl (WL.pass rfl rfl rfl rfl (WL.pass rfl rfl rfl rfl (WL.pass rfl rfl rfl rfl (WL.pass rfl rfl rfl rfl (WL.pickF rfl rfl rfl (?_))))))))
              refine WL.assign rfl rfl (WL.nil (WX.then_normal (WC.cond_false rfl (WC.seq (WC.region (WL.assign rfl rfl (WL.assign rfl rfl (?_))))))))
              refine WL.nil (WX.then_normal (WC.ret (WX.block_ret (WX.block_ret (WX.then_ret (WX.block_ret (WX.then_ret (?_))))))))
              refine WX.ret2 (.inl rfl) Try.results17 rfl rfl ?_
              first
                | (refine ⟨_, rfl, .inl ⟨out, a1, c1, rfl, ?_, hq⟩, kk⟩
                   have : bs = [] := List.eq_nil_of_length_eq_zero (by omega)
                   subst this
                   exact decI_end hi)
                | (refine ⟨_, rfl, .inr ⟨rfl, decI_bad hi ?_⟩, kk⟩
                   first
                     | exact dec_none hc
                     | (rw [dec_some hc]
                        first
                          | (rw [if_pos (by omega)]; done)
                          | (rw [if_neg (by omega), if_neg (by omega), if_neg (by omega)])))
          ·
            refine WL.move rfl rfl (WL.pass rfl rfl rfl rfl (WL.pass rfl rfl rfl rfl (WL.pickF rfl rfl rfl (WL.move rfl rfl (WL.pass rfl rfl rfl rfl (WL.pass rfl rfl rfl rfl (WL.pass rfl rfl rfl rfl (?_))))))))
            refine WL.pass rfl rfl rfl rfl (WL.pass rfl rfl rfl rfl (WL.pickF rfl rfl rfl (WL.assign rfl rfl (WL.nil (WX.then_normal (WC.cond_false rfl (WC.seq (?_))))))))
            refine WC.region (WL.assign rfl rfl (WL.assign rfl rfl (WL.nil (WX.then_normal (WC.ret (WX.block_ret (WX.block_ret (?_))))))))
            refine WX.then_ret (WX.block_ret (WX.then_ret (?_)))
            refine WX.ret2 (.inl rfl) Try.results17 rfl rfl ?_
            first
              | (refine ⟨_, rfl, .inl ⟨out, a1, c1, rfl, ?_, hq⟩, kk⟩
                 have : bs = [] := List.eq_nil_of_length_eq_zero (by omega)
                 subst this
                 exact decI_end hi)
              | (refine ⟨_, rfl, .inr ⟨rfl, decI_bad hi ?_⟩, kk⟩
                 first
                   | exact dec_none hc
                   | (rw [dec_some hc]
                      first
                        | (rw [if_pos (by omega)]; done)
                        | (rw [if_neg (by omega), if_neg (by omega), if_neg (by omega)])))
    ·
      have zs_k2 := k2.size
      replace hr := hr.pure k2
      replace kk := kk.pure k2
      replace hq := hq.pure k2
      replace hb := hb.pure k2
      refine WL.move rfl rfl (WL.extract rfl rfl rfl (WL.extract rfl rfl rfl (WL.extract rfl rfl rfl (WL.assign rfl rfl (WL.assign rfl rfl (WL.assign rfl rfl (WL.nil (?_))))))))
      refine WX.then_normal (WC.block (WC.seq (WC.region (WL.move rfl rfl (WL.not rfl rfl (WL.move rfl rfl (WL.pass rfl rfl rfl rfl (?_))))))))
      refine WL.pass rfl rfl rfl rfl (WL.pass rfl rfl rfl rfl (WL.pickT rfl rfl rfl (WL.assign rfl rfl (WL.nil (WX.then_normal (WC.cond_true rfl (WC.seq (?_))))))))
      refine WC.region (WL.assign rfl rfl (WL.assign rfl rfl (WL.nil (WX.then_normal (WC.ret (WX.block_ret (WX.block_ret (?_))))))))
      refine WX.then_ret (WX.block_ret (WX.then_ret (?_)))
      refine WX.ret2 (.inl rfl) Try.results17 rfl rfl ?_
      first
        | (refine ⟨_, rfl, .inl ⟨out, a1, c1, rfl, ?_, hq⟩, kk⟩
           have : bs = [] := List.eq_nil_of_length_eq_zero (by omega)
           subst this
           exact decI_end hi)
        | (refine ⟨_, rfl, .inr ⟨rfl, decI_bad hi ?_⟩, kk⟩
           first
             | exact dec_none hc
             | (rw [dec_some hc]
                first
                  | (rw [if_pos (by omega)]; done)
                  | (rw [if_neg (by omega), if_neg (by omega), if_neg (by omega)])))
  ·
    refine WL.nil (WX.then_normal (WC.cond_false rfl (WC.exit (WX.then_exit (WX.then_exit (WX.block_here (WX.then_normal (?_))))))))
    refine WC.seq (WC.region (WL.move rfl rfl (WL.assign rfl rfl (WL.assign rfl rfl (WL.nil (WX.then_normal (WC.ret (?_))))))))
    refine WX.ret2 (.inl rfl) Try.results17 rfl rfl ?_
    first
      | (refine ⟨_, rfl, .inl ⟨out, a1, c1, rfl, ?_, hq⟩, kk⟩
         have : bs = [] := List.eq_nil_of_length_eq_zero (by omega)
         subst this
         exact decI_end hi)
      | (refine ⟨_, rfl, .inr ⟨rfl, decI_bad hi ?_⟩, kk⟩
         first
           | exact dec_none hc
           | (rw [dec_some hc]
              first
                | (rw [if_pos (by omega)]; done)
                | (rw [if_neg (by omega), if_neg (by omega), if_neg (by omega)])))
end Go.Proofs.Ytfkaioldfmapjaa
