import Derived.Test.YtcdbkfaebgficaaDoorQPackApart6
namespace Go.Proofs.YtcdbkfaebgficaaDoor
open Go.RowKit Go.HL

/-! what is handed in stays as it is -/
def zi : Item := ⟨0, 0, ⟨#[]⟩⟩
theorem app9 (b : List UInt8) : (List.replicate (b.length + 9) (0 : UInt8)).take 0 ++ b ++ (List.replicate (b.length + 9) 0).drop (0 + b.length) = b ++ List.replicate 9 0 := by
  rw [List.take_zero, List.nil_append, Nat.zero_add, List.drop_replicate, show b.length + 9 - b.length = 9 from by omega]
theorem appI (l : List Item) : (List.replicate (l.length + 2) zi).take 0 ++ l ++ (List.replicate (l.length + 2) zi).drop (0 + l.length) = l ++ [zi, zi] := by
  rw [List.take_zero, List.nil_append, Nat.zero_add, List.drop_replicate, show l.length + 2 - l.length = 2 from by omega]
  rfl
theorem enc_bound (l : List Item) : (if checkE l = 0 then encAll l else []).length ≤ 140737488351232 := by
  split
  · rename_i h0
    obtain ⟨h1, h2⟩ := checkE_ok h0
    have := encAll_len h2
    omega
  · simp
set_option maxHeartbeats 4000000 in
theorem packApart_calls {w : World} {al ab : Option Addr} {cl cb : Nat} {l : List Item} {b : List UInt8} (hb : RSl (· < w.heap.size) w eb ab cb b) (hl : RSl (· < w.heap.size) w eit al cl l) (bl : l.length ≤ 4398046511104) (bb : b.length ≤ 140737488351232) :
    Calls Tryd.prog 3 [.slice ab b.length cb, .slice al l.length cl].toArray w (Ret fun v w' => v = .bool true ∧ Chg Nob w w') := by
  have hw := Chg.refl Nob w
  refine Calls.of_WC Tryd.func3 rfl Tryd.ntmps3 (by simp) ?_
  refine WC.seq (WC.region (WL.assign rfl rfl (WL.nil (WX.then_normal (WC.seq (WC.seq (WC.region (?_))))))))
  refine WL.call eg_13 rfl rfl (known5_calls _) ?_
  rintro v w0 ⟨rfl, k0⟩
  have zs_k0 := k0.size
  replace hb := hb.pure k0
  replace hl := hl.pure k0
  replace hw := hw.pure k0
  refine WL.not rfl rfl (WL.move rfl rfl (WL.want rfl rfl rfl (WL.move rfl rfl (WL.want rfl rfl rfl (WL.len Tryd.underlying22 rfl rfl (WL.want rfl rfl rfl (?_)))))))
  refine WL.gtr? rfl rfl rfl (fun h24 => ?_) (fun h24 => ?_)
  ·
    refine WL.pickF rfl rfl rfl (WL.nil (WX.then_normal (WC.cond_true rfl (WC.seq (WC.region (?_))))))
    refine WL.call eg_13 rfl rfl (known5_calls _) ?_
    rintro v w0 ⟨rfl, k0⟩
    have zs_k0 := k0.size
    replace hb := hb.pure k0
    replace hl := hl.pure k0
    replace hw := hw.pure k0
    refine WL.assign rfl rfl (WL.nil (WX.then_normal (WC.ret (WX.then_ret (?_)))))
    refine WX.ret1 (.inl rfl) Tryd.results3 rfl ?_
    exact ⟨_, rfl, rfl, hw⟩
  ·
    refine WL.pickF rfl rfl rfl (WL.nil (WX.then_normal (WC.cond_false rfl (WC.skip (WX.then_normal (WC.seq (WC.region (?_))))))))
    refine WL.move rfl rfl (WL.len Tryd.underlying22 rfl rfl (WL.add64 rfl rfl (by first | omega | (constructor <;> omega)) rfl (?_)))
    have zw0 := hw.size
    refine WL.makeB (e := eb) (0 : UInt8) 0 (b.length + 9) Tryd.underlying22 info_5 rfl rfl rfl ⟨rfl, by omega, by omega⟩ (by constructor <;> omega) rfl ?_
    intro g w1 hB k1 z1 eg
    have zs_k1 := k1.size
    replace hb := hb.pure k1
    replace hl := hl.pure k1
    replace hw := hw.pure k1
    refine WL.move rfl rfl (?_)
    refine WL.appendB (e := eb) info_5 Tryd.underlying22 rfl rfl hB (by simp) (hb.src Tryd.underlying22) (by omega) rfl ?_
    intro w2 hB2 k2 z2
    have zs_k2 := k2.size
    replace hb := hb.chg k2 (by first | (intro x h1 h2; exact h2) | (intro x h0 h1 h2; exact hS x h1 h2) | (intro x h0 h1 h2; have h3 : _ = _ := h2; subst h3; exact hSR h1.1) | (intro x h1 h2; have h3 : _ = _ := h2; subst h3; assumption) | (intro x h1 h2; have h3 : _ = _ := h2; exfalso; omega) | (intro b h1 h2 h3; have h4 : _ = _ := h3; (try dsimp only at h2); exfalso; omega) | (intro h1; have h2 : _ = _ := h1; exfalso; omega) | (intro h1; have h2 : _ ≤ _ := h1; exfalso; omega) | (intros; exfalso; (try dsimp only at *); omega) | (intro b h1 h2 h3; exfalso; have h4 := h3.2; (try dsimp only at *); omega) | (intro h1; exfalso; have h4 := h1.2; (try dsimp only at *); omega) | (intro x h1 h2; exfalso; have h4 := h2.2; (try dsimp only at *); omega) | (intro x h1 h2; exact ⟨_, rfl, h2⟩) | (intro x h1 h2; have h4 := h2.1; have h5 := h2.2; exfalso; omega) | (intro x h1 h2; exact h2.1) | (intro x h1 h2; rcases h2.1 with h3 | h3; exact h3; exfalso; omega) | (intro x h1 h2; rcases h2 with h3 | h3; exact h3; exfalso; omega))
    replace hl := hl.chg k2 (by first | (intro x h1 h2; exact h2) | (intro x h0 h1 h2; exact hS x h1 h2) | (intro x h0 h1 h2; have h3 : _ = _ := h2; subst h3; exact hSR h1.1) | (intro x h1 h2; have h3 : _ = _ := h2; subst h3; assumption) | (intro x h1 h2; have h3 : _ = _ := h2; exfalso; omega) | (intro b h1 h2 h3; have h4 : _ = _ := h3; (try dsimp only at h2); exfalso; omega) | (intro h1; have h2 : _ = _ := h1; exfalso; omega) | (intro h1; have h2 : _ ≤ _ := h1; exfalso; omega) | (intros; exfalso; (try dsimp only at *); omega) | (intro b h1 h2 h3; exfalso; have h4 := h3.2; (try dsimp only at *); omega) | (intro h1; exfalso; have h4 := h1.2; (try dsimp only at *); omega) | (intro x h1 h2; exfalso; have h4 := h2.2; (try dsimp only at *); omega) | (intro x h1 h2; exact ⟨_, rfl, h2⟩) | (intro x h1 h2; have h4 := h2.1; have h5 := h2.2; exfalso; omega) | (intro x h1 h2; exact h2.1) | (intro x h1 h2; rcases h2.1 with h3 | h3; exact h3; exfalso; omega) | (intro x h1 h2; rcases h2 with h3 | h3; exact h3; exfalso; omega))
    replace hw := hw.chg k2 (by first | (intro x h1 h2; exact h2) | (intro x h0 h1 h2; exact hS x h1 h2) | (intro x h0 h1 h2; have h3 : _ = _ := h2; subst h3; exact hSR h1.1) | (intro x h1 h2; have h3 : _ = _ := h2; subst h3; assumption) | (intro x h1 h2; have h3 : _ = _ := h2; exfalso; omega) | (intro b h1 h2 h3; have h4 : _ = _ := h3; (try dsimp only at h2); exfalso; omega) | (intro h1; have h2 : _ = _ := h1; exfalso; omega) | (intro h1; have h2 : _ ≤ _ := h1; exfalso; omega) | (intros; exfalso; (try dsimp only at *); omega) | (intro b h1 h2 h3; exfalso; have h4 := h3.2; (try dsimp only at *); omega) | (intro h1; exfalso; have h4 := h1.2; (try dsimp only at *); omega) | (intro x h1 h2; exfalso; have h4 := h2.2; (try dsimp only at *); omega) | (intro x h1 h2; exact ⟨_, rfl, h2⟩) | (intro x h1 h2; have h4 := h2.1; have h5 := h2.2; exfalso; omega) | (intro x h1 h2; exact h2.1) | (intro x h1 h2; rcases h2.1 with h3 | h3; exact h3; exfalso; omega) | (intro x h1 h2; rcases h2 with h3 | h3; exact h3; exfalso; omega))
    rw [app9] at hB2
    have hI := RSl.ofBlk (c := b.length + 9) hB2 (by simp)
    have hin := hI.take b.length (by simp)
    rw [List.take_left] at hin
    rw [Nat.zero_add]
    have hgw : w.heap.size ≤ g ∧ g < w2.heap.size := by omega
    refine WL.assign rfl rfl (WL.nil (WX.then_normal (WC.seq (WC.region (WL.move rfl rfl (WL.len Tryd.underlying23 rfl rfl (WL.add64 rfl rfl (by first | omega | (constructor <;> omega)) rfl (?_))))))))
    refine WL.makeB (e := eit) zi 0 (l.length + 2) Tryd.underlying23 info_31 rfl rfl rfl ⟨rfl, by omega, by omega⟩ (by constructor <;> omega) rfl ?_
    intro g5 w5 hC k5 z5 eg5
    have zs_k5 := k5.size
    replace hb := hb.pure k5
    replace hl := hl.pure k5
    replace hw := hw.pure k5
    replace hI := hI.pure k5
    replace hin := hin.pure k5
    refine WL.move rfl rfl (?_)
    refine WL.appendB (e := eit) info_31 Tryd.underlying23 rfl rfl hC (by simp) (hl.src Tryd.underlying23) (by omega) rfl ?_
    intro w6 hC2 k6 z6
    have zs_k6 := k6.size
    replace hb := hb.chg k6 (by first | (intro x h1 h2; exact h2) | (intro x h0 h1 h2; exact hS x h1 h2) | (intro x h0 h1 h2; have h3 : _ = _ := h2; subst h3; exact hSR h1.1) | (intro x h1 h2; have h3 : _ = _ := h2; subst h3; assumption) | (intro x h1 h2; have h3 : _ = _ := h2; exfalso; omega) | (intro b h1 h2 h3; have h4 : _ = _ := h3; (try dsimp only at h2); exfalso; omega) | (intro h1; have h2 : _ = _ := h1; exfalso; omega) | (intro h1; have h2 : _ ≤ _ := h1; exfalso; omega) | (intros; exfalso; (try dsimp only at *); omega) | (intro b h1 h2 h3; exfalso; have h4 := h3.2; (try dsimp only at *); omega) | (intro h1; exfalso; have h4 := h1.2; (try dsimp only at *); omega) | (intro x h1 h2; exfalso; have h4 := h2.2; (try dsimp only at *); omega) | (intro x h1 h2; exact ⟨_, rfl, h2⟩) | (intro x h1 h2; have h4 := h2.1; have h5 := h2.2; exfalso; omega) | (intro x h1 h2; exact h2.1) | (intro x h1 h2; rcases h2.1 with h3 | h3; exact h3; exfalso; omega) | (intro x h1 h2; rcases h2 with h3 | h3; exact h3; exfalso; omega))
    replace hl := hl.chg k6 (by first | (intro x h1 h2; exact h2) | (intro x h0 h1 h2; exact hS x h1 h2) | (intro x h0 h1 h2; have h3 : _ = _ := h2; subst h3; exact hSR h1.1) | (intro x h1 h2; have h3 : _ = _ := h2; subst h3; assumption) | (intro x h1 h2; have h3 : _ = _ := h2; exfalso; omega) | (intro b h1 h2 h3; have h4 : _ = _ := h3; (try dsimp only at h2); exfalso; omega) | (intro h1; have h2 : _ = _ := h1; exfalso; omega) | (intro h1; have h2 : _ ≤ _ := h1; exfalso; omega) | (intros; exfalso; (try dsimp only at *); omega) | (intro b h1 h2 h3; exfalso; have h4 := h3.2; (try dsimp only at *); omega) | (intro h1; exfalso; have h4 := h1.2; (try dsimp only at *); omega) | (intro x h1 h2; exfalso; have h4 := h2.2; (try dsimp only at *); omega) | (intro x h1 h2; exact ⟨_, rfl, h2⟩) | (intro x h1 h2; have h4 := h2.1; have h5 := h2.2; exfalso; omega) | (intro x h1 h2; exact h2.1) | (intro x h1 h2; rcases h2.1 with h3 | h3; exact h3; exfalso; omega) | (intro x h1 h2; rcases h2 with h3 | h3; exact h3; exfalso; omega))
    replace hw := hw.chg k6 (by first | (intro x h1 h2; exact h2) | (intro x h0 h1 h2; exact hS x h1 h2) | (intro x h0 h1 h2; have h3 : _ = _ := h2; subst h3; exact hSR h1.1) | (intro x h1 h2; have h3 : _ = _ := h2; subst h3; assumption) | (intro x h1 h2; have h3 : _ = _ := h2; exfalso; omega) | (intro b h1 h2 h3; have h4 : _ = _ := h3; (try dsimp only at h2); exfalso; omega) | (intro h1; have h2 : _ = _ := h1; exfalso; omega) | (intro h1; have h2 : _ ≤ _ := h1; exfalso; omega) | (intros; exfalso; (try dsimp only at *); omega) | (intro b h1 h2 h3; exfalso; have h4 := h3.2; (try dsimp only at *); omega) | (intro h1; exfalso; have h4 := h1.2; (try dsimp only at *); omega) | (intro x h1 h2; exfalso; have h4 := h2.2; (try dsimp only at *); omega) | (intro x h1 h2; exact ⟨_, rfl, h2⟩) | (intro x h1 h2; have h4 := h2.1; have h5 := h2.2; exfalso; omega) | (intro x h1 h2; exact h2.1) | (intro x h1 h2; rcases h2.1 with h3 | h3; exact h3; exfalso; omega) | (intro x h1 h2; rcases h2 with h3 | h3; exact h3; exfalso; omega))
    replace hI := hI.chg k6 (by first | (intro x h1 h2; exact h2) | (intro x h0 h1 h2; exact hS x h1 h2) | (intro x h0 h1 h2; have h3 : _ = _ := h2; subst h3; exact hSR h1.1) | (intro x h1 h2; have h3 : _ = _ := h2; subst h3; assumption) | (intro x h1 h2; have h3 : _ = _ := h2; exfalso; omega) | (intro b h1 h2 h3; have h4 : _ = _ := h3; (try dsimp only at h2); exfalso; omega) | (intro h1; have h2 : _ = _ := h1; exfalso; omega) | (intro h1; have h2 : _ ≤ _ := h1; exfalso; omega) | (intros; exfalso; (try dsimp only at *); omega) | (intro b h1 h2 h3; exfalso; have h4 := h3.2; (try dsimp only at *); omega) | (intro h1; exfalso; have h4 := h1.2; (try dsimp only at *); omega) | (intro x h1 h2; exfalso; have h4 := h2.2; (try dsimp only at *); omega) | (intro x h1 h2; exact ⟨_, rfl, h2⟩) | (intro x h1 h2; have h4 := h2.1; have h5 := h2.2; exfalso; omega) | (intro x h1 h2; exact h2.1) | (intro x h1 h2; rcases h2.1 with h3 | h3; exact h3; exfalso; omega) | (intro x h1 h2; rcases h2 with h3 | h3; exact h3; exfalso; omega))
    replace hin := hin.chg k6 (by first | (intro x h1 h2; exact h2) | (intro x h0 h1 h2; exact hS x h1 h2) | (intro x h0 h1 h2; have h3 : _ = _ := h2; subst h3; exact hSR h1.1) | (intro x h1 h2; have h3 : _ = _ := h2; subst h3; assumption) | (intro x h1 h2; have h3 : _ = _ := h2; exfalso; omega) | (intro b h1 h2 h3; have h4 : _ = _ := h3; (try dsimp only at h2); exfalso; omega) | (intro h1; have h2 : _ = _ := h1; exfalso; omega) | (intro h1; have h2 : _ ≤ _ := h1; exfalso; omega) | (intros; exfalso; (try dsimp only at *); omega) | (intro b h1 h2 h3; exfalso; have h4 := h3.2; (try dsimp only at *); omega) | (intro h1; exfalso; have h4 := h1.2; (try dsimp only at *); omega) | (intro x h1 h2; exfalso; have h4 := h2.2; (try dsimp only at *); omega) | (intro x h1 h2; exact ⟨_, rfl, h2⟩) | (intro x h1 h2; have h4 := h2.1; have h5 := h2.2; exfalso; omega) | (intro x h1 h2; exact h2.1) | (intro x h1 h2; rcases h2.1 with h3 | h3; exact h3; exfalso; omega) | (intro x h1 h2; rcases h2 with h3 | h3; exact h3; exfalso; omega))
    rw [appI] at hC2
    have hJ := RSl.ofBlk (c := l.length + 2) hC2 (by simp)
    have hit := hJ.take l.length (by simp)
    rw [List.take_left] at hit
    rw [Nat.zero_add]
    have hg5w : g < g5 ∧ g5 < w6.heap.size := by omega
    refine WL.assign rfl rfl (WL.nil (WX.then_normal (WC.seq (WC.region (WL.move rfl rfl (?_))))))
    have hi2 := hit.old
    refine WL.call eg_14 rfl rfl (encode_calls hi2 (by omega)) ?_
    rintro v w7 ⟨a7, c7, rfl, hx, k7⟩
    obtain ⟨X, eX⟩ : ∃ X, X = (if checkE l = 0 then encAll l else []) := ⟨_, rfl⟩
    rw [← eX] at hx ⊢
    have hXl : X.length ≤ 140737488351232 := by rw [eX]; exact enc_bound l
    have zs_k7 := k7.size
    replace hb := hb.pure k7
    replace hl := hl.pure k7
    replace hw := hw.pure k7
    replace hI := hI.pure k7
    replace hin := hin.pure k7
    replace hit := hit.pure k7
    replace hx : Row (fun x => g5 < x) w7 5 eb a7 c7 X := hx.mono (fun x hx => by omega)
    replace hx := hx.lt
    refine WL.move rfl rfl (WL.extract rfl rfl rfl (WL.extract rfl rfl rfl (WL.assign rfl rfl (WL.assign rfl rfl (WL.nil (WX.then_normal (WC.seq (?_))))))))
    refine WC.region (WL.move rfl rfl (?_))
    have hi2 := hin.old
    obtain ⟨n7, hn7⟩ : ∃ n7, n7 = w7.heap.size := ⟨_, rfl⟩
    rw [← hn7] at hx
    refine WL.call eg_15 rfl rfl (decode_calls' hi2 (by omega)) ?_
    rintro v w8 ⟨⟨a8, c8, rfl, hy⟩, k8⟩
    have zs_k8 := k8.size
    replace hb := hb.pure k8
    replace hl := hl.pure k8
    replace hw := hw.pure k8
    replace hI := hI.pure k8
    replace hin := hin.pure k8
    replace hit := hit.pure k8
    replace hx := hx.pure k8
    replace hy : Row (fun x => n7 ≤ x) w8 31 eit a8 c8 (decL b) := hy.mono (fun x hx => by omega)
    have hgn : g5 < n7 := by omega
    replace hy := hy.lt
    obtain ⟨n8, hn8⟩ : ∃ n8, n8 = w8.heap.size := ⟨_, rfl⟩
    rw [← hn8] at hy
    refine WL.move rfl rfl (WL.extract rfl rfl rfl (WL.extract rfl rfl rfl (WL.assign rfl rfl (WL.assign rfl rfl (WL.nil (WX.then_normal (WC.seq (?_))))))))
    refine WC.region (WL.move rfl rfl (?_))
    have hi2 := hit.old
    refine WL.call eg_16 rfl rfl (sector_calls hi2 (by omega)) ?_
    rintro v w9 ⟨⟨a9, c9, rfl, _⟩, k9⟩
    have zs_k9 := k9.size
    replace hb := hb.pure k9
    replace hl := hl.pure k9
    replace hw := hw.pure k9
    replace hI := hI.pure k9
    replace hin := hin.pure k9
    replace hit := hit.pure k9
    replace hx := hx.pure k9
    replace hy := hy.pure k9
    refine WL.nil (WX.then_normal (WC.seq (WC.region (WL.move rfl rfl (?_)))))
    have hi2 := hin.old
    refine WL.call eg_17 rfl rfl (unsector_calls hi2 (by omega)) ?_
    rintro v w10 ⟨⟨a10, c10, rfl, _⟩, k10⟩
    have zs_k10 := k10.size
    replace hb := hb.pure k10
    replace hl := hl.pure k10
    replace hw := hw.pure k10
    replace hI := hI.pure k10
    replace hin := hin.pure k10
    replace hit := hit.pure k10
    replace hx := hx.pure k10
    replace hy := hy.pure k10
    refine WL.nil (WX.then_normal (WC.seq (WC.seq (WC.region (WL.assign rfl rfl (WL.nil (WX.then_normal (?_))))))))
    refine WC.block (?_)
    refine WC.loop (σ := List UInt8 × Nat) (fun q => [(0, .slice ab b.length cb), (1, .slice al l.length cl), (5, .slice (some ⟨g, 0, none⟩) b.length (b.length + 9)), (6, .slice (some ⟨g5, 0, none⟩) l.length (l.length + 2)), (7, .slice a7 q.1.length c7), (9, .slice a8 (decL b).length c8), (11, vi q.2)])
      (fun q w' => q.2 ≤ q.1.length ∧ q.1.length ≤ 140737488351232 ∧ RSl (· < w.heap.size) w' eb ab cb b ∧ RSl (· < w.heap.size) w' eit al cl l ∧ RSl (· = g) w' eb (some ⟨g, 0, none⟩) (b.length + 9) (b ++ List.replicate 9 0) ∧ RSl (· = g) w' eb (some ⟨g, 0, none⟩) (b.length + 9) b ∧ RSl (· = g5) w' eit (some ⟨g5, 0, none⟩) (l.length + 2) l ∧
        Row (fun x => g5 < x ∧ x < n7) w' 5 eb a7 c7 q.1 ∧ Row (fun x => n7 ≤ x ∧ x < n8) w' 31 eit a8 c8 (decL b) ∧ Chg Nob w w') (fun q => q.1.length - q.2) (X, 0) ⟨rfl, rfl, rfl, rfl, rfl, rfl, rfl, trivial⟩
      ⟨Nat.zero_le _, hXl, hb, hl, hI, hin, hit, hx, hy, hw⟩ ?_
    clear hb hl hI hin hit hx hy hw hi2
    rintro ⟨L, i⟩ w11 ⟨hi, hL, hb, hl, hI, hin, hit, hx, hy, hw⟩
    dsimp only at hi hL hb hl hI hin hit hx hy hw ⊢
    refine WC.seq (WC.seq (WC.region (WL.move rfl rfl (WL.move rfl rfl (WL.len Tryd.underlying22 rfl rfl (?_))))))
    refine WL.lss? rfl rfl rfl (fun h56 => ?_) (fun h56 => ?_)
    ·
      refine WL.nil (WX.then_normal (WC.cond_true rfl (WC.skip (WX.then_normal (WC.seq (WC.block (WC.region (?_))))))))
      refine WL.move rfl rfl (WL.move rfl rfl (?_))
      obtain ⟨z, hz⟩ : ∃ z, L[i]? = some z := ⟨_, List.getElem?_eq_getElem (by omega)⟩
      obtain ⟨g2, rfl⟩ := hx.place0 (j := i) (by omega)
      have hg2 := hx.at_ _ rfl
      dsimp only at hg2
      refine WL.indexC hx.rsl Tryd.underlying22 Tryd.sizeOf5 rfl rfl ⟨hz, rfl⟩ rfl ?_
      refine WL.storeRow (z := 170) (i) Tryd.sizeOf5 hx rfl rfl rfl (by first | (simp; done) | (show 0 + _ * 1 = _; omega)) (by omega) rfl ?_
      intro w_1 zs_1 nr_1 k_1
      have zs_k_1 := k_1.size
      replace hb := hb.chg k_1 (by first | (intro x h1 h2; exact h2) | (intro x h0 h1 h2; exact hS x h1 h2) | (intro x h0 h1 h2; have h3 : _ = _ := h2; subst h3; exact hSR h1.1) | (intro x h1 h2; have h3 : _ = _ := h2; subst h3; assumption) | (intro x h1 h2; have h3 : _ = _ := h2; exfalso; omega) | (intro b h1 h2 h3; have h4 : _ = _ := h3; (try dsimp only at h2); exfalso; omega) | (intro h1; have h2 : _ = _ := h1; exfalso; omega) | (intro h1; have h2 : _ ≤ _ := h1; exfalso; omega) | (intros; exfalso; (try dsimp only at *); omega) | (intro b h1 h2 h3; exfalso; have h4 := h3.2; (try dsimp only at *); omega) | (intro h1; exfalso; have h4 := h1.2; (try dsimp only at *); omega) | (intro x h1 h2; exfalso; have h4 := h2.2; (try dsimp only at *); omega) | (intro x h1 h2; exact ⟨_, rfl, h2⟩) | (intro x h1 h2; have h4 := h2.1; have h5 := h2.2; exfalso; omega) | (intro x h1 h2; exact h2.1) | (intro x h1 h2; rcases h2.1 with h3 | h3; exact h3; exfalso; omega) | (intro x h1 h2; rcases h2 with h3 | h3; exact h3; exfalso; omega))
      replace hl := hl.chg k_1 (by first | (intro x h1 h2; exact h2) | (intro x h0 h1 h2; exact hS x h1 h2) | (intro x h0 h1 h2; have h3 : _ = _ := h2; subst h3; exact hSR h1.1) | (intro x h1 h2; have h3 : _ = _ := h2; subst h3; assumption) | (intro x h1 h2; have h3 : _ = _ := h2; exfalso; omega) | (intro b h1 h2 h3; have h4 : _ = _ := h3; (try dsimp only at h2); exfalso; omega) | (intro h1; have h2 : _ = _ := h1; exfalso; omega) | (intro h1; have h2 : _ ≤ _ := h1; exfalso; omega) | (intros; exfalso; (try dsimp only at *); omega) | (intro b h1 h2 h3; exfalso; have h4 := h3.2; (try dsimp only at *); omega) | (intro h1; exfalso; have h4 := h1.2; (try dsimp only at *); omega) | (intro x h1 h2; exfalso; have h4 := h2.2; (try dsimp only at *); omega) | (intro x h1 h2; exact ⟨_, rfl, h2⟩) | (intro x h1 h2; have h4 := h2.1; have h5 := h2.2; exfalso; omega) | (intro x h1 h2; exact h2.1) | (intro x h1 h2; rcases h2.1 with h3 | h3; exact h3; exfalso; omega) | (intro x h1 h2; rcases h2 with h3 | h3; exact h3; exfalso; omega))
      replace hI := hI.chg k_1 (by first | (intro x h1 h2; exact h2) | (intro x h0 h1 h2; exact hS x h1 h2) | (intro x h0 h1 h2; have h3 : _ = _ := h2; subst h3; exact hSR h1.1) | (intro x h1 h2; have h3 : _ = _ := h2; subst h3; assumption) | (intro x h1 h2; have h3 : _ = _ := h2; exfalso; omega) | (intro b h1 h2 h3; have h4 : _ = _ := h3; (try dsimp only at h2); exfalso; omega) | (intro h1; have h2 : _ = _ := h1; exfalso; omega) | (intro h1; have h2 : _ ≤ _ := h1; exfalso; omega) | (intros; exfalso; (try dsimp only at *); omega) | (intro b h1 h2 h3; exfalso; have h4 := h3.2; (try dsimp only at *); omega) | (intro h1; exfalso; have h4 := h1.2; (try dsimp only at *); omega) | (intro x h1 h2; exfalso; have h4 := h2.2; (try dsimp only at *); omega) | (intro x h1 h2; exact ⟨_, rfl, h2⟩) | (intro x h1 h2; have h4 := h2.1; have h5 := h2.2; exfalso; omega) | (intro x h1 h2; exact h2.1) | (intro x h1 h2; rcases h2.1 with h3 | h3; exact h3; exfalso; omega) | (intro x h1 h2; rcases h2 with h3 | h3; exact h3; exfalso; omega))
      replace hin := hin.chg k_1 (by first | (intro x h1 h2; exact h2) | (intro x h0 h1 h2; exact hS x h1 h2) | (intro x h0 h1 h2; have h3 : _ = _ := h2; subst h3; exact hSR h1.1) | (intro x h1 h2; have h3 : _ = _ := h2; subst h3; assumption) | (intro x h1 h2; have h3 : _ = _ := h2; exfalso; omega) | (intro b h1 h2 h3; have h4 : _ = _ := h3; (try dsimp only at h2); exfalso; omega) | (intro h1; have h2 : _ = _ := h1; exfalso; omega) | (intro h1; have h2 : _ ≤ _ := h1; exfalso; omega) | (intros; exfalso; (try dsimp only at *); omega) | (intro b h1 h2 h3; exfalso; have h4 := h3.2; (try dsimp only at *); omega) | (intro h1; exfalso; have h4 := h1.2; (try dsimp only at *); omega) | (intro x h1 h2; exfalso; have h4 := h2.2; (try dsimp only at *); omega) | (intro x h1 h2; exact ⟨_, rfl, h2⟩) | (intro x h1 h2; have h4 := h2.1; have h5 := h2.2; exfalso; omega) | (intro x h1 h2; exact h2.1) | (intro x h1 h2; rcases h2.1 with h3 | h3; exact h3; exfalso; omega) | (intro x h1 h2; rcases h2 with h3 | h3; exact h3; exfalso; omega))
      replace hit := hit.chg k_1 (by first | (intro x h1 h2; exact h2) | (intro x h0 h1 h2; exact hS x h1 h2) | (intro x h0 h1 h2; have h3 : _ = _ := h2; subst h3; exact hSR h1.1) | (intro x h1 h2; have h3 : _ = _ := h2; subst h3; assumption) | (intro x h1 h2; have h3 : _ = _ := h2; exfalso; omega) | (intro b h1 h2 h3; have h4 : _ = _ := h3; (try dsimp only at h2); exfalso; omega) | (intro h1; have h2 : _ = _ := h1; exfalso; omega) | (intro h1; have h2 : _ ≤ _ := h1; exfalso; omega) | (intros; exfalso; (try dsimp only at *); omega) | (intro b h1 h2 h3; exfalso; have h4 := h3.2; (try dsimp only at *); omega) | (intro h1; exfalso; have h4 := h1.2; (try dsimp only at *); omega) | (intro x h1 h2; exfalso; have h4 := h2.2; (try dsimp only at *); omega) | (intro x h1 h2; exact ⟨_, rfl, h2⟩) | (intro x h1 h2; have h4 := h2.1; have h5 := h2.2; exfalso; omega) | (intro x h1 h2; exact h2.1) | (intro x h1 h2; rcases h2.1 with h3 | h3; exact h3; exfalso; omega) | (intro x h1 h2; rcases h2 with h3 | h3; exact h3; exfalso; omega))
      replace hy := hy.chg k_1 (by first | (intro x h1 h2; exact h2) | (intro x h0 h1 h2; exact hS x h1 h2) | (intro x h0 h1 h2; have h3 : _ = _ := h2; subst h3; exact hSR h1.1) | (intro x h1 h2; have h3 : _ = _ := h2; subst h3; assumption) | (intro x h1 h2; have h3 : _ = _ := h2; exfalso; omega) | (intro b h1 h2 h3; have h4 : _ = _ := h3; (try dsimp only at h2); exfalso; omega) | (intro h1; have h2 : _ = _ := h1; exfalso; omega) | (intro h1; have h2 : _ ≤ _ := h1; exfalso; omega) | (intros; exfalso; (try dsimp only at *); omega) | (intro b h1 h2 h3; exfalso; have h4 := h3.2; (try dsimp only at *); omega) | (intro h1; exfalso; have h4 := h1.2; (try dsimp only at *); omega) | (intro x h1 h2; exfalso; have h4 := h2.2; (try dsimp only at *); omega) | (intro x h1 h2; exact ⟨_, rfl, h2⟩) | (intro x h1 h2; have h4 := h2.1; have h5 := h2.2; exfalso; omega) | (intro x h1 h2; exact h2.1) | (intro x h1 h2; rcases h2.1 with h3 | h3; exact h3; exfalso; omega) | (intro x h1 h2; rcases h2 with h3 | h3; exact h3; exfalso; omega))
      replace hw := hw.chg k_1 (by first | (intro x h1 h2; exact h2) | (intro x h0 h1 h2; exact hS x h1 h2) | (intro x h0 h1 h2; have h3 : _ = _ := h2; subst h3; exact hSR h1.1) | (intro x h1 h2; have h3 : _ = _ := h2; subst h3; assumption) | (intro x h1 h2; have h3 : _ = _ := h2; exfalso; omega) | (intro b h1 h2 h3; have h4 : _ = _ := h3; (try dsimp only at h2); exfalso; omega) | (intro h1; have h2 : _ = _ := h1; exfalso; omega) | (intro h1; have h2 : _ ≤ _ := h1; exfalso; omega) | (intros; exfalso; (try dsimp only at *); omega) | (intro b h1 h2 h3; exfalso; have h4 := h3.2; (try dsimp only at *); omega) | (intro h1; exfalso; have h4 := h1.2; (try dsimp only at *); omega) | (intro x h1 h2; exfalso; have h4 := h2.2; (try dsimp only at *); omega) | (intro x h1 h2; exact ⟨_, rfl, h2⟩) | (intro x h1 h2; have h4 := h2.1; have h5 := h2.2; exfalso; omega) | (intro x h1 h2; exact h2.1) | (intro x h1 h2; rcases h2.1 with h3 | h3; exact h3; exfalso; omega) | (intro x h1 h2; rcases h2 with h3 | h3; exact h3; exfalso; omega))
      replace hx := nr_1
      refine WL.nil (WX.block_normal (WX.then_normal (WC.region (WL.move rfl rfl (WL.add64 rfl rfl (by first | omega | (constructor <;> omega)) rfl (WL.assign rfl rfl (WL.nil (?_))))))))
      first
        | (refine WX.loop_next (L.set i 170, i + 1) ⟨rfl, rfl, rfl, rfl, ?_, rfl, rfl, trivial⟩ ⟨by dsimp only; rw [List.length_set]; omega, by dsimp only; rw [List.length_set]; omega, hb, hl, hI, hin, hit, hx, hy, hw⟩ (by show (L.set i 170).length - (i + 1) < L.length - i; rw [List.length_set]; omega)
           dsimp only
           rw [List.length_set]
           try rfl)
        | (refine WX.loop_next (M.set j ⟨9, 0, ⟨#[]⟩⟩, j + 1) ⟨rfl, rfl, rfl, rfl, ?_, rfl, trivial⟩ ⟨by dsimp only; rw [List.length_set]; omega, by dsimp only; rw [List.length_set]; omega, hb, hl, hI, hin, hit, hy13, hw⟩ (by show (M.set j ⟨9, 0, ⟨#[]⟩⟩).length - (j + 1) < M.length - j; rw [List.length_set]; omega)
           dsimp only
           rw [List.length_set]
           try rfl)
        | exact WX.loop_next (k + 1) ⟨rfl, rfl, rfl, rfl, rfl, rfl, trivial⟩ ⟨by omega, by omega, hb, hl, hf, hin, hit, hw⟩ (by show _ - _ < _ - _; omega)
    ·
      refine WL.nil (WX.then_normal (WC.cond_false rfl (WC.exit (WX.then_exit (WX.then_exit (WX.block_here (WX.then_normal (?_))))))))
      refine WC.seq (WC.seq (WC.region (WL.assign rfl rfl (WL.nil (WX.then_normal (WC.block (?_)))))))
      obtain ⟨R, eR⟩ : ∃ R, R = decL b := ⟨_, rfl⟩
      have hR : R.length ≤ 2000 := by rw [eR]; exact dec_len b
      rw [← eR] at hy ⊢
      refine WC.loop (σ := List Item × Nat) (fun q => [(0, .slice ab b.length cb), (1, .slice al l.length cl), (5, .slice (some ⟨g, 0, none⟩) b.length (b.length + 9)), (6, .slice (some ⟨g5, 0, none⟩) l.length (l.length + 2)), (9, .slice a8 q.1.length c8), (12, vi q.2)])
        (fun q w' => q.2 ≤ q.1.length ∧ q.1.length ≤ 2000 ∧ RSl (· < w.heap.size) w' eb ab cb b ∧ RSl (· < w.heap.size) w' eit al cl l ∧ RSl (· = g) w' eb (some ⟨g, 0, none⟩) (b.length + 9) (b ++ List.replicate 9 0) ∧ RSl (· = g) w' eb (some ⟨g, 0, none⟩) (b.length + 9) b ∧ RSl (· = g5) w' eit (some ⟨g5, 0, none⟩) (l.length + 2) l ∧
          Row (fun x => n7 ≤ x ∧ x < n8) w' 31 eit a8 c8 q.1 ∧ Chg Nob w w') (fun q => q.1.length - q.2) (R, 0) ⟨rfl, rfl, rfl, rfl, rfl, rfl, trivial⟩
        ⟨Nat.zero_le _, hR, hb, hl, hI, hin, hit, hy, hw⟩ ?_
      clear hb hl hI hin hit hx hy hw
      rintro ⟨M, j⟩ w12 ⟨hj, hM, hb, hl, hI, hin, hit, hy, hw⟩
      dsimp only at hj hM hb hl hI hin hit hy hw ⊢
      refine WC.seq (WC.seq (WC.region (WL.move rfl rfl (WL.move rfl rfl (WL.len Tryd.underlying23 rfl rfl (?_))))))
      refine WL.lss? rfl rfl rfl (fun h65 => ?_) (fun h65 => ?_)
      ·
        refine WL.nil (WX.then_normal (WC.cond_true rfl (WC.skip (WX.then_normal (WC.seq (WC.block (WC.region (?_))))))))
        refine WL.move rfl rfl (WL.move rfl rfl (WL.bld rfl (bld_31_0 _) rfl (?_)))
        obtain ⟨z, hz⟩ : ∃ z, M[j]? = some z := ⟨_, List.getElem?_eq_getElem (by omega)⟩
        obtain ⟨g3, rfl⟩ := hy.place0 (j := j) (by omega)
        have hg3 := hy.at_ _ rfl
        dsimp only at hg3
        refine WL.indexC hy.rsl Tryd.underlying23 Tryd.sizeOf31 rfl rfl ⟨hz, rfl⟩ rfl ?_
        refine WL.storeE (e := eit) (vs := eit.f ⟨9, 0, ⟨#[]⟩⟩) (ys := M.set j ⟨9, 0, ⟨#[]⟩⟩) Tryd.sizeOf31 hy rfl rfl rfl (eit.one _) (by show 0 + j * 3 + 3 ≤ M.length * 3; omega) (List.length_set ..) (by rw [Nat.zero_add]; exact (Enc.all_set eit (by omega) _).symm) ?_
        intro w13 z13 hy13 k13
        have zs_k13 := k13.size
        replace hb := hb.chg k13 (by first | (intro x h1 h2; exact h2) | (intro x h0 h1 h2; exact hS x h1 h2) | (intro x h0 h1 h2; have h3 : _ = _ := h2; subst h3; exact hSR h1.1) | (intro x h1 h2; have h3 : _ = _ := h2; subst h3; assumption) | (intro x h1 h2; have h3 : _ = _ := h2; exfalso; omega) | (intro b h1 h2 h3; have h4 : _ = _ := h3; (try dsimp only at h2); exfalso; omega) | (intro h1; have h2 : _ = _ := h1; exfalso; omega) | (intro h1; have h2 : _ ≤ _ := h1; exfalso; omega) | (intros; exfalso; (try dsimp only at *); omega) | (intro b h1 h2 h3; exfalso; have h4 := h3.2; (try dsimp only at *); omega) | (intro h1; exfalso; have h4 := h1.2; (try dsimp only at *); omega) | (intro x h1 h2; exfalso; have h4 := h2.2; (try dsimp only at *); omega) | (intro x h1 h2; exact ⟨_, rfl, h2⟩) | (intro x h1 h2; have h4 := h2.1; have h5 := h2.2; exfalso; omega) | (intro x h1 h2; exact h2.1) | (intro x h1 h2; rcases h2.1 with h3 | h3; exact h3; exfalso; omega) | (intro x h1 h2; rcases h2 with h3 | h3; exact h3; exfalso; omega))
        replace hl := hl.chg k13 (by first | (intro x h1 h2; exact h2) | (intro x h0 h1 h2; exact hS x h1 h2) | (intro x h0 h1 h2; have h3 : _ = _ := h2; subst h3; exact hSR h1.1) | (intro x h1 h2; have h3 : _ = _ := h2; subst h3; assumption) | (intro x h1 h2; have h3 : _ = _ := h2; exfalso; omega) | (intro b h1 h2 h3; have h4 : _ = _ := h3; (try dsimp only at h2); exfalso; omega) | (intro h1; have h2 : _ = _ := h1; exfalso; omega) | (intro h1; have h2 : _ ≤ _ := h1; exfalso; omega) | (intros; exfalso; (try dsimp only at *); omega) | (intro b h1 h2 h3; exfalso; have h4 := h3.2; (try dsimp only at *); omega) | (intro h1; exfalso; have h4 := h1.2; (try dsimp only at *); omega) | (intro x h1 h2; exfalso; have h4 := h2.2; (try dsimp only at *); omega) | (intro x h1 h2; exact ⟨_, rfl, h2⟩) | (intro x h1 h2; have h4 := h2.1; have h5 := h2.2; exfalso; omega) | (intro x h1 h2; exact h2.1) | (intro x h1 h2; rcases h2.1 with h3 | h3; exact h3; exfalso; omega) | (intro x h1 h2; rcases h2 with h3 | h3; exact h3; exfalso; omega))
        replace hI := hI.chg k13 (by first | (intro x h1 h2; exact h2) | (intro x h0 h1 h2; exact hS x h1 h2) | (intro x h0 h1 h2; have h3 : _ = _ := h2; subst h3; exact hSR h1.1) | (intro x h1 h2; have h3 : _ = _ := h2; subst h3; assumption) | (intro x h1 h2; have h3 : _ = _ := h2; exfalso; omega) | (intro b h1 h2 h3; have h4 : _ = _ := h3; (try dsimp only at h2); exfalso; omega) | (intro h1; have h2 : _ = _ := h1; exfalso; omega) | (intro h1; have h2 : _ ≤ _ := h1; exfalso; omega) | (intros; exfalso; (try dsimp only at *); omega) | (intro b h1 h2 h3; exfalso; have h4 := h3.2; (try dsimp only at *); omega) | (intro h1; exfalso; have h4 := h1.2; (try dsimp only at *); omega) | (intro x h1 h2; exfalso; have h4 := h2.2; (try dsimp only at *); omega) | (intro x h1 h2; exact ⟨_, rfl, h2⟩) | (intro x h1 h2; have h4 := h2.1; have h5 := h2.2; exfalso; omega) | (intro x h1 h2; exact h2.1) | (intro x h1 h2; rcases h2.1 with h3 | h3; exact h3; exfalso; omega) | (intro x h1 h2; rcases h2 with h3 | h3; exact h3; exfalso; omega))
        replace hin := hin.chg k13 (by first | (intro x h1 h2; exact h2) | (intro x h0 h1 h2; exact hS x h1 h2) | (intro x h0 h1 h2; have h3 : _ = _ := h2; subst h3; exact hSR h1.1) | (intro x h1 h2; have h3 : _ = _ := h2; subst h3; assumption) | (intro x h1 h2; have h3 : _ = _ := h2; exfalso; omega) | (intro b h1 h2 h3; have h4 : _ = _ := h3; (try dsimp only at h2); exfalso; omega) | (intro h1; have h2 : _ = _ := h1; exfalso; omega) | (intro h1; have h2 : _ ≤ _ := h1; exfalso; omega) | (intros; exfalso; (try dsimp only at *); omega) | (intro b h1 h2 h3; exfalso; have h4 := h3.2; (try dsimp only at *); omega) | (intro h1; exfalso; have h4 := h1.2; (try dsimp only at *); omega) | (intro x h1 h2; exfalso; have h4 := h2.2; (try dsimp only at *); omega) | (intro x h1 h2; exact ⟨_, rfl, h2⟩) | (intro x h1 h2; have h4 := h2.1; have h5 := h2.2; exfalso; omega) | (intro x h1 h2; exact h2.1) | (intro x h1 h2; rcases h2.1 with h3 | h3; exact h3; exfalso; omega) | (intro x h1 h2; rcases h2 with h3 | h3; exact h3; exfalso; omega))
        replace hit := hit.chg k13 (by first | (intro x h1 h2; exact h2) | (intro x h0 h1 h2; exact hS x h1 h2) | (intro x h0 h1 h2; have h3 : _ = _ := h2; subst h3; exact hSR h1.1) | (intro x h1 h2; have h3 : _ = _ := h2; subst h3; assumption) | (intro x h1 h2; have h3 : _ = _ := h2; exfalso; omega) | (intro b h1 h2 h3; have h4 : _ = _ := h3; (try dsimp only at h2); exfalso; omega) | (intro h1; have h2 : _ = _ := h1; exfalso; omega) | (intro h1; have h2 : _ ≤ _ := h1; exfalso; omega) | (intros; exfalso; (try dsimp only at *); omega) | (intro b h1 h2 h3; exfalso; have h4 := h3.2; (try dsimp only at *); omega) | (intro h1; exfalso; have h4 := h1.2; (try dsimp only at *); omega) | (intro x h1 h2; exfalso; have h4 := h2.2; (try dsimp only at *); omega) | (intro x h1 h2; exact ⟨_, rfl, h2⟩) | (intro x h1 h2; have h4 := h2.1; have h5 := h2.2; exfalso; omega) | (intro x h1 h2; exact h2.1) | (intro x h1 h2; rcases h2.1 with h3 | h3; exact h3; exfalso; omega) | (intro x h1 h2; rcases h2 with h3 | h3; exact h3; exfalso; omega))
        replace hw := hw.chg k13 (by first | (intro x h1 h2; exact h2) | (intro x h0 h1 h2; exact hS x h1 h2) | (intro x h0 h1 h2; have h3 : _ = _ := h2; subst h3; exact hSR h1.1) | (intro x h1 h2; have h3 : _ = _ := h2; subst h3; assumption) | (intro x h1 h2; have h3 : _ = _ := h2; exfalso; omega) | (intro b h1 h2 h3; have h4 : _ = _ := h3; (try dsimp only at h2); exfalso; omega) | (intro h1; have h2 : _ = _ := h1; exfalso; omega) | (intro h1; have h2 : _ ≤ _ := h1; exfalso; omega) | (intros; exfalso; (try dsimp only at *); omega) | (intro b h1 h2 h3; exfalso; have h4 := h3.2; (try dsimp only at *); omega) | (intro h1; exfalso; have h4 := h1.2; (try dsimp only at *); omega) | (intro x h1 h2; exfalso; have h4 := h2.2; (try dsimp only at *); omega) | (intro x h1 h2; exact ⟨_, rfl, h2⟩) | (intro x h1 h2; have h4 := h2.1; have h5 := h2.2; exfalso; omega) | (intro x h1 h2; exact h2.1) | (intro x h1 h2; rcases h2.1 with h3 | h3; exact h3; exfalso; omega) | (intro x h1 h2; rcases h2 with h3 | h3; exact h3; exfalso; omega))
        refine WL.nil (WX.block_normal (WX.then_normal (WC.region (WL.move rfl rfl (WL.add64 rfl rfl (by first | omega | (constructor <;> omega)) rfl (WL.assign rfl rfl (WL.nil (?_))))))))
        first
          | (refine WX.loop_next (L.set i 170, i + 1) ⟨rfl, rfl, rfl, rfl, ?_, rfl, rfl, trivial⟩ ⟨by dsimp only; rw [List.length_set]; omega, by dsimp only; rw [List.length_set]; omega, hb, hl, hI, hin, hit, hx, hy, hw⟩ (by show (L.set i 170).length - (i + 1) < L.length - i; rw [List.length_set]; omega)
             dsimp only
             rw [List.length_set]
             try rfl)
          | (refine WX.loop_next (M.set j ⟨9, 0, ⟨#[]⟩⟩, j + 1) ⟨rfl, rfl, rfl, rfl, ?_, rfl, trivial⟩ ⟨by dsimp only; rw [List.length_set]; omega, by dsimp only; rw [List.length_set]; omega, hb, hl, hI, hin, hit, hy13, hw⟩ (by show (M.set j ⟨9, 0, ⟨#[]⟩⟩).length - (j + 1) < M.length - j; rw [List.length_set]; omega)
             dsimp only
             rw [List.length_set]
             try rfl)
          | exact WX.loop_next (k + 1) ⟨rfl, rfl, rfl, rfl, rfl, rfl, trivial⟩ ⟨by omega, by omega, hb, hl, hf, hin, hit, hw⟩ (by show _ - _ < _ - _; omega)
      ·
        refine WL.nil (WX.then_normal (WC.cond_false rfl (WC.exit (WX.then_exit (WX.then_exit (WX.block_here (WX.then_normal (?_))))))))
        refine WC.seq (WC.region (WL.move rfl rfl (WL.move rfl rfl (?_))))
        refine WL.cap Tryd.underlying22 rfl rfl ?_
        refine WL.sliceTop (h := b.length + 9) Tryd.underlying22 Tryd.sizeOf5 hI rfl rfl (by simp) rfl ?_
        intro af hf
        rw [List.take_of_length_le (by simp)] at hf ⊢
        refine WL.assign rfl rfl (WL.nil (WX.then_normal (WC.seq (WC.seq (WC.region (WL.move rfl rfl (WL.len Tryd.underlying22 rfl rfl (?_))))))))
        refine WL.assign rfl rfl (WL.nil (WX.then_normal (WC.block (?_))))
        refine WC.loop (σ := Nat) (fun q => [(0, .slice ab b.length cb), (1, .slice al l.length cl), (5, .slice (some ⟨g, 0, none⟩) b.length (b.length + 9)), (6, .slice (some ⟨g5, 0, none⟩) l.length (l.length + 2)), (13, .slice af (b ++ List.replicate 9 (0 : UInt8)).length (b.length + 9)), (14, vi q)])
          (fun q w' => b.length ≤ q ∧ q ≤ b.length + 9 ∧ RSl (· < w.heap.size) w' eb ab cb b ∧ RSl (· < w.heap.size) w' eit al cl l ∧ RSl (· = g) w' eb af (b.length + 9) (b ++ List.replicate 9 0) ∧ RSl (· = g) w' eb (some ⟨g, 0, none⟩) (b.length + 9) b ∧ RSl (· = g5) w' eit (some ⟨g5, 0, none⟩) (l.length + 2) l ∧ Chg Nob w w') (fun q => b.length + 9 - q) b.length ⟨rfl, rfl, rfl, rfl, rfl, rfl, trivial⟩
          ⟨Nat.le_refl _, by omega, hb, hl, hf, hin, hit, hw⟩ ?_
        clear hb hl hI hin hit hy hw hf
        rintro k w14 ⟨hk1, hk2, hb, hl, hf, hin, hit, hw⟩
        have hfl : (b ++ List.replicate 9 (0 : UInt8)).length = b.length + 9 := by simp
        refine WC.seq (WC.seq (WC.region (WL.move rfl rfl (WL.move rfl rfl (WL.len Tryd.underlying22 rfl rfl (?_))))))
        refine WL.lss? rfl rfl rfl (fun h81 => ?_) (fun h81 => ?_)
        ·
          refine WL.nil (WX.then_normal (WC.cond_true rfl (WC.skip (WX.then_normal (WC.seq (WC.block (WC.seq (?_))))))))
          refine WC.region (WL.move rfl rfl (WL.move rfl rfl (?_)))
          have hz3 : (b ++ List.replicate 9 (0 : UInt8))[k]? = some 0 := by
            rw [List.getElem?_append_right hk1, List.getElem?_replicate]
            rw [if_pos (by omega)]
          refine WL.indexT Tryd.underlying22 Tryd.sizeOf5 hf rfl rfl ⟨hz3, rfl⟩ rfl ?_
          intro b_1 o_1 hc_1
          refine WL.load Tryd.isAgg5 rfl (hc_1 0 _ rfl) rfl (?_)
          refine WL.neqF rfl rfl rfl (rfl) ?_
          refine WL.nil (WX.then_normal (WC.cond_false rfl (WC.skip (WX.block_normal (WX.then_normal (WC.region (WL.move rfl rfl (?_))))))))
          refine WL.add64 rfl rfl (by first | omega | (constructor <;> omega)) rfl (WL.assign rfl rfl (WL.nil (?_)))
          first
            | (refine WX.loop_next (L.set i 170, i + 1) ⟨rfl, rfl, rfl, rfl, ?_, rfl, rfl, trivial⟩ ⟨by dsimp only; rw [List.length_set]; omega, by dsimp only; rw [List.length_set]; omega, hb, hl, hI, hin, hit, hx, hy, hw⟩ (by show (L.set i 170).length - (i + 1) < L.length - i; rw [List.length_set]; omega)
               dsimp only
               rw [List.length_set]
               try rfl)
            | (refine WX.loop_next (M.set j ⟨9, 0, ⟨#[]⟩⟩, j + 1) ⟨rfl, rfl, rfl, rfl, ?_, rfl, trivial⟩ ⟨by dsimp only; rw [List.length_set]; omega, by dsimp only; rw [List.length_set]; omega, hb, hl, hI, hin, hit, hy13, hw⟩ (by show (M.set j ⟨9, 0, ⟨#[]⟩⟩).length - (j + 1) < M.length - j; rw [List.length_set]; omega)
               dsimp only
               rw [List.length_set]
               try rfl)
            | exact WX.loop_next (k + 1) ⟨rfl, rfl, rfl, rfl, rfl, rfl, trivial⟩ ⟨by omega, by omega, hb, hl, hf, hin, hit, hw⟩ (by show _ - _ < _ - _; omega)
        ·
          refine WL.nil (WX.then_normal (WC.cond_false rfl (WC.exit (WX.then_exit (WX.then_exit (WX.block_here (WX.then_normal (?_))))))))
          refine WC.seq (WC.region (WL.move rfl rfl (?_)))
          have hi3 := hin.old
          refine WL.call eg_15 rfl rfl (decode_calls' hi3 (by omega)) ?_
          rintro v w15 ⟨⟨a15, c15, rfl, h15⟩, k15⟩
          have zs_k15 := k15.size
          replace hb := hb.pure k15
          replace hl := hl.pure k15
          replace hf := hf.pure k15
          replace hin := hin.pure k15
          replace hit := hit.pure k15
          replace hw := hw.pure k15
          replace h15 := h15.lt
          refine WL.move rfl rfl (WL.extract rfl rfl rfl (WL.extract rfl rfl rfl (WL.assign rfl rfl (WL.assign rfl rfl (WL.nil (WX.then_normal (WC.seq (?_))))))))
          refine WC.region (WL.move rfl rfl (?_))
          refine WL.toStr Tryd.underlying22 Tryd.underlying5 Tryd.underlying9 hb rfl rfl ?_
          refine WL.call eg_18 rfl rfl (rdecode_calls (by show b.toArray.size ≤ _; rw [List.size_toArray]; omega)) ?_
          rintro v w16 ⟨⟨a16, c16, rfl, h16⟩, k16⟩
          rw [show (⟨b.toArray⟩ : ByteArray).data.toList = b from rfl] at h16 ⊢
          have zs_k16 := k16.size
          replace hb := hb.pure k16
          replace hl := hl.pure k16
          replace hf := hf.pure k16
          replace hin := hin.pure k16
          replace hit := hit.pure k16
          replace hw := hw.pure k16
          replace h15 := h15.pure k16
          replace h16 := h16.lt
          refine WL.move rfl rfl (WL.extract rfl rfl rfl (WL.extract rfl rfl rfl (WL.assign rfl rfl (WL.assign rfl rfl (WL.nil (WX.then_normal (WC.seq (?_))))))))
          refine WC.region (WL.move rfl rfl (?_))
          refine WL.toStr Tryd.underlying22 Tryd.underlying5 Tryd.underlying9 hin rfl rfl ?_
          refine WL.move rfl rfl (?_)
          refine WL.toStr Tryd.underlying22 Tryd.underlying5 Tryd.underlying9 hb rfl rfl ?_
          refine WL.seqlT rfl rfl rfl (rfl) ?_
          refine WL.move rfl rfl (WL.want rfl rfl rfl (WL.move rfl rfl (WL.want rfl rfl rfl (WL.move rfl rfl (WL.want rfl rfl rfl (?_))))))
          have hl9 : l.length ≤ 9223372036854775807 := by omega
          refine WL.call eg_19 rfl rfl (same_calls (S := fun _ => True) (hit.mono fun _ _ => trivial) (hl.mono fun _ _ => trivial) hl9) ?_
          rintro v w17 ⟨rfl, k17⟩
          rw [decide_eq_true rfl]
          have zs_k17 := k17.size
          replace hb := hb.pure k17
          replace hl := hl.pure k17
          replace hf := hf.pure k17
          replace hin := hin.pure k17
          replace hit := hit.pure k17
          replace hw := hw.pure k17
          replace h15 := h15.pure k17
          replace h16 := h16.pure k17
          refine WL.pickT rfl rfl rfl (WL.move rfl rfl (WL.want rfl rfl rfl (WL.move rfl rfl (WL.want rfl rfl rfl (WL.move rfl rfl (WL.want rfl rfl rfl (?_)))))))
          have hl8 : (decL b).length ≤ 9223372036854775807 := by have := dec_len b; omega
          refine WL.call eg_19 rfl rfl (same_calls (S := fun _ => True) (h15.rsl.mono fun _ _ => trivial) (h16.rsl.mono fun _ _ => trivial) hl8) ?_
          rintro v w18 ⟨rfl, k18⟩
          rw [decide_eq_true rfl]
          have zs_k18 := k18.size
          replace hb := hb.pure k18
          replace hl := hl.pure k18
          replace hf := hf.pure k18
          replace hin := hin.pure k18
          replace hit := hit.pure k18
          replace hw := hw.pure k18
          replace h15 := h15.pure k18
          replace h16 := h16.pure k18
          refine WL.pickT rfl rfl rfl (WL.move rfl rfl (WL.want rfl rfl rfl (WL.move rfl rfl (WL.want rfl rfl rfl (WL.move rfl rfl (WL.want rfl rfl rfl (?_)))))))
          refine WL.eqlT rfl rfl rfl (rfl) ?_
          refine WL.pickT rfl rfl rfl (WL.assign rfl rfl (WL.nil (WX.then_normal (WC.ret (?_)))))
          refine WX.ret1 (.inl rfl) Tryd.results3 rfl ?_
          exact ⟨_, rfl, rfl, hw⟩
end Go.Proofs.YtcdbkfaebgficaaDoor
