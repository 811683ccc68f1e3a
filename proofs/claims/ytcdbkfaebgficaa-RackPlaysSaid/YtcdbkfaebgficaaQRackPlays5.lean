import Derived.Test.YtcdbkfaebgficaaQRackPlays4
namespace Go.Proofs.Ytcdbkfaebgficaa
open Go.RowKit Go.HL

/-! a byte is another one -/
theorem RI.putMapN {S : Nat → Prop} {w w' : World} {m : Nat} {ga : Option Addr} {gc : Nat} {wa : Option Addr} {wc : Nat} {gl : List Bool} {ws ls ls2 : List (Pl × Rw)} (h : RI S w m ga gc wa wc gl ws ls) (hM : Mp kpl vsl w' m ls2) (k : Chg (· = m) w w') (hn : ∀ p ∈ ls2, (∃ q ∈ ls, q.2 = p.2) ∨ Row S w 5 eb p.2.ao p.2.cap p.2.xs) : RI S w' m ga gc wa wc gl ws ls2 := by
  have hk := h.map.kb
  have hd : ∀ T b, b < w.heap.size → b = m → kb w b ≠ some (some T) := by
    rintro T b _ rfl
    rw [hk]
    simp
  have hb : ∀ p ∈ ls2, Row S w 5 eb p.2.ao p.2.cap p.2.xs := fun p hp => by
    rcases hn p hp with ⟨q, hq, e⟩ | h1
    · rw [← e]; exact h.byl q hq
    · exact h1
  exact ⟨h.sm, hM, h.gone.chgK k (hd _), h.waits.chgK k (hd _), fun p hp => (hb p hp).chgK k (hd _), fun p hp => (h.byw p hp).chgK k (hd _)⟩
def rotX (n : Int) : UInt8 := B8 (1 + n / 128 % 255)
def rotB (b : List UInt8) (n : Int) : List UInt8 := b.set (n % 128).toNat (b.getD (n % 128).toNat 0 ^^^ rotX n)
theorem rotB_len (b : List UInt8) (n : Int) : (rotB b n).length = b.length := List.length_set ..
def rotS (s : RA) (p : Pl) (n : Int) : RA := match newV s.waits p with
  | some _ => { s with waits := putW s.waits p (rotB (heldS s p) n) }
  | none => { s with last := mput s.last p (rotB (heldS s p) n) }
def rotE (s : RA) (d a n : Int) : Int := if ¬ inS s d a ∨ n < 0 then 1 else if goneS s d = true then 3 else 0
theorem putW_mem {V : Type} {ws : List (Pl × V)} {p : Pl} {v : V} {x : Pl × V} (h : x ∈ putW ws p v) : x ∈ ws ∨ x = (p, v) := by
  rcases mput_mem (List.mem_reverse.1 h) with h1 | h1
  · exact .inl (List.mem_reverse.1 h1)
  · exact .inr h1
theorem rotS_ok {s : RA} (h : s.ok) (p : Pl) (n : Int) : (rotS s p n).ok := by
  have hl : (rotB (heldS s p) n).length = 128 := by rw [rotB_len]; exact heldS_len h p
  unfold rotS
  split
  · refine ⟨h.dn, h.sn, h.gl, h.ll, fun q hq => ?_, h.lf, h.nd⟩
    rcases putW_mem hq with h1 | h1
    · exact h.lw q h1
    · rw [h1]; exact hl
  · refine ⟨h.dn, h.sn, h.gl, fun q hq => ?_, h.lw, h.lf, mput_nodup h.nd⟩
    rcases mput_mem hq with h1 | h1
    · exact h.ll q h1
    · rw [h1]; exact hl
theorem splice3 (A D : List Value) (a b c v : Value) : (A ++ ([a, b, c] ++ D)).take (A.length + 2) ++ [v] ++ (A ++ ([a, b, c] ++ D)).drop (A.length + 2 + 1) = A ++ ([a, b, v] ++ D) := by
  rw [List.take_append, List.drop_append, List.take_of_length_le (l := A) (Nat.le_add_right _ _), List.drop_eq_nil_of_le (show A.length ≤ A.length + 2 + 1 from by omega)]
  rw [show A.length + 2 - A.length = 2 from by omega, show A.length + 2 + 1 - A.length = 3 from by omega]
  simp
theorem wr_set {ws : List (Pl × Rw)} {j : Nat} {x : Pl × Rw} (hx : ws[j]? = some x) (r : Rw) : (ewr.all ws).take (0 + j * 3 + 2) ++ [vsl r] ++ (ewr.all ws).drop (0 + j * 3 + 2 + 1) = ewr.all (ws.set j (x.1, r)) := by
  have hj := (List.getElem?_eq_some_iff.1 hx).1
  have hl : (ewr.all (ws.take j)).length = j * 3 := by
    rw [Enc.all_len, List.length_take, Nat.min_eq_left (Nat.le_of_lt hj)]
    rfl
  have e1 : ewr.all ws = ewr.all (ws.take j) ++ ([vi x.1.1, vi x.1.2, vsl x.2] ++ ewr.all (ws.drop (j + 1))) := by
    conv => lhs; rw [split_at hx]
    rw [Enc.all_append, Enc.all_append, List.append_assoc]
    rfl
  have e2 : ewr.all (ws.set j (x.1, r)) = ewr.all (ws.take j) ++ ([vi x.1.1, vi x.1.2, vsl r] ++ ewr.all (ws.drop (j + 1))) := by
    rw [List.set_eq_take_append_cons_drop, if_pos hj, Enc.all_append]
    rfl
  rw [e1, e2, Nat.zero_add, ← hl]
  exact splice3 _ _ _ _ _ _
set_option maxHeartbeats 1000000 in
theorem Rot_calls {A : Nat → Prop} {w : World} {R : Nat} {s : RA} (h : RK A w R s) (d a n : Int) (hn : n ≤ 9223372036854775807) :
    Calls Try.prog 32 [ptr R, vi d, vi a, vi n].toArray w (Ret fun v w' => v = vi (rotE s d a n) ∧ RK (fun x => A x ∨ w.heap.size ≤ x) w' R (if rotE s d a n = 0 then rotS s (d, a) n else s) ∧ Chg A w w') := by
  have aR := h.aR
  have hok := h.ok
  have hrok := rotS_ok h.ok (d, a) n
  replace h := h.old
  have hw := Chg.refl A w
  refine Calls.of_WC Try.func32 rfl Try.ntmps32 (by simp) ?_
  refine WC.seq (WC.region (WL.assign rfl rfl (WL.nil (WX.then_normal (WC.seq (WC.block (WC.seq (?_))))))))
  refine WC.region (WL.move rfl rfl (WL.move rfl rfl (WL.move rfl rfl (?_))))
  refine WL.call eg_36 rfl rfl (in_calls h d a) ?_
  rintro v w1 ⟨rfl, k1⟩
  have zs_k1 := k1.size
  replace h := h.pure k1
  replace hw := hw.pure k1
  by_cases h12 : inS s d a
  ·
    rw [show decide (0 ≤ d ∧ d < (s.dn : Int) ∧ 0 ≤ a ∧ a < (s.sn : Int)) = true from decide_eq_true h12]
    refine WL.not rfl rfl (WL.move rfl rfl (WL.want rfl rfl rfl (WL.move rfl rfl (WL.want rfl rfl rfl (?_)))))
    refine WL.lss? rfl rfl rfl (fun h20 => ?_) (fun h20 => ?_)
    ·
      refine WL.pickF rfl rfl rfl (WL.assign rfl rfl (WL.nil (WX.then_normal (WC.cond_true rfl (WC.seq (WC.region (WL.assign rfl rfl (?_))))))))
      refine WL.nil (WX.then_normal (WC.ret (WX.block_ret (WX.then_ret (?_)))))
      refine WX.ret1 (.inl rfl) Try.results32 rfl ?_
      first
        | (have hh : ¬ inS s d a := h12
           have e0 : rotE s d a n = 1 := by simp [rotE, hh]
           rw [e0]
           exact ⟨_, rfl, rfl, h.mono (fun x hx => .inl hx.1), hw⟩)
        | (have hh : n < 0 := h20
           have e0 : rotE s d a n = 1 := by simp [rotE, hh]
           rw [e0]
           exact ⟨_, rfl, rfl, h.mono (fun x hx => .inl hx.1), hw⟩)
        | (have hh : goneS s d = true := hg
           have hh2 : ¬ n < 0 := by omega
           have e0 : rotE s d a n = 3 := by simp [rotE, hh, hh2, h12]
           rw [e0]
           exact ⟨_, rfl, rfl, h.mono (fun x hx => .inl hx.1), hw⟩)
        | (have hh : ws[j]? = some x := hxj
           have hh2 : ¬ n < 0 := by omega
           have e0 : rotE s d a n = 0 := by simp [rotE, hg, hh2, h12]
           rw [e0, if_pos rfl]
           have e1 : rotS s (d, a) n = { s with waits := putW s.waits (d, a) (rotB (heldS s (d, a)) n) } := by
             unfold rotS
             rw [hws, xsm_newV, newV_some hxj hxp hno]
             rfl
           rw [e1] at hrok ⊢
           refine ⟨_, rfl, rfl, ⟨.inl aR, hrok, m, ga, gc, _, wc, _, ls, Eq.mp (congrArg (Blk _ R 51) ?_) hB, hI8.mono (fun x hx => hx.1), hls, ?_⟩, hw⟩
           ·
             simp
           ·
             show putW s.waits (d, a) (rotB (heldS s (d, a)) n) = _
             rw [hws, ← hrb, hxp, ← putW_some hxj hxp hno, xsm_putW])
        | (have hh2 : ¬ n < 0 := by omega
           have e0 : rotE s d a n = 0 := by simp [rotE, hg, hh2, h12]
           rw [e0, if_pos rfl]
           have e1 : rotS s (d, a) n = { s with last := mput s.last (d, a) (rotB (heldS s (d, a)) n) } := by
             unfold rotS
             rw [hws, xsm_newV, newV_none hno]
             rfl
           rw [e1] at hrok ⊢
           refine ⟨_, rfl, rfl, ⟨.inl aR, hrok, m, ga, gc, _, wc, _, _, hB, hI9.mono (fun x hx => hx.1), ?_, hws⟩, hw⟩
           show mput s.last (d, a) (rotB (heldS s (d, a)) n) = _
           rw [hls, ← hrb, xsm_put])
    ·
      refine WL.pickF rfl rfl rfl (WL.assign rfl rfl (WL.nil (WX.then_normal (WC.cond_false rfl (WC.seq (WC.region (WL.move rfl rfl (?_))))))))
      refine WL.nilCheck rfl rfl (WL.fieldAddr (fld_51_3) rfl rfl (?_))
      obtain ⟨m, ga, gc, wa, wc, ws, ls, hB, hI, hls, hws⟩ := h.ex
      refine WL.loadB Try.isAgg48 hB rfl rfl rfl ?_
      refine WL.move rfl rfl (?_)
      have hgd := goneS_at h.ok (d := d) ⟨h12.1, h12.2.1⟩
      refine WL.indexT (e := ebool) Try.underlying48 Try.sizeOf4 hI.gone.rsl rfl rfl ⟨hgd, by have := h12.1; omega⟩ rfl ?_
      intro bb oo hcc
      refine WL.load Try.isAgg4 rfl (hcc 0 _ rfl) rfl ?_
      rcases hg : goneS s d with _ | _
      ·
        clear hB hI hls hws hcc
        refine WL.assign rfl rfl (WL.nil (WX.then_normal (WC.cond_false rfl (WC.skip (WX.block_normal (WX.then_normal (WC.seq (?_))))))))
        refine WC.region (WL.move rfl rfl (WL.move rfl rfl (WL.bld rfl (bld_53_0_1 _ _) rfl (?_))))
        refine WL.alloc Try.zeroValue53 rfl ?_
        intro g_1 w_1 hge_1 hlt_1 hb_1 k_1
        have zs_k_1 := k_1.size
        replace h := h.pure k_1
        replace hw := hw.pure k_1
        refine WL.stores Try.sizeOf53 hb_1 rfl rfl (by first | (simp; done) | (simp; omega) | rfl) (by first | exact Enc.one _ _ | (intro u hu; obtain ⟨x, _, rfl⟩ := List.mem_map.1 hu; rfl) | (simp [Value.oneCell']; done) | (simp [Value.oneCell', Value.cells]; done)) (by first | (simp; done) | (simp; omega) | (simp [Value.cells]; done) | (simp [Value.cells]; omega) | exact Nat.le_of_ble_eq_true rfl) rfl ?_
        intro w_2 hs_2 hn_2 k_2
        have zs_k_2 := k_2.size
        replace h := h.chg k_2 (by first | (intro x h1 h2; exact h2) | (intro x h0 h1 h2; exact hS x h1 h2) | (intro x h0 h1 h2; have h3 : _ = _ := h2; subst h3; exact hSR h1.1) | (intro x h1 h2; have h3 : _ = _ := h2; subst h3; assumption) | (intro x h1 h2; have h3 : _ = _ := h2; exfalso; omega) | (intro b h1 h2 h3; have h4 : _ = _ := h3; (try dsimp only at h2); exfalso; omega) | (intro h1; have h2 : _ = _ := h1; exfalso; omega) | (intro h1; have h2 : _ ≤ _ := h1; exfalso; omega) | (intros; exfalso; (try dsimp only at *); omega) | (intro b h1 h2 h3; exfalso; have h4 := h3.2; (try dsimp only at *); omega) | (intro h1; exfalso; have h4 := h1.2; (try dsimp only at *); omega) | (intro x h1 h2; exfalso; have h4 := h2.2; (try dsimp only at *); omega) | (intro x h1 h2; exact ⟨_, rfl, h2⟩) | (intro x h1 h2; have h4 := h2.1; have h5 := h2.2; exfalso; omega) | (intro x h1 h2; exact h2.1) | (intro x h1 h2; rcases h2.1 with h3 | h3; exact h3; exfalso; omega) | (intro x h1 h2; rcases h2 with h3 | h3; exact h3; exfalso; omega))
        replace hw := hw.chg k_2 (by first | (intro x h1 h2; exact h2) | (intro x h0 h1 h2; exact hS x h1 h2) | (intro x h0 h1 h2; have h3 : _ = _ := h2; subst h3; exact hSR h1.1) | (intro x h1 h2; have h3 : _ = _ := h2; subst h3; assumption) | (intro x h1 h2; have h3 : _ = _ := h2; exfalso; omega) | (intro b h1 h2 h3; have h4 : _ = _ := h3; (try dsimp only at h2); exfalso; omega) | (intro h1; have h2 : _ = _ := h1; exfalso; omega) | (intro h1; have h2 : _ ≤ _ := h1; exfalso; omega) | (intros; exfalso; (try dsimp only at *); omega) | (intro b h1 h2 h3; exfalso; have h4 := h3.2; (try dsimp only at *); omega) | (intro h1; exfalso; have h4 := h1.2; (try dsimp only at *); omega) | (intro x h1 h2; exfalso; have h4 := h2.2; (try dsimp only at *); omega) | (intro x h1 h2; exact ⟨_, rfl, h2⟩) | (intro x h1 h2; have h4 := h2.1; have h5 := h2.2; exfalso; omega) | (intro x h1 h2; exact h2.1) | (intro x h1 h2; rcases h2.1 with h3 | h3; exact h3; exfalso; omega) | (intro x h1 h2; rcases h2 with h3 | h3; exact h3; exfalso; omega))
        replace hb_1 := hn_2
        refine WL.nil (WX.then_normal (WC.seq (WC.region (?_))))
        have hb8 : Blk _ g_1 53 [vi d, vi a] := hb_1
        refine WL.move rfl rfl ?_
        refine WL.loadsB Try.isAgg53 Try.sizeOf53 hb8 rfl (by first | (simp; done) | (simp; omega) | rfl) rfl (?_)
        refine WL.call eg_38 rfl rfl (held_calls h (d, a)) ?_
        rintro v w2 ⟨⟨r, rfl, hr, hx⟩, k2⟩
        have zs_k2 := k2.size
        replace h := h.pure k2
        replace hw := hw.pure k2
        replace hb8 := hb8.pure k2
        have hxl : r.xs.length = 128 := by rw [hx]; exact heldS_len hok _
        refine WL.call eg_37 rfl rfl (clone_calls hr hxl) ?_
        rintro v w3 ⟨⟨gq, cq, rfl, hq, hq1, hq2⟩, k3⟩
        have zw3 := hw.size
        have zs_k3 := k3.size
        replace h := h.pure k3
        replace hw := hw.pure k3
        replace hb8 := hb8.pure k3
        refine WL.assign rfl rfl (WL.nil (WX.then_normal (WC.seq (WC.region (WL.move rfl rfl (WL.move rfl rfl (WL.rem64i rfl rfl (by constructor <;> omega) rfl (?_))))))))
        obtain ⟨kk, hk⟩ : ∃ kk, r.xs[(n % 128).toNat]? = some kk := ⟨_, List.getElem?_eq_getElem (by omega)⟩
        refine WL.indexC hq.rsl Try.underlying43 Try.sizeOf5 rfl rfl ⟨hk, by omega⟩ rfl ?_
        refine WL.load Try.isAgg5 rfl (hq.rsl.cellsAt hk 0 _ rfl) rfl ?_
        refine WL.move rfl rfl (WL.quo64i rfl rfl (by refine ⟨?_, ?_, ?_⟩ <;> omega) rfl (WL.rem64i rfl rfl (by constructor <;> omega) rfl (WL.add64 rfl rfl (by first | omega | (constructor <;> omega)) rfl (WL.c_i64_u8 Try.underlying3 Try.underlying5 rfl rfl (WL.num rfl rfl (n_xor8 _ _ _ _) rfl (?_))))))
        refine WL.index (j := (n % 128).toNat) Try.underlying43 Try.sizeOf5 rfl rfl (by omega) (by omega) rfl ?_
        refine WL.storeRow (z := kk ^^^ B8 (1 + n / 128 % 255)) ((n % 128).toNat) Try.sizeOf5 hq rfl rfl rfl (by first | (simp; done) | (show 0 + _ * 1 = _; omega)) (by omega) rfl ?_
        intro w_3 zs_3 nr_3 k_3
        have zs_k_3 := k_3.size
        replace h := h.chg k_3 (by first | (intro x h1 h2; exact h2) | (intro x h0 h1 h2; exact hS x h1 h2) | (intro x h0 h1 h2; have h3 : _ = _ := h2; subst h3; exact hSR h1.1) | (intro x h1 h2; have h3 : _ = _ := h2; subst h3; assumption) | (intro x h1 h2; have h3 : _ = _ := h2; exfalso; omega) | (intro b h1 h2 h3; have h4 : _ = _ := h3; (try dsimp only at h2); exfalso; omega) | (intro h1; have h2 : _ = _ := h1; exfalso; omega) | (intro h1; have h2 : _ ≤ _ := h1; exfalso; omega) | (intros; exfalso; (try dsimp only at *); omega) | (intro b h1 h2 h3; exfalso; have h4 := h3.2; (try dsimp only at *); omega) | (intro h1; exfalso; have h4 := h1.2; (try dsimp only at *); omega) | (intro x h1 h2; exfalso; have h4 := h2.2; (try dsimp only at *); omega) | (intro x h1 h2; exact ⟨_, rfl, h2⟩) | (intro x h1 h2; have h4 := h2.1; have h5 := h2.2; exfalso; omega) | (intro x h1 h2; exact h2.1) | (intro x h1 h2; rcases h2.1 with h3 | h3; exact h3; exfalso; omega) | (intro x h1 h2; rcases h2 with h3 | h3; exact h3; exfalso; omega))
        replace hw := hw.chg k_3 (by first | (intro x h1 h2; exact h2) | (intro x h0 h1 h2; exact hS x h1 h2) | (intro x h0 h1 h2; have h3 : _ = _ := h2; subst h3; exact hSR h1.1) | (intro x h1 h2; have h3 : _ = _ := h2; subst h3; assumption) | (intro x h1 h2; have h3 : _ = _ := h2; exfalso; omega) | (intro b h1 h2 h3; have h4 : _ = _ := h3; (try dsimp only at h2); exfalso; omega) | (intro h1; have h2 : _ = _ := h1; exfalso; omega) | (intro h1; have h2 : _ ≤ _ := h1; exfalso; omega) | (intros; exfalso; (try dsimp only at *); omega) | (intro b h1 h2 h3; exfalso; have h4 := h3.2; (try dsimp only at *); omega) | (intro h1; exfalso; have h4 := h1.2; (try dsimp only at *); omega) | (intro x h1 h2; exfalso; have h4 := h2.2; (try dsimp only at *); omega) | (intro x h1 h2; exact ⟨_, rfl, h2⟩) | (intro x h1 h2; have h4 := h2.1; have h5 := h2.2; exfalso; omega) | (intro x h1 h2; exact h2.1) | (intro x h1 h2; rcases h2.1 with h3 | h3; exact h3; exfalso; omega) | (intro x h1 h2; rcases h2 with h3 | h3; exact h3; exfalso; omega))
        replace hb8 := hb8.chg k_3 (by first | (intro x h1 h2; exact h2) | (intro x h0 h1 h2; exact hS x h1 h2) | (intro x h0 h1 h2; have h3 : _ = _ := h2; subst h3; exact hSR h1.1) | (intro x h1 h2; have h3 : _ = _ := h2; subst h3; assumption) | (intro x h1 h2; have h3 : _ = _ := h2; exfalso; omega) | (intro b h1 h2 h3; have h4 : _ = _ := h3; (try dsimp only at h2); exfalso; omega) | (intro h1; have h2 : _ = _ := h1; exfalso; omega) | (intro h1; have h2 : _ ≤ _ := h1; exfalso; omega) | (intros; exfalso; (try dsimp only at *); omega) | (intro b h1 h2 h3; exfalso; have h4 := h3.2; (try dsimp only at *); omega) | (intro h1; exfalso; have h4 := h1.2; (try dsimp only at *); omega) | (intro x h1 h2; exfalso; have h4 := h2.2; (try dsimp only at *); omega) | (intro x h1 h2; exact ⟨_, rfl, h2⟩) | (intro x h1 h2; have h4 := h2.1; have h5 := h2.2; exfalso; omega) | (intro x h1 h2; exact h2.1) | (intro x h1 h2; rcases h2.1 with h3 | h3; exact h3; exfalso; omega) | (intro x h1 h2; rcases h2 with h3 | h3; exact h3; exfalso; omega))
        replace hq := nr_3
        have hrb : r.xs.set (n % 128).toNat (kk ^^^ B8 (1 + n / 128 % 255)) = rotB (heldS s (d, a)) n := by
          rw [rotB, ← hx, List.getD_eq_getElem?_getD, hk]
          rfl
        have hqS : Row (fun x => (A x ∨ w.heap.size ≤ x) ∧ x ≠ R) _ 5 eb (some ⟨gq, 0, none⟩) cq (r.xs.set (n % 128).toNat (kk ^^^ B8 (1 + n / 128 % 255))) := ((h.ne hq).mono (fun x hx => ⟨.inr (by have := hx.1; omega), hx.2⟩))
        refine WL.nil (WX.then_normal (WC.seq (WC.seq (WC.region (WL.move rfl rfl (WL.loadsB Try.isAgg53 Try.sizeOf53 hb8 rfl (by first | (simp; done) | (simp; omega) | rfl) rfl (?_)))))))
        obtain ⟨m, ga, gc, wa, wc, ws, ls, hB, hI, hls, hws⟩ := h.ex
        have am : A m := hI.sm.1
        have lm : m < w.heap.size := hI.sm.2
        have lR : R < w.heap.size := h.aR.2
        replace hI := hI.open hB
        have hmR : m ≠ R := hI.sm.2
        refine WL.call eg_45 rfl rfl (newest_calls hB hI.waits (d, a)) ?_
        rintro v w5 ⟨⟨ao, rfl, hnew⟩, k5⟩
        have zs_k5 := k5.size
        replace hw := hw.pure k5
        replace hb8 := hb8.pure k5
        replace hqS := hqS.pure k5
        replace hB := hB.pure k5
        replace hI := hI.pure k5
        refine WL.assign rfl rfl (WL.nil (WX.then_normal (WC.seq (WC.region (WL.move rfl rfl (?_))))))
        refine WL.ptrSome Try.underlying76 rfl rfl rfl ?_
        rcases hnew with ⟨rfl, hno⟩ | ⟨j, x, gW, hxj, hxp, hno, rfl, rfl⟩
        ·
          refine WL.nil (WX.then_normal (WC.cond_false rfl (WC.skip (WX.then_normal (WC.seq (?_))))))
          replace hI := hI.mono (S' := fun x => (A x ∨ w.heap.size ≤ x) ∧ x ≠ R) (fun x hx => ⟨.inl hx.1.1, hx.2⟩)
          refine WC.draw ((fun x => x = m)) [0, 1, 2, 3, 4, 5] [6] mixed rfl rfl (fun wd_4 kd_4 zd_4 => ?_)
          have zs_kd_4 := kd_4.size
          replace hw := hw.pure kd_4
          replace hb8 := hb8.pure kd_4
          replace hqS := hqS.pure kd_4
          replace hB := hB.pure kd_4
          replace hI := hI.pure kd_4
          apply DQ.step (E' := [(0, _)])
          case ho => rfl
          case hs => exact ⟨rfl, trivial⟩
          case hk => rfl
          case h1 =>
            intro wq_6 kq_6
            refine WL.move rfl rfl (?_)
            refine WL.nil ?_
            exact WX.one ⟨rfl, by first | exact Chg.refl _ _ | assumption⟩
          apply DQ.step (E' := [(58, _)])
          case ho => rfl
          case hs => exact ⟨rfl, trivial⟩
          case hk => rfl
          case h1 =>
            intro wq_7 kq_7
            refine WL.nilCheck rfl rfl (?_)
            refine WL.nil ?_
            exact WX.one ⟨rfl, by first | exact Chg.refl _ _ | assumption⟩
          apply DQ.step (E' := [(59, _)])
          case ho => rfl
          case hs => exact ⟨rfl, trivial⟩
          case hk => rfl
          case h1 =>
            intro wq_8 kq_8
            refine WL.fieldAddr (fld_51_2) rfl rfl (?_)
            refine WL.nil ?_
            exact WX.one ⟨rfl, by first | exact Chg.refl _ _ | assumption⟩
          apply DQ.step (E' := [(60, _)])
          case ho => rfl
          case hs => exact ⟨rfl, trivial⟩
          case hk => rfl
          case h1 =>
            intro wq_9 kq_9
            have zs_kq_9 := kq_9.size
            replace hw := hw.chg kq_9 (by first | (intro x h1 h2; exact h2) | (intro x h0 h1 h2; exact hS x h1 h2) | (intro x h0 h1 h2; have h3 : _ = _ := h2; subst h3; exact hSR h1.1) | (intro x h1 h2; have h3 : _ = _ := h2; subst h3; assumption) | (intro x h1 h2; have h3 : _ = _ := h2; exfalso; omega) | (intro b h1 h2 h3; have h4 : _ = _ := h3; (try dsimp only at h2); exfalso; omega) | (intro h1; have h2 : _ = _ := h1; exfalso; omega) | (intro h1; have h2 : _ ≤ _ := h1; exfalso; omega) | (intros; exfalso; (try dsimp only at *); omega) | (intro b h1 h2 h3; exfalso; have h4 := h3.2; (try dsimp only at *); omega) | (intro h1; exfalso; have h4 := h1.2; (try dsimp only at *); omega) | (intro x h1 h2; exfalso; have h4 := h2.2; (try dsimp only at *); omega) | (intro x h1 h2; exact ⟨_, rfl, h2⟩) | (intro x h1 h2; have h4 := h2.1; have h5 := h2.2; exfalso; omega) | (intro x h1 h2; exact h2.1) | (intro x h1 h2; rcases h2.1 with h3 | h3; exact h3; exfalso; omega) | (intro x h1 h2; rcases h2 with h3 | h3; exact h3; exfalso; omega))
            replace hb8 := hb8.chg kq_9 (by first | (intro x h1 h2; exact h2) | (intro x h0 h1 h2; exact hS x h1 h2) | (intro x h0 h1 h2; have h3 : _ = _ := h2; subst h3; exact hSR h1.1) | (intro x h1 h2; have h3 : _ = _ := h2; subst h3; assumption) | (intro x h1 h2; have h3 : _ = _ := h2; exfalso; omega) | (intro b h1 h2 h3; have h4 : _ = _ := h3; (try dsimp only at h2); exfalso; omega) | (intro h1; have h2 : _ = _ := h1; exfalso; omega) | (intro h1; have h2 : _ ≤ _ := h1; exfalso; omega) | (intros; exfalso; (try dsimp only at *); omega) | (intro b h1 h2 h3; exfalso; have h4 := h3.2; (try dsimp only at *); omega) | (intro h1; exfalso; have h4 := h1.2; (try dsimp only at *); omega) | (intro x h1 h2; exfalso; have h4 := h2.2; (try dsimp only at *); omega) | (intro x h1 h2; exact ⟨_, rfl, h2⟩) | (intro x h1 h2; have h4 := h2.1; have h5 := h2.2; exfalso; omega) | (intro x h1 h2; exact h2.1) | (intro x h1 h2; rcases h2.1 with h3 | h3; exact h3; exfalso; omega) | (intro x h1 h2; rcases h2 with h3 | h3; exact h3; exfalso; omega))
            replace hB := hB.chg kq_9 (by first | (intro x h1 h2; exact h2) | (intro x h0 h1 h2; exact hS x h1 h2) | (intro x h0 h1 h2; have h3 : _ = _ := h2; subst h3; exact hSR h1.1) | (intro x h1 h2; have h3 : _ = _ := h2; subst h3; assumption) | (intro x h1 h2; have h3 : _ = _ := h2; exfalso; omega) | (intro b h1 h2 h3; have h4 : _ = _ := h3; (try dsimp only at h2); exfalso; omega) | (intro h1; have h2 : _ = _ := h1; exfalso; omega) | (intro h1; have h2 : _ ≤ _ := h1; exfalso; omega) | (intros; exfalso; (try dsimp only at *); omega) | (intro b h1 h2 h3; exfalso; have h4 := h3.2; (try dsimp only at *); omega) | (intro h1; exfalso; have h4 := h1.2; (try dsimp only at *); omega) | (intro x h1 h2; exfalso; have h4 := h2.2; (try dsimp only at *); omega) | (intro x h1 h2; exact ⟨_, rfl, h2⟩) | (intro x h1 h2; have h4 := h2.1; have h5 := h2.2; exfalso; omega) | (intro x h1 h2; exact h2.1) | (intro x h1 h2; rcases h2.1 with h3 | h3; exact h3; exfalso; omega) | (intro x h1 h2; rcases h2 with h3 | h3; exact h3; exfalso; omega))
            refine WL.loadB Try.isAgg47 hB rfl rfl rfl (?_)
            refine WL.nil ?_
            exact WX.one ⟨rfl, by first | exact Chg.refl _ _ | assumption⟩
          apply DQ.step (E' := [(9, _)])
          case ho => rfl
          case hs => exact ⟨rfl, trivial⟩
          case hk => rfl
          case h1 =>
            intro wq_10 kq_10
            have zs_kq_10 := kq_10.size
            replace hw := hw.chg kq_10 (by first | (intro x h1 h2; exact h2) | (intro x h0 h1 h2; exact hS x h1 h2) | (intro x h0 h1 h2; have h3 : _ = _ := h2; subst h3; exact hSR h1.1) | (intro x h1 h2; have h3 : _ = _ := h2; subst h3; assumption) | (intro x h1 h2; have h3 : _ = _ := h2; exfalso; omega) | (intro b h1 h2 h3; have h4 : _ = _ := h3; (try dsimp only at h2); exfalso; omega) | (intro h1; have h2 : _ = _ := h1; exfalso; omega) | (intro h1; have h2 : _ ≤ _ := h1; exfalso; omega) | (intros; exfalso; (try dsimp only at *); omega) | (intro b h1 h2 h3; exfalso; have h4 := h3.2; (try dsimp only at *); omega) | (intro h1; exfalso; have h4 := h1.2; (try dsimp only at *); omega) | (intro x h1 h2; exfalso; have h4 := h2.2; (try dsimp only at *); omega) | (intro x h1 h2; exact ⟨_, rfl, h2⟩) | (intro x h1 h2; have h4 := h2.1; have h5 := h2.2; exfalso; omega) | (intro x h1 h2; exact h2.1) | (intro x h1 h2; rcases h2.1 with h3 | h3; exact h3; exfalso; omega) | (intro x h1 h2; rcases h2 with h3 | h3; exact h3; exfalso; omega))
            replace hb8 := hb8.chg kq_10 (by first | (intro x h1 h2; exact h2) | (intro x h0 h1 h2; exact hS x h1 h2) | (intro x h0 h1 h2; have h3 : _ = _ := h2; subst h3; exact hSR h1.1) | (intro x h1 h2; have h3 : _ = _ := h2; subst h3; assumption) | (intro x h1 h2; have h3 : _ = _ := h2; exfalso; omega) | (intro b h1 h2 h3; have h4 : _ = _ := h3; (try dsimp only at h2); exfalso; omega) | (intro h1; have h2 : _ = _ := h1; exfalso; omega) | (intro h1; have h2 : _ ≤ _ := h1; exfalso; omega) | (intros; exfalso; (try dsimp only at *); omega) | (intro b h1 h2 h3; exfalso; have h4 := h3.2; (try dsimp only at *); omega) | (intro h1; exfalso; have h4 := h1.2; (try dsimp only at *); omega) | (intro x h1 h2; exfalso; have h4 := h2.2; (try dsimp only at *); omega) | (intro x h1 h2; exact ⟨_, rfl, h2⟩) | (intro x h1 h2; have h4 := h2.1; have h5 := h2.2; exfalso; omega) | (intro x h1 h2; exact h2.1) | (intro x h1 h2; rcases h2.1 with h3 | h3; exact h3; exfalso; omega) | (intro x h1 h2; rcases h2 with h3 | h3; exact h3; exfalso; omega))
            replace hB := hB.chg kq_10 (by first | (intro x h1 h2; exact h2) | (intro x h0 h1 h2; exact hS x h1 h2) | (intro x h0 h1 h2; have h3 : _ = _ := h2; subst h3; exact hSR h1.1) | (intro x h1 h2; have h3 : _ = _ := h2; subst h3; assumption) | (intro x h1 h2; have h3 : _ = _ := h2; exfalso; omega) | (intro b h1 h2 h3; have h4 : _ = _ := h3; (try dsimp only at h2); exfalso; omega) | (intro h1; have h2 : _ = _ := h1; exfalso; omega) | (intro h1; have h2 : _ ≤ _ := h1; exfalso; omega) | (intros; exfalso; (try dsimp only at *); omega) | (intro b h1 h2 h3; exfalso; have h4 := h3.2; (try dsimp only at *); omega) | (intro h1; exfalso; have h4 := h1.2; (try dsimp only at *); omega) | (intro x h1 h2; exfalso; have h4 := h2.2; (try dsimp only at *); omega) | (intro x h1 h2; exact ⟨_, rfl, h2⟩) | (intro x h1 h2; have h4 := h2.1; have h5 := h2.2; exfalso; omega) | (intro x h1 h2; exact h2.1) | (intro x h1 h2; rcases h2.1 with h3 | h3; exact h3; exfalso; omega) | (intro x h1 h2; rcases h2 with h3 | h3; exact h3; exfalso; omega))
            refine WL.loadsB Try.isAgg53 Try.sizeOf53 hb8 rfl (by first | (simp; done) | (simp; omega) | rfl) rfl (?_)
            refine WL.nil ?_
            exact WX.one ⟨rfl, by first | exact Chg.refl _ _ | assumption⟩
          apply DQ.step (E' := [(10, _)])
          case ho => rfl
          case hs => exact ⟨rfl, trivial⟩
          case hk => rfl
          case h1 =>
            intro wq_11 kq_11
            refine WL.move rfl rfl (?_)
            refine WL.nil ?_
            exact WX.one ⟨rfl, by first | exact Chg.refl _ _ | assumption⟩
          refine DQ.done (fun hd_5 => ?_)
          refine DL.step [(61, _), (62, _), (63, _)] rfl ⟨rfl, rfl, rfl, trivial⟩ rfl (fun wq_12 kq_12 => ?_)
          have zs_kq_12 := kq_12.size
          replace hw := hw.pure kq_12
          replace hb8 := hb8.pure kq_12
          replace hqS := hqS.pure kq_12
          replace hB := hB.pure kq_12
          replace hI := hI.pure kq_12
          replace hd_5 := hd_5.pure kq_12
          refine WL.mput (v := (⟨some ⟨gq, 0, none⟩, cq, r.xs.set (n % 128).toNat (kk ^^^ B8 (1 + n / 128 % 255))⟩ : Rw)) plOk Try.underlying47 hI.map rfl (show _ = some (kpl (d, a)) from rfl) (show _ = some (Value.slice (some ⟨gq, 0, none⟩) (r.xs.set (n % 128).toNat (kk ^^^ B8 (1 + n / 128 % 255))).length cq) from by rw [List.length_set]; rfl) ?_
          intro w9 z9 hM9 k9
          have hI9 := hI.putMapN hM9 k9 (fun p hp => by
            rcases mput_mem hp with h3 | h3
            ·
              exact .inl ⟨p, h3, rfl⟩
            ·
              right
              rw [h3]
              exact hqS)
          have zs_k9 := k9.size
          replace hw := hw.chg k9 (by first | (intro x h1 h2; exact h2) | (intro x h0 h1 h2; exact hS x h1 h2) | (intro x h0 h1 h2; have h3 : _ = _ := h2; subst h3; exact hSR h1.1) | (intro x h1 h2; have h3 : _ = _ := h2; subst h3; assumption) | (intro x h1 h2; have h3 : _ = _ := h2; exfalso; omega) | (intro b h1 h2 h3; have h4 : _ = _ := h3; (try dsimp only at h2); exfalso; omega) | (intro h1; have h2 : _ = _ := h1; exfalso; omega) | (intro h1; have h2 : _ ≤ _ := h1; exfalso; omega) | (intros; exfalso; (try dsimp only at *); omega) | (intro b h1 h2 h3; exfalso; have h4 := h3.2; (try dsimp only at *); omega) | (intro h1; exfalso; have h4 := h1.2; (try dsimp only at *); omega) | (intro x h1 h2; exfalso; have h4 := h2.2; (try dsimp only at *); omega) | (intro x h1 h2; exact ⟨_, rfl, h2⟩) | (intro x h1 h2; have h4 := h2.1; have h5 := h2.2; exfalso; omega) | (intro x h1 h2; exact h2.1) | (intro x h1 h2; rcases h2.1 with h3 | h3; exact h3; exfalso; omega) | (intro x h1 h2; rcases h2 with h3 | h3; exact h3; exfalso; omega))
          replace hB := hB.chg k9 (by first | (intro x h1 h2; exact h2) | (intro x h0 h1 h2; exact hS x h1 h2) | (intro x h0 h1 h2; have h3 : _ = _ := h2; subst h3; exact hSR h1.1) | (intro x h1 h2; have h3 : _ = _ := h2; subst h3; assumption) | (intro x h1 h2; have h3 : _ = _ := h2; exfalso; omega) | (intro b h1 h2 h3; have h4 : _ = _ := h3; (try dsimp only at h2); exfalso; omega) | (intro h1; have h2 : _ = _ := h1; exfalso; omega) | (intro h1; have h2 : _ ≤ _ := h1; exfalso; omega) | (intros; exfalso; (try dsimp only at *); omega) | (intro b h1 h2 h3; exfalso; have h4 := h3.2; (try dsimp only at *); omega) | (intro h1; exfalso; have h4 := h1.2; (try dsimp only at *); omega) | (intro x h1 h2; exfalso; have h4 := h2.2; (try dsimp only at *); omega) | (intro x h1 h2; exact ⟨_, rfl, h2⟩) | (intro x h1 h2; have h4 := h2.1; have h5 := h2.2; exfalso; omega) | (intro x h1 h2; exact h2.1) | (intro x h1 h2; rcases h2.1 with h3 | h3; exact h3; exfalso; omega) | (intro x h1 h2; rcases h2 with h3 | h3; exact h3; exfalso; omega))
          replace hd_5 := hd_5.chg k9 (by first | (intro x h1 h2; exact h2) | (intro x h0 h1 h2; exact hS x h1 h2) | (intro x h0 h1 h2; have h3 : _ = _ := h2; subst h3; exact hSR h1.1) | (intro x h1 h2; have h3 : _ = _ := h2; subst h3; assumption) | (intro x h1 h2; have h3 : _ = _ := h2; exfalso; omega) | (intro b h1 h2 h3; have h4 : _ = _ := h3; (try dsimp only at h2); exfalso; omega) | (intro h1; have h2 : _ = _ := h1; exfalso; omega) | (intro h1; have h2 : _ ≤ _ := h1; exfalso; omega) | (intros; exfalso; (try dsimp only at *); omega) | (intro b h1 h2 h3; exfalso; have h4 := h3.2; (try dsimp only at *); omega) | (intro h1; exfalso; have h4 := h1.2; (try dsimp only at *); omega) | (intro x h1 h2; exfalso; have h4 := h2.2; (try dsimp only at *); omega) | (intro x h1 h2; exact ⟨_, rfl, h2⟩) | (intro x h1 h2; have h4 := h2.1; have h5 := h2.2; exfalso; omega) | (intro x h1 h2; exact h2.1) | (intro x h1 h2; rcases h2.1 with h3 | h3; exact h3; exfalso; omega) | (intro x h1 h2; rcases h2 with h3 | h3; exact h3; exfalso; omega))
          refine WL.nil ?_
          refine WX.one0 (v := undef) ⟨hd_5, ?_⟩
          refine DL.done (fun we_13 ke_13 => ?_)
          have zs_ke_13 := ke_13.size
          replace hw := hw.pure ke_13
          replace hB := hB.pure ke_13
          replace hd_5 := hd_5.pure ke_13
          replace hI9 := hI9.pure ke_13
          refine WX.then_normal (WC.seq (WC.region (WL.assign rfl rfl (WL.nil (WX.then_normal (WC.ret (?_)))))))
          refine WX.ret1 (.inl rfl) Try.results32 rfl ?_
          first
            | (have hh : ¬ inS s d a := h12
               have e0 : rotE s d a n = 1 := by simp [rotE, hh]
               rw [e0]
               exact ⟨_, rfl, rfl, h.mono (fun x hx => .inl hx.1), hw⟩)
            | (have hh : n < 0 := h20
               have e0 : rotE s d a n = 1 := by simp [rotE, hh]
               rw [e0]
               exact ⟨_, rfl, rfl, h.mono (fun x hx => .inl hx.1), hw⟩)
            | (have hh : goneS s d = true := hg
               have hh2 : ¬ n < 0 := by omega
               have e0 : rotE s d a n = 3 := by simp [rotE, hh, hh2, h12]
               rw [e0]
               exact ⟨_, rfl, rfl, h.mono (fun x hx => .inl hx.1), hw⟩)
            | (have hh : ws[j]? = some x := hxj
               have hh2 : ¬ n < 0 := by omega
               have e0 : rotE s d a n = 0 := by simp [rotE, hg, hh2, h12]
               rw [e0, if_pos rfl]
               have e1 : rotS s (d, a) n = { s with waits := putW s.waits (d, a) (rotB (heldS s (d, a)) n) } := by
                 unfold rotS
                 rw [hws, xsm_newV, newV_some hxj hxp hno]
                 rfl
               rw [e1] at hrok ⊢
               refine ⟨_, rfl, rfl, ⟨.inl aR, hrok, m, ga, gc, _, wc, _, ls, Eq.mp (congrArg (Blk _ R 51) ?_) hB, hI8.mono (fun x hx => hx.1), hls, ?_⟩, hw⟩
               ·
                 simp
               ·
                 show putW s.waits (d, a) (rotB (heldS s (d, a)) n) = _
                 rw [hws, ← hrb, hxp, ← putW_some hxj hxp hno, xsm_putW])
            | (have hh2 : ¬ n < 0 := by omega
               have e0 : rotE s d a n = 0 := by simp [rotE, hg, hh2, h12]
               rw [e0, if_pos rfl]
               have e1 : rotS s (d, a) n = { s with last := mput s.last (d, a) (rotB (heldS s (d, a)) n) } := by
                 unfold rotS
                 rw [hws, xsm_newV, newV_none hno]
                 rfl
               rw [e1] at hrok ⊢
               refine ⟨_, rfl, rfl, ⟨.inl aR, hrok, m, ga, gc, _, wc, _, _, hB, hI9.mono (fun x hx => hx.1), ?_, hws⟩, hw⟩
               show mput s.last (d, a) (rotB (heldS s (d, a)) n) = _
               rw [hls, ← hrb, xsm_put])
        ·
          have aW : A gW := (hI.waits.at_ _ rfl).1.1
          have hWR : gW ≠ R := (hI.waits.at_ _ rfl).2
          replace hI := hI.mono (S' := fun x => (A x ∨ w.heap.size ≤ x) ∧ x ≠ R) (fun x hx => ⟨.inl hx.1.1, hx.2⟩)
          refine WL.nil (WX.then_normal (WC.cond_true rfl (WC.seq (WC.region (WL.move rfl rfl (WL.move rfl rfl (WL.nilCheck rfl rfl (?_))))))))
          refine WL.fieldAddr (fld_55_1) rfl rfl (?_)
          have hjl := (List.getElem?_eq_some_iff.1 hxj).1
          refine WL.storeF (e := ewr) (ys := ws.set j (x.1, ⟨some ⟨gq, 0, none⟩, cq, r.xs.set (n % 128).toNat (kk ^^^ B8 (1 + n / 128 % 255))⟩)) Try.sizeOf43 hI.waits rfl (show _ = some (Value.slice (some ⟨gq, 0, none⟩) (r.xs.set (n % 128).toNat (kk ^^^ B8 (1 + n / 128 % 255))).length cq) from by rw [List.length_set]; rfl) rfl (by show 0 + j * 3 + 2 + 1 ≤ ws.length * 3; omega) (List.length_set ..) (wr_set hxj ⟨some ⟨gq, 0, none⟩, cq, r.xs.set (n % 128).toNat (kk ^^^ B8 (1 + n / 128 % 255))⟩) ?_
          intro w8 z8 hW8 k8
          have hI8 := hI.setWaits hW8 k8 (fun b hb => ⟨_, rfl, hb⟩) (fun p hp => by
            rcases List.mem_or_eq_of_mem_set hp with h3 | h3
            ·
              exact .inl ⟨p, h3, rfl⟩
            ·
              right
              rw [h3]
              exact hqS)
          have zs_k8 := k8.size
          replace hw := hw.chg k8 (by first | (intro x h1 h2; exact h2) | (intro x h0 h1 h2; exact hS x h1 h2) | (intro x h0 h1 h2; have h3 : _ = _ := h2; subst h3; exact hSR h1.1) | (intro x h1 h2; have h3 : _ = _ := h2; subst h3; assumption) | (intro x h1 h2; have h3 : _ = _ := h2; exfalso; omega) | (intro b h1 h2 h3; have h4 : _ = _ := h3; (try dsimp only at h2); exfalso; omega) | (intro h1; have h2 : _ = _ := h1; exfalso; omega) | (intro h1; have h2 : _ ≤ _ := h1; exfalso; omega) | (intros; exfalso; (try dsimp only at *); omega) | (intro b h1 h2 h3; exfalso; have h4 := h3.2; (try dsimp only at *); omega) | (intro h1; exfalso; have h4 := h1.2; (try dsimp only at *); omega) | (intro x h1 h2; exfalso; have h4 := h2.2; (try dsimp only at *); omega) | (intro x h1 h2; exact ⟨_, rfl, h2⟩) | (intro x h1 h2; have h4 := h2.1; have h5 := h2.2; exfalso; omega) | (intro x h1 h2; exact h2.1) | (intro x h1 h2; rcases h2.1 with h3 | h3; exact h3; exfalso; omega) | (intro x h1 h2; rcases h2 with h3 | h3; exact h3; exfalso; omega))
          replace hB := hB.chg k8 (by first | (intro x h1 h2; exact h2) | (intro x h0 h1 h2; exact hS x h1 h2) | (intro x h0 h1 h2; have h3 : _ = _ := h2; subst h3; exact hSR h1.1) | (intro x h1 h2; have h3 : _ = _ := h2; subst h3; assumption) | (intro x h1 h2; have h3 : _ = _ := h2; exfalso; omega) | (intro b h1 h2 h3; have h4 : _ = _ := h3; (try dsimp only at h2); exfalso; omega) | (intro h1; have h2 : _ = _ := h1; exfalso; omega) | (intro h1; have h2 : _ ≤ _ := h1; exfalso; omega) | (intros; exfalso; (try dsimp only at *); omega) | (intro b h1 h2 h3; exfalso; have h4 := h3.2; (try dsimp only at *); omega) | (intro h1; exfalso; have h4 := h1.2; (try dsimp only at *); omega) | (intro x h1 h2; exfalso; have h4 := h2.2; (try dsimp only at *); omega) | (intro x h1 h2; exact ⟨_, rfl, h2⟩) | (intro x h1 h2; have h4 := h2.1; have h5 := h2.2; exfalso; omega) | (intro x h1 h2; exact h2.1) | (intro x h1 h2; rcases h2.1 with h3 | h3; exact h3; exfalso; omega) | (intro x h1 h2; rcases h2 with h3 | h3; exact h3; exfalso; omega))
          refine WL.nil (WX.then_normal (WC.seq (WC.region (WL.assign rfl rfl (WL.nil (WX.then_normal (WC.ret (?_))))))))
          refine WX.then_ret (?_)
          refine WX.ret1 (.inl rfl) Try.results32 rfl ?_
          first
            | (have hh : ¬ inS s d a := h12
               have e0 : rotE s d a n = 1 := by simp [rotE, hh]
               rw [e0]
               exact ⟨_, rfl, rfl, h.mono (fun x hx => .inl hx.1), hw⟩)
            | (have hh : n < 0 := h20
               have e0 : rotE s d a n = 1 := by simp [rotE, hh]
               rw [e0]
               exact ⟨_, rfl, rfl, h.mono (fun x hx => .inl hx.1), hw⟩)
            | (have hh : goneS s d = true := hg
               have hh2 : ¬ n < 0 := by omega
               have e0 : rotE s d a n = 3 := by simp [rotE, hh, hh2, h12]
               rw [e0]
               exact ⟨_, rfl, rfl, h.mono (fun x hx => .inl hx.1), hw⟩)
            | (have hh : ws[j]? = some x := hxj
               have hh2 : ¬ n < 0 := by omega
               have e0 : rotE s d a n = 0 := by simp [rotE, hg, hh2, h12]
               rw [e0, if_pos rfl]
               have e1 : rotS s (d, a) n = { s with waits := putW s.waits (d, a) (rotB (heldS s (d, a)) n) } := by
                 unfold rotS
                 rw [hws, xsm_newV, newV_some hxj hxp hno]
                 rfl
               rw [e1] at hrok ⊢
               refine ⟨_, rfl, rfl, ⟨.inl aR, hrok, m, ga, gc, _, wc, _, ls, Eq.mp (congrArg (Blk _ R 51) ?_) hB, hI8.mono (fun x hx => hx.1), hls, ?_⟩, hw⟩
               ·
                 simp
               ·
                 show putW s.waits (d, a) (rotB (heldS s (d, a)) n) = _
                 rw [hws, ← hrb, hxp, ← putW_some hxj hxp hno, xsm_putW])
            | (have hh2 : ¬ n < 0 := by omega
               have e0 : rotE s d a n = 0 := by simp [rotE, hg, hh2, h12]
               rw [e0, if_pos rfl]
               have e1 : rotS s (d, a) n = { s with last := mput s.last (d, a) (rotB (heldS s (d, a)) n) } := by
                 unfold rotS
                 rw [hws, xsm_newV, newV_none hno]
                 rfl
               rw [e1] at hrok ⊢
               refine ⟨_, rfl, rfl, ⟨.inl aR, hrok, m, ga, gc, _, wc, _, _, hB, hI9.mono (fun x hx => hx.1), ?_, hws⟩, hw⟩
               show mput s.last (d, a) (rotB (heldS s (d, a)) n) = _
               rw [hls, ← hrb, xsm_put])
      ·
        refine WL.assign rfl rfl (WL.nil (WX.then_normal (WC.cond_true rfl (WC.seq (WC.region (WL.assign rfl rfl (WL.nil (?_))))))))
        refine WX.then_normal (WC.ret (WX.block_ret (WX.then_ret (?_))))
        refine WX.ret1 (.inl rfl) Try.results32 rfl ?_
        first
          | (have hh : ¬ inS s d a := h12
             have e0 : rotE s d a n = 1 := by simp [rotE, hh]
             rw [e0]
             exact ⟨_, rfl, rfl, h.mono (fun x hx => .inl hx.1), hw⟩)
          | (have hh : n < 0 := h20
             have e0 : rotE s d a n = 1 := by simp [rotE, hh]
             rw [e0]
             exact ⟨_, rfl, rfl, h.mono (fun x hx => .inl hx.1), hw⟩)
          | (have hh : goneS s d = true := hg
             have hh2 : ¬ n < 0 := by omega
             have e0 : rotE s d a n = 3 := by simp [rotE, hh, hh2, h12]
             rw [e0]
             exact ⟨_, rfl, rfl, h.mono (fun x hx => .inl hx.1), hw⟩)
          | (have hh : ws[j]? = some x := hxj
             have hh2 : ¬ n < 0 := by omega
             have e0 : rotE s d a n = 0 := by simp [rotE, hg, hh2, h12]
             rw [e0, if_pos rfl]
             have e1 : rotS s (d, a) n = { s with waits := putW s.waits (d, a) (rotB (heldS s (d, a)) n) } := by
               unfold rotS
               rw [hws, xsm_newV, newV_some hxj hxp hno]
               rfl
             rw [e1] at hrok ⊢
             refine ⟨_, rfl, rfl, ⟨.inl aR, hrok, m, ga, gc, _, wc, _, ls, Eq.mp (congrArg (Blk _ R 51) ?_) hB, hI8.mono (fun x hx => hx.1), hls, ?_⟩, hw⟩
             ·
               simp
             ·
               show putW s.waits (d, a) (rotB (heldS s (d, a)) n) = _
               rw [hws, ← hrb, hxp, ← putW_some hxj hxp hno, xsm_putW])
          | (have hh2 : ¬ n < 0 := by omega
             have e0 : rotE s d a n = 0 := by simp [rotE, hg, hh2, h12]
             rw [e0, if_pos rfl]
             have e1 : rotS s (d, a) n = { s with last := mput s.last (d, a) (rotB (heldS s (d, a)) n) } := by
               unfold rotS
               rw [hws, xsm_newV, newV_none hno]
               rfl
             rw [e1] at hrok ⊢
             refine ⟨_, rfl, rfl, ⟨.inl aR, hrok, m, ga, gc, _, wc, _, _, hB, hI9.mono (fun x hx => hx.1), ?_, hws⟩, hw⟩
             show mput s.last (d, a) (rotB (heldS s (d, a)) n) = _
             rw [hls, ← hrb, xsm_put])
  ·
    rw [show decide (0 ≤ d ∧ d < (s.dn : Int) ∧ 0 ≤ a ∧ a < (s.sn : Int)) = false from decide_eq_false h12]
    refine WL.not rfl rfl (WL.move rfl rfl (WL.pass rfl rfl rfl rfl (WL.pass rfl rfl rfl rfl (WL.pickT rfl rfl rfl (WL.assign rfl rfl (WL.nil (WX.then_normal (?_))))))))
    refine WC.cond_true rfl (WC.seq (WC.region (WL.assign rfl rfl (WL.nil (WX.then_normal (WC.ret (WX.block_ret (?_))))))))
    refine WX.then_ret (?_)
    refine WX.ret1 (.inl rfl) Try.results32 rfl ?_
    first
      | (have hh : ¬ inS s d a := h12
         have e0 : rotE s d a n = 1 := by simp [rotE, hh]
         rw [e0]
         exact ⟨_, rfl, rfl, h.mono (fun x hx => .inl hx.1), hw⟩)
      | (have hh : n < 0 := h20
         have e0 : rotE s d a n = 1 := by simp [rotE, hh]
         rw [e0]
         exact ⟨_, rfl, rfl, h.mono (fun x hx => .inl hx.1), hw⟩)
      | (have hh : goneS s d = true := hg
         have hh2 : ¬ n < 0 := by omega
         have e0 : rotE s d a n = 3 := by simp [rotE, hh, hh2, h12]
         rw [e0]
         exact ⟨_, rfl, rfl, h.mono (fun x hx => .inl hx.1), hw⟩)
      | (have hh : ws[j]? = some x := hxj
         have hh2 : ¬ n < 0 := by omega
         have e0 : rotE s d a n = 0 := by simp [rotE, hg, hh2, h12]
         rw [e0, if_pos rfl]
         have e1 : rotS s (d, a) n = { s with waits := putW s.waits (d, a) (rotB (heldS s (d, a)) n) } := by
           unfold rotS
           rw [hws, xsm_newV, newV_some hxj hxp hno]
           rfl
         rw [e1] at hrok ⊢
         refine ⟨_, rfl, rfl, ⟨.inl aR, hrok, m, ga, gc, _, wc, _, ls, Eq.mp (congrArg (Blk _ R 51) ?_) hB, hI8.mono (fun x hx => hx.1), hls, ?_⟩, hw⟩
         ·
           simp
         ·
           show putW s.waits (d, a) (rotB (heldS s (d, a)) n) = _
           rw [hws, ← hrb, hxp, ← putW_some hxj hxp hno, xsm_putW])
      | (have hh2 : ¬ n < 0 := by omega
         have e0 : rotE s d a n = 0 := by simp [rotE, hg, hh2, h12]
         rw [e0, if_pos rfl]
         have e1 : rotS s (d, a) n = { s with last := mput s.last (d, a) (rotB (heldS s (d, a)) n) } := by
           unfold rotS
           rw [hws, xsm_newV, newV_none hno]
           rfl
         rw [e1] at hrok ⊢
         refine ⟨_, rfl, rfl, ⟨.inl aR, hrok, m, ga, gc, _, wc, _, _, hB, hI9.mono (fun x hx => hx.1), ?_, hws⟩, hw⟩
         show mput s.last (d, a) (rotB (heldS s (d, a)) n) = _
         rw [hls, ← hrb, xsm_put])
end Go.Proofs.Ytcdbkfaebgficaa
namespace Go.Proofs.Ytcdbkfaebgficaa
open Go.RowKit Go.HL

structure OpV where
  kind : Int
  drive : Int
  at_ : Int
  fill : Int
  n : Int
  pao : Option Addr
  pcap : Nat
  picks : List Int
def eop : Enc OpV := ⟨6, fun x => [vi x.kind, vi x.drive, vi x.at_, vi x.fill, vi x.n, .slice x.pao x.picks.length x.pcap], fun _ => rfl, by simp [Value.oneCell'], by decide⟩
structure OS (S : Nat → Prop) (w : World) (ao : Option Addr) (c : Nat) (l : List OpV) : Prop where
  outer : RSl S w eop ao c l
  inner : ∀ o ∈ l, RSl S w ei o.pao o.pcap o.picks
section
variable {S M : Nat → Prop} {w w' : World} {ao : Option Addr} {c : Nat} {l : List OpV}
theorem OS.chg (h : OS S w ao c l) (k : Chg M w w') (hd : ∀ b, b < w.heap.size → S b → M b → False) : OS S w' ao c l := ⟨h.outer.chg k hd, fun r hr => (h.inner r hr).chg k hd⟩
theorem OS.pure (h : OS S w ao c l) (k : Chg Nob w w') : OS S w' ao c l := ⟨h.outer.pure k, fun r hr => (h.inner r hr).pure k⟩
end
end Go.Proofs.Ytcdbkfaebgficaa
namespace Go.Proofs.Ytcdbkfaebgficaa
open Go.ChangeShapes Go.WideShapes Go.ChangeAt Go.RowKit Go.Deep Go.HL
section
variable {H : Type} {enc : TypeId × Value → H} {W : World}
def b64 (x : Int) : Prop := -9223372036854775808 ≤ x ∧ x ≤ 9223372036854775807
structure OpOf (W : World) (x : OpV) (d : DataW H) : Prop where
  kind : b64 x.kind
  drive : b64 x.drive
  at_ : b64 x.at_
  fill : b64 x.fill
  n : b64 x.n
  picks : RSl (· < W.heap.size) W ei x.pao x.pcap x.picks
  wf : ∀ y ∈ x.picks, b64 y
  datum : ∃ parts dp, d = .agg parts ∧ parts[5]? = some dp ∧ (dp = .nil ∧ x.picks = [] ∨ ∃ el sp, dp = .slice el sp ∧ x.picks.length = el.length)
theorem el_op (n : Nat) (cs : List Value) (y : DataW H × List MemPlace) (hl : cs.length = eop.sz) (_ : ∀ (q : Nat) (v : Value), cs[q]? = some v → True) (h : DataW.trod enc Try.prog W 0 (fun _ => true) true n 39 cs = some y) : ∃ x, cs = eop.f x ∧ OpOf W x y.1 := by
  obtain ⟨xs, m, _, rfl, _, hx, hf⟩ := DataW.trod_struct Try.underlying39 h
  match cs, hl with
  | [c0, c1, c2, c3, c4, c5], _ =>
    match xs, hx with
    | [y0, y1, y2, y3, y4, y5], _ =>
      have f0 : DataW.trod enc Try.prog W 0 (fun _ => true) true m 3 (([c0, c1, c2, c3, c4, c5].drop 0).take (Try.prog.cellsOf 3)) = some y0 := hf 0 _ rfl
      have f1 : DataW.trod enc Try.prog W 0 (fun _ => true) true m 3 (([c0, c1, c2, c3, c4, c5].drop 1).take (Try.prog.cellsOf 3)) = some y1 := hf 1 _ rfl
      have f2 : DataW.trod enc Try.prog W 0 (fun _ => true) true m 3 (([c0, c1, c2, c3, c4, c5].drop 2).take (Try.prog.cellsOf 3)) = some y2 := hf 2 _ rfl
      have f3 : DataW.trod enc Try.prog W 0 (fun _ => true) true m 3 (([c0, c1, c2, c3, c4, c5].drop 3).take (Try.prog.cellsOf 3)) = some y3 := hf 3 _ rfl
      have f4 : DataW.trod enc Try.prog W 0 (fun _ => true) true m 3 (([c0, c1, c2, c3, c4, c5].drop 4).take (Try.prog.cellsOf 3)) = some y4 := hf 4 _ rfl
      have f5 : DataW.trod enc Try.prog W 0 (fun _ => true) true m 37 (([c0, c1, c2, c3, c4, c5].drop 5).take (Try.prog.cellsOf 37)) = some y5 := hf 5 _ rfl
      rw [show Try.prog.cellsOf 3 = 1 from by kernel_rfl] at f0 f1 f2 f3 f4
      rw [show Try.prog.cellsOf 37 = 1 from by kernel_rfl] at f5
      obtain ⟨k0, e0, _, w0⟩ := DataW.trod_int Try.underlying3 f0
      obtain ⟨k1, e1, _, w1⟩ := DataW.trod_int Try.underlying3 f1
      obtain ⟨k2, e2, _, w2⟩ := DataW.trod_int Try.underlying3 f2
      obtain ⟨k3, e3, _, w3⟩ := DataW.trod_int Try.underlying3 f3
      obtain ⟨k4, e4, _, w4⟩ := DataW.trod_int Try.underlying3 f4
      obtain ⟨ao, c, ps, e5, h5, h6⟩ := open_trod Try.underlying37 ei (fun x _ => b64 x) (by kernel_rfl) (fun n cs y a b c => by
        obtain ⟨x, hx1, hx2⟩ := el_i64 Try.underlying3 n cs y a b c
        exact ⟨x, hx1, hx2⟩) f5
      injection e0 with e0
      injection e1 with e1
      injection e2 with e2
      injection e3 with e3
      injection e4 with e4
      injection e5 with e5
      subst e0; subst e1; subst e2; subst e3; subst e4; subst e5
      refine ⟨⟨k0, k1, k2, k3, k4, ao, c, ps⟩, rfl, by simpa [b64, Lit.wf, IntKind.min, IntKind.max, IntKind.signed, IntKind.bits] using w0, by simpa [b64, Lit.wf, IntKind.min, IntKind.max, IntKind.signed, IntKind.bits] using w1, by simpa [b64, Lit.wf, IntKind.min, IntKind.max, IntKind.signed, IntKind.bits] using w2, by simpa [b64, Lit.wf, IntKind.min, IntKind.max, IntKind.signed, IntKind.bits] using w3, by simpa [b64, Lit.wf, IntKind.min, IntKind.max, IntKind.signed, IntKind.bits] using w4, h5, ?_, [y0.1, y1.1, y2.1, y3.1, y4.1, y5.1], y5.1, rfl, rfl, ?_⟩
      · intro u hu
        rcases h6 with ⟨_, h6⟩ | ⟨el, sp, _, _, h7⟩
        · rw [show ps = [] from h6] at hu
          cases hu
        · obtain ⟨i, hil, rfl⟩ := List.getElem_of_mem hu
          obtain ⟨_, _, h8⟩ := h7 i _ (List.getElem?_eq_getElem hil)
          exact h8
      · rcases h6 with h6 | ⟨el, sp, h7, h8, _⟩
        · exact .inl h6
        · exact .inr ⟨el, sp, h7, h8⟩
/-- an argument that is a script -/
theorem open_ops {base : Nat} {v : Value} {d : DataW H} {p : List MemPlace} (hv : Value.okWide Try.prog W .any base 22 v) (h : DataW.Trod enc Try.prog W 0 (fun _ => true) true 22 v d p) :
    ∃ (ao : Option Addr) (c : Nat) (rs : List OpV), v = .slice ao rs.length c ∧ OS (· < W.heap.size) W ao c rs ∧ (d = .nil ∧ rs = [] ∨ ∃ el sp, d = .slice el sp ∧ rs.length = el.length ∧ ∀ (i : Nat) (x : OpV), rs[i]? = some x → ∃ d, el[i]? = some d ∧ OpOf W x d) := by
  obtain ⟨a0, len0, cap0, rfl⟩ := okWide_slice Try.underlying22 hv
  obtain ⟨fuel, hf⟩ := h
  obtain ⟨ao, c, rs, h1, h2, h3⟩ := open_trod Try.underlying22 eop (OpOf W) (by kernel_rfl) el_op hf
  simp [Value.cells] at h1
  obtain ⟨rfl, rfl, rfl⟩ := h1
  refine ⟨_, _, rs, rfl, ⟨h2, fun r hr => ?_⟩, h3⟩
  rcases h3 with ⟨_, rfl⟩ | ⟨el, sp, _, _, h4⟩
  · cases hr
  · obtain ⟨i, hil, rfl⟩ := List.getElem_of_mem hr
    obtain ⟨d, _, h5⟩ := h4 i _ (List.getElem?_eq_getElem hil)
    exact h5.picks
theorem reach_ops {d : DataW H} {rs : List OpV} {ts : List TypeId} {ds : List (DataW H)} {j : Nat} (hsz : (DataW.weightsEach Try.prog ts ds).all (· ≤ reachBytes) = true) (htj : ts[j]? = some 22) (hdj : ds[j]? = some d)
    (h : d = .nil ∧ rs = [] ∨ ∃ el sp, d = .slice el sp ∧ rs.length = el.length ∧ ∀ (i : Nat) (x : OpV), rs[i]? = some x → ∃ d, el[i]? = some d ∧ OpOf W x d) :
    ∀ o ∈ rs, o.picks.length * 8 ≤ 140737488351232 ∧ b64 o.n ∧ b64 o.fill ∧ b64 o.drive ∧ b64 o.at_ := by
  have hrb : reachBytes = 140737488351232 := rfl
  rcases h with ⟨_, rfl⟩ | ⟨el, sp, rfl, hl, hall⟩
  · exact fun r hr => by cases hr
  · intro r hr
    obtain ⟨i, hil, rfl⟩ := List.getElem_of_mem hr
    obtain ⟨d, h1, hO⟩ := hall i _ (List.getElem?_eq_getElem hil)
    refine ⟨?_, hO.n, hO.fill, hO.drive, hO.at_⟩
    obtain ⟨parts, dp, rfl, h2, h3⟩ := hO.datum
    rcases h3 with ⟨_, h3⟩ | ⟨el2, sp2, rfl, h3⟩
    · rw [h3]; simp
    · have hm := List.all_eq_true.1 hsz _ (DataW.weights_mem_each htj hdj ((el2.length + sp2.length) * Try.prog.bytesOf 3) (by
        simp only [DataW.weights, Try.underlying22]
        refine List.mem_cons_of_mem _ (List.mem_append_left _ (weightsAll_mem h1 _ ?_))
        simp only [DataW.weights, Try.underlying39]
        refine DataW.weights_mem_each (j := 5) (t := 37) rfl h2 _ ?_
        simp [DataW.weights, Try.underlying37]))
      rw [show Try.prog.bytesOf 3 = 8 from by kernel_rfl] at hm
      simp at hm
      rw [hrb] at hm
      omega
end
end Go.Proofs.Ytcdbkfaebgficaa
namespace Go.Proofs.Ytcdbkfaebgficaa
open Go.RowKit Go.HL

/-! what the document's rack holds -/
abbrev bs (l : List UInt8) : ByteArray := ⟨l.toArray⟩
theorem bs_size (l : List UInt8) : (bs l).size = l.length := by simp [bs, ByteArray.size]
structure Sr where
  ao : Option Addr
  cap : Nat
  xs : List ByteArray
def esr : Enc Sr := ⟨1, fun r => [.slice r.ao r.xs.length r.cap], fun _ => rfl, by simp [Value.oneCell'], by decide⟩
def ewt : Enc (Pl × List UInt8) := ⟨3, fun x => [vi x.1.1, vi x.1.2, .string (bs x.2)], fun _ => rfl, by simp [Value.oneCell'], by decide⟩
/-- rows of texts, each in a block of its own -/
structure LD (S : Nat → Prop) (w : World) (la : Option Addr) (lc : Nat) (ls : List Sr) (dn sn : Nat) (f : Nat → Nat → ByteArray) : Prop where
  len : ls.length = dn
  outer : Row S w 61 esr la lc ls
  vals : ∀ (d : Nat) (r : Sr), ls[d]? = some r → r.xs = (List.range sn).map (f d)
  own : ∀ (d : Nat) (r : Sr), ls[d]? = some r → ∃ g, r.ao = some ⟨g, 0, none⟩ ∧ S g ∧ Row (· = g) w 9 es (some ⟨g, 0, none⟩) r.cap r.xs
  apart : ∀ (d e : Nat) (r q : Sr) (g : Nat), ls[d]? = some r → ls[e]? = some q → r.ao = some ⟨g, 0, none⟩ → q.ao = some ⟨g, 0, none⟩ → d = e
section
variable {S M : Nat → Prop} {w w' : World} {la : Option Addr} {lc : Nat} {ls : List Sr} {dn sn : Nat} {f f' : Nat → Nat → ByteArray}
theorem LD.chg (h : LD S w la lc ls dn sn f) (k : Chg M w w') (hd : ∀ b, b < w.heap.size → S b → M b → False) : LD S w' la lc ls dn sn f :=
  ⟨h.len, h.outer.chg k hd, h.vals, fun d r hr => by
    obtain ⟨g, h1, h2, h3⟩ := h.own d r hr
    exact ⟨g, h1, h2, h3.chg k (fun b hb e m => hd b hb (by have e : b = g := e; rw [e]; exact h2) m)⟩, h.apart⟩
theorem LD.pure (h : LD S w la lc ls dn sn f) (k : Chg Nob w w') : LD S w' la lc ls dn sn f := h.chg k (fun _ _ _ x => x)
theorem LD.mono {S' : Nat → Prop} (h : LD S w la lc ls dn sn f) (k : ∀ b, S b → S' b) : LD S' w la lc ls dn sn f :=
  ⟨h.len, h.outer.mono k, h.vals, fun d r hr => by
    obtain ⟨g, h1, h2, h3⟩ := h.own d r hr
    exact ⟨g, h1, k _ h2, h3⟩, h.apart⟩
/-- blocks of other kinds have turned -/
theorem LD.chgK (h : LD S w la lc ls dn sn f) (k : Chg M w w') (hd : ∀ b, b < w.heap.size → M b → kb w b ≠ some (some 61) ∧ kb w b ≠ some (some 9)) : LD S w' la lc ls dn sn f :=
  ⟨h.len, h.outer.chgK k (fun b h1 h2 => (hd b h1 h2).1), h.vals, fun d r hr => by
    obtain ⟨g, h1, h2, h3⟩ := h.own d r hr
    exact ⟨g, h1, h2, h3.chgK k (fun b h1 h2 => (hd b h1 h2).2)⟩, h.apart⟩
theorem LD.lt (h : LD S w la lc ls dn sn f) : LD (fun b => S b ∧ b < w.heap.size) w la lc ls dn sn f :=
  ⟨h.len, h.outer.lt, h.vals, fun d r hr => by
    obtain ⟨g, h1, h2, h3⟩ := h.own d r hr
    exact ⟨g, h1, ⟨h2, h3.own.lt _ rfl⟩, h3⟩, h.apart⟩
theorem LD.congr (h : LD S w la lc ls dn sn f) (e : ∀ d a, d < dn → a < sn → f d a = f' d a) : LD S w la lc ls dn sn f' :=
  ⟨h.len, h.outer, fun d r hr => by
    rw [h.vals d r hr]
    refine List.map_congr_left (fun a ha => e d a ?_ (List.mem_range.1 ha))
    rw [← h.len]
    exact (List.getElem?_eq_some_iff.1 hr).1, h.own, h.apart⟩
theorem LD.at (h : LD S w la lc ls dn sn f) {d a : Nat} {r : Sr} (hr : ls[d]? = some r) (ha : a < sn) : r.xs[a]? = some (f d a) := by
  rw [h.vals d r hr, List.getElem?_map, List.getElem?_range ha]
  rfl
theorem LD.rlen (h : LD S w la lc ls dn sn f) {d : Nat} {r : Sr} (hr : ls[d]? = some r) : r.xs.length = sn := by rw [h.vals d r hr, List.length_map, List.length_range]
theorem esr_same {x z : Sr} : ∀ (xs : List Sr) (i : Nat), xs[i]? = some x → esr.f z = esr.f x → esr.all (xs.set i z) = esr.all xs
  | [], i, h, _ => by simp at h
  | y :: t, 0, h, hz => by
    simp at h
    subst h
    show esr.f z ++ esr.all t = esr.f y ++ esr.all t
    rw [hz]
  | y :: t, i + 1, h, hz => by
    show esr.f y ++ esr.all (t.set i z) = esr.f y ++ esr.all t
    rw [esr_same t i (by simpa using h) hz]
/-- a text has turned -/
theorem LD.set (h : LD S w la lc ls dn sn f) {d a g cr : Nat} {xs : List ByteArray} {v : ByteArray} (hr : ls[d]? = some ⟨some ⟨g, 0, none⟩, cr, xs⟩) (k : Chg (· = g) w w') (hk : kb w g = some (some 9)) (hn : Row (· = g) w' 9 es (some ⟨g, 0, none⟩) cr (xs.set a v)) (e : ∀ d' a', d' < dn → a' < sn → f' d' a' = if d' = d ∧ a' = a then v else f d' a') :
    LD S w' la lc (ls.set d ⟨some ⟨g, 0, none⟩, cr, xs.set a v⟩) dn sn f' := by
  have hdl := (List.getElem?_eq_some_iff.1 hr).1
  have hlen := h.len
  obtain ⟨g0, e0, hg0, _⟩ := h.own d _ hr
  injection e0 with e0
  injection e0 with e0
  subst e0
  have e1 : esr.all (ls.set d ⟨some ⟨g, 0, none⟩, cr, xs.set a v⟩) = esr.all ls := esr_same ls d hr (by show [Value.slice _ (xs.set a v).length _] = [Value.slice _ xs.length _]; rw [List.length_set])
  refine ⟨by rw [List.length_set]; exact hlen, ?_, fun d' r hd' => ?_, fun d' r hd' => ?_, fun d' e' r q g' h1 h2 h3 h4 => ?_⟩
  · have h1 := h.outer.chgK k (fun b _ hm => by rw [show b = g from hm, hk]; decide)
    exact ⟨h1.at_, by rw [e1, List.length_set]; exact h1.own⟩
  · rw [List.getElem?_set] at hd'
    split at hd'
    · rename_i e2
      injection hd' with hd'
      subst hd'
      subst e2
      show xs.set a v = _
      have hxv : xs = (List.range sn).map (f d) := h.vals d _ hr
      rw [hxv]
      apply List.ext_getElem?
      intro j
      rw [List.getElem?_set, List.getElem?_map]
      rcases Nat.lt_or_ge j sn with hj | hj
      · rw [List.getElem?_map, List.getElem?_range hj]
        show _ = some (f' d j)
        rw [e d j (by omega) hj, List.length_map, List.length_range]
        by_cases ea : a = j
        · subst ea
          rw [if_pos rfl, if_pos hj, if_pos ⟨rfl, rfl⟩]
        · rw [if_neg ea, if_neg (fun h => ea h.2.symm)]
          rfl
      · rw [List.getElem?_map, List.getElem?_eq_none (by rw [List.length_range]; exact hj)]
        rw [List.length_map, List.length_range]
        split <;> simp
        omega
    · rename_i e2
      rw [h.vals d' r hd']
      refine List.map_congr_left (fun j hj => ?_)
      have hdl' := (List.getElem?_eq_some_iff.1 hd').1
      rw [e d' j (by omega) (List.mem_range.1 hj), if_neg (fun h => e2 h.1.symm)]
  · rw [List.getElem?_set] at hd'
    split at hd'
    · injection hd' with hd'
      subst hd'
      exact ⟨g, rfl, hg0, hn⟩
    · rename_i e2
      obtain ⟨g', h1, h2, h3⟩ := h.own d' r hd'
      refine ⟨g', h1, h2, h3.chg k (fun b _ e3 m => e2 (h.apart d d' _ r g hr hd' rfl ?_))⟩
      have e4 : b = g' := e3
      have e5 : b = g := m
      rw [h1, ← e4, e5]
  · rw [List.getElem?_set] at h1 h2
    split at h1 <;> split at h2
    · omega
    · rename_i e2 e3
      injection h1 with h1
      subst h1
      rw [← e2]
      exact h.apart d e' _ q g' hr h2 h3 h4
    · rename_i e2 e3
      injection h2 with h2
      subst h2
      rw [← e3]
      exact h.apart d' d r _ g' h1 hr h3 h4
    · exact h.apart d' e' r q g' h1 h2 h3 h4
/-- a row is another one now -/
theorem LD.put {go : Nat} (h : LD S w (some ⟨go, 0, none⟩) lc ls dn sn f) {d g cr : Nat} {xs : List ByteArray} (k : Chg (· = go) w w') (ho : Row S w' 61 esr (some ⟨go, 0, none⟩) lc (ls.set d ⟨some ⟨g, 0, none⟩, cr, xs⟩)) (hg : S g) (hnew : ∀ (e : Nat) (r : Sr), ls[e]? = some r → r.ao ≠ some ⟨g, 0, none⟩)
    (hr : Row (· = g) w 9 es (some ⟨g, 0, none⟩) cr xs) (hd : d < dn) (e : ∀ d' a', d' < dn → a' < sn → d' ≠ d → f' d' a' = f d' a') (hx : xs = (List.range sn).map (f' d)) : LD S w' (some ⟨go, 0, none⟩) lc (ls.set d ⟨some ⟨g, 0, none⟩, cr, xs⟩) dn sn f' := by
  have hlen := h.len
  have hdl : d < ls.length := by omega
  have hko : kb w go = some (some 61) := (h.outer.kb.at_ _ rfl).2
  have hne : ∀ b, b = go → kb w b ≠ some (some 9) := fun b e => by rw [e, hko]; decide
  refine ⟨by rw [List.length_set]; exact hlen, ho, fun d' r hd' => ?_, fun d' r hd' => ?_, fun d' e' r q g' h1 h2 h3 h4 => ?_⟩
  · rw [List.getElem?_set] at hd'
    split at hd'
    · rename_i e2
      skip
      injection hd' with hd'
      subst hd'
      rw [← e2]
      exact hx
    · rename_i e2
      rw [h.vals d' r hd']
      have hdl' := (List.getElem?_eq_some_iff.1 hd').1
      exact List.map_congr_left (fun j hj => (e d' j (by omega) (List.mem_range.1 hj) (fun h => e2 h.symm)).symm)
  · rw [List.getElem?_set] at hd'
    split at hd'
    · skip
      injection hd' with hd'
      subst hd'
      exact ⟨g, rfl, hg, hr.chgK k (fun b _ m => hne b m)⟩
    · obtain ⟨g', h1, h2, h3⟩ := h.own d' r hd'
      exact ⟨g', h1, h2, h3.chgK k (fun b _ m => hne b m)⟩
  · rw [List.getElem?_set] at h1 h2
    split at h1 <;> split at h2
    · omega
    · skip
      injection h1 with h1
      subst h1
      injection h3 with h3
      injection h3 with h3
      subst h3
      exact absurd h4 (hnew e' q h2)
    · skip
      injection h2 with h2
      subst h2
      injection h4 with h4
      injection h4 with h4
      subst h4
      exact absurd h3 (hnew d' r h1)
    · exact h.apart d' e' r q g' h1 h2 h3 h4
end
/-- all but the rack's own block -/
structure DI (S : Nat → Prop) (w : World) (la : Option Addr) (lc : Nat) (ls : List Sr) (ga : Option Addr) (gc : Nat) (wa : Option Addr) (wc : Nat) (dn sn : Nat) (f : Nat → Nat → ByteArray) (gl : List Bool) (ws : List (Pl × List UInt8)) : Prop where
  ld : LD S w la lc ls dn sn f
  gone : Row S w 4 ebool ga gc gl
  waits : Row S w 69 ewt wa wc ws
section
variable {S M : Nat → Prop} {w w' : World} {la ga wa : Option Addr} {lc gc wc : Nat} {ls : List Sr} {dn sn : Nat} {f f' : Nat → Nat → ByteArray} {gl : List Bool} {ws : List (Pl × List UInt8)}
theorem DI.chg (h : DI S w la lc ls ga gc wa wc dn sn f gl ws) (k : Chg M w w') (hd : ∀ b, b < w.heap.size → S b → M b → False) : DI S w' la lc ls ga gc wa wc dn sn f gl ws := ⟨h.ld.chg k hd, h.gone.chg k hd, h.waits.chg k hd⟩
theorem DI.pure (h : DI S w la lc ls ga gc wa wc dn sn f gl ws) (k : Chg Nob w w') : DI S w' la lc ls ga gc wa wc dn sn f gl ws := h.chg k (fun _ _ _ x => x)
theorem DI.mono {S' : Nat → Prop} (h : DI S w la lc ls ga gc wa wc dn sn f gl ws) (k : ∀ b, S b → S' b) : DI S' w la lc ls ga gc wa wc dn sn f gl ws := ⟨h.ld.mono k, h.gone.mono k, h.waits.mono k⟩
theorem DI.lt (h : DI S w la lc ls ga gc wa wc dn sn f gl ws) : DI (fun b => S b ∧ b < w.heap.size) w la lc ls ga gc wa wc dn sn f gl ws := ⟨h.ld.lt, h.gone.lt, h.waits.lt⟩
theorem DI.congr (h : DI S w la lc ls ga gc wa wc dn sn f gl ws) (e : ∀ d a, d < dn → a < sn → f d a = f' d a) : DI S w la lc ls ga gc wa wc dn sn f' gl ws := ⟨h.ld.congr e, h.gone, h.waits⟩
/-- the rack's own block has turned -/
theorem DI.own (h : DI S w la lc ls ga gc wa wc dn sn f gl ws) {D : Nat} {cs : List Value} (hB : Blk w D 60 cs) (k : Chg (· = D) w w') : DI S w' la lc ls ga gc wa wc dn sn f gl ws := by
  have hk := hB.kb
  have hd : ∀ T, T ≠ 60 → ∀ b, b < w.heap.size → b = D → kb w b ≠ some (some T) := by
    rintro T hT b _ rfl e
    rw [hk] at e
    injection e with e
    injection e with e
    exact hT e.symm
  exact ⟨h.ld.chgK k (fun b h1 h2 => ⟨hd _ (by decide) b h1 h2, hd _ (by decide) b h1 h2⟩), h.gone.chgK k (hd _ (by decide)), h.waits.chgK k (hd _ (by decide))⟩
/-- the row of the writes that wait alone has turned -/
theorem DI.setWaits {wa2 : Option Addr} {wc2 : Nat} {ws2 : List (Pl × List UInt8)} (h : DI S w la lc ls ga gc wa wc dn sn f gl ws) (hW : Row S w' 69 ewt wa2 wc2 ws2) (k : Chg M w w') (hM : ∀ b, M b → Eqb wa b) : DI S w' la lc ls ga gc wa2 wc2 dn sn f gl ws2 := by
  have hd : ∀ b, b < w.heap.size → M b → kb w b = some (some 69) := fun b _ hm => h.waits.kb.at_.eqb (hM b hm) |>.2
  refine ⟨h.ld.chgK k (fun b h1 h2 => ?_), h.gone.chgK k (fun b h1 h2 => ?_), hW⟩
  · rw [hd b h1 h2]
    exact ⟨by decide, by decide⟩
  · rw [hd b h1 h2]
    decide
theorem DI.neW (h : DI S w la lc ls ga gc wa wc dn sn f gl ws) {D : Nat} {cs : List Value} (hB : Blk w D 60 cs) : ¬ Eqb wa D := fun e => by
  have h1 := (h.waits.kb.at_.eqb e).2
  rw [hB.kb] at h1
  exact absurd h1 (by decide)
theorem DI.neG (h : DI S w la lc ls ga gc wa wc dn sn f gl ws) {D : Nat} {cs : List Value} (hB : Blk w D 60 cs) : ¬ Eqb ga D := fun e => by
  have h1 := (h.gone.kb.at_.eqb e).2
  rw [hB.kb] at h1
  exact absurd h1 (by decide)
theorem DI.neL (h : DI S w la lc ls ga gc wa wc dn sn f gl ws) {D : Nat} {cs : List Value} (hB : Blk w D 60 cs) : ¬ Eqb la D := fun e => by
  have h1 := (h.ld.outer.kb.at_.eqb e).2
  rw [hB.kb] at h1
  exact absurd h1 (by decide)
/-- the row of the drives that are lost alone has turned -/
theorem DI.setGone {gl2 : List Bool} {g : Nat} (h : DI S w la lc ls (some ⟨g, 0, none⟩) gc wa wc dn sn f gl ws) (hG : Row S w' 4 ebool (some ⟨g, 0, none⟩) gc gl2) (k : Chg (· = g) w w') : DI S w' la lc ls (some ⟨g, 0, none⟩) gc wa wc dn sn f gl2 ws := by
  have hk : kb w g = some (some 4) := (h.gone.kb.at_ _ rfl).2
  refine ⟨h.ld.chgK k (fun b h1 h2 => ?_), hG, h.waits.chgK k (fun b h1 h2 => ?_)⟩
  · rw [show b = g from h2, hk]
    exact ⟨by decide, by decide⟩
  · rw [show b = g from h2, hk]
    decide
/-- the rows of texts alone have turned -/
theorem DI.setLd {la2 : Option Addr} {lc2 : Nat} {ls2 : List Sr} (h : DI S w la lc ls ga gc wa wc dn sn f gl ws) (hL : LD S w' la2 lc2 ls2 dn sn f') (k : Chg M w w') (hM : ∀ b, b < w.heap.size → M b → kb w b = some (some 9) ∨ kb w b = some (some 61)) : DI S w' la2 lc2 ls2 ga gc wa wc dn sn f' gl ws := by
  refine ⟨hL, h.gone.chgK k (fun b h1 h2 => ?_), h.waits.chgK k (fun b h1 h2 => ?_)⟩
  · rcases hM b h1 h2 with e | e <;> (rw [e]; decide)
  · rcases hM b h1 h2 with e | e <;> (rw [e]; decide)
end
def lf (s : RA) (d a : Nat) : ByteArray := bs (lastS s ((d : Int), (a : Int)))
def armD (s : RA) : Int := if s.armed = true then s.left else -1
abbrev dcells (s : RA) (la : Option Addr) (ln lc : Nat) (ga : Option Addr) (gc : Nat) (wa : Option Addr) (wc : Nat) : List Value := [.slice la ln lc, .slice ga s.gone.length gc, .slice wa s.waits.length wc, .bool s.off, vi (armD s)]
/-- the document's rack -/
structure RD (A : Nat → Prop) (w : World) (D : Nat) (s : RA) : Prop where
  aD : A D
  ok : s.ok
  win : ∀ p ∈ s.waits, inS s p.1.1 p.1.2
  ex : ∃ (la : Option Addr) (lc : Nat) (ls : List Sr) (ga : Option Addr) (gc : Nat) (wa : Option Addr) (wc : Nat), Blk w D 60 (dcells s la s.dn lc ga gc wa wc) ∧ DI A w la lc ls ga gc wa wc s.dn s.sn (lf s) s.gone s.waits
section
variable {A M : Nat → Prop} {w w' : World} {D : Nat} {s : RA}
theorem RD.chg (h : RD A w D s) (k : Chg M w w') (hd : ∀ b, b < w.heap.size → A b → M b → False) : RD A w' D s := by
  obtain ⟨la, lc, ls, ga, gc, wa, wc, hB, hI⟩ := h.ex
  exact ⟨h.aD, h.ok, h.win, la, lc, ls, ga, gc, wa, wc, hB.chg k (fun hm => hd D hB.lt h.aD hm), hI.chg k hd⟩
theorem RD.pure (h : RD A w D s) (k : Chg Nob w w') : RD A w' D s := h.chg k (fun _ _ _ x => x)
theorem RD.mono {A' : Nat → Prop} (h : RD A w D s) (k : ∀ b, A b → A' b) : RD A' w D s := by
  obtain ⟨la, lc, ls, ga, gc, wa, wc, hB, hI⟩ := h.ex
  exact ⟨k _ h.aD, h.ok, h.win, la, lc, ls, ga, gc, wa, wc, hB, hI.mono k⟩
theorem RD.old (h : RD A w D s) : RD (fun b => A b ∧ b < w.heap.size) w D s := by
  obtain ⟨la, lc, ls, ga, gc, wa, wc, hB, hI⟩ := h.ex
  exact ⟨⟨h.aD, hB.lt⟩, h.ok, h.win, la, lc, ls, ga, gc, wa, wc, hB, hI.lt⟩
theorem RD.lt (h : RD A w D s) : D < w.heap.size := by
  obtain ⟨la, lc, ls, ga, gc, wa, wc, hB, hI⟩ := h.ex
  exact hB.lt
end
theorem dIs_calls {A : Nat → Prop} {w : World} {D : Nat} {s : RA} (h : RD A w D s) (d : Int) : Calls Try.prog 34 [ptr D, vi d].toArray w (Ret fun v w' => v = .bool (decide (isS s d)) ∧ Chg Nob w w') := by
  obtain ⟨la, lc, ls, ga, gc, wa, wc, hB, hI⟩ := h.ex
  have hw := Chg.refl Nob w
  refine Calls.of_WC Try.func34 rfl Try.ntmps34 (by simp) ?_
  refine WC.seq (WC.region (WL.assign rfl rfl (WL.nil (WX.then_normal (WC.seq (WC.region (WL.move rfl rfl (?_))))))))
  refine WL.geq? rfl rfl rfl (fun h6 => ?_) (fun h6 => ?_)
  ·
    refine WL.move rfl rfl (WL.want rfl rfl rfl (WL.move rfl rfl (WL.want rfl rfl rfl (WL.move rfl rfl (WL.want rfl rfl rfl (WL.nilCheck rfl rfl (WL.want rfl rfl rfl (?_))))))))
    refine WL.fieldAddr (fld_60_0) rfl rfl (WL.want rfl rfl rfl (WL.loadB Try.isAgg57 hB rfl rfl rfl (WL.want rfl rfl rfl (WL.len Try.underlying57 rfl rfl (WL.want rfl rfl rfl (WL.lss rfl rfl rfl (WL.pickT rfl rfl rfl (?_))))))))
    refine WL.assign rfl rfl (WL.nil (WX.then_normal (WC.ret (?_))))
    refine WX.ret1 (.inl rfl) Try.results34 rfl ?_
    refine ⟨_, rfl, ?_, hw⟩
    congr 1
    first
      | (symm
         rw [decide_eq_false_iff_not]
         intro h
         have := h.1
         omega)
      | (refine decide_eq_decide.2 ⟨fun h => ⟨by omega, h⟩, fun h => h.2⟩)
  ·
    refine WL.move rfl rfl (WL.pass rfl rfl rfl rfl (WL.pass rfl rfl rfl rfl (WL.pass rfl rfl rfl rfl (WL.pass rfl rfl rfl rfl (WL.pass rfl rfl rfl rfl (WL.pass rfl rfl rfl rfl (WL.pass rfl rfl rfl rfl (?_))))))))
    refine WL.pickF rfl rfl rfl (WL.assign rfl rfl (WL.nil (WX.then_normal (WC.ret (?_)))))
    refine WX.ret1 (.inl rfl) Try.results34 rfl ?_
    refine ⟨_, rfl, ?_, hw⟩
    congr 1
    first
      | (symm
         rw [decide_eq_false_iff_not]
         intro h
         have := h.1
         omega)
      | (refine decide_eq_decide.2 ⟨fun h => ⟨by omega, h⟩, fun h => h.2⟩)
theorem dIn_calls {A : Nat → Prop} {w : World} {D : Nat} {s : RA} (h : RD A w D s) (d a : Int) : Calls Try.prog 41 [ptr D, vi d, vi a].toArray w (Ret fun v w' => v = .bool (decide (inS s d a)) ∧ Chg Nob w w') := by
  have hw := Chg.refl Nob w
  have hdn := h.ok.dn
  refine Calls.of_WC Try.func41 rfl Try.ntmps41 (by simp) ?_
  refine WC.seq (WC.region (WL.assign rfl rfl (WL.nil (WX.then_normal (WC.seq (WC.region (WL.move rfl rfl (?_))))))))
  refine WL.move rfl rfl (?_)
  refine WL.call eg_34 rfl rfl (dIs_calls h d) ?_
  rintro v w1 ⟨rfl, k1⟩
  have zs_k1 := k1.size
  replace h := h.pure k1
  replace hw := hw.pure k1
  obtain ⟨la, lc, ls, ga, gc, wa, wc, hB, hI⟩ := h.ex
  have hlen := hI.ld.len
  by_cases h9 : isS s d
  ·
    rw [decide_eq_true h9]
    refine WL.move rfl rfl (WL.want rfl rfl rfl (WL.move rfl rfl (WL.want rfl rfl rfl (?_))))
    refine WL.geq? rfl rfl rfl (fun h12 => ?_) (fun h12 => ?_)
    ·
      refine WL.pickT rfl rfl rfl (WL.move rfl rfl (WL.want rfl rfl rfl (WL.move rfl rfl (WL.want rfl rfl rfl (WL.move rfl rfl (WL.want rfl rfl rfl (WL.nilCheck rfl rfl (?_))))))))
      refine WL.want rfl rfl rfl (WL.fieldAddr (fld_60_0) rfl rfl (WL.want rfl rfl rfl (WL.loadB Try.isAgg57 hB rfl rfl rfl (WL.want rfl rfl rfl (?_)))))
      obtain ⟨r0, hr0⟩ : ∃ r, ls[0]? = some r := ⟨_, List.getElem?_eq_getElem (by omega)⟩
      have hrl := hI.ld.rlen hr0
      refine WL.indexT (e := esr) Try.underlying57 Try.sizeOf61 hI.ld.outer.rsl (by show some (Value.slice la s.dn lc) = some (Value.slice la ls.length lc); rw [hlen]) rfl ⟨hr0, rfl⟩ rfl ?_
      intro bb oo hcc
      refine WL.want rfl rfl rfl (?_)
      refine WL.load Try.isAgg61 rfl (hcc 0 _ rfl) rfl ?_
      refine WL.want rfl rfl rfl (WL.len Try.underlying61 rfl rfl (WL.want rfl rfl rfl (WL.lss rfl rfl rfl (WL.pickT rfl rfl rfl (WL.assign rfl rfl (WL.nil (WX.then_normal (?_))))))))
      refine WC.ret (?_)
      refine WX.ret1 (.inl rfl) Try.results41 rfl ?_
      refine ⟨_, rfl, ?_, hw⟩
      congr 1
      first
        | (symm
           refine decide_eq_false (fun h => ?_)
           first
             | exact h9 ⟨h.1, h.2.1⟩
             | (have := h.2.2.1
                omega))
        | (refine decide_eq_decide.2 ⟨fun h => ⟨h9.1, h9.2, by omega, by omega⟩, fun h => ?_⟩
           have := h.2.2.2
           omega)
    ·
      refine WL.pickT rfl rfl rfl (WL.move rfl rfl (WL.pass rfl rfl rfl rfl (WL.pass rfl rfl rfl rfl (WL.pass rfl rfl rfl rfl (WL.pass rfl rfl rfl rfl (WL.pass rfl rfl rfl rfl (WL.pass rfl rfl rfl rfl (?_))))))))
      refine WL.pass rfl rfl rfl rfl (WL.pass rfl rfl rfl rfl (WL.pass rfl rfl rfl rfl (WL.pickF rfl rfl rfl (WL.assign rfl rfl (WL.nil (WX.then_normal (WC.ret (?_))))))))
      refine WX.ret1 (.inl rfl) Try.results41 rfl ?_
      refine ⟨_, rfl, ?_, hw⟩
      congr 1
      first
        | (symm
           refine decide_eq_false (fun h => ?_)
           first
             | exact h9 ⟨h.1, h.2.1⟩
             | (have := h.2.2.1
                omega))
        | (refine decide_eq_decide.2 ⟨fun h => ⟨h9.1, h9.2, by omega, by omega⟩, fun h => ?_⟩
           have := h.2.2.2
           omega)
  ·
    rw [decide_eq_false h9]
    refine WL.move rfl rfl (WL.pass rfl rfl rfl rfl (WL.pass rfl rfl rfl rfl (WL.pickF rfl rfl rfl (WL.move rfl rfl (WL.pass rfl rfl rfl rfl (WL.pass rfl rfl rfl rfl (WL.pass rfl rfl rfl rfl (?_))))))))
    refine WL.pass rfl rfl rfl rfl (WL.pass rfl rfl rfl rfl (WL.pass rfl rfl rfl rfl (WL.pass rfl rfl rfl rfl (WL.pass rfl rfl rfl rfl (WL.pass rfl rfl rfl rfl (WL.pickF rfl rfl rfl (WL.assign rfl rfl (?_))))))))
    refine WL.nil (WX.then_normal (WC.ret (?_)))
    refine WX.ret1 (.inl rfl) Try.results41 rfl ?_
    refine ⟨_, rfl, ?_, hw⟩
    congr 1
    first
      | (symm
         refine decide_eq_false (fun h => ?_)
         first
           | exact h9 ⟨h.1, h.2.1⟩
           | (have := h.2.2.1
              omega))
      | (refine decide_eq_decide.2 ⟨fun h => ⟨h9.1, h9.2, by omega, by omega⟩, fun h => ?_⟩
         have := h.2.2.2
         omega)
end Go.Proofs.Ytcdbkfaebgficaa
namespace Go.Proofs.Ytcdbkfaebgficaa
open Go.RowKit Go.HL

theorem dNewest_calls {A : Nat → Prop} {w : World} {D : Nat} {s : RA} (h : RD A w D s) (hn : s.waits.length ≤ 1000000) (d a : Int) :
    Calls Try.prog 42 [ptr D, vi d, vi a].toArray w (Ret fun v w' => (∃ k : Int, v = vi k ∧ ((k = -1 ∧ ∀ x ∈ s.waits, x.1 ≠ (d, a)) ∨ ∃ (i : Nat) (x : Pl × List UInt8), k = (i : Int) ∧ s.waits[i]? = some x ∧ x.1 = (d, a) ∧ ∀ j y, i < j → s.waits[j]? = some y → y.1 ≠ (d, a))) ∧ Chg Nob w w') := by
  obtain ⟨la, lc, ls, ga, gc, wa, wc, hB, hI⟩ := h.ex
  have hW := hI.waits.rsl.old
  have hw := Chg.refl Nob w
  refine Calls.of_WC Try.func42 rfl Try.ntmps42 (by simp) ?_
  refine WC.seq (WC.region (WL.assign rfl rfl (WL.nil (WX.then_normal (WC.seq (WC.region (WL.assign rfl rfl (?_))))))))
  refine WL.nil (WX.then_normal (WC.seq (WC.seq (WC.region (WL.assign rfl rfl (WL.nil (WX.then_normal (?_))))))))
  refine WC.block (?_)
  refine WC.loop (σ := Nat × Int) (fun q => [(0, ptr D), (1, vi d), (2, vi a), (7, vi q.2), (8, vi q.1)])
    (fun q w' => q.1 ≤ s.waits.length ∧ ((q.2 = -1 ∧ ∀ j x, j < q.1 → s.waits[j]? = some x → x.1 ≠ (d, a)) ∨ ∃ (i : Nat) (x : Pl × List UInt8), q.2 = (i : Int) ∧ s.waits[i]? = some x ∧ x.1 = (d, a) ∧ ∀ j y, i < j → j < q.1 → s.waits[j]? = some y → y.1 ≠ (d, a)) ∧ Blk w' D 60 (dcells s la s.dn lc ga gc wa wc) ∧ RSl (· < w.heap.size) w' ewt wa wc s.waits ∧ Chg Nob w w') (fun q => s.waits.length - q.1) (0, -1) ⟨rfl, rfl, rfl, rfl, rfl, trivial⟩ ⟨Nat.zero_le _, .inl ⟨rfl, fun j x h => absurd h (Nat.not_lt_zero j)⟩, hB, hW, hw⟩ ?_
  clear hB hW hw
  rintro ⟨i, n⟩ w2 ⟨hi, hI2, hB, hW, hw⟩
  simp only at hi hI2
  dsimp only
  refine WC.seq (WC.seq (WC.region (WL.move rfl rfl (WL.move rfl rfl (WL.nilCheck rfl rfl (WL.fieldAddr (fld_60_2) rfl rfl (WL.loadB Try.isAgg58 hB rfl rfl rfl (?_))))))))
  refine WL.len Try.underlying58 rfl rfl (?_)
  refine WL.lss? rfl rfl rfl (fun h15 => ?_) (fun h15 => ?_)
  ·
    refine WL.nil (WX.then_normal (WC.cond_true rfl (WC.skip (WX.then_normal (WC.seq (WC.block (WC.seq (?_))))))))
    refine WC.region (WL.move rfl rfl (WL.nilCheck rfl rfl (WL.fieldAddr (fld_60_2) rfl rfl (WL.loadB Try.isAgg58 hB rfl rfl rfl (WL.move rfl rfl (?_))))))
    obtain ⟨⟨⟨x1, x2⟩, xb⟩, hx⟩ : ∃ x, s.waits[i]? = some x := ⟨_, List.getElem?_eq_getElem (by omega)⟩
    refine WL.indexT Try.underlying58 Try.sizeOf69 hW rfl rfl ⟨hx, rfl⟩ rfl ?_
    intro b_1 o_1 hc_1
    refine WL.fieldAddr (fld_69_0) rfl rfl (WL.load Try.isAgg3 rfl (hc_1 _ _ rfl) rfl (WL.move rfl rfl (?_)))
    refine WL.eql? rfl rfl rfl (fun h27 => ?_) (fun h27 => ?_)
    ·
      refine WL.move rfl rfl (WL.want rfl rfl rfl (WL.move rfl rfl (WL.want rfl rfl rfl (WL.nilCheck rfl rfl (WL.want rfl rfl rfl (WL.fieldAddr (fld_60_2) rfl rfl (WL.want rfl rfl rfl (?_))))))))
      refine WL.loadB Try.isAgg58 hB rfl rfl rfl (WL.want rfl rfl rfl (WL.move rfl rfl (WL.want rfl rfl rfl (?_))))
      refine WL.indexT Try.underlying58 Try.sizeOf69 hW rfl rfl ⟨hx, rfl⟩ rfl ?_
      intro b_2 o_2 hc_2
      refine WL.want rfl rfl rfl (WL.fieldAddr (fld_69_1) rfl rfl (WL.want rfl rfl rfl (WL.load Try.isAgg3 rfl (hc_2 _ _ rfl) rfl (WL.want rfl rfl rfl (WL.move rfl rfl (WL.want rfl rfl rfl (?_)))))))
      refine WL.eql? rfl rfl rfl (fun h38 => ?_) (fun h38 => ?_)
      ·
        refine WL.pickT rfl rfl rfl (WL.nil (WX.then_normal (WC.cond_true rfl (WC.region (WL.move rfl rfl (WL.assign rfl rfl (WL.nil (?_))))))))
        refine WX.block_normal (WX.then_normal (WC.region (WL.move rfl rfl (WL.add64 rfl rfl (by first | omega | (constructor <;> omega)) rfl (WL.assign rfl rfl (WL.nil (?_)))))))
        first
          | (refine WX.loop_next (i + 1, (i : Int)) ⟨rfl, rfl, rfl, rfl, rfl, trivial⟩ ⟨by show i + 1 ≤ _; omega, .inr ⟨i, _, rfl, hx, ?_, fun j y h1 h2 _ => ?_⟩, hB, hW, hw⟩ (by show s.waits.length - (i + 1) < s.waits.length - i; omega)
             ·
               exact Prod.ext h27 h38
             ·
               exfalso
               have h3 : j < i + 1 := h2
               omega)
          | (refine WX.loop_next (i + 1, n) ⟨rfl, rfl, rfl, rfl, rfl, trivial⟩ ⟨by show i + 1 ≤ _; omega, ?_, hB, hW, hw⟩ (by show s.waits.length - (i + 1) < s.waits.length - i; omega)
             have hne : (x1, x2) ≠ (d, a) := fun e => by
               injection e with e1 e2
               first
                 | exact h27 e1
                 | exact h38 e2
             rcases hI2 with ⟨h1, h2⟩ | ⟨i', x', h1, h2, h3, h4⟩
             ·
               refine .inl ⟨h1, fun j x hj hxj => ?_⟩
               rcases Nat.lt_or_ge j i with h5 | h5
               ·
                 exact h2 j x h5 hxj
               ·
                 have h6 : j < i + 1 := hj
                 obtain rfl : j = i := by omega
                 rw [hx] at hxj
                 injection hxj with hxj
                 rw [← hxj]
                 exact hne
             ·
               refine .inr ⟨i', x', h1, h2, h3, fun j y hj hj2 hy => ?_⟩
               rcases Nat.lt_or_ge j i with h5 | h5
               ·
                 exact h4 j y hj h5 hy
               ·
                 have h6 : j < i + 1 := hj2
                 obtain rfl : j = i := by omega
                 rw [hx] at hy
                 injection hy with hy
                 rw [← hy]
                 exact hne)
      ·
        refine WL.pickT rfl rfl rfl (WL.nil (WX.then_normal (WC.cond_false rfl (WC.skip (WX.block_normal (WX.then_normal (WC.region (?_))))))))
        refine WL.move rfl rfl (WL.add64 rfl rfl (by first | omega | (constructor <;> omega)) rfl (WL.assign rfl rfl (WL.nil (?_))))
        first
          | (refine WX.loop_next (i + 1, (i : Int)) ⟨rfl, rfl, rfl, rfl, rfl, trivial⟩ ⟨by show i + 1 ≤ _; omega, .inr ⟨i, _, rfl, hx, ?_, fun j y h1 h2 _ => ?_⟩, hB, hW, hw⟩ (by show s.waits.length - (i + 1) < s.waits.length - i; omega)
             ·
               exact Prod.ext h27 h38
             ·
               exfalso
               have h3 : j < i + 1 := h2
               omega)
          | (refine WX.loop_next (i + 1, n) ⟨rfl, rfl, rfl, rfl, rfl, trivial⟩ ⟨by show i + 1 ≤ _; omega, ?_, hB, hW, hw⟩ (by show s.waits.length - (i + 1) < s.waits.length - i; omega)
             have hne : (x1, x2) ≠ (d, a) := fun e => by
               injection e with e1 e2
               first
                 | exact h27 e1
                 | exact h38 e2
             rcases hI2 with ⟨h1, h2⟩ | ⟨i', x', h1, h2, h3, h4⟩
             ·
               refine .inl ⟨h1, fun j x hj hxj => ?_⟩
               rcases Nat.lt_or_ge j i with h5 | h5
               ·
                 exact h2 j x h5 hxj
               ·
                 have h6 : j < i + 1 := hj
                 obtain rfl : j = i := by omega
                 rw [hx] at hxj
                 injection hxj with hxj
                 rw [← hxj]
                 exact hne
             ·
               refine .inr ⟨i', x', h1, h2, h3, fun j y hj hj2 hy => ?_⟩
               rcases Nat.lt_or_ge j i with h5 | h5
               ·
                 exact h4 j y hj h5 hy
               ·
                 have h6 : j < i + 1 := hj2
                 obtain rfl : j = i := by omega
                 rw [hx] at hy
                 injection hy with hy
                 rw [← hy]
                 exact hne)
    ·
      refine WL.move rfl rfl (WL.pass rfl rfl rfl rfl (WL.pass rfl rfl rfl rfl (WL.pass rfl rfl rfl rfl (WL.pass rfl rfl rfl rfl (WL.pass rfl rfl rfl rfl (WL.pass rfl rfl rfl rfl (WL.pass rfl rfl rfl rfl (?_))))))))
      refine WL.pass rfl rfl rfl rfl (WL.pass rfl rfl rfl rfl (WL.pass rfl rfl rfl rfl (WL.pickF rfl rfl rfl (WL.nil (WX.then_normal (WC.cond_false rfl (WC.skip (?_))))))))
      refine WX.block_normal (WX.then_normal (WC.region (WL.move rfl rfl (WL.add64 rfl rfl (by first | omega | (constructor <;> omega)) rfl (WL.assign rfl rfl (WL.nil (?_)))))))
      first
        | (refine WX.loop_next (i + 1, (i : Int)) ⟨rfl, rfl, rfl, rfl, rfl, trivial⟩ ⟨by show i + 1 ≤ _; omega, .inr ⟨i, _, rfl, hx, ?_, fun j y h1 h2 _ => ?_⟩, hB, hW, hw⟩ (by show s.waits.length - (i + 1) < s.waits.length - i; omega)
           ·
             exact Prod.ext h27 h38
           ·
             exfalso
             have h3 : j < i + 1 := h2
             omega)
        | (refine WX.loop_next (i + 1, n) ⟨rfl, rfl, rfl, rfl, rfl, trivial⟩ ⟨by show i + 1 ≤ _; omega, ?_, hB, hW, hw⟩ (by show s.waits.length - (i + 1) < s.waits.length - i; omega)
           have hne : (x1, x2) ≠ (d, a) := fun e => by
             injection e with e1 e2
             first
               | exact h27 e1
               | exact h38 e2
           rcases hI2 with ⟨h1, h2⟩ | ⟨i', x', h1, h2, h3, h4⟩
           ·
             refine .inl ⟨h1, fun j x hj hxj => ?_⟩
             rcases Nat.lt_or_ge j i with h5 | h5
             ·
               exact h2 j x h5 hxj
             ·
               have h6 : j < i + 1 := hj
               obtain rfl : j = i := by omega
               rw [hx] at hxj
               injection hxj with hxj
               rw [← hxj]
               exact hne
           ·
             refine .inr ⟨i', x', h1, h2, h3, fun j y hj hj2 hy => ?_⟩
             rcases Nat.lt_or_ge j i with h5 | h5
             ·
               exact h4 j y hj h5 hy
             ·
               have h6 : j < i + 1 := hj2
               obtain rfl : j = i := by omega
               rw [hx] at hy
               injection hy with hy
               rw [← hy]
               exact hne)
  ·
    refine WL.nil (WX.then_normal (WC.cond_false rfl (WC.exit (WX.then_exit (WX.then_exit (WX.block_here (WX.then_normal (?_))))))))
    refine WC.seq (WC.region (WL.move rfl rfl (WL.assign rfl rfl (WL.nil (WX.then_normal (WC.ret (?_)))))))
    refine WX.ret1 (.inl rfl) Try.results42 rfl ?_
    refine ⟨_, rfl, ⟨n, rfl, ?_⟩, hw⟩
    rcases hI2 with ⟨h1, h2⟩ | ⟨i', x', h1, h2, h3, h4⟩
    ·
      refine .inl ⟨h1, fun x hx => ?_⟩
      obtain ⟨j, hj⟩ := List.getElem?_of_mem hx
      have hjl := (List.getElem?_eq_some_iff.1 hj).1
      exact h2 j x (by omega) hj
    ·
      refine .inr ⟨i', x', h1, h2, h3, fun j y hj hy => h4 j y hj ?_ hy⟩
      have hjl := (List.getElem?_eq_some_iff.1 hy).1
      omega
theorem dRead_calls {A : Nat → Prop} {w : World} {D : Nat} {s : RA} (h : RD A w D s) (hn : s.waits.length ≤ 1000000) (d a : Int) :
    Calls Try.prog 24 [ptr D, vi d, vi a].toArray w (Ret fun v w' => v = .tuple #[.string (if errS s d a = 0 then bs (heldS s (d, a)) else bs []), vi (errS s d a)] ∧ Chg Nob w w') := by
  have hw := Chg.refl Nob w
  have hok := h.ok
  refine Calls.of_WC Try.func24 rfl Try.ntmps24 (by simp) ?_
  refine WC.seq (WC.region (WL.assign rfl rfl (WL.assign rfl rfl (WL.nil (WX.then_normal (WC.seq (WC.seq (?_))))))))
  refine WC.region (WL.move rfl rfl (WL.move rfl rfl (WL.move rfl rfl (?_))))
  refine WL.call eg_41 rfl rfl (dIn_calls h d a) ?_
  rintro v w1 ⟨rfl, k1⟩
  have zs_k1 := k1.size
  replace h := h.pure k1
  replace hw := hw.pure k1
  obtain ⟨la, lc, ls, ga, gc, wa, wc, hB, hI⟩ := h.ex
  have hlen := hI.ld.len
  by_cases h12 : inS s d a
  ·
    rw [decide_eq_true h12]
    refine WL.not rfl rfl (WL.nil (WX.then_normal (WC.cond_false rfl (WC.skip (WX.then_normal (WC.seq (WC.seq (?_))))))))
    refine WC.region (WL.move rfl rfl (WL.nilCheck rfl rfl (WL.fieldAddr (fld_60_1) rfl rfl (WL.loadB Try.isAgg48 hB rfl rfl rfl (WL.move rfl rfl (?_))))))
    have hgd := goneS_at hok (d := d) ⟨h12.1, h12.2.1⟩
    refine WL.indexT (e := ebool) Try.underlying48 Try.sizeOf4 hI.gone.rsl rfl rfl ⟨hgd, by have := h12.1; omega⟩ rfl ?_
    intro bb oo hcc
    refine WL.load Try.isAgg4 rfl (hcc 0 _ rfl) rfl ?_
    rcases hg : goneS s d with _ | _
    ·
      refine WL.nil (WX.then_normal (WC.cond_false rfl (WC.skip (WX.then_normal (WC.seq (WC.seq (WC.region (?_))))))))
      refine WL.move rfl rfl (WL.nilCheck rfl rfl (WL.fieldAddr (fld_60_3) rfl rfl (?_)))
      refine WL.loadB Try.isAgg4 hB rfl rfl rfl ?_
      rcases ho : s.off with _ | _
      ·
        refine WL.nil (WX.then_normal (WC.cond_false rfl (WC.skip (WX.then_normal (WC.seq (WC.region (WL.move rfl rfl (?_))))))))
        refine WL.move rfl rfl (WL.move rfl rfl (?_))
        refine WL.call eg_42 rfl rfl (dNewest_calls h hn d a) ?_
        rintro v w2 ⟨⟨k, rfl, hk⟩, k2⟩
        have zs_k2 := k2.size
        replace h := h.pure k2
        replace hw := hw.pure k2
        replace hB := hB.pure k2
        replace hI := hI.pure k2
        have hE : errS s d a = 0 := by simp [errS, h12, hg, ho]
        refine WL.assign rfl rfl (WL.nil (WX.then_normal (WC.seq (WC.seq (WC.region (WL.move rfl rfl (?_)))))))
        rcases hk with ⟨h1, h2⟩ | ⟨i, x, h1, h2, h3, h4⟩
        ·
          refine WL.geqF rfl rfl rfl (by first | rfl | omega | decide) ?_
          refine WL.nil (WX.then_normal (WC.cond_false rfl (WC.skip (WX.then_normal (WC.seq (WC.region (WL.move rfl rfl (?_))))))))
          refine WL.nilCheck rfl rfl (WL.fieldAddr (fld_60_0) rfl rfl (WL.loadB Try.isAgg57 hB rfl rfl rfl (WL.move rfl rfl (?_))))
          obtain ⟨r, hr⟩ : ∃ r, ls[d.toNat]? = some r := ⟨_, List.getElem?_eq_getElem (by have := h12.1; have := h12.2.1; omega)⟩
          obtain ⟨g, hgr, _, hrow⟩ := hI.ld.own d.toNat r hr
          have hra := hI.ld.at hr (a := a.toNat) (by have := h12.2.2; omega)
          refine WL.indexT (e := esr) Try.underlying57 Try.sizeOf61 hI.ld.outer.rsl (by show some (Value.slice la s.dn lc) = some (Value.slice la ls.length lc); rw [hlen]) rfl ⟨hr, by have := h12.1; omega⟩ rfl ?_
          intro bb oo hcc5
          refine WL.load Try.isAgg61 rfl (hcc5 0 _ rfl) rfl ?_
          refine WL.move rfl rfl (?_)
          refine WL.indexT (e := es) Try.underlying61 Try.sizeOf9 hrow.rsl (by show some (Value.slice r.ao _ _) = _; rw [hgr]) rfl ⟨hra, by have := h12.2.2.1; omega⟩ rfl ?_
          intro bb6 oo6 hcc6
          refine WL.load Try.isAgg9 rfl (hcc6 0 _ rfl) rfl ?_
          rw [show lf s d.toNat a.toNat = bs (heldS s (d, a)) from by
            rw [heldS_eq, newV_none h2, lf, show ((d.toNat : Int)) = d from by have := h12.1; omega, show ((a.toNat : Int)) = a from by have := h12.2.2.1; omega]]
          refine WL.assign rfl rfl (WL.assign rfl rfl (WL.nil (WX.then_normal (WC.ret (?_)))))
          refine WX.ret2 (.inl rfl) Try.results24 rfl rfl ?_
          refine ⟨_, rfl, ?_, hw⟩
          rw [hE]
          first
            | (rw [if_pos rfl, heldS_eq, newV_some h2 h3 h4]; done)
            | (rw [if_pos rfl]; done)
            | (rw [if_neg (by decide)])
        ·
          refine WL.geqT rfl rfl rfl (by first | rfl | omega | decide) ?_
          refine WL.nil (WX.then_normal (WC.cond_true rfl (WC.seq (WC.region (WL.move rfl rfl (WL.nilCheck rfl rfl (WL.fieldAddr (fld_60_2) rfl rfl (?_))))))))
          refine WL.loadB Try.isAgg58 hB rfl rfl rfl (WL.move rfl rfl (?_))
          refine WL.indexT Try.underlying58 Try.sizeOf69 hI.waits.rsl rfl rfl ⟨h2, h1⟩ rfl ?_
          intro b_1 o_1 hc_1
          refine WL.fieldAddr (fld_69_2) rfl rfl (WL.load Try.isAgg9 rfl (hc_1 _ _ rfl) rfl (WL.assign rfl rfl (WL.assign rfl rfl (WL.nil (WX.then_normal (WC.ret (WX.then_ret (?_))))))))
          refine WX.ret2 (.inl rfl) Try.results24 rfl rfl ?_
          refine ⟨_, rfl, ?_, hw⟩
          rw [hE]
          first
            | (rw [if_pos rfl, heldS_eq, newV_some h2 h3 h4]; done)
            | (rw [if_pos rfl]; done)
            | (rw [if_neg (by decide)])
      ·
        have hE : errS s d a = 16 := by simp [errS, h12, hg, ho]
        refine WL.nil (WX.then_normal (WC.cond_true rfl (WC.seq (WC.region (WL.assign rfl rfl (WL.assign rfl rfl (WL.nil (?_))))))))
        refine WX.then_normal (WC.ret (WX.then_ret (?_)))
        refine WX.ret2 (.inl rfl) Try.results24 rfl rfl ?_
        refine ⟨_, rfl, ?_, hw⟩
        rw [hE]
        first
          | (rw [if_pos rfl, heldS_eq, newV_some h2 h3 h4]; done)
          | (rw [if_pos rfl]; done)
          | (rw [if_neg (by decide)])
    ·
      have hE : errS s d a = 3 := by simp [errS, h12, hg]
      refine WL.nil (WX.then_normal (WC.cond_true rfl (WC.seq (WC.region (WL.assign rfl rfl (WL.assign rfl rfl (WL.nil (?_))))))))
      refine WX.then_normal (WC.ret (WX.then_ret (?_)))
      refine WX.ret2 (.inl rfl) Try.results24 rfl rfl ?_
      refine ⟨_, rfl, ?_, hw⟩
      rw [hE]
      first
        | (rw [if_pos rfl, heldS_eq, newV_some h2 h3 h4]; done)
        | (rw [if_pos rfl]; done)
        | (rw [if_neg (by decide)])
  ·
    have hE : errS s d a = 1 := by simp [errS, h12]
    rw [decide_eq_false h12]
    refine WL.not rfl rfl (WL.nil (WX.then_normal (WC.cond_true rfl (WC.seq (WC.region (WL.assign rfl rfl (WL.assign rfl rfl (?_))))))))
    refine WL.nil (WX.then_normal (WC.ret (WX.then_ret (?_))))
    refine WX.ret2 (.inl rfl) Try.results24 rfl rfl ?_
    refine ⟨_, rfl, ?_, hw⟩
    rw [hE]
    first
      | (rw [if_pos rfl, heldS_eq, newV_some h2 h3 h4]; done)
      | (rw [if_pos rfl]; done)
      | (rw [if_neg (by decide)])
theorem armD_range {s : RA} (h : s.ok) : -1 ≤ armD s ∧ armD s ≤ 9223372036854775807 := by
  have h1 := h.lf
  unfold armD
  split
  · rename_i h2
    have := h1.1 h2
    omega
  · omega
theorem offD {s : RA} (h : s.ok) : offS s = (s.off || decide (armD s = 0)) := by
  have h1 := h.lf
  unfold offS armD
  cases s.armed
  · simp
  · simp
theorem spend_lastS (s : RA) (q : Pl) : lastS (spendS s) q = lastS s q := by rw [lastS, lastS, spendS_last]
theorem spend_lf (s : RA) : lf (spendS s) = lf s := by
  funext d a
  rw [lf, lf, spend_lastS]
theorem dcells_off {s : RA} (h : offS s = true) (la : Option Addr) (ln lc : Nat) (ga : Option Addr) (gc : Nat) (wa : Option Addr) (wc : Nat) : dcells (spendS s) la ln lc ga gc wa wc = [.slice la ln lc, .slice ga s.gone.length gc, .slice wa s.waits.length wc, .bool true, vi (armD s)] := by
  unfold dcells armD spendS
  rw [if_pos h]
theorem dcells_on {s : RA} (hok : s.ok) (h : offS s = false) (la : Option Addr) (ln lc : Nat) (ga : Option Addr) (gc : Nat) (wa : Option Addr) (wc : Nat) : dcells (spendS s) la ln lc ga gc wa wc = [.slice la ln lc, .slice ga s.gone.length gc, .slice wa s.waits.length wc, .bool s.off, vi (if 0 < armD s then armD s - 1 else armD s)] := by
  have h1 := hok.lf
  unfold dcells armD spendS
  rw [if_neg (by rw [h]; decide)]
  cases ha : s.armed
  · rfl
  · have h2 : s.left ≠ 0 := fun e => by
      unfold offS at h
      rw [ha, e] at h
      simp at h
    have h3 := h1.1 ha
    simp only [if_true]
    rw [if_pos (by omega)]
set_option maxHeartbeats 1000000 in
theorem dSpend_calls {A : Nat → Prop} {w : World} {D : Nat} {s : RA} (h : RD A w D s) :
    Calls Try.prog 43 [ptr D].toArray w (Ret fun v w' => v = .bool (!offS s) ∧ RD A w' D (spendS s) ∧ Chg A w w' ∧ w'.heap.size = w.heap.size) := by
  have aD := h.aD
  have hok := h.ok
  have hrg := armD_range hok
  have hof := offD hok
  have hwin := h.win
  obtain ⟨la, lc, ls, ga, gc, wa, wc, hB0, hI⟩ := h.ex
  have hB := hB0
  have fin : ∀ w' cs, Blk w' D 60 cs → cs = dcells (spendS s) la s.dn lc ga gc wa wc → DI A w' la lc ls ga gc wa wc s.dn s.sn (lf s) s.gone s.waits → RD A w' D (spendS s) := by
    rintro w' cs hB' rfl hI'
    refine ⟨aD, spendS_ok hok, fun p hp => ?_, la, lc, ls, ga, gc, wa, wc, ?_, ?_⟩
    · rw [spendS_waits] at hp
      have := hwin p hp
      unfold inS at *
      rw [spendS_dn, spendS_sn]
      exact this
    · rw [spendS_dn]
      exact hB'
    · rw [spendS_dn, spendS_sn, spendS_gone, spendS_waits, spend_lf]
      exact hI'
  refine Calls.of_WC Try.func43 rfl Try.ntmps43 (by simp) ?_
  refine WC.seq (WC.region (WL.assign rfl rfl (WL.nil (WX.then_normal (WC.seq (WC.seq (WC.region (?_))))))))
  refine WL.move rfl rfl (WL.nilCheck rfl rfl (WL.fieldAddr (fld_60_3) rfl rfl (?_)))
  refine WL.loadB Try.isAgg4 hB rfl rfl rfl ?_
  rcases ho : s.off with _ | _
  ·
    refine WL.move rfl rfl (WL.want rfl rfl rfl (WL.move rfl rfl (WL.want rfl rfl rfl (WL.nilCheck rfl rfl (WL.want rfl rfl rfl (WL.fieldAddr (fld_60_4) rfl rfl (WL.want rfl rfl rfl (?_))))))))
    refine WL.loadB Try.isAgg3 hB rfl rfl rfl (WL.want rfl rfl rfl (?_))
    refine WL.eql? rfl rfl rfl (fun h12 => ?_) (fun h12 => ?_)
    ·
      refine WL.pickF rfl rfl rfl (WL.nil (WX.then_normal (WC.cond_true rfl (WC.seq (WC.region (WL.move rfl rfl (WL.nilCheck rfl rfl (?_))))))))
      refine WL.fieldAddr (fld_60_3) rfl rfl (?_)
      refine WL.store Try.sizeOf4 hB rfl rfl rfl rfl ?_
      intro w_1 hs_1 hn_1 k_1
      have zs_k_1 := k_1.size
      replace hB := hn_1
      refine WL.nil (WX.then_normal (WC.seq (WC.region (WL.assign rfl rfl (WL.nil (WX.then_normal (WC.ret (?_))))))))
      refine WX.then_ret (?_)
      refine WX.ret1 (.inl rfl) Try.results43 rfl ?_
      rcases hoff : offS s with _ | _
      ·
        first
          | (exfalso; rw [hof, ho] at hoff; simp at hoff; done)
          | (exfalso; rw [hof, ho, h12] at hoff; simp at hoff; done)
          | exact ⟨_, rfl, rfl, fin _ _ hB (by rw [dcells_on hok hoff, if_neg (by omega)]) hI, Chg.refl _ _, rfl⟩
          | exact ⟨_, rfl, rfl, fin _ _ hB (by rw [dcells_on hok hoff, if_pos (by omega)]; rfl) (hI.own hB0 k_1), k_1.mono (fun x _ hx => by rw [show x = D from hx]; exact aD), hs_1⟩
      ·
        first
          | (exfalso; rw [hof, ho] at hoff; simp [h12] at hoff; done)
          | exact ⟨_, rfl, rfl, fin _ _ hB (by rw [dcells_off hoff]; rfl) (hI.own hB0 k_1), k_1.mono (fun x _ hx => by rw [show x = D from hx]; exact aD), hs_1⟩
    ·
      refine WL.pickF rfl rfl rfl (WL.nil (WX.then_normal (WC.cond_false rfl (WC.skip (WX.then_normal (WC.seq (WC.seq (?_))))))))
      refine WC.region (WL.move rfl rfl (WL.nilCheck rfl rfl (WL.fieldAddr (fld_60_4) rfl rfl (WL.loadB Try.isAgg3 hB rfl rfl rfl (?_)))))
      refine WL.gtr? rfl rfl rfl (fun h21 => ?_) (fun h21 => ?_)
      ·
        refine WL.nil (WX.then_normal (WC.cond_true rfl (WC.region (WL.move rfl rfl (WL.nilCheck rfl rfl (WL.fieldAddr (fld_60_4) rfl rfl (WL.loadB Try.isAgg3 hB rfl rfl rfl (?_))))))))
        refine WL.sub64 rfl rfl (by first | omega | (constructor <;> omega)) rfl (WL.nilCheck rfl rfl (WL.fieldAddr (fld_60_4) rfl rfl (?_)))
        refine WL.store Try.sizeOf3 hB rfl rfl rfl rfl ?_
        intro w_1 hs_1 hn_1 k_1
        have zs_k_1 := k_1.size
        replace hB := hn_1
        refine WL.nil (WX.then_normal (WC.seq (WC.region (WL.assign rfl rfl (WL.nil (WX.then_normal (WC.ret (?_))))))))
        refine WX.ret1 (.inl rfl) Try.results43 rfl ?_
        rcases hoff : offS s with _ | _
        ·
          first
            | (exfalso; rw [hof, ho] at hoff; simp at hoff; done)
            | (exfalso; rw [hof, ho, h12] at hoff; simp at hoff; done)
            | exact ⟨_, rfl, rfl, fin _ _ hB (by rw [dcells_on hok hoff, if_neg (by omega)]) hI, Chg.refl _ _, rfl⟩
            | exact ⟨_, rfl, rfl, fin _ _ hB (by rw [dcells_on hok hoff, if_pos (by omega)]; rfl) (hI.own hB0 k_1), k_1.mono (fun x _ hx => by rw [show x = D from hx]; exact aD), hs_1⟩
        ·
          first
            | (exfalso; rw [hof, ho] at hoff; simp [h12] at hoff; done)
            | exact ⟨_, rfl, rfl, fin _ _ hB (by rw [dcells_off hoff]; rfl) (hI.own hB0 k_1), k_1.mono (fun x _ hx => by rw [show x = D from hx]; exact aD), hs_1⟩
      ·
        refine WL.nil (WX.then_normal (WC.cond_false rfl (WC.skip (WX.then_normal (WC.seq (WC.region (WL.assign rfl rfl (?_))))))))
        refine WL.nil (WX.then_normal (WC.ret (?_)))
        refine WX.ret1 (.inl rfl) Try.results43 rfl ?_
        rcases hoff : offS s with _ | _
        ·
          first
            | (exfalso; rw [hof, ho] at hoff; simp at hoff; done)
            | (exfalso; rw [hof, ho, h12] at hoff; simp at hoff; done)
            | exact ⟨_, rfl, rfl, fin _ _ hB (by rw [dcells_on hok hoff, if_neg (by omega)]) hI, Chg.refl _ _, rfl⟩
            | exact ⟨_, rfl, rfl, fin _ _ hB (by rw [dcells_on hok hoff, if_pos (by omega)]; rfl) (hI.own hB0 k_1), k_1.mono (fun x _ hx => by rw [show x = D from hx]; exact aD), hs_1⟩
        ·
          first
            | (exfalso; rw [hof, ho] at hoff; simp [h12] at hoff; done)
            | exact ⟨_, rfl, rfl, fin _ _ hB (by rw [dcells_off hoff]; rfl) (hI.own hB0 k_1), k_1.mono (fun x _ hx => by rw [show x = D from hx]; exact aD), hs_1⟩
  ·
    refine WL.move rfl rfl (WL.pass rfl rfl rfl rfl (WL.pass rfl rfl rfl rfl (WL.pass rfl rfl rfl rfl (WL.pass rfl rfl rfl rfl (WL.pass rfl rfl rfl rfl (WL.pickT rfl rfl rfl (WL.nil (?_))))))))
    refine WX.then_normal (WC.cond_true rfl (WC.seq (WC.region (WL.move rfl rfl (WL.nilCheck rfl rfl (WL.fieldAddr (fld_60_3) rfl rfl (?_)))))))
    refine WL.store Try.sizeOf4 hB rfl rfl rfl rfl ?_
    intro w_1 hs_1 hn_1 k_1
    have zs_k_1 := k_1.size
    replace hB := hn_1
    refine WL.nil (WX.then_normal (WC.seq (WC.region (WL.assign rfl rfl (WL.nil (WX.then_normal (WC.ret (?_))))))))
    refine WX.then_ret (?_)
    refine WX.ret1 (.inl rfl) Try.results43 rfl ?_
    rcases hoff : offS s with _ | _
    ·
      first
        | (exfalso; rw [hof, ho] at hoff; simp at hoff; done)
        | (exfalso; rw [hof, ho, h12] at hoff; simp at hoff; done)
        | exact ⟨_, rfl, rfl, fin _ _ hB (by rw [dcells_on hok hoff, if_neg (by omega)]) hI, Chg.refl _ _, rfl⟩
        | exact ⟨_, rfl, rfl, fin _ _ hB (by rw [dcells_on hok hoff, if_pos (by omega)]; rfl) (hI.own hB0 k_1), k_1.mono (fun x _ hx => by rw [show x = D from hx]; exact aD), hs_1⟩
    ·
      first
        | (exfalso; rw [hof, ho] at hoff; simp [h12] at hoff; done)
        | exact ⟨_, rfl, rfl, fin _ _ hB (by rw [dcells_off hoff]; rfl) (hI.own hB0 k_1), k_1.mono (fun x _ hx => by rw [show x = D from hx]; exact aD), hs_1⟩
set_option maxHeartbeats 1000000 in
theorem dWrite_calls {A : Nat → Prop} {w : World} {D : Nat} {s : RA} (h : RD A w D s) (hn : s.waits.length ≤ 1000000) (d a : Int) (b : List UInt8) :
    Calls Try.prog 25 [ptr D, vi d, vi a, .string (bs b)].toArray w (Ret fun v w' => v = vi (writeE s d a b.length) ∧ RD (fun x => A x ∨ w.heap.size ≤ x) w' D (writeS s d a b) ∧ Chg A w w') := by
  have hok := h.ok
  have aD := h.aD
  have hwok := writeS_ok h.ok d a b
  have hw := Chg.refl A w
  have hsz := bs_size b
  refine Calls.of_WC Try.func25 rfl Try.ntmps25 (by simp) ?_
  refine WC.seq (WC.region (WL.assign rfl rfl (WL.nil (WX.then_normal (WC.seq (WC.seq (WC.region (?_))))))))
  refine WL.move rfl rfl (WL.move rfl rfl (WL.move rfl rfl (?_)))
  refine WL.call eg_41 rfl rfl (dIn_calls h d a) ?_
  rintro v w1 ⟨rfl, k1⟩
  have zs_k1 := k1.size
  replace h := h.pure k1
  replace hw := hw.pure k1
  obtain ⟨la, lc, ls, ga, gc, wa, wc, hB, hI⟩ := h.ex
  have hlen := hI.ld.len
  by_cases h12 : inS s d a
  ·
    rw [decide_eq_true h12]
    refine WL.not rfl rfl (WL.move rfl rfl (WL.want rfl rfl rfl (WL.move rfl rfl (WL.want rfl rfl rfl (WL.lens Try.underlying9 rfl rfl (WL.want rfl rfl rfl (?_)))))))
    rw [hsz]
    by_cases h17 : b.length = 128
    ·
      refine WL.neqF rfl rfl rfl (by first | rfl | omega | decide) ?_
      refine WL.pickF rfl rfl rfl (WL.nil (WX.then_normal (WC.cond_false rfl (WC.skip (WX.then_normal (WC.seq (WC.seq (?_))))))))
      refine WC.region (WL.move rfl rfl (WL.nilCheck rfl rfl (WL.fieldAddr (fld_60_1) rfl rfl (?_))))
      refine WL.loadB Try.isAgg48 hB rfl rfl rfl ?_
      refine WL.move rfl rfl (?_)
      have hgd := goneS_at hok (d := d) ⟨h12.1, h12.2.1⟩
      refine WL.indexT (e := ebool) Try.underlying48 Try.sizeOf4 hI.gone.rsl rfl rfl ⟨hgd, by have := h12.1; omega⟩ rfl ?_
      intro bb oo hcc
      refine WL.load Try.isAgg4 rfl (hcc 0 _ rfl) rfl ?_
      rcases hg : goneS s d with _ | _
      ·
        refine WL.nil (WX.then_normal (WC.cond_false rfl (WC.skip (WX.then_normal (WC.seq (WC.seq (WC.region (?_))))))))
        refine WL.move rfl rfl (?_)
        clear hB hI hcc
        refine WL.call eg_43 rfl rfl (dSpend_calls h) ?_
        rintro v w2 ⟨rfl, h2, k2, z2⟩
        have zs_k2 := k2.size
        replace hw := hw.chg k2 (by first | (intro x h1 h2; exact h2) | (intro x h0 h1 h2; exact hS x h1 h2) | (intro x h0 h1 h2; have h3 : _ = _ := h2; subst h3; exact hSR h1.1) | (intro x h1 h2; have h3 : _ = _ := h2; subst h3; assumption) | (intro x h1 h2; have h3 : _ = _ := h2; exfalso; omega) | (intro b h1 h2 h3; have h4 : _ = _ := h3; (try dsimp only at h2); exfalso; omega) | (intro h1; have h2 : _ = _ := h1; exfalso; omega) | (intro h1; have h2 : _ ≤ _ := h1; exfalso; omega) | (intros; exfalso; (try dsimp only at *); omega) | (intro b h1 h2 h3; exfalso; have h4 := h3.2; (try dsimp only at *); omega) | (intro h1; exfalso; have h4 := h1.2; (try dsimp only at *); omega) | (intro x h1 h2; exfalso; have h4 := h2.2; (try dsimp only at *); omega) | (intro x h1 h2; exact ⟨_, rfl, h2⟩) | (intro x h1 h2; have h4 := h2.1; have h5 := h2.2; exfalso; omega) | (intro x h1 h2; exact h2.1) | (intro x h1 h2; rcases h2.1 with h3 | h3; exact h3; exfalso; omega) | (intro x h1 h2; rcases h2 with h3 | h3; exact h3; exfalso; omega))
        rcases ho : offS s with _ | _
        ·
          have hE : writeE s d a b.length = 0 := by simp [writeE, h12, h17, hg, ho]
          have hS : writeS s d a b = { spendS s with waits := s.waits ++ [((d, a), b)] } := by rw [writeS, if_pos hE]
          have hdn : (writeS s d a b).dn = s.dn := by rw [hS]; exact spendS_dn s
          have hsn : (writeS s d a b).sn = s.sn := by rw [hS]; exact spendS_sn s
          have hww : (writeS s d a b).waits = s.waits ++ [((d, a), b)] := by rw [hS]
          have hwin : ∀ p ∈ (writeS s d a b).waits, inS (writeS s d a b) p.1.1 p.1.2 := fun p hp => by
            rw [hww] at hp
            show 0 ≤ _ ∧ _ < ((writeS s d a b).dn : Int) ∧ 0 ≤ _ ∧ _ < ((writeS s d a b).sn : Int)
            rw [hdn, hsn]
            rcases List.mem_append.1 hp with h3 | h3
            ·
              exact h.win p h3
            ·
              rw [List.mem_singleton.1 h3]
              exact h12
          obtain ⟨la, lc, ls, ga, gc, wa, wc, hB, hI⟩ := h2.ex
          have hA2 : A D := aD
          refine WL.not rfl rfl (WL.nil (WX.then_normal (WC.cond_false rfl (WC.skip (WX.then_normal (WC.seq (WC.region (?_))))))))
          refine WL.move rfl rfl (WL.move rfl rfl (WL.nilCheck rfl rfl (WL.fieldAddr (fld_60_2) rfl rfl (WL.loadB Try.isAgg58 hB rfl rfl rfl (WL.move rfl rfl (WL.move rfl rfl (WL.move rfl rfl (?_))))))))
          refine WL.bld rfl (bld_69_0_1_2 _ _ _) rfl (?_)
          refine WL.build (e := ewt) [((d, a), b)] Try.underlying58 Try.sizeOf69 Try.zeroValue69 rfl rfl rfl (by first | (simp [Value.cells]; done) | (simp [Value.cells] <;> rfl) | (simp [Value.cells, eb, ei, es, ebool, e32, e64]; done)) (by decide) rfl ?_
          intro a_b38 w_b38 b38 l_b38 z_b38 k_b38
          have zs_k_b38 := k_b38.size
          replace hw := hw.pure k_b38
          replace hB := hB.pure k_b38
          replace hI := hI.pure k_b38
          have zw := hw.size
          refine WL.append (e := ewt) (S := fun x => A x ∨ w.heap.size ≤ x) info_69 rfl Try.underlying58 rfl rfl (hI.waits.mono (fun x hx => .inl hx)) (b38.rsl.src Try.underlying58) (by rw [spendS_waits]; constructor <;> (simp only [List.length_cons, List.length_nil]; omega)) (fun x hx => .inr (by omega)) rfl ?_
          intro a9 c9 w9 hW9 g9 n9
          have k9 := g9.chg
          have hI9 := (hI.mono (S' := fun x => A x ∨ w.heap.size ≤ x) (fun x hx => .inl hx)).setWaits hW9 k9 (fun b h => h.1)
          replace hB := hB.chg k9 (fun hm => hI.neW hB hm.1)
          have hB0 := hB
          have hw9 := hw.chg k9 (fun x h0 hm => hm.2.resolve_right (by omega))
          refine WL.nilCheck rfl rfl (WL.fieldAddr (fld_60_2) rfl rfl (?_))
          refine WL.store Try.sizeOf58 hB rfl rfl rfl rfl ?_
          intro w_1 hs_1 hn_1 k_1
          have zs_k_1 := k_1.size
          replace hB := hn_1
          refine WL.nil (WX.then_normal (WC.seq (WC.region (WL.assign rfl rfl (WL.nil (WX.then_normal (WC.ret (?_))))))))
          refine WX.ret1 (.inl rfl) Try.results25 rfl ?_
          first
            | (refine ⟨_, rfl, by rw [hE], ⟨.inl aD, hwok, hwin, la, lc, ls, ga, gc, a9, c9, ?_, ?_⟩, hw9.chg k_1 (fun x _ hx => by rw [show x = D from hx]; exact aD)⟩
               ·
                 rw [hS]
                 rw [spendS_waits] at hB
                 exact hB
               ·
                 rw [hS]
                 rw [spendS_waits] at hI9
                 exact hI9.own hB0 k_1)
            | (refine ⟨_, rfl, by rw [hE], ?_, hw⟩
               rw [hS]
               exact h2.mono (fun x hx => .inl hx))
            | (refine ⟨_, rfl, by rw [hE], ?_, hw⟩
               rw [show writeS s d a b = s from by rw [writeS, if_neg (by rw [hE]; decide), if_neg (by rw [hE]; decide)]]
               exact h.mono (fun x hx => .inl hx))
        ·
          have hE : writeE s d a b.length = 16 := by simp [writeE, h12, h17, hg, ho]
          have hS : writeS s d a b = spendS s := by rw [writeS, if_neg (by rw [hE]; decide), if_pos hE]
          refine WL.not rfl rfl (WL.nil (WX.then_normal (WC.cond_true rfl (WC.seq (WC.region (WL.assign rfl rfl (WL.nil (?_))))))))
          refine WX.then_normal (WC.ret (WX.then_ret (?_)))
          refine WX.ret1 (.inl rfl) Try.results25 rfl ?_
          first
            | (refine ⟨_, rfl, by rw [hE], ⟨.inl aD, hwok, hwin, la, lc, ls, ga, gc, a9, c9, ?_, ?_⟩, hw9.chg k_1 (fun x _ hx => by rw [show x = D from hx]; exact aD)⟩
               ·
                 rw [hS]
                 rw [spendS_waits] at hB
                 exact hB
               ·
                 rw [hS]
                 rw [spendS_waits] at hI9
                 exact hI9.own hB0 k_1)
            | (refine ⟨_, rfl, by rw [hE], ?_, hw⟩
               rw [hS]
               exact h2.mono (fun x hx => .inl hx))
            | (refine ⟨_, rfl, by rw [hE], ?_, hw⟩
               rw [show writeS s d a b = s from by rw [writeS, if_neg (by rw [hE]; decide), if_neg (by rw [hE]; decide)]]
               exact h.mono (fun x hx => .inl hx))
      ·
        have hE : writeE s d a b.length = 3 := by simp [writeE, h12, h17, hg]
        refine WL.nil (WX.then_normal (WC.cond_true rfl (WC.seq (WC.region (WL.assign rfl rfl (WL.nil (WX.then_normal (?_))))))))
        refine WC.ret (WX.then_ret (?_))
        refine WX.ret1 (.inl rfl) Try.results25 rfl ?_
        first
          | (refine ⟨_, rfl, by rw [hE], ⟨.inl aD, hwok, hwin, la, lc, ls, ga, gc, a9, c9, ?_, ?_⟩, hw9.chg k_1 (fun x _ hx => by rw [show x = D from hx]; exact aD)⟩
             ·
               rw [hS]
               rw [spendS_waits] at hB
               exact hB
             ·
               rw [hS]
               rw [spendS_waits] at hI9
               exact hI9.own hB0 k_1)
          | (refine ⟨_, rfl, by rw [hE], ?_, hw⟩
             rw [hS]
             exact h2.mono (fun x hx => .inl hx))
          | (refine ⟨_, rfl, by rw [hE], ?_, hw⟩
             rw [show writeS s d a b = s from by rw [writeS, if_neg (by rw [hE]; decide), if_neg (by rw [hE]; decide)]]
             exact h.mono (fun x hx => .inl hx))
    ·
      have hE : writeE s d a b.length = 1 := by simp [writeE, h17]
      refine WL.neqT rfl rfl rfl (by first | rfl | omega | decide) ?_
      refine WL.pickF rfl rfl rfl (WL.nil (WX.then_normal (WC.cond_true rfl (WC.seq (WC.region (WL.assign rfl rfl (WL.nil (?_))))))))
      refine WX.then_normal (WC.ret (WX.then_ret (?_)))
      refine WX.ret1 (.inl rfl) Try.results25 rfl ?_
      first
        | (refine ⟨_, rfl, by rw [hE], ⟨.inl aD, hwok, hwin, la, lc, ls, ga, gc, a9, c9, ?_, ?_⟩, hw9.chg k_1 (fun x _ hx => by rw [show x = D from hx]; exact aD)⟩
           ·
             rw [hS]
             rw [spendS_waits] at hB
             exact hB
           ·
             rw [hS]
             rw [spendS_waits] at hI9
             exact hI9.own hB0 k_1)
        | (refine ⟨_, rfl, by rw [hE], ?_, hw⟩
           rw [hS]
           exact h2.mono (fun x hx => .inl hx))
        | (refine ⟨_, rfl, by rw [hE], ?_, hw⟩
           rw [show writeS s d a b = s from by rw [writeS, if_neg (by rw [hE]; decide), if_neg (by rw [hE]; decide)]]
           exact h.mono (fun x hx => .inl hx))
  ·
    have hE : writeE s d a b.length = 1 := by simp [writeE, h12]
    rw [decide_eq_false h12]
    refine WL.not rfl rfl (WL.move rfl rfl (WL.pass rfl rfl rfl rfl (WL.pass rfl rfl rfl rfl (WL.pass rfl rfl rfl rfl (WL.pickT rfl rfl rfl (WL.nil (WX.then_normal (?_))))))))
    refine WC.cond_true rfl (WC.seq (WC.region (WL.assign rfl rfl (WL.nil (WX.then_normal (WC.ret (WX.then_ret (?_))))))))
    refine WX.ret1 (.inl rfl) Try.results25 rfl ?_
    first
      | (refine ⟨_, rfl, by rw [hE], ⟨.inl aD, hwok, hwin, la, lc, ls, ga, gc, a9, c9, ?_, ?_⟩, hw9.chg k_1 (fun x _ hx => by rw [show x = D from hx]; exact aD)⟩
         ·
           rw [hS]
           rw [spendS_waits] at hB
           exact hB
         ·
           rw [hS]
           rw [spendS_waits] at hI9
           exact hI9.own hB0 k_1)
      | (refine ⟨_, rfl, by rw [hE], ?_, hw⟩
         rw [hS]
         exact h2.mono (fun x hx => .inl hx))
      | (refine ⟨_, rfl, by rw [hE], ?_, hw⟩
         rw [show writeS s d a b = s from by rw [writeS, if_neg (by rw [hE]; decide), if_neg (by rw [hE]; decide)]]
         exact h.mono (fun x hx => .inl hx))
end Go.Proofs.Ytcdbkfaebgficaa
namespace Go.Proofs.Ytcdbkfaebgficaa
open Go.RowKit Go.HL

theorem tmod_two (x : Int) : x.tmod 2 ≠ 0 ↔ x % 2 = 1 := by
  constructor
  · intro h
    rcases Int.emod_two_eq x with h1 | h1
    · exact absurd (Int.tmod_eq_zero_of_dvd (Int.dvd_of_emod_eq_zero h1)) h
    · exact h1
  · intro h h1
    have h2 := Int.emod_eq_zero_of_dvd (Int.dvd_of_tmod_eq_zero h1)
    omega
end Go.Proofs.Ytcdbkfaebgficaa
