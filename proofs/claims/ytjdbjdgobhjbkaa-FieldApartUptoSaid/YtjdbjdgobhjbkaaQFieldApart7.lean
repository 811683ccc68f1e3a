import Derived.Test.YtjdbjdgobhjbkaaQFieldApart6
namespace Go.HL
open Go.RowKit
/-- rows with three spare places each, gathered -/
structure C3 (N n1 : Nat) (w : World) (T U : TypeId) (ao : Option Addr) (c : Nat) (rs : List Rw) : Prop where
  outer : Row (fun x => N ≤ x ∧ x < n1) w T erow ao c rs
  inner : ∀ r ∈ rs, ∃ g, r.ao = some ⟨g, 0, none⟩ ∧ (N ≤ g ∧ g < n1) ∧ ¬ Eqb ao g ∧ Blk w g U (eb.all (r.xs ++ [0, 0, 0])) ∧ r.cap = r.xs.length + 3
section
variable {N n1 : Nat} {w w' : World} {T U : TypeId} {ao : Option Addr} {c : Nat} {rs : List Rw} {M : Nat → Prop}
theorem C3.nil (N n1 : Nat) (w : World) (T U : TypeId) : C3 N n1 w T U none 0 [] := ⟨Row.nil _ _ _ _, fun r hr => by cases hr⟩
theorem C3.chg (h : C3 N n1 w T U ao c rs) (k : Chg M w w') (hd : ∀ x, N ≤ x ∧ x < n1 → M x → False) : C3 N n1 w' T U ao c rs :=
  ⟨h.outer.chg k (fun b _ hs hm => hd b hs hm), fun r hr => by
    obtain ⟨g, h1, h2, h3, h4, h5⟩ := h.inner r hr
    exact ⟨g, h1, h2, h3, h4.chg k (fun hm => hd g h2 hm), h5⟩⟩
theorem C3.pure (h : C3 N n1 w T U ao c rs) (k : Chg Nob w w') : C3 N n1 w' T U ao c rs := h.chg k (fun _ _ x => x)
theorem C3.snoc (h : C3 N n1 w T U ao c rs) {g : Nat} {xs : List UInt8} (hb : Blk w g U (eb.all (xs ++ [0, 0, 0]))) (hg : n1 ≤ g) (hN : N ≤ n1) (hs : n1 ≤ w.heap.size) {ao2 : Option Addr} {c2 : Nat} (ho : Row (fun x => N ≤ x) w' T erow ao2 c2 (rs ++ [⟨some ⟨g, 0, none⟩, xs.length + 3, xs⟩])) (gw : Grow (fun x => N ≤ x) w ao w' ao2) :
    C3 N w'.heap.size w' T U ao2 c2 (rs ++ [⟨some ⟨g, 0, none⟩, xs.length + 3, xs⟩]) := by
  have zs := gw.chg.size
  have hat : ∀ x, Eqb ao x → x < n1 := fun x e => (h.outer.at_.eqb e).2
  have hnew : ∀ x, x < w.heap.size → Eqb ao2 x → Eqb ao x := by
    intro x hx e
    rcases gw.fr with e1 | e1
    · rw [← e1]; exact e
    · have := e1.eqb e
      omega
  have hgl := hb.lt
  refine ⟨ho.lt, fun q hq => ?_⟩
  rcases List.mem_append.1 hq with h1 | h1
  · obtain ⟨g', e1, e2, e3, e4, e5⟩ := h.inner q h1
    exact ⟨g', e1, ⟨e2.1, by omega⟩, fun e => e3 (hnew g' e4.lt e), e4.chg gw.chg (fun hm => e3 hm.1), e5⟩
  · rw [List.mem_singleton.1 h1]
    exact ⟨g, rfl, ⟨by omega, by omega⟩, fun e => by have := hat g (hnew g hgl e); omega, hb.chg gw.chg (fun hm => by have := hat g hm.1; omega), rfl⟩
theorem C3.full (h : C3 N n1 w T U ao c rs) {r : Rw} (hr : r ∈ rs) : RSl (fun x => N ≤ x ∧ x < n1) w eb r.ao r.cap (r.xs ++ [0, 0, 0]) ∧ r.cap = r.xs.length + 3 := by
  obtain ⟨g, e1, e2, e3, e4, e5⟩ := h.inner r hr
  rw [e1]
  exact ⟨(RSl.ofBlk e4 (by simp [e5])).mono (fun b e => by have e : b = g := e; rw [e]; exact e2), e5⟩
theorem C3.at (h : C3 N n1 w T U ao c rs) {r : Rw} (hr : r ∈ rs) : RSl (fun x => N ≤ x ∧ x < n1) w eb r.ao r.cap r.xs := by
  have := (h.full hr).1.take r.xs.length (by simp)
  rwa [List.take_left] at this
theorem C3.toRS (h : C3 N n1 w T U ao c rs) : RS (fun x => N ≤ x ∧ x < n1) w ao c rs := ⟨h.outer.rsl, fun r hr => h.at hr⟩
end
theorem app3 (ps : List UInt8) : (List.replicate (ps.length + 3) (0 : UInt8)).take 0 ++ ps ++ (List.replicate (ps.length + 3) (0 : UInt8)).drop (0 + ps.length) = ps ++ [0, 0, 0] := by
  rw [List.take_zero, List.nil_append, Nat.zero_add, List.drop_replicate, show ps.length + 3 - ps.length = 3 from by omega]
  rfl
theorem x55 (x : UInt8) : (x ^^^ 0x55) ^^^ 0x55 = x := by rw [UInt8.xor_assoc, xor_self', xor_zero']
end Go.HL
namespace Go.Proofs.Ytjdbjdgobhjbkaa
open Go.RowKit Go.HL

set_option maxHeartbeats 8000000 in
theorem FieldApart_calls {w : World} {c cr : Nat} {ao ar : Option Addr} {rs : List Rw} {rgt : List UInt8} (h : RS (· < w.heap.size) w ao c rs) (hr : RSl (· < w.heap.size) w eb ar cr rgt) (hl1 : rs.length ≤ 100000000) (hl2 : rgt.length ≤ 100000000) (hl3 : ∀ r ∈ rs, r.xs.length ≤ 100000000) :
    Calls Try.prog 5 [.slice ao rs.length c, .slice ar rgt.length cr].toArray w (Ret fun v w' => v = .bool true ∧ Chg Nob w w') := by
  have hw := Chg.refl Nob w
  refine Calls.of_WC Try.func5 rfl Try.ntmps5 (by simp) ?_
  refine WC.seq (WC.region (WL.assign rfl rfl (WL.nil (WX.then_normal (WC.seq (WC.seq (WC.region (?_))))))))
  refine WL.call eg_11 rfl rfl (known2_calls _) ?_
  rintro v w1 ⟨rfl, k1⟩
  have zs_k1 := k1.size
  replace h := h.pure k1
  replace hr := hr.pure k1
  replace hw := hw.pure k1
  refine WL.not rfl rfl (WL.nil (WX.then_normal (WC.cond_false rfl (WC.skip (WX.then_normal (WC.seq (WC.region (?_))))))))
  refine WL.assign rfl rfl (WL.nil (WX.then_normal (WC.seq (WC.seq (WC.region (WL.assign rfl rfl (WL.nil (?_))))))))
  refine WX.then_normal (?_)
  refine WC.cutG (σ := Nat × (Option Addr × Nat × Nat × List Rw)) (fun q => [(0, .slice ao rs.length c), (1, .slice ar rgt.length cr), (5, .slice q.2.1 q.2.2.2.2.length q.2.2.1)])
    (fun q w' => (q.1 ≤ rs.length ∧ q.1 ≤ 9) ∧ (q.2.2.2.2.length = q.1 ∧ ∀ (j : Nat) (r z : Rw), rs[j]? = some r → q.2.2.2.2[j]? = some z → z.xs = r.xs) ∧ C3 w.heap.size q.2.2.2.1 w' 23 5 q.2.1 q.2.2.1 q.2.2.2.2 ∧ (w.heap.size ≤ q.2.2.2.1 ∧ q.2.2.2.1 ≤ w'.heap.size) ∧ RS (· < w.heap.size) w' ao c rs ∧ RSl (· < w.heap.size) w' eb ar cr rgt ∧ Chg Nob w w') ?_ ?_
  rotate_left
  ·
    refine WC.block ?_
    have zw0 := hw.size
    refine WC.loop (σ := Nat × (Option Addr × Nat × Nat × List Rw)) (fun q => [(0, .slice ao rs.length c), (1, .slice ar rgt.length cr), (5, .slice q.2.1 q.2.2.2.2.length q.2.2.1), (6, vi (q.1 : Int))])
      (fun q w' => (q.1 ≤ rs.length ∧ q.1 ≤ 9) ∧ (q.2.2.2.2.length = q.1 ∧ ∀ (j : Nat) (r z : Rw), rs[j]? = some r → q.2.2.2.2[j]? = some z → z.xs = r.xs) ∧ C3 w.heap.size q.2.2.2.1 w' 23 5 q.2.1 q.2.2.1 q.2.2.2.2 ∧ (w.heap.size ≤ q.2.2.2.1 ∧ q.2.2.2.1 ≤ w'.heap.size) ∧ RS (· < w.heap.size) w' ao c rs ∧ RSl (· < w.heap.size) w' eb ar cr rgt ∧ Chg Nob w w') (fun q => 9 - q.1) (0, none, 0, w.heap.size, []) ⟨rfl, rfl, rfl, rfl, trivial⟩ ⟨⟨Nat.zero_le _, Nat.zero_le _⟩, ⟨rfl, fun j r z _ hz => by simp at hz⟩, C3.nil _ _ _ _ _, ⟨Nat.le_refl _, zw0⟩, h, hr, hw⟩ ?_
    clear h hr hw
    rintro ⟨i, am, cm, n1, ms⟩ w2 ⟨⟨hi, hi9⟩, ⟨hml, hms⟩, hC, ⟨hwn, hn1⟩, h, hr, hw⟩
    simp only at hi hi9 hml hms hC hwn hn1
    dsimp only
    refine WC.seq (WC.seq (WC.region (WL.move rfl rfl (WL.move rfl rfl (WL.len Try.underlying22 rfl rfl (?_))))))
    refine WL.lss? rfl rfl rfl (fun h23 => ?_) (fun h23 => ?_)
    ·
      refine WL.move rfl rfl (WL.want rfl rfl rfl (WL.move rfl rfl (WL.want rfl rfl rfl (?_))))
      refine WL.lss? rfl rfl rfl (fun h26 => ?_) (fun h26 => ?_)
      ·
        refine WL.pickT rfl rfl rfl (WL.nil (WX.then_normal (WC.cond_true rfl (WC.skip (WX.then_normal (WC.seq (WC.block (?_))))))))
        obtain ⟨r, hri⟩ : ∃ r, rs[i]? = some r := ⟨_, List.getElem?_eq_getElem (by omega)⟩
        have hrl := hl3 r (List.mem_of_getElem? hri)
        obtain ⟨ob, oo, ho⟩ := h.outer.place hri
        refine WC.draw ((fun x => w.heap.size ≤ x)) [0, 1, 2, 3, 4, 5, 6, 8, 9, 10, 11] [7, 12, 13, 14, 15] mixed rfl rfl (fun wd_1 kd_1 zd_1 => ?_)
        have zs_kd_1 := kd_1.size
        replace hC := hC.pure kd_1
        replace h := h.pure kd_1
        replace hr := hr.pure kd_1
        replace hw := hw.pure kd_1
        apply DQ.step (E' := [(5, _)])
        case ho => rfl
        case hs => exact ⟨rfl, trivial⟩
        case hk => rfl
        case h1 =>
          intro wq_3 kq_3
          refine WL.move rfl rfl (?_)
          refine WL.nil ?_
          exact WX.one ⟨rfl, by first | exact Chg.refl _ _ | assumption⟩
        apply DQ.step (E' := [(0, _)])
        case ho => rfl
        case hs => exact ⟨rfl, trivial⟩
        case hk => rfl
        case h1 =>
          intro wq_4 kq_4
          refine WL.move rfl rfl (?_)
          refine WL.nil ?_
          exact WX.one ⟨rfl, by first | exact Chg.refl _ _ | assumption⟩
        apply DQ.step (E' := [(6, _)])
        case ho => rfl
        case hs => exact ⟨rfl, trivial⟩
        case hk => rfl
        case h1 =>
          intro wq_5 kq_5
          refine WL.move rfl rfl (?_)
          refine WL.nil ?_
          exact WX.one ⟨rfl, by first | exact Chg.refl _ _ | assumption⟩
        apply DQ.step (E' := [(31, _), (32, _)])
        case ho => rfl
        case hs => exact ⟨rfl, rfl, trivial⟩
        case hk => rfl
        case h1 =>
          intro wq_6 kq_6
          have zs_kq_6 := kq_6.size
          replace h := h.chg kq_6 (by first | (intro x h1 h2; exact h2) | (intro x h1 h2; have h3 : _ = _ := h2; exfalso; omega) | (intro b h1 h2 h3; have h4 : _ = _ := h3; (try dsimp only at h2); exfalso; omega) | (intro h1; have h2 : _ = _ := h1; exfalso; omega) | (intros; exfalso; (try dsimp only at *); omega) | (intro b h1 h2 h3; exfalso; have h4 := h3.2; (try dsimp only at *); omega) | (intro h1; exfalso; have h4 := h1.2; (try dsimp only at *); omega))
          replace hr := hr.chg kq_6 (by first | (intro x h1 h2; exact h2) | (intro x h1 h2; have h3 : _ = _ := h2; exfalso; omega) | (intro b h1 h2 h3; have h4 : _ = _ := h3; (try dsimp only at h2); exfalso; omega) | (intro h1; have h2 : _ = _ := h1; exfalso; omega) | (intros; exfalso; (try dsimp only at *); omega) | (intro b h1 h2 h3; exfalso; have h4 := h3.2; (try dsimp only at *); omega) | (intro h1; exfalso; have h4 := h1.2; (try dsimp only at *); omega))
          replace hw := hw.chg kq_6 (by first | (intro x h1 h2; exact h2) | (intro x h1 h2; have h3 : _ = _ := h2; exfalso; omega) | (intro b h1 h2 h3; have h4 : _ = _ := h3; (try dsimp only at h2); exfalso; omega) | (intro h1; have h2 : _ = _ := h1; exfalso; omega) | (intros; exfalso; (try dsimp only at *); omega) | (intro b h1 h2 h3; exfalso; have h4 := h3.2; (try dsimp only at *); omega) | (intro h1; exfalso; have h4 := h1.2; (try dsimp only at *); omega))
          have hO := h.outer
          rw [ho] at hO
          refine WL.indexC (e := erow) hO Try.underlying22 Try.sizeOf23 (by show some (Value.slice ao _ _) = _; rw [ho]) rfl ⟨hri, rfl⟩ rfl ?_
          refine WL.nil ?_
          exact WX.one ⟨rfl, by first | exact Chg.refl _ _ | assumption⟩
        apply DQ.step (E' := [(33, _)])
        case ho => rfl
        case hs => exact ⟨rfl, trivial⟩
        case hk => rfl
        case h1 =>
          intro wq_7 kq_7
          have zs_kq_7 := kq_7.size
          replace h := h.chg kq_7 (by first | (intro x h1 h2; exact h2) | (intro x h1 h2; have h3 : _ = _ := h2; exfalso; omega) | (intro b h1 h2 h3; have h4 : _ = _ := h3; (try dsimp only at h2); exfalso; omega) | (intro h1; have h2 : _ = _ := h1; exfalso; omega) | (intros; exfalso; (try dsimp only at *); omega) | (intro b h1 h2 h3; exfalso; have h4 := h3.2; (try dsimp only at *); omega) | (intro h1; exfalso; have h4 := h1.2; (try dsimp only at *); omega))
          replace hr := hr.chg kq_7 (by first | (intro x h1 h2; exact h2) | (intro x h1 h2; have h3 : _ = _ := h2; exfalso; omega) | (intro b h1 h2 h3; have h4 : _ = _ := h3; (try dsimp only at h2); exfalso; omega) | (intro h1; have h2 : _ = _ := h1; exfalso; omega) | (intros; exfalso; (try dsimp only at *); omega) | (intro b h1 h2 h3; exfalso; have h4 := h3.2; (try dsimp only at *); omega) | (intro h1; exfalso; have h4 := h1.2; (try dsimp only at *); omega))
          replace hw := hw.chg kq_7 (by first | (intro x h1 h2; exact h2) | (intro x h1 h2; have h3 : _ = _ := h2; exfalso; omega) | (intro b h1 h2 h3; have h4 : _ = _ := h3; (try dsimp only at h2); exfalso; omega) | (intro h1; have h2 : _ = _ := h1; exfalso; omega) | (intros; exfalso; (try dsimp only at *); omega) | (intro b h1 h2 h3; exfalso; have h4 := h3.2; (try dsimp only at *); omega) | (intro h1; exfalso; have h4 := h1.2; (try dsimp only at *); omega))
          have hO := h.outer
          rw [ho] at hO
          refine WL.load Try.isAgg23 rfl ((hO.cellsAt hri) 0 _ rfl) rfl ?_
          refine WL.nil ?_
          exact WX.one ⟨rfl, by first | exact Chg.refl _ _ | assumption⟩
        apply DQ.step (E' := [(34, _)])
        case ho => rfl
        case hs => exact ⟨rfl, trivial⟩
        case hk => rfl
        case h1 =>
          intro wq_8 kq_8
          have zs_kq_8 := kq_8.size
          replace h := h.chg kq_8 (by first | (intro x h1 h2; exact h2) | (intro x h1 h2; have h3 : _ = _ := h2; exfalso; omega) | (intro b h1 h2 h3; have h4 : _ = _ := h3; (try dsimp only at h2); exfalso; omega) | (intro h1; have h2 : _ = _ := h1; exfalso; omega) | (intros; exfalso; (try dsimp only at *); omega) | (intro b h1 h2 h3; exfalso; have h4 := h3.2; (try dsimp only at *); omega) | (intro h1; exfalso; have h4 := h1.2; (try dsimp only at *); omega))
          replace hr := hr.chg kq_8 (by first | (intro x h1 h2; exact h2) | (intro x h1 h2; have h3 : _ = _ := h2; exfalso; omega) | (intro b h1 h2 h3; have h4 : _ = _ := h3; (try dsimp only at h2); exfalso; omega) | (intro h1; have h2 : _ = _ := h1; exfalso; omega) | (intros; exfalso; (try dsimp only at *); omega) | (intro b h1 h2 h3; exfalso; have h4 := h3.2; (try dsimp only at *); omega) | (intro h1; exfalso; have h4 := h1.2; (try dsimp only at *); omega))
          replace hw := hw.chg kq_8 (by first | (intro x h1 h2; exact h2) | (intro x h1 h2; have h3 : _ = _ := h2; exfalso; omega) | (intro b h1 h2 h3; have h4 : _ = _ := h3; (try dsimp only at h2); exfalso; omega) | (intro h1; have h2 : _ = _ := h1; exfalso; omega) | (intros; exfalso; (try dsimp only at *); omega) | (intro b h1 h2 h3; exfalso; have h4 := h3.2; (try dsimp only at *); omega) | (intro h1; exfalso; have h4 := h1.2; (try dsimp only at *); omega))
          refine WL.len Try.underlying23 rfl rfl (?_)
          refine WL.nil ?_
          exact WX.one ⟨rfl, by first | exact Chg.refl _ _ | assumption⟩
        apply DQ.step (E' := [(35, _)])
        case ho => rfl
        case hs => exact ⟨rfl, trivial⟩
        case hk => rfl
        case h1 =>
          intro wq_9 kq_9
          refine WL.add64 rfl rfl (by first | omega | (constructor <;> omega)) rfl (?_)
          refine WL.nil ?_
          exact WX.one ⟨rfl, by first | exact Chg.refl _ _ | assumption⟩
        apply DQ.step (E' := [(0, _)])
        case ho => rfl
        case hs => exact ⟨rfl, trivial⟩
        case hk => rfl
        case h1 =>
          intro wq_10 kq_10
          refine WL.move rfl rfl (?_)
          refine WL.nil ?_
          exact WX.one ⟨rfl, by first | exact Chg.refl _ _ | assumption⟩
        apply DQ.step (E' := [(6, _)])
        case ho => rfl
        case hs => exact ⟨rfl, trivial⟩
        case hk => rfl
        case h1 =>
          intro wq_11 kq_11
          refine WL.move rfl rfl (?_)
          refine WL.nil ?_
          exact WX.one ⟨rfl, by first | exact Chg.refl _ _ | assumption⟩
        apply DQ.step (E' := [(38, _), (39, _)])
        case ho => rfl
        case hs => exact ⟨rfl, rfl, trivial⟩
        case hk => rfl
        case h1 =>
          intro wq_12 kq_12
          have zs_kq_12 := kq_12.size
          replace h := h.chg kq_12 (by first | (intro x h1 h2; exact h2) | (intro x h1 h2; have h3 : _ = _ := h2; exfalso; omega) | (intro b h1 h2 h3; have h4 : _ = _ := h3; (try dsimp only at h2); exfalso; omega) | (intro h1; have h2 : _ = _ := h1; exfalso; omega) | (intros; exfalso; (try dsimp only at *); omega) | (intro b h1 h2 h3; exfalso; have h4 := h3.2; (try dsimp only at *); omega) | (intro h1; exfalso; have h4 := h1.2; (try dsimp only at *); omega))
          replace hr := hr.chg kq_12 (by first | (intro x h1 h2; exact h2) | (intro x h1 h2; have h3 : _ = _ := h2; exfalso; omega) | (intro b h1 h2 h3; have h4 : _ = _ := h3; (try dsimp only at h2); exfalso; omega) | (intro h1; have h2 : _ = _ := h1; exfalso; omega) | (intros; exfalso; (try dsimp only at *); omega) | (intro b h1 h2 h3; exfalso; have h4 := h3.2; (try dsimp only at *); omega) | (intro h1; exfalso; have h4 := h1.2; (try dsimp only at *); omega))
          replace hw := hw.chg kq_12 (by first | (intro x h1 h2; exact h2) | (intro x h1 h2; have h3 : _ = _ := h2; exfalso; omega) | (intro b h1 h2 h3; have h4 : _ = _ := h3; (try dsimp only at h2); exfalso; omega) | (intro h1; have h2 : _ = _ := h1; exfalso; omega) | (intros; exfalso; (try dsimp only at *); omega) | (intro b h1 h2 h3; exfalso; have h4 := h3.2; (try dsimp only at *); omega) | (intro h1; exfalso; have h4 := h1.2; (try dsimp only at *); omega))
          have hO := h.outer
          rw [ho] at hO
          refine WL.indexC (e := erow) hO Try.underlying22 Try.sizeOf23 (by show some (Value.slice ao _ _) = _; rw [ho]) rfl ⟨hri, rfl⟩ rfl ?_
          refine WL.nil ?_
          exact WX.one ⟨rfl, by first | exact Chg.refl _ _ | assumption⟩
        apply DQ.step (E' := [(40, _)])
        case ho => rfl
        case hs => exact ⟨rfl, trivial⟩
        case hk => rfl
        case h1 =>
          intro wq_13 kq_13
          have zs_kq_13 := kq_13.size
          replace h := h.chg kq_13 (by first | (intro x h1 h2; exact h2) | (intro x h1 h2; have h3 : _ = _ := h2; exfalso; omega) | (intro b h1 h2 h3; have h4 : _ = _ := h3; (try dsimp only at h2); exfalso; omega) | (intro h1; have h2 : _ = _ := h1; exfalso; omega) | (intros; exfalso; (try dsimp only at *); omega) | (intro b h1 h2 h3; exfalso; have h4 := h3.2; (try dsimp only at *); omega) | (intro h1; exfalso; have h4 := h1.2; (try dsimp only at *); omega))
          replace hr := hr.chg kq_13 (by first | (intro x h1 h2; exact h2) | (intro x h1 h2; have h3 : _ = _ := h2; exfalso; omega) | (intro b h1 h2 h3; have h4 : _ = _ := h3; (try dsimp only at h2); exfalso; omega) | (intro h1; have h2 : _ = _ := h1; exfalso; omega) | (intros; exfalso; (try dsimp only at *); omega) | (intro b h1 h2 h3; exfalso; have h4 := h3.2; (try dsimp only at *); omega) | (intro h1; exfalso; have h4 := h1.2; (try dsimp only at *); omega))
          replace hw := hw.chg kq_13 (by first | (intro x h1 h2; exact h2) | (intro x h1 h2; have h3 : _ = _ := h2; exfalso; omega) | (intro b h1 h2 h3; have h4 : _ = _ := h3; (try dsimp only at h2); exfalso; omega) | (intro h1; have h2 : _ = _ := h1; exfalso; omega) | (intros; exfalso; (try dsimp only at *); omega) | (intro b h1 h2 h3; exfalso; have h4 := h3.2; (try dsimp only at *); omega) | (intro h1; exfalso; have h4 := h1.2; (try dsimp only at *); omega))
          have hO := h.outer
          rw [ho] at hO
          refine WL.load Try.isAgg23 rfl ((hO.cellsAt hri) 0 _ rfl) rfl ?_
          refine WL.nil ?_
          exact WX.one ⟨rfl, by first | exact Chg.refl _ _ | assumption⟩
        refine DQ.done (fun hd_2 => ?_)
        refine DL.step [(36, _)] rfl ⟨rfl, trivial⟩ rfl (fun wq_14 kq_14 => ?_)
        have zs_kq_14 := kq_14.size
        replace hC := hC.pure kq_14
        replace h := h.pure kq_14
        replace hr := hr.pure kq_14
        replace hw := hw.pure kq_14
        replace hd_2 := hd_2.pure kq_14
        refine WL.makeB (e := eb) (0 : UInt8) 0 (r.xs.length + 3) Try.underlying23 info_5 rfl rfl rfl ⟨rfl, rfl, Nat.zero_le _⟩ (by constructor <;> omega) rfl ?_
        intro g5 w5 hB5 k5 z5 e5
        have zs_k5 := k5.size
        replace hC := hC.pure k5
        replace h := h.pure k5
        replace hr := hr.pure k5
        replace hw := hw.pure k5
        replace hd_2 := hd_2.pure k5
        refine WL.nil ?_
        refine WX.one ⟨hd_2, ?_⟩
        refine DL.step [(37, _), (41, _)] rfl ⟨rfl, rfl, trivial⟩ rfl (fun wq_15 kq_15 => ?_)
        have zs_kq_15 := kq_15.size
        replace hC := hC.pure kq_15
        replace h := h.pure kq_15
        replace hr := hr.pure kq_15
        replace hw := hw.pure kq_15
        replace hd_2 := hd_2.pure kq_15
        replace hB5 := hB5.pure kq_15
        refine WL.appendB (e := eb) (ys := r.xs) info_5 Try.underlying23 rfl rfl hB5 (by rw [List.length_replicate]) ((h.at hri).src Try.underlying23) (by omega) rfl ?_
        intro w6 hB6 k6 n6
        rw [app3] at hB6
        rw [Nat.zero_add r.xs.length]
        have hC6 := hC.chg k6 (fun x h1 h2 => by have h3 : x = g5 := h2; omega)
        have k6' := k6.mono (M' := fun x => w.heap.size ≤ x) (fun x _ hx => by have h2 : x = g5 := hx; show w.heap.size ≤ x; omega)
        have zs_k6' := k6'.size
        replace h := h.chg k6' (by first | (intro x h1 h2; exact h2) | (intro x h1 h2; have h3 : _ = _ := h2; exfalso; omega) | (intro b h1 h2 h3; have h4 : _ = _ := h3; (try dsimp only at h2); exfalso; omega) | (intro h1; have h2 : _ = _ := h1; exfalso; omega) | (intros; exfalso; (try dsimp only at *); omega) | (intro b h1 h2 h3; exfalso; have h4 := h3.2; (try dsimp only at *); omega) | (intro h1; exfalso; have h4 := h1.2; (try dsimp only at *); omega))
        replace hr := hr.chg k6' (by first | (intro x h1 h2; exact h2) | (intro x h1 h2; have h3 : _ = _ := h2; exfalso; omega) | (intro b h1 h2 h3; have h4 : _ = _ := h3; (try dsimp only at h2); exfalso; omega) | (intro h1; have h2 : _ = _ := h1; exfalso; omega) | (intros; exfalso; (try dsimp only at *); omega) | (intro b h1 h2 h3; exfalso; have h4 := h3.2; (try dsimp only at *); omega) | (intro h1; exfalso; have h4 := h1.2; (try dsimp only at *); omega))
        replace hw := hw.chg k6' (by first | (intro x h1 h2; exact h2) | (intro x h1 h2; have h3 : _ = _ := h2; exfalso; omega) | (intro b h1 h2 h3; have h4 : _ = _ := h3; (try dsimp only at h2); exfalso; omega) | (intro h1; have h2 : _ = _ := h1; exfalso; omega) | (intros; exfalso; (try dsimp only at *); omega) | (intro b h1 h2 h3; exfalso; have h4 := h3.2; (try dsimp only at *); omega) | (intro h1; exfalso; have h4 := h1.2; (try dsimp only at *); omega))
        replace hd_2 := hd_2.chg k6' (by first | (intro x h1 h2; exact h2) | (intro x h1 h2; have h3 : _ = _ := h2; exfalso; omega) | (intro b h1 h2 h3; have h4 : _ = _ := h3; (try dsimp only at h2); exfalso; omega) | (intro h1; have h2 : _ = _ := h1; exfalso; omega) | (intros; exfalso; (try dsimp only at *); omega) | (intro b h1 h2 h3; exfalso; have h4 := h3.2; (try dsimp only at *); omega) | (intro h1; exfalso; have h4 := h1.2; (try dsimp only at *); omega))
        refine WL.nil ?_
        refine WX.one ⟨hd_2, ?_⟩
        refine DL.step [(42, _)] rfl ⟨rfl, trivial⟩ rfl (fun wq_16 kq_16 => ?_)
        have zs_kq_16 := kq_16.size
        replace h := h.pure kq_16
        replace hr := hr.pure kq_16
        replace hw := hw.pure kq_16
        replace hd_2 := hd_2.pure kq_16
        replace hB6 := hB6.pure kq_16
        replace hC6 := hC6.pure kq_16
        refine WL.build (e := erow) [⟨some ⟨g5, 0, none⟩, r.xs.length + 3, r.xs⟩] Try.underlying22 Try.sizeOf23 Try.zeroValue23 rfl rfl rfl (by first | (simp [Value.cells]; done) | (simp [Value.cells] <;> rfl) | (simp [Value.cells, eb, ei, es, ebool, e32, e64]; done)) (by decide) rfl ?_
        intro a_qr w_qr qr l_qr z_qr k_qr
        have zs_k_qr := k_qr.size
        replace h := h.pure k_qr
        replace hr := hr.pure k_qr
        replace hw := hw.pure k_qr
        replace hd_2 := hd_2.pure k_qr
        replace hB6 := hB6.pure k_qr
        replace hC6 := hC6.pure k_qr
        refine WL.nil ?_
        refine WX.one ⟨hd_2, ?_⟩
        refine DL.step [(30, _), (43, _)] rfl ⟨rfl, rfl, trivial⟩ rfl (fun wq_17 kq_17 => ?_)
        have zs_kq_17 := kq_17.size
        replace h := h.pure kq_17
        replace hr := hr.pure kq_17
        replace hw := hw.pure kq_17
        replace hd_2 := hd_2.pure kq_17
        replace hB6 := hB6.pure kq_17
        replace hC6 := hC6.pure kq_17
        replace qr := qr.pure kq_17
        refine WL.append (e := erow) (S := fun b => w.heap.size ≤ b) info_23 rfl Try.underlying22 rfl rfl (hC6.outer.mono (fun b hb => hb.1)) (qr.rsl.src Try.underlying22) (by show (ms.length + 1) * 24 ≤ _ ∧ ms.length + 1 ≤ _; constructor <;> omega) (fun b hb => by have := hw.size; omega) rfl ?_
        intro a15 c15 w15 hO15 g15 n15
        have hC15 := hC6.snoc hB6 (by omega) hwn (by omega) hO15 g15
        have k15 := g15.chg.mono (M' := fun x => w.heap.size ≤ x) (fun x _ hx => hx.2)
        have hz15 : w.heap.size ≤ w15.heap.size := by have := g15.chg.size; omega
        have zs_k15 := k15.size
        replace h := h.chg k15 (by first | (intro x h1 h2; exact h2) | (intro x h1 h2; have h3 : _ = _ := h2; exfalso; omega) | (intro b h1 h2 h3; have h4 : _ = _ := h3; (try dsimp only at h2); exfalso; omega) | (intro h1; have h2 : _ = _ := h1; exfalso; omega) | (intros; exfalso; (try dsimp only at *); omega) | (intro b h1 h2 h3; exfalso; have h4 := h3.2; (try dsimp only at *); omega) | (intro h1; exfalso; have h4 := h1.2; (try dsimp only at *); omega))
        replace hr := hr.chg k15 (by first | (intro x h1 h2; exact h2) | (intro x h1 h2; have h3 : _ = _ := h2; exfalso; omega) | (intro b h1 h2 h3; have h4 : _ = _ := h3; (try dsimp only at h2); exfalso; omega) | (intro h1; have h2 : _ = _ := h1; exfalso; omega) | (intros; exfalso; (try dsimp only at *); omega) | (intro b h1 h2 h3; exfalso; have h4 := h3.2; (try dsimp only at *); omega) | (intro h1; exfalso; have h4 := h1.2; (try dsimp only at *); omega))
        replace hw := hw.chg k15 (by first | (intro x h1 h2; exact h2) | (intro x h1 h2; have h3 : _ = _ := h2; exfalso; omega) | (intro b h1 h2 h3; have h4 : _ = _ := h3; (try dsimp only at h2); exfalso; omega) | (intro h1; have h2 : _ = _ := h1; exfalso; omega) | (intros; exfalso; (try dsimp only at *); omega) | (intro b h1 h2 h3; exfalso; have h4 := h3.2; (try dsimp only at *); omega) | (intro h1; exfalso; have h4 := h1.2; (try dsimp only at *); omega))
        replace hd_2 := hd_2.chg k15 (by first | (intro x h1 h2; exact h2) | (intro x h1 h2; have h3 : _ = _ := h2; exfalso; omega) | (intro b h1 h2 h3; have h4 : _ = _ := h3; (try dsimp only at h2); exfalso; omega) | (intro h1; have h2 : _ = _ := h1; exfalso; omega) | (intros; exfalso; (try dsimp only at *); omega) | (intro b h1 h2 h3; exfalso; have h4 := h3.2; (try dsimp only at *); omega) | (intro h1; exfalso; have h4 := h1.2; (try dsimp only at *); omega))
        refine WL.nil ?_
        refine WX.one ⟨hd_2, ?_⟩
        refine DL.step [(44, _)] rfl ⟨rfl, trivial⟩ rfl (fun wq_18 kq_18 => ?_)
        have zs_kq_18 := kq_18.size
        replace h := h.pure kq_18
        replace hr := hr.pure kq_18
        replace hw := hw.pure kq_18
        replace hd_2 := hd_2.pure kq_18
        replace hC15 := hC15.pure kq_18
        refine WL.assign rfl rfl (?_)
        refine WL.nil ?_
        refine WX.one ⟨hd_2, ?_⟩
        refine DL.done (fun we_19 ke_19 => ?_)
        have zs_ke_19 := ke_19.size
        replace h := h.pure ke_19
        replace hr := hr.pure ke_19
        replace hw := hw.pure ke_19
        replace hd_2 := hd_2.pure ke_19
        replace hC15 := hC15.pure ke_19
        refine WX.block_normal (WX.then_normal (WC.region (WL.move rfl rfl (WL.add64 rfl rfl (by first | omega | (constructor <;> omega)) rfl (WL.assign rfl rfl (WL.nil (?_)))))))
        first
          | exact WX.loop_next (i + 1, a15, c15, w15.heap.size, ms ++ [⟨some ⟨g5, 0, none⟩, r.xs.length + 3, r.xs⟩]) ⟨rfl, rfl, rfl, rfl, trivial⟩ ⟨⟨by show i + 1 ≤ _; omega, by show i + 1 ≤ 9; omega⟩, ⟨by show (ms ++ [_]).length = _; simp [hml], fun j r' z hr' hz => (by
              rcases get_snoc hz with h1 | ⟨h1, h2⟩
              ·
                exact hms j r' z hr' h1
              ·
                rw [h1, hml, hri] at hr'
                injection hr' with hr'
                rw [h2, ← hr'])⟩, hC15, ⟨hz15, by show w15.heap.size ≤ _; omega⟩, h, hr, hw⟩ (by show 9 - (i + 1) < 9 - i; omega)
          | exact WX.loop_next (i2 + 1, ys.set i2 (y ^^^ 0x55)) ⟨rfl, rfl, rfl, rfl, rfl, by show _ = some (Value.slice aa (ys.set i2 (y ^^^ 0x55)).length ca); rw [List.length_set]; rfl, rfl, rfl, trivial⟩ ⟨by show i2 + 1 ≤ _; omega, ⟨by show (ys.set _ _).length = _; rw [List.length_set]; exact hyl, fun j hj => (by
              show (ys.set i2 (y ^^^ 0x55)).getD j 0 = if j < i2 + 1 then _ else _
              rw [List.getD_eq_getElem?_getD, List.getElem?_set]
              by_cases e : i2 = j
              ·
                subst e
                have h1 := hyv i2 hj
                rw [if_neg (Nat.lt_irrefl _), List.getD_eq_getElem?_getD, hy] at h1
                rw [if_pos rfl, if_pos (by omega), if_pos (by omega), ← h1]
                rfl
              ·
                rw [if_neg e, ← List.getD_eq_getElem?_getD, hyv j hj]
                by_cases e2 : j < i2
                ·
                  rw [if_pos e2, if_pos (by omega)]
                ·
                  rw [if_neg e2, if_neg (by omega)])⟩, hO12, hC, h, hr, hq, hF, hw⟩ (by show oa.length - (i2 + 1) < oa.length - i2; omega)
          | exact WX.loop_next (k + 1) ⟨rfl, rfl, rfl, rfl, rfl, rfl, rfl, trivial⟩ ⟨by omega, hC, h, hr, hq, hra, hrb, hw⟩ (by omega)
          | exact WX.loop_next (k4 + 1) ⟨rfl, rfl, rfl, rfl, rfl, rfl, rfl, trivial⟩ ⟨⟨by omega, by omega⟩, hq2, hC, h, hr, hq, hw⟩ (by omega)
          | exact WX.loop_next (k3 + 1) ⟨rfl, rfl, rfl, rfl, rfl, trivial⟩ ⟨by omega, hC, h, hr, hq, hw⟩ (by omega)
      ·
        refine WL.pickT rfl rfl rfl (WL.nil (WX.then_normal (WC.cond_false rfl (WC.exit (WX.then_exit (WX.then_exit (WX.block_here (?_))))))))
        exact WX.cutN (i, am, cm, n1, ms) ⟨rfl, rfl, rfl, trivial⟩ ⟨⟨hi, hi9⟩, ⟨hml, hms⟩, hC, ⟨hwn, hn1⟩, h, hr, hw⟩
    ·
      refine WL.move rfl rfl (WL.pass rfl rfl rfl rfl (WL.pass rfl rfl rfl rfl (WL.pickF rfl rfl rfl (WL.nil (WX.then_normal (WC.cond_false rfl (WC.exit (?_))))))))
      refine WX.then_exit (WX.then_exit (WX.block_here (?_)))
      exact WX.cutN (i, am, cm, n1, ms) ⟨rfl, rfl, rfl, trivial⟩ ⟨⟨hi, hi9⟩, ⟨hml, hms⟩, hC, ⟨hwn, hn1⟩, h, hr, hw⟩
  ·
    clear h hr hw
    rintro ⟨i, am, cm, n1, ms⟩ w2 ⟨⟨hi, hi9⟩, ⟨hml, hms⟩, hC, ⟨hwn, hn1⟩, h, hr, hw⟩
    simp only at hi hi9 hml hms hC hwn hn1
    dsimp only
    have hmsl : ∀ z ∈ ms, z.xs.length ≤ 100000000 := fun z hz => by
      obtain ⟨j, hj⟩ := List.getElem?_of_mem hz
      have hjl := (List.getElem?_eq_some_iff.1 hj).1
      obtain ⟨r, hrj⟩ : ∃ r, rs[j]? = some r := ⟨_, List.getElem?_eq_getElem (by omega)⟩
      rw [hms j r z hrj hj]
      exact hl3 r (List.mem_of_getElem? hrj)
    refine WX.then_normal (WC.seq (WC.region (WL.move rfl rfl (WL.len Try.underlying23 rfl rfl (WL.add64 rfl rfl (by first | omega | (constructor <;> omega)) rfl (?_))))))
    refine WL.makeB (e := eb) (0 : UInt8) 0 (rgt.length + 3) Try.underlying23 info_5 rfl rfl rfl ⟨rfl, rfl, Nat.zero_le _⟩ (by constructor <;> omega) rfl ?_
    intro g7 w7 hB7 k7 z7 e7
    have zs_k7 := k7.size
    replace hC := hC.pure k7
    replace h := h.pure k7
    replace hr := hr.pure k7
    replace hw := hw.pure k7
    refine WL.move rfl rfl (?_)
    refine WL.appendB (e := eb) (ys := rgt) info_5 Try.underlying23 rfl rfl hB7 (by rw [List.length_replicate]) (hr.src Try.underlying23) (by omega) rfl ?_
    intro w8 hB8 k8 n8
    rw [app3] at hB8
    rw [Nat.zero_add rgt.length]
    replace hC := hC.chg k8 (fun x h1 h2 => by have h3 : x = g7 := h2; omega)
    replace h := h.chg k8 (fun x _ h1 h2 => by have h3 : x = g7 := h2; omega)
    replace hr := hr.chg k8 (fun x _ h1 h2 => by have h3 : x = g7 := h2; omega)
    replace hw := hw.chg k8 (fun x h1 h2 => by have h3 : x = g7 := h2; omega)
    have hgn : n1 ≤ g7 := by omega
    have hgl := hB8.lt
    have hq0 : RSl (fun b => b = g7) _ eb (some ⟨g7, 0, none⟩) (rgt.length + 3) (rgt ++ [0, 0, 0]) := RSl.ofBlk hB8 (by simp)
    have hq := hq0.take rgt.length (by simp)
    rw [List.take_left] at hq
    clear hq0
    refine WL.assign rfl rfl (WL.nil (WX.then_normal (WC.seq (WC.region (?_)))))
    refine WL.call eg_13 rfl rfl (fresh_calls _) ?_
    rintro v w9 ⟨⟨gf, rfl, hF, hgf⟩, k9⟩
    have zs_k9 := k9.size
    replace hC := hC.pure k9
    replace h := h.pure k9
    replace hr := hr.pure k9
    replace hw := hw.pure k9
    replace hq := hq.pure k9
    refine WL.assign rfl rfl (WL.nil (WX.then_normal (WC.seq (WC.region (WL.move rfl rfl (WL.move rfl rfl (WL.move rfl rfl (?_))))))))
    have lgf := hF.lt
    refine WL.call eg_14 rfl rfl (Solve_calls hF (hC.toRS.mono (S' := fun b => b ≠ gf) (fun b hb => by omega)) (hq.mono (S' := fun b => b ≠ gf) (fun b hb => by have h3 : b = g7 := hb; omega)) (by omega) (by omega)) ?_
    rintro v w10 ⟨⟨aa, ca, oa, e, rfl, hS1, hOa⟩, hF10, k10⟩
    have zk10 := k10.size
    have hga : w9.heap.size ≤ w10.heap.size := zk10
    replace hC := hC.chg k10 (fun x h1 h2 => by have h3 : x = gf := h2; omega)
    replace h := h.chg k10 (fun x _ h1 h2 => by have h3 : x = gf := h2; omega)
    replace hr := hr.chg k10 (fun x _ h1 h2 => by have h3 : x = gf := h2; omega)
    replace hw := hw.chg k10 (fun x h1 h2 => by have h3 : x = gf := h2; omega)
    replace hq := hq.chg k10 (fun x _ h1 h2 => by have h3 : x = gf := h2; have h4 : x = g7 := h1; omega)
    replace hOa := hOa.lt
    have hoal : oa.length ≤ 8 := by
      rcases hS1 with ⟨_, h1, _⟩ | ⟨h1, _, h2, _⟩ | ⟨_, _, h1, _⟩
      ·
        rw [h1]; exact Nat.zero_le _
      ·
        rw [h2]; exact h1.1.2
      ·
        rw [h1]; exact Nat.zero_le _
    refine WL.move rfl rfl (WL.extract rfl rfl rfl (WL.extract rfl rfl rfl (WL.assign rfl rfl (WL.assign rfl rfl (WL.nil (WX.then_normal (WC.seq (?_))))))))
    refine WC.seq (WC.region (WL.assign rfl rfl (WL.nil (WX.then_normal (WC.block (?_))))))
    refine WC.loop (σ := Nat × List UInt8) (fun p => [(0, .slice ao rs.length c), (1, .slice ar rgt.length cr), (5, .slice am ms.length cm), (7, .slice (some ⟨g7, 0, none⟩) rgt.length (rgt.length + 3)), (8, .pointer (some ⟨gf, 0, none⟩)), (9, .slice aa p.2.length ca), (10, vi e), (11, vi (p.1 : Int))])
      (fun p w' => p.1 ≤ oa.length ∧ (p.2.length = oa.length ∧ ∀ j, j < oa.length → p.2.getD j 0 = if j < p.1 then oa.getD j 0 ^^^ 0x55 else oa.getD j 0) ∧ Row (fun b => gf < b) w' 5 eb aa ca p.2 ∧ C3 w.heap.size n1 w' 23 5 am cm ms ∧ RS (· < w.heap.size) w' ao c rs ∧ RSl (· < w.heap.size) w' eb ar cr rgt ∧ RSl (fun b => b = g7) w' eb (some ⟨g7, 0, none⟩) (rgt.length + 3) rgt ∧ Fld w' gf ∧ Chg Nob w w') (fun p => oa.length - p.1) (0, oa) ⟨rfl, rfl, rfl, rfl, rfl, rfl, rfl, rfl, trivial⟩ ⟨Nat.zero_le _, ⟨rfl, fun j _ => by rw [if_neg (Nat.not_lt_zero j)]⟩, hOa.mono (fun b hb => by omega), hC, h, hr, hq, hF10, hw⟩ ?_
    clear hOa hC h hr hq hF10 hw
    rintro ⟨i2, ys⟩ w11 ⟨hi2, ⟨hyl, hyv⟩, hOa, hC, h, hr, hq, hF, hw⟩
    simp only at hi2 hyl hyv hOa
    dsimp only
    refine WC.seq (WC.seq (WC.region (WL.move rfl rfl (WL.move rfl rfl (WL.len Try.underlying23 rfl rfl (?_))))))
    refine WL.lss? rfl rfl rfl (fun h62 => ?_) (fun h62 => ?_)
    ·
      refine WL.nil (WX.then_normal (WC.cond_true rfl (WC.skip (WX.then_normal (WC.seq (WC.block (WC.region (?_))))))))
      refine WL.move rfl rfl (WL.move rfl rfl (WL.move rfl rfl (WL.move rfl rfl (?_))))
      obtain ⟨y, hy⟩ : ∃ y, ys[i2]? = some y := ⟨_, List.getElem?_eq_getElem (by omega)⟩
      refine WL.indexT (e := eb) Try.underlying23 Try.sizeOf5 hOa.rsl rfl rfl ⟨hy, rfl⟩ rfl ?_
      intro bb2 oo2 hcc2
      refine WL.load Try.isAgg5 rfl (hcc2 0 _ rfl) rfl ?_
      refine WL.num rfl rfl (n_xor8 _ _ _ 85) rfl (?_)
      obtain ⟨ga, hga2⟩ := hOa.place0 (j := i2) (by omega)
      have hgal : gf < ga := hOa.at_ _ hga2
      have hOa2 := hOa
      rw [hga2] at hOa2
      refine WL.index (j := i2) (sz := 1) Try.underlying23 Try.sizeOf5 (by show some (Value.slice aa _ _) = some (Value.slice (some ⟨ga, 0, none⟩) _ _); rw [hga2]) rfl rfl (by omega) rfl ?_
      refine WL.storeRow (z := y ^^^ 0x55) i2 Try.sizeOf5 hOa2 rfl rfl rfl (by show 0 + i2 * 1 = i2; omega) (by omega) rfl ?_
      intro w12 z12 hO12 k12
      rw [← hga2] at hO12
      replace hC := hC.chg k12 (fun x h1 h2 => by have h3 : x = ga := h2; omega)
      replace h := h.chg k12 (fun x _ h1 h2 => by have h3 : x = ga := h2; omega)
      replace hr := hr.chg k12 (fun x _ h1 h2 => by have h3 : x = ga := h2; omega)
      replace hw := hw.chg k12 (fun x h1 h2 => by have h3 : x = ga := h2; omega)
      replace hq := hq.chg k12 (fun x _ h1 h2 => by have h3 : x = ga := h2; have h4 : x = g7 := h1; omega)
      replace hF := hF.chg k12 (fun h2 => by have h3 : gf = ga := h2; omega)
      refine WL.nil (WX.block_normal (WX.then_normal (WC.region (WL.move rfl rfl (WL.add64 rfl rfl (by first | omega | (constructor <;> omega)) rfl (WL.assign rfl rfl (WL.nil (?_))))))))
      first
        | exact WX.loop_next (i + 1, a15, c15, w15.heap.size, ms ++ [⟨some ⟨g5, 0, none⟩, r.xs.length + 3, r.xs⟩]) ⟨rfl, rfl, rfl, rfl, trivial⟩ ⟨⟨by show i + 1 ≤ _; omega, by show i + 1 ≤ 9; omega⟩, ⟨by show (ms ++ [_]).length = _; simp [hml], fun j r' z hr' hz => (by
            rcases get_snoc hz with h1 | ⟨h1, h2⟩
            ·
              exact hms j r' z hr' h1
            ·
              rw [h1, hml, hri] at hr'
              injection hr' with hr'
              rw [h2, ← hr'])⟩, hC15, ⟨hz15, by show w15.heap.size ≤ _; omega⟩, h, hr, hw⟩ (by show 9 - (i + 1) < 9 - i; omega)
        | exact WX.loop_next (i2 + 1, ys.set i2 (y ^^^ 0x55)) ⟨rfl, rfl, rfl, rfl, rfl, by show _ = some (Value.slice aa (ys.set i2 (y ^^^ 0x55)).length ca); rw [List.length_set]; rfl, rfl, rfl, trivial⟩ ⟨by show i2 + 1 ≤ _; omega, ⟨by show (ys.set _ _).length = _; rw [List.length_set]; exact hyl, fun j hj => (by
            show (ys.set i2 (y ^^^ 0x55)).getD j 0 = if j < i2 + 1 then _ else _
            rw [List.getD_eq_getElem?_getD, List.getElem?_set]
            by_cases e : i2 = j
            ·
              subst e
              have h1 := hyv i2 hj
              rw [if_neg (Nat.lt_irrefl _), List.getD_eq_getElem?_getD, hy] at h1
              rw [if_pos rfl, if_pos (by omega), if_pos (by omega), ← h1]
              rfl
            ·
              rw [if_neg e, ← List.getD_eq_getElem?_getD, hyv j hj]
              by_cases e2 : j < i2
              ·
                rw [if_pos e2, if_pos (by omega)]
              ·
                rw [if_neg e2, if_neg (by omega)])⟩, hO12, hC, h, hr, hq, hF, hw⟩ (by show oa.length - (i2 + 1) < oa.length - i2; omega)
        | exact WX.loop_next (k + 1) ⟨rfl, rfl, rfl, rfl, rfl, rfl, rfl, trivial⟩ ⟨by omega, hC, h, hr, hq, hra, hrb, hw⟩ (by omega)
        | exact WX.loop_next (k4 + 1) ⟨rfl, rfl, rfl, rfl, rfl, rfl, rfl, trivial⟩ ⟨⟨by omega, by omega⟩, hq2, hC, h, hr, hq, hw⟩ (by omega)
        | exact WX.loop_next (k3 + 1) ⟨rfl, rfl, rfl, rfl, rfl, trivial⟩ ⟨by omega, hC, h, hr, hq, hw⟩ (by omega)
    ·
      refine WL.nil (WX.then_normal (WC.cond_false rfl (WC.exit (WX.then_exit (WX.then_exit (WX.block_here (WX.then_normal (?_))))))))
      refine WC.seq (WC.region (WL.move rfl rfl (WL.move rfl rfl (WL.move rfl rfl (?_)))))
      have hi2l : i2 = oa.length := by omega
      subst hi2l
      have lgf2 := hF.lt
      replace hOa := hOa.lt
      refine WL.call eg_14 rfl rfl (Solve_calls hF (hC.toRS.mono (S' := fun b => b ≠ gf) (fun b hb => by omega)) (hq.mono (S' := fun b => b ≠ gf) (fun b hb => by have h3 : b = g7 := hb; omega)) (by omega) (by omega)) ?_
      rintro v w13 ⟨⟨ab, cb, ob2, e2, rfl, hS2, hOb⟩, hF13, k13⟩
      obtain ⟨rfl, rfl⟩ := hS1.uniq hS2
      replace hC := hC.chg k13 (fun x h1 h2 => by have h3 : x = gf := h2; omega)
      replace h := h.chg k13 (fun x _ h1 h2 => by have h3 : x = gf := h2; omega)
      replace hr := hr.chg k13 (fun x _ h1 h2 => by have h3 : x = gf := h2; omega)
      replace hw := hw.chg k13 (fun x h1 h2 => by have h3 : x = gf := h2; omega)
      replace hq := hq.chg k13 (fun x _ h1 h2 => by have h3 : x = gf := h2; have h4 : x = g7 := h1; omega)
      replace hOa := hOa.chg k13 (fun x _ h1 h2 => by have h3 : x = gf := h2; have := h1.1; omega)
      have hra := hOa.rsl.mono (S' := fun _ => True) (fun _ _ => trivial)
      have hrb := hOb.rsl.mono (S' := fun _ => True) (fun _ _ => trivial)
      refine WL.move rfl rfl (WL.extract rfl rfl rfl (WL.extract rfl rfl rfl (WL.assign rfl rfl (WL.assign rfl rfl (WL.nil (WX.then_normal (WC.seq (?_))))))))
      refine WC.seq (WC.region (WL.move rfl rfl (WL.move rfl rfl (?_))))
      refine WL.neqF rfl rfl rfl (by first | rfl | omega | decide) ?_
      refine WL.move rfl rfl (WL.want rfl rfl rfl (WL.move rfl rfl (WL.want rfl rfl rfl (WL.len Try.underlying23 rfl rfl (WL.want rfl rfl rfl (WL.move rfl rfl (WL.want rfl rfl rfl (?_))))))))
      refine WL.len Try.underlying23 rfl rfl (WL.want rfl rfl rfl (?_))
      refine WL.neqF rfl rfl rfl (by first | rfl | omega | decide) ?_
      refine WL.pickF rfl rfl rfl (WL.nil (WX.then_normal (WC.cond_false rfl (WC.skip (WX.then_normal (WC.seq (WC.seq (?_))))))))
      refine WC.region (WL.assign rfl rfl (WL.nil (WX.then_normal (WC.block (?_)))))
      refine WC.loop (σ := Nat) (fun k => [(0, .slice ao rs.length c), (1, .slice ar rgt.length cr), (5, .slice am ms.length cm), (7, .slice (some ⟨g7, 0, none⟩) rgt.length (rgt.length + 3)), (9, .slice aa ys.length ca), (12, .slice ab oa.length cb), (14, vi (k : Int))])
        (fun k w' => k ≤ oa.length ∧ C3 w.heap.size n1 w' 23 5 am cm ms ∧ RS (· < w.heap.size) w' ao c rs ∧ RSl (· < w.heap.size) w' eb ar cr rgt ∧ RSl (fun b => b = g7) w' eb (some ⟨g7, 0, none⟩) (rgt.length + 3) rgt ∧ RSl (fun _ => True) w' eb aa ca ys ∧ RSl (fun _ => True) w' eb ab cb oa ∧ Chg Nob w w') (fun k => oa.length - k) 0 ⟨rfl, rfl, rfl, rfl, rfl, rfl, rfl, trivial⟩ ⟨Nat.zero_le _, hC, h, hr, hq, hra, hrb, hw⟩ ?_
      clear hC h hr hq hra hrb hw
      rintro k w14 ⟨hk, hC, h, hr, hq, hra, hrb, hw⟩
      refine WC.seq (WC.seq (WC.region (WL.move rfl rfl (WL.move rfl rfl (WL.len Try.underlying23 rfl rfl (?_))))))
      refine WL.lss? rfl rfl rfl (fun h93 => ?_) (fun h93 => ?_)
      ·
        refine WL.nil (WX.then_normal (WC.cond_true rfl (WC.skip (WX.then_normal (WC.seq (WC.block (WC.seq (?_))))))))
        obtain ⟨y, hy⟩ : ∃ y, ys[k]? = some y := ⟨_, List.getElem?_eq_getElem (by omega)⟩
        obtain ⟨z, hz⟩ : ∃ z, oa[k]? = some z := ⟨_, List.getElem?_eq_getElem (by omega)⟩
        have hyz : y ^^^ 0x55 = z := by
          have h1 := hyv k (by omega)
          rw [if_pos (by omega), List.getD_eq_getElem?_getD, List.getD_eq_getElem?_getD, hy, hz] at h1
          have h2 : y = z ^^^ 0x55 := h1
          rw [h2, x55]
        obtain ⟨ya, yo, hya⟩ := hra.place hy
        obtain ⟨za, zo, hza⟩ := hrb.place hz
        refine WC.draw (Nob) [0, 1, 2, 3, 4, 5, 6, 7, 8, 9] [] mixed rfl rfl (fun wd_1 kd_1 zd_1 => ?_)
        have zs_kd_1 := kd_1.size
        replace hC := hC.pure kd_1
        replace h := h.pure kd_1
        replace hr := hr.pure kd_1
        replace hq := hq.pure kd_1
        replace hra := hra.pure kd_1
        replace hrb := hrb.pure kd_1
        replace hw := hw.pure kd_1
        apply DQ.step (E' := [(9, _)])
        case ho => rfl
        case hs => exact ⟨rfl, trivial⟩
        case hk => rfl
        case h1 =>
          intro wq_2 kq_2
          refine WL.move rfl rfl (?_)
          refine WL.nil ?_
          exact WX.one ⟨rfl, by first | exact Chg.refl _ _ | assumption⟩
        apply DQ.step (E' := [(14, _)])
        case ho => rfl
        case hs => exact ⟨rfl, trivial⟩
        case hk => rfl
        case h1 =>
          intro wq_3 kq_3
          refine WL.move rfl rfl (?_)
          refine WL.nil ?_
          exact WX.one ⟨rfl, by first | exact Chg.refl _ _ | assumption⟩
        apply DQ.step (E' := [(96, _), (97, _)])
        case ho => rfl
        case hs => exact ⟨rfl, rfl, trivial⟩
        case hk => rfl
        case h1 =>
          intro wq_4 kq_4
          have zs_kq_4 := kq_4.size
          replace hC := hC.pure kq_4
          replace h := h.pure kq_4
          replace hr := hr.pure kq_4
          replace hq := hq.pure kq_4
          replace hra := hra.pure kq_4
          replace hrb := hrb.pure kq_4
          replace hw := hw.pure kq_4
          have hI := hra
          rw [hya] at hI
          refine WL.indexC (e := eb) hI Try.underlying23 Try.sizeOf5 (by show some (Value.slice aa _ _) = _; rw [hya]) rfl ⟨hy, rfl⟩ rfl ?_
          refine WL.nil ?_
          exact WX.one ⟨rfl, by first | exact Chg.refl _ _ | assumption⟩
        apply DQ.step (E' := [(98, _)])
        case ho => rfl
        case hs => exact ⟨rfl, trivial⟩
        case hk => rfl
        case h1 =>
          intro wq_5 kq_5
          have zs_kq_5 := kq_5.size
          replace hC := hC.pure kq_5
          replace h := h.pure kq_5
          replace hr := hr.pure kq_5
          replace hq := hq.pure kq_5
          replace hra := hra.pure kq_5
          replace hrb := hrb.pure kq_5
          replace hw := hw.pure kq_5
          have hI := hra
          rw [hya] at hI
          refine WL.load Try.isAgg5 rfl ((hI.cellsAt hy) 0 _ rfl) rfl ?_
          refine WL.nil ?_
          exact WX.one ⟨rfl, by first | exact Chg.refl _ _ | assumption⟩
        apply DQ.step (E' := [(99, _)])
        case ho => rfl
        case hs => exact ⟨rfl, trivial⟩
        case hk => rfl
        case h1 =>
          intro wq_6 kq_6
          refine WL.num rfl rfl (n_xor8 _ _ _ 85) rfl (?_)
          refine WL.nil ?_
          exact WX.one ⟨rfl, by first | exact Chg.refl _ _ | assumption⟩
        apply DQ.step (E' := [(12, _)])
        case ho => rfl
        case hs => exact ⟨rfl, trivial⟩
        case hk => rfl
        case h1 =>
          intro wq_7 kq_7
          refine WL.move rfl rfl (?_)
          refine WL.nil ?_
          exact WX.one ⟨rfl, by first | exact Chg.refl _ _ | assumption⟩
        apply DQ.step (E' := [(14, _)])
        case ho => rfl
        case hs => exact ⟨rfl, trivial⟩
        case hk => rfl
        case h1 =>
          intro wq_8 kq_8
          refine WL.move rfl rfl (?_)
          refine WL.nil ?_
          exact WX.one ⟨rfl, by first | exact Chg.refl _ _ | assumption⟩
        apply DQ.step (E' := [(101, _), (102, _)])
        case ho => rfl
        case hs => exact ⟨rfl, rfl, trivial⟩
        case hk => rfl
        case h1 =>
          intro wq_9 kq_9
          have zs_kq_9 := kq_9.size
          replace hC := hC.pure kq_9
          replace h := h.pure kq_9
          replace hr := hr.pure kq_9
          replace hq := hq.pure kq_9
          replace hra := hra.pure kq_9
          replace hrb := hrb.pure kq_9
          replace hw := hw.pure kq_9
          have hI := hrb
          rw [hza] at hI
          refine WL.indexC (e := eb) hI Try.underlying23 Try.sizeOf5 (by show some (Value.slice ab _ _) = _; rw [hza]) rfl ⟨hz, rfl⟩ rfl ?_
          refine WL.nil ?_
          exact WX.one ⟨rfl, by first | exact Chg.refl _ _ | assumption⟩
        apply DQ.step (E' := [(103, _)])
        case ho => rfl
        case hs => exact ⟨rfl, trivial⟩
        case hk => rfl
        case h1 =>
          intro wq_10 kq_10
          have zs_kq_10 := kq_10.size
          replace hC := hC.pure kq_10
          replace h := h.pure kq_10
          replace hr := hr.pure kq_10
          replace hq := hq.pure kq_10
          replace hra := hra.pure kq_10
          replace hrb := hrb.pure kq_10
          replace hw := hw.pure kq_10
          have hI := hrb
          rw [hza] at hI
          refine WL.load Try.isAgg5 rfl ((hI.cellsAt hz) 0 _ rfl) rfl ?_
          refine WL.nil ?_
          exact WX.one ⟨rfl, by first | exact Chg.refl _ _ | assumption⟩
        apply DQ.step (E' := [(100, _), (104, _)])
        case ho => rfl
        case hs => exact ⟨rfl, rfl, trivial⟩
        case hk => rfl
        case h1 =>
          intro wq_11 kq_11
          refine WL.neqF rfl rfl rfl (by rw [hyz]) ?_
          refine WL.nil ?_
          exact WX.one ⟨rfl, by first | exact Chg.refl _ _ | assumption⟩
        refine DQ.done (fun _ => ?_)
        refine DL.done (fun we_12 ke_12 => ?_)
        have zs_ke_12 := ke_12.size
        replace hC := hC.pure ke_12
        replace h := h.pure ke_12
        replace hr := hr.pure ke_12
        replace hq := hq.pure ke_12
        replace hra := hra.pure ke_12
        replace hrb := hrb.pure ke_12
        replace hw := hw.pure ke_12
        refine WX.then_normal (WC.cond_false rfl (WC.skip (WX.block_normal (WX.then_normal (WC.region (WL.move rfl rfl (WL.add64 rfl rfl (by first | omega | (constructor <;> omega)) rfl (?_))))))))
        refine WL.assign rfl rfl (WL.nil (?_))
        first
          | exact WX.loop_next (i + 1, a15, c15, w15.heap.size, ms ++ [⟨some ⟨g5, 0, none⟩, r.xs.length + 3, r.xs⟩]) ⟨rfl, rfl, rfl, rfl, trivial⟩ ⟨⟨by show i + 1 ≤ _; omega, by show i + 1 ≤ 9; omega⟩, ⟨by show (ms ++ [_]).length = _; simp [hml], fun j r' z hr' hz => (by
              rcases get_snoc hz with h1 | ⟨h1, h2⟩
              ·
                exact hms j r' z hr' h1
              ·
                rw [h1, hml, hri] at hr'
                injection hr' with hr'
                rw [h2, ← hr'])⟩, hC15, ⟨hz15, by show w15.heap.size ≤ _; omega⟩, h, hr, hw⟩ (by show 9 - (i + 1) < 9 - i; omega)
          | exact WX.loop_next (i2 + 1, ys.set i2 (y ^^^ 0x55)) ⟨rfl, rfl, rfl, rfl, rfl, by show _ = some (Value.slice aa (ys.set i2 (y ^^^ 0x55)).length ca); rw [List.length_set]; rfl, rfl, rfl, trivial⟩ ⟨by show i2 + 1 ≤ _; omega, ⟨by show (ys.set _ _).length = _; rw [List.length_set]; exact hyl, fun j hj => (by
              show (ys.set i2 (y ^^^ 0x55)).getD j 0 = if j < i2 + 1 then _ else _
              rw [List.getD_eq_getElem?_getD, List.getElem?_set]
              by_cases e : i2 = j
              ·
                subst e
                have h1 := hyv i2 hj
                rw [if_neg (Nat.lt_irrefl _), List.getD_eq_getElem?_getD, hy] at h1
                rw [if_pos rfl, if_pos (by omega), if_pos (by omega), ← h1]
                rfl
              ·
                rw [if_neg e, ← List.getD_eq_getElem?_getD, hyv j hj]
                by_cases e2 : j < i2
                ·
                  rw [if_pos e2, if_pos (by omega)]
                ·
                  rw [if_neg e2, if_neg (by omega)])⟩, hO12, hC, h, hr, hq, hF, hw⟩ (by show oa.length - (i2 + 1) < oa.length - i2; omega)
          | exact WX.loop_next (k + 1) ⟨rfl, rfl, rfl, rfl, rfl, rfl, rfl, trivial⟩ ⟨by omega, hC, h, hr, hq, hra, hrb, hw⟩ (by omega)
          | exact WX.loop_next (k4 + 1) ⟨rfl, rfl, rfl, rfl, rfl, rfl, rfl, trivial⟩ ⟨⟨by omega, by omega⟩, hq2, hC, h, hr, hq, hw⟩ (by omega)
          | exact WX.loop_next (k3 + 1) ⟨rfl, rfl, rfl, rfl, rfl, trivial⟩ ⟨by omega, hC, h, hr, hq, hw⟩ (by omega)
      ·
        refine WL.nil (WX.then_normal (WC.cond_false rfl (WC.exit (WX.then_exit (WX.then_exit (WX.block_here (WX.then_normal (?_))))))))
        refine WC.seq (WC.seq (WC.region (WL.assign rfl rfl (WL.nil (WX.then_normal (WC.block (?_)))))))
        refine WC.loop (σ := Nat) (fun k => [(0, .slice ao rs.length c), (1, .slice ar rgt.length cr), (5, .slice am ms.length cm), (7, .slice (some ⟨g7, 0, none⟩) rgt.length (rgt.length + 3)), (15, vi (k : Int))])
          (fun k w' => k ≤ ms.length ∧ C3 w.heap.size n1 w' 23 5 am cm ms ∧ RS (· < w.heap.size) w' ao c rs ∧ RSl (· < w.heap.size) w' eb ar cr rgt ∧ RSl (fun b => b = g7) w' eb (some ⟨g7, 0, none⟩) (rgt.length + 3) rgt ∧ Chg Nob w w') (fun k => ms.length - k) 0 ⟨rfl, rfl, rfl, rfl, rfl, trivial⟩ ⟨Nat.zero_le _, hC, h, hr, hq, hw⟩ ?_
        clear hC h hr hq hw hra hrb
        rintro k3 w14 ⟨hk3, hC, h, hr, hq, hw⟩
        refine WC.seq (WC.seq (WC.region (WL.move rfl rfl (WL.move rfl rfl (WL.len Try.underlying22 rfl rfl (?_))))))
        refine WL.lss? rfl rfl rfl (fun h109 => ?_) (fun h109 => ?_)
        ·
          refine WL.nil (WX.then_normal (WC.cond_true rfl (WC.skip (WX.then_normal (WC.seq (WC.block (WC.seq (?_))))))))
          obtain ⟨z, hz⟩ : ∃ z, ms[k3]? = some z := ⟨_, List.getElem?_eq_getElem (by omega)⟩
          obtain ⟨r, hrk⟩ : ∃ r, rs[k3]? = some r := ⟨_, List.getElem?_eq_getElem (by omega)⟩
          have hzr := hms k3 r z hrk hz
          have hzm := List.mem_of_getElem? hz
          have hzl := hmsl z hzm
          have hcap := (hC.full hzm).2
          obtain ⟨mb, mo, hmo⟩ := hC.outer.rsl.place hz
          obtain ⟨rb, ro, hro⟩ := h.outer.place hrk
          obtain ⟨gz, hgz, -, -, -, -⟩ := hC.inner z hzm
          refine WC.draw (Nob) [0, 1, 2, 3, 4, 5, 6, 7, 8, 9, 10] [] mixed rfl rfl (fun wd_1 kd_1 zd_1 => ?_)
          have zs_kd_1 := kd_1.size
          replace hC := hC.pure kd_1
          replace h := h.pure kd_1
          replace hr := hr.pure kd_1
          replace hq := hq.pure kd_1
          replace hw := hw.pure kd_1
          apply DQ.step (E' := [(5, _)])
          case ho => rfl
          case hs => exact ⟨rfl, trivial⟩
          case hk => rfl
          case h1 =>
            intro wq_2 kq_2
            refine WL.move rfl rfl (?_)
            refine WL.nil ?_
            exact WX.one ⟨rfl, by first | exact Chg.refl _ _ | assumption⟩
          apply DQ.step (E' := [(15, _)])
          case ho => rfl
          case hs => exact ⟨rfl, trivial⟩
          case hk => rfl
          case h1 =>
            intro wq_3 kq_3
            refine WL.move rfl rfl (?_)
            refine WL.nil ?_
            exact WX.one ⟨rfl, by first | exact Chg.refl _ _ | assumption⟩
          apply DQ.step (E' := [(112, _), (113, _)])
          case ho => rfl
          case hs => exact ⟨rfl, rfl, trivial⟩
          case hk => rfl
          case h1 =>
            intro wq_4 kq_4
            have zs_kq_4 := kq_4.size
            replace hC := hC.pure kq_4
            replace h := h.pure kq_4
            replace hr := hr.pure kq_4
            replace hq := hq.pure kq_4
            replace hw := hw.pure kq_4
            have hO := hC.outer.rsl
            rw [hmo] at hO
            refine WL.indexC (e := erow) hO Try.underlying22 Try.sizeOf23 (by show some (Value.slice am _ _) = _; rw [hmo]) rfl ⟨hz, rfl⟩ rfl ?_
            refine WL.nil ?_
            exact WX.one ⟨rfl, by first | exact Chg.refl _ _ | assumption⟩
          apply DQ.step (E' := [(114, _)])
          case ho => rfl
          case hs => exact ⟨rfl, trivial⟩
          case hk => rfl
          case h1 =>
            intro wq_5 kq_5
            have zs_kq_5 := kq_5.size
            replace hC := hC.pure kq_5
            replace h := h.pure kq_5
            replace hr := hr.pure kq_5
            replace hq := hq.pure kq_5
            replace hw := hw.pure kq_5
            have hO := hC.outer.rsl
            rw [hmo] at hO
            refine WL.load Try.isAgg23 rfl ((hO.cellsAt hz) 0 _ rfl) rfl ?_
            refine WL.nil ?_
            exact WX.one ⟨rfl, by first | exact Chg.refl _ _ | assumption⟩
          apply DQ.step (E' := [(5, _)])
          case ho => rfl
          case hs => exact ⟨rfl, trivial⟩
          case hk => rfl
          case h1 =>
            intro wq_6 kq_6
            refine WL.move rfl rfl (?_)
            refine WL.nil ?_
            exact WX.one ⟨rfl, by first | exact Chg.refl _ _ | assumption⟩
          apply DQ.step (E' := [(15, _)])
          case ho => rfl
          case hs => exact ⟨rfl, trivial⟩
          case hk => rfl
          case h1 =>
            intro wq_7 kq_7
            refine WL.move rfl rfl (?_)
            refine WL.nil ?_
            exact WX.one ⟨rfl, by first | exact Chg.refl _ _ | assumption⟩
          apply DQ.step (E' := [(116, _), (117, _)])
          case ho => rfl
          case hs => exact ⟨rfl, rfl, trivial⟩
          case hk => rfl
          case h1 =>
            intro wq_8 kq_8
            have zs_kq_8 := kq_8.size
            replace hC := hC.pure kq_8
            replace h := h.pure kq_8
            replace hr := hr.pure kq_8
            replace hq := hq.pure kq_8
            replace hw := hw.pure kq_8
            have hO := hC.outer.rsl
            rw [hmo] at hO
            refine WL.indexC (e := erow) hO Try.underlying22 Try.sizeOf23 (by show some (Value.slice am _ _) = _; rw [hmo]) rfl ⟨hz, rfl⟩ rfl ?_
            refine WL.nil ?_
            exact WX.one ⟨rfl, by first | exact Chg.refl _ _ | assumption⟩
          apply DQ.step (E' := [(118, _)])
          case ho => rfl
          case hs => exact ⟨rfl, trivial⟩
          case hk => rfl
          case h1 =>
            intro wq_9 kq_9
            have zs_kq_9 := kq_9.size
            replace hC := hC.pure kq_9
            replace h := h.pure kq_9
            replace hr := hr.pure kq_9
            replace hq := hq.pure kq_9
            replace hw := hw.pure kq_9
            have hO := hC.outer.rsl
            rw [hmo] at hO
            refine WL.load Try.isAgg23 rfl ((hO.cellsAt hz) 0 _ rfl) rfl ?_
            refine WL.nil ?_
            exact WX.one ⟨rfl, by first | exact Chg.refl _ _ | assumption⟩
          apply DQ.step (E' := [(119, _)])
          case ho => rfl
          case hs => exact ⟨rfl, trivial⟩
          case hk => rfl
          case h1 =>
            intro wq_10 kq_10
            have zs_kq_10 := kq_10.size
            replace hC := hC.pure kq_10
            replace h := h.pure kq_10
            replace hr := hr.pure kq_10
            replace hq := hq.pure kq_10
            replace hw := hw.pure kq_10
            refine WL.cap Try.underlying23 rfl rfl ?_
            refine WL.nil ?_
            exact WX.one ⟨rfl, by first | exact Chg.refl _ _ | assumption⟩
          apply DQ.step (E' := [(115, _), (120, _)])
          case ho => rfl
          case hs => exact ⟨rfl, rfl, trivial⟩
          case hk => rfl
          case h1 =>
            intro wq_11 kq_11
            have zs_kq_11 := kq_11.size
            replace hC := hC.pure kq_11
            replace h := h.pure kq_11
            replace hr := hr.pure kq_11
            replace hq := hq.pure kq_11
            replace hw := hw.pure kq_11
            refine WL.sliceN (l := 0) (h := z.cap) (k := .i64) Try.underlying23 Try.sizeOf5 rfl (.inr ⟨rfl, rfl⟩) (.inl ⟨rfl, Nat.le_refl _⟩) (Nat.zero_le _) rfl ?_
            refine WL.nil ?_
            exact WX.one ⟨rfl, by first | exact Chg.refl _ _ | assumption⟩
          apply DQ.step (E' := [(121, _)])
          case ho => rfl
          case hs => exact ⟨rfl, trivial⟩
          case hk => rfl
          case h1 =>
            intro wq_12 kq_12
            refine WL.assign rfl rfl (?_)
            refine WL.nil ?_
            exact WX.one ⟨rfl, by first | exact Chg.refl _ _ | assumption⟩
          refine DQ.done (fun _ => ?_)
          refine DL.done (fun we_13 ke_13 => ?_)
          have zs_ke_13 := ke_13.size
          replace hC := hC.pure ke_13
          replace h := h.pure ke_13
          replace hr := hr.pure ke_13
          replace hq := hq.pure ke_13
          replace hw := hw.pure ke_13
          refine WX.then_normal (WC.seq (WC.seq (?_)))
          refine WC.draw (Nob) [0, 1, 2, 3, 4, 5, 6, 7, 8, 9, 10] [] mixed rfl rfl (fun wd_14 kd_14 zd_14 => ?_)
          have zs_kd_14 := kd_14.size
          replace hC := hC.pure kd_14
          replace h := h.pure kd_14
          replace hr := hr.pure kd_14
          replace hq := hq.pure kd_14
          replace hw := hw.pure kd_14
          apply DQ.step (E' := [(5, _)])
          case ho => rfl
          case hs => exact ⟨rfl, trivial⟩
          case hk => rfl
          case h1 =>
            intro wq_15 kq_15
            refine WL.move rfl rfl (?_)
            refine WL.nil ?_
            exact WX.one ⟨rfl, by first | exact Chg.refl _ _ | assumption⟩
          apply DQ.step (E' := [(15, _)])
          case ho => rfl
          case hs => exact ⟨rfl, trivial⟩
          case hk => rfl
          case h1 =>
            intro wq_16 kq_16
            refine WL.move rfl rfl (?_)
            refine WL.nil ?_
            exact WX.one ⟨rfl, by first | exact Chg.refl _ _ | assumption⟩
          apply DQ.step (E' := [(122, _), (123, _)])
          case ho => rfl
          case hs => exact ⟨rfl, rfl, trivial⟩
          case hk => rfl
          case h1 =>
            intro wq_17 kq_17
            have zs_kq_17 := kq_17.size
            replace hC := hC.pure kq_17
            replace h := h.pure kq_17
            replace hr := hr.pure kq_17
            replace hq := hq.pure kq_17
            replace hw := hw.pure kq_17
            have hO := hC.outer.rsl
            rw [hmo] at hO
            refine WL.indexC (e := erow) hO Try.underlying22 Try.sizeOf23 (by show some (Value.slice am _ _) = _; rw [hmo]) rfl ⟨hz, rfl⟩ rfl ?_
            refine WL.nil ?_
            exact WX.one ⟨rfl, by first | exact Chg.refl _ _ | assumption⟩
          apply DQ.step (E' := [(124, _)])
          case ho => rfl
          case hs => exact ⟨rfl, trivial⟩
          case hk => rfl
          case h1 =>
            intro wq_18 kq_18
            have zs_kq_18 := kq_18.size
            replace hC := hC.pure kq_18
            replace h := h.pure kq_18
            replace hr := hr.pure kq_18
            replace hq := hq.pure kq_18
            replace hw := hw.pure kq_18
            have hO := hC.outer.rsl
            rw [hmo] at hO
            refine WL.load Try.isAgg23 rfl ((hO.cellsAt hz) 0 _ rfl) rfl ?_
            refine WL.nil ?_
            exact WX.one ⟨rfl, by first | exact Chg.refl _ _ | assumption⟩
          apply DQ.step (E' := [(125, _)])
          case ho => rfl
          case hs => exact ⟨rfl, trivial⟩
          case hk => rfl
          case h1 =>
            intro wq_19 kq_19
            have zs_kq_19 := kq_19.size
            replace hC := hC.pure kq_19
            replace h := h.pure kq_19
            replace hr := hr.pure kq_19
            replace hq := hq.pure kq_19
            replace hw := hw.pure kq_19
            have hzz := hC.at hzm
            refine WL.toStr Try.underlying23 Try.underlying5 Try.underlying9 hzz rfl rfl ?_
            refine WL.nil ?_
            exact WX.one ⟨rfl, by first | exact Chg.refl _ _ | assumption⟩
          apply DQ.step (E' := [(0, _)])
          case ho => rfl
          case hs => exact ⟨rfl, trivial⟩
          case hk => rfl
          case h1 =>
            intro wq_20 kq_20
            refine WL.move rfl rfl (?_)
            refine WL.nil ?_
            exact WX.one ⟨rfl, by first | exact Chg.refl _ _ | assumption⟩
          apply DQ.step (E' := [(15, _)])
          case ho => rfl
          case hs => exact ⟨rfl, trivial⟩
          case hk => rfl
          case h1 =>
            intro wq_21 kq_21
            refine WL.move rfl rfl (?_)
            refine WL.nil ?_
            exact WX.one ⟨rfl, by first | exact Chg.refl _ _ | assumption⟩
          apply DQ.step (E' := [(127, _), (128, _)])
          case ho => rfl
          case hs => exact ⟨rfl, rfl, trivial⟩
          case hk => rfl
          case h1 =>
            intro wq_22 kq_22
            have zs_kq_22 := kq_22.size
            replace hC := hC.pure kq_22
            replace h := h.pure kq_22
            replace hr := hr.pure kq_22
            replace hq := hq.pure kq_22
            replace hw := hw.pure kq_22
            have hO := h.outer
            rw [hro] at hO
            refine WL.indexC (e := erow) hO Try.underlying22 Try.sizeOf23 (by show some (Value.slice ao _ _) = _; rw [hro]) rfl ⟨hrk, rfl⟩ rfl ?_
            refine WL.nil ?_
            exact WX.one ⟨rfl, by first | exact Chg.refl _ _ | assumption⟩
          apply DQ.step (E' := [(129, _)])
          case ho => rfl
          case hs => exact ⟨rfl, trivial⟩
          case hk => rfl
          case h1 =>
            intro wq_23 kq_23
            have zs_kq_23 := kq_23.size
            replace hC := hC.pure kq_23
            replace h := h.pure kq_23
            replace hr := hr.pure kq_23
            replace hq := hq.pure kq_23
            replace hw := hw.pure kq_23
            have hO := h.outer
            rw [hro] at hO
            refine WL.load Try.isAgg23 rfl ((hO.cellsAt hrk) 0 _ rfl) rfl ?_
            refine WL.nil ?_
            exact WX.one ⟨rfl, by first | exact Chg.refl _ _ | assumption⟩
          apply DQ.step (E' := [(130, _)])
          case ho => rfl
          case hs => exact ⟨rfl, trivial⟩
          case hk => rfl
          case h1 =>
            intro wq_24 kq_24
            have zs_kq_24 := kq_24.size
            replace hC := hC.pure kq_24
            replace h := h.pure kq_24
            replace hr := hr.pure kq_24
            replace hq := hq.pure kq_24
            replace hw := hw.pure kq_24
            have hrr := h.at hrk
            refine WL.toStr Try.underlying23 Try.underlying5 Try.underlying9 hrr rfl rfl ?_
            refine WL.nil ?_
            exact WX.one ⟨rfl, by first | exact Chg.refl _ _ | assumption⟩
          apply DQ.step (E' := [(126, _), (131, _)])
          case ho => rfl
          case hs => exact ⟨rfl, rfl, trivial⟩
          case hk => rfl
          case h1 =>
            intro wq_25 kq_25
            refine WL.sneqF rfl rfl rfl (bytes_eq.2 hzr) ?_
            refine WL.nil ?_
            exact WX.one ⟨rfl, by first | exact Chg.refl _ _ | assumption⟩
          refine DQ.done (fun _ => ?_)
          refine DL.done (fun we_26 ke_26 => ?_)
          have zs_ke_26 := ke_26.size
          replace hC := hC.pure ke_26
          replace h := h.pure ke_26
          replace hr := hr.pure ke_26
          replace hq := hq.pure ke_26
          replace hw := hw.pure ke_26
          refine WX.then_normal (WC.cond_false rfl (WC.skip (WX.then_normal (WC.seq (WC.region (WL.move rfl rfl (WL.move rfl rfl (?_))))))))
          refine WL.indexT (e := erow) Try.underlying22 Try.sizeOf23 hC.outer.rsl rfl rfl ⟨hz, rfl⟩ rfl ?_
          intro bb3 oo3 hcc3
          refine WL.load Try.isAgg23 rfl (hcc3 0 _ rfl) rfl ?_
          refine WL.len Try.underlying23 rfl rfl (WL.assign rfl rfl (WL.nil (WX.then_normal (WC.block (?_)))))
          have hl5 : (z.xs ++ [0, 0, 0]).length = z.xs.length + 3 := by simp
          have hcut : cutAt z.ao z.cap 0 1 = z.ao := by rw [hgz]; unfold cutAt; split <;> simp [Addr.add_lit]
          have hq2 := (hC.full hzm).1
          refine WC.loop (σ := Nat) (fun k => [(0, .slice ao rs.length c), (1, .slice ar rgt.length cr), (5, .slice am ms.length cm), (7, .slice (some ⟨g7, 0, none⟩) rgt.length (rgt.length + 3)), (15, vi (k3 : Int)), (16, .slice z.ao (z.xs ++ [0, 0, 0]).length z.cap), (17, vi (k : Int))])
            (fun k w' => (z.xs.length ≤ k ∧ k ≤ z.xs.length + 3) ∧ RSl (fun x => w.heap.size ≤ x ∧ x < n1) w' eb z.ao z.cap (z.xs ++ [0, 0, 0]) ∧ C3 w.heap.size n1 w' 23 5 am cm ms ∧ RS (· < w.heap.size) w' ao c rs ∧ RSl (· < w.heap.size) w' eb ar cr rgt ∧ RSl (fun b => b = g7) w' eb (some ⟨g7, 0, none⟩) (rgt.length + 3) rgt ∧ Chg Nob w w') (fun k => z.xs.length + 3 - k) z.xs.length ⟨rfl, rfl, rfl, rfl, rfl, by show some (Value.slice (cutAt z.ao z.cap 0 1) (z.cap - 0) (z.cap - 0)) = _; rw [hcut, hl5, Nat.sub_zero, ← hcap], rfl, trivial⟩ ⟨⟨Nat.le_refl _, by omega⟩, hq2, hC, h, hr, hq, hw⟩ ?_
          clear hC h hr hq hw hq2
          rintro k4 w15 ⟨⟨hk4, hk5⟩, hq2, hC, h, hr, hq, hw⟩
          refine WC.seq (WC.seq (WC.region (WL.move rfl rfl (WL.move rfl rfl (WL.len Try.underlying23 rfl rfl (?_))))))
          refine WL.lss? rfl rfl rfl (fun h141 => ?_) (fun h141 => ?_)
          ·
            refine WL.nil (WX.then_normal (WC.cond_true rfl (WC.skip (WX.then_normal (WC.seq (WC.block (WC.seq (?_))))))))
            refine WC.region (WL.move rfl rfl (WL.move rfl rfl (?_)))
            have hzq : (z.xs ++ [0, 0, 0])[k4]? = some 0 := by
              rw [List.getElem?_append_right hk4]
              have h3 : k4 - z.xs.length = 0 ∨ k4 - z.xs.length = 1 ∨ k4 - z.xs.length = 2 := by omega
              rcases h3 with h3 | h3 | h3 <;> rw [h3] <;> rfl
            refine WL.indexT (e := eb) Try.underlying23 Try.sizeOf5 hq2 rfl rfl ⟨hzq, rfl⟩ rfl ?_
            intro bb4 oo4 hcc4
            refine WL.load Try.isAgg5 rfl (hcc4 0 _ rfl) rfl ?_
            refine WL.neqF rfl rfl rfl (by first | rfl | omega | decide) ?_
            refine WL.nil (WX.then_normal (WC.cond_false rfl (WC.skip (WX.block_normal (WX.then_normal (WC.region (WL.move rfl rfl (?_))))))))
            refine WL.add64 rfl rfl (by first | omega | (constructor <;> omega)) rfl (WL.assign rfl rfl (WL.nil (?_)))
            first
              | exact WX.loop_next (i + 1, a15, c15, w15.heap.size, ms ++ [⟨some ⟨g5, 0, none⟩, r.xs.length + 3, r.xs⟩]) ⟨rfl, rfl, rfl, rfl, trivial⟩ ⟨⟨by show i + 1 ≤ _; omega, by show i + 1 ≤ 9; omega⟩, ⟨by show (ms ++ [_]).length = _; simp [hml], fun j r' z hr' hz => (by
                  rcases get_snoc hz with h1 | ⟨h1, h2⟩
                  ·
                    exact hms j r' z hr' h1
                  ·
                    rw [h1, hml, hri] at hr'
                    injection hr' with hr'
                    rw [h2, ← hr'])⟩, hC15, ⟨hz15, by show w15.heap.size ≤ _; omega⟩, h, hr, hw⟩ (by show 9 - (i + 1) < 9 - i; omega)
              | exact WX.loop_next (i2 + 1, ys.set i2 (y ^^^ 0x55)) ⟨rfl, rfl, rfl, rfl, rfl, by show _ = some (Value.slice aa (ys.set i2 (y ^^^ 0x55)).length ca); rw [List.length_set]; rfl, rfl, rfl, trivial⟩ ⟨by show i2 + 1 ≤ _; omega, ⟨by show (ys.set _ _).length = _; rw [List.length_set]; exact hyl, fun j hj => (by
                  show (ys.set i2 (y ^^^ 0x55)).getD j 0 = if j < i2 + 1 then _ else _
                  rw [List.getD_eq_getElem?_getD, List.getElem?_set]
                  by_cases e : i2 = j
                  ·
                    subst e
                    have h1 := hyv i2 hj
                    rw [if_neg (Nat.lt_irrefl _), List.getD_eq_getElem?_getD, hy] at h1
                    rw [if_pos rfl, if_pos (by omega), if_pos (by omega), ← h1]
                    rfl
                  ·
                    rw [if_neg e, ← List.getD_eq_getElem?_getD, hyv j hj]
                    by_cases e2 : j < i2
                    ·
                      rw [if_pos e2, if_pos (by omega)]
                    ·
                      rw [if_neg e2, if_neg (by omega)])⟩, hO12, hC, h, hr, hq, hF, hw⟩ (by show oa.length - (i2 + 1) < oa.length - i2; omega)
              | exact WX.loop_next (k + 1) ⟨rfl, rfl, rfl, rfl, rfl, rfl, rfl, trivial⟩ ⟨by omega, hC, h, hr, hq, hra, hrb, hw⟩ (by omega)
              | exact WX.loop_next (k4 + 1) ⟨rfl, rfl, rfl, rfl, rfl, rfl, rfl, trivial⟩ ⟨⟨by omega, by omega⟩, hq2, hC, h, hr, hq, hw⟩ (by omega)
              | exact WX.loop_next (k3 + 1) ⟨rfl, rfl, rfl, rfl, rfl, trivial⟩ ⟨by omega, hC, h, hr, hq, hw⟩ (by omega)
          ·
            refine WL.nil (WX.then_normal (WC.cond_false rfl (WC.exit (WX.then_exit (WX.then_exit (WX.block_here (WX.block_normal (?_))))))))
            refine WX.then_normal (WC.region (WL.move rfl rfl (WL.add64 rfl rfl (by first | omega | (constructor <;> omega)) rfl (WL.assign rfl rfl (WL.nil (?_))))))
            first
              | exact WX.loop_next (i + 1, a15, c15, w15.heap.size, ms ++ [⟨some ⟨g5, 0, none⟩, r.xs.length + 3, r.xs⟩]) ⟨rfl, rfl, rfl, rfl, trivial⟩ ⟨⟨by show i + 1 ≤ _; omega, by show i + 1 ≤ 9; omega⟩, ⟨by show (ms ++ [_]).length = _; simp [hml], fun j r' z hr' hz => (by
                  rcases get_snoc hz with h1 | ⟨h1, h2⟩
                  ·
                    exact hms j r' z hr' h1
                  ·
                    rw [h1, hml, hri] at hr'
                    injection hr' with hr'
                    rw [h2, ← hr'])⟩, hC15, ⟨hz15, by show w15.heap.size ≤ _; omega⟩, h, hr, hw⟩ (by show 9 - (i + 1) < 9 - i; omega)
              | exact WX.loop_next (i2 + 1, ys.set i2 (y ^^^ 0x55)) ⟨rfl, rfl, rfl, rfl, rfl, by show _ = some (Value.slice aa (ys.set i2 (y ^^^ 0x55)).length ca); rw [List.length_set]; rfl, rfl, rfl, trivial⟩ ⟨by show i2 + 1 ≤ _; omega, ⟨by show (ys.set _ _).length = _; rw [List.length_set]; exact hyl, fun j hj => (by
                  show (ys.set i2 (y ^^^ 0x55)).getD j 0 = if j < i2 + 1 then _ else _
                  rw [List.getD_eq_getElem?_getD, List.getElem?_set]
                  by_cases e : i2 = j
                  ·
                    subst e
                    have h1 := hyv i2 hj
                    rw [if_neg (Nat.lt_irrefl _), List.getD_eq_getElem?_getD, hy] at h1
                    rw [if_pos rfl, if_pos (by omega), if_pos (by omega), ← h1]
                    rfl
                  ·
                    rw [if_neg e, ← List.getD_eq_getElem?_getD, hyv j hj]
                    by_cases e2 : j < i2
                    ·
                      rw [if_pos e2, if_pos (by omega)]
                    ·
                      rw [if_neg e2, if_neg (by omega)])⟩, hO12, hC, h, hr, hq, hF, hw⟩ (by show oa.length - (i2 + 1) < oa.length - i2; omega)
              | exact WX.loop_next (k + 1) ⟨rfl, rfl, rfl, rfl, rfl, rfl, rfl, trivial⟩ ⟨by omega, hC, h, hr, hq, hra, hrb, hw⟩ (by omega)
              | exact WX.loop_next (k4 + 1) ⟨rfl, rfl, rfl, rfl, rfl, rfl, rfl, trivial⟩ ⟨⟨by omega, by omega⟩, hq2, hC, h, hr, hq, hw⟩ (by omega)
              | exact WX.loop_next (k3 + 1) ⟨rfl, rfl, rfl, rfl, rfl, trivial⟩ ⟨by omega, hC, h, hr, hq, hw⟩ (by omega)
        ·
          refine WL.nil (WX.then_normal (WC.cond_false rfl (WC.exit (WX.then_exit (WX.then_exit (WX.block_here (WX.then_normal (?_))))))))
          refine WC.seq (WC.region (WL.move rfl rfl (?_)))
          refine WL.toStr Try.underlying23 Try.underlying5 Try.underlying9 hq rfl rfl ?_
          refine WL.move rfl rfl (?_)
          refine WL.toStr Try.underlying23 Try.underlying5 Try.underlying9 hr rfl rfl ?_
          refine WL.seql rfl rfl rfl ?_
          refine WL.assign rfl rfl (WL.nil (WX.then_normal (WC.ret (?_))))
          refine WX.ret1 (.inl rfl) Try.results5 rfl ?_
          refine ⟨_, rfl, ?_, hw⟩
          rw [decide_eq_true rfl]
end Go.Proofs.Ytjdbjdgobhjbkaa
