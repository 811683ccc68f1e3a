import Derived.Test.YtgmkoieemmglpaaDz
import Derived.Test.YtgmkoieemmglpaaIb
namespace Go.Proofs.Ytgmkoieemmglpaa
open Go.RowKit Go.HL

/-! the plain course of a history -/
structure MX (t : Int) (i : Nat) (L : LA) (og : List Int) (sn : List (List Int)) (hd bi : List Int) (fl : List Bool) : Prop where
  hi : HI L og sn hd bi t
  hf : HF og sn hd fl
  fl : fl.length = bi.length
  z : bi.length ≤ i + 5 ∧ hd.length ≤ i + 5 ∧ sn.length ≤ i ∧ (allP L).length ≤ i ∧ 0 ≤ t ∧ t ≤ 101 + (i : Int)
  zo : og.length ≤ 4 ∧ ∀ V ∈ sn, V.length ≤ i + 5
structure PX (t : Int) (i : Nat) (L : LA) (og : List Int) (sn : List (List Int)) (hd bi : List Int) (fl : List Bool) (td : List PtV) : Prop where
  hi : HI L og sn hd bi t
  hn : ∀ (j : Nat) (b : Bool), fl[j]? = some b → ((b = true ∨ (j : Int) ∈ td.map (·.a)) ↔ ¬ Need sn.length (ver og sn hd) (j : Int))
  nd : (td.map (·.a)).Nodup
  tf : ∀ p ∈ td, 0 ≤ p.a ∧ fl[p.a.toNat]? = some false
  fl : fl.length = bi.length
  z : bi.length ≤ i + 6 ∧ hd.length ≤ i + 6 ∧ sn.length ≤ i + 1 ∧ (allP L).length ≤ i + 1 ∧ 0 ≤ t ∧ t ≤ 102 + (i : Int)
  zo : og.length ≤ 4 ∧ ∀ V ∈ sn, V.length ≤ i + 6
section
variable {t : Int} {i : Nat} {L L' : LA} {og hd bi : List Int} {sn : List (List Int)} {fl : List Bool} {td : List PtV}
theorem MX.skip (h : MX t i L og sn hd bi fl) : MX (t + 1) (i + 1) L og sn hd bi fl := ⟨h.hi.up, h.hf, h.fl, by have := h.z; omega, ⟨h.zo.1, fun V hV => by have := h.zo.2 V hV; omega⟩⟩
theorem MX.idle (h : MX t i L og sn hd bi fl) : PX (t + 1) i L og sn hd bi fl [] :=
  ⟨h.hi.up, fun j b hb => by simpa using h.hf j b hb, by simp, (fun p hp => by cases hp), h.fl, by have := h.z; omega, ⟨h.zo.1, fun V hV => by have := h.zo.2 V hV; omega⟩⟩
theorem MX.below (h : MX t i L og sn hd bi fl) : L.ahead L.snaps.length < t + 1 := by have := h.hi.last; omega
theorem MX.born (h : MX t i L og sn hd bi fl) : PX (t + 1) i L og sn (hd ++ [(bi.length : Int)]) (bi ++ [t + 1]) (fl ++ [false]) [] :=
  ⟨h.hi.up.born h.below, fun j b hb => by simpa using HF.born h.hi h.hf h.fl j b hb, by simp, (fun p hp => by cases hp), by simp [h.fl], by have := h.z; simp; omega, ⟨h.zo.1, fun V hV => by have := h.zo.2 V hV; omega⟩⟩
theorem MX.unset (h : MX t i L og sn hd bi fl) {n : Int} (hn : Need sn.length (ver og sn hd) n) : 0 ≤ n ∧ fl[n.toNat]? = some false := by
  have h1 := h.hi.inv.lt hn
  have h2 : n.toNat < fl.length := by have := h.fl; omega
  refine ⟨h1.1, ?_⟩
  have h3 := h.hf n.toNat _ (List.getElem?_eq_getElem h2)
  rw [show ((n.toNat : Nat) : Int) = n from by omega] at h3
  rw [List.getElem?_eq_getElem h2]
  congr 1
  cases hb : fl[n.toNat] with
  | false => rfl
  | true => exact absurd hn (h3.1 hb)
theorem MX.kill (h : MX t i L og sn hd bi fl) {k : Nat} {x : Int} (hx : hd[k]? = some x) {b : Bool} {e : Int} (hK : KillR L ⟨x, 0, birth bi x, ByteArray.empty⟩ L' b e) :
    e = 0 ∧ PX (t + 1) i L' og sn (hd.take k ++ hd.drop (k + 1)) bi fl (if b = true then [⟨x, 0, birth bi x, ByteArray.empty⟩] else []) := by
  have hR := h.hi.right
  have hxm : x ∈ hd := List.mem_of_getElem? hx
  have hnx : Need sn.length (ver og sn hd) x := (need_iff og sn hd x).2 (.inl hxm)
  have hcases : e = 0 ∧ ((birth bi x ≤ L.ahead L.snaps.length ∧ L' = { L with dead := L.dead ++ [⟨x, 0, birth bi x, ByteArray.empty⟩] } ∧ b = false) ∨ (L.ahead L.snaps.length < birth bi x ∧ L' = L ∧ b = true)) := by
    by_cases hb : birth bi x ≤ L.ahead L.snaps.length
    · obtain ⟨h1, h2, h3⟩ := hK.keep hR hb
      exact ⟨h3, .inl ⟨hb, h1, h2⟩⟩
    · obtain ⟨h1, h2, h3⟩ := hK.free hR (by show L.ahead _ < birth bi x; omega)
      exact ⟨h3, .inr ⟨by omega, h1, h2⟩⟩
  obtain ⟨he, hc⟩ := hcases
  obtain ⟨h1, h2⟩ := h.hi.kill hx L' b hc
  have hlen : (hd.take k ++ hd.drop (k + 1)).length ≤ hd.length := by simp; omega
  have hall : (allP L').length ≤ (allP L).length + 1 := by
    rcases hc with ⟨_, h3, _⟩ | ⟨_, h3, _⟩
    · rw [h3, kill_all]; simp
    · rw [h3]; omega
  refine ⟨he, h1.up, fun j b0 hb => ?_, ?_, fun p hp => ?_, h.fl, by have := h.z; omega, ⟨h.zo.1, fun V hV => by have := h.zo.2 V hV; omega⟩⟩
  · rw [h2 j]
    have h3 := h.hf j b0 hb
    cases b with
    | false => simpa using h3
    | true =>
      simp only [if_true, List.map_cons, List.map_nil, List.mem_singleton, and_true]
      rw [h3]
      constructor
      · rintro (h4 | h4) ⟨h5, h6⟩
        · exact h4 h5
        · exact h6 h4
      · intro h4
        by_cases h5 : (j : Int) = x
        · exact .inr h5
        · exact .inl (fun h6 => h4 ⟨h6, h5⟩)
  · cases b <;> simp
  · cases b with
    | false => cases hp
    | true =>
      have : p = ⟨x, 0, birth bi x, ByteArray.empty⟩ := List.mem_singleton.1 hp
      rw [this]
      exact h.unset hnx
theorem MX.snap (h : MX t i L og sn hd bi fl) {e : Int} (hS : SnapR L (t + 1) L' e) : e = 0 ∧ PX (t + 1) i L' og (sn ++ [hd]) hd bi fl [] := by
  obtain ⟨h1, h2⟩ := hS.go h.hi.right h.below
  subst h1
  refine ⟨h2, h.hi.up.snap h.below, fun j b hb => ?_, by simp, (fun p hp => by cases hp), h.fl, ?_, h.zo.1, fun V hV => ?_⟩
  · rw [need_snap2]
    simpa using h.hf j b hb
  · have := h.z
    rw [snap_all]
    simp
    omega
  · rcases List.mem_append.1 hV with h3 | h3
    · have := h.zo.2 V h3; omega
    · have := h.z; rw [List.mem_singleton.1 h3]; omega
theorem MX.destroy (h : MX t i L og sn hd bi fl) {k : Nat} (hk : k < sn.length) {fr : List PtV} {e : Int} (hD : DestR L (k : Int) L' fr e) : e = 0 ∧ fr.length ≤ i ∧ PX (t + 1) i L' og (sn.take k ++ sn.drop (k + 1)) hd bi fl fr := by
  have hkL : k < L.snaps.length := by rw [h.hi.len]; exact hk
  obtain ⟨h1, h2, h3⟩ := hD.go h.hi.right ⟨by omega, by omega⟩
  rw [Int.toNat_natCast] at h1 h2
  subst h1; subst h2
  obtain ⟨h4, h5, h6, h7⟩ := h.hi.destroy hk
  have hperm := (allP_destroy L hkL).length_eq
  rw [List.length_append] at hperm
  refine ⟨h3, by have := h.z; omega, h4.up, fun j b hb => ?_, h6, fun p hp => h.unset (h7 p hp), h.fl, ?_, h.zo.1, fun V hV => ?_⟩
  · rw [h5 j, h.hf j b hb]
    constructor
    · rintro (h8 | h8) ⟨h9, h10⟩
      · exact h8 h9
      · exact h10 h8
    · intro h8
      by_cases h9 : (j : Int) ∈ (freeA L k).map (·.a)
      · exact .inr h9
      · exact .inl (fun h10 => h8 ⟨h10, h9⟩)
  · have := h.z
    have : (sn.take k ++ sn.drop (k + 1)).length ≤ sn.length := by simp; omega
    omega
  · have h8 : V ∈ sn := by
      rcases List.mem_append.1 hV with h1 | h1
      · exact List.mem_of_mem_take h1
      · exact List.mem_of_mem_drop h1
    have := h.zo.2 V h8
    omega
/-- the marks while those that are told are set -/
def Mk (fl : List Bool) (td : List PtV) (j : Nat) (fl2 : List Bool) : Prop := fl2.length = fl.length ∧ ∀ (m : Nat) (b : Bool), fl2[m]? = some b → ∃ b0, fl[m]? = some b0 ∧ (b = true ↔ b0 = true ∨ (m : Int) ∈ (td.take j).map (·.a))
theorem Mk.zero (fl : List Bool) (td : List PtV) : Mk fl td 0 fl := ⟨rfl, fun m b hb => ⟨b, hb, by simp⟩⟩
theorem Mk.at (h : PX t i L og sn hd bi fl td) {j : Nat} {fl2 : List Bool} (k : Mk fl td j fl2) {p : PtV} (hp : td[j]? = some p) : 0 ≤ p.a ∧ p.a.toNat < fl2.length ∧ fl2[p.a.toNat]? = some false := by
  obtain ⟨h1, h2⟩ := h.tf p (List.mem_of_getElem? hp)
  have h3 := (List.getElem?_eq_some_iff.1 h2).1
  have h4 : p.a.toNat < fl2.length := by rw [k.1]; exact h3
  refine ⟨h1, h4, ?_⟩
  obtain ⟨b0, h5, h6⟩ := k.2 _ _ (List.getElem?_eq_getElem h4)
  rw [h2] at h5
  injection h5 with h5
  rw [List.getElem?_eq_getElem h4]
  congr 1
  cases hb : fl2[p.a.toNat] with
  | false => rfl
  | true =>
    rcases h6.1 hb with h7 | h7
    · rw [← h5] at h7; cases h7
    · obtain ⟨q, hq, e⟩ := List.mem_map.1 h7
      obtain ⟨m, hm, rfl⟩ := List.getElem_of_mem hq
      rw [List.length_take] at hm
      rw [List.getElem_take] at e
      exact absurd e (by
        have := nodup_ne h.nd (List.getElem?_eq_getElem (show m < td.length by omega)) hp (by omega)
        intro e2
        exact this (by omega))
theorem Mk.step {j : Nat} {fl2 : List Bool} (k : Mk fl td j fl2) {p : PtV} (hp : td[j]? = some p) (h0 : 0 ≤ p.a) : Mk fl td (j + 1) (fl2.set p.a.toNat true) := by
  refine ⟨by rw [List.length_set]; exact k.1, fun m b hb => ?_⟩
  rw [List.getElem?_set] at hb
  rw [List.take_add_one, hp]
  simp only [Option.toList_some, List.map_append, List.map_cons, List.map_nil, List.mem_append, List.mem_singleton]
  split at hb
  · rename_i e
    split at hb
    · rename_i hlt
      injection hb with hb
      rw [k.1] at hlt
      refine ⟨_, List.getElem?_eq_getElem (show m < fl.length by omega), ?_⟩
      rw [← hb]
      simp only [true_iff]
      exact .inr (.inr (by omega))
    · cases hb
  · rename_i e
    obtain ⟨b0, h1, h2⟩ := k.2 m b hb
    refine ⟨b0, h1, h2.trans ⟨fun h => h.elim .inl (fun h => .inr (.inl h)), fun h => h.elim .inl (fun h => h.elim .inr (fun h => ?_))⟩⟩
    exact absurd h (by omega)
theorem PX.mark (h : PX t i L og sn hd bi fl td) {fl2 : List Bool} (k : Mk fl td td.length fl2) : MX t (i + 1) L og sn hd bi fl2 := by
  refine ⟨h.hi, fun j b hb => ?_, k.1.trans h.fl, by have := h.z; omega, ⟨h.zo.1, fun V hV => by have := h.zo.2 V hV; omega⟩⟩
  obtain ⟨b0, h1, h2⟩ := k.2 j b hb
  rw [List.take_length] at h2
  rw [h2]
  exact h.hn j b0 h1
theorem MX.start {bs : Int} {n : Nat} (hn : n ≤ 4) (h0 : 0 ≤ bs ∧ bs ≤ 99) (hb : bi.length = n) (hle : ∀ b ∈ bi, b ≤ bs) : MX (bs + 1) 0 ⟨bs, [], []⟩ ((List.range n).map Int.ofNat) [] ((List.range n).map Int.ofNat) bi (List.replicate n false) := by
  have hv : ∀ k, k ≤ 1 → ver ((List.range n).map Int.ofNat) [] ((List.range n).map Int.ofNat) k = (List.range n).map Int.ofNat := fun k hk => by
    match k, hk with
    | 0, _ => rfl
    | 1, _ => rfl
  have hmem : ∀ m : Int, m ∈ (List.range n).map Int.ofNat ↔ 0 ≤ m ∧ m < n := fun m => by
    rw [List.mem_map]
    constructor
    · rintro ⟨a, ha, rfl⟩
      have := List.mem_range.1 ha
      show (0 : Int) ≤ ((a : Nat) : Int) ∧ ((a : Nat) : Int) < n
      omega
    · rintro ⟨h1, h2⟩
      exact ⟨m.toNat, List.mem_range.2 (by omega), by show ((m.toNat : Nat) : Int) = m; omega⟩
  have hnd : ((List.range n).map Int.ofNat).Nodup := by
    rw [List.nodup_iff_pairwise_ne, List.pairwise_map]
    exact (List.nodup_iff_pairwise_ne.1 List.nodup_range).imp (fun h e => h (Int.ofNat.inj e))
  have hbir : ∀ m : Int, 0 ≤ m ∧ m < n → birth bi m ≤ bs := fun m hm => by
    rw [birth, List.getElem?_eq_getElem (by omega)]
    exact hle _ (List.getElem_mem _)
  refine ⟨⟨⟨h0.1, (fun p hp => by cases hp), fun i x hx => by simp at hx⟩, rfl, ?_, fun b hb2 => by have := hle b hb2; omega, ?_⟩, ?_, by simp [hb], ?_, by simpa using hn, fun V hV => by cases hV⟩
  · show bs ≤ bs + 1
    omega
  · refine ⟨fun i hi => absurd hi (Nat.not_lt_zero _), fun k hk => ?_, fun k hk m hm => ?_, fun k hk m hm _ => ?_, fun k hk => ?_⟩
    · rw [hv k hk]
      exact ⟨hnd, fun m hm => by rw [hb]; exact (hmem m).1 hm⟩
    · have hk : k = 0 := by simpa using hk
      subst hk
      exact hbir m ((hmem m).1 hm)
    · have hk : k = 0 := by simpa using hk
      subst hk
      exact hm
    · have hk : k = 0 := by simpa using hk
      subst hk
      exact ⟨by simp [dl], fun m => ⟨(fun h => by simp [dl] at h), fun h => absurd h.1 h.2⟩, fun p hp => by simp [dl] at hp⟩
  · intro j b hb2
    have h1 := (List.getElem?_eq_some_iff.1 hb2).1
    rw [List.length_replicate] at h1
    rw [List.getElem?_replicate, if_pos h1] at hb2
    injection hb2 with hb2
    subst hb2
    constructor
    · intro h; cases h
    · intro h
      exact absurd ((need_iff _ _ _ _).2 (.inl ((hmem j).2 ⟨by omega, by omega⟩))) h
  · simp [allP, hb]
    omega
end
/-! the rows that it begins with -/
structure E0 (w0 : World) (g8 : Nat) (l : LnV) (B H O : RwI) (fao : Option Addr) (fc : Nat) (fl : List Bool) (w : World) : Prop where
  line : Blk w g8 33 (lcells l)
  g8n : w0.heap.size ≤ g8
  rB : Row (w0.heap.size ≤ ·) w 3 ei B.ao B.cap B.xs
  rH : Row (w0.heap.size ≤ ·) w 3 ei H.ao H.cap H.xs
  rO : Row (w0.heap.size ≤ ·) w 3 ei O.ao O.cap O.xs
  rF : Row (w0.heap.size ≤ ·) w 4 ebool fao fc fl
  a1 : ApG B.ao H.ao
  a2 : ApG B.ao O.ao
  a3 : ApG H.ao O.ao
  hw : Chg Nob w0 w
section
variable {w0 w w' : World} {g8 : Nat} {l : LnV} {B H O : RwI} {fao : Option Addr} {fc : Nat} {fl : List Bool} {S : Nat → Prop}
theorem E0.pure (h : E0 w0 g8 l B H O fao fc fl w) (k : Chg Nob w w') : E0 w0 g8 l B H O fao fc fl w' := ⟨h.line.pure k, h.g8n, h.rB.pure k, h.rH.pure k, h.rO.pure k, h.rF.pure k, h.a1, h.a2, h.a3, h.hw.pure k⟩
theorem E0.swap (h : E0 w0 g8 l B H O fao fc fl w) : E0 w0 g8 l H B O fao fc fl w := ⟨h.line, h.g8n, h.rH, h.rB, h.rO, h.rF, h.a1.symm, h.a3, h.a2, h.hw⟩
theorem E0.rot (h : E0 w0 g8 l B H O fao fc fl w) : E0 w0 g8 l O H B fao fc fl w := ⟨h.line, h.g8n, h.rO, h.rH, h.rB, h.rF, h.a3.symm, h.a2.symm, h.a1.symm, h.hw⟩
theorem E0.grow (h : E0 w0 g8 l B H O fao fc fl w) {ao2 : Option Addr} {c2 : Nat} {xs2 : List Int} (hr : Row (w0.heap.size ≤ ·) w' 3 ei ao2 c2 xs2) (g : Grow S w B.ao w' ao2) : E0 w0 g8 l ⟨ao2, c2, xs2⟩ H O fao fc fl w' := by
  have kn : ∀ T : TypeId, T ≠ 3 → ∀ b, b < w.heap.size → (Eqb B.ao b ∧ S b) → kb w b ≠ some (some T) := fun T hT b _ e e2 => by
    have := ((h.rB.kb.at_.eqb e.1).2).symm.trans e2
    injection this with this
    injection this with this
    exact hT this.symm
  exact ⟨h.line.chg g.chg (fun hm => kn _ (by decide) _ h.line.lt hm h.line.kb), h.g8n, hr, h.rH.otherG h.a1.symm g, h.rO.otherG h.a2.symm g, h.rF.chgK g.chg (kn _ (by decide)), (h.a1.symm.grow h.rH.own.lt g).symm, (h.a2.symm.grow h.rO.own.lt g).symm, h.a3, h.hw.chg g.chg (fun b h1 h2 => by have := h.rB.at_.eqb h2.1; omega)⟩
theorem E0.growF (h : E0 w0 g8 l B H O fao fc fl w) {ao2 : Option Addr} {c2 : Nat} {fl2 : List Bool} (hr : Row (w0.heap.size ≤ ·) w' 4 ebool ao2 c2 fl2) (g : Grow S w fao w' ao2) : E0 w0 g8 l B H O ao2 c2 fl2 w' := by
  have kn : ∀ T : TypeId, T ≠ 4 → ∀ b, b < w.heap.size → (Eqb fao b ∧ S b) → kb w b ≠ some (some T) := fun T hT b _ e e2 => by
    have := ((h.rF.kb.at_.eqb e.1).2).symm.trans e2
    injection this with this
    injection this with this
    exact hT this.symm
  exact ⟨h.line.chg g.chg (fun hm => kn _ (by decide) _ h.line.lt hm h.line.kb), h.g8n, h.rB.chgK g.chg (kn _ (by decide)), h.rH.chgK g.chg (kn _ (by decide)), h.rO.chgK g.chg (kn _ (by decide)), hr, h.a1, h.a2, h.a3, h.hw.chg g.chg (fun b h1 h2 => by have := h.rF.at_.eqb h2.1; omega)⟩
theorem E0.ex {bs : Int} (h : E0 w0 g8 ⟨bs, none, 0, [], none, 0, []⟩ B H O fao fc fl w) : EX w0 w.heap.size g8 ⟨⟨bs, none, 0, [], none, 0, []⟩, H, O, B, none, 0, [], fao, fc, fl⟩ w := by
  have hr : ∀ {R : RwI}, Row (w0.heap.size ≤ ·) w 3 ei R.ao R.cap R.xs → ApG B.ao R.ao → Row (Out w.heap.size B) w 3 ei R.ao R.cap R.xs := fun hR hA => ⟨fun a ea => ⟨(hR.lt.at_ a ea).2, fun e => hA.eqb e ⟨a, ea, rfl⟩⟩, hR.own⟩
  exact ⟨h.line, ⟨h.g8n, h.line.lt⟩, ⟨Row.nil _ _ _ _, Row.nil _ _ _ _, fun x hx => by cases hx⟩, hr h.rH h.a1, hr h.rO h.a2, Row.nil _ _ _ _, (fun r hr => by cases hr), h.rB.lt, h.rF.lt, Nat.le_refl _, h.hw⟩
end
theorem LOi.lw {S : Nat → Prop} {w : World} {l : LnV} (h : LO S w 65 l) : LW S w l := ⟨h.snaps, h.dead, fun x hx => by
  obtain ⟨j, hj, rfl⟩ := List.getElem_of_mem hx
  exact h.inner j _ hj (List.getElem?_eq_getElem hj)⟩
end Go.Proofs.Ytgmkoieemmglpaa
