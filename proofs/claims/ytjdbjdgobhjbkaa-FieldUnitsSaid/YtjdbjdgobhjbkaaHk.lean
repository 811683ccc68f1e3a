import Derived.Test.YtjdbjdgobhjbkaaHj
namespace Go.HL
open Go.RowKit
section
variable {P : Program} {ops : Array Oper} {Q : Exit → Act → World → Prop} {N : Nat} {E : Env} {w : World} {rest : List Oper}
  {d : Nat} {ty : TypeId} {pos : String} {af : Array Edge} {t tb : TypeId} {x y : Operand}
/-- a whole block is read -/
theorem WL.loadsB {e : TypeId} {b k : Nat} {cs : List Value} (ha : ∀ w, (isAgg t).run P w = .ok true w) (hs : ∀ w, (sizeOf t).run P w = .ok k w) (hb : Blk w b e cs) (hx : ev E x = some (.pointer (some ⟨b, 0, none⟩))) (hk : cs.length = k) (hd : Nat.blt d N = true) (h : WL P ops Q N rest ((d, .agg cs.toArray) :: E) w) :
    WL P ops Q N (⟨some d, .load t x, ty, pos, af, none⟩ :: rest) E w :=
  WL.loads cs ha hs hx (fun j v hj => by rw [Nat.zero_add]; exact hb.cell hj) hk hd h
variable {fn : Func} {R : Ending → World → Prop}
theorem run_loadVarB {T e : TypeId} {b k : Nat} {cs : List Value} (ha : ∀ w, (isAgg T).run P w = .ok true w) (hs : ∀ w, (sizeOf T).run P w = .ok k w) (hb : Blk w b e cs) (hk : cs.length = k) : (loadVar T ⟨b, 0, none⟩).run P w = .ok (.agg cs.toArray) w := by
  have hl := run_loadCells_list (P := P) w ⟨b, 0, none⟩ cs (fun j v hj => by rw [Addr.add_lit, Nat.zero_add]; exact hb.cell hj)
  rw [hk] at hl
  simp [loadVar, ha, hs, hl]
theorem WX.ret1c {x : Exit} (hx : x = .ret ∨ x = .normal) {t T e : TypeId} {b k : Nat} {cs : List Value} (h : fn.results = #[.cell t T]) (ha : ∀ w, (isAgg T).run P w = .ok true w) (hs : ∀ w, (sizeOf T).run P w = .ok k w) (hb : Blk w b e cs) (hv : E.lookup t = some (.pointer (some ⟨b, 0, none⟩))) (hk : cs.length = k)
    (hR : R (.returned (.agg cs.toArray)) w) : WX (bodyPost P fn R) x N E w :=
  WX.retOf hx _ (fun a hh => by
    have h1 := getD_of hh hv
    simp only [Array.getD_eq_getD_getElem?] at h1
    have h2 := run_loadVarB ha hs hb hk
    simp [results, h, h1, asAddr, h2]) hR
theorem WX.ret2c {x : Exit} (hx : x = .ret ∨ x = .normal) {t u T e : TypeId} {b k : Nat} {cs : List Value} {v : Value} (h : fn.results = #[.cell t T, .tmp u]) (ha : ∀ w, (isAgg T).run P w = .ok true w) (hs : ∀ w, (sizeOf T).run P w = .ok k w) (hb : Blk w b e cs) (hv : E.lookup t = some (.pointer (some ⟨b, 0, none⟩))) (hk : cs.length = k)
    (hu : E.lookup u = some v) (hR : R (.returned (.tuple #[.agg cs.toArray, v])) w) : WX (bodyPost P fn R) x N E w :=
  WX.retOf hx _ (fun a hh => by
    have h1 := getD_of hh hv
    have h3 := getD_of hh hu
    simp only [Array.getD_eq_getD_getElem?] at h1 h3
    have h2 := run_loadVarB ha hs hb hk
    simp [results, h, h1, h3, asAddr, h2]) hR
end
end Go.HL
