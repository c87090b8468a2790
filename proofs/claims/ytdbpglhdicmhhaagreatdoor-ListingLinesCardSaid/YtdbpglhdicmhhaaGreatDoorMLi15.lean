import Derived.Test.YtdbpglhdicmhhaaGreatDoorMLi14
set_option linter.unusedVariables false
set_option linter.unusedSimpArgs false
section
namespace Go.Proofs.YtdbpglhdicmhhaaGreatDoor.Q
open Go.RowKit Go.Proofs.YtdbpglhdicmhhaaGreatDoor.GA Go.Proofs.YtdbpglhdicmhhaaGreatDoorW.PrintWords Go.Proofs.YtdbpglhdicmhhaaGreatDoorW.PrintLast Go.Proofs.YtdbpglhdicmhhaaGreatDoorW.PrintMore
theorem take_snoc {α : Type} {l : List α} {i : Nat} {x : α} (h : l[i]? = some x) : l.take i ++ [x] = l.take (i + 1):=by
 rw [List.take_add_one,h]; rfl
theorem wrap_nat (i : Nat) (h : i < 4611686018427387904) : wrap64 ((i : Int) + 1) = ((i + 1 : Nat) : Int):=by unfold wrap64; omega
structure Mild (l0 : List Int) (l1 : List S41) (l2 : List S44) : Prop where
 code : l0.length < 35184372088832
 funcs : l1.length < 8796093022208
 tabs : l2.length < 4398046511104
 cases : ∀ t ∈ l2,t.f0.length < 4398046511104
section
variable {l0 : List Int} {l1 : List S41} {l2 : List S44} (M : Mild l0 l1 l2)
include M
theorem twin_l3 {i : Nat} {t : S44} (hi : l2[i]? = some t) {A : List Int} {B : List S41} {r : List Int × List S41 × List S44}
  (h : ∃ k,rotalaw07_twin.l2 k ((i + 1 : Nat) : Int) l0 l1 l2 A B (l2.take (i + 1)) = some r) : ∀ (d j : Nat),j + d = t.f0.length →
  ∃ k,rotalaw07_twin.l3 k (i : Int) (j : Int) l0 l1 l2 A B (l2.take i) (t.f0.take j) t.f1 = some r
 | 0,j,hj => by
  obtain ⟨k,hk⟩:=h
  have hil : i < l2.length:=(List.getElem?_eq_some_iff.1 hi).1
  have e : rd_T44 l2 (i : Int) = t:=by unfold rd_T44; rw [Int.toNat_natCast,List.getD_eq_getElem?_getD,hi]; rfl
  have hc:=M.tabs
  refine ⟨k + 1,?_⟩
  rw [rotalaw07_twin.l3,if_pos (by omega),if_pos (by omega),e,if_neg (by omega),if_pos (by rw [List.length_take]; omega),wrap_nat i (by omega),show j = t.f0.length by omega,List.take_length,take_snoc hi]
  exact hk
 | d + 1,j,hj => by
  obtain ⟨k,hk⟩:=twin_l3 hi h d (j + 1) (by omega)
  have hil : i < l2.length:=(List.getElem?_eq_some_iff.1 hi).1
  have e : rd_T44 l2 (i : Int) = t:=by unfold rd_T44; rw [Int.toNat_natCast,List.getD_eq_getElem?_getD,hi]; rfl
  have hjl : j < t.f0.length:=by omega
  obtain ⟨x,hx⟩ : ∃ x,t.f0[j]? = some x:=⟨_,List.getElem?_eq_getElem hjl⟩
  have e2 : rd_T46 t.f0 (j : Int) = x:=by unfold rd_T46; rw [Int.toNat_natCast,List.getD_eq_getElem?_getD,hx]; rfl
  have hc:=M.cases t (List.mem_of_getElem? hi)
  refine ⟨k + 1,?_⟩
  rw [rotalaw07_twin.l3,if_pos (by omega),if_pos (by omega),e,if_pos (by omega),if_pos (by omega),if_pos (by rw [List.length_take]; omega),e2,wrap_nat j (by omega)]
  rw [show (⟨x.f0,x.f1,x.f2,x.f3⟩ : S46) = x from rfl,take_snoc hx]
  exact hk
theorem twin_l2 (A : List Int) (B : List S41) : ∀ (d i : Nat),i + d = l2.length → ∃ k,rotalaw07_twin.l2 k (i : Int) l0 l1 l2 A B (l2.take i) = some (A,B,l2)
 | 0,i,hi => ⟨1,by rw [rotalaw07_twin.l2,if_neg (by omega),show i = l2.length by omega,List.take_length]⟩
 | d + 1,i,hi => by
  obtain ⟨t,ht⟩ : ∃ t,l2[i]? = some t:=⟨_,List.getElem?_eq_getElem (by omega)⟩
  have e : rd_T44 l2 (i : Int) = t:=by unfold rd_T44; rw [Int.toNat_natCast,List.getD_eq_getElem?_getD,ht]; rfl
  obtain ⟨k,hk⟩:=twin_l3 M ht (twin_l2 A B d (i + 1) (by omega)) t.f0.length 0 (by omega)
  refine ⟨k + 1,?_⟩
  rw [rotalaw07_twin.l2,if_pos (by omega),if_pos (by omega),e]
  exact hk
theorem twin_l1 (A : List Int) : ∀ (d i : Nat),i + d = l1.length → ∃ k,rotalaw07_twin.l1 k (i : Int) l0 l1 l2 A (l1.take i) = some (A,l1,l2)
 | 0,i,hi => by
  obtain ⟨k,hk⟩:=twin_l2 M A l1 l2.length 0 (by omega)
  refine ⟨k + 1,?_⟩
  rw [rotalaw07_twin.l1,if_neg (by omega),show i = l1.length by omega,List.take_length]
  exact hk
 | d + 1,i,hi => by
  obtain ⟨t,ht⟩ : ∃ t,l1[i]? = some t:=⟨_,List.getElem?_eq_getElem (by omega)⟩
  have e : rd_T41 l1 (i : Int) = t:=by unfold rd_T41; rw [Int.toNat_natCast,List.getD_eq_getElem?_getD,ht]; rfl
  obtain ⟨k,hk⟩:=twin_l1 A d (i + 1) (by omega)
  have hc:=M.funcs
  refine ⟨k + 1,?_⟩
  rw [rotalaw07_twin.l1,if_pos (by omega),if_pos (by omega),if_pos (by rw [List.length_take]; omega),e,wrap_nat i (by omega),show (⟨t.f0,t.f1⟩ : S41) = t from rfl,take_snoc ht]
  exact hk
theorem twin_l0 : ∀ (d i : Nat),i + d = l0.length → ∃ k,rotalaw07_twin.l0 k (i : Int) l0 l1 l2 (l0.take i) = some (l0,l1,l2)
 | 0,i,hi => by
  obtain ⟨k,hk⟩:=twin_l1 M l0 l1.length 0 (by omega)
  refine ⟨k + 1,?_⟩
  rw [rotalaw07_twin.l0,if_neg (by omega),show i = l0.length by omega,List.take_length]
  exact hk
 | d + 1,i,hi => by
  obtain ⟨t,ht⟩ : ∃ t,l0[i]? = some t:=⟨_,List.getElem?_eq_getElem (by omega)⟩
  have e : rd l0 (i : Int) = t:=by unfold rd; rw [Int.toNat_natCast,List.getD_eq_getElem?_getD,ht]; rfl
  obtain ⟨k,hk⟩:=twin_l0 d (i + 1) (by omega)
  have hc:=M.code
  refine ⟨k + 1,?_⟩
  rw [rotalaw07_twin.l0,if_pos (by omega),if_pos (by omega),if_pos (by rw [List.length_take]; omega),e,wrap_nat i (by omega),take_snoc ht]
  exact hk
theorem twin_same : ∃ k,rotalaw07_twin.f k l0 l1 l2 = some (l0,l1,l2):=twin_l0 M l0.length 0 (by omega)
end
end Go.Proofs.YtdbpglhdicmhhaaGreatDoor.Q
end
