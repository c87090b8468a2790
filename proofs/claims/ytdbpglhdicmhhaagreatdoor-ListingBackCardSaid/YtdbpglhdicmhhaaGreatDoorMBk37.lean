import Derived.Test.YtdbpglhdicmhhaaGreatDoorMBk36
import Derived.Test.YtdbpglhdicmhhaaGreatDoorMBk34
import Derived.Test.YtdbpglhdicmhhaaGreatDoorMBk19
set_option linter.unusedVariables false
set_option linter.unusedSimpArgs false
section
namespace Go.Proofs.YtdbpglhdicmhhaaGreatDoor.Hof
open Go.RowKit Go.Shelf Go.Proofs.YtdbpglhdicmhhaaGreatDoorW.PrintWords Go.Proofs.YtdbpglhdicmhhaaGreatDoorW.PrintLast Go.Proofs.YtdbpglhdicmhhaaGreatDoorW.PrintMore Hctx
open Go.Proofs.YtdbpglhdicmhhaaGreatDoor.GA
def plainC (c : S46) : S46:=if c.f0 then ⟨c.f0,c.f1,c.f2,0⟩ else c
def plainT (t : S44) : S44:=⟨t.f0.map plainC,t.f1⟩
@[reducible] def plainL (l2 : List S44) : List S44:=l2.map plainT
def midL (l2 : List S44) (i : Nat) (t : S44) (k : Nat) : List S44:=plainL (l2.take i) ++ ⟨(t.f0.take k).map plainC ++ t.f0.drop k,t.f1⟩ :: l2.drop (i + 1)
theorem mid_zero {l2 : List S44} {i : Nat} {t : S44} (h : l2[i]? = some t) : midL l2 i t 0 = plainL (l2.take i) ++ l2.drop i:=by
 obtain ⟨a1,a2⟩:=List.getElem?_eq_some_iff.1 h
 unfold midL
 rw [List.drop_eq_getElem_cons a1,a2]
 rfl
theorem mid_all {l2 : List S44} {i : Nat} {t : S44} (h : l2[i]? = some t) : midL l2 i t t.f0.length = plainL (l2.take (i + 1)) ++ l2.drop (i + 1):=by
 unfold midL
 rw [take_succ h,plainL,plainL,List.map_append,List.append_assoc,List.take_length,List.drop_length,List.append_nil]
 rfl
theorem mid_at {l2 : List S44} {i : Nat} {t : S44} {k : Nat} (hi : i < l2.length) : (midL l2 i t k)[i]? = some ⟨(t.f0.take k).map plainC ++ t.f0.drop k,t.f1⟩:=by
 unfold midL
 rw [List.getElem?_append_right (by simp; omega)]
 have : i - (plainL (l2.take i)).length = 0:=by simp; omega
 rw [this]; rfl
theorem mid_len {l2 : List S44} {i : Nat} {t : S44} {k : Nat} (hi : i < l2.length) : (midL l2 i t k).length = l2.length:=by
 unfold midL
 simp; omega
theorem mid_set {l2 : List S44} {i : Nat} {t : S44} {k : Nat} (hi : i < l2.length) (m : List S46) : (midL l2 i t k).set i ⟨m,t.f1⟩ = plainL (l2.take i) ++ ⟨m,t.f1⟩ :: l2.drop (i + 1):=by
 unfold midL
 rw [List.set_append_right _ _ (by simp; omega)]
 have : i - (plainL (l2.take i)).length = 0:=by simp; omega
 rw [this]; rfl
theorem zip_set {α β : Type} {γ : Type _} (f : α → β → γ) (vs : List α) (l : List β) (i : Nat) (b : β) {v : α} (hv : vs[i]? = some v) : List.zipWith f vs (l.set i b) = (List.zipWith f vs l).set i (f v b):=by
 apply List.ext_getElem?
 intro j
 rw [List.getElem?_set,List.getElem?_zipWith,List.getElem?_set,List.getElem?_zipWith]
 by_cases h : i = j
 ·subst h
  rw [if_pos rfl,if_pos rfl,hv]
  have hi:=(List.getElem?_eq_some_iff.1 hv).1
  by_cases hl : i < l.length
  ·rw [if_pos hl,if_pos (by rw [List.length_zipWith]; omega)]
  ·rw [if_neg hl,if_neg (by rw [List.length_zipWith]; omega)]
 ·rw [if_neg h,if_neg h]
theorem zip_set_same {α β γ : Type} (f : α → β → γ) (vs : List α) (l : List β) (i : Nat) (b b0 : β) (hb : l[i]? = some b0) (hf : ∀ v,f v b = f v b0) : List.zipWith f vs (l.set i b) = List.zipWith f vs l:=by
 apply List.ext_getElem?
 intro j
 rw [List.getElem?_zipWith,List.getElem?_zipWith,List.getElem?_set]
 by_cases h : i = j
 ·subst h
  rw [if_pos rfl,if_pos (List.getElem?_eq_some_iff.1 hb).1,hb]
  cases vs[i]? with
  | none => rfl
  | some v => exact congrArg some (hf v)
 ·rw [if_neg h]
theorem mid_get {t : S44} {k : Nat} {c : S46} (hc : t.f0[k]? = some c) : ((t.f0.take k).map plainC ++ t.f0.drop k)[k]? = some c:=by
 have hk:=(List.getElem?_eq_some_iff.1 hc).1
 rw [List.getElem?_append_right (by simp; omega),List.getElem?_drop]
 have : k + (k - ((t.f0.take k).map plainC).length) = k:=by simp; omega
 rw [this,hc]
theorem mid_list {t : S44} {k : Nat} {c : S46} (hc : t.f0[k]? = some c) : ((t.f0.take k).map plainC ++ t.f0.drop k).set k (plainC c) = (t.f0.take (k + 1)).map plainC ++ t.f0.drop (k + 1):=by
 obtain ⟨hk,he⟩:=List.getElem?_eq_some_iff.1 hc
 rw [List.set_append_right _ _ (by simp; omega)]
 have : k - ((t.f0.take k).map plainC).length = 0:=by simp; omega
 rw [this,List.drop_eq_getElem_cons hk,he,take_succ hc,List.map_append]
 simp
theorem mid_step {l2 : List S44} {i : Nat} {t : S44} {k : Nat} {c : S46} (hi : i < l2.length) (hc : t.f0[k]? = some c) : (midL l2 i t k).set i ⟨((t.f0.take k).map plainC ++ t.f0.drop k).set k (plainC c),t.f1⟩ = midL l2 i t (k + 1):=by
 rw [mid_set hi,mid_list hc]; rfl
theorem set_self {α : Type} {l : List α} {k : Nat} {c : α} (h : l[k]? = some c) : l.set k c = l:=by
 apply List.ext_getElem?
 intro j
 rw [List.getElem?_set]
 by_cases hj : k = j
 ·subst hj
  rw [if_pos rfl,if_pos (List.getElem?_eq_some_iff.1 h).1,h]
 ·rw [if_neg hj]
theorem mid_same {l2 : List S44} {i : Nat} {t : S44} {k : Nat} {c : S46} (hi : i < l2.length) (hc : t.f0[k]? = some c) (h : c.f0 = false) : midL l2 i t k = midL l2 i t (k + 1):=by
 have e : plainC c = c:=by unfold plainC; rw [if_neg (by rw [h]; simp)]
 have h1:=mid_list hc
 rw [e] at h1
 unfold midL
 rw [← h1]
 congr 3
 exact (set_self (mid_get hc)).symm
section
variable {es : List TypeId} {w0 W : World} {l : List (Nat × Array Value × TypeId)} {fx : List (Nat × Obj)}
theorem cs_at {vc vf vt : Value} {vs : List Value} {l0 : List Int} {l1 : List S41} {l2 : List S44} {i : Nat} {v : Value} {t : S44} (hv : vs[i]? = some v) (ht : l2[i]? = some t) : (rowsP vc vf vt vs l0 l1 l2)[3 + i]? = some ⟨Kd.raw 4,46,v,(casesD t.f0).map ccell⟩:=by
 have h1 : (tabsD l2)[i]? = some (t.f1,casesD t.f0):=by rw [List.getElem?_map,ht]; rfl
 have h2 : (csRows vs (tabsD l2))[i]? = some (⟨Kd.raw 4,46,v,(casesD t.f0).map ccell⟩ : Row):=by rw [csRows,List.getElem?_zipWith,hv,h1]
 rw [show 3 + i = i + 3 by omega]
 exact h2
theorem tc_at {vs : List Value} {l2 : List S44} {i : Nat} {v : Value} {t : S44} (hv : vs[i]? = some v) (ht : l2[i]? = some t) : (tcells vs (tabsD l2))[i]? = some [v,.bool t.f1]:=by
 have h1 : (tabsD l2)[i]? = some (t.f1,casesD t.f0):=by rw [List.getElem?_map,ht]; rfl
 rw [tcells,List.getElem?_zipWith,hv,h1]
theorem cs_set {vc vf vt : Value} {vs : List Value} {l0 : List Int} {l1 : List S41} {l2 : List S44} {i : Nat} {v : Value} {t : S44} (hv : vs[i]? = some v) (ht : l2[i]? = some t) (m : List S46) (M : MemF es w0 W l fx (⟨Kd.raw 4,46,v,(casesD m).map ccell⟩ :: (rowsP vc vf vt vs l0 l1 l2).eraseIdx (3 + i))) :
  MemF es w0 W l fx (rowsP vc vf vt vs l0 l1 (l2.set i ⟨m,t.f1⟩)):=by
 have hlen : 3 + i < (rowsP vc vf vt vs l0 l1 l2).length:=(List.getElem?_eq_some_iff.1 (cs_at (vc:=vc) (vf:=vf) (vt:=vt) (l0:=l0) (l1:=l1) hv ht)).1
 have h:=MemF.back (3 + i) hlen M
 have e0 : tabsD (l2.set i ⟨m,t.f1⟩) = (tabsD l2).set i (t.f1,casesD m):=by rw [tabsD,List.map_set]
 have h1 : (tabsD l2)[i]? = some (t.f1,casesD t.f0):=by rw [List.getElem?_map,ht]; rfl
 have e1 : tcells vs (tabsD (l2.set i ⟨m,t.f1⟩)) = tcells vs (tabsD l2):=by rw [e0]; exact zip_set_same _ _ _ _ _ _ h1 (fun v => rfl)
 have e2 : csRows vs (tabsD (l2.set i ⟨m,t.f1⟩)) = (csRows vs (tabsD l2)).set i ⟨Kd.raw 4,46,v,(casesD m).map ccell⟩:=by rw [e0]; exact zip_set _ _ _ _ _ hv
 rw [rowsP,e1,e2]
 rw [show 3 + i = i + 3 by omega] at h
 exact h
end
set_option maxHeartbeats 8000000 in
set_option maxRecDepth 100000 in
theorem plain_calls (A0 : Option Addr) (c0 : Nat) (l0 : List Int) (A1 : Option Addr) (c1 : Nat) (l1 : List S41) (A2 : Option Addr) (c2 : Nat) (l2 : List S44) (w : World) (hP : PC w A0 c0 l0 A1 c1 l1 A2 c2 l2) (hF : Fits l0 l1 l2) :
  Calls Tryz.prog 19 #[.agg #[.slice A0 l0.length c0,.slice A1 l1.length c1,.slice A2 l2.length c2]] w fun e w' => ∃ vc vf vt vs,e = .returned (.agg #[vc,vf,vt]) ∧ vs.length = l2.length ∧ MemF esR w w' [] [] (rowsP vc vf vt vs l0 l1 (plainL l2)):=by
 have HP:=Lib.hid hP
 have HF:=Lib.hid hF
 have M0:=Aside0.mk (MemF.start esR w)
 clear hP hF
 go_enter Tryz.func19,Tryz.ntmps19
 go_wp2_with (first
  | ((with_reducible refine gate_dst (N:=1) rfl ?_); refine fB M0 1 #[.slice A0 l0.length c0,.slice A1 l1.length c1,.slice A2 l2.length c2] 26 ?_; clear M0; intro g1 w1 M1; have p0:=M1.out.mem.cell 0 rfl 0; have p1:=M1.out.mem.cell 0 rfl 1; have p2:=M1.out.mem.cell 0 rfl 2)
  | ((with_reducible refine gate_dst (N:=2) rfl ?_); refine fB M1 2 #[.slice none 0 0,.slice none 0 0,.slice none 0 0] 26 ?_; clear M1 p0 p1 p2; intro g2 w2 M2; have p0:=M2.out.mem.cell 0 rfl 0; have p1:=M2.out.mem.cell 0 rfl 1; have p2:=M2.out.mem.cell 0 rfl 2)
  | fail)
 refine (twin_calls _ _ _ _ _ _ _ _ _ w2 (HP.out.below M2.out.mem.below) HF.out).mono ?_
 rintro e w3 ⟨vc,vf,vt,vs,rfl,hvs,M3⟩
 have HVS:=Lib.hid hvs
 have M4:=Aside0.mk (M2.out.join M3)
 have HV0:=Lib.hid (show (#[vc,vf,vt] : Array Value).all (·.oneCell') = true by simp [show vc.oneCell' = true from MemF.one M3 0 rfl,show vf.oneCell' = true from MemF.one M3 1 rfl,show vt.oneCell' = true from MemF.one M3 2 rfl])
 clear M2 M3 hvs p0 p1 p2
 go_wp2_with (first
  | ((with_reducible refine gate_dst (N:=3) rfl ?_); refine fB M4 3 #[.slice none 0 0,.slice none 0 0,.slice none 0 0] 26 ?_; clear M4; intro g3 w4 M5)
  | ((with_reducible refine gate_store (t:=26) (p:=3) rfl ?_); refine fW M5 26 3 2 #[vc,vf,vt] ?_ rfl rfl HV0.out; clear M5; intro w5 M6)
  | fail)
 obtain ⟨At,nt,ct,rfl,hnt⟩ : ∃ A n c,vt = .slice A n c ∧ n = l2.length:=by
  obtain ⟨A,c,h⟩ : ∃ A c,vt = .slice A (tcells vs (tabsD l2)).length c:=Kd.R_slice (M6.out.mem.owns 2 _ rfl)
  exact ⟨A,_,c,h,by rw [tcells_len (by rw [HVS.out,List.length_map]),List.length_map]⟩
 have HNT:=Lib.hid hnt
 clear hnt
 go_loopg [4] l2.length (fun g v4 wr => ∃ (i : Nat),i + g = l2.length ∧ v4 = .int .i64 i ∧ MemF esR w wr [(g1,#[.slice A0 l0.length c0,.slice A1 l1.length c1,.slice A2 l2.length c2],26),(g2,#[.slice none 0 0,.slice none 0 0,.slice none 0 0],26),(g3,#[vc,vf,.slice At nt ct],26)] [] (rowsP vc vf (.slice At nt ct) vs l0 l1 (plainL (l2.take i) ++ l2.drop i)))
 case atStart => exact ⟨0,Nat.zero_add _,rfl,M6.out⟩
 case round =>
  clear M6
  rename World => w6
  obtain ⟨i,hi,rfl,M7⟩:=hrel
  have M8:=Aside0.mk M7
  clear M7
  have o2:=M8.out.mem.cell 2 rfl 2
  by_cases hil : i < l2.length
  ·obtain ⟨gk1,rfl⟩ : ∃ g,gk = g + 1:=⟨gk - 1,by omega⟩
   have HG:=Lib.hid hi
   have HI:=Lib.hid hil
   obtain ⟨t,ht⟩ : ∃ t,l2[i]? = some t:=⟨_,List.getElem?_eq_getElem hil⟩
   have HT:=Lib.hid ht
   obtain ⟨v,hv⟩ : ∃ v,vs[i]? = some v:=⟨_,List.getElem?_eq_getElem (by have:=HVS.out; omega)⟩
   have HTN:=Lib.hid (HF.out.h3 t (List.mem_of_getElem? ht))
   have r1 : (i : Int) < (nt : Int):=by have:=HNT.out; omega
   have R1:=Lib.hid r1
   have W4:=Lib.hid (show wrap64 ((i : Int) + 1) = ((i + 1 : Nat) : Int) by rw [Int.natCast_add]; exact IntWalk.wrap64_in _ (by have:=HF.out.h2; omega))
   rw [← mid_zero ht] at M8
   obtain ⟨Av,nv,cv,rfl,hnv⟩ : ∃ A n c,v = .slice A n c ∧ n = t.f0.length:=by
    obtain ⟨A,c,h⟩ : ∃ A c,v = .slice A ((casesD ((t.f0.take 0).map plainC ++ t.f0.drop 0)).map ccell).length c:=Kd.R_slice (M8.out.mem.owns (3 + i) _ (cs_at hv (mid_at hil)))
    exact ⟨A,_,c,h,by simp⟩
   have HV:=Lib.hid hv
   have HNV:=Lib.hid hnv
   clear ht hv hi hil hnv
   go_wp2_with fail
   clear o2 r1
   go_loopg [5] t.f0.length (fun g v5 wr => ∃ (k : Nat),k + g = t.f0.length ∧ v5 = .int .i64 k ∧ MemF esR w wr [(g1,#[.slice A0 l0.length c0,.slice A1 l1.length c1,.slice A2 l2.length c2],26),(g2,#[.slice none 0 0,.slice none 0 0,.slice none 0 0],26),(g3,#[vc,vf,.slice At nt ct],26)] [] (rowsP vc vf (.slice At nt ct) vs l0 l1 (midL l2 i t k)))
   case atStart => exact ⟨0,Nat.zero_add _,rfl,M8.out⟩
   case round =>
    clear M8
    rename World => w7
    obtain ⟨k,hk,rfl,M9⟩:=hrel
    have M10:=Aside0.mk M9
    clear M9
    have o2:=M10.out.mem.cell 2 rfl 2
    have r1:=R1.out
    obtain ⟨gt,rfl,hnt2⟩ : ∃ gt,At = some ⟨gt,0,none⟩ ∧ i < nt:=by
     rcases MemF.slice M10.out 2 rfl with ⟨c,h1,h2⟩ | ⟨g,c,h1,h2⟩
     ·have:=congrArg List.length h2
      rw [tcells_len (by rw [HVS.out,List.length_map,mid_len HI.out]),List.length_map,mid_len HI.out,List.length_nil] at this
      have:=HI.out; omega
     ·injection h1 with h1 _ _
      exact ⟨g,h1,by have:=R1.out; omega⟩
    have y0 : w7.cell? ⟨gt,i * 2,none⟩ = some (.slice Av nv cv):=M10.out.elem 2 rfl (tc_at HV.out (mid_at HI.out)) hnt2 0 rfl
    by_cases hkl : k < t.f0.length
    ·obtain ⟨gk2,rfl⟩ : ∃ g,gk = g + 1:=⟨gk - 1,by omega⟩
     have HG2:=Lib.hid hk
     obtain ⟨c,hc⟩ : ∃ c,t.f0[k]? = some c:=⟨_,List.getElem?_eq_getElem hkl⟩
     have HC:=Lib.hid hc
     have r2 : (k : Int) < (nv : Int):=by have:=HNV.out; omega
     have W5:=Lib.hid (show wrap64 ((k : Int) + 1) = ((k + 1 : Nat) : Int) by rw [Int.natCast_add]; exact IntWalk.wrap64_in _ (by have:=HTN.out; omega))
     obtain ⟨gv,rfl⟩ : ∃ gv,Av = some ⟨gv,0,none⟩:=by
      rcases MemF.slice M10.out (3 + i) (cs_at HV.out (mid_at HI.out)) with ⟨c2,h1,h2⟩ | ⟨g,c2,h1,h2⟩
      ·injection h1 with _ h1 _
       have:=HNV.out; omega
      ·injection h1 with h1 _ _
       exact ⟨g,h1⟩
     have hce : ((casesD ((t.f0.take k).map plainC ++ t.f0.drop k)).map ccell)[k]? = some [.bool c.f0,.int .i64 c.f1,.int .i64 c.f2,.int .i64 c.f3]:=by
      rw [List.getElem?_map,List.getElem?_map,mid_get hc]; rfl
     have HCE:=Lib.hid hce
     have hkn : k < nv:=by have:=HNV.out; omega
     have HKN:=Lib.hid hkn
     have z0 : w7.cell? ⟨gv,k * 4,none⟩ = some (.bool c.f0):=M10.out.elem (3 + i) (cs_at HV.out (mid_at HI.out)) hce hkn 0 rfl
     clear hc hkl hk hce hkn
     cases hcb : c.f0 with
     | false =>
      have M11:=Aside0.mk (show MemF esR w w7 _ [] (rowsP vc vf (.slice (some ⟨gt,0,none⟩) nt ct) vs l0 l1 (midL l2 i t (k + 1))) by rw [← mid_same HI.out HC.out hcb]; exact M10.out)
      rw [hcb] at z0
      clear M10 hcb hnt2
      go_wp2
      go_roundg gk2
      case measure => omega
      case rel => exact ⟨k + 1,by have:=HG2.out; omega,by rw [W5.out],M11.out⟩
     | true =>
      have HCB:=Lib.hid hcb
      rw [hcb] at z0
      have MF:=Aside0.mk (MemF.front M10.out (3 + i) (cs_at HV.out (mid_at HI.out)))
      clear M10 hcb hnt2
      go_wp2_with (first
       | ((with_reducible refine gate_store (t:=3) (p:=44) rfl ?_); refine fE MF 3 (.tmp 44) k 3 (.int .i64 0) [.int .i64 0] [.bool c.f0,.int .i64 c.f1,.int .i64 c.f2,.int .i64 c.f3] HKN.out HCE.out ?_ rfl (by intro q hq; rw [List.mem_singleton] at hq; subst hq; rfl) (Nat.le_refl 4) rfl; clear MF o2 y0 z0; intro w8 MG)
       | fail)
      have M11:=Aside0.mk (show MemF esR w w8 [(g1,#[.slice A0 l0.length c0,.slice A1 l1.length c1,.slice A2 l2.length c2],26),(g2,#[.slice none 0 0,.slice none 0 0,.slice none 0 0],26),(g3,#[vc,vf,.slice (some ⟨gt,0,none⟩) nt ct],26)] [] (rowsP vc vf (.slice (some ⟨gt,0,none⟩) nt ct) vs l0 l1 (midL l2 i t (k + 1))) by
       rw [← mid_step HI.out HC.out]
       refine cs_set HV.out (mid_at HI.out) _ ?_
       have e : (casesD (((t.f0.take k).map plainC ++ t.f0.drop k).set k (plainC c))).map ccell = ((casesD ((t.f0.take k).map plainC ++ t.f0.drop k)).map ccell).set k [.bool c.f0,.int .i64 c.f1,.int .i64 c.f2,.int .i64 0]:=by
        have ec : plainC c = ⟨c.f0,c.f1,c.f2,0⟩:=if_pos HCB.out
        rw [casesD,List.map_set,List.map_set,ec]
        rfl
       rw [e]
       exact MG.out)
      clear MG
      go_wp2
      go_roundg gk2
      case measure => omega
      case rel => exact ⟨k + 1,by have:=HG2.out; omega,by rw [W5.out],M11.out⟩
    ·have r2 : ¬ (k : Int) < (nv : Int):=by have:=HNV.out; omega
     have hke : k = t.f0.length:=by omega
     have M11:=Aside0.mk (show MemF esR w w7 _ [] (rowsP vc vf (.slice (some ⟨gt,0,none⟩) nt ct) vs l0 l1 (plainL (l2.take (i + 1)) ++ l2.drop (i + 1))) by
      have h:=M10.out
      rw [hke,mid_all HT.out] at h
      exact h)
     clear hkl hk hke hnt2 M10
     go_wp2
     go_roundg gk1
     case measure => omega
     case rel => exact ⟨i + 1,by have:=HG.out; omega,by rw [W4.out],M11.out⟩
  ·have r1 : ¬ (i : Int) < (nt : Int):=by have:=HNT.out; omega
   have hie : i = l2.length:=by omega
   have M9:=Aside0.mk (show MemF esR w w6 [(g1,#[.slice A0 l0.length c0,.slice A1 l1.length c1,.slice A2 l2.length c2],26),(g2,#[.slice none 0 0,.slice none 0 0,.slice none 0 0],26),(g3,#[vc,vf,.slice At nt ct],26)] [] (rowsP vc vf (.slice At nt ct) vs l0 l1 (plainL l2)) by
    have h:=M8.out
    rw [hie,List.take_length,List.drop_length,List.append_nil] at h
    exact h)
   have o0:=M9.out.mem.cell 2 rfl 0
   have o1:=M9.out.mem.cell 2 rfl 1
   clear hil hi hie M8
   go_wp2_with (first
    | ((with_reducible refine gate_store (t:=26) (p:=2) rfl ?_); refine fW M9 26 2 1 #[vc,vf,.slice At nt ct] ?_ rfl rfl HV0.out; clear M9 o0 o1 o2; intro w9 M10)
    | fail)
   refine bodyPost_ret (results_cell_row rfl _ _ g2 26 #[vc,vf,.slice At nt ct] (0,0) _ rfl (M10.out.mem.at 1 rfl) Tryz.underlying26 rfl (by kernel_rfl)) rfl ?_
   exact ⟨vc,vf,_,rfl,vs,HVS.out,M10.out.forget 0⟩
end Go.Proofs.YtdbpglhdicmhhaaGreatDoor.Hof
end

section
namespace Go.Proofs.YtdbpglhdicmhhaaGreatDoor.Q
open Go.RowKit Go.Lib Num Go.Proofs.YtdbpglhdicmhhaaGreatDoor.GA
def sb (l : List UInt8) : ByteArray:=⟨l.toArray⟩
theorem sb_of (a : ByteArray) : sb a.data.toList = a:=by
 show (⟨a.data.toList.toArray⟩ : ByteArray) = a
 rw [Array.toArray_toList]
theorem of_bytes {l : List ByteArray} {m : List (List UInt8)} (h : l.map (·.data.toList) = m) : l = m.map sb:=by
 rw [← h,List.map_map]
 conv => lhs; rw [← List.map_id l]
 exact List.map_congr_left fun a _ => (sb_of a).symm
def spl (c : UInt8) (cur : List UInt8) : List UInt8 → List (List UInt8)
 | [] => [cur]
 | b :: r => if b = c then cur :: spl c [] r else spl c (cur ++ [b]) r
theorem spl_ne (c : UInt8) : ∀ (l cur : List UInt8),spl c cur l ≠ []
 | [],cur => by simp [spl]
 | b :: r,cur => by
  rw [spl]; split
  ·simp
  ·exact spl_ne c r _
theorem spl_no (c : UInt8) : ∀ (l cur : List UInt8),c ∉ cur → ∀ p ∈ spl c cur l,c ∉ p
 | [],cur,h,p,hp => by rw [spl,List.mem_singleton] at hp; rw [hp]; exact h
 | b :: r,cur,h,p,hp => by
  rw [spl] at hp
  split at hp
  ·rcases List.mem_cons.1 hp with rfl | hp
   ·exact h
   ·exact spl_no c r [] (by simp) p hp
  ·rename_i hb
   exact spl_no c r _ (fun hm => by
    rcases List.mem_append.1 hm with hm | hm
    ·exact h hm
    ·rw [List.mem_singleton] at hm; exact hb hm.symm) p hp
theorem joinC_cons (c : UInt8) (p : List UInt8) : ∀ (t : List (List UInt8)),t ≠ [] → joinC c (p :: t) = p ++ c :: joinC c t
 | [],h => absurd rfl h
 | q :: t,_ => by rw [joinC]
theorem join_spl (c : UInt8) : ∀ (l cur : List UInt8),joinC c (spl c cur l) = cur ++ l
 | [],cur => by rw [spl,joinC,List.append_nil]
 | b :: r,cur => by
  rw [spl]; split
  ·rename_i hb
   rw [joinC_cons c cur _ (spl_ne c r []),join_spl c r [],List.nil_append,hb]
  ·rw [join_spl c r _,List.append_assoc,List.singleton_append]
theorem pcs_join (ps : List (List UInt8)) (c : UInt8) (h0 : ps ≠ []) (h : ∀ p ∈ ps,c ∉ p) : (Hof.pcs ⟨(joinC c ps).toArray⟩ c).map (·.data.toList) = ps:=by
 unfold Hof.pcs
 rw [Lib.splitB_data]
 have e : Lib.countB ⟨(joinC c ps).toArray⟩ ⟨#[c]⟩ = ps.length - 1:=by
  show Lib.count (joinC c ps) [c] = _
  rw [Lib.count_one,count_join c ps h0 h]
 rw [e]
 exact split_join c ps h0 h
theorem pcs_spl (s : ByteArray) (c : UInt8) : (Hof.pcs s c).map (·.data.toList) = spl c [] s.data.toList:=by
 have h:=pcs_join (spl c [] s.data.toList) c (spl_ne _ _ _) (spl_no _ _ _ (by simp))
 rw [join_spl,List.nil_append] at h
 exact h
theorem spl_hit (c : UInt8) : ∀ (p r cur : List UInt8),c ∉ p → spl c cur (p ++ c :: r) = (cur ++ p) :: spl c [] r
 | [],r,cur,_ => by rw [List.nil_append,spl,if_pos rfl,List.append_nil]
 | b :: p,r,cur,h => by
  have hb : ¬ b = c:=fun e => h (by rw [e]; exact List.mem_cons_self)
  rw [List.cons_append,spl,if_neg hb,spl_hit c p r (cur ++ [b]) (fun e => h (List.mem_cons_of_mem _ e)),List.append_assoc,List.singleton_append]
def lnW (l : List UInt8) : List (List UInt8):=Fld.fld Hof.blankB [] (Lib.cut l [59]).1
theorem lines_spl (s : ByteArray) : Hof.lines07 s = (spl 10 [] s.data.toList).map fun l => (lnW l).map sb:=by
 unfold Hof.lines07
 have h:=of_bytes (pcs_spl s 10)
 rw [h,List.map_map]
 refine List.map_congr_left fun l _ => ?_
 have e:=of_bytes (Hof.wds_bytes (Hof.cutL (sb l)))
 exact e
def goodB (b : UInt8) : Bool:=!Hof.blankB b && b != 59 && b != 10
def GoodW (w : List UInt8) : Prop:=w ≠ [] ∧ ∀ b ∈ w,goodB b = true
theorem good_blank {b : UInt8} (h : goodB b = true) : Hof.blankB b = false:=by unfold goodB at h; simp at h; exact h.1.1
theorem good_cut {b : UInt8} (h : goodB b = true) : b ≠ 59 ∧ b ≠ 10:=by unfold goodB at h; simp at h; exact ⟨h.1.2,h.2⟩
theorem fld_word : ∀ (w r cur : List UInt8),(∀ b ∈ w,Hof.blankB b = false) → cur ++ w ≠ [] → Fld.fld Hof.blankB cur (w ++ 32 :: r) = (cur ++ w) :: Fld.fld Hof.blankB [] r
 | [],r,cur,_,h => by
  rw [List.append_nil] at h
  rw [List.nil_append,Fld.fld,show Hof.blankB 32 = true from rfl,if_pos rfl,if_neg h,List.append_nil]
 | b :: w,r,cur,hb,h => by
  rw [List.cons_append,Fld.fld,hb b List.mem_cons_self,if_neg (by simp),fld_word w r (cur ++ [b]) (fun x hx => hb x (List.mem_cons_of_mem _ hx)) (by simp),List.append_assoc,List.singleton_append]
theorem fld_last : ∀ (w cur : List UInt8),(∀ b ∈ w,Hof.blankB b = false) → cur ++ w ≠ [] → Fld.fld Hof.blankB cur w = [cur ++ w]
 | [],cur,_,h => by
  rw [List.append_nil] at h
  rw [Fld.fld,if_neg h,List.append_nil]
 | b :: w,cur,hb,h => by
  rw [Fld.fld,hb b List.mem_cons_self,if_neg (by simp),fld_last w (cur ++ [b]) (fun x hx => hb x (List.mem_cons_of_mem _ hx)) (by simp),List.append_assoc,List.singleton_append]
theorem fld_words : ∀ (ws : List (List UInt8)) (w : List UInt8),(∀ p ∈ w :: ws,p ≠ [] ∧ ∀ b ∈ p,Hof.blankB b = false) → Fld.fld Hof.blankB [] (w ++ ws.flatMap (fun p => 32 :: p)) = w :: ws
 | [],w,h => by
  rw [List.flatMap_nil,List.append_nil,fld_last w [] (h w List.mem_cons_self).2 (by simpa using (h w List.mem_cons_self).1),List.nil_append]
 | p :: ws,w,h => by
  rw [List.flatMap_cons,List.cons_append,fld_word w _ [] (h w List.mem_cons_self).2 (by simpa using (h w List.mem_cons_self).1),List.nil_append,fld_words ws p (fun q hq => h q (List.mem_cons_of_mem _ hq))]
def lineOf : List (List UInt8) → List UInt8
 | [] => []
 | w :: ws => w ++ ws.flatMap (fun p => 32 :: p)
theorem line_mem {ws : List (List UInt8)} (h : ∀ w ∈ ws,GoodW w) {b : UInt8} (hb : b ∈ lineOf ws) : b = 32 ∨ goodB b = true:=by
 cases ws with
 | nil => cases hb
 | cons w ws =>
  rcases List.mem_append.1 hb with hb | hb
  ·exact .inr ((h w List.mem_cons_self).2 b hb)
  ·obtain ⟨p,hp,hb⟩:=List.mem_flatMap.1 hb
   rcases List.mem_cons.1 hb with rfl | hb
   ·exact .inl rfl
   ·exact .inr ((h p (List.mem_cons_of_mem _ hp)).2 b hb)
theorem line_words {ws : List (List UInt8)} (h : ∀ w ∈ ws,GoodW w) : lnW (lineOf ws) = ws:=by
 have h59 : (59 : UInt8) ∉ lineOf ws:=fun hm => by
  rcases line_mem h hm with e | e
  ·cases e
  ·exact (good_cut e).1 rfl
 unfold lnW
 rw [cut_miss1 59 _ h59]
 cases ws with
 | nil => rfl
 | cons w ws => exact fld_words ws w (fun p hp => ⟨(h p hp).1,fun b hb => good_blank ((h p hp).2 b hb)⟩)
theorem line_ten {ws : List (List UInt8)} (h : ∀ w ∈ ws,GoodW w) : (10 : UInt8) ∉ lineOf ws:=fun hm => by
 rcases line_mem h hm with e | e
 ·cases e
 ·exact (good_cut e).2 rfl
def textOf (L : List (List (List UInt8))) : List UInt8:=L.flatMap fun ws => lineOf ws ++ [10]
theorem text_spl : ∀ (L : List (List (List UInt8))),(∀ ws ∈ L,∀ w ∈ ws,GoodW w) → spl 10 [] (textOf L) = L.map lineOf ++ [[]]
 | [],_ => rfl
 | ws :: L,h => by
  have e : textOf (ws :: L) = lineOf ws ++ 10 :: textOf L:=by simp [textOf]
  rw [e,spl_hit 10 _ _ _ (line_ten (h ws List.mem_cons_self)),text_spl L (fun x hx => h x (List.mem_cons_of_mem _ hx))]
  rfl
theorem text_lines (L : List (List (List UInt8))) (h : ∀ ws ∈ L,∀ w ∈ ws,GoodW w) : Hof.lines07 (sb (textOf L)) = L.map (fun ws => ws.map sb) ++ [[]]:=by
 rw [lines_spl]
 show (spl 10 [] (textOf L)).map _ = _
 rw [text_spl L h,List.map_append,List.map_map]
 congr 1
 exact List.map_congr_left fun ws hws => by
  show (lnW (lineOf ws)).map sb = _
  rw [line_words (h ws hws)]
theorem dig_good {b : UInt8} (h : 48 ≤ b.toNat ∧ b.toNat ≤ 57) : goodB b = true:=by
 unfold goodB Hof.blankB
 have h1 : b ≠ 59:=fun e => by rw [e] at h; exact absurd h.2 (by decide)
 have h2 : b ≠ 10:=fun e => by rw [e] at h; exact absurd h.1 (by decide)
 simp [h1,h2]
 omega
theorem dec_good (u : Nat) : GoodW (decDigits u):=by
 obtain ⟨c,r,h,_⟩:=dec_head u
 exact ⟨by rw [h]; simp,fun b hb => dig_good (Num.dec_all u u (Nat.le_refl _) b hb)⟩
theorem itoa_good (n : Int) : GoodW (itoa n):=by
 by_cases h : n < 0
 ·obtain ⟨u,rfl⟩ : ∃ u : Nat,n = -(u : Int):=⟨n.natAbs,by omega⟩
  rw [itoa_neg u (by omega)]
  exact ⟨by simp,fun b hb => by
   rcases List.mem_cons.1 hb with rfl | hb
   ·rfl
   ·exact (dec_good u).2 b hb⟩
 ·obtain ⟨u,rfl⟩ : ∃ u : Nat,n = u:=⟨n.toNat,by omega⟩
  rw [itoa_nonneg]
  exact dec_good u
theorem cons_good {b : UInt8} {w : List UInt8} (hb : goodB b = true) (h : ∀ c ∈ w,goodB c = true) : GoodW (b :: w):=⟨by simp,fun c hc => by
 rcases List.mem_cons.1 hc with rfl | hc
 ·exact hb
 ·exact h c hc⟩
theorem num_name (c : UInt8) (hc : letter c = true) (u : Nat) (hu : u < 10000000000) : nameB (c :: itoa (u : Int)) = true:=by
 rw [itoa_nonneg]
 unfold nameB
 have hl : (decDigits u).length ≤ 31:=by
  rw [decDigits_length]
  have:=Lib.nDigits_le20 u (by omega)
  omega
 simp only [Bool.and_eq_true,List.all_eq_true,decide_eq_true_eq]
 refine ⟨⟨by rw [List.length_cons]; omega,hc⟩,fun b hb => ?_⟩
 rcases List.mem_cons.1 hb with rfl | hb
 ·rw [hc]; rfl
 ·rw [(dig_iff b).2 (Num.dec_all u u (Nat.le_refl _) b hb),Bool.or_true]
theorem num_none (c : UInt8) (hc : letter c = true) (w : List UInt8) : numV (c :: w) = (0,false):=by
 have h0 : dig c = false:=by
  unfold letter at hc
  unfold dig
  simp at hc ⊢
  omega
 have h1 : trimPrefix (c :: w) [45] = c :: w:=by
  rw [trimP45,if_neg (fun e => by subst e; exact absurd hc (by decide))]
 unfold numV
 rw [h1]
 have : digsB (c :: w) = false:=by unfold digsB; simp [h0]
 rw [this]
 rfl
theorem num_itoa (m : Int) (h0 : -100000 < m) (h1 : m < 100000) : numV (itoa m) = (m,true):=by
 have key : ∀ u : Nat,u < 100000 → digsB (decDigits u) = true ∧ (decDigits u).length ≤ 9:=fun u hu => by
  refine ⟨(digsB_iff _).2 ⟨(dec_good u).1,fun b hb => (dig_iff b).2 (Num.dec_all u u (Nat.le_refl _) b hb)⟩,?_⟩
  have:=itoa_len (n:=(u : Int)) ⟨by omega,by omega⟩
  rw [itoa_nonneg] at this
  omega
 have ht : digsB (trimPrefix (itoa m) [45]) = true ∧ (trimPrefix (itoa m) [45]).length ≤ 9:=by
  by_cases h : m < 0
  ·obtain ⟨u,rfl⟩ : ∃ u : Nat,m = -(u : Int):=⟨m.natAbs,by omega⟩
   rw [itoa_neg u (by omega),trimP45,if_pos rfl]
   exact key u (by omega)
  ·obtain ⟨u,rfl⟩ : ∃ u : Nat,m = u:=⟨m.toNat,by omega⟩
   rw [itoa_nonneg]
   obtain ⟨c,r,he,hc⟩:=dec_head u
   rw [he,trimP45,if_neg (fun e => by subst e; exact absurd hc.1 (by decide)),← he]
   exact key u (by omega)
 unfold numV
 rw [ht.1,decide_eq_true ht.2,atoi_itoa m (by omega) (by omega)]
 rfl
theorem regs_all : ((List.range 16).all fun n => decide (regV (114 :: itoa (n : Int)) = ((n : Int),0))) = true:=by decide +kernel
theorem reg_itoa {n : Int} (h0 : 0 ≤ n) (h1 : n < 16) : regV (114 :: itoa n) = (n,0):=by
 obtain ⟨u,rfl⟩ : ∃ u : Nat,n = (u : Int):=⟨n.toNat,by omega⟩
 exact of_decide_eq_true (List.all_eq_true.1 regs_all u (List.mem_range.2 (by omega)))
theorem regs_itoa : ∀ (l acc : List Int),(∀ n ∈ l,0 ≤ n ∧ n < 16) → regsV acc 0 (l.map fun n => 114 :: itoa n) = (acc ++ l,0)
 | [],acc,_ => by simp [regsV]
 | n :: l,acc,h => by
  have hn:=h n List.mem_cons_self
  rw [List.map_cons,regsV,reg_itoa hn.1 hn.2,if_neg (by simp)]
  show regsV (acc ++ [n]) (max 0 0) _ = _
  rw [show max (0 : Int) 0 = 0 from rfl,regs_itoa l _ (fun x hx => h x (List.mem_cons_of_mem _ hx))]
  simp
end Go.Proofs.YtdbpglhdicmhhaaGreatDoor.Q
end
