import Derived.Test.YtdbpglhdicmhhaaGreatDoorMPr32
import Derived.Test.YtdbpglhdicmhhaaGreatDoorMPr4
import Derived.Test.YtdbpglhdicmhhaaGreatDoorMPr23
import Derived.Test.YtdbpglhdicmhhaaGreatDoorMPr20
import Derived.Test.YtdbpglhdicmhhaaGreatDoorMPr21
set_option maxHeartbeats 8000000
set_option maxRecDepth 100000
set_option linter.unusedVariables false
set_option linter.unusedSimpArgs false
section
namespace Go.Proofs.YtdbpglhdicmhhaaGreatDoor.qp
open Go.RowKit Go.Shelf Go.Proofs.YtdbpglhdicmhhaaGreatDoorW.aI Go.Proofs.YtdbpglhdicmhhaaGreatDoorW.aX Go.Proofs.YtdbpglhdicmhhaaGreatDoorW.aZ iM
open Go.Proofs.YtdbpglhdicmhhaaGreatDoor.GA
def Parsed (t : ByteArray) (w : World) (e : Ending) (W' : World) : Prop :=
 if 262144 < t.size then e = .returned (.tuple #[.agg #[.slice none 0 0,.slice none 0 0,.slice none 0 0],.int .i64 75,.int .i64 0]) ∧ Below w.heap.size w W'
 else if (gY t).wrong ≠ 0 then e = .returned (.tuple #[.agg #[.slice none 0 0,.slice none 0 0,.slice none 0 0],.int .i64 (gY t).wrong,.int .i64 (gY t).line]) ∧ Below w.heap.size w W'
 else ∃ k gr l h,e = .returned (.tuple #[.agg #[h.vc,h.vf,h.vt],.int .i64 0,.int .i64 0]) ∧ k ≤ 262144 ∧ dX k w W' gr l h (gY t)
theorem XH {w W : World} {gr gf gt gl : Nat} {l : List (Nat × Array Value × TypeId)} (M : bf vk w W ((gr,gZ ⟨.slice none 0 0,.slice none 0 0,.slice none 0 0,.slice none 0 0,.slice none 0 0,.slice none 0 0,gf,gt,gl,.map #[] 0,.map #[] 0,.map #[] 0,[]⟩ st0,55) :: l) [(gf,.map #[] 0),(gt,.map #[] 0),(gl,.map #[] 0)] []) : dX 0 w W gr l ⟨.slice none 0 0,.slice none 0 0,.slice none 0 0,.slice none 0 0,.slice none 0 0,.slice none 0 0,gf,gt,gl,.map #[] 0,.map #[] 0,.map #[] 0,[]⟩ st0:=by
 have M1:=(((((M.uK (Kd.int .u32) 39 (by decide)).uK (Kd.raw 2) 41 (by decide)).uK (Kd.raw 2) 44 (by decide)).uK (Kd.raw 5) 70 (by decide)).uK (Kd.int .i64) 3 (by decide)).uK (Kd.raw 5) 111 (by decide)
 exact ⟨M1,⟨Nat.le_refl _,Nat.le_refl _,Nat.le_refl _,Nat.le_refl _,Nat.le_refl _,Nat.le_refl _,fun t ht => by cases ht⟩,⟨uf.empty _ _ _,uf.empty _ _ _,uf.empty _ _ _⟩,rfl⟩
theorem dX.mono {k k' : Nat} {w0 W : World} {gr : Nat} {l : List (Nat × Array Value × TypeId)} {h : Hd} {s : St} (M : dX k w0 W gr l h s) (hk : k ≤ k') : dX k' w0 W gr l h s:=⟨M.mem,M.few.mono hk,M.says.mono hk,M.len⟩
theorem dX.drop {k : Nat} {w0 W : World} {gr : Nat} {a b c : Nat × Array Value × TypeId} {h : Hd} {s : St} (M : dX k w0 W gr [a,b,c] h s) : dX k w0 W gr [a,b] h s:=⟨M.mem.forget 3,M.few,M.says,M.len⟩
theorem kW {P : Program} {ops : Array Oper} {md : Region.Mode} {o : Oper} {a : Act} {Q : Exit → Act → World → Prop} {es : List TypeId} {w0 w : World} {l : List (Nat × Array Value × TypeId)} {rows : List Row} {fx : List (Nat × Obj)} {fuel : Nat} {listed : Array Bool} {ds : List Nat} {K : List (Addr × Value)} (HK : ah (Know K w))
  (M : ah (bf es w0 w l fx rows)) (i : Nat) (t : TypeId) (p : Tmp) (k : Nat) (new : Array Value) {g : Nat} {old : Array Value} {tb : TypeId} {x : Operand} {rs : List Nat}
  (hKg : ∀ c ∈ K,c.1.block ≠ g ∧ c.1.block < w.heap.size) (h : ∀ w',ah (bf es w0 w' (l.set k (g,new,tb)) fx rows) → ah (Know K w') → bJ P md ops Q (Know K) ds fuel (listed.setIfInBounds i true) a w')
  (hrest : aK P md ops Q (Know K) ds fuel listed a w rs)
  (hoi : ops[i]? = some o:=by rfl) (hn : o.dst = none:=by rfl) (hw : Region.wanted o (yielded ops a.tmps) = true:=by rfl) (hd : i ∉ ds:=by decide) (ho : o.op = .store t (.tmp p) x:=by rfl)
  (hk : l[k]? = some (g,old,tb):=by rfl) (hx : a.eval (.tmp p) = .pointer (some ⟨g,0,none⟩):=by rfl) (hv : a.eval x = .agg new:=by rfl)
  (hs : (P.info? t).map (·.size) = some new.size:=by kernel_rfl) (hso : old.size = new.size:=by rfl) (h1 : new.all (·.oneCell') = true:=by kernel_rfl) : aK P md ops Q (Know K) ds fuel listed a w (i :: rs):=by
 refine aK.cons hoi hd (fun K' hK => ?_) hrest
 rw [if_pos hw]
 have M0:=M.out.mem
 refine wp_store_row t (.tmp p) x ho g new hx hv tb old (M0.at k hk) hs hso h1 ?_
 rw [hn]
 have hkb:=BX w g new
 have M1:=Mem.keep M0 k hk (setRow_heap _ _ _ _ _ _ (M0.at k hk)) hkb (Dv M0.below (M0.ge k hk) new)
 have hkn : ∀ W2,eu w W2 g none → Know K W2:=fun W2 hW2 c hc => by
  have h1:=hW2.2 c.1.block (hKg c hc).2 (hKg c hc).1 (by simp)
  have h2:=HK.out c hc
  unfold World.cell? at h2 ⊢
  rw [h1]; exact h2
 exact hK.out _ _ (hkn _ hkb) (fun _ => h _ ⟨M.out.other M1 (fun q y hy => hkb.2 y.1 (jk (M.out.fix q y hy).1) (M.out.FZ k q hk hy) (by simp))⟩ ⟨hkn _ hkb⟩)
theorem Rh (t : ByteArray) (ht : 262144 < t.size) (htz : t.size ≤ 9223372036854775807) (w : World) : Calls Tryz.prog 9 #[.string t] w (Parsed t w):=by
 have e4 : decide ((t.size : Int) > 262144) = true:=decide_eq_true (by omega)
 have HR:=Lib.hid ht
 have M0:=ah.mk (bf.start vk w)
 clear ht
 go_enter Tryz.func9,Tryz.ntmps9
 go_wp2_with (first
  | ((with_reducible refine bI (N:=2) rfl ?_); refine fB M0 2 #[.slice none 0 0,.slice none 0 0,.slice none 0 0] 26 ?_; clear M0; intro g2 w1 M1)
  | ((with_reducible refine aU (t:=26) (p:=2) rfl ?_); refine fW M1 26 2 0 #[.slice none 0 0,.slice none 0 0,.slice none 0 0] ?_ rfl rfl (by kernel_rfl); clear M1; intro w2 M2))
 refine bodyPost_ret (Aa rfl _ _ g2 26 #[.slice none 0 0,.slice none 0 0,.slice none 0 0] (0,0) _ rfl (M2.out.mem.at 0 rfl) Tryz.underlying26 rfl (by kernel_rfl)) rfl ?_
 unfold Parsed
 rw [if_pos HR.out]
 exact ⟨rfl,M2.out.mem.below⟩
theorem PL (t : ByteArray) (ht : ¬ 262144 < t.size) (w : World) (S0 : Std w) : Calls Tryz.prog 9 #[.string t] w (Parsed t w):=by
 have S:=Lib.hid S0
 have e4 : decide ((t.size : Int) > 262144) = false:=decide_eq_false (by omega)
 have HS:=Lib.hid (show t.size ≤ 262144 by omega)
 have HP:=Lib.hid (show ∀ e W',Parsed t w e W' = (if (gY t).wrong ≠ 0 then e = .returned (.tuple #[.agg #[.slice none 0 0,.slice none 0 0,.slice none 0 0],.int .i64 (gY t).wrong,.int .i64 (gY t).line]) ∧ Below w.heap.size w W'
  else ∃ k gr l h,e = .returned (.tuple #[.agg #[h.vc,h.vf,h.vt],.int .i64 0,.int .i64 0]) ∧ k ≤ 262144 ∧ dX k w W' gr l h (gY t)) from fun e W' => if_neg ht)
 obtain ⟨res,hres⟩ : ∃ s,s = st0.run 0 (TP t):=⟨_,rfl⟩
 have HF:=Lib.hid (show gY t = res.done by rw [hres]; rfl)
 have HRS:=Lib.hid hres
 have M0:=ah.mk (bf.start vk w)
 clear ht S0 hres
 go_enter Tryz.func9,Tryz.ntmps9
 go_wp2_with (first
  | ((with_reducible refine bI (N:=2) rfl ?_); refine fB M0 2 #[.slice none 0 0,.slice none 0 0,.slice none 0 0] 26 ?_; clear M0; intro g2 w1 M1)
  | ((with_reducible refine bI (N:=13) rfl ?_); refine fMk M1 ?_; clear M1; intro gf w2 M2)
  | ((with_reducible refine bI (N:=14) rfl ?_); refine fMk M2 ?_; clear M2; intro gt w3 M3)
  | ((with_reducible refine bI (N:=15) rfl ?_); refine fMk M3 ?_; clear M3; intro gl w4 M4)
  | ((with_reducible refine bI (N:=17) rfl ?_); refine fB M4 17 (gZ ⟨.slice none 0 0,.slice none 0 0,.slice none 0 0,.slice none 0 0,.slice none 0 0,.slice none 0 0,gf,gt,gl,.map #[] 0,.map #[] 0,.map #[] 0,[]⟩ st0) 55 ?_; clear M4; intro gr w5 M5))
 have M6:=ah.mk (XH (l:=[(g2,#[.slice none 0 0,.slice none 0 0,.slice none 0 0],26)]) (M5.out.perm (List.Perm.swap _ _ _)))
 clear M5
 refine (Ri M6.out.mem (by decide) (S.out.below M6.out.below) t HS.out).mono ?_
 rintro e W29 ⟨gs,rfl,M7_⟩
 have M7:=ah.mk (dX.mk (k:=0) (s:=st0) (h:=⟨.slice none 0 0,.slice none 0 0,.slice none 0 0,.slice none 0 0,.slice none 0 0,.slice none 0 0,gf,gt,gl,.map #[] 0,.map #[] 0,.map #[] 0,[]⟩) (l:=[(g2,#[.slice none 0 0,.slice none 0 0,.slice none 0 0],26),(gs,((Qm t 10).map Value.string).toArray,9)]) M7_ M6.out.few M6.out.says M6.out.len)
 clear M6 M7_ e4
 obtain ⟨VZ,hcur⟩ : ∃ c,c = ((Qm t 10).map Value.string).toArray:=⟨_,rfl⟩
 rw [← hcur] at M7
 have HCU:=Lib.hid (show ∀ (i : Nat) p,(Qm t 10)[i]? = some p → VZ[i]? = some (.string p) from fun i p hp => by rw [hcur,List.getElem?_toArray,List.getElem?_map,hp]; rfl)
 clear hcur
 have HPN:=Lib.hid (show (Qm t 10).length ≤ 262145 by rw [TT]; have:=Lib.countB_le ⟨#[10]⟩ (by decide) t.size t (Nat.le_refl _); have:=HS.out; omega)
 have Yw:=Lib.hid (Nat.le_trans (ZW t 10) HS.out)
 have abv:=Lib.hid (show St.run st0 0 (((Qm t 10).map (fun p => Qh (IV p))).drop 0) = res from HRS.out.symm)
 clear HRS
 generalize Qm t 10 = ps at abv HCU HPN Yw
 go_wp2_with fail
 go_loopw [21] (fun v21 wr => ∃ (i k : Nat) (s2 : St) (h : Hd),i ≤ ps.length ∧ v21 = .int .i64 (i : Int) ∧ Good s2 ∧ k ≤ D8 (ps.take i) ∧ St.run s2 i ((ps.map (fun p => Qh (IV p))).drop i) = res ∧ dX k w wr gr [(g2,#[.slice none 0 0,.slice none 0 0,.slice none 0 0],26),(gs,VZ,9)] h s2) (fun v21 _ => ps.length - (intOf v21).toNat)
 case atStart => exact ⟨0,0,st0,_,Nat.zero_le _,rfl,ae3,Nat.zero_le _,abv.out,M7.out⟩
 obtain ⟨i,k,s2,h,hi,rfl,hg,hk,hrn,M⟩:=hrel
 have HG:=Lib.hid hg
 have HKS:=Lib.hid hk
 have HRN:=Lib.hid hrn
 clear M7 hg hk hrn abv
 by_cases hir : i < ps.length
 ·obtain ⟨p,hp⟩ : ∃ p,ps[i]? = some p:=⟨_,List.getElem?_eq_getElem hir⟩
  have xs : wr.cell? ⟨gs,i,none⟩ = some (.string p):=(M.mem.mem.cell 2 rfl i).trans (HCU.out i p hp)
  have hpz : p.size ≤ 262144:=Nat.le_trans (P8 (List.mem_of_getElem? hp)) Yw.out
  have HPZ:=Lib.hid hpz
  have HCZ:=Lib.hid (Nat.le_trans (FT p) hpz)
  have HST:=Lib.hid (U8 ps i hp)
  have HDR:=Lib.hid (show (ps.map (fun p => Qh (IV p))).drop i = Qh (IV p) :: (ps.map (fun p => Qh (IV p))).drop (i + 1) from drop_cons (by rw [List.getElem?_map,hp]; rfl))
  have q2 : (i : Int) < (ps.length : Int):=by omega
  have JY:=Lib.hid hir
  have W1:=Lib.hid (show wrap64 ((i : Int) + 1) = ((i + 1 : Nat) : Int) by rw [Int.natCast_add]; exact IntWalk.wrap64_in _ (by have:=HPN.out; omega))
  obtain ⟨mx,hmx⟩:=(S.out.below M.below).max
  have ahU:=Lib.hid (fun W hm => Tryz.strings_Cut p ⟨#[59]⟩ mx W (by omega) hm)
  have HMX:=Lib.hid hmx
  have M1:=ah.mk M
  clear hp hir hpz hmx M
  obtain ⟨vc,vf,vt,vi,vo,vu,gf2,gt2,gl2,of,ot,ol,vs⟩:=h
  go_wp2_with fail
  refine (ahU.out _ HMX.out).mono ?_
  rintro e W2 ⟨rfl,n2,rfl⟩
  have M2:=ah.mk (M1.out.call (aj (Below.refl _ _) n2))
  clear M1 xs
  revert M2
  generalize wr.drewN n2 = Vl
  intro M2
  go_wp2_with fail
  refine (Ve M2.out.mem (by decide) (IV p) HCZ.out).mono ?_
  rintro e W3 ⟨gw,cur,rfl,M3_,hcu⟩
  have HCW:=Lib.hid hcu
  have M3:=ah.mk (dX.mk (k:=k) (s:=s2) (h:=⟨vc,vf,vt,vi,vo,vu,gf2,gt2,gl2,of,ot,ol,vs⟩) (l:=[(g2,#[.slice none 0 0,.slice none 0 0,.slice none 0 0],26),(gs,VZ,9),(gw,cur,9)]) M3_ M2.out.few M2.out.says M2.out.len)
  clear M2 M3_ hcu
  have w1x : wrap64 ((i : Int) + 1) = ((i + 1 : Nat) : Int):=W1.out
  cases hws : Qh (IV p) with
  | nil =>
   go_wp2_with (first
    | ((with_reducible refine aU (t:=3) (p:=38) rfl ?_); refine fS (ah.mk M3.out.mem) 3 (.tmp 38) 0 13 (.int .i64 ((i + 1 : Nat) : Int)) (dN vc vf vt vi gf2 gt2 gl2 vo s2.cases s2.idle vu s2.wrong s2.line ((i + 1 : Nat) : Int)) ?_ rfl rfl rfl rfl; have HF3:=Lib.hid M3.out; clear M3; intro w40 M4))
   go_roundw
   case rel =>
    exact ⟨i + 1,k,{ s2 with now:=((i + 1 : Nat) : Int) },⟨vc,vf,vt,vi,vo,vu,gf2,gt2,gl2,of,ot,ol,vs⟩,JY.out,congrArg _ W1.out,HG.out.now _,by have h1:=HKS.out; have h2:=HST.out; omega,by rw [← HRN.out,HDR.out,hws,P6]; rfl,
     dX.drop ⟨M4.out,HF3.out.few.like,⟨HF3.out.says.f,HF3.out.says.t,HF3.out.says.l⟩,HF3.out.len⟩⟩
   case measure => exact meas JY.out W1.out
  | cons s0 r =>
   have hlw:=aak (IV p)
   rw [hws] at hlw HCW
   have HLW:=Lib.hid hlw
   have HZ:=Lib.hid (fun q (hq : q ∈ s0 :: r) => (show q.size ≤ 262144 from Nat.le_trans (Yd (s:=IV p) (by rw [hws]; exact hq)) HCZ.out))
   have HWS:=Lib.hid hws
   have he0 : ((s0 :: r).length : Int) > 0:=by simp only [List.length_cons]; omega
   have he1 : decide (((s0 :: r).length : Int) > 0) = true:=decide_eq_true he0
   have he2 : ((r.length : Int) + 1 > 0):=by omega
   have he3 : decide ((0 : Int) < (r.length : Int) + 1) = true:=decide_eq_true (by omega)
   have he4 : (0 : Int) < (r.length : Int) + 1:=by omega
   clear hlw hws
   go_wp2_with (first
    | ((with_reducible refine aU (t:=3) (p:=38) rfl ?_); refine fS (ah.mk M3.out.mem) 3 (.tmp 38) 0 13 (.int .i64 ((i + 1 : Nat) : Int)) (dN vc vf vt vi gf2 gt2 gl2 vo s2.cases s2.idle vu s2.wrong s2.line ((i + 1 : Nat) : Int)) ?_ rfl rfl rfl rfl; have HF3:=Lib.hid M3.out; clear M3; intro w40 M4))
   have M5:=ah.mk (dX.mk (k:=k) (s:={ s2 with now:=((i + 1 : Nat) : Int) }) (h:=⟨vc,vf,vt,vi,vo,vu,gf2,gt2,gl2,of,ot,ol,vs⟩) (l:=[(g2,#[.slice none 0 0,.slice none 0 0,.slice none 0 0],26),(gs,VZ,9),(gw,cur,9)]) M4.out (HF3.out.few.like) ⟨HF3.out.says.f,HF3.out.says.t,HF3.out.says.l⟩ HF3.out.len)
   clear M4
   have HKB:=Lib.hid (show k < 262144 by have h1:=HKS.out; have h2:=HST.out; have h3:=HLW.out; have h4:=FT p; have h5:=TW ps (i + 1); have h6:=Yw.out; simp only [List.length_cons] at h3; omega)
   refine (Rl (n:=(s0 :: r).length) (c:=(s0 :: r).length) M5.out S.out HKB.out ⟨⟨2,cur,rfl,HCW.out⟩,rfl,Nat.le_refl _,by have h3:=HLW.out; have h4:=HCZ.out; omega,HZ.out⟩ (HG.out.now _).fine).mono ?_
   rintro e W50 ⟨rfl,h',M6_⟩
   have M6:=ah.mk M6_.drop
   clear M5 M6_
   go_wp2
   go_roundw
   case rel =>
    refine ⟨i + 1,k + 1,_,h',JY.out,congrArg _ W1.out,(HG.out.now ((i + 1 : Nat) : Int)).read (s0 :: r) HZ.out (by have h1:=HF3.out.few.funcs; have h2:=HKB.out; show s2.funcs.length ≤ _; omega),?_,?_,M6.out⟩
    ·have h1:=HKS.out; have h2:=HST.out; have h3:=HLW.out; have h4:=FT p; simp only [List.length_cons] at h3; omega
    ·rw [← HRN.out,HDR.out,HWS.out,P6]
     rfl
   case measure => exact meas JY.out W1.out
 ·obtain rfl : i = ps.length:=by omega
  have q2 : ¬ ((ps.length : Nat) : Int) < ((ps.length : Nat) : Int):=by omega
  have HE:=Lib.hid (show s2 = res by have h:=HRN.out; rw [List.drop_eq_nil_of_le (by rw [List.length_map]; exact Nat.le_refl _)] at h; exact h)
  have HKB:=Lib.hid (show k ≤ 262144 by have h1:=HKS.out; have h5:=TW ps ps.length; have h6:=Yw.out; omega)
  have M1:=ah.mk M
  clear M hir
  go_wp2_with fail
  refine (CW M1.out S.out HKB.out).mono ?_
  rintro e W51 ⟨rfl,M2_⟩
  have M2:=ah.mk M2_
  clear M1 M2_
  have hgc:=HG.out.closed
  obtain ⟨sc,hsc⟩ : ∃ x,x = s2.closed:=⟨_,rfl⟩
  rw [← hsc] at M2 hgc
  have Yo:=Lib.hid hgc
  have Um:=Lib.hid hsc
  clear hsc hgc
  obtain ⟨vc,vf,vt,vi,vo,vu,gf2,gt2,gl2,of,ot,ol,vs⟩:=h
  have x11 : W51.cell? ⟨gr,11,none⟩ = some (.int .i64 sc.wrong):=bY M2.out.mem 11 rfl
  by_cases hw : sc.wrong = 0
  ·have b1 : (sc.wrong == 0) = true:=beq_iff_eq.mpr hw
   have HND:=Lib.hid (Py M2.out S.out HKB.out (Yo.out.adA hw))
   have abn:=Lib.hid (show gY t = sc.qN sc.uses by rw [HF.out,← HE.out]; unfold St.done; rw [← Um.out,if_pos hw])
   rw [hw] at x11
   clear hw
   go_wp2_with fail
   refine HND.out.mono ?_
   rintro e W52 ⟨rfl,M3_⟩
   have M3:=ah.mk M3_
   clear M2 M3_ x11 b1
   rw [← abn.out] at M3
   have x11 : W52.cell? ⟨gr,11,none⟩ = some (.int .i64 (gY t).wrong):=bY M3.out.mem 11 rfl
   by_cases hw2 : (gY t).wrong = 0
   ·have HW2:=Lib.hid hw2
    rw [hw2] at x11
    clear hw2
    have o0:=bf.one M3.out.mem 0 rfl
    have o1:=bf.one M3.out.mem 1 rfl
    have o2:=bf.one M3.out.mem 2 rfl
    have H3:=Lib.hid (show (#[vc,vf,vt] : Array Value).all (·.oneCell') = true by simp [show vc.oneCell' = true from o0,show vf.oneCell' = true from o1,show vt.oneCell' = true from o2])
    clear o0 o1 o2
    have hrg:=fun (j : Nat) (u : Value) (hj : [vc,vf,vt][j]? = some u) => bY M3.out.mem j (u:=u) (by rcases j with _ | _ | _ | j <;> simp at hj <;> subst hj <;> rfl)
    go_wp2_with (first
     | ((with_reducible refine bI (N:=72) rfl ?_); refine wpList_load_mid rfl 26 (.tmp 71) rfl gr 0 rfl [vc,vf,vt] _ (fun j u hj => by have h:=hrg j u hj; rw [Nat.zero_add]; exact h) Tryz.underlying26 rfl (by kernel_rfl) ?_)
     | ((with_reducible refine aU (t:=26) (p:=2) rfl ?_); refine fW (ah.mk M3.out.mem) 26 2 1 #[vc,vf,vt] ?_ rfl rfl H3.out; have HF3:=Lib.hid M3.out; clear M3; intro w2 M4))
    refine bodyPost_ret (Aa rfl _ _ g2 26 #[vc,vf,vt] (0,0) _ rfl (M4.out.mem.at 1 rfl) Tryz.underlying26 rfl (by kernel_rfl)) rfl ?_
    rw [HP.out,if_neg (fun h => h HW2.out)]
    exact ⟨k,gr,[(g2,#[vc,vf,vt],26),(gs,VZ,9)],⟨vc,vf,vt,vi,.slice none 0 0,vu,gf2,gt2,gl2,of,ot,ol,vs⟩,rfl,HKB.out,M4.out,HF3.out.few,HF3.out.says,HF3.out.len⟩
   ·have hfin_:=trivial
    have e17 : ((gY t).wrong != 0) = true:=bne_iff_ne.mpr hw2
    have HW2:=Lib.hid hw2
    clear hw2
    go_wp2_with fail
    refine gQ [] [(⟨gr,11,none⟩,.int .i64 (gY t).wrong),(⟨gr,12,none⟩,.int .i64 (gY t).line)] (ah.mk M3.out.mem) ?_ (fun w4 MD fV => ?_)
    ·intro q hq
     simp only [List.mem_cons,List.not_mem_nil,or_false] at hq
     rcases hq with rfl | rfl
     ·exact bY M3.out.mem 11 rfl
     ·exact bY M3.out.mem 12 rfl
    clear x11 M3
    refine kP 0 60 (.agg #[.slice none 0 0,.slice none 0 0,.slice none 0 0]) ?_
    simp only [Act.put,bF,bH,bG]
    refine kP 1 61 (.pointer (some ⟨gr,0,none⟩)) ?_
    simp only [Act.put,bF,bH,bG]
    refine kP 2 62 (.pointer (some ⟨gr,0,none⟩)) ?_
    simp only [Act.put,bF,bH,bG]
    refine kP 3 63 (.pointer (some ⟨gr,11,none⟩)) ?_
    simp only [Act.put,bF,bH,bG]
    refine kE fV 4 64 0 ?_
    simp only [Act.put,bF,bH,bG]
    refine kP 5 65 (.pointer (some ⟨gr,0,none⟩)) ?_
    simp only [Act.put,bF,bH,bG]
    refine kP 6 66 (.pointer (some ⟨gr,0,none⟩)) ?_
    simp only [Act.put,bF,bH,bG]
    refine kP 7 67 (.pointer (some ⟨gr,12,none⟩)) ?_
    simp only [Act.put,bF,bH,bG]
    refine kE fV 8 68 1 ?_
    simp only [Act.put,bF,bH,bG]
    refine kR [9] ?_
    refine kW fV MD 9 26 2 1 #[.slice none 0 0,.slice none 0 0,.slice none 0 0] (fun c hc => by have h1:=MD.out.mem.at 0 rfl; have h2:=MD.out.mem.at 1 rfl; have h3:=MD.out.mem.apart; simp only [List.mem_cons,List.not_mem_nil,or_false] at hc; have h4 : gr ≠ g2:=(List.pairwise_cons.1 h3).1 _ List.mem_cons_self; rcases hc with rfl | rfl <;> exact ⟨h4,jk h1⟩) ?_ aK.nil
    clear MD fV
    intro w6 MG D9
    refine kP 10 3 (.int .i64 (gY t).wrong) ?_
    simp only [Act.put,bF,bH,bG]
    refine kP 11 4 (.int .i64 (gY t).line) ?_
    simp only [Act.put,bF,bH,bG]
    refine iG ?_
    go_wp2
    refine bodyPost_ret (Aa rfl _ _ g2 26 #[.slice none 0 0,.slice none 0 0,.slice none 0 0] (0,0) _ rfl (MG.out.mem.at 1 rfl) Tryz.underlying26 rfl (by kernel_rfl)) rfl ?_
    rw [HP.out,if_pos HW2.out]
    exact ⟨rfl,MG.out.mem.below⟩
  ·have b1 : (sc.wrong == 0) = false:=beq_eq_false_iff_ne.mpr hw
   have abn:=Lib.hid (show gY t = sc by rw [HF.out,← HE.out]; unfold St.done; rw [← Um.out,if_neg hw])
   have hw2:=hw
   clear hw
   have e17 : (sc.wrong != 0) = true:=bne_iff_ne.mpr hw2
   have HW2:=Lib.hid hw2
   clear hw2
   go_wp2_with fail
   refine gQ [] [(⟨gr,11,none⟩,.int .i64 sc.wrong),(⟨gr,12,none⟩,.int .i64 sc.line)] (ah.mk M2.out.mem) ?_ (fun w4 MD fV => ?_)
   ·intro q hq
    simp only [List.mem_cons,List.not_mem_nil,or_false] at hq
    rcases hq with rfl | rfl
    ·exact bY M2.out.mem 11 rfl
    ·exact bY M2.out.mem 12 rfl
   clear x11 M2
   refine kP 0 60 (.agg #[.slice none 0 0,.slice none 0 0,.slice none 0 0]) ?_
   simp only [Act.put,bF,bH,bG]
   refine kP 1 61 (.pointer (some ⟨gr,0,none⟩)) ?_
   simp only [Act.put,bF,bH,bG]
   refine kP 2 62 (.pointer (some ⟨gr,0,none⟩)) ?_
   simp only [Act.put,bF,bH,bG]
   refine kP 3 63 (.pointer (some ⟨gr,11,none⟩)) ?_
   simp only [Act.put,bF,bH,bG]
   refine kE fV 4 64 0 ?_
   simp only [Act.put,bF,bH,bG]
   refine kP 5 65 (.pointer (some ⟨gr,0,none⟩)) ?_
   simp only [Act.put,bF,bH,bG]
   refine kP 6 66 (.pointer (some ⟨gr,0,none⟩)) ?_
   simp only [Act.put,bF,bH,bG]
   refine kP 7 67 (.pointer (some ⟨gr,12,none⟩)) ?_
   simp only [Act.put,bF,bH,bG]
   refine kE fV 8 68 1 ?_
   simp only [Act.put,bF,bH,bG]
   refine kR [9] ?_
   refine kW fV MD 9 26 2 1 #[.slice none 0 0,.slice none 0 0,.slice none 0 0] (fun c hc => by have h1:=MD.out.mem.at 0 rfl; have h2:=MD.out.mem.at 1 rfl; have h3:=MD.out.mem.apart; simp only [List.mem_cons,List.not_mem_nil,or_false] at hc; have h4 : gr ≠ g2:=(List.pairwise_cons.1 h3).1 _ List.mem_cons_self; rcases hc with rfl | rfl <;> exact ⟨h4,jk h1⟩) ?_ aK.nil
   clear MD fV
   intro w6 MG D9
   refine kP 10 3 (.int .i64 sc.wrong) ?_
   simp only [Act.put,bF,bH,bG]
   refine kP 11 4 (.int .i64 sc.line) ?_
   simp only [Act.put,bF,bH,bG]
   refine iG ?_
   go_wp2
   refine bodyPost_ret (Aa rfl _ _ g2 26 #[.slice none 0 0,.slice none 0 0,.slice none 0 0] (0,0) _ rfl (MG.out.mem.at 1 rfl) Tryz.underlying26 rfl (by kernel_rfl)) rfl ?_
   rw [HP.out,abn.out,if_pos HW2.out]
   exact ⟨rfl,MG.out.mem.below⟩
theorem PK (t : ByteArray) (htz : t.size ≤ 9223372036854775807) (w : World) (S : Std w) : Calls Tryz.prog 9 #[.string t] w (Parsed t w):=by
 by_cases ht : 262144 < t.size
 ·exact Rh t ht htz w
 ·exact PL t ht w S
end Go.Proofs.YtdbpglhdicmhhaaGreatDoor.qp
end

section
namespace Go.Proofs.YtdbpglhdicmhhaaGreatDoor.GA
open Go.RowKit Go.Proofs.YtdbpglhdicmhhaaGreatDoorW.aI Go.Proofs.YtdbpglhdicmhhaaGreatDoorW.aX Go.Proofs.YtdbpglhdicmhhaaGreatDoorW.aZ
end Go.Proofs.YtdbpglhdicmhhaaGreatDoor.GA
end

section
namespace Go.Proofs.YtdbpglhdicmhhaaGreatDoor.GA
open Go.RowKit Go.Proofs.YtdbpglhdicmhhaaGreatDoorW.aI Go.Proofs.YtdbpglhdicmhhaaGreatDoorW.aX Go.Proofs.YtdbpglhdicmhhaaGreatDoorW.aZ
end Go.Proofs.YtdbpglhdicmhhaaGreatDoor.GA
end

section
namespace Go.Proofs.YtdbpglhdicmhhaaGreatDoor.qp
open Go.RowKit Go.Shelf Go.Proofs.YtdbpglhdicmhhaaGreatDoorW.aI Go.Proofs.YtdbpglhdicmhhaaGreatDoorW.aX Go.Proofs.YtdbpglhdicmhhaaGreatDoorW.aZ iM
open Go.Proofs.YtdbpglhdicmhhaaGreatDoor.GA
section
variable {P : Program} {ops : Array Oper} {md : Region.Mode} {o : Oper} {a : Act} {Q : Exit → Act → World → Prop} {es : List TypeId} {w0 w : World} {l : List (Nat × Array Value × TypeId)} {rows : List Row} {fx : List (Nat × Obj)} {fuel : Nat} {listed : Array Bool} {ds : List Nat} {K : List (Addr × Value)}
end
end Go.Proofs.YtdbpglhdicmhhaaGreatDoor.qp
end

section
namespace Go.Proofs.YtdbpglhdicmhhaaGreatDoor.qp
open Go.RowKit Go.Shelf Go.Proofs.YtdbpglhdicmhhaaGreatDoorW.aI Go.Proofs.YtdbpglhdicmhhaaGreatDoorW.aX Go.Proofs.YtdbpglhdicmhhaaGreatDoorW.aZ iM
open Go.Proofs.YtdbpglhdicmhhaaGreatDoor.GA
theorem Jq {α β : Type} {R : α → List Value → Prop} {R' : β → List Value → Prop} {sz n : Nat} {w : World} {A : Option Addr} {xs : List α} {ys : List β} (h : qZ R sz w A n xs) (hl : ys.length = xs.length)
  (hr : ∀ (j : Nat) (p : α) (q : β) (cs : List Value),xs[j]? = some p → ys[j]? = some q → R p cs → R' q cs) : qZ R' sz w A n ys:=by
 refine ⟨hl.trans h.1,h.2.1,fun hn => ?_⟩
 obtain ⟨ad,e,hc⟩:=h.2.2 hn
 refine ⟨ad,e,fun j q hj => ?_⟩
 obtain ⟨p,hp⟩ : ∃ p,xs[j]? = some p:=⟨_,List.getElem?_eq_getElem (by have:=(List.getElem?_eq_some_iff.1 hj).1; omega)⟩
 obtain ⟨c,h1,h2,h3⟩:=hc j p hp
 exact ⟨c,h1,hr j p q c hp hj h2,h3⟩
theorem ade (w : World) : PC w none 0 [] none 0 [] none 0 []:=by
 have key : ∀ {α : Type} (d : Kd α),d.C w none 0 []:=fun d => ⟨rfl,by omega,fun h => absurd h (Nat.lt_irrefl 0)⟩
 exact ⟨key _,Nat.le_refl _,key _,Nat.le_refl _,key _,Nat.le_refl _⟩
section
variable {es : List TypeId} {w0 W W1 : World} {l : List (Nat × Array Value × TypeId)} {fx : List (Nat × Obj)} {rows : List Row}
theorem _root_.Go.Proofs.YtdbpglhdicmhhaaGreatDoor.iM.bf.ajb (M : bf es w0 W l fx rows) : bf es w0 W l [] rows:=⟨M.mem,fun i x h => by simp at h,fun i j x y h => by simp at h⟩
theorem afu {vc vf vt : Value} {vs : List Value} {l0 : List Int} {l1 : List jw} {l2 : List qB} (M : bf es w0 W l fx (Fa vc vf vt vs l0 l1 l2)) (hv : vs.length = l2.length) :
  ∃ A0 c0 A1 c1 A2 c2,vc = .slice A0 l0.length c0 ∧ vf = .slice A1 l1.length c1 ∧ vt = .slice A2 l2.length c2 ∧ PC W A0 c0 l0 A1 c1 l1 A2 c2 l2:=by
 obtain ⟨A0,c0,e0,k0,h0⟩:=Kd.zS (M.mem.owns 0 _ rfl)
 obtain ⟨A1,c1,e1,k1,h1⟩:=Kd.zS (M.mem.owns 1 _ rfl)
 obtain ⟨A2,c2,e2,k2,h2⟩:=Kd.zS (M.mem.owns 2 _ rfl)
 have n1 : ((vM l1).map ints).length = l1.length:=by simp
 have hvt : vs.length = (uw l2).length:=by rw [hv,List.length_map]
 have n2 : (fF vs (uw l2)).length = l2.length:=by rw [qG hvt,List.length_map]
 dsimp only at e0 e1 e2 k0 k1 k2 h0 h1 h2
 rw [n1] at e1 k1 h1
 rw [n2] at e2 k2 h2
 refine ⟨A0,c0,A1,c1,A2,c2,e0,e1,e2,h0,k0,?_,k1,?_,k2⟩
 ·refine Jq h1 n1.symm (fun j p q cs hp hq hR => ?_)
  have hp2 : ((vM l1).map ints)[j]? = some (ints [q.f0,q.f1]):=by rw [List.getElem?_map,List.getElem?_map,hq]; rfl
  obtain rfl:=Option.some.inj (hp.symm.trans hp2)
  obtain ⟨rfl,_⟩:=hR
  exact acV W q
 ·refine Jq h2 n2.symm (fun j p q cs hp hq hR => ?_)
  have ht : (uw l2)[j]? = some (q.f1,sK q.f0):=by rw [List.getElem?_map,hq]; rfl
  obtain ⟨v,hvj⟩ : ∃ v,vs[j]? = some v:=⟨_,List.getElem?_eq_getElem (by have:=(List.getElem?_eq_some_iff.1 hq).1; omega)⟩
  have hp2 : (fF vs (uw l2))[j]? = some [v,.bool q.f1]:=by rw [fF,List.getElem?_zipWith,hvj,ht]
  obtain rfl:=Option.some.inj (hp.symm.trans hp2)
  obtain ⟨rfl,_⟩:=hR
  have hr : (Fa vc vf vt vs l0 l1 l2)[3 + j]? = some ⟨Kd.raw 4,46,v,(sK q.f0).map rD⟩:=by
   have : (iE vs (uw l2))[j]? = some (⟨Kd.raw 4,46,v,(sK q.f0).map rD⟩ : Row):=by rw [iE,List.getElem?_zipWith,hvj,ht]
   rw [show 3 + j = j + 3 by omega]
   exact this
  obtain ⟨A3,c3,e3,k3,h3⟩:=Kd.zS (M.mem.owns (3 + j) _ hr)
  have n3 : ((sK q.f0).map rD).length = q.f0.length:=by simp
  dsimp only at e3 k3 h3
  rw [n3] at e3 k3 h3
  subst e3
  refine acW W q k3 (Jq h3 n3.symm (fun i p2 q2 cs2 hp2 hq2 hR2 => ?_))
  have hp3 : ((sK q.f0).map rD)[i]? = some (rD (q2.f0,[q2.f1,q2.f2,q2.f3])):=by rw [List.getElem?_map,List.getElem?_map,hq2]; rfl
  obtain rfl:=Option.some.inj (hp2.symm.trans hp3)
  obtain ⟨rfl,_⟩:=hR2
  exact acX W q2
end
theorem dX.prog {k : Nat} {w0 W : World} {gr : Nat} {l : List (Nat × Array Value × TypeId)} {h : Hd} {s : St} (M : dX k w0 W gr l h s) {l0 : List Int} {l1 : List jw} {l2 : List qB} (h0 : s.code = l0) (h1 : s.funcs = vM l1) (h2 : s.tabs = uw l2) :
  bf vk w0 W [] [] (Fa h.vc h.vf h.vt h.vs l0 l1 l2) ∧ h.vs.length = l2.length:=by
 have M0:=(M.mem.ajb).forget 0
 have M1:=(M0.front 3 rfl).fQ Mem.tail
 have M2:=(M1.front 3 rfl).fQ Mem.tail
 have M3:=(M2.front 3 rfl).fQ Mem.tail
 have hl:=M.len
 rw [h2,List.length_map] at hl
 refine ⟨?_,hl⟩
 have key : bf vk w0 W [] [] (⟨Kd.int .u32,39,h.vc,s.code⟩ :: ⟨Kd.raw 2,41,h.vf,s.funcs.map ints⟩ :: ⟨Kd.raw 2,44,h.vt,fF h.vs s.tabs⟩ :: iE h.vs s.tabs):=M3
 rw [h0,h1,h2] at key
 exact key
end Go.Proofs.YtdbpglhdicmhhaaGreatDoor.qp
end

section
namespace Go.Proofs.YtdbpglhdicmhhaaGreatDoor.qp
open Go.RowKit Go.Shelf Go.Proofs.YtdbpglhdicmhhaaGreatDoorW.aI Go.Proofs.YtdbpglhdicmhhaaGreatDoorW.aX Go.Proofs.YtdbpglhdicmhhaaGreatDoorW.aZ iM
open Go.Proofs.YtdbpglhdicmhhaaGreatDoor.GA
def adf (c : JG) : JG:=if c.f0 then ⟨c.f0,c.f1,c.f2,0⟩ else c
def adh (t : qB) : qB:=⟨t.f0.map adf,t.f1⟩
@[reducible] def adg (l2 : List qB) : List qB:=l2.map adh
section
variable {es : List TypeId} {w0 W : World} {l : List (Nat × Array Value × TypeId)} {fx : List (Nat × Obj)}
end
end Go.Proofs.YtdbpglhdicmhhaaGreatDoor.qp
end

section
namespace Go.Proofs.YtdbpglhdicmhhaaGreatDoor.Q
open Go.RowKit Go.Lib Num Go.Proofs.YtdbpglhdicmhhaaGreatDoor.GA
def sb (l : List UInt8) : ByteArray:=⟨l.toArray⟩
end Go.Proofs.YtdbpglhdicmhhaaGreatDoor.Q
end

section
namespace Go.Proofs.YtdbpglhdicmhhaaGreatDoor.Q
open Go.RowKit Go.Lib Num Go.Proofs.YtdbpglhdicmhhaaGreatDoor.GA Go.Proofs.YtdbpglhdicmhhaaGreatDoor.rQ Go.Proofs.YtdbpglhdicmhhaaGreatDoor.qp
structure Dec (w : Int) (k : Nat) (a b c m : Int) : Prop where
 hk : k < 58
 dec : su w = ((k : Int) + 1,a,b,c,m,0)
 fit : jA a b c m (dH.rowAt k).2.1 = true
 enc : rM [(k : Int) + 1,a,b,c,m] = w
def adn (op : Int) : Bool:=decide (op = 17 ∨ op = 18 ∨ op = 19 ∨ op = 20 ∨ op = 22 ∨ op = 34)
end Go.Proofs.YtdbpglhdicmhhaaGreatDoor.Q
end

section
namespace Go.Proofs.YtdbpglhdicmhhaaGreatDoor.Q
open Go.RowKit Go.Lib Num Go.Proofs.YtdbpglhdicmhhaaGreatDoor.GA Go.Proofs.YtdbpglhdicmhhaaGreatDoor.rQ Go.Proofs.YtdbpglhdicmhhaaGreatDoor.qp
theorem adr {a b : List UInt8} (h : sb a = sb b) : a = b:=by
 have:=congrArg (fun x : ByteArray => x.data.toList) h
 exact this
theorem Px {c : UInt8} {i j : Nat} (h : sb (c :: itoa (i : Int)) = sb (c :: itoa (j : Int))) : i = j:=by
 have h1:=List.tail_eq_of_cons_eq (adr h)
 rw [itoa_nonneg,itoa_nonneg] at h1
 have e1:=FU i i (Nat.le_refl _) []
 have e2:=FU j j (Nat.le_refl _) []
 rw [List.append_nil,FV] at e1 e2
 rw [← e1,← e2,h1]
def A8 (c : UInt8) (n : Nat) (f : ByteArray → Option Int) : Prop:=(∀ i : Nat,i < n → f (sb (c :: itoa (i : Int))) = some (i : Int)) ∧ ∀ i : Nat,n ≤ i → f (sb (c :: itoa (i : Int))) = none
theorem A8.step {c : UInt8} {n : Nat} {f : ByteArray → Option Int} (h : A8 c n f) : A8 c (n + 1) (fun y => if y = sb (c :: itoa (n : Int)) then some (n : Int) else f y):=by
 refine ⟨fun i hi => ?_,fun i hi => ?_⟩
 ·by_cases e : i = n
  ·subst e; exact if_pos rfl
  ·show (if _ then _ else _) = _
   rw [if_neg (fun x => e (Px x))]
   exact h.1 i (by omega)
 ·show (if _ then _ else _) = _
  rw [if_neg (fun x => by have:=Px x; omega)]
  exact h.2 i (by omega)
structure InT (s : St) (T : List qB) : Prop where
 code : s.code = []
 funcs : s.funcs = []
 ins : s.ins = []
 opn : s.opn = []
 uses : s.uses = []
 wrong : s.wrong = 0
 idle : s.idle = true
 tabs : s.tabs = uw T
 fm : ∀ y,s.fm y = none
 lm : ∀ p,s.lm p = none
 tm : A8 116 T.length s.tm
theorem Jz {α : Type} (A : List α) (x y d : α) : (A ++ [x]).set ((A ++ [x]).length - 1) y = A ++ [y] ∧ (A ++ [x]).getD ((A ++ [x]).length - 1) d = x:=by
 have e : (A ++ [x]).length - 1 = A.length:=by simp
 rw [e]
 refine ⟨?_,?_⟩
 ·rw [List.set_append_right _ _ (Nat.le_refl _)]; simp
 ·rw [List.getD_eq_getElem?_getD,List.getElem?_append_right (Nat.le_refl _)]; simp
end Go.Proofs.YtdbpglhdicmhhaaGreatDoor.Q
end

section
namespace Go.Proofs.YtdbpglhdicmhhaaGreatDoor.Q
open Go.RowKit Go.Lib Num Go.Proofs.YtdbpglhdicmhhaaGreatDoor.GA Go.Proofs.YtdbpglhdicmhhaaGreatDoor.rQ Go.Proofs.YtdbpglhdicmhhaaGreatDoor.qp
def afl (w : Int) : List Int:=[AZ w,(su w).2.1,(su w).2.2.1,(su w).2.2.2.1,if adn (AZ w) then 0 else uz w]
def afq (w : Int) : ByteArray:=sb (iQ (AZ w) ++ itoa (uz w))
structure Base (l0 : List Int) (l1 : List jw) (l2 : List qB) (tg : Int → Bool) (s : St) (j at_ : Nat) : Prop where
 code : s.code = (l0.take at_).map fun w => rM (afl w)
 ins : s.ins = (l0.take at_).map afl
 tabs : s.tabs = uw (adg l2)
 wrong : s.wrong = 0
 tm : A8 116 l2.length s.tm
 lmL : ∀ (i : Nat) (f : jw) (m : Nat),l1[i]? = some f → i < j → f.f0 ≤ (m : Int) → (m : Int) < f.f1 → m < at_ → tg (m : Int) = true → s.lm (((i + 1 : Nat) : Int),sb (76 :: itoa (m : Int))) = some (m : Int)
 lmN : ∀ (fn : Nat) y,j < fn → s.lm ((fn : Int),y) = none
 afO : ∀ u ∈ s.uses,∃ (q i : Nat) (ln w : Int) (f : jw),u = ([(q : Int),((i + 1 : Nat) : Int),ln,AZ w],afq w) ∧ l0[q]? = some w ∧ q < at_ ∧ adn (AZ w) = true ∧ l1[i]? = some f ∧ f.f0 ≤ (q : Int) ∧ (q : Int) < f.f1 ∧ i < j
 afN : ∀ (q : Nat) (w : Int),l0[q]? = some w → q < at_ → adn (AZ w) = true → ∃ u ∈ s.uses,u.1.getD 0 0 = (q : Int)
structure Pre (l0 : List Int) (l1 : List jw) (l2 : List qB) (tg : Int → Bool) (s : St) (j at_ : Nat) : Prop where
 base : Base l0 l1 l2 tg s j at_
 opn : s.opn = []
 funcs : s.funcs = vM (l1.take j)
 fm : A8 102 j s.fm
 prev : ∀ (i : Nat) (g : jw),l1[i]? = some g → i < j → g.f1 ≤ (at_ : Int)
structure InF (l0 : List Int) (l1 : List jw) (l2 : List qB) (tg : Int → Bool) (s : St) (j : Nat) (f : jw) (at_ : Nat) (lab : Bool) : Prop where
 base : Base l0 l1 l2 tg s (j + 1) at_
 at1 : l1[j]? = some f
 funcs : s.funcs = vM (l1.take j) ++ [[f.f0,(at_ : Int)]]
 fm : A8 102 (j + 1) s.fm
 cases : s.cases = false
 idle : s.idle = false
 opn : lab = false → s.opn = []
 now : lab = true → s.lm (((j + 1 : Nat) : Int),sb (76 :: itoa (at_ : Int))) = some (at_ : Int)
 new : ∀ m : Nat,at_ + (if lab then 1 else 0) ≤ m → s.lm (((j + 1 : Nat) : Int),sb (76 :: itoa (m : Int))) = none
 prev : ∀ (i : Nat) (g : jw),l1[i]? = some g → i < j → g.f1 ≤ (at_ : Int)
section
variable {l0 : List Int} {l1 : List jw} {l2 : List qB} {tg : Int → Bool}
theorem Base.like {s s' : St} {j at_ : Nat} (h : Base l0 l1 l2 tg s j at_) (h1 : s'.code = s.code:=by rfl) (h2 : s'.ins = s.ins:=by rfl) (h3 : s'.tabs = s.tabs:=by rfl) (h4 : s'.wrong = s.wrong:=by rfl) (h5 : s'.tm = s.tm:=by rfl) (h6 : s'.lm = s.lm:=by rfl) (h7 : s'.uses = s.uses:=by rfl) : Base l0 l1 l2 tg s' j at_ :=
 ⟨h1 ▸ h.code,h2 ▸ h.ins,h3 ▸ h.tabs,h4 ▸ h.wrong,h5 ▸ h.tm,h6 ▸ h.lmL,h6 ▸ h.lmN,h7 ▸ h.afO,h7 ▸ h.afN⟩
end
end Go.Proofs.YtdbpglhdicmhhaaGreatDoor.Q
end

section
namespace Go.Proofs.YtdbpglhdicmhhaaGreatDoor.Q
open Go.RowKit Go.Lib Num Go.Proofs.YtdbpglhdicmhhaaGreatDoor.GA Go.Proofs.YtdbpglhdicmhhaaGreatDoor.rQ Go.Proofs.YtdbpglhdicmhhaaGreatDoor.qp
section
variable {l0 : List Int} {l1 : List jw} {l2 : List qB} {tg : Int → Bool}
end
end Go.Proofs.YtdbpglhdicmhhaaGreatDoor.Q
end
