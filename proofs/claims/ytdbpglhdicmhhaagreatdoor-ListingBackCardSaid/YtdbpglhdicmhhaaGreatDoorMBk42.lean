import Derived.Test.YtdbpglhdicmhhaaGreatDoorMBk35
import Derived.Test.YtdbpglhdicmhhaaGreatDoorMBk17
import Derived.Test.YtdbpglhdicmhhaaGreatDoorMBk41
import Derived.Lib.AppendIntMem
import Derived.Test.YtdbpglhdicmhhaaGreatDoorMBk36
import Derived.Test.YtdbpglhdicmhhaaGreatDoorMBk37
import Derived.Test.YtdbpglhdicmhhaaGreatDoorMBk24
import Derived.Test.YtdbpglhdicmhhaaGreatDoorMBk4
import Derived.Test.YtdbpglhdicmhhaaGreatDoorMBk3
import Derived.Test.YtdbpglhdicmhhaaGreatDoorMBk2
import Derived.Test.YtdbpglhdicmhhaaGreatDoorRows
import Derived.OpenShut
import Derived.Laws.Rows
import Derived.FnData
import Derived.HandedShaped
import Derived.Stop.LaidErr
import Derived.Lib.LaidTab
import Derived.ChangeSlices
import Derived.Shelf.Vars
set_option linter.unusedVariables false
set_option linter.unusedSimpArgs false
section
namespace Go.Proofs.YtdbpglhdicmhhaaGreatDoor.Hof
open Go.RowKit Go.Shelf Go.Proofs.YtdbpglhdicmhhaaGreatDoorW.PrintWords Go.Proofs.YtdbpglhdicmhhaaGreatDoorW.PrintLast Go.Proofs.YtdbpglhdicmhhaaGreatDoorW.PrintMore Hctx
open Go.Proofs.YtdbpglhdicmhhaaGreatDoor.GA
def livesText : ByteArray:=⟨#[102,117,110,99,32,102,10,101,120,105,116,10]⟩
theorem lives_wrong : (final07 livesText).wrong = 0:=by kernel_rfl
theorem lives_code : (final07 livesText).code = [402653184]:=by kernel_rfl
set_option maxHeartbeats 4000000 in
set_option maxRecDepth 100000 in
theorem lives_calls (w : World) (S0 : Std w) : Calls Tryz.prog 11 #[] w fun e W' => e = .returned (.bool true) ∧ Below w.heap.size w W':=by
 have S:=Lib.hid S0
 clear S0
 have HEN:=Lib.hid encode_exit
 go_enter Tryz.func11,Tryz.ntmps11
 go_wp2_with fail
 refine (parse_calls livesText (by decide) w S.out).mono ?_
 rintro e W5 hP
 unfold Parsed at hP
 rw [if_neg (by decide),if_neg (fun h => h lives_wrong)] at hP
 obtain ⟨k,gr,l,h,rfl,hk,M⟩:=hP
 obtain ⟨gc,cc,hvc⟩ : ∃ g c,h.vc = .slice (some ⟨g,0,none⟩) 1 c:=by
  rcases MemF.slice M.mem 0 rfl with ⟨c,h1,h2⟩ | ⟨g,c,h1,h2⟩
  ·have:=congrArg List.length h2; rw [show (final07 livesText).code = [402653184] from lives_code] at this; cases this
  ·rw [show (final07 livesText).code = [402653184] from lives_code] at h1; exact ⟨g,c,h1⟩
 have one1:=MemF.one M.mem 1 rfl
 have one2:=MemF.one M.mem 2 rfl
 have MM:=Aside0.mk (show MemF esR w W5 ((gr,cellsR h (final07 livesText),55) :: l) (fxR h) (⟨Kd.int .u32,39,h.vc,[402653184]⟩ :: (rowsR h (final07 livesText)).drop 1) from by have:=M.mem; unfold RMem at this; rw [← lives_code]; exact this)
 rw [hvc] at MM ⊢
 have H3:=Lib.hid (show (#[Value.slice (some ⟨gc,0,none⟩) 1 cc,h.vf,h.vt] : Array Value).all (·.oneCell') = true by simp [show h.vf.oneCell' = true from one1,show h.vt.oneCell' = true from one2]; rfl)
 have y0:=fun (W : World) (M : MemF esR w W ((gr,cellsR h (final07 livesText),55) :: l) (fxR h) (⟨Kd.int .u32,39,.slice (some ⟨gc,0,none⟩) 1 cc,[402653184]⟩ :: (rowsR h (final07 livesText)).drop 1)) => M.icell 0 rfl (i:=0) rfl (by decide)
 have HY0:=Lib.hid y0
 generalize h.vf = vf at *
 generalize h.vt = vt at *
 clear M hk one1 one2 y0
 go_wp2_with (first
  | ((with_reducible refine gate_dst (N:=1) rfl ?_); refine fB MM 1 #[.slice none 0 0,.slice none 0 0,.slice none 0 0] 26 ?_; clear MM; intro g1 w8 M5_; have M5:=Aside0.mk (show MemF esR w w8 (_ :: (l ++ [_])) _ _ from M5_.out); clear M5_)
  | ((with_reducible refine gate_store (t:=26) (p:=1) rfl ?_); refine fW M5 26 1 (l.length + 1) #[.slice (some ⟨gc,0,none⟩) 1 cc,vf,vt] ?_ last_box rfl H3.out; clear M5; intro w9 M6))
 have M7:=Aside0.mk (show MemF esR w w9 (_ :: (l ++ [(g1,#[.slice (some ⟨gc,0,none⟩) 1 cc,vf,vt],26)])) _ _ from by have h:=M6.out; rw [set_last] at h; exact h)
 clear M6
 refine (HEN.out _).mono ?_
 rintro e W13 ⟨rfl,hb⟩
 have M8:=Aside0.mk (M7.out.call hb)
 clear M7 hb
 have y1 : W13.cell? ⟨gc,0,none⟩ = some (.int .u32 402653184):=M8.out.icell 0 rfl (i:=0) rfl (by decide)
 have y2 : W13.cell? ⟨g1,0,none⟩ = some (.slice (some ⟨gc,0,none⟩) 1 cc):=(M8.out.mem.cell (l.length + 1) last_box 0).trans rfl
 go_wp2
 go_returns
 exact ⟨rfl,M8.out.mem.below⟩
end Go.Proofs.YtdbpglhdicmhhaaGreatDoor.Hof
end

section
namespace Go.Proofs.YtdbpglhdicmhhaaGreatDoor.Hof
open Go.RowKit Go.Shelf Go.Proofs.YtdbpglhdicmhhaaGreatDoorW.PrintWords Go.Proofs.YtdbpglhdicmhhaaGreatDoorW.PrintLast Go.Proofs.YtdbpglhdicmhhaaGreatDoorW.PrintMore Hctx
open Go.Proofs.YtdbpglhdicmhhaaGreatDoor.GA
structure Dom (l0 : List Int) (l1 : List S41) (l2 : List S44) : Prop where
 fits : Fits l0 l1 l2
 words : ∀ x ∈ l0,0 ≤ x ∧ x < 4294967296
 cases : ∀ t ∈ l2,∀ c ∈ t.f0,Q.CaseI c
theorem dom_nil : Dom [] [] []:=⟨⟨by decide,by decide,by decide,fun t h => by cases h⟩,(fun x h => by cases h),(fun t h => by cases h)⟩
theorem Dom.small {l0 : List Int} {l1 : List S41} {l2 : List S44} (h : Dom l0 l1 l2) (hn : l0.length + l2.length + Q.casesN l2 ≤ 262144) : (l0.length ≤ 262144 ∧ l2.length ≤ 262144) ∧ ∀ t ∈ l2,t.f0.length ≤ 262144:=by
 refine ⟨⟨by omega,by omega⟩,fun t ht => ?_⟩
 have:=Q.casesN_mem ht
 omega
theorem prn_err {l0 : List Int} {l1 : List S41} {l2 : List S44} (h : (Q.prnV l0 l1 l2).2 ≠ 0) : (Q.prnV l0 l1 l2).1 = []:=by
 unfold Q.prnV at h ⊢
 split
 ·rfl
 ·rename_i h1
  rw [if_neg h1] at h
  cases hs : Q.scanF l0 l1.length l2.length l1 0 (fun _ => false) with
  | none => rfl
  | some x =>
   rw [hs] at h
   obtain ⟨bad,tg⟩:=x
   dsimp only at h ⊢
   split
   ·rfl
   ·rename_i hb
    rw [if_neg hb] at h
    split
    ·rfl
    ·rename_i hl
     rw [if_neg hl] at h
     exact absurd rfl h
set_option maxHeartbeats 8000000 in
set_option maxRecDepth 100000 in
theorem back_calls (A0 : Option Addr) (c0 : Nat) (l0 : List Int) (A1 : Option Addr) (c1 : Nat) (l1 : List S41) (A2 : Option Addr) (c2 : Nat) (l2 : List S44) (w : World) (hS : Laid.LibStd w) (hP : PC w A0 c0 l0 A1 c1 l1 A2 c2 l2) (hD : Dom l0 l1 l2) :
  Calls Tryz.prog 6 #[.agg #[.slice A0 l0.length c0,.slice A1 l1.length c1,.slice A2 l2.length c2]] w fun e w' => e = .returned (.bool true) ∧ Below w.heap.size w w':=by
 have HS:=Lib.hid hS
 have HP:=Lib.hid hP
 have HD:=Lib.hid hD
 have M0:=Aside0.mk (MemF.start esR w)
 obtain ⟨kk,b,hb,hbs⟩:=Q.long_all (l0:=l0) (l1:=l1) (l2:=l2) (by have:=hD.fits.h0; omega) (by have:=hD.fits.h2; omega) (fun t ht => by have:=hD.fits.h3 t ht; omega)
 have HLB:=Lib.hid hb
 have HBS:=Lib.hid hbs
 clear hS hP hD hb hbs
 go_enter Tryz.func6,Tryz.ntmps6
 go_wp2_with (first
  | ((with_reducible refine gate_dst (N:=1) rfl ?_); refine fB M0 1 #[.slice A0 l0.length c0,.slice A1 l1.length c1,.slice A2 l2.length c2] 26 ?_; clear M0; intro g1 w1 M1; have p0:=M1.out.mem.cell 0 rfl 0; have p1:=M1.out.mem.cell 0 rfl 1; have p2:=M1.out.mem.cell 0 rfl 2)
  | fail)
 have HP1:=Lib.hid (HP.out.below M1.out.mem.below)
 refine (GA.rotalaw07_long.calls kk _ _ _ _ _ _ _ _ _ _ w1 HP1.out.g0 HP1.out.h0 HP1.out.g1 HP1.out.h1 HP1.out.g2 HP1.out.h2 HLB.out).mono ?_
 rintro e w2 ⟨rfl,hb2⟩
 have M2:=Aside0.mk (M1.out.call hb2)
 clear M1 hb2 HP1 p0 p1 p2
 go_upto_if 9 with (fail)
 go_cut [] (fun wc => ∃ (A0 : Option Addr) (c0 : Nat) (m0 : List Int) (A1 : Option Addr) (c1 : Nat) (m1 : List S41) (A2 : Option Addr) (c2 : Nat) (m2 : List S44),MemF esR w wc [(g1,#[.slice A0 m0.length c0,.slice A1 m1.length c1,.slice A2 m2.length c2],26)] [] [] ∧ PC w A0 c0 m0 A1 c1 m1 A2 c2 m2 ∧ Dom m0 m1 m2 ∧ m0.length + m2.length + Q.casesN m2 ≤ 262144)
 case first =>
  cases b with
  | true =>
   go_wp2_with (first
    | ((with_reducible refine gate_store (t:=26) (p:=1) rfl ?_); refine fW M2 26 1 0 #[.slice none 0 0,.slice none 0 0,.slice none 0 0] ?_ rfl rfl (by kernel_rfl); clear M2; intro w3 M3)
    | fail)
   go_meet
   case rel => exact ⟨none,0,[],none,0,[],none,0,[],M3.out,pc_nil w,dom_nil,Nat.zero_le _⟩
  | false =>
   go_wp2
   go_meet
   case rel => exact ⟨A0,c0,l0,A1,c1,l1,A2,c2,l2,M2.out,HP.out,HD.out,HBS.out rfl⟩
 case rest =>
  clear M2 HP HD HLB HBS
  rename World => w3
  obtain ⟨E0,k0,m0,E1,k1,m1,E2,k2,m2,M3,hP,hD,hn⟩:=hcut
  have HP:=Lib.hid hP
  have HD:=Lib.hid hD
  have HN:=Lib.hid hn
  have M4:=Aside0.mk M3
  have p0:=M4.out.mem.cell 0 rfl 0
  have p1:=M4.out.mem.cell 0 rfl 1
  have p2:=M4.out.mem.cell 0 rfl 2
  clear M3 hP hD hn
  go_wp2_with fail
  refine (twin_calls _ _ _ _ _ _ _ _ _ w3 (HP.out.below M4.out.mem.below) HD.out.fits).mono ?_
  rintro e w5 ⟨vc,vf,vt,vs,rfl,hvs,M5⟩
  obtain ⟨B0,d0,B1,d1,B2,d2,rfl,rfl,rfl,hQ⟩:=pc_of M5 hvs
  have HQ:=Lib.hid hQ
  have M6:=Aside0.mk (M4.out.call M5.mem.below)
  clear M4 M5 hQ p0 p1 p2 hvs
  go_wp2_with fail
  have HTL:=Lib.hid (Q.text_le (l1:=m1) HD.out.words HD.out.cases (by have:=HN.out; omega))
  have HSM:=Lib.hid (HD.out.small HN.out)
  refine (print_calls _ _ _ _ _ _ _ _ _ w5 (HS.out.below M6.out.mem.below) HQ.out HD.out.words (by have:=HSM.out; omega) (by have:=HD.out.fits.h1; omega) (by have:=HSM.out; omega) (fun t ht => by have:=HSM.out.2 t ht; omega) HTL.out.1 HTL.out.2).mono ?_
  rintro e w7 ⟨rfl,hb7⟩
  have M7:=Aside0.mk (M6.out.call hb7)
  clear M6 hb7 HQ
  have HPP:=Lib.hid (Q.parse_print m0 m1 m2 HD.out.words (by have:=HSM.out; omega) (by have:=HSM.out; omega))
  have HER:=Lib.hid (prn_err (l0:=m0) (l1:=m1) (l2:=m2))
  generalize Q.prnV m0 m1 m2 = se at *
  obtain ⟨s,er⟩:=se
  by_cases her : er = 0
  ·subst her
   have HPR:=Lib.hid (HPP.out rfl)
   clear HPP HER
   go_wp2_with fail
   have hsz : (Q.bs s).size ≤ 9223372036854775807:=by rw [Q.size_bs]; have:=HPR.out.1; omega
   refine (parse_calls (Q.bs s) hsz w7 (HS.out.below M7.out.mem.below).1).mono ?_
   rintro e w8 hPd
   unfold Parsed at hPd
   rw [if_neg (by rw [Q.size_bs]; have:=HPR.out.1; omega),if_neg (fun h => h HPR.out.2.1)] at hPd
   obtain ⟨k,gr,l,h,rfl,hk,MR⟩:=hPd
   obtain ⟨MP,hvl⟩:=MR.prog HPR.out.2.2.1 HPR.out.2.2.2.1 HPR.out.2.2.2.2
   obtain ⟨D0,e0,D1,e1,D2,e2,hv0,hv1,hv2,hQ⟩:=pc_of MP hvl
   rw [hv0,hv1,hv2]
   have hpl : (Fits m0 m1 (plainL m2)) ∧ (plainL m2).length = m2.length:=by
    refine ⟨⟨HD.out.fits.h0,HD.out.fits.h1,by rw [List.length_map]; exact HD.out.fits.h2,fun t ht => ?_⟩,List.length_map _⟩
    obtain ⟨t0,ht0,rfl⟩:=List.mem_map.1 ht
    show (t0.f0.map plainC).length * 32 ≤ _
    rw [List.length_map]
    exact HD.out.fits.h3 t0 ht0
   have HPL:=Lib.hid hpl
   rw [hpl.2] at hv2 ⊢
   have M8:=Aside0.mk (M7.out.join MP)
   have HVL:=Lib.hid hvl
   rw [hv0,hv1,hv2] at M8
   clear M7 MR MP hvl hv0 hv1 hv2 hQ hsz hpl
   go_wp2_with (first
    | ((with_reducible refine gate_dst (N:=5) rfl ?_); refine fB M8 5 #[.slice none 0 0,.slice none 0 0,.slice none 0 0] 26 ?_; clear M8; intro g5 w9 M9)
    | ((with_reducible refine gate_store (t:=26) (p:=5) rfl ?_); refine fW M9 26 5 1 #[.slice D0 m0.length e0,.slice D1 m1.length e1,.slice D2 m2.length e2] ?_ rfl rfl (by kernel_rfl); clear M9; intro w10 M10)
    | fail)
   have HKK:=Lib.hid (show Know [(⟨g5,0 + 0,none⟩,.slice D0 m0.length e0),(⟨g5,0 + 1,none⟩,.slice D1 m1.length e1),(⟨g5,0 + 2,none⟩,.slice D2 m2.length e2),(⟨g1,0 + 0,none⟩,.slice E0 m0.length k0),(⟨g1,0 + 1,none⟩,.slice E1 m1.length k1),(⟨g1,0 + 2,none⟩,.slice E2 m2.length k2)] w10 from fun z hz => by
    simp only [List.mem_cons,List.not_mem_nil,or_false] at hz
    rcases hz with rfl | rfl | rfl | rfl | rfl | rfl
    ·exact M10.out.mem.cell 1 rfl 0
    ·exact M10.out.mem.cell 1 rfl 1
    ·exact M10.out.mem.cell 1 rfl 2
    ·exact M10.out.mem.cell 0 rfl 0
    ·exact M10.out.mem.cell 0 rfl 1
    ·exact M10.out.mem.cell 0 rfl 2)
   refine kStart [] _ M10 HKK.out (fun w' MD HK => ?_)
   clear M10 HKK
   refine kR [0] ?_
   refine kK 0 30 Tryz.func11 #[] ?_ AllReadyL.nil
   refine (lives_calls w' (HS.out.below MD.out.mem.below).1).mono ?_
   rintro e w11 ⟨rfl,hb11⟩
   refine ⟨_,rfl,HK.out.below hb11,?_⟩
   have ME:=Aside0.mk (MD.out.call hb11)
   have HK:=Aside0.mk (HK.out.below hb11)
   clear MD hb11
   simp only [Act.put,sAz,sCz,sCs]
   refine kP 1 31 (.bool true) ?_
   simp only [Act.put,sAz,sCz,sCs]
   refine kP 2 32 (.int .i64 0) ?_
   simp only [Act.put,sAz,sCz,sCs]
   refine kP 3 33 (.bool true) ?_
   simp only [Act.put,sAz,sCz,sCs]
   refine kP 4 34 (.bool true) ?_
   simp only [Act.put,sAz,sCz,sCs]
   refine kP 5 35 (.bool true) ?_
   simp only [Act.put,sAz,sCz,sCs]
   refine kP 6 36 (.int .i64 0) ?_
   simp only [Act.put,sAz,sCz,sCs]
   refine kP 7 37 (.bool true) ?_
   simp only [Act.put,sAz,sCz,sCs]
   refine kP 8 38 (.bool true) ?_
   simp only [Act.put,sAz,sCz,sCs]
   refine kP 9 39 (.bool true) ?_
   simp only [Act.put,sAz,sCz,sCs]
   refine kM HK 10 40 g5 0 [.slice D0 m0.length e0,.slice D1 m1.length e1,.slice D2 m2.length e2] Tryz.underlying26 (fun j u hu => by match j,hu with | 0,hu => obtain rfl:=Option.some.inj hu; simp | 1,hu => obtain rfl:=Option.some.inj hu; simp | 2,hu => obtain rfl:=Option.some.inj hu; simp) ?_
   simp only [Act.put,sAz,sCz,sCs]
   refine kM HK 11 41 g1 0 [.slice E0 m0.length k0,.slice E1 m1.length k1,.slice E2 m2.length k2] Tryz.underlying26 (fun j u hu => by match j,hu with | 0,hu => obtain rfl:=Option.some.inj hu; simp | 1,hu => obtain rfl:=Option.some.inj hu; simp | 2,hu => obtain rfl:=Option.some.inj hu; simp) ?_
   simp only [Act.put,sAz,sCz,sCs]
   refine kR [12] ?_
   refine kK 12 42 Tryz.func19 #[.agg #[.slice E0 m0.length k0,.slice E1 m1.length k1,.slice E2 m2.length k2]] ?_ AllReadyL.nil
   refine (plain_calls _ _ _ _ _ _ _ _ _ w11 (HP.out.below ME.out.mem.below) HD.out.fits).mono ?_
   rintro e w12 ⟨vc,vf,vt,vs2,rfl,hvs2,MP⟩
   have hvs3 : vs2.length = (plainL m2).length:=hvs2.trans HPL.out.2.symm
   obtain ⟨F0,f0,F1,f1,F2,f2,hv0,hv1,hv2,hQ2⟩:=pc_of MP hvs3
   rw [hv0,hv1,hv2]
   have ME2:=Aside0.mk (ME.out.call MP.mem.below)
   refine ⟨_,rfl,HK.out.below MP.mem.below,?_⟩
   have HK:=Aside0.mk (HK.out.below MP.mem.below)
   have HQ1:=Lib.hid (pc_at ME2.out HVL.out)
   have HQ2:=Lib.hid hQ2
   clear ME MP hvs2 hvs3 hv0 hv1 hv2 hQ2
   simp only [Act.put,sAz,sCz,sCs]
   refine kR [13] ?_
   refine kK 13 43 Tryz.func12 #[.agg #[.slice D0 m0.length e0,.slice D1 m1.length e1,.slice D2 m2.length e2],.agg #[.slice F0 m0.length f0,.slice F1 m1.length f1,.slice F2 (plainL m2).length f2]] ?_ AllReadyL.nil
   have hsame:=same_calls _ _ _ _ _ _ _ _ _ _ _ _ _ _ _ w12 HQ1.out HQ2.out HPL.out.1
   rw [HPL.out.2] at hsame ⊢
   refine hsame.mono ?_
   rintro e w13 ⟨rfl,hb13⟩
   have ME3:=Aside0.mk (ME2.out.call hb13)
   refine ⟨_,rfl,HK.out.below hb13,?_⟩
   clear ME2 hb13 hsame
   simp only [Act.put,sAz,sCz,sCs]
   refine kP 14 44 (.bool true) ?_
   simp only [Act.put,sAz,sCz,sCs]
   refine kP 15 2 (.bool true) ?_
   simp only [Act.put,sAz,sCz,sCs]
   refine kDone ?_
   go_wp2
   go_ret
   exact ⟨rfl,ME3.out.mem.below⟩
  ·have HE:=Lib.hid her
   have hs : s = []:=HER.out her
   subst hs
   clear HPP HER
   rw [show Q.bs ([],er).1 = (⟨#[]⟩ : ByteArray) from rfl]
   go_wp2_with fail
   refine (lives_calls w7 (HS.out.below M7.out.mem.below).1).mono ?_
   rintro e w8 ⟨rfl,hb8⟩
   have M8:=Aside0.mk (M7.out.call hb8)
   clear M7 hb8
   go_wp2
   go_ret
   exact ⟨rfl,M8.out.mem.below⟩
end Go.Proofs.YtdbpglhdicmhhaaGreatDoor.Hof
end

section
namespace Go.Proofs.YtdbpglhdicmhhaaGreatDoor.Kinds
open Go.RowKit Go.Proofs.YtdbpglhdicmhhaaGreatDoorW.PrintWords Go.Proofs.YtdbpglhdicmhhaaGreatDoor.Opn Go.Proofs.YtdbpglhdicmhhaaGreatDoor.GA
theorem wf_i64 {n : Int} (h : (Lit.int IntKind.i64 n).wf = true) : Q.I64 n:=by
 unfold Lit.wf at h
 rw [Bool.and_eq_true] at h
 have a:=of_decide_eq_true h.1
 have b:=of_decide_eq_true h.2
 rw [show IntKind.i64.min = -9223372036854775808 by decide] at a
 rw [show IntKind.i64.max = 9223372036854775807 by decide] at b
 exact ⟨a,b⟩
theorem dom {x : S26} {n : Nat} (h : G26 x n) : Hof.Dom x.code x.funcs x.tabs:=by
 have h0:=h.1.1
 have h1:=h.2.1.1
 have h2:=h.2.2.1
 have h3:=h.2.2.2.2.2
 dsimp only at h0 h1 h2 h3
 refine ⟨⟨by omega,by omega,by omega,fun t ht => ?_⟩,words h,fun t ht c hc => ?_⟩
 ·have h4:=(h3 t ht).1.1
  dsimp only at h4
  omega
 ·have h4:=(h3 t ht).1.2.2.2 c hc
  exact ⟨wf_i64 h4.2.1,wf_i64 h4.2.2.1,wf_i64 h4.2.2.2⟩
end Go.Proofs.YtdbpglhdicmhhaaGreatDoor.Kinds
end

section
namespace Go.Proofs.YtdbpglhdicmhhaaGreatDoor.Laid
open Go.RowKit Go.Proofs.YtdbpglhdicmhhaaGreatDoorW.PrintWords
theorem laidVars_mem {P : Program} {w : World} {name : String} {d : DataW Unit} : ∀ {laid : List (String × DataW Unit)} {ps : List MemPlace},DataW.LaidVars P w laid ps → (name,d) ∈ laid →
  ∃ g t cs fuel p,P.globalNamed name = some g ∧ (P.globals[g]?).map (·.type) = some t ∧ w.var? P name = some cs ∧ DataW.trod (fun _ => ()) P w 0 (fun _ => true) false fuel t cs.toList = some (d,p)
 | [],_,_,hm => by simp at hm
 | (n',d') :: r,ps,h,hm => by
  obtain ⟨g,t,cs,fuel,p,q,h1,h2,h3,h4,h5,_⟩:=h
  rcases List.mem_cons.1 hm with e | hm
  ·obtain ⟨rfl,rfl⟩:=Prod.mk.inj e
   exact ⟨g,t,cs,fuel,p,h1,h2,h3,h4⟩
  ·exact laidVars_mem h5 hm
def eight : List (String × DataW Unit) := [("math/bits.deBruijn32tab", Rows.laid_math_bits_deBruijn32tab), ("math/bits.deBruijn64tab", Rows.laid_math_bits_deBruijn64tab), ("internal/strconv.uint64pow10", Rows.laid_internal_strconv_uint64pow10), ("unicode/utf8.acceptRanges", Rows.laid_unicode_utf8_acceptRanges), ("strconv.ErrRange", Rows.laid_strconv_ErrRange), ("strconv.ErrSyntax", Rows.laid_strconv_ErrSyntax), ("rota/listing.order", Rows.laid_rota_listing_order), ("unicode/utf8.first", Rows.laid_unicode_utf8_first)]
theorem star : "*" ++ "errors.errorString" = "*errors.errorString" := by decide
theorem row191 (u : TypeId) (h : Tryz.prog.typeName? 3 u = some "*errors.errorString") : u = 191 :=
 typeName_ptr_named (nm := "errors.errorString") (by rw [star]; kernel_rfl) (by kernel_rfl) (by decide) u (by rw [star]; exact h)
theorem err_at {W : World} {n : String} {text : List UInt8} {r : List (String × DataW Unit)} {g : Nat} (h : laidMet Tryz.prog ((n, .iface "*errors.errorString" (.ptr (.agg [.lit (.string text)]))) :: r) W) (hg : Tryz.prog.globalNamed n = some g) (ht : (Tryz.prog.globals[g]?).map (·.type) = some 91) :
  ∃ te pe,W.cell? ⟨g,0,none⟩ = some (.iface te pe):=by
 have hi : Tryz.prog.underlying 91 = some (.interface #[("Error", 99)]) := by kernel_rfl
 obtain ⟨a, s, hv, _, _, _⟩ := laid_sentinel h hg ht (ti := 91) (tp := 191) (te := 193) (ts := 9) hi row191 (by kernel_rfl) (show Tryz.prog.underlying 193 = some (.struct #[{ name := "s", type := 9, offset := 0, embedded := false, tag := "", pkgPath := "errors", byteOffset := 0 }]) by kernel_rfl) rfl rfl Tryz.underlying9 (by kernel_rfl) (by kernel_rfl)
 exact ⟨_,_,(World.var?_cell hg hv 0).trans rfl⟩
theorem ord_at {W : World} (h : laidMet Tryz.prog eight W) : ∃ A c,W.cell? ⟨0,0,none⟩ = some (.slice A 5 c) ∧ 5 ≤ c ∧ Kd.C (Kd.int .i64) W A 5 Hof.ordL:=by
 obtain ⟨ps,hps,_⟩:=h
 obtain ⟨g, t, cs, fuel, p, hg, ht, hvar, hd⟩ := laidVars_mem hps (show ("rota/listing.order", Rows.laid_rota_listing_order) ∈ eight by simp [eight])
 obtain rfl := Option.some.inj (hg.symm.trans (show Tryz.prog.globalNamed "rota/listing.order" = some 0 by kernel_rfl))
 obtain rfl:=Option.some.inj (ht.symm.trans (show (Tryz.prog.globals[0]?).map (·.type) = some 141 by kernel_rfl))
 rcases Go.ChangeShapes.open_ints (show Tryz.prog.underlying 141 = some (.slice 27) by kernel_rfl) (show Tryz.prog.underlying 27 = some (.int .i64) by kernel_rfl) (by kernel_rfl) hd with ⟨_,h2⟩ | ⟨a,len,cap,zs,hcs,_,hlc,hcm,hz,hx,hcell,_⟩
 ·injection h2 with h2 _
  unfold Rows.laid_rota_listing_order at h2
  cases h2
 ·have hx1:=congrArg Prod.fst hx
  unfold Rows.laid_rota_listing_order at hx1
  injection hx1 with e1 e2
  have hlen : (zs.take len) = Hof.ordL:=by
   have e3 : (Go.ChangeShapes.lits .i64 (zs.take len) : List (DataW Unit)) = Go.ChangeShapes.lits .i64 Hof.ordL:=e1.symm
   have inj : ∀ (x y : List Int),(Go.ChangeShapes.lits .i64 x : List (DataW Unit)) = Go.ChangeShapes.lits .i64 y → x = y:=by
    intro x
    induction x with
    | nil => intro y h; cases y with
     | nil => rfl
     | cons b y => cases h
    | cons a x ih => intro y h; cases y with
     | nil => cases h
     | cons b y =>
      have h0 : (DataW.lit (.int .i64 a) : DataW Unit) = .lit (.int .i64 b) ∧ (Go.ChangeShapes.lits .i64 x : List (DataW Unit)) = Go.ChangeShapes.lits .i64 y:=List.cons.inj h
      have h1:=h0.1
      injection h1 with h1
      injection h1 with _ h1
      rw [h1,ih y h0.2]
   exact inj _ _ e3
  have hl5 : len = 5:=by
   have h5:=congrArg List.length hlen
   rw [List.length_take] at h5
   have : Hof.ordL.length = 5:=rfl
   have hle : len ≤ zs.length:=by rw [hz]; split <;> omega
   omega
  subst hl5
  obtain rfl : cs = #[.slice (some a) 5 cap]:=Array.toList_inj.1 hcs
  refine ⟨some a,cap,(World.var?_cell hg hvar 0).trans rfl,hlc,rfl,by decide,fun _ => ⟨a,rfl,fun j q hj => ?_⟩⟩
  have hj5 : j < 5:=(List.getElem?_eq_some_iff.1 hj).1
  have hle : 5 ≤ zs.length:=by rw [hz]; split <;> omega
  have hq : zs.getD j 0 = q:=by
   have h6 : (zs.take 5)[j]? = some q:=by rw [hlen]; exact hj
   rw [List.getElem?_take,if_pos hj5] at h6
   rw [List.getD_eq_getElem?_getD,h6]; rfl
  refine ⟨[.int .i64 q],rfl,rfl,fun i u hu => ?_⟩
  have hi0 : i = 0:=by
   rcases i with _ | i
   ·rfl
   ·simp at hu
  subst hi0
  have hu' : u = .int .i64 q:=by simpa using hu.symm
  rw [hu',← hq,show j * (Kd.int .i64).sz + 0 = j by show j * 1 + 0 = j; omega]
  exact hcell j (by omega)
theorem std_of {W : World} (h : laidMet Tryz.prog eight W) (hS : W.ShapedOpen Tryz.prog) : Hof.Std W:=by
 have hr:=laidMet.tail (laidMet.tail (laidMet.tail (laidMet.tail h)))
 have hs:=laidMet.tail hr
 obtain ⟨m,hm⟩:=cell_of_shapedOpen_int (P:=Tryz.prog) (g:=1) (t:=3) (zero:=#[.int .i64 0]) hS (of_decide_eq_true (by kernel_rfl)) (by kernel_rfl) rfl (by kernel_rfl) (by kernel_rfl) Tryz.underlying3
 have h5:=err_at (g:=5) hs (by kernel_rfl) (by kernel_rfl)
 have h6:=err_at (g:=6) hr (by kernel_rfl) (by kernel_rfl)
 have hsize : 6 < W.heap.size:=by
  obtain ⟨te,pe,hc⟩:=h6
  exact World.block_lt_of_cell? W ⟨6,0,none⟩ hc
 exact ⟨hsize,⟨m,hm⟩,h5,h6,ord_at h⟩
theorem tab_of {w : World} (h : laidMet Tryz.prog eight w) : Hof.TB w:=by
 obtain ⟨ps,hps,_⟩:=h
 obtain ⟨g, t, cs, fuel, p, hg, ht, hvar, hd⟩ := laidVars_mem hps (show ("internal/strconv.uint64pow10", Rows.laid_internal_strconv_uint64pow10) ∈ eight by simp [eight])
 have e : (Rows.laid_internal_strconv_uint64pow10 : DataW Unit) = Lib.tabData .u64 Lib.pow10Tab:=by kernel_rfl
 rw [e] at hd
 obtain rfl := Option.some.inj (hg.symm.trans (show Tryz.prog.globalNamed "internal/strconv.uint64pow10" = some 2 by kernel_rfl))
 obtain rfl:=Option.some.inj (ht.symm.trans (show (Tryz.prog.globals[2]?).map (·.type) = some 168 by kernel_rfl))
 have hc:=Lib.cells_of_tab (show Tryz.prog.underlying 168 = some (.array 20 158) by kernel_rfl) (show Tryz.prog.underlying 158 = some (.int .u64) by kernel_rfl) (by kernel_rfl) (by kernel_rfl) hd
 refine Lib.tabBelow_of_tabIs ?_
 unfold Lib.TabIs
 rw [hvar,← hc]
theorem lib_of {W : World} (h : laidMet Tryz.prog eight W) (hS : W.ShapedOpen Tryz.prog) : LibStd W:=⟨std_of h hS,tab_of h⟩
end Go.Proofs.YtdbpglhdicmhhaaGreatDoor.Laid
namespace Go.Proofs.YtdbpglhdicmhhaaGreatDoor.Q
open Go.RowKit Go.Proofs.YtdbpglhdicmhhaaGreatDoorW.PrintWords Go.Proofs.YtdbpglhdicmhhaaGreatDoor.Opn
theorem wf_u32 {n : Int} (h : (Lit.int IntKind.u32 n).wf = true) : 0 ≤ n ∧ n < 4294967296:=by
 unfold Lit.wf at h
 rw [Bool.and_eq_true] at h
 have a:=of_decide_eq_true h.1
 have b:=of_decide_eq_true h.2
 rw [show IntKind.u32.min = 0 by decide] at a
 rw [show IntKind.u32.max = 4294967295 by decide] at b
 omega
theorem wf_i64 {n : Int} (h : (Lit.int IntKind.i64 n).wf = true) : -9223372036854775808 ≤ n ∧ n ≤ 9223372036854775807:=by
 unfold Lit.wf at h
 rw [Bool.and_eq_true] at h
 have a:=of_decide_eq_true h.1
 have b:=of_decide_eq_true h.2
 rw [show IntKind.i64.min = -9223372036854775808 by decide] at a
 rw [show IntKind.i64.max = 9223372036854775807 by decide] at b
 omega
end Go.Proofs.YtdbpglhdicmhhaaGreatDoor.Q
end
