import Derived.Test.YtdbpglhdicmhhaaGreatDoorMBk25
import Derived.Test.YtdbpglhdicmhhaaGreatDoorMBk35
set_option linter.unusedVariables false
set_option linter.unusedSimpArgs false
section
namespace Go.Proofs.YtdbpglhdicmhhaaGreatDoor.Hof
open Go.RowKit Go.Shelf Go.Proofs.YtdbpglhdicmhhaaGreatDoorW.PrintWords Go.Proofs.YtdbpglhdicmhhaaGreatDoorW.PrintLast Go.Proofs.YtdbpglhdicmhhaaGreatDoorW.PrintMore Hctx
open Go.Proofs.YtdbpglhdicmhhaaGreatDoor.GA
section
variable {P : Program} {ops : Array Oper} {md : Region.Mode} {o : Oper} {a : Act} {Q : Exit → Act → World → Prop} {es : List TypeId} {w0 w : World} {l : List (Nat × Array Value × TypeId)} {rows : List Row} {fx : List (Nat × Obj)} {fuel : Nat} {listed : Array Bool} {ds : List Nat} {K : List (Addr × Value)}
theorem kBx (M : Aside0 (MemF es w0 w l fx rows)) (HK : Aside0 (Know K w)) (i : Nat) (N : Tmp) (cs : Array Value) (t : TypeId) {rs : List Nat}
  (h : ∀ g w',Aside0 (MemF es w0 w' (l ++ [(g,cs,t)]) fx rows) → Aside0 (Know K w') → w.heap.size ≤ g → g < w'.heap.size → wpAnyLast P md ops Q (Know K) ds fuel (listed.setIfInBounds i true) (a.put (some N) (.pointer (some ⟨g,0,none⟩))) w')
  (hrest : AllReadyL P md ops Q (Know K) ds fuel listed a w rs)
  (hoi : ops[i]? = some o:=by rfl) (hN : o.dst = some N:=by rfl) (hw : Region.wanted o (yielded ops a.tmps) = true:=by rfl) (hd : i ∉ ds:=by decide) (he : t ∉ es:=by decide)
  (hrun : (execOp a.eval o).run P w = .ok (.value (.pointer (some ⟨w.heap.size,0,none⟩))) (w.alloc (.cells cs t (0,0))):=by first | (go_simp; done) | (go_simp; rfl)) : AllReadyL P md ops Q (Know K) ds fuel listed a w (i :: rs):=by
 have hb : Below w.heap.size w (w.alloc (.cells cs t (0,0))):=below_alloc (Below.refl _ _) _
 have hk1:=HK.out.below hb
 refine AllReadyL.cons hoi hd (fun K' hK' => ?_) hrest
 rw [if_pos hw]
 unfold Oper.wp
 rw [hrun]
 show K' (a.put o.dst _) _
 rw [hN]
 exact hK'.out _ _ hk1 (fun _ => h _ _ ⟨M.out.box rfl (blk_new w (.cells cs t (0,0))) hb he⟩ ⟨hk1⟩ (Nat.le_refl _) (blk_lt (blk_new w (.cells cs t (0,0)))))
end
theorem know_lt {K : List (Addr × Value)} {w : World} (h : Know K w) : ∀ c ∈ K,c.1.block < w.heap.size:=fun c hc => World.block_lt_of_cell? w c.1 (h c hc)
set_option maxHeartbeats 8000000 in
set_option maxRecDepth 100000 in
theorem same_calls (A0 : Option Addr) (c0 : Nat) (l0 : List Int) (A1 : Option Addr) (c1 : Nat) (l1 : List S41) (A2 : Option Addr) (c2 : Nat) (l2 : List S44) (B0 : Option Addr) (d0 : Nat) (B1 : Option Addr) (d1 : Nat) (B2 : Option Addr) (d2 : Nat) (w : World)
  (hP : PC w A0 c0 l0 A1 c1 l1 A2 c2 l2) (hQ : PC w B0 d0 l0 B1 d1 l1 B2 d2 l2) (hF : Fits l0 l1 l2) :
  Calls Tryz.prog 12 #[.agg #[.slice A0 l0.length c0,.slice A1 l1.length c1,.slice A2 l2.length c2],.agg #[.slice B0 l0.length d0,.slice B1 l1.length d1,.slice B2 l2.length d2]] w fun e w' => e = .returned (.bool true) ∧ Below w.heap.size w w':=by
 have HP:=Lib.hid hP
 have HQ:=Lib.hid hQ
 have HF:=Lib.hid hF
 have M0:=Aside0.mk (MemF.start [] w)
 clear hP hQ hF
 go_enter Tryz.func12,Tryz.ntmps12
 go_wp2_with (first
  | ((with_reducible refine gate_dst (N:=2) rfl ?_); refine fB M0 2 #[.slice A0 l0.length c0,.slice A1 l1.length c1,.slice A2 l2.length c2] 26 ?_; clear M0; intro g2 w1 M1)
  | ((with_reducible refine gate_dst (N:=3) rfl ?_); refine fB M1 3 #[.slice B0 l0.length d0,.slice B1 l1.length d1,.slice B2 l2.length d2] 26 ?_; clear M1; intro g3 w2 M2; have p0:=M2.out.mem.cell 0 rfl 0; have p1:=M2.out.mem.cell 0 rfl 1; have p2:=M2.out.mem.cell 0 rfl 2; have q0:=M2.out.mem.cell 1 rfl 0; have q1:=M2.out.mem.cell 1 rfl 1; have q2:=M2.out.mem.cell 1 rfl 2)
  | fail)
 go_loopg [5] l0.length (fun g v5 wr => ∃ (i : Nat),i + g = l0.length ∧ v5 = .int .i64 i ∧ MemF [] w wr [(g2,#[.slice A0 l0.length c0,.slice A1 l1.length c1,.slice A2 l2.length c2],26),(g3,#[.slice B0 l0.length d0,.slice B1 l1.length d1,.slice B2 l2.length d2],26)] [] [])
 case atStart => exact ⟨0,Nat.zero_add _,rfl,M2.out⟩
 case round =>
  clear M2 p0 p1 p2 q0 q1 q2
  rename World => w3
  obtain ⟨i,hi,rfl,M3⟩:=hrel
  have M4:=Aside0.mk M3
  clear M3
  have p0:=M4.out.mem.cell 0 rfl 0
  have q0:=M4.out.mem.cell 1 rfl 0
  by_cases hil : i < l0.length
  ·obtain ⟨gk1,rfl⟩ : ∃ g,gk = g + 1:=⟨gk - 1,by omega⟩
   have HG:=Lib.hid hi
   obtain ⟨x,hx⟩ : ∃ x,l0[i]? = some x:=⟨_,List.getElem?_eq_getElem hil⟩
   have hrx : rd l0 (i : Int) = x:=by unfold rd; rw [Int.toNat_natCast,List.getD_eq_getElem?_getD,hx]; rfl
   have r1 : (i : Int) < (l0.length : Int):=by omega
   have W5:=Lib.hid (show wrap64 ((i : Int) + 1) = ((i + 1 : Nat) : Int) by rw [Int.natCast_add]; exact IntWalk.wrap64_in _ (by have:=HF.out.h0; omega))
   obtain ⟨ad,rfl,x0⟩:=Kd.at_int HP.out.g0 (i : Int) (by omega) r1
   obtain ⟨bd,rfl,y0⟩:=Kd.at_int HQ.out.g0 (i : Int) (by omega) r1
   rw [Int.toNat_natCast,hrx] at x0 y0
   have e0:=(M4.out.mem.below.cell (World.block_lt_of_cell? _ _ x0)).trans x0
   have e1:=(M4.out.mem.below.cell (World.block_lt_of_cell? _ _ y0)).trans y0
   have ne : (x != x) = false:=bne_self_eq_false _
   clear hx hrx hil hi x0 y0
   go_wp2_with fail
   go_quiet (fail)
   go_wp2
   go_roundg gk1
   case measure => omega
   case rel => exact ⟨i + 1,by have:=HG.out; omega,by rw [W5.out],M4.out.call (pw_below_drewN (Below.refl _ _) nq)⟩
  ·have r1 : ¬ (i : Int) < (l0.length : Int):=by omega
   clear hil hi
   go_wp2_with fail
   clear p0 q0 r1
   go_loopg [6] l1.length (fun g v6 wr => ∃ (i : Nat),i + g = l1.length ∧ v6 = .int .i64 i ∧ MemF [] w wr [(g2,#[.slice A0 l0.length c0,.slice A1 l1.length c1,.slice A2 l2.length c2],26),(g3,#[.slice B0 l0.length d0,.slice B1 l1.length d1,.slice B2 l2.length d2],26)] [] [])
   case atStart => exact ⟨0,Nat.zero_add _,rfl,M4.out⟩
   case round =>
    clear M4
    rename World => w3
    obtain ⟨i,hi,rfl,M3⟩:=hrel
    have M4:=Aside0.mk M3
    clear M3
    have p1:=M4.out.mem.cell 0 rfl 1
    have q1:=M4.out.mem.cell 1 rfl 1
    by_cases hil : i < l1.length
    ·obtain ⟨gk1,rfl⟩ : ∃ g,gk = g + 1:=⟨gk - 1,by omega⟩
     have HG:=Lib.hid hi
     obtain ⟨x,hx⟩ : ∃ x,l1[i]? = some x:=⟨_,List.getElem?_eq_getElem hil⟩
     have r1 : (i : Int) < (l1.length : Int):=by omega
     have W6:=Lib.hid (show wrap64 ((i : Int) + 1) = ((i + 1 : Nat) : Int) by rw [Int.natCast_add]; exact IntWalk.wrap64_in _ (by have:=HF.out.h1; omega))
     obtain ⟨ad,rfl,x0,x1⟩:=at_T41 HP.out.g1 (i : Int) (by omega) r1
     obtain ⟨bd,rfl,y0,y1⟩:=at_T41 HQ.out.g1 (i : Int) (by omega) r1
     rw [Int.toNat_natCast] at x0 x1 y0 y1
     rw [Q.rdT41 hx] at x0 x1 y0 y1
     have HB1:=Lib.hid M4.out.mem.below
     have e0:=(HB1.out.cell (World.block_lt_of_cell? _ _ x0)).trans x0
     have e1:=(HB1.out.cell (World.block_lt_of_cell? _ _ x1)).trans x1
     have e2:=(HB1.out.cell (World.block_lt_of_cell? _ _ y0)).trans y0
     have e3:=(HB1.out.cell (World.block_lt_of_cell? _ _ y1)).trans y1
     have n0 : (x.f0 == x.f0) = true:=beq_self_eq_true _
     have n1 : (x.f1 == x.f1) = true:=beq_self_eq_true _
     clear hx hil hi x0 x1 y0 y1 HB1
     go_wp2_with fail
     go_quiet (fail)
     go_wp2
     go_roundg gk1
     case measure => omega
     case rel => exact ⟨i + 1,by have:=HG.out; omega,by rw [W6.out],M4.out.call (pw_below_drewN (Below.refl _ _) nq)⟩
    ·have r1 : ¬ (i : Int) < (l1.length : Int):=by omega
     clear hil hi
     go_wp2_with fail
     clear p1 q1 r1
     go_loopg [7] l2.length (fun g v7 wr => ∃ (i : Nat),i + g = l2.length ∧ v7 = .int .i64 i ∧ MemF [] w wr [(g2,#[.slice A0 l0.length c0,.slice A1 l1.length c1,.slice A2 l2.length c2],26),(g3,#[.slice B0 l0.length d0,.slice B1 l1.length d1,.slice B2 l2.length d2],26)] [] [])
     case atStart => exact ⟨0,Nat.zero_add _,rfl,M4.out⟩
     case round =>
      clear M4
      rename World => w3
      obtain ⟨i,hi,rfl,M3⟩:=hrel
      have M4:=Aside0.mk M3
      clear M3
      have p2:=M4.out.mem.cell 0 rfl 2
      have q2:=M4.out.mem.cell 1 rfl 2
      by_cases hil : i < l2.length
      ·obtain ⟨gk1,rfl⟩ : ∃ g,gk = g + 1:=⟨gk - 1,by omega⟩
       have HG:=Lib.hid hi
       obtain ⟨x,hx⟩ : ∃ x,l2[i]? = some x:=⟨_,List.getElem?_eq_getElem hil⟩
       have hrd : rd_T44 l2 (i : Int) = x:=by unfold rd_T44; rw [Int.toNat_natCast,List.getD_eq_getElem?_getD,hx]; rfl
       have r1 : (i : Int) < (l2.length : Int):=by omega
       have W7:=Lib.hid (show wrap64 ((i : Int) + 1) = ((i + 1 : Nat) : Int) by rw [Int.natCast_add]; exact IntWalk.wrap64_in _ (by have:=HF.out.h2; omega))
       obtain ⟨ad,Ca,ca,rfl,x0,x1,u0,ga⟩:=at_T44 HP.out.g2 (i : Int) (by omega) r1
       obtain ⟨bd,Cb,cb,rfl,y0,y1,u1,gb⟩:=at_T44 HQ.out.g2 (i : Int) (by omega) r1
       rw [Int.toNat_natCast] at x0 x1 y0 y1
       rw [hrd] at x0 x1 y0 y1 ga gb u0 u1
       have HA:=Lib.hid ga
       have HB:=Lib.hid gb
       have HXN:=Lib.hid (HF.out.h3 x (List.mem_of_getElem? hx))
       have HB1:=Lib.hid M4.out.mem.below
       have HKK:=Lib.hid (show Know [(⟨g2,2,none⟩,.slice (some ad) l2.length c2),(⟨g3,2,none⟩,.slice (some bd) l2.length d2),((ad.add (i * 2)).add 0,.slice Ca x.f0.length ca),((ad.add (i * 2)).add 1,.bool x.f1),((bd.add (i * 2)).add 0,.slice Cb x.f0.length cb),((bd.add (i * 2)).add 1,.bool x.f1)] w3 from fun z hz => by
        simp only [List.mem_cons,List.not_mem_nil,or_false] at hz
        rcases hz with rfl | rfl | rfl | rfl | rfl | rfl
        ·exact p2
        ·exact q2
        ·rw [add0]; exact (HB1.out.cell (World.block_lt_of_cell? _ _ x0)).trans x0
        ·exact (HB1.out.cell (World.block_lt_of_cell? _ _ x1)).trans x1
        ·rw [add0]; exact (HB1.out.cell (World.block_lt_of_cell? _ _ y0)).trans y0
        ·exact (HB1.out.cell (World.block_lt_of_cell? _ _ y1)).trans y1)
       clear hx hrd hil hi x0 x1 y0 y1 HB1 ga gb
       go_upto_region 16 with (fail)
       go_cut [8,9] (fun v8 v9 wc => ∃ (g8 g9 : Nat),v8 = .pointer (some ⟨g8,0,none⟩) ∧ v9 = .pointer (some ⟨g9,0,none⟩) ∧ MemF [] w wc [(g2,#[.slice A0 l0.length c0,.slice A1 l1.length c1,.slice (some ad) l2.length c2],26),(g3,#[.slice B0 l0.length d0,.slice B1 l1.length d1,.slice (some bd) l2.length d2],26),(g8,#[.slice Ca x.f0.length ca,.bool x.f1],44),(g9,#[.slice Cb x.f0.length cb,.bool x.f1],44)] [] [])
       case first =>
        refine kStart [] _ M4 HKK.out (fun w' MD HK => ?_)
        have HKL:=Lib.hid (know_lt HK.out)
        clear M4 HKK p2 q2
        refine kP 0 79 (.pointer (some ⟨g2,2,none⟩)) ?_
        simp only [Act.put,sAz,sCz,sCs]
        refine kE HK 1 80 0 ?_
        simp only [Act.put,sAz,sCz,sCs]
        refine kP 2 81 (.int .i64 (i : Int)) ?_
        simp only [Act.put,sAz,sCz,sCs]
        refine kP 3 82 (.pointer (some (ad.add (i * 2)))) ?_
        simp only [Act.put,sAz,sCz,sCs]
        refine kL HK 4 83 (ad.add (i * 2)) [.slice Ca x.f0.length ca,.bool x.f1] Tryz.underlying44 (fun j u hu => by match j,hu with | 0,hu => obtain rfl:=Option.some.inj hu; simp | 1,hu => obtain rfl:=Option.some.inj hu; simp) ?_
        simp only [Act.put,sAz,sCz,sCs]
        refine kP 5 84 (.pointer (some ⟨g3,2,none⟩)) ?_
        simp only [Act.put,sAz,sCz,sCs]
        refine kE HK 6 85 1 ?_
        simp only [Act.put,sAz,sCz,sCs]
        refine kP 7 86 (.int .i64 (i : Int)) ?_
        simp only [Act.put,sAz,sCz,sCs]
        refine kP 8 87 (.pointer (some (bd.add (i * 2)))) ?_
        simp only [Act.put,sAz,sCz,sCs]
        refine kL HK 9 88 (bd.add (i * 2)) [.slice Cb x.f0.length cb,.bool x.f1] Tryz.underlying44 (fun j u hu => by match j,hu with | 0,hu => obtain rfl:=Option.some.inj hu; simp | 1,hu => obtain rfl:=Option.some.inj hu; simp) ?_
        simp only [Act.put,sAz,sCz,sCs]
        refine kR [10,11] ?_
        refine kBx MD HK 10 8 #[.slice none 0 0,.bool false] 44 ?_ ?_
        ·clear MD HK
         intro g8 w8 ME HK h8a h8b
         simp only [Act.put,sAz,sCz,sCs]
         refine kR [11] ?_
         refine kBx ME HK 11 9 #[.slice none 0 0,.bool false] 44 ?_ AllReadyL.nil
         clear ME HK
         intro g9 w9 MF HK h9a h9b
         simp only [Act.put,sAz,sCz,sCs]
         refine kR [12] ?_
         refine kW (g:=g8) HK MF 12 44 8 2 #[.slice Ca x.f0.length ca,.bool x.f1] (fun c hc => ⟨by have:=HKL.out c hc; omega,know_lt HK.out c hc⟩) ?_ AllReadyL.nil rfl rfl rfl (by decide)
         clear MF
         intro w10 MG HK2
         refine kR [13] ?_
         refine kW (g:=g9) HK2 MG 13 44 9 3 #[.slice Cb x.f0.length cb,.bool x.f1] (fun c hc => ⟨by have:=HKL.out c hc; omega,know_lt HK2.out c hc⟩) ?_ AllReadyL.nil rfl rfl rfl (by decide)
         clear MG
         intro w11 MH HK3
         refine kDone ?_
         go_wp2
         go_meet
         case rel => exact ⟨g8,g9,rfl,rfl,MH.out⟩
        ·refine kBx MD HK 11 9 #[.slice none 0 0,.bool false] 44 ?_ AllReadyL.nil
         clear MD HK
         intro g9 w9 ME HK h9a h9b
         simp only [Act.put,sAz,sCz,sCs]
         refine kR [10] ?_
         refine kBx ME HK 10 8 #[.slice none 0 0,.bool false] 44 ?_ AllReadyL.nil
         clear ME HK
         intro g8 w8 MF HK h8a h8b
         simp only [Act.put,sAz,sCz,sCs]
         refine kR [12] ?_
         refine kW (g:=g8) HK MF 12 44 8 3 #[.slice Ca x.f0.length ca,.bool x.f1] (fun c hc => ⟨by have:=HKL.out c hc; omega,know_lt HK.out c hc⟩) ?_ AllReadyL.nil rfl rfl rfl (by decide)
         clear MF
         intro w10 MG HK2
         refine kR [13] ?_
         refine kW (g:=g9) HK2 MG 13 44 9 2 #[.slice Cb x.f0.length cb,.bool x.f1] (fun c hc => ⟨by have:=HKL.out c hc; omega,know_lt HK2.out c hc⟩) ?_ AllReadyL.nil rfl rfl rfl (by decide)
         clear MG
         intro w11 MH HK3
         refine kDone ?_
         go_wp2
         go_meet
         case rel => exact ⟨g8,g9,rfl,rfl,MH.out.perm (List.Perm.cons _ (List.Perm.cons _ (List.Perm.swap _ _ _)))⟩
       case rest =>
        clear M4 HKK p2 q2
        rename World => w4
        obtain ⟨g8,g9,rfl,rfl,M5⟩:=hcut
        have M6:=Aside0.mk M5
        clear M5
        have a0:=M6.out.mem.cell 2 rfl 0
        have a1:=M6.out.mem.cell 2 rfl 1
        have b0:=M6.out.mem.cell 3 rfl 0
        have b1:=M6.out.mem.cell 3 rfl 1
        have nb : (x.f1 != x.f1) = false:=bne_self_eq_false _
        go_wp2_with fail
        clear a0 a1 b0 b1
        go_loopg [10] x.f0.length (fun g v10 wr => ∃ (k : Nat),k + g = x.f0.length ∧ v10 = .int .i64 k ∧ MemF [] w wr [(g2,#[.slice A0 l0.length c0,.slice A1 l1.length c1,.slice (some ad) l2.length c2],26),(g3,#[.slice B0 l0.length d0,.slice B1 l1.length d1,.slice (some bd) l2.length d2],26),(g8,#[.slice Ca x.f0.length ca,.bool x.f1],44),(g9,#[.slice Cb x.f0.length cb,.bool x.f1],44)] [] [])
        case atStart => exact ⟨0,Nat.zero_add _,rfl,M6.out⟩
        case round =>
         clear M6
         rename World => w5
         obtain ⟨k,hk,rfl,M7⟩:=hrel
         have M8:=Aside0.mk M7
         clear M7
         have a0:=M8.out.mem.cell 2 rfl 0
         have b0:=M8.out.mem.cell 3 rfl 0
         by_cases hkl : k < x.f0.length
         ·obtain ⟨gk2,rfl⟩ : ∃ g,gk = g + 1:=⟨gk - 1,by omega⟩
          have HG2:=Lib.hid hk
          obtain ⟨c,hc⟩ : ∃ c,x.f0[k]? = some c:=⟨_,List.getElem?_eq_getElem hkl⟩
          have hrd : rd_T46 x.f0 (k : Int) = c:=by unfold rd_T46; rw [Int.toNat_natCast,List.getD_eq_getElem?_getD,hc]; rfl
          have r2 : (k : Int) < (x.f0.length : Int):=by omega
          have W10:=Lib.hid (show wrap64 ((k : Int) + 1) = ((k + 1 : Nat) : Int) by rw [Int.natCast_add]; exact IntWalk.wrap64_in _ (by have:=HXN.out; omega))
          obtain ⟨ad2,rfl,x0,x1,x2,x3⟩:=at_T46 HA.out (k : Int) (by omega) r2
          obtain ⟨bd2,rfl,y0,y1,y2,y3⟩:=at_T46 HB.out (k : Int) (by omega) r2
          rw [Int.toNat_natCast] at x0 x1 x2 x3 y0 y1 y2 y3
          rw [hrd] at x0 x1 x2 x3 y0 y1 y2 y3
          have HB1:=Lib.hid M8.out.mem.below
          have e0:=(HB1.out.cell (World.block_lt_of_cell? _ _ x0)).trans x0
          have e1:=(HB1.out.cell (World.block_lt_of_cell? _ _ x1)).trans x1
          have e2:=(HB1.out.cell (World.block_lt_of_cell? _ _ x2)).trans x2
          have e3:=(HB1.out.cell (World.block_lt_of_cell? _ _ x3)).trans x3
          have f0:=(HB1.out.cell (World.block_lt_of_cell? _ _ y0)).trans y0
          have f1:=(HB1.out.cell (World.block_lt_of_cell? _ _ y1)).trans y1
          have f2:=(HB1.out.cell (World.block_lt_of_cell? _ _ y2)).trans y2
          have f3:=(HB1.out.cell (World.block_lt_of_cell? _ _ y3)).trans y3
          have n0 : (c.f0 == c.f0) = true:=beq_self_eq_true _
          have n1 : (c.f1 == c.f1) = true:=beq_self_eq_true _
          have n2 : (c.f2 == c.f2) = true:=beq_self_eq_true _
          have n3 : (c.f3 == c.f3) = true:=beq_self_eq_true _
          clear hc hrd hkl hk x0 x1 x2 x3 y0 y1 y2 y3 HB1
          go_wp2_with fail
          go_quiet (fail)
          go_wp2
          go_roundg gk2
          case measure => omega
          case rel => exact ⟨k + 1,by have:=HG2.out; omega,by rw [W10.out],M8.out.call (pw_below_drewN (Below.refl _ _) nq)⟩
         ·have r2 : ¬ (k : Int) < (x.f0.length : Int):=by omega
          clear hkl hk
          go_wp2
          go_roundg gk1
          case measure => omega
          case rel => exact ⟨i + 1,by have:=HG.out; omega,by rw [W7.out],M8.out.forget 2⟩
      ·have r1 : ¬ (i : Int) < (l2.length : Int):=by omega
       clear hil hi
       go_wp2
       go_ret
       exact ⟨rfl,M4.out.mem.below⟩
end Go.Proofs.YtdbpglhdicmhhaaGreatDoor.Hof
end

section
namespace Go.Proofs.YtdbpglhdicmhhaaGreatDoor.Hof
open Go.RowKit Go.Shelf Go.Proofs.YtdbpglhdicmhhaaGreatDoorW.PrintWords Go.Proofs.YtdbpglhdicmhhaaGreatDoorW.PrintLast Go.Proofs.YtdbpglhdicmhhaaGreatDoorW.PrintMore Hctx
open Go.Proofs.YtdbpglhdicmhhaaGreatDoor.GA
theorem reads_as {α β : Type} {R : α → List Value → Prop} {R' : β → List Value → Prop} {sz n : Nat} {w : World} {A : Option Addr} {xs : List α} {ys : List β} (h : ReadsRow R sz w A n xs) (hl : ys.length = xs.length)
  (hr : ∀ (j : Nat) (p : α) (q : β) (cs : List Value),xs[j]? = some p → ys[j]? = some q → R p cs → R' q cs) : ReadsRow R' sz w A n ys:=by
 refine ⟨hl.trans h.1,h.2.1,fun hn => ?_⟩
 obtain ⟨ad,e,hc⟩:=h.2.2 hn
 refine ⟨ad,e,fun j q hj => ?_⟩
 obtain ⟨p,hp⟩ : ∃ p,xs[j]? = some p:=⟨_,List.getElem?_eq_getElem (by have:=(List.getElem?_eq_some_iff.1 hj).1; omega)⟩
 obtain ⟨c,h1,h2,h3⟩:=hc j p hp
 exact ⟨c,h1,hr j p q c hp hj h2,h3⟩
theorem pc_nil (w : World) : PC w none 0 [] none 0 [] none 0 []:=by
 have key : ∀ {α : Type} (d : Kd α),d.C w none 0 []:=fun d => ⟨rfl,by omega,fun h => absurd h (Nat.lt_irrefl 0)⟩
 exact ⟨key _,Nat.le_refl _,key _,Nat.le_refl _,key _,Nat.le_refl _⟩
section
variable {es : List TypeId} {w0 W W1 : World} {l : List (Nat × Array Value × TypeId)} {fx : List (Nat × Obj)} {rows : List Row}
theorem _root_.Go.Proofs.YtdbpglhdicmhhaaGreatDoor.Hctx.MemF.join (M : MemF es w0 W l fx []) (N : MemF es W W1 [] [] rows) : MemF es w0 W1 l fx rows:=by
 have h:=M.call N.mem.below
 exact ⟨⟨h.mem.below,h.mem.blk,h.mem.apart,N.mem.typ,fun i r hr => Kd.R_lower (N.mem.owns i r hr) (below_size M.mem.below)⟩,h.fix,h.part⟩
theorem _root_.Go.Proofs.YtdbpglhdicmhhaaGreatDoor.Hctx.MemF.noFx (M : MemF es w0 W l fx rows) : MemF es w0 W l [] rows:=⟨M.mem,fun i x h => by simp at h,fun i j x y h => by simp at h⟩
theorem pc_of {vc vf vt : Value} {vs : List Value} {l0 : List Int} {l1 : List S41} {l2 : List S44} (M : MemF es w0 W l fx (rowsP vc vf vt vs l0 l1 l2)) (hv : vs.length = l2.length) :
  ∃ A0 c0 A1 c1 A2 c2,vc = .slice A0 l0.length c0 ∧ vf = .slice A1 l1.length c1 ∧ vt = .slice A2 l2.length c2 ∧ PC W A0 c0 l0 A1 c1 l1 A2 c2 l2:=by
 obtain ⟨A0,c0,e0,k0,h0⟩:=Kd.R_reads (M.mem.owns 0 _ rfl)
 obtain ⟨A1,c1,e1,k1,h1⟩:=Kd.R_reads (M.mem.owns 1 _ rfl)
 obtain ⟨A2,c2,e2,k2,h2⟩:=Kd.R_reads (M.mem.owns 2 _ rfl)
 have n1 : ((funcsD l1).map ints).length = l1.length:=by simp
 have hvt : vs.length = (tabsD l2).length:=by rw [hv,List.length_map]
 have n2 : (tcells vs (tabsD l2)).length = l2.length:=by rw [tcells_len hvt,List.length_map]
 dsimp only at e0 e1 e2 k0 k1 k2 h0 h1 h2
 rw [n1] at e1 k1 h1
 rw [n2] at e2 k2 h2
 refine ⟨A0,c0,A1,c1,A2,c2,e0,e1,e2,h0,k0,?_,k1,?_,k2⟩
 ·refine reads_as h1 n1.symm (fun j p q cs hp hq hR => ?_)
  have hp2 : ((funcsD l1).map ints)[j]? = some (ints [q.f0,q.f1]):=by rw [List.getElem?_map,List.getElem?_map,hq]; rfl
  obtain rfl:=Option.some.inj (hp.symm.trans hp2)
  obtain ⟨rfl,_⟩:=hR
  exact k41_mk W q
 ·refine reads_as h2 n2.symm (fun j p q cs hp hq hR => ?_)
  have ht : (tabsD l2)[j]? = some (q.f1,casesD q.f0):=by rw [List.getElem?_map,hq]; rfl
  obtain ⟨v,hvj⟩ : ∃ v,vs[j]? = some v:=⟨_,List.getElem?_eq_getElem (by have:=(List.getElem?_eq_some_iff.1 hq).1; omega)⟩
  have hp2 : (tcells vs (tabsD l2))[j]? = some [v,.bool q.f1]:=by rw [tcells,List.getElem?_zipWith,hvj,ht]
  obtain rfl:=Option.some.inj (hp.symm.trans hp2)
  obtain ⟨rfl,_⟩:=hR
  have hr : (rowsP vc vf vt vs l0 l1 l2)[3 + j]? = some ⟨Kd.raw 4,46,v,(casesD q.f0).map ccell⟩:=by
   have : (csRows vs (tabsD l2))[j]? = some (⟨Kd.raw 4,46,v,(casesD q.f0).map ccell⟩ : Row):=by rw [csRows,List.getElem?_zipWith,hvj,ht]
   rw [show 3 + j = j + 3 by omega]
   exact this
  obtain ⟨A3,c3,e3,k3,h3⟩:=Kd.R_reads (M.mem.owns (3 + j) _ hr)
  have n3 : ((casesD q.f0).map ccell).length = q.f0.length:=by simp
  dsimp only at e3 k3 h3
  rw [n3] at e3 k3 h3
  subst e3
  refine k44_mk W q k3 (reads_as h3 n3.symm (fun i p2 q2 cs2 hp2 hq2 hR2 => ?_))
  have hp3 : ((casesD q.f0).map ccell)[i]? = some (ccell (q2.f0,[q2.f1,q2.f2,q2.f3])):=by rw [List.getElem?_map,List.getElem?_map,hq2]; rfl
  obtain rfl:=Option.some.inj (hp2.symm.trans hp3)
  obtain ⟨rfl,_⟩:=hR2
  exact k46_mk W q2
theorem pc_at {n0 n1 n2 c0 c1 c2 : Nat} {A0 A1 A2 : Option Addr} {vs : List Value} {l0 : List Int} {l1 : List S41} {l2 : List S44} (M : MemF es w0 W l fx (rowsP (.slice A0 n0 c0) (.slice A1 n1 c1) (.slice A2 n2 c2) vs l0 l1 l2)) (hv : vs.length = l2.length) : PC W A0 c0 l0 A1 c1 l1 A2 c2 l2:=by
 obtain ⟨B0,d0,B1,d1,B2,d2,e0,e1,e2,h⟩:=pc_of M hv
 injection e0 with a1 a2 a3
 injection e1 with b1 b2 b3
 injection e2 with f1 f2 f3
 subst a1; subst a3; subst b1; subst b3; subst f1; subst f3
 exact h
end
theorem RdM.prog {k : Nat} {w0 W : World} {gr : Nat} {l : List (Nat × Array Value × TypeId)} {h : Hd} {s : St} (M : RdM k w0 W gr l h s) {l0 : List Int} {l1 : List S41} {l2 : List S44} (h0 : s.code = l0) (h1 : s.funcs = funcsD l1) (h2 : s.tabs = tabsD l2) :
  MemF esR w0 W [] [] (rowsP h.vc h.vf h.vt h.vs l0 l1 l2) ∧ h.vs.length = l2.length:=by
 have M0:=(M.mem.noFx).forget 0
 have M1:=(M0.front 3 rfl).rowsBy Mem.tail
 have M2:=(M1.front 3 rfl).rowsBy Mem.tail
 have M3:=(M2.front 3 rfl).rowsBy Mem.tail
 have hl:=M.len
 rw [h2,List.length_map] at hl
 refine ⟨?_,hl⟩
 have key : MemF esR w0 W [] [] (⟨Kd.int .u32,39,h.vc,s.code⟩ :: ⟨Kd.raw 2,41,h.vf,s.funcs.map ints⟩ :: ⟨Kd.raw 2,44,h.vt,tcells h.vs s.tabs⟩ :: csRows h.vs s.tabs):=M3
 rw [h0,h1,h2] at key
 exact key
end Go.Proofs.YtdbpglhdicmhhaaGreatDoor.Hof
end
