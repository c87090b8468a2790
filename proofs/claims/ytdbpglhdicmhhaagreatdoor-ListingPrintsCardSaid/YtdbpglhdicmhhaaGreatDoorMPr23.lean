import Derived.Test.YtdbpglhdicmhhaaGreatDoorMPr10
import Derived.Test.YtdbpglhdicmhhaaGreatDoorMPr11
import Derived.Test.YtdbpglhdicmhhaaGreatDoorMPr22
set_option maxHeartbeats 8000000
set_option maxRecDepth 100000
set_option linter.unusedVariables false
set_option linter.unusedSimpArgs false
section
namespace Go.Proofs.YtdbpglhdicmhhaaGreatDoor.qp
open Go.RowKit Go.Shelf Go.Proofs.YtdbpglhdicmhhaaGreatDoorW.aI Go.Proofs.YtdbpglhdicmhhaaGreatDoorW.aX Go.Proofs.YtdbpglhdicmhhaaGreatDoorW.aZ iM
open Go.Proofs.YtdbpglhdicmhhaaGreatDoor.GA
@[reducible] def vM (l : List jw) : List (List Int):=l.map fun f => [f.f0,f.f1]
@[reducible] def sK (l : List JG) : List (Bool × List Int):=l.map fun c => (c.f0,[c.f1,c.f2,c.f3])
@[reducible] def uw (l : List qB) : List (Bool × List (Bool × List Int)):=l.map fun t => (t.f1,sK t.f0)
@[reducible] def Fa (vc vf vt : Value) (vs : List Value) (l0 : List Int) (l1 : List jw) (l2 : List qB) : List Row :=
 ⟨Kd.int .u32,39,vc,l0⟩ :: ⟨Kd.raw 2,41,vf,(vM l1).map ints⟩ :: ⟨Kd.raw 2,44,vt,fF vs (uw l2)⟩ :: iE vs (uw l2)
structure Fits (l0 : List Int) (l1 : List jw) (l2 : List qB) : Prop where
 h0 : l0.length * 4 ≤ 140737488355328
 h1 : l1.length * 16 ≤ 140737488355328
 h2 : l2.length * 32 ≤ 140737488355328
 h3 : ∀ t ∈ l2,t.f0.length * 32 ≤ 140737488355328
theorem XG {w : World} {b : Nat} {ok : Nat → Prop} (c : JG) : (Kd.raw 4).M w b ok [.bool c.f0,.int .i64 c.f1,.int .i64 c.f2,.int .i64 c.f3] [.bool c.f0,.int .i64 c.f1,.int .i64 c.f2,.int .i64 c.f3] :=
 ⟨rfl,rfl,fun u hu => by simp at hu; rcases hu with rfl | rfl | rfl | rfl <;> rfl⟩
theorem Ya {v : Value} (h : v.oneCell' = true) : v.cells.toList = [v]:=by cases v <;> first | rfl | simp [Value.oneCell'] at h
theorem add0 (a : Addr) : a.add 0 = a:=if_pos rfl
theorem aiG (a : Addr) (n : Nat) : a.add (n + 1) = ⟨a.block,a.off + (n + 1),none⟩:=if_neg (by omega)
theorem kL {P : Program} {ops : Array Oper} {md : Region.Mode} {o : Oper} {a : Act} {Q : Exit → Act → World → Prop} {w : World} {K : List (Addr × Value)} {fuel : Nat} {listed : Array Bool} {ds : List Nat} {ty : TypeId} {d : TypeDesc} (HK : ah (Know K w)) (i : Nat) (N : Tmp) (ad : Addr) (us : List Value) (hu : P.underlying ty = some d) {p : Tmp}
  (hk : ∀ (j : Nat) (u : Value),us[j]? = some u → (ad.add j,u) ∈ K)
  (h : bJ P md ops (NoPanic Q) (Know K) ds fuel (listed.setIfInBounds i true) (a.put (some N) (.agg us.toArray)) w)
  (hoi : ops[i]? = some o:=by rfl) (hN : o.dst = some N:=by rfl) (ho : o.op = .load ty (.tmp p):=by rfl) (hw : Region.wanted o (yielded ops a.tmps) = true:=by rfl)
  (hx : a.eval (.tmp p) = .pointer (some ad):=by rfl) (hd : d.isRow = true:=by rfl) (hi : (P.info? ty).map (·.size) = some us.length:=by kernel_rfl)
  (hs : Region.noSelect ops = true:=by kernel_rfl) (hf : Region.free md ops listed i = true:=by kernel_rfl) (hr : (Region.ready md ops listed).contains i = true:=by kernel_rfl) (hc : Region.tH md ops listed = true:=by kernel_rfl) (hla : Region.lastB md ops listed ds i = true:=by kernel_rfl) : bJ P md ops (NoPanic Q) (Know K) ds (fuel + 1) listed a w :=
 kY i N _ HK (.inl ⟨hw,fun w' hw' => by
  have hl : (loadCells ad us.length).run P w' = .ok us.toArray w':=run_loadCells_list (P:=P) w' ad us (fun j v hv => hw' _ (hk j v hv))
  have hv : (loadVar ty ad).run P w' = .ok (.agg us.toArray) w':=by
   cases hq : P.info? ty with
   | none => simp [hq] at hi
   | some i =>
    have hs : i.size = us.length:=by simpa [hq] using hi
    have hagg : (isAgg ty).run P w' = .ok true w':=by
     unfold isAgg
     rw [Sem.run_bind,run_underlying hu w']
     cases d <;> simp_all
    simp [loadVar,Sem.run_bind,hagg,sizeOf,typeInfo,hq,hs,hl]
  unfold execOp
  simp only [ho,hx,Instr.loadAt,Instr.sureAddr,Sem.run_bind,Sem.run_pure,Result.andThen_ok,hv]⟩) h hoi hN hs hf hr hc hla
section
variable {es : List TypeId} {w0 W : World} {l : List (Nat × Array Value × TypeId)} {fx : List (Nat × Obj)} {rows : List Row} {r : Row}
theorem aag (M : bf es w0 W l fx (rows ++ [r])) : bf es w0 W l fx (r :: rows):=by
 have h:=bf.front M rows.length (r:=r) (by simp)
 have e : (rows ++ [r]).eraseIdx rows.length = rows:=by rw [List.eraseIdx_append_of_length_le (Nat.le_refl _)]; simp
 rwa [e] at h
theorem ady (M : bf es w0 W l fx (r :: rows)) : bf es w0 W l fx (rows ++ [r]):=by
 have e : (rows ++ [r]).eraseIdx rows.length = rows:=by rw [List.eraseIdx_append_of_length_le (Nat.le_refl _)]; simp
 have h:=bf.back (rows:=rows ++ [r]) (r:=r) rows.length (by simp) (by rw [e]; exact M)
 have e2 : (rows ++ [r]).set rows.length r = rows ++ [r]:=by rw [List.set_append_right _ _ (Nat.le_refl _)]; simp
 rwa [e2] at h
end
theorem take_succ {α : Type} {l : List α} {i : Nat} {x : α} (h : l[i]? = some x) : l.take (i + 1) = l.take i ++ [x]:=by rw [List.take_add_one,h]; rfl
theorem RJ (A0 : Option Addr) (c0 : Nat) (l0 : List Int) (A1 : Option Addr) (c1 : Nat) (l1 : List jw) (A2 : Option Addr) (c2 : Nat) (l2 : List qB) (w : World) (hP : PC w A0 c0 l0 A1 c1 l1 A2 c2 l2) (hF : Fits l0 l1 l2) :
  Calls Tryz.prog 14 #[.agg #[.slice A0 l0.length c0,.slice A1 l1.length c1,.slice A2 l2.length c2]] w fun e w' => ∃ vc vf vt vs,e = .returned (.agg #[vc,vf,vt]) ∧ vs.length = l2.length ∧ bf vk w w' [] [] (Fa vc vf vt vs l0 l1 l2):=by
 have HP:=Lib.hid hP
 have HF:=Lib.hid hF
 have M0:=ah.mk ((((bf.start vk w).uK (Kd.int .u32) 39 (by decide)).uK (Kd.raw 2) 41 (by decide)).uK (Kd.raw 2) 44 (by decide))
 clear hP hF
 go_enter Tryz.func14,Tryz.ntmps14
 go_wp2_with (first
  | ((with_reducible refine bI (N:=1) rfl ?_); refine fB M0 1 #[.slice A0 l0.length c0,.slice A1 l1.length c1,.slice A2 l2.length c2] 26 ?_; clear M0; intro g1 w1 M1)
  | ((with_reducible refine bI (N:=2) rfl ?_); refine fB M1 2 #[.slice none 0 0,.slice none 0 0,.slice none 0 0] 26 ?_; clear M1; intro g2 w2 M2)
  | ((with_reducible refine bI (N:=3) rfl ?_); refine fB M2 3 #[.slice none 0 0,.slice none 0 0,.slice none 0 0] 26 ?_; clear M2; intro g3 w3 M3)
  | ((with_reducible refine aU (t:=26) (p:=3) rfl ?_); refine fW M3 26 3 2 #[.slice none 0 0,.slice none 0 0,.slice none 0 0] ?_ rfl rfl (by kernel_rfl); clear M3; intro w4 M4)
  | fail)
 go_loopg [4] l0.length (fun g v4 wr => ∃ (i : Nat) (vc : Value),i + g = l0.length ∧ v4 = .int .i64 i ∧ bf vk w wr [(g1,#[.slice A0 l0.length c0,.slice A1 l1.length c1,.slice A2 l2.length c2],26),(g2,#[.slice none 0 0,.slice none 0 0,.slice none 0 0],26),(g3,#[vc,.slice none 0 0,.slice none 0 0],26)] [] [⟨Kd.int .u32,39,vc,l0.take i⟩,⟨Kd.raw 2,41,.slice none 0 0,[]⟩,⟨Kd.raw 2,44,.slice none 0 0,[]⟩])
 case atStart => exact ⟨0,_,Nat.zero_add _,rfl,M4.out⟩
 case round =>
  clear M4
  rename World => w5
  obtain ⟨i,vc,hi,rfl,M5⟩:=hrel
  have M6:=ah.mk M5
  clear M5
  have p0:=M6.out.mem.cell 0 rfl 0
  by_cases hil : i < l0.length
  ·obtain ⟨Ep,rfl⟩ : ∃ g,gk = g + 1:=⟨gk - 1,by omega⟩
   have HG:=Lib.hid hi
   obtain ⟨x,hx⟩ : ∃ x,l0[i]? = some x:=⟨_,List.getElem?_eq_getElem hil⟩
   have HX:=Lib.hid hx
   have hrx : rd l0 (i : Int) = x:=by unfold rd; rw [Int.toNat_natCast,List.getD_eq_getElem?_getD,hx]; rfl
   have q1 : (i : Int) < (l0.length : Int):=by omega
   have HI:=Lib.hid hil
   have W4:=Lib.hid (show wrap64 ((i : Int) + 1) = ((i + 1 : Nat) : Int) by rw [Int.natCast_add]; exact IntWalk.wrap64_in _ (by have:=HF.out.h0; omega))
   obtain ⟨ad,rfl,hcell⟩:=Kd.tN HP.out.g0 (i : Int) (by omega) q1
   rw [Int.toNat_natCast,hrx] at hcell
   have yc:=(M6.out.mem.below.cell (World.block_lt_of_cell? _ _ hcell)).trans hcell
   obtain ⟨Av,cv,rfl⟩ : ∃ A c,vc = .slice A (l0.take i).length c:=Kd.iy (M6.out.mem.owns 0 _ rfl)
   have HL4:=Lib.hid (show ((l0.take i).length + 1) * 4 ≤ 140737488355328 by rw [List.length_take]; have:=HF.out.h0; omega)
   have o0:=M6.out.mem.cell 2 rfl 0
   have HKK:=Lib.hid (show Know [(⟨g1,0,none⟩,.slice (some ad) l0.length c0),(⟨g3,0,none⟩,.slice Av (l0.take i).length cv),(ad.add i,.int .u32 x)] w5 from fun c hc => by
    simp only [List.mem_cons,List.not_mem_nil,or_false] at hc
    rcases hc with rfl | rfl | rfl
    ·exact p0
    ·exact o0
    ·exact yc)
   clear hx hrx hil hi hcell yc o0
   go_wp2_with fail
   refine gQ [8,10] _ M6 HKK.out (fun w' MD HK => ?_)
   clear M6 HKK p0
   refine kP 0 17 (.pointer (some ⟨g3,0,none⟩)) ?_
   simp only [Act.put,bF,bH,bG]
   refine kE HK 1 18 1 ?_
   simp only [Act.put,bF,bH,bG]
   refine kP 2 19 (.pointer (some ⟨g1,0,none⟩)) ?_
   simp only [Act.put,bF,bH,bG]
   refine kE HK 3 20 0 ?_
   simp only [Act.put,bF,bH,bG]
   refine kP 4 21 (.int .i64 (i : Int)) ?_
   simp only [Act.put,bF,bH,bG]
   refine kP 5 22 (.pointer (some (ad.add i))) ?_
   simp only [Act.put,bF,bH,bG]
   refine kE HK 6 23 2 ?_
   simp only [Act.put,bF,bH,bG]
   refine kR [7] ?_
   refine kBs HK 7 24 [.int .u32 x] 39 ?_ aK.nil
   clear HK
   intro HK
   simp only [Act.put,bF,bH,bG]
   have MF:=ah.mk (MD.out)
   clear MD
   refine kR [8] ?_
   refine kAp MF 8 25 x [.int .u32 x] (.int .u32 0) 4 HL4.out ?_ rfl rfl (by decide) aK.nil
   clear MF HK
   intro v5 w6 MG
   simp only [Act.put,bF,bH,bG]
   refine kP 9 26 (.pointer (some ⟨g3,0,none⟩)) ?_
   simp only [Act.put,bF,bH,bG]
   refine kR [10] ?_
   refine kC MG 10 22 26 2 0 v5 #[v5,.slice none 0 0,.slice none 0 0] ?_ rfl rfl (bf.one MG.out 0 rfl) rfl aK.nil
   clear MG
   intro w7 MH
   refine iG ?_
   have MI:=ah.mk (MH.out)
   clear MH
   go_wp2
   go_roundg Ep
   case measure => omega
   case rel => exact ⟨i + 1,v5,by have:=HG.out; omega,by rw [W4.out],by rw [take_succ HX.out]; exact MI.out⟩
  ·obtain rfl : i = l0.length:=by omega
   have q1 : ¬ (l0.length : Int) < (l0.length : Int):=by omega
   have M7:=ah.mk (show bf vk w w5 [(g1,#[.slice A0 l0.length c0,.slice A1 l1.length c1,.slice A2 l2.length c2],26),(g2,#[.slice none 0 0,.slice none 0 0,.slice none 0 0],26),(g3,#[vc,.slice none 0 0,.slice none 0 0],26)] [] [⟨Kd.int .u32,39,vc,l0⟩,⟨Kd.raw 2,41,.slice none 0 0,[]⟩,⟨Kd.raw 2,44,.slice none 0 0,[]⟩] by have h:=M6.out; rwa [List.take_length] at h)
   clear hil hi M6
   go_wp2_with fail
   clear p0
   go_loopg [5] l1.length (fun g v5 wr => ∃ (i : Nat) (vf : Value),i + g = l1.length ∧ v5 = .int .i64 i ∧ bf vk w wr [(g1,#[.slice A0 l0.length c0,.slice A1 l1.length c1,.slice A2 l2.length c2],26),(g2,#[.slice none 0 0,.slice none 0 0,.slice none 0 0],26),(g3,#[vc,vf,.slice none 0 0],26)] [] [⟨Kd.int .u32,39,vc,l0⟩,⟨Kd.raw 2,41,vf,(vM (l1.take i)).map ints⟩,⟨Kd.raw 2,44,.slice none 0 0,[]⟩])
   case atStart => exact ⟨0,_,Nat.zero_add _,rfl,M7.out⟩
   case round =>
    clear M7
    rename World => w5
    obtain ⟨i,vf,hi,rfl,M5⟩:=hrel
    have M6:=ah.mk M5
    clear M5
    have p0:=M6.out.mem.cell 0 rfl 1
    by_cases hil : i < l1.length
    ·obtain ⟨Ep,rfl⟩ : ∃ g,gk = g + 1:=⟨gk - 1,by omega⟩
     have HG:=Lib.hid hi
     obtain ⟨x,hx⟩ : ∃ x,l1[i]? = some x:=⟨_,List.getElem?_eq_getElem hil⟩
     have HX:=Lib.hid hx
     have q1 : (i : Int) < (l1.length : Int):=by omega
     have HI:=Lib.hid hil
     have W5:=Lib.hid (show wrap64 ((i : Int) + 1) = ((i + 1 : Nat) : Int) by rw [Int.natCast_add]; exact IntWalk.wrap64_in _ (by have:=HF.out.h1; omega))
     obtain ⟨ad,rfl,x0,x1⟩:=DK HP.out.g1 (i : Int) (by omega) q1
     rw [Int.toNat_natCast] at x0 x1
     rw [Q.Jk hx] at x0 x1
     have HB1:=Lib.hid M6.out.mem.below
     have y0:=(HB1.out.cell (World.block_lt_of_cell? w _ x0)).trans x0
     have y1:=(HB1.out.cell (World.block_lt_of_cell? w _ x1)).trans x1
     obtain ⟨Av,cv,rfl⟩ : ∃ A c,vf = .slice A ((vM (l1.take i)).map ints).length c:=Kd.iy (M6.out.mem.owns 1 _ rfl)
     have HL4:=Lib.hid (show (((vM (l1.take i)).map ints).length + 1) * 16 ≤ 140737488355328 by simp only [List.length_map,List.length_take]; have:=HF.out.h1; omega)
     have o0:=M6.out.mem.cell 2 rfl 1
     have HKK:=Lib.hid (show Know [(⟨g1,1,none⟩,.slice (some ad) l1.length c1),(⟨g3,1,none⟩,.slice Av ((vM (l1.take i)).map ints).length cv),((ad.add (i * 2)).add 0,.int .i64 x.f0),((ad.add (i * 2)).add 1,.int .i64 x.f1)] w5 from fun c hc => by
      simp only [List.mem_cons,List.not_mem_nil,or_false] at hc
      rcases hc with rfl | rfl | rfl | rfl
      ·exact p0
      ·exact o0
      ·rw [add0]; exact y0
      ·exact y1)
     clear hx hil hi x0 x1 y0 y1 o0 HB1
     go_wp2_with fail
     refine gQ [8,10] _ M6 HKK.out (fun w' MD HK => ?_)
     clear M6 HKK p0
     refine kP 0 34 (.pointer (some ⟨g3,1,none⟩)) ?_
     simp only [Act.put,bF,bH,bG]
     refine kE HK 1 35 1 ?_
     simp only [Act.put,bF,bH,bG]
     refine kP 2 36 (.pointer (some ⟨g1,1,none⟩)) ?_
     simp only [Act.put,bF,bH,bG]
     refine kE HK 3 37 0 ?_
     simp only [Act.put,bF,bH,bG]
     refine kP 4 38 (.int .i64 (i : Int)) ?_
     simp only [Act.put,bF,bH,bG]
     refine kP 5 39 (.pointer (some (ad.add (i * 2)))) ?_
     simp only [Act.put,bF,bH,bG]
     refine kL HK 6 40 (ad.add (i * 2)) [.int .i64 x.f0,.int .i64 x.f1] Tryz.underlying41 (fun j u hu => by match j,hu with | 0,hu => obtain rfl:=Option.some.inj hu; simp | 1,hu => obtain rfl:=Option.some.inj hu; simp) ?_
     simp only [Act.put,bF,bH,bG]
     refine kR [7] ?_
     refine kBs HK 7 41 [.int .i64 x.f0,.int .i64 x.f1] 41 ?_ aK.nil
     clear HK
     intro HK
     simp only [Act.put,bF,bH,bG]
     have MF:=ah.mk (MD.out.front 1 rfl)
     clear MD
     refine kR [8] ?_
     refine kAp MF 8 42 [.int .i64 x.f0,.int .i64 x.f1] [.int .i64 x.f0,.int .i64 x.f1] (.agg #[.int .i64 0,.int .i64 0]) 16 HL4.out ?_ (Jj [x.f0,x.f1]) rfl (by decide) aK.nil
     clear MF HK
     intro v5 w6 MG
     simp only [Act.put,bF,bH,bG]
     refine kP 9 43 (.pointer (some ⟨g3,1,none⟩)) ?_
     simp only [Act.put,bF,bH,bG]
     refine kR [10] ?_
     refine kC MG 10 23 43 2 1 v5 #[vc,v5,.slice none 0 0] ?_ rfl rfl (bf.one MG.out 0 rfl) rfl aK.nil
     clear MG
     intro w7 MH
     refine iG ?_
     have MI:=ah.mk (bf.back 1 (by simp) MH.out)
     clear MH
     go_wp2
     go_roundg Ep
     case measure => omega
     case rel => exact ⟨i + 1,v5,by have:=HG.out; omega,by rw [W5.out],by rw [take_succ HX.out]; have h:=MI.out; simpa [vM] using h⟩
    ·obtain rfl : i = l1.length:=by omega
     have q1 : ¬ (l1.length : Int) < (l1.length : Int):=by omega
     have M7:=ah.mk (show bf vk w w5 [(g1,#[.slice A0 l0.length c0,.slice A1 l1.length c1,.slice A2 l2.length c2],26),(g2,#[.slice none 0 0,.slice none 0 0,.slice none 0 0],26),(g3,#[vc,vf,.slice none 0 0],26)] [] (Fa vc vf (.slice none 0 0) [] l0 l1 []) by have h:=M6.out; rwa [List.take_length] at h)
     clear hil hi M6
     go_wp2_with fail
     clear p0
     go_loopg [6] l2.length (fun g v6 wr => ∃ (i : Nat) (vt : Value) (vs : List Value),i + g = l2.length ∧ v6 = .int .i64 i ∧ vs.length = i ∧ bf vk w wr [(g1,#[.slice A0 l0.length c0,.slice A1 l1.length c1,.slice A2 l2.length c2],26),(g2,#[.slice none 0 0,.slice none 0 0,.slice none 0 0],26),(g3,#[vc,vf,vt],26)] [] (Fa vc vf vt vs l0 l1 (l2.take i)))
     case atStart => exact ⟨0,_,[],Nat.zero_add _,rfl,rfl,M7.out⟩
     case round =>
      clear M7
      rename World => w5
      obtain ⟨i,vt,vs,hi,rfl,hvs,M5⟩:=hrel
      have M6:=ah.mk M5
      have HVS:=Lib.hid hvs
      clear M5 hvs
      have p2:=M6.out.mem.cell 0 rfl 2
      by_cases hil : i < l2.length
      ·obtain ⟨Ep,rfl⟩ : ∃ g,gk = g + 1:=⟨gk - 1,by omega⟩
       have HG:=Lib.hid hi
       obtain ⟨x,hx⟩ : ∃ x,l2[i]? = some x:=⟨_,List.getElem?_eq_getElem hil⟩
       have hrd : rX l2 (i : Int) = x:=by unfold rX; rw [Int.toNat_natCast,List.getD_eq_getElem?_getD,hx]; rfl
       have HX:=Lib.hid hx
       have q1 : (i : Int) < (l2.length : Int):=by omega
       have HI:=Lib.hid hil
       have W6:=Lib.hid (show wrap64 ((i : Int) + 1) = ((i + 1 : Nat) : Int) by rw [Int.natCast_add]; exact IntWalk.wrap64_in _ (by have:=HF.out.h2; omega))
       obtain ⟨ad,B0,d0,rfl,x0,x1,hc0,hg0⟩:=IC HP.out.g2 (i : Int) (by omega) q1
       rw [Int.toNat_natCast] at x0 x1
       rw [hrd] at x0 x1 hc0 hg0
       have X0:=Lib.hid x0
       have Yo:=Lib.hid hg0
       have y1:=(M6.out.mem.below.cell (World.block_lt_of_cell? w _ x1)).trans x1
       obtain ⟨Av,nv,cv,rfl⟩ : ∃ A n c,vt = .slice A n c:=by
        obtain ⟨A,c,h⟩ : ∃ A c,vt = .slice A (fF vs (uw (l2.take i))).length c:=Kd.iy (M6.out.mem.owns 2 _ rfl)
        exact ⟨A,_,c,h⟩
       have HL4:=Lib.hid (show ((fF vs (uw (l2.take i))).length + 1) * 32 ≤ 140737488355328 by
        rw [qG (by rw [HVS.out,List.length_map,List.length_take]; omega)]
        simp only [List.length_map,List.length_take]
        have:=HF.out.h2; omega)
       have HXN:=Lib.hid (HF.out.h3 x (List.mem_of_getElem? hx))
       clear hx hrd hil hi x0 x1 hc0 hg0
       go_wp2_with (first
        | ((with_reducible refine bI (N:=7) rfl ?_); refine fBr M6 7 [.slice none 0 0,.bool false] 44 (by intro u hu; simp at hu; rcases hu with rfl | rfl <;> rfl) (by decide) ?_; clear M6; intro g7 w6 M7)
        | ((with_reducible refine aU (t:=44) (p:=7) rfl ?_); refine fE M7 44 (.tmp 7) 0 0 (.agg #[.slice none 0 0,.bool x.f1]) [.slice none 0 0,.bool x.f1] [.slice none 0 0,.bool false] (by decide) rfl ?_ rfl (by intro u hu; simp at hu; rcases hu with rfl | rfl <;> rfl) (Nat.le_refl 2) rfl; clear M7 y1 p2; intro w7 M8)
        | fail)
       have M9:=ah.mk (aag (M8.out.uK (Kd.raw 4) 46 (by decide)))
       clear M8
       go_loopg [8] x.f0.length (fun g v8 wr => ∃ (k : Nat) (vx : Value),k + g = x.f0.length ∧ v8 = .int .i64 k ∧ bf vk w wr [(g1,#[.slice A0 l0.length c0,.slice A1 l1.length c1,.slice (some ad) l2.length c2],26),(g2,#[.slice none 0 0,.slice none 0 0,.slice none 0 0],26),(g3,#[vc,vf,.slice Av nv cv],26)] [] (⟨Kd.raw 4,46,vx,(sK (x.f0.take k)).map rD⟩ :: ⟨Kd.raw 2,44,.slice (some ⟨g7,0,none⟩) 1 1,[[vx,.bool x.f1]]⟩ :: Fa vc vf (.slice Av nv cv) vs l0 l1 (l2.take i)))
       case atStart => exact ⟨0,_,Nat.zero_add _,rfl,M9.out⟩
       case round =>
        clear M9
        rename World => w8
        obtain ⟨k,vx,hk,rfl,M10⟩:=hrel
        have M11:=ah.mk M10
        clear M10
        have p2:=M11.out.mem.cell 0 rfl 2
        have y0:=(M11.out.mem.below.cell (World.block_lt_of_cell? w _ X0.out)).trans X0.out
        by_cases hkl : k < x.f0.length
        ·obtain ⟨G5,rfl⟩ : ∃ g,gk = g + 1:=⟨gk - 1,by omega⟩
         have HG2:=Lib.hid hk
         obtain ⟨c,hc⟩ : ∃ c,x.f0[k]? = some c:=⟨_,List.getElem?_eq_getElem hkl⟩
         have hrd : wM x.f0 (k : Int) = c:=by unfold wM; rw [Int.toNat_natCast,List.getD_eq_getElem?_getD,hc]; rfl
         have HC:=Lib.hid hc
         have q2 : (k : Int) < (x.f0.length : Int):=by omega
         have q1 : (i : Int) < (l2.length : Int):=by have:=HI.out; omega
         have W8:=Lib.hid (show wrap64 ((k : Int) + 1) = ((k + 1 : Nat) : Int) by rw [Int.natCast_add]; exact IntWalk.wrap64_in _ (by have:=HXN.out; omega))
         obtain ⟨Ut,rfl,x0,x1,x2,x3⟩:=KU Yo.out (k : Int) (by omega) q2
         rw [Int.toNat_natCast] at x0 x1 x2 x3
         rw [hrd] at x0 x1 x2 x3
         have HB1:=Lib.hid M11.out.mem.below
         have HKK:=Lib.hid (show Know [(⟨g1,2,none⟩,.slice (some ad) l2.length c2),(ad.add (i * 2),.slice (some Ut) x.f0.length d0),(⟨g7,0,none⟩,vx),((Ut.add (k * 4)).add 0,.bool c.f0),((Ut.add (k * 4)).add 1,.int .i64 c.f1),((Ut.add (k * 4)).add 2,.int .i64 c.f2),((Ut.add (k * 4)).add 3,.int .i64 c.f3)] w8 from fun z hz => by
          simp only [List.mem_cons,List.not_mem_nil,or_false] at hz
          rcases hz with rfl | rfl | rfl | rfl | rfl | rfl | rfl
          ·exact p2
          ·exact y0
          ·exact M11.out.elem 1 rfl (i:=0) rfl (by decide) 0 rfl
          ·rw [add0]; exact (HB1.out.cell (World.block_lt_of_cell? w _ x0)).trans x0
          ·exact (HB1.out.cell (World.block_lt_of_cell? w _ x1)).trans x1
          ·exact (HB1.out.cell (World.block_lt_of_cell? w _ x2)).trans x2
          ·exact (HB1.out.cell (World.block_lt_of_cell? w _ x3)).trans x3)
         obtain ⟨Ax,cx,rfl⟩ : ∃ A c,vx = .slice A ((sK (x.f0.take k)).map rD).length c:=Kd.iy (M11.out.mem.owns 0 _ rfl)
         have HL5:=Lib.hid (show (((sK (x.f0.take k)).map rD).length + 1) * 32 ≤ 140737488355328 by simp only [List.length_map,List.length_take]; have:=HXN.out; omega)
         clear hc hrd hkl hk x0 x1 x2 x3 HB1
         go_wp2_with fail
         refine gQ [12,14] _ M11 HKK.out (fun w' MD HK => ?_)
         clear M11 HKK p2 y0
         refine kP 0 69 (.pointer (some ⟨g7,0,none⟩)) ?_
         simp only [Act.put,bF,bH,bG]
         refine kE HK 1 70 2 ?_
         simp only [Act.put,bF,bH,bG]
         refine kP 2 71 (.pointer (some ⟨g1,2,none⟩)) ?_
         simp only [Act.put,bF,bH,bG]
         refine kE HK 3 72 0 ?_
         simp only [Act.put,bF,bH,bG]
         refine kP 4 73 (.int .i64 (i : Int)) ?_
         simp only [Act.put,bF,bH,bG]
         refine kP 5 74 (.pointer (some (ad.add (i * 2)))) ?_
         simp only [Act.put,bF,bH,bG]
         refine kP 6 75 (.pointer (some (ad.add (i * 2)))) ?_
         simp only [Act.put,bF,bH,bG]
         refine kE HK 7 76 1 ?_
         simp only [Act.put,bF,bH,bG]
         refine kP 8 77 (.int .i64 (k : Int)) ?_
         simp only [Act.put,bF,bH,bG]
         refine kP 9 78 (.pointer (some (Ut.add (k * 4)))) ?_
         simp only [Act.put,bF,bH,bG]
         refine kL HK 10 79 (Ut.add (k * 4)) [.bool c.f0,.int .i64 c.f1,.int .i64 c.f2,.int .i64 c.f3] Tryz.underlying46 (fun j u hu => by match j,hu with | 0,hu => obtain rfl:=Option.some.inj hu; simp | 1,hu => obtain rfl:=Option.some.inj hu; simp | 2,hu => obtain rfl:=Option.some.inj hu; simp | 3,hu => obtain rfl:=Option.some.inj hu; simp) ?_
         simp only [Act.put,bF,bH,bG]
         refine kR [11] ?_
         refine kBs HK 11 80 [.bool c.f0,.int .i64 c.f1,.int .i64 c.f2,.int .i64 c.f3] 46 ?_ aK.nil
         clear HK
         intro HK
         simp only [Act.put,bF,bH,bG]
         refine kR [12] ?_
         refine kAp MD 12 81 [.bool c.f0,.int .i64 c.f1,.int .i64 c.f2,.int .i64 c.f3] [.bool c.f0,.int .i64 c.f1,.int .i64 c.f2,.int .i64 c.f3] (.agg #[.bool false,.int .i64 0,.int .i64 0,.int .i64 0]) 32 HL5.out ?_ (XG c) rfl (by decide) aK.nil
         clear MD HK
         intro v5 w6 MG
         simp only [Act.put,bF,bH,bG]
         refine kP 13 82 (.pointer (some ⟨g7,0,none⟩)) ?_
         simp only [Act.put,bF,bH,bG]
         have MF:=ah.mk (bf.front MG.out 1 rfl)
         have HV5:=Lib.hid (bf.one MG.out 0 rfl)
         clear MG
         refine kR [14] ?_
         refine Xo MF 14 42 (.tmp 82) 0 0 v5 [v5] [.slice Ax ((sK (x.f0.take k)).map rD).length cx,.bool x.f1] (by decide) rfl ?_ (Ya HV5.out) (by intro q hq; rw [List.mem_singleton] at hq; subst hq; exact HV5.out) (Nat.le_succ 1) aK.nil rfl
         clear MF
         intro w7 MI
         refine iG ?_
         go_wp2
         go_roundg G5
         case measure => omega
         case rel => exact ⟨k + 1,v5,by have:=HG2.out; omega,by rw [W8.out],by rw [take_succ HC.out]; have h:=bf.front MI.out 1 rfl; simp only [sK,List.map_append,List.map_cons,List.map_nil] at h ⊢; exact h⟩
        ·obtain rfl : k = x.f0.length:=by omega
         have q2 : ¬ (x.f0.length : Int) < (x.f0.length : Int):=by omega
         have q1 : (i : Int) < (l2.length : Int):=by have:=HI.out; omega
         have M12:=ah.mk (show bf vk w w8 _ [] (⟨Kd.raw 2,44,.slice Av nv cv,fF vs (uw (l2.take i))⟩ :: ⟨Kd.raw 4,46,vx,(sK x.f0).map rD⟩ :: ⟨Kd.raw 2,44,.slice (some ⟨g7,0,none⟩) 1 1,[[vx,.bool x.f1]]⟩ :: ⟨Kd.int .u32,39,vc,l0⟩ :: ⟨Kd.raw 2,41,vf,(vM l1).map ints⟩ :: iE vs (uw (l2.take i))) by
          have h:=M11.out
          rw [List.take_length] at h
          exact bf.front h 4 rfl)
         have z0 : w8.cell? ⟨g7,0,none⟩ = some vx:=M11.out.elem 1 rfl (i:=0) rfl (by decide) 0 rfl
         have z1 : w8.cell? ⟨g7,1,none⟩ = some (.bool x.f1):=M11.out.elem 1 rfl (i:=0) rfl (by decide) 1 rfl
         have o2:=M11.out.mem.cell 2 rfl 2
         have HVX:=Lib.hid (show vx.oneCell' = true from bf.one M11.out 0 rfl)
         clear hkl hk M11
         go_wp2_with (first
          | ((with_reducible refine jB (b:=.append) (xs:=#[.tmp 84,.tmp 86]) rfl ?_); at_builtin; refine fA M12 87 [vx,.bool x.f1] [vx,.bool x.f1] (.agg #[.slice none 0 0,.bool false]) 32 HL4.out ?_ (ES _ _ HVX.out) rfl (by decide); clear M12 z0 z1 o2 p2 y0; intro v5 W9 M13)
          | ((with_reducible refine aU (t:=24) (p:=88) rfl ?_); refine fS M13 24 (.tmp 88) 2 2 v5 #[vc,vf,v5] ?_ rfl rfl (bf.one M13.out 0 rfl) rfl; clear M13; intro w10 M14)
          | fail)
         go_roundg Ep
         case measure => omega
         case rel =>
          refine ⟨i + 1,v5,vs ++ [vx],by have:=HG.out; omega,by rw [W6.out],by rw [List.length_append,HVS.out]; rfl,?_⟩
          have hlen : vs.length = (uw (l2.take i)).length:=by rw [HVS.out,List.length_map,List.length_take]; have:=HI.out; omega
          have h1:=bf.front M14.out 2 rfl
          have h2:=h1.fQ Mem.tail
          have h3:=ady (bf.front h2 1 rfl)
          have h4:=bf.back (rows:=⟨Kd.int .u32,39,vc,l0⟩ :: ⟨Kd.raw 2,41,vf,(vM l1).map ints⟩ :: ⟨Kd.raw 2,44,v5,fF vs (uw (l2.take i)) ++ [[vx,.bool x.f1]]⟩ :: (iE vs (uw (l2.take i)) ++ [⟨Kd.raw 4,46,vx,(sK x.f0).map rD⟩])) 2 (by simp) h3
          have e1:=wH hlen vx (x.f1,sK x.f0)
          have e2:=wB hlen vx (x.f1,sK x.f0)
          have e3 : uw (l2.take (i + 1)) = uw (l2.take i) ++ [(x.f1,sK x.f0)]:=by rw [take_succ HX.out,uw,List.map_append]; rfl
          rw [Fa,e3,e1,e2]
          exact h4
      ·obtain rfl : i = l2.length:=by omega
       have q1 : ¬ (l2.length : Int) < (l2.length : Int):=by omega
       have M7:=ah.mk (show bf vk w w5 [(g1,#[.slice A0 l0.length c0,.slice A1 l1.length c1,.slice A2 l2.length c2],26),(g2,#[.slice none 0 0,.slice none 0 0,.slice none 0 0],26),(g3,#[vc,vf,vt],26)] [] (Fa vc vf vt vs l0 l1 l2) by have h:=M6.out; rwa [List.take_length] at h)
       have HV0:=Lib.hid (show (#[vc,vf,vt] : Array Value).all (·.oneCell') = true by simp [show vc.oneCell' = true from bf.one M7.out 0 rfl,show vf.oneCell' = true from bf.one M7.out 1 rfl,show vt.oneCell' = true from bf.one M7.out 2 rfl])
       have o0:=M7.out.mem.cell 2 rfl 0
       have o1:=M7.out.mem.cell 2 rfl 1
       have o2:=M7.out.mem.cell 2 rfl 2
       clear hil hi M6
       go_wp2_with (first
        | ((with_reducible refine aU (t:=26) (p:=2) rfl ?_); refine fW M7 26 2 1 #[vc,vf,vt] ?_ rfl rfl HV0.out; clear M7 o0 o1 o2 p2; intro w9 M8)
        | fail)
       refine bodyPost_ret (results_cell_row rfl _ _ g2 26 #[vc,vf,vt] (0,0) _ rfl (M8.out.mem.at 1 rfl) Tryz.underlying26 rfl (by kernel_rfl)) rfl ?_
       exact ⟨vc,vf,vt,rfl,vs,HVS.out,M8.out.forget 0⟩
end Go.Proofs.YtdbpglhdicmhhaaGreatDoor.qp
end
