import Derived.Test.YtdbpglhdicmhhaaGreatDoorMPr28
set_option maxHeartbeats 8000000
set_option maxRecDepth 100000
set_option linter.unusedVariables false
set_option linter.unusedSimpArgs false
section
namespace Go.Proofs.YtdbpglhdicmhhaaGreatDoor.qp
open Go.RowKit Go.Shelf Go.Proofs.YtdbpglhdicmhhaaGreatDoorW.aI Go.Proofs.YtdbpglhdicmhhaaGreatDoorW.aX Go.Proofs.YtdbpglhdicmhhaaGreatDoorW.aZ iM
open Go.Proofs.YtdbpglhdicmhhaaGreatDoor.GA
theorem TM (x : Int) : IntKind.i64.wrap x = wrap64 x:=by rw [IntKind.wrap_i64]; unfold wrap64; rfl
def Inv (s : St) : Prop:=s.code.length = s.ins.length ∧ (s.idle = false → s.funcs ≠ [])
theorem vO.room {k : Nat} {s : St} (h : vO k s) (op : Int) : vO (k + 1) (s.room op):=by
 unfold St.room
 split
 ·exact h.mono (Nat.le_succ k)
 ·have h1:=h.ins; have h2:=h.code
  exact ⟨by show (s.code ++ _).length ≤ _; simp; omega,by show (Az _ _).length ≤ _; unfold Az; rw [List.length_set]; exact Nat.le_succ_of_le h.funcs,Nat.le_succ_of_le h.tabs,by show (s.ins ++ _).length ≤ _; simp; omega,Nat.zero_le _,Nat.le_succ_of_le h.uses,fun t ht => Nat.le_succ_of_le (h.cs t ht)⟩
theorem KG {s : St} {op : Int} (h : s.idle = true) : s.room op = s:=if_pos h
def St.Ce (s : St) (op : Int) : St:={ s with opn:=[],ins:=s.ins ++ [[op,0,0,0,0]],code:=s.code ++ [0],funcs:=Az s.funcs (s.ins.length + 1 : Nat) }
theorem Jv {s : St} {op : Int} (h : s.idle = false) : s.room op = s.Ce op:=if_neg (by rw [h]; simp)
theorem X8 {y0 : List Int} (h : (ints y0).length = 2) (e : Int) : (ints y0).take 1 ++ [Value.int .i64 e] ++ (ints y0).drop (1 + [Value.int .i64 e].length) = ints [y0.getD 0 0,e]:=by
 rw [ints,List.length_map] at h
 match y0,h with
 | [a,b],_ => rfl
theorem U7 {es : List TypeId} {w0 W : World} {l : List (Nat × Array Value × TypeId)} {fx : List (Nat × Obj)} {vf vt v5 v6 vu : Value} {gf gt gl : Nat} {of ot ol : Obj} {vs : List Value} {s : St} {op : Int} {m : Nat} {y0 : List Int} (hid : s.idle = false) (hm : s.funcs.length = m + 1) (hy : s.funcs[m]? = some y0) (h2 : (ints y0).length = 2)
  (M : bf es w0 W l fx ([⟨Kd.int .u32,39,v6,s.code ++ [0]⟩,⟨Kd.raw 2,41,vf,(s.funcs.map ints).set m ((ints y0).take 1 ++ [Value.int .i64 ((s.ins.length + 1 : Nat) : Int)] ++ (ints y0).drop (1 + [Value.int .i64 ((s.ins.length + 1 : Nat) : Int)].length))⟩,⟨Kd.raw 2,44,vt,fF vs s.tabs⟩,⟨Kd.raw 5,70,v5,s.ins.map ints ++ [[Value.int .i64 op,.int .i64 0,.int .i64 0,.int .i64 0,.int .i64 0]]⟩,⟨Kd.int .i64,3,.slice none 0 0,[]⟩,⟨Kd.raw 5,111,vu,s.uses.map zH⟩] ++ iE vs s.tabs)) :
  bf es w0 W l fx (dO ⟨v6,vf,vt,v5,.slice none 0 0,vu,gf,gt,gl,of,ot,ol,vs⟩ (s.Ce op)):=by
 rw [X8 h2] at M
 have key : ∀ A B,A = (s.funcs.map ints).set m (ints [y0.getD 0 0,((s.ins.length + 1 : Nat) : Int)]) → B = s.ins.map ints ++ [[Value.int .i64 op,.int .i64 0,.int .i64 0,.int .i64 0,.int .i64 0]] → bf es w0 W l fx (⟨Kd.int .u32,39,v6,s.code ++ [0]⟩ :: ⟨Kd.raw 2,41,vf,A⟩ :: ⟨Kd.raw 2,44,vt,fF vs s.tabs⟩ :: ⟨Kd.raw 5,70,v5,B⟩ :: ⟨Kd.int .i64,3,.slice none 0 0,[]⟩ :: ⟨Kd.raw 5,111,vu,s.uses.map zH⟩ :: iE vs s.tabs):=by
  intro A B hA hB
  rw [hA,hB]; exact M
 refine key _ _ ?_ ?_
 ·show (Az s.funcs _).map ints = _
  unfold Az
  have e : s.funcs.getD m [] = y0:=by rw [List.getD_eq_getElem?_getD,hy]; rfl
  rw [hm,show m + 1 - 1 = m from rfl,e,List.map_set]
 ·show (s.ins ++ _).map ints = _
  rw [List.map_append]; rfl
section
variable {k : Nat} {w0 W : World} {gr gw : Nat} {l : List (Nat × Array Value × TypeId)} {h : Hd} {s : St} {c : Nat} {s0 : ByteArray} {r : List ByteArray}
theorem UK {s : St} {s0 : ByteArray} {r : List ByteArray} (h : (JH s0).2 ≠ 0) : s.instr (s0 :: r) = (s,70):=if_pos h
theorem Pj {s : St} {s0 : ByteArray} {r : List ByteArray} (h : (JH s0).2 = 0) : s.instr (s0 :: r) = (s.room (JH s0).1).regs s.ins.length (JH s0).1 r:=if_neg (fun e => e h)
theorem QU (M0 : dX k w0 W gr l h s) (L : Line l gw (r.length + 1) c (s0 :: r)) (he : (JH s0).2 ≠ 0) :
  Calls Tryz.prog 63 #[.pointer (some ⟨gr,0,none⟩),.slice (some ⟨gw,0,none⟩) (r.length + 1) c] W fun z w' => z = .returned (.int .i64 (s.instr (s0 :: r)).2) ∧ ∃ h',dX (k + 1) w0 w' gr l h' (s.instr (s0 :: r)).1:=by
 have x0:=M0.word L (j:=0) rfl
 have HFD:=Lib.hid (fun W => sF.calls s0 _ _ W (Nv s0))
 have b2 : ((JH s0).2 != 0) = true:=bne_iff_ne.mpr he
 have hcap : r.length + 1 ≤ c:=L.cap
 have M:=ah.mk M0
 rw [UK he]
 clear M0 L he
 go_enter Tryz.func63,Tryz.ntmps63
 go_wp2_with (first | (go_at_call 97; refine (HFD.out _).mono ?_; rintro e1 w1 ⟨rfl,hb1⟩; have M1:=ah.mk (M.out.call hb1); clear M hb1 x0))
 go_returns
 exact ⟨rfl,h,M1.out.more⟩
theorem QT (M0 : dX k w0 W gr l h s) (S : Std w0) (hk : k < 262144) (L : Line l gw (r.length + 1) c (s0 :: r)) (he : (JH s0).2 = 0) (hid : s.idle = true) :
  Calls Tryz.prog 63 #[.pointer (some ⟨gr,0,none⟩),.slice (some ⟨gw,0,none⟩) (r.length + 1) c] W fun z w' => z = .returned (.int .i64 (s.instr (s0 :: r)).2) ∧ ∃ h',dX (k + 1) w0 w' gr l h' (s.instr (s0 :: r)).1:=by
 have x0:=M0.word L (j:=0) rfl
 have hfd:=fun W => sF.calls s0 _ _ W (Nv s0)
 rw [he] at hfd
 have HFD:=Lib.hid hfd
 have hcap : r.length + 1 ≤ c:=L.cap
 obtain ⟨vc,vf,vt,vi,vo,vu,gf,gt,gl,of,ot,ol,vs⟩:=h
 obtain ⟨A3,c3,rfl⟩ : ∃ A c,vi = .slice A s.ins.length c:=by
  obtain ⟨A,c,he⟩:=Kd.iy (M0.mem.mem.owns 3 _ rfl)
  exact ⟨A,c,by rw [show s.ins.length = (s.ins.map ints).length by simp]; exact he⟩
 have M:=ah.mk M0
 have SS:=Lib.hid S
 have HK:=Lib.hid hk
 have HL:=Lib.hid L
 have HU:=Lib.hid (show s.uses.length < k + 1 by have:=M0.few.uses; omega)
 have Yf:=Lib.hid hid
 rw [Pj he,KG hid]
 clear M0 L he hfd S hk hid
 go_enter Tryz.func63,Tryz.ntmps63
 go_wp2_with fail
 refine (HFD.out _).mono ?_
 rintro e1 w1 ⟨rfl,hb1⟩
 have M1:=ah.mk (M.out.call hb1)
 clear M hb1 x0
 have x3 : w1.cell? ⟨gr,3,none⟩ = some (.slice A3 s.ins.length c3):=bY M1.out.mem 3 rfl
 have x9 : w1.cell? ⟨gr,9,none⟩ = some (.bool s.idle):=bY M1.out.mem 9 rfl
 rw [Yf.out] at x9
 go_upto_if 38 with fail
 rename_i LC
 refine wp_cond_split rfl (fun h => ?_) (fun h => ?_)
 ·cases h
 ·refine wp_skip ?_
  refine LC _ _ ?_
  exact Ph M1.out.more SS.out HU.out HK.out (fun h => absurd h (by rw [Yf.out]; simp)) HL.out
theorem UL (M0 : dX k w0 W gr l h s) (S : Std w0) (hk : k < 262144) (L : Line l gw (r.length + 1) c (s0 :: r)) (he : (JH s0).2 = 0) (hid : s.idle = false) (hi : Inv s) :
  Calls Tryz.prog 63 #[.pointer (some ⟨gr,0,none⟩),.slice (some ⟨gw,0,none⟩) (r.length + 1) c] W fun z w' => z = .returned (.int .i64 (s.instr (s0 :: r)).2) ∧ ∃ h',dX (k + 1) w0 w' gr l h' (s.instr (s0 :: r)).1:=by
 have x0:=M0.word L (j:=0) rfl
 have hfd:=fun W => sF.calls s0 _ _ W (Nv s0)
 rw [he] at hfd
 have HFD:=Lib.hid hfd
 have hcap : r.length + 1 ≤ c:=L.cap
 have alM:=Lib.hid hi
 obtain ⟨vc,vf,vt,vi,vo,vu,gf,gt,gl,of,ot,ol,vs⟩:=h
 obtain ⟨A3,c3,rfl⟩ : ∃ A c,vi = .slice A s.ins.length c:=by
  obtain ⟨A,c,he⟩:=Kd.iy (M0.mem.mem.owns 3 _ rfl)
  exact ⟨A,c,by rw [show s.ins.length = (s.ins.map ints).length by simp]; exact he⟩
 obtain ⟨m,hm0⟩ : ∃ m,s.funcs.length = m + 1:=⟨s.funcs.length - 1,by have:=List.length_pos_iff.2 (hi.2 hid); omega⟩
 obtain ⟨nf,hnf⟩ : ∃ n,n = m + 1:=⟨_,rfl⟩
 obtain ⟨g1,c1,rfl,hc1⟩ : ∃ g c,vf = .slice (some ⟨g,0,none⟩) nf c ∧ nf ≤ c:=by
  have e : (s.funcs.map ints).length = nf:=by rw [List.length_map,hm0,hnf]
  rcases bf.slice M0.mem 1 rfl with ⟨_,_,h2⟩ | ⟨g,c,h1,h2⟩
  ·rw [h2,hnf] at e; cases e
  ·exact ⟨g,c,by rw [← e]; exact h1,by rw [← e]; exact h2⟩
 obtain ⟨y0,hy0⟩ : ∃ y,s.funcs[m]? = some y:=⟨_,List.getElem?_eq_getElem (by omega)⟩
 have hx0 : (s.funcs.map ints)[m]? = some (ints y0):=by rw [List.getElem?_map,hy0]; rfl
 have HY2:=Lib.hid (bf.ND M0.mem 1 rfl hx0 (by omega))
 have b5 : (m : Int) < (nf : Int):=by omega
 have b6 : m < nf:=by omega
 have b7 : nf ≤ c1:=hc1
 have wsub : wrap64 ((nf : Int) - 1) = (m : Int):=by rw [hnf,Int.natCast_add,show ((m : Int) + (1 : Nat)) - 1 = m by omega]; exact IntWalk.wrap64_in _ (by have:=M0.few.funcs; omega)
 have ajw : wrap64 ((s.ins.length : Int) + 1) = ((s.ins.length + 1 : Nat) : Int):=by rw [Int.natCast_add]; exact IntWalk.wrap64_in _ (by have:=M0.few.ins; omega)
 have HL7:=Lib.hid (show ((s.ins.map ints).length + 1) * 40 ≤ 140737488355328 by rw [List.length_map]; have:=M0.few.ins; omega)
 have HL8:=Lib.hid (show (s.code.length + 1) * 4 ≤ 140737488355328 by have:=M0.few.code; omega)
 have M:=ah.mk M0
 have SS:=Lib.hid S
 have HK:=Lib.hid hk
 have HL:=Lib.hid L
 have HU:=Lib.hid (show (s.Ce (JH s0).1).uses.length < k + 1 by have:=M0.few.uses; show s.uses.length < _; omega)
 have HN:=Lib.hid (show (s.Ce (JH s0).1).idle = false → s.ins.length < (s.Ce (JH s0).1).ins.length ∧ s.ins.length < (s.Ce (JH s0).1).code.length by
  intro _
  show s.ins.length < (s.ins ++ _).length ∧ s.ins.length < (s.code ++ _).length
  have:=hi.1
  rw [List.length_append,List.length_append]; simp; omega)
 have Yf:=Lib.hid hid
 have hfw:=M0.few.room (JH s0).1
 rw [Jv hid] at hfw
 have rF:=Lib.hid hfw
 have fU:=Lib.hid (M0.says.mono (Nat.le_succ k))
 have iK:=Lib.hid M0.len
 have HM0:=Lib.hid hm0
 have HY0:=Lib.hid hy0
 rw [Pj he,Jv hid]
 generalize (JH s0).1 = op at *
 clear M0 L he hfd S hk hid hi hm0 hy0 hnf hfw
 go_enter Tryz.func63,Tryz.ntmps63
 go_wp2_with fail
 refine (HFD.out _).mono ?_
 rintro e1 w1 ⟨rfl,hb1⟩
 have M1:=ah.mk (M.out.call hb1)
 clear M hb1 x0
 have x3 : w1.cell? ⟨gr,3,none⟩ = some (.slice A3 s.ins.length c3):=bY M1.out.mem 3 rfl
 have x9 : w1.cell? ⟨gr,9,none⟩ = some (.bool s.idle):=bY M1.out.mem 9 rfl
 rw [Yf.out] at x9
 go_upto_if 38 with fail
 rename_i LC
 go_wp2_with (first
  | ((with_reducible refine aU (t:=52) (p:=41) rfl ?_); refine fS (ah.mk M1.out.mem) 52 (.tmp 41) 0 7 (.slice none 0 0) (dN vc (.slice (some ⟨g1,0,none⟩) nf c1) vt (.slice A3 s.ins.length c3) gf gt gl (.slice none 0 0) s.cases s.idle vu s.wrong s.line s.now) ?_ rfl rfl rfl rfl; clear M1 x9 x3; intro W2 M2; have x3 : W2.cell? ⟨gr,3,none⟩ = some (.slice A3 s.ins.length c3):=bY M2.out 3 rfl; have MF:=ah.mk (bf.front (M2.out.XA 4 rfl) 3 rfl); clear M2)
  | ((with_reducible refine jB (b:=.append) (xs:=#[.tmp 46,.tmp 49]) rfl ?_); at_builtin; refine fA MF 50 [Value.int .i64 op,.int .i64 0,.int .i64 0,.int .i64 0,.int .i64 0] [Value.int .i64 op,.int .i64 0,.int .i64 0,.int .i64 0,.int .i64 0] (.agg #[.int .i64 0,.int .i64 0,.int .i64 0,.int .i64 0,.int .i64 0]) 40 HL7.out ?_ (Jj [op,0,0,0,0]) rfl (by decide); clear MF x3; intro v5 W5 MG)
  | ((with_reducible refine aU (t:=51) (p:=52) rfl ?_); refine fS MG 51 (.tmp 52) 0 3 v5 (dN vc (.slice (some ⟨g1,0,none⟩) nf c1) vt v5 gf gt gl (.slice none 0 0) s.cases s.idle vu s.wrong s.line s.now) ?_ rfl rfl (bf.one MG.out 0 rfl) rfl; clear MG; intro W6 MH; have x0 : W6.cell? ⟨gr,0,none⟩ = some vc:=bY MH.out 0 rfl; have MC:=ah.mk (bf.back 3 (by rw [List.length_set]; show 3 < (dO _ _).length; simp [dO]) MH.out); clear MH)
  | ((with_reducible refine jB (b:=.append) (xs:=#[.tmp 58,.tmp 59]) rfl ?_); at_builtin; refine fA MC 60 0 [.int .u32 0] (.int .u32 0) 4 HL8.out ?_ rfl rfl (by decide); clear MC x0; intro v6 W7 MI)
  | ((with_reducible refine aU (t:=22) (p:=63) rfl ?_); refine fS MI 22 (.tmp 63) 0 0 v6 (dN v6 (.slice (some ⟨g1,0,none⟩) nf c1) vt v5 gf gt gl (.slice none 0 0) s.cases s.idle vu s.wrong s.line s.now) ?_ rfl rfl (bf.one MI.out 0 rfl) rfl; clear MI; intro W8 MJ))
 refine gQ [16] [(⟨gr,1,none⟩,(.slice (some ⟨g1,0,none⟩) nf c1))] MJ ?_ (fun w2 MD fV => ?_)
 ·intro q hq
  simp only [List.mem_cons,List.not_mem_nil,or_false] at hq
  rcases hq with rfl
  exact bY MJ.out 1 rfl
 clear MJ
 refine kP 0 64 (.pointer (some ⟨gr,0,none⟩)) ?_
 simp only [Act.put,bF,bH,bG]
 refine kP 1 65 (.pointer (some ⟨gr,0,none⟩)) ?_
 simp only [Act.put,bF,bH,bG]
 refine kP 2 66 (.pointer (some ⟨gr,0,none⟩)) ?_
 simp only [Act.put,bF,bH,bG]
 refine kP 3 67 (.pointer (some ⟨gr,1,none⟩)) ?_
 simp only [Act.put,bF,bH,bG]
 refine kE fV 4 68 0 ?_
 simp only [Act.put,bF,bH,bG]
 refine kP 5 69 (.pointer (some ⟨gr,0,none⟩)) ?_
 simp only [Act.put,bF,bH,bG]
 refine kP 6 70 (.pointer (some ⟨gr,0,none⟩)) ?_
 simp only [Act.put,bF,bH,bG]
 refine kP 7 71 (.pointer (some ⟨gr,0,none⟩)) ?_
 simp only [Act.put,bF,bH,bG]
 refine kP 8 72 (.pointer (some ⟨gr,1,none⟩)) ?_
 simp only [Act.put,bF,bH,bG]
 refine kE fV 9 73 0 ?_
 simp only [Act.put,bF,bH,bG]
 refine kP 10 74 (.int .i64 (nf : Int)) ?_
 simp only [Act.put,bF,bH,bG]
 refine kP 11 75 (.int .i64 (m : Int)) (hy:=fun w => by go_simp; exact (TM _).trans wsub) ?_
 simp only [Act.put,bF,bH,bG]
 refine kP 12 76 (.int .i64 (s.ins.length : Int)) ?_
 simp only [Act.put,bF,bH,bG]
 refine kP 13 77 (.int .i64 ((s.ins.length + 1 : Nat) : Int)) (hy:=fun w => by go_simp; exact (TM _).trans ajw) ?_
 simp only [Act.put,bF,bH,bG]
 refine kP 14 78 (.pointer (some ⟨g1,m * 2,none⟩)) ?_
 simp only [Act.put,bF,bH,bG]
 refine kP 15 79 (.pointer (some ⟨g1,m * 2 + 1,none⟩)) ?_
 simp only [Act.put,bF,bH,bG]
 have MF:=ah.mk (bf.front MD.out 1 rfl)
 clear MD
 refine kR [16] ?_
 refine Xo MF 16 3 (.tmp 79) m 1 (.int .i64 ((s.ins.length + 1 : Nat) : Int)) [.int .i64 ((s.ins.length + 1 : Nat) : Int)] (ints y0) b6 hx0 ?_ rfl (by intro q hq; rw [List.mem_singleton] at hq; subst hq; rfl) (Nat.le_refl 2) aK.nil rfl
 clear MF fV
 intro w3 MG
 refine iG ?_
 have MI:=ah.mk (show Ee w0 w3 gr l ⟨v6,.slice (some ⟨g1,0,none⟩) nf c1,vt,v5,.slice none 0 0,vu,gf,gt,gl,of,ot,ol,vs⟩ (s.Ce op) from U7 Yf.out HM0.out HY0.out HY2.out (bf.back 1 (by simp) MG.out))
 clear MG
 refine LC _ _ ?_
 exact Ph (dX.mk MI.out rF.out ⟨fU.out.f,fU.out.t,fU.out.l⟩ iK.out) SS.out HU.out HK.out HN.out HL.out
theorem qQ {n : Nat} (M0 : dX k w0 W gr l h s) (S : Std w0) (hk : k < 262144) (L : Line l gw n c (s0 :: r)) (hi : Inv s) :
  Calls Tryz.prog 63 #[.pointer (some ⟨gr,0,none⟩),.slice (some ⟨gw,0,none⟩) n c] W fun z w' => z = .returned (.int .i64 (s.instr (s0 :: r)).2) ∧ ∃ h',dX (k + 1) w0 w' gr l h' (s.instr (s0 :: r)).1:=by
 obtain rfl : n = r.length + 1:=L.len.symm
 by_cases he : (JH s0).2 = 0
 ·cases hid : s.idle with
  | true => exact QT M0 S hk L he hid
  | false => exact UL M0 S hk L he hid hi
 ·exact QU M0 L he
end
end Go.Proofs.YtdbpglhdicmhhaaGreatDoor.qp
end
