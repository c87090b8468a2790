import Derived.Test.YtdbpglhdicmhhaaGreatDoorMPr29
import Derived.Test.YtdbpglhdicmhhaaGreatDoorMPr10
set_option maxHeartbeats 8000000
set_option maxRecDepth 100000
set_option linter.unusedVariables false
set_option linter.unusedSimpArgs false
section
namespace Go.Proofs.YtdbpglhdicmhhaaGreatDoor.qp
open Go.RowKit Go.Shelf Go.Proofs.YtdbpglhdicmhhaaGreatDoorW.aI Go.Proofs.YtdbpglhdicmhhaaGreatDoorW.aX Go.Proofs.YtdbpglhdicmhhaaGreatDoorW.aZ iM
open Go.Proofs.YtdbpglhdicmhhaaGreatDoor.GA
def Dx : List UInt8:=[102,117,110,99]
def AA : List UInt8:=[116,97,98,108,101]
def Ob (w : ByteArray) (l : List UInt8) : Bool:=w.data.toList == l
def St.read (s : St) (ws : List ByteArray) : St:=match ws with
 | [] => s
 | w :: r =>
  if Ob w Dx then St.fn { s with cases:=false } (w :: r)
  else if Ob w AA then St.table { s with cases:=true } (w :: r)
  else if s.cases && (Ob w uo || Ob w wR) then ((s.pick (Ob w uo) r).1.bad (s.pick (Ob w uo) r).2 s.now)
  else if (w :: r).length = 1 ∧ Lib.hasSuffix w.data.toList [58] = true then
   (St.mark { s with cases:=false } ⟨(Lib.trimSuffix w.data.toList [58]).toArray⟩).1.bad (St.mark { s with cases:=false } ⟨(Lib.trimSuffix w.data.toList [58]).toArray⟩).2 s.now
  else (St.instr { s with cases:=false } (w :: r)).1.bad (St.instr { s with cases:=false } (w :: r)).2 s.now
theorem PO (s : St) (b : Bool) (r : List ByteArray) : (s.pick b r).1.now = s.now:=by
 unfold St.pick
 repeat' split
 all_goals rfl
theorem EN (s : St) (b : ByteArray) : (s.mark b).1.now = s.now:=by
 unfold St.mark
 split
 ·rfl
 ·split
  ·rfl
  ·split <;> rfl
theorem Lp (s : St) (a : Nat) (e : Int) (i : List Int) : (s.fin a e i).1.now = s.now:=by
 unfold St.fin
 split
 ·rfl
 ·split <;> rfl
theorem ZO (s : St) (a : Nat) (op e : Int) (abc : List Int) (r : List ByteArray) : (s.jC a op e abc r).1.now = s.now:=by
 unfold St.jC
 split
 ·exact Lp ..
 ·dsimp only
  split
  ·exact Lp ..
  ·split
   ·rfl
   ·exact Lp ..
theorem XU (s : St) (a : Nat) (op : Int) (r : List ByteArray) : (s.regs a op r).1.now = s.now:=by
 unfold St.regs
 dsimp only
 repeat' split
 all_goals first | rfl | exact ZO ..
theorem X3 (s : St) (op : Int) : (s.room op).now = s.now:=by
 unfold St.room
 split <;> rfl
theorem uj (s : St) (ws : List ByteArray) : (s.instr ws).1.now = s.now:=by
 unfold St.instr
 split
 ·rfl
 ·split
  ·rfl
  ·rw [XU,X3]
theorem Dc (s : ByteArray) (h : s.size ≤ 262144) : (⟨(Lib.trimSuffix s.data.toList [58]).toArray⟩ : ByteArray).size ≤ 262144:=by
 show (Lib.trimSuffix s.data.toList [58]).toArray.size ≤ 262144
 rw [List.size_toArray]
 unfold Lib.trimSuffix
 have h0 : s.data.toList.length ≤ 262144:=by rw [Array.length_toList]; exact h
 split
 ·rw [List.length_take]; omega
 ·exact h0
structure Fine (s : St) : Prop where
 inv : Inv s
 tabs : s.cases = true → s.tabs ≠ []
section
variable {k : Nat} {w0 W : World} {gr gw : Nat} {l : List (Nat × Array Value × TypeId)} {h : Hd} {s : St} {n c : Nat} {s0 : ByteArray} {r : List ByteArray}
theorem PW (M0 : dX k w0 W gr l h s) (S : Std w0) (hk : k < 262144) (L : Line l gw n c (s0 :: r)) (hw : s0.data.toList = Dx) (hc : s.cases = true) :
  Calls Tryz.prog 24 #[.pointer (some ⟨gr,0,none⟩),.slice (some ⟨gw,0,none⟩) n c] W fun z w' => z = .returned (.tuple #[]) ∧ ∃ h',dX (k + 1) w0 w' gr l h' (St.fn { s with cases:=false } (s0 :: r)):=by
 have SS:=Lib.hid S
 have HK:=Lib.hid hk
 have HL:=Lib.hid L
 have hcap : n ≤ c:=L.cap
 have hn : r.length + 1 = n:=by have:=L.len; rw [List.length_cons] at this; exact this
 have hpos : 0 < n:=by omega
 have uQ : (0 : Int) < (n : Int):=by omega
 have hsz:=L.small s0 List.mem_cons_self
 obtain ⟨vc,vf,vt,vi,vo,vu,gf,gt,gl,of,ot,ol,vs⟩:=h
 have x8 : W.cell? ⟨gr,8,none⟩ = some (.bool s.cases):=bY M0.mem 8 rfl
 have x0:=M0.word L (j:=0) rfl
 have rF:=Lib.hid M0.few
 have fU:=Lib.hid M0.says
 have iK:=Lib.hid M0.len
 have e0 : (s0.toList == [115,101,110,100]) = false:=by rw [ByteArray.toList_eq,hw]; rfl
 have e1 : (s0.toList == [114,101,99,118]) = false:=by rw [ByteArray.toList_eq,hw]; rfl
 have e2 : (s0.toList == [116,97,98,108,101]) = false:=by rw [ByteArray.toList_eq,hw]; rfl
 have e3 : (s0.toList == [102,117,110,99]) = true:=by rw [ByteArray.toList_eq,hw]; rfl
 have e4 : s0.toList = [102,117,110,99]:=by rw [ByteArray.toList_eq]; exact hw
 rw [hc] at x8
 have M:=ah.mk M0
 clear M0 S hk L hn hw hc
 go_enter Tryz.func24,Tryz.ntmps24
 go_wp2_with (first
  | ((with_reducible refine aU (t:=4) (p:=30) rfl ?_); refine fS (ah.mk M.out.mem) 4 (.tmp 30) 0 8 (.bool false) (dN vc vf vt vi gf gt gl vo false s.idle vu s.wrong s.line s.now) ?_ rfl rfl rfl rfl; clear M x8 x0; intro W2 M2_; have M2:=ah.mk (dX.mk (s:={ s with cases:=false }) (h:=⟨vc,vf,vt,vi,vo,vu,gf,gt,gl,of,ot,ol,vs⟩) M2_.out (rF.out.like) ⟨fU.out.f,fU.out.t,fU.out.l⟩ iK.out); clear M2_; have x0:=M2.out.word HL.out (j:=0) rfl))
 refine (OU M2.out SS.out HK.out HL.out).mono ?_
 rintro e w3 ⟨rfl,h',M3⟩
 have M4:=ah.mk M3
 clear M3 M2 x0
 go_wp2
 go_returns
 exact ⟨rfl,h',M4.out⟩
theorem PV (M0 : dX k w0 W gr l h s) (S : Std w0) (hk : k < 262144) (L : Line l gw n c (s0 :: r)) (hw : s0.data.toList = Dx) (hc : s.cases = false) :
  Calls Tryz.prog 24 #[.pointer (some ⟨gr,0,none⟩),.slice (some ⟨gw,0,none⟩) n c] W fun z w' => z = .returned (.tuple #[]) ∧ ∃ h',dX (k + 1) w0 w' gr l h' (St.fn { s with cases:=false } (s0 :: r)):=by
 have SS:=Lib.hid S
 have HK:=Lib.hid hk
 have HL:=Lib.hid L
 have hcap : n ≤ c:=L.cap
 have hn : r.length + 1 = n:=by have:=L.len; rw [List.length_cons] at this; exact this
 have hpos : 0 < n:=by omega
 have uQ : (0 : Int) < (n : Int):=by omega
 have hsz:=L.small s0 List.mem_cons_self
 obtain ⟨vc,vf,vt,vi,vo,vu,gf,gt,gl,of,ot,ol,vs⟩:=h
 have x8 : W.cell? ⟨gr,8,none⟩ = some (.bool s.cases):=bY M0.mem 8 rfl
 have x0:=M0.word L (j:=0) rfl
 have rF:=Lib.hid M0.few
 have fU:=Lib.hid M0.says
 have iK:=Lib.hid M0.len
 have e0 : (s0.toList == [115,101,110,100]) = false:=by rw [ByteArray.toList_eq,hw]; rfl
 have e1 : (s0.toList == [114,101,99,118]) = false:=by rw [ByteArray.toList_eq,hw]; rfl
 have e2 : (s0.toList == [116,97,98,108,101]) = false:=by rw [ByteArray.toList_eq,hw]; rfl
 have e3 : (s0.toList == [102,117,110,99]) = true:=by rw [ByteArray.toList_eq,hw]; rfl
 have e4 : s0.toList = [102,117,110,99]:=by rw [ByteArray.toList_eq]; exact hw
 rw [hc] at x8
 have M:=ah.mk M0
 clear M0 S hk L hn hw hc
 go_enter Tryz.func24,Tryz.ntmps24
 go_wp2_with (first
  | ((with_reducible refine aU (t:=4) (p:=30) rfl ?_); refine fS (ah.mk M.out.mem) 4 (.tmp 30) 0 8 (.bool false) (dN vc vf vt vi gf gt gl vo false s.idle vu s.wrong s.line s.now) ?_ rfl rfl rfl rfl; clear M x8 x0; intro W2 M2_; have M2:=ah.mk (dX.mk (s:={ s with cases:=false }) (h:=⟨vc,vf,vt,vi,vo,vu,gf,gt,gl,of,ot,ol,vs⟩) M2_.out (rF.out.like) ⟨fU.out.f,fU.out.t,fU.out.l⟩ iK.out); clear M2_; have x0:=M2.out.word HL.out (j:=0) rfl))
 refine (OU M2.out SS.out HK.out HL.out).mono ?_
 rintro e w3 ⟨rfl,h',M3⟩
 have M4:=ah.mk M3
 clear M3 M2 x0
 go_wp2
 go_returns
 exact ⟨rfl,h',M4.out⟩
theorem NK (M0 : dX k w0 W gr l h s) (S : Std w0) (hk : k < 262144) (L : Line l gw n c (s0 :: r)) (hw : s0.data.toList = AA) (hc : s.cases = true) :
  Calls Tryz.prog 24 #[.pointer (some ⟨gr,0,none⟩),.slice (some ⟨gw,0,none⟩) n c] W fun z w' => z = .returned (.tuple #[]) ∧ ∃ h',dX (k + 1) w0 w' gr l h' (St.table { s with cases:=true } (s0 :: r)):=by
 have SS:=Lib.hid S
 have HK:=Lib.hid hk
 have HL:=Lib.hid L
 have hcap : n ≤ c:=L.cap
 have hn : r.length + 1 = n:=by have:=L.len; rw [List.length_cons] at this; exact this
 have hpos : 0 < n:=by omega
 have uQ : (0 : Int) < (n : Int):=by omega
 have hsz:=L.small s0 List.mem_cons_self
 obtain ⟨vc,vf,vt,vi,vo,vu,gf,gt,gl,of,ot,ol,vs⟩:=h
 have x8 : W.cell? ⟨gr,8,none⟩ = some (.bool s.cases):=bY M0.mem 8 rfl
 have x0:=M0.word L (j:=0) rfl
 have rF:=Lib.hid M0.few
 have fU:=Lib.hid M0.says
 have iK:=Lib.hid M0.len
 have e0 : (s0.toList == [115,101,110,100]) = false:=by rw [ByteArray.toList_eq,hw]; rfl
 have e1 : (s0.toList == [114,101,99,118]) = false:=by rw [ByteArray.toList_eq,hw]; rfl
 have e2 : (s0.toList == [116,97,98,108,101]) = true:=by rw [ByteArray.toList_eq,hw]; rfl
 have e3 : (s0.toList == [102,117,110,99]) = false:=by rw [ByteArray.toList_eq,hw]; rfl
 have e4 : s0.toList = [116,97,98,108,101]:=by rw [ByteArray.toList_eq]; exact hw
 rw [hc] at x8
 have M:=ah.mk M0
 clear M0 S hk L hn hw hc
 go_enter Tryz.func24,Tryz.ntmps24
 go_wp2_with (first
  | ((with_reducible refine aU (t:=4) (p:=30) rfl ?_); refine fS (ah.mk M.out.mem) 4 (.tmp 30) 0 8 (.bool true) (dN vc vf vt vi gf gt gl vo true s.idle vu s.wrong s.line s.now) ?_ rfl rfl rfl rfl; clear M x8 x0; intro W2 M2_; have M2:=ah.mk (dX.mk (s:={ s with cases:=true }) (h:=⟨vc,vf,vt,vi,vo,vu,gf,gt,gl,of,ot,ol,vs⟩) M2_.out (rF.out.like) ⟨fU.out.f,fU.out.t,fU.out.l⟩ iK.out); clear M2_; have x0:=M2.out.word HL.out (j:=0) rfl))
 refine (uq M2.out SS.out HK.out HL.out).mono ?_
 rintro e w3 ⟨rfl,h',M3⟩
 have M4:=ah.mk M3
 clear M3 M2 x0
 go_wp2
 go_returns
 exact ⟨rfl,h',M4.out⟩
theorem NJ (M0 : dX k w0 W gr l h s) (S : Std w0) (hk : k < 262144) (L : Line l gw n c (s0 :: r)) (hw : s0.data.toList = AA) (hc : s.cases = false) :
  Calls Tryz.prog 24 #[.pointer (some ⟨gr,0,none⟩),.slice (some ⟨gw,0,none⟩) n c] W fun z w' => z = .returned (.tuple #[]) ∧ ∃ h',dX (k + 1) w0 w' gr l h' (St.table { s with cases:=true } (s0 :: r)):=by
 have SS:=Lib.hid S
 have HK:=Lib.hid hk
 have HL:=Lib.hid L
 have hcap : n ≤ c:=L.cap
 have hn : r.length + 1 = n:=by have:=L.len; rw [List.length_cons] at this; exact this
 have hpos : 0 < n:=by omega
 have uQ : (0 : Int) < (n : Int):=by omega
 have hsz:=L.small s0 List.mem_cons_self
 obtain ⟨vc,vf,vt,vi,vo,vu,gf,gt,gl,of,ot,ol,vs⟩:=h
 have x8 : W.cell? ⟨gr,8,none⟩ = some (.bool s.cases):=bY M0.mem 8 rfl
 have x0:=M0.word L (j:=0) rfl
 have rF:=Lib.hid M0.few
 have fU:=Lib.hid M0.says
 have iK:=Lib.hid M0.len
 have e0 : (s0.toList == [115,101,110,100]) = false:=by rw [ByteArray.toList_eq,hw]; rfl
 have e1 : (s0.toList == [114,101,99,118]) = false:=by rw [ByteArray.toList_eq,hw]; rfl
 have e2 : (s0.toList == [116,97,98,108,101]) = true:=by rw [ByteArray.toList_eq,hw]; rfl
 have e3 : (s0.toList == [102,117,110,99]) = false:=by rw [ByteArray.toList_eq,hw]; rfl
 have e4 : s0.toList = [116,97,98,108,101]:=by rw [ByteArray.toList_eq]; exact hw
 rw [hc] at x8
 have M:=ah.mk M0
 clear M0 S hk L hn hw hc
 go_enter Tryz.func24,Tryz.ntmps24
 go_wp2_with (first
  | ((with_reducible refine aU (t:=4) (p:=30) rfl ?_); refine fS (ah.mk M.out.mem) 4 (.tmp 30) 0 8 (.bool true) (dN vc vf vt vi gf gt gl vo true s.idle vu s.wrong s.line s.now) ?_ rfl rfl rfl rfl; clear M x8 x0; intro W2 M2_; have M2:=ah.mk (dX.mk (s:={ s with cases:=true }) (h:=⟨vc,vf,vt,vi,vo,vu,gf,gt,gl,of,ot,ol,vs⟩) M2_.out (rF.out.like) ⟨fU.out.f,fU.out.t,fU.out.l⟩ iK.out); clear M2_; have x0:=M2.out.word HL.out (j:=0) rfl))
 refine (uq M2.out SS.out HK.out HL.out).mono ?_
 rintro e w3 ⟨rfl,h',M3⟩
 have M4:=ah.mk M3
 clear M3 M2 x0
 go_wp2
 go_returns
 exact ⟨rfl,h',M4.out⟩
theorem U4 (M0 : dX k w0 W gr l h s) (S : Std w0) (hk : k < 262144) (L : Line l gw n c (s0 :: r)) (hw : s0.data.toList = uo) (hc : s.cases = true) (ht : s.tabs ≠ []) :
  Calls Tryz.prog 24 #[.pointer (some ⟨gr,0,none⟩),.slice (some ⟨gw,0,none⟩) n c] W fun z w' => z = .returned (.tuple #[]) ∧ ∃ h',dX (k + 1) w0 w' gr l h' ((St.pick { s with cases:=true } true r).1.bad (St.pick { s with cases:=true } true r).2 s.now):=by
 have SS:=Lib.hid S
 have HK:=Lib.hid hk
 have HL:=Lib.hid L
 have hcap : n ≤ c:=L.cap
 have hn : r.length + 1 = n:=by have:=L.len; rw [List.length_cons] at this; exact this
 have hpos : 0 < n:=by omega
 have uQ : (0 : Int) < (n : Int):=by omega
 have hsz:=L.small s0 List.mem_cons_self
 obtain ⟨vc,vf,vt,vi,vo,vu,gf,gt,gl,of,ot,ol,vs⟩:=h
 have x8 : W.cell? ⟨gr,8,none⟩ = some (.bool s.cases):=bY M0.mem 8 rfl
 have x0:=M0.word L (j:=0) rfl
 have rF:=Lib.hid M0.few
 have fU:=Lib.hid M0.says
 have iK:=Lib.hid M0.len
 have e0 : (s0.toList == [115,101,110,100]) = true:=by rw [ByteArray.toList_eq,hw]; rfl
 have e1 : (s0.toList == [114,101,99,118]) = false:=by rw [ByteArray.toList_eq,hw]; rfl
 have e2 : (s0.toList == [116,97,98,108,101]) = false:=by rw [ByteArray.toList_eq,hw]; rfl
 have e3 : (s0.toList == [102,117,110,99]) = false:=by rw [ByteArray.toList_eq,hw]; rfl
 have e4 : s0.toList = [115,101,110,100]:=by rw [ByteArray.toList_eq]; exact hw
 rw [hc] at x8
 have HW:=Lib.hid hw
 have HT:=Lib.hid ht
 have M:=ah.mk M0
 clear M0 S hk L hn hw hc ht
 go_enter Tryz.func24,Tryz.ntmps24
 go_wp2_with (first
  | ((with_reducible refine aU (t:=4) (p:=30) rfl ?_); refine fS (ah.mk M.out.mem) 4 (.tmp 30) 0 8 (.bool true) (dN vc vf vt vi gf gt gl vo true s.idle vu s.wrong s.line s.now) ?_ rfl rfl rfl rfl; clear M x8 x0; intro W2 M2_; have M2:=ah.mk (dX.mk (s:={ s with cases:=true }) (h:=⟨vc,vf,vt,vi,vo,vu,gf,gt,gl,of,ot,ol,vs⟩) M2_.out (rF.out.like) ⟨fU.out.f,fU.out.t,fU.out.l⟩ iK.out); clear M2_; have x0:=M2.out.word HL.out (j:=0) rfl))
 refine gQ [] [(⟨gr,13,none⟩,.int .i64 s.now)] (ah.mk M2.out.mem) ?_ (fun w4 MD fV => ?_)
 ·intro q hq
  simp only [List.mem_cons,List.not_mem_nil,or_false] at hq
  rcases hq with rfl
  exact bY M2.out.mem 13 rfl
 have MR:=ah.mk (dX.mk (s:={ s with cases:=true }) (h:=⟨vc,vf,vt,vi,vo,vu,gf,gt,gl,of,ot,ol,vs⟩) MD.out (rF.out.like) ⟨fU.out.f,fU.out.t,fU.out.l⟩ iK.out)
 clear M2 x0
 refine kP 0 58 (.pointer (some ⟨gr,0,none⟩)) ?_
 simp only [Act.put,bF,bH,bG]
 refine kP 1 59 (.pointer (some ⟨gr,0,none⟩)) ?_
 simp only [Act.put,bF,bH,bG]
 refine kP 2 60 (.slice (some ⟨gw,0,none⟩) n c) ?_
 simp only [Act.put,bF,bH,bG]
 refine kP 4 62 (.pointer (some ⟨gr,0,none⟩)) ?_
 simp only [Act.put,bF,bH,bG]
 refine kP 5 63 (.pointer (some ⟨gr,0,none⟩)) ?_
 simp only [Act.put,bF,bH,bG]
 refine kP 6 64 (.pointer (some ⟨gr,13,none⟩)) ?_
 simp only [Act.put,bF,bH,bG]
 refine kE fV 7 65 0 ?_
 simp only [Act.put,bF,bH,bG]
 refine kR [3] ?_
 refine kK 3 61 Tryz.func59 #[.pointer (some ⟨gr,0,none⟩),.slice (some ⟨gw,0,none⟩) n c] ((U0 MR.out SS.out HK.out HL.out HW.out HT.out).mono ?_) aK.nil
 rintro e1 w5 ⟨rfl,h1,MP⟩
 have MQ:=ah.mk MP
 clear MP MD fV
 have NOW:=Lib.hid ((PO { s with cases:=true } true r))
 have xG : w5.cell? ⟨gr,13,none⟩ = some (.int .i64 s.now):=by have h:=bY MQ.out.mem 13 rfl; rw [h]; exact congrArg (fun x => some (Value.int .i64 x)) NOW.out
 refine ⟨_,rfl,?_,?_⟩
 ·intro q hq
  simp only [List.mem_cons,List.not_mem_nil,or_false] at hq
  rcases hq with rfl
  exact xG
 simp only [Act.put,bF,bH,bG]
 refine kR [8] ?_
 refine kK 8 66 Tryz.func58 #[.pointer (some ⟨gr,0,none⟩),.int .i64 ((St.pick { s with cases:=true } true r).2),.int .i64 s.now] ?_ aK.nil
 refine (tq MQ.out SS.out _ s.now).mono ?_
 rintro e2 w6 ⟨rfl,MB⟩
 have MC:=ah.mk MB
 clear MB
 refine ⟨_,rfl,?_,?_⟩
 ·intro q hq
  simp only [List.mem_cons,List.not_mem_nil,or_false] at hq
  have h:=bY MC.out.mem 13 rfl
  rcases hq with rfl
  rw [h]
  exact congrArg (fun x => some (Value.int .i64 x)) NOW.out
 clear MQ xG
 refine iG ?_
 go_wp2
 go_returns
 exact ⟨rfl,h1,MC.out⟩
theorem U3 (M0 : dX k w0 W gr l h s) (S : Std w0) (hk : k < 262144) (L : Line l gw n c (s0 :: r)) (hw : s0.data.toList = wR) (hc : s.cases = true) (ht : s.tabs ≠ []) :
  Calls Tryz.prog 24 #[.pointer (some ⟨gr,0,none⟩),.slice (some ⟨gw,0,none⟩) n c] W fun z w' => z = .returned (.tuple #[]) ∧ ∃ h',dX (k + 1) w0 w' gr l h' ((St.pick { s with cases:=true } false r).1.bad (St.pick { s with cases:=true } false r).2 s.now):=by
 have SS:=Lib.hid S
 have HK:=Lib.hid hk
 have HL:=Lib.hid L
 have hcap : n ≤ c:=L.cap
 have hn : r.length + 1 = n:=by have:=L.len; rw [List.length_cons] at this; exact this
 have hpos : 0 < n:=by omega
 have uQ : (0 : Int) < (n : Int):=by omega
 have hsz:=L.small s0 List.mem_cons_self
 obtain ⟨vc,vf,vt,vi,vo,vu,gf,gt,gl,of,ot,ol,vs⟩:=h
 have x8 : W.cell? ⟨gr,8,none⟩ = some (.bool s.cases):=bY M0.mem 8 rfl
 have x0:=M0.word L (j:=0) rfl
 have rF:=Lib.hid M0.few
 have fU:=Lib.hid M0.says
 have iK:=Lib.hid M0.len
 have e0 : (s0.toList == [115,101,110,100]) = false:=by rw [ByteArray.toList_eq,hw]; rfl
 have e1 : (s0.toList == [114,101,99,118]) = true:=by rw [ByteArray.toList_eq,hw]; rfl
 have e2 : (s0.toList == [116,97,98,108,101]) = false:=by rw [ByteArray.toList_eq,hw]; rfl
 have e3 : (s0.toList == [102,117,110,99]) = false:=by rw [ByteArray.toList_eq,hw]; rfl
 have e4 : s0.toList = [114,101,99,118]:=by rw [ByteArray.toList_eq]; exact hw
 rw [hc] at x8
 have HW:=Lib.hid hw
 have HT:=Lib.hid ht
 have M:=ah.mk M0
 clear M0 S hk L hn hw hc ht
 go_enter Tryz.func24,Tryz.ntmps24
 go_wp2_with (first
  | ((with_reducible refine aU (t:=4) (p:=30) rfl ?_); refine fS (ah.mk M.out.mem) 4 (.tmp 30) 0 8 (.bool true) (dN vc vf vt vi gf gt gl vo true s.idle vu s.wrong s.line s.now) ?_ rfl rfl rfl rfl; clear M x8 x0; intro W2 M2_; have M2:=ah.mk (dX.mk (s:={ s with cases:=true }) (h:=⟨vc,vf,vt,vi,vo,vu,gf,gt,gl,of,ot,ol,vs⟩) M2_.out (rF.out.like) ⟨fU.out.f,fU.out.t,fU.out.l⟩ iK.out); clear M2_; have x0:=M2.out.word HL.out (j:=0) rfl))
 refine gQ [] [(⟨gr,13,none⟩,.int .i64 s.now)] (ah.mk M2.out.mem) ?_ (fun w4 MD fV => ?_)
 ·intro q hq
  simp only [List.mem_cons,List.not_mem_nil,or_false] at hq
  rcases hq with rfl
  exact bY M2.out.mem 13 rfl
 have MR:=ah.mk (dX.mk (s:={ s with cases:=true }) (h:=⟨vc,vf,vt,vi,vo,vu,gf,gt,gl,of,ot,ol,vs⟩) MD.out (rF.out.like) ⟨fU.out.f,fU.out.t,fU.out.l⟩ iK.out)
 clear M2 x0
 refine kP 0 58 (.pointer (some ⟨gr,0,none⟩)) ?_
 simp only [Act.put,bF,bH,bG]
 refine kP 1 59 (.pointer (some ⟨gr,0,none⟩)) ?_
 simp only [Act.put,bF,bH,bG]
 refine kP 2 60 (.slice (some ⟨gw,0,none⟩) n c) ?_
 simp only [Act.put,bF,bH,bG]
 refine kP 4 62 (.pointer (some ⟨gr,0,none⟩)) ?_
 simp only [Act.put,bF,bH,bG]
 refine kP 5 63 (.pointer (some ⟨gr,0,none⟩)) ?_
 simp only [Act.put,bF,bH,bG]
 refine kP 6 64 (.pointer (some ⟨gr,13,none⟩)) ?_
 simp only [Act.put,bF,bH,bG]
 refine kE fV 7 65 0 ?_
 simp only [Act.put,bF,bH,bG]
 refine kR [3] ?_
 refine kK 3 61 Tryz.func59 #[.pointer (some ⟨gr,0,none⟩),.slice (some ⟨gw,0,none⟩) n c] ((UZ MR.out SS.out HK.out HL.out HW.out HT.out).mono ?_) aK.nil
 rintro e1 w5 ⟨rfl,h1,MP⟩
 have MQ:=ah.mk MP
 clear MP MD fV
 have NOW:=Lib.hid ((PO { s with cases:=true } false r))
 have xG : w5.cell? ⟨gr,13,none⟩ = some (.int .i64 s.now):=by have h:=bY MQ.out.mem 13 rfl; rw [h]; exact congrArg (fun x => some (Value.int .i64 x)) NOW.out
 refine ⟨_,rfl,?_,?_⟩
 ·intro q hq
  simp only [List.mem_cons,List.not_mem_nil,or_false] at hq
  rcases hq with rfl
  exact xG
 simp only [Act.put,bF,bH,bG]
 refine kR [8] ?_
 refine kK 8 66 Tryz.func58 #[.pointer (some ⟨gr,0,none⟩),.int .i64 ((St.pick { s with cases:=true } false r).2),.int .i64 s.now] ?_ aK.nil
 refine (tq MQ.out SS.out _ s.now).mono ?_
 rintro e2 w6 ⟨rfl,MB⟩
 have MC:=ah.mk MB
 clear MB
 refine ⟨_,rfl,?_,?_⟩
 ·intro q hq
  simp only [List.mem_cons,List.not_mem_nil,or_false] at hq
  have h:=bY MC.out.mem 13 rfl
  rcases hq with rfl
  rw [h]
  exact congrArg (fun x => some (Value.int .i64 x)) NOW.out
 clear MQ xG
 refine iG ?_
 go_wp2
 go_returns
 exact ⟨rfl,h1,MC.out⟩
theorem NI (M0 : dX k w0 W gr l h s) (S : Std w0) (hk : k < 262144) (L : Line l gw n c (s0 :: r)) (hS : s0.data.toList ≠ uo) (hR : s0.data.toList ≠ wR) (hT : s0.data.toList ≠ AA) (hF : s0.data.toList ≠ Dx) (hc : s.cases = true) (h1 : n = 1) (hsf : Lib.hasSuffix s0.data.toList [58] = true) :
  Calls Tryz.prog 24 #[.pointer (some ⟨gr,0,none⟩),.slice (some ⟨gw,0,none⟩) n c] W fun z w' => z = .returned (.tuple #[]) ∧ ∃ h',dX (k + 1) w0 w' gr l h' ((St.mark { s with cases:=false } ⟨(Lib.trimSuffix s0.data.toList [58]).toArray⟩).1.bad (St.mark { s with cases:=false } ⟨(Lib.trimSuffix s0.data.toList [58]).toArray⟩).2 s.now):=by
 have SS:=Lib.hid S
 have HK:=Lib.hid hk
 have HL:=Lib.hid L
 have hcap : n ≤ c:=L.cap
 have hn : r.length + 1 = n:=by have:=L.len; rw [List.length_cons] at this; exact this
 have hpos : 0 < n:=by omega
 have uQ : (0 : Int) < (n : Int):=by omega
 have hsz:=L.small s0 List.mem_cons_self
 obtain ⟨vc,vf,vt,vi,vo,vu,gf,gt,gl,of,ot,ol,vs⟩:=h
 have x8 : W.cell? ⟨gr,8,none⟩ = some (.bool s.cases):=bY M0.mem 8 rfl
 have x0:=M0.word L (j:=0) rfl
 have rF:=Lib.hid M0.few
 have fU:=Lib.hid M0.says
 have iK:=Lib.hid M0.len
 have e0 : (s0.toList == [115,101,110,100]) = false:=by rw [ByteArray.toList_eq]; exact beq_eq_false_iff_ne.mpr hS
 have f0 : (s0.toList = [115,101,110,100]) = False:=eq_false (by rw [ByteArray.toList_eq]; exact hS)
 have e1 : (s0.toList == [114,101,99,118]) = false:=by rw [ByteArray.toList_eq]; exact beq_eq_false_iff_ne.mpr hR
 have f1 : (s0.toList = [114,101,99,118]) = False:=eq_false (by rw [ByteArray.toList_eq]; exact hR)
 have e2 : (s0.toList == [116,97,98,108,101]) = false:=by rw [ByteArray.toList_eq]; exact beq_eq_false_iff_ne.mpr hT
 have f2 : (s0.toList = [116,97,98,108,101]) = False:=eq_false (by rw [ByteArray.toList_eq]; exact hT)
 have e3 : (s0.toList == [102,117,110,99]) = false:=by rw [ByteArray.toList_eq]; exact beq_eq_false_iff_ne.mpr hF
 have f3 : (s0.toList = [102,117,110,99]) = False:=eq_false (by rw [ByteArray.toList_eq]; exact hF)
 rw [hc] at x8
 have FD:=Lib.hid (show s0.size ≤ 9223372036854775807 by omega)
 have tK:=Lib.hid (fun W => Tryz.strings_HasSuffix s0 ⟨#[58]⟩ W FD.out)
 subst h1
 have tX:=hsf
 rw [show ([58] : List UInt8) = (⟨#[58]⟩ : ByteArray).data.toList from rfl] at tX
 rw [tX] at tK
 have HTS:=Lib.hid (Dc s0 hsz)
 have M:=ah.mk M0
 clear M0 S hk L hn hS hR hT hF hc hsf tX
 go_enter Tryz.func24,Tryz.ntmps24
 go_wp2_with (first
  | ((with_reducible refine aU (t:=4) (p:=30) rfl ?_); refine fS (ah.mk M.out.mem) 4 (.tmp 30) 0 8 (.bool false) (dN vc vf vt vi gf gt gl vo false s.idle vu s.wrong s.line s.now) ?_ rfl rfl rfl rfl; clear M x8 x0; intro W2 M2_; have M2:=ah.mk (dX.mk (s:={ s with cases:=false }) (h:=⟨vc,vf,vt,vi,vo,vu,gf,gt,gl,of,ot,ol,vs⟩) M2_.out (rF.out.like) ⟨fU.out.f,fU.out.t,fU.out.l⟩ iK.out); clear M2_; have x0:=M2.out.word HL.out (j:=0) rfl) | (go_at_call 60; refine (tK.out _).mono ?_; rintro e2 w3 ⟨rfl,rfl⟩))
 refine gQ [] [(⟨gr,13,none⟩,.int .i64 s.now),(⟨gw,0,none⟩,.string s0)] (ah.mk M2.out.mem) ?_ (fun w4 MD fV => ?_)
 ·intro q hq
  simp only [List.mem_cons,List.not_mem_nil,or_false] at hq
  rcases hq with rfl | rfl
  ·exact bY M2.out.mem 13 rfl
  ·exact x0
 have MR:=ah.mk (dX.mk (s:={ s with cases:=false }) (h:=⟨vc,vf,vt,vi,vo,vu,gf,gt,gl,of,ot,ol,vs⟩) MD.out (rF.out.like) ⟨fU.out.f,fU.out.t,fU.out.l⟩ iK.out)
 clear M2 x0
 refine kP 0 77 (.pointer (some ⟨gr,0,none⟩)) ?_
 simp only [Act.put,bF,bH,bG]
 refine kP 1 78 (.pointer (some ⟨gr,0,none⟩)) ?_
 simp only [Act.put,bF,bH,bG]
 refine kP 2 79 (.slice (some ⟨gw,0,none⟩) 1 c) ?_
 simp only [Act.put,bF,bH,bG]
 refine kP 3 80 (.pointer (some ⟨gw,0,none⟩)) ?_
 simp only [Act.put,bF,bH,bG]
 refine kE fV 4 81 1 ?_
 simp only [Act.put,bF,bH,bG]
 refine kP 7 84 (.pointer (some ⟨gr,0,none⟩)) ?_
 simp only [Act.put,bF,bH,bG]
 refine kP 8 85 (.pointer (some ⟨gr,0,none⟩)) ?_
 simp only [Act.put,bF,bH,bG]
 refine kP 9 86 (.pointer (some ⟨gr,13,none⟩)) ?_
 simp only [Act.put,bF,bH,bG]
 refine kE fV 10 87 0 ?_
 simp only [Act.put,bF,bH,bG]
 refine kR [5] ?_
 refine kK 5 82 Tryz.func62 #[.string s0,.string ⟨#[58]⟩] ((Tryz.strings_TrimSuffix s0 ⟨#[58]⟩ _ FD.out).mono ?_) aK.nil
 rintro e0 w5 ⟨rfl,rfl⟩
 refine ⟨_,rfl,fV.out,?_⟩
 simp only [Act.put,bF,bH,bG]
 refine kR [6] ?_
 refine kK 6 83 Tryz.func61 #[.pointer (some ⟨gr,0,none⟩),.string ⟨(Lib.trimSuffix s0.data.toList [58]).toArray⟩] ((Bq MR.out SS.out HK.out HTS.out).mono ?_) aK.nil
 rintro e1 w5 ⟨rfl,h1,MP⟩
 have MQ:=ah.mk MP
 clear MP MD fV
 have NOW:=Lib.hid ((EN { s with cases:=false } ⟨(Lib.trimSuffix s0.data.toList [58]).toArray⟩))
 have xG : w5.cell? ⟨gr,13,none⟩ = some (.int .i64 s.now):=by have h:=bY MQ.out.mem 13 rfl; rw [h]; exact congrArg (fun x => some (Value.int .i64 x)) NOW.out
 refine ⟨_,rfl,?_,?_⟩
 ·intro q hq
  simp only [List.mem_cons,List.not_mem_nil,or_false] at hq
  have xw:=MQ.out.word HL.out (j:=0) rfl
  rcases hq with rfl | rfl
  ·exact xG
  ·exact xw
 simp only [Act.put,bF,bH,bG]
 refine kR [11] ?_
 refine kK 11 88 Tryz.func58 #[.pointer (some ⟨gr,0,none⟩),.int .i64 ((St.mark { s with cases:=false } ⟨(Lib.trimSuffix s0.data.toList [58]).toArray⟩).2),.int .i64 s.now] ?_ aK.nil
 refine (tq MQ.out SS.out _ s.now).mono ?_
 rintro e2 w6 ⟨rfl,MB⟩
 have MC:=ah.mk MB
 clear MB
 refine ⟨_,rfl,?_,?_⟩
 ·intro q hq
  simp only [List.mem_cons,List.not_mem_nil,or_false] at hq
  have h:=bY MC.out.mem 13 rfl
  have xw:=MC.out.word HL.out (j:=0) rfl
  rcases hq with rfl | rfl
  ·rw [h]
   exact congrArg (fun x => some (Value.int .i64 x)) NOW.out
  ·exact xw
 clear MQ xG
 refine iG ?_
 go_wp2
 go_returns
 exact ⟨rfl,h1,MC.out⟩
theorem Jp (M0 : dX k w0 W gr l h s) (S : Std w0) (hk : k < 262144) (L : Line l gw n c (s0 :: r)) (hS : s0.data.toList ≠ uo) (hR : s0.data.toList ≠ wR) (hT : s0.data.toList ≠ AA) (hF : s0.data.toList ≠ Dx) (hc : s.cases = true) (hi : Inv s) (h1 : n = 1) (hsf : Lib.hasSuffix s0.data.toList [58] = false) :
  Calls Tryz.prog 24 #[.pointer (some ⟨gr,0,none⟩),.slice (some ⟨gw,0,none⟩) n c] W fun z w' => z = .returned (.tuple #[]) ∧ ∃ h',dX (k + 1) w0 w' gr l h' ((St.instr { s with cases:=false } (s0 :: r)).1.bad (St.instr { s with cases:=false } (s0 :: r)).2 s.now):=by
 have SS:=Lib.hid S
 have HK:=Lib.hid hk
 have HL:=Lib.hid L
 have hcap : n ≤ c:=L.cap
 have hn : r.length + 1 = n:=by have:=L.len; rw [List.length_cons] at this; exact this
 have hpos : 0 < n:=by omega
 have uQ : (0 : Int) < (n : Int):=by omega
 have hsz:=L.small s0 List.mem_cons_self
 obtain ⟨vc,vf,vt,vi,vo,vu,gf,gt,gl,of,ot,ol,vs⟩:=h
 have x8 : W.cell? ⟨gr,8,none⟩ = some (.bool s.cases):=bY M0.mem 8 rfl
 have x0:=M0.word L (j:=0) rfl
 have rF:=Lib.hid M0.few
 have fU:=Lib.hid M0.says
 have iK:=Lib.hid M0.len
 have e0 : (s0.toList == [115,101,110,100]) = false:=by rw [ByteArray.toList_eq]; exact beq_eq_false_iff_ne.mpr hS
 have f0 : (s0.toList = [115,101,110,100]) = False:=eq_false (by rw [ByteArray.toList_eq]; exact hS)
 have e1 : (s0.toList == [114,101,99,118]) = false:=by rw [ByteArray.toList_eq]; exact beq_eq_false_iff_ne.mpr hR
 have f1 : (s0.toList = [114,101,99,118]) = False:=eq_false (by rw [ByteArray.toList_eq]; exact hR)
 have e2 : (s0.toList == [116,97,98,108,101]) = false:=by rw [ByteArray.toList_eq]; exact beq_eq_false_iff_ne.mpr hT
 have f2 : (s0.toList = [116,97,98,108,101]) = False:=eq_false (by rw [ByteArray.toList_eq]; exact hT)
 have e3 : (s0.toList == [102,117,110,99]) = false:=by rw [ByteArray.toList_eq]; exact beq_eq_false_iff_ne.mpr hF
 have f3 : (s0.toList = [102,117,110,99]) = False:=eq_false (by rw [ByteArray.toList_eq]; exact hF)
 rw [hc] at x8
 have FD:=Lib.hid (show s0.size ≤ 9223372036854775807 by omega)
 have tK:=Lib.hid (fun W => Tryz.strings_HasSuffix s0 ⟨#[58]⟩ W FD.out)
 have HI:=Lib.hid (show Inv { s with cases:=false } from hi)
 subst h1
 have tX:=hsf
 rw [show ([58] : List UInt8) = (⟨#[58]⟩ : ByteArray).data.toList from rfl] at tX
 rw [tX] at tK
 have M:=ah.mk M0
 clear M0 S hk L hn hS hR hT hF hc hsf tX hi
 go_enter Tryz.func24,Tryz.ntmps24
 go_wp2_with (first
  | ((with_reducible refine aU (t:=4) (p:=30) rfl ?_); refine fS (ah.mk M.out.mem) 4 (.tmp 30) 0 8 (.bool false) (dN vc vf vt vi gf gt gl vo false s.idle vu s.wrong s.line s.now) ?_ rfl rfl rfl rfl; clear M x8 x0; intro W2 M2_; have M2:=ah.mk (dX.mk (s:={ s with cases:=false }) (h:=⟨vc,vf,vt,vi,vo,vu,gf,gt,gl,of,ot,ol,vs⟩) M2_.out (rF.out.like) ⟨fU.out.f,fU.out.t,fU.out.l⟩ iK.out); clear M2_; have x0:=M2.out.word HL.out (j:=0) rfl) | (go_at_call 60; refine (tK.out _).mono ?_; rintro e2 w3 ⟨rfl,rfl⟩))
 refine gQ [] [(⟨gr,13,none⟩,.int .i64 s.now)] (ah.mk M2.out.mem) ?_ (fun w4 MD fV => ?_)
 ·intro q hq
  simp only [List.mem_cons,List.not_mem_nil,or_false] at hq
  rcases hq with rfl
  exact bY M2.out.mem 13 rfl
 have MR:=ah.mk (dX.mk (s:={ s with cases:=false }) (h:=⟨vc,vf,vt,vi,vo,vu,gf,gt,gl,of,ot,ol,vs⟩) MD.out (rF.out.like) ⟨fU.out.f,fU.out.t,fU.out.l⟩ iK.out)
 clear M2 x0
 refine kP 0 31 (.pointer (some ⟨gr,0,none⟩)) ?_
 simp only [Act.put,bF,bH,bG]
 refine kP 1 32 (.pointer (some ⟨gr,0,none⟩)) ?_
 simp only [Act.put,bF,bH,bG]
 refine kP 2 33 (.slice (some ⟨gw,0,none⟩) 1 c) ?_
 simp only [Act.put,bF,bH,bG]
 refine kP 4 35 (.pointer (some ⟨gr,0,none⟩)) ?_
 simp only [Act.put,bF,bH,bG]
 refine kP 5 36 (.pointer (some ⟨gr,0,none⟩)) ?_
 simp only [Act.put,bF,bH,bG]
 refine kP 6 37 (.pointer (some ⟨gr,13,none⟩)) ?_
 simp only [Act.put,bF,bH,bG]
 refine kE fV 7 38 0 ?_
 simp only [Act.put,bF,bH,bG]
 refine kR [3] ?_
 refine kK 3 34 Tryz.func63 #[.pointer (some ⟨gr,0,none⟩),.slice (some ⟨gw,0,none⟩) 1 c] ((qQ MR.out SS.out HK.out HL.out HI.out).mono ?_) aK.nil
 rintro e1 w5 ⟨rfl,h1,MP⟩
 have MQ:=ah.mk MP
 clear MP MD fV
 have NOW:=Lib.hid ((uj { s with cases:=false } (s0 :: r)))
 have xG : w5.cell? ⟨gr,13,none⟩ = some (.int .i64 s.now):=by have h:=bY MQ.out.mem 13 rfl; rw [h]; exact congrArg (fun x => some (Value.int .i64 x)) NOW.out
 refine ⟨_,rfl,?_,?_⟩
 ·intro q hq
  simp only [List.mem_cons,List.not_mem_nil,or_false] at hq
  rcases hq with rfl
  exact xG
 simp only [Act.put,bF,bH,bG]
 refine kR [8] ?_
 refine kK 8 39 Tryz.func58 #[.pointer (some ⟨gr,0,none⟩),.int .i64 ((St.instr { s with cases:=false } (s0 :: r)).2),.int .i64 s.now] ?_ aK.nil
 refine (tq MQ.out SS.out _ s.now).mono ?_
 rintro e2 w6 ⟨rfl,MB⟩
 have MC:=ah.mk MB
 clear MB
 refine ⟨_,rfl,?_,?_⟩
 ·intro q hq
  simp only [List.mem_cons,List.not_mem_nil,or_false] at hq
  have h:=bY MC.out.mem 13 rfl
  rcases hq with rfl
  rw [h]
  exact congrArg (fun x => some (Value.int .i64 x)) NOW.out
 clear MQ xG
 refine iG ?_
 go_wp2
 go_returns
 exact ⟨rfl,h1,MC.out⟩
theorem Jo (M0 : dX k w0 W gr l h s) (S : Std w0) (hk : k < 262144) (L : Line l gw n c (s0 :: r)) (hS : s0.data.toList ≠ uo) (hR : s0.data.toList ≠ wR) (hT : s0.data.toList ≠ AA) (hF : s0.data.toList ≠ Dx) (hc : s.cases = true) (hi : Inv s) (h1 : n ≠ 1) :
  Calls Tryz.prog 24 #[.pointer (some ⟨gr,0,none⟩),.slice (some ⟨gw,0,none⟩) n c] W fun z w' => z = .returned (.tuple #[]) ∧ ∃ h',dX (k + 1) w0 w' gr l h' ((St.instr { s with cases:=false } (s0 :: r)).1.bad (St.instr { s with cases:=false } (s0 :: r)).2 s.now):=by
 have SS:=Lib.hid S
 have HK:=Lib.hid hk
 have HL:=Lib.hid L
 have hcap : n ≤ c:=L.cap
 have hn : r.length + 1 = n:=by have:=L.len; rw [List.length_cons] at this; exact this
 have hpos : 0 < n:=by omega
 have uQ : (0 : Int) < (n : Int):=by omega
 have hsz:=L.small s0 List.mem_cons_self
 obtain ⟨vc,vf,vt,vi,vo,vu,gf,gt,gl,of,ot,ol,vs⟩:=h
 have x8 : W.cell? ⟨gr,8,none⟩ = some (.bool s.cases):=bY M0.mem 8 rfl
 have x0:=M0.word L (j:=0) rfl
 have rF:=Lib.hid M0.few
 have fU:=Lib.hid M0.says
 have iK:=Lib.hid M0.len
 have e0 : (s0.toList == [115,101,110,100]) = false:=by rw [ByteArray.toList_eq]; exact beq_eq_false_iff_ne.mpr hS
 have f0 : (s0.toList = [115,101,110,100]) = False:=eq_false (by rw [ByteArray.toList_eq]; exact hS)
 have e1 : (s0.toList == [114,101,99,118]) = false:=by rw [ByteArray.toList_eq]; exact beq_eq_false_iff_ne.mpr hR
 have f1 : (s0.toList = [114,101,99,118]) = False:=eq_false (by rw [ByteArray.toList_eq]; exact hR)
 have e2 : (s0.toList == [116,97,98,108,101]) = false:=by rw [ByteArray.toList_eq]; exact beq_eq_false_iff_ne.mpr hT
 have f2 : (s0.toList = [116,97,98,108,101]) = False:=eq_false (by rw [ByteArray.toList_eq]; exact hT)
 have e3 : (s0.toList == [102,117,110,99]) = false:=by rw [ByteArray.toList_eq]; exact beq_eq_false_iff_ne.mpr hF
 have f3 : (s0.toList = [102,117,110,99]) = False:=eq_false (by rw [ByteArray.toList_eq]; exact hF)
 rw [hc] at x8
 have FD:=Lib.hid (show s0.size ≤ 9223372036854775807 by omega)
 have tK:=Lib.hid (fun W => Tryz.strings_HasSuffix s0 ⟨#[58]⟩ W FD.out)
 have HI:=Lib.hid (show Inv { s with cases:=false } from hi)
 have b1 : ((n : Int) == 1) = false:=beq_eq_false_iff_ne.mpr (by omega)
 have M:=ah.mk M0
 clear M0 S hk L hn hS hR hT hF hc hi h1
 go_enter Tryz.func24,Tryz.ntmps24
 go_wp2_with (first
  | ((with_reducible refine aU (t:=4) (p:=30) rfl ?_); refine fS (ah.mk M.out.mem) 4 (.tmp 30) 0 8 (.bool false) (dN vc vf vt vi gf gt gl vo false s.idle vu s.wrong s.line s.now) ?_ rfl rfl rfl rfl; clear M x8 x0; intro W2 M2_; have M2:=ah.mk (dX.mk (s:={ s with cases:=false }) (h:=⟨vc,vf,vt,vi,vo,vu,gf,gt,gl,of,ot,ol,vs⟩) M2_.out (rF.out.like) ⟨fU.out.f,fU.out.t,fU.out.l⟩ iK.out); clear M2_; have x0:=M2.out.word HL.out (j:=0) rfl) | (go_at_call 60; refine (tK.out _).mono ?_; rintro e2 w3 ⟨rfl,rfl⟩))
 refine gQ [] [(⟨gr,13,none⟩,.int .i64 s.now)] (ah.mk M2.out.mem) ?_ (fun w4 MD fV => ?_)
 ·intro q hq
  simp only [List.mem_cons,List.not_mem_nil,or_false] at hq
  rcases hq with rfl
  exact bY M2.out.mem 13 rfl
 have MR:=ah.mk (dX.mk (s:={ s with cases:=false }) (h:=⟨vc,vf,vt,vi,vo,vu,gf,gt,gl,of,ot,ol,vs⟩) MD.out (rF.out.like) ⟨fU.out.f,fU.out.t,fU.out.l⟩ iK.out)
 clear M2 x0
 refine kP 0 31 (.pointer (some ⟨gr,0,none⟩)) ?_
 simp only [Act.put,bF,bH,bG]
 refine kP 1 32 (.pointer (some ⟨gr,0,none⟩)) ?_
 simp only [Act.put,bF,bH,bG]
 refine kP 2 33 (.slice (some ⟨gw,0,none⟩) n c) ?_
 simp only [Act.put,bF,bH,bG]
 refine kP 4 35 (.pointer (some ⟨gr,0,none⟩)) ?_
 simp only [Act.put,bF,bH,bG]
 refine kP 5 36 (.pointer (some ⟨gr,0,none⟩)) ?_
 simp only [Act.put,bF,bH,bG]
 refine kP 6 37 (.pointer (some ⟨gr,13,none⟩)) ?_
 simp only [Act.put,bF,bH,bG]
 refine kE fV 7 38 0 ?_
 simp only [Act.put,bF,bH,bG]
 refine kR [3] ?_
 refine kK 3 34 Tryz.func63 #[.pointer (some ⟨gr,0,none⟩),.slice (some ⟨gw,0,none⟩) n c] ((qQ MR.out SS.out HK.out HL.out HI.out).mono ?_) aK.nil
 rintro e1 w5 ⟨rfl,h1,MP⟩
 have MQ:=ah.mk MP
 clear MP MD fV
 have NOW:=Lib.hid ((uj { s with cases:=false } (s0 :: r)))
 have xG : w5.cell? ⟨gr,13,none⟩ = some (.int .i64 s.now):=by have h:=bY MQ.out.mem 13 rfl; rw [h]; exact congrArg (fun x => some (Value.int .i64 x)) NOW.out
 refine ⟨_,rfl,?_,?_⟩
 ·intro q hq
  simp only [List.mem_cons,List.not_mem_nil,or_false] at hq
  rcases hq with rfl
  exact xG
 simp only [Act.put,bF,bH,bG]
 refine kR [8] ?_
 refine kK 8 39 Tryz.func58 #[.pointer (some ⟨gr,0,none⟩),.int .i64 ((St.instr { s with cases:=false } (s0 :: r)).2),.int .i64 s.now] ?_ aK.nil
 refine (tq MQ.out SS.out _ s.now).mono ?_
 rintro e2 w6 ⟨rfl,MB⟩
 have MC:=ah.mk MB
 clear MB
 refine ⟨_,rfl,?_,?_⟩
 ·intro q hq
  simp only [List.mem_cons,List.not_mem_nil,or_false] at hq
  have h:=bY MC.out.mem 13 rfl
  rcases hq with rfl
  rw [h]
  exact congrArg (fun x => some (Value.int .i64 x)) NOW.out
 clear MQ xG
 refine iG ?_
 go_wp2
 go_returns
 exact ⟨rfl,h1,MC.out⟩
theorem NH (M0 : dX k w0 W gr l h s) (S : Std w0) (hk : k < 262144) (L : Line l gw n c (s0 :: r)) (hS : s0.data.toList ≠ uo) (hR : s0.data.toList ≠ wR) (hT : s0.data.toList ≠ AA) (hF : s0.data.toList ≠ Dx) (hc : s.cases = false) (h1 : n = 1) (hsf : Lib.hasSuffix s0.data.toList [58] = true) :
  Calls Tryz.prog 24 #[.pointer (some ⟨gr,0,none⟩),.slice (some ⟨gw,0,none⟩) n c] W fun z w' => z = .returned (.tuple #[]) ∧ ∃ h',dX (k + 1) w0 w' gr l h' ((St.mark { s with cases:=false } ⟨(Lib.trimSuffix s0.data.toList [58]).toArray⟩).1.bad (St.mark { s with cases:=false } ⟨(Lib.trimSuffix s0.data.toList [58]).toArray⟩).2 s.now):=by
 have SS:=Lib.hid S
 have HK:=Lib.hid hk
 have HL:=Lib.hid L
 have hcap : n ≤ c:=L.cap
 have hn : r.length + 1 = n:=by have:=L.len; rw [List.length_cons] at this; exact this
 have hpos : 0 < n:=by omega
 have uQ : (0 : Int) < (n : Int):=by omega
 have hsz:=L.small s0 List.mem_cons_self
 obtain ⟨vc,vf,vt,vi,vo,vu,gf,gt,gl,of,ot,ol,vs⟩:=h
 have x8 : W.cell? ⟨gr,8,none⟩ = some (.bool s.cases):=bY M0.mem 8 rfl
 have x0:=M0.word L (j:=0) rfl
 have rF:=Lib.hid M0.few
 have fU:=Lib.hid M0.says
 have iK:=Lib.hid M0.len
 have e0 : (s0.toList == [115,101,110,100]) = false:=by rw [ByteArray.toList_eq]; exact beq_eq_false_iff_ne.mpr hS
 have f0 : (s0.toList = [115,101,110,100]) = False:=eq_false (by rw [ByteArray.toList_eq]; exact hS)
 have e1 : (s0.toList == [114,101,99,118]) = false:=by rw [ByteArray.toList_eq]; exact beq_eq_false_iff_ne.mpr hR
 have f1 : (s0.toList = [114,101,99,118]) = False:=eq_false (by rw [ByteArray.toList_eq]; exact hR)
 have e2 : (s0.toList == [116,97,98,108,101]) = false:=by rw [ByteArray.toList_eq]; exact beq_eq_false_iff_ne.mpr hT
 have f2 : (s0.toList = [116,97,98,108,101]) = False:=eq_false (by rw [ByteArray.toList_eq]; exact hT)
 have e3 : (s0.toList == [102,117,110,99]) = false:=by rw [ByteArray.toList_eq]; exact beq_eq_false_iff_ne.mpr hF
 have f3 : (s0.toList = [102,117,110,99]) = False:=eq_false (by rw [ByteArray.toList_eq]; exact hF)
 rw [hc] at x8
 have FD:=Lib.hid (show s0.size ≤ 9223372036854775807 by omega)
 have tK:=Lib.hid (fun W => Tryz.strings_HasSuffix s0 ⟨#[58]⟩ W FD.out)
 subst h1
 have tX:=hsf
 rw [show ([58] : List UInt8) = (⟨#[58]⟩ : ByteArray).data.toList from rfl] at tX
 rw [tX] at tK
 have HTS:=Lib.hid (Dc s0 hsz)
 have M:=ah.mk M0
 clear M0 S hk L hn hS hR hT hF hc hsf tX
 go_enter Tryz.func24,Tryz.ntmps24
 go_wp2_with (first
  | ((with_reducible refine aU (t:=4) (p:=30) rfl ?_); refine fS (ah.mk M.out.mem) 4 (.tmp 30) 0 8 (.bool false) (dN vc vf vt vi gf gt gl vo false s.idle vu s.wrong s.line s.now) ?_ rfl rfl rfl rfl; clear M x8 x0; intro W2 M2_; have M2:=ah.mk (dX.mk (s:={ s with cases:=false }) (h:=⟨vc,vf,vt,vi,vo,vu,gf,gt,gl,of,ot,ol,vs⟩) M2_.out (rF.out.like) ⟨fU.out.f,fU.out.t,fU.out.l⟩ iK.out); clear M2_; have x0:=M2.out.word HL.out (j:=0) rfl) | (go_at_call 60; refine (tK.out _).mono ?_; rintro e2 w3 ⟨rfl,rfl⟩))
 refine gQ [] [(⟨gr,13,none⟩,.int .i64 s.now),(⟨gw,0,none⟩,.string s0)] (ah.mk M2.out.mem) ?_ (fun w4 MD fV => ?_)
 ·intro q hq
  simp only [List.mem_cons,List.not_mem_nil,or_false] at hq
  rcases hq with rfl | rfl
  ·exact bY M2.out.mem 13 rfl
  ·exact x0
 have MR:=ah.mk (dX.mk (s:={ s with cases:=false }) (h:=⟨vc,vf,vt,vi,vo,vu,gf,gt,gl,of,ot,ol,vs⟩) MD.out (rF.out.like) ⟨fU.out.f,fU.out.t,fU.out.l⟩ iK.out)
 clear M2 x0
 refine kP 0 77 (.pointer (some ⟨gr,0,none⟩)) ?_
 simp only [Act.put,bF,bH,bG]
 refine kP 1 78 (.pointer (some ⟨gr,0,none⟩)) ?_
 simp only [Act.put,bF,bH,bG]
 refine kP 2 79 (.slice (some ⟨gw,0,none⟩) 1 c) ?_
 simp only [Act.put,bF,bH,bG]
 refine kP 3 80 (.pointer (some ⟨gw,0,none⟩)) ?_
 simp only [Act.put,bF,bH,bG]
 refine kE fV 4 81 1 ?_
 simp only [Act.put,bF,bH,bG]
 refine kP 7 84 (.pointer (some ⟨gr,0,none⟩)) ?_
 simp only [Act.put,bF,bH,bG]
 refine kP 8 85 (.pointer (some ⟨gr,0,none⟩)) ?_
 simp only [Act.put,bF,bH,bG]
 refine kP 9 86 (.pointer (some ⟨gr,13,none⟩)) ?_
 simp only [Act.put,bF,bH,bG]
 refine kE fV 10 87 0 ?_
 simp only [Act.put,bF,bH,bG]
 refine kR [5] ?_
 refine kK 5 82 Tryz.func62 #[.string s0,.string ⟨#[58]⟩] ((Tryz.strings_TrimSuffix s0 ⟨#[58]⟩ _ FD.out).mono ?_) aK.nil
 rintro e0 w5 ⟨rfl,rfl⟩
 refine ⟨_,rfl,fV.out,?_⟩
 simp only [Act.put,bF,bH,bG]
 refine kR [6] ?_
 refine kK 6 83 Tryz.func61 #[.pointer (some ⟨gr,0,none⟩),.string ⟨(Lib.trimSuffix s0.data.toList [58]).toArray⟩] ((Bq MR.out SS.out HK.out HTS.out).mono ?_) aK.nil
 rintro e1 w5 ⟨rfl,h1,MP⟩
 have MQ:=ah.mk MP
 clear MP MD fV
 have NOW:=Lib.hid ((EN { s with cases:=false } ⟨(Lib.trimSuffix s0.data.toList [58]).toArray⟩))
 have xG : w5.cell? ⟨gr,13,none⟩ = some (.int .i64 s.now):=by have h:=bY MQ.out.mem 13 rfl; rw [h]; exact congrArg (fun x => some (Value.int .i64 x)) NOW.out
 refine ⟨_,rfl,?_,?_⟩
 ·intro q hq
  simp only [List.mem_cons,List.not_mem_nil,or_false] at hq
  have xw:=MQ.out.word HL.out (j:=0) rfl
  rcases hq with rfl | rfl
  ·exact xG
  ·exact xw
 simp only [Act.put,bF,bH,bG]
 refine kR [11] ?_
 refine kK 11 88 Tryz.func58 #[.pointer (some ⟨gr,0,none⟩),.int .i64 ((St.mark { s with cases:=false } ⟨(Lib.trimSuffix s0.data.toList [58]).toArray⟩).2),.int .i64 s.now] ?_ aK.nil
 refine (tq MQ.out SS.out _ s.now).mono ?_
 rintro e2 w6 ⟨rfl,MB⟩
 have MC:=ah.mk MB
 clear MB
 refine ⟨_,rfl,?_,?_⟩
 ·intro q hq
  simp only [List.mem_cons,List.not_mem_nil,or_false] at hq
  have h:=bY MC.out.mem 13 rfl
  have xw:=MC.out.word HL.out (j:=0) rfl
  rcases hq with rfl | rfl
  ·rw [h]
   exact congrArg (fun x => some (Value.int .i64 x)) NOW.out
  ·exact xw
 clear MQ xG
 refine iG ?_
 go_wp2
 go_returns
 exact ⟨rfl,h1,MC.out⟩
theorem Jm (M0 : dX k w0 W gr l h s) (S : Std w0) (hk : k < 262144) (L : Line l gw n c (s0 :: r)) (hS : s0.data.toList ≠ uo) (hR : s0.data.toList ≠ wR) (hT : s0.data.toList ≠ AA) (hF : s0.data.toList ≠ Dx) (hc : s.cases = false) (hi : Inv s) (h1 : n = 1) (hsf : Lib.hasSuffix s0.data.toList [58] = false) :
  Calls Tryz.prog 24 #[.pointer (some ⟨gr,0,none⟩),.slice (some ⟨gw,0,none⟩) n c] W fun z w' => z = .returned (.tuple #[]) ∧ ∃ h',dX (k + 1) w0 w' gr l h' ((St.instr { s with cases:=false } (s0 :: r)).1.bad (St.instr { s with cases:=false } (s0 :: r)).2 s.now):=by
 have SS:=Lib.hid S
 have HK:=Lib.hid hk
 have HL:=Lib.hid L
 have hcap : n ≤ c:=L.cap
 have hn : r.length + 1 = n:=by have:=L.len; rw [List.length_cons] at this; exact this
 have hpos : 0 < n:=by omega
 have uQ : (0 : Int) < (n : Int):=by omega
 have hsz:=L.small s0 List.mem_cons_self
 obtain ⟨vc,vf,vt,vi,vo,vu,gf,gt,gl,of,ot,ol,vs⟩:=h
 have x8 : W.cell? ⟨gr,8,none⟩ = some (.bool s.cases):=bY M0.mem 8 rfl
 have x0:=M0.word L (j:=0) rfl
 have rF:=Lib.hid M0.few
 have fU:=Lib.hid M0.says
 have iK:=Lib.hid M0.len
 have e0 : (s0.toList == [115,101,110,100]) = false:=by rw [ByteArray.toList_eq]; exact beq_eq_false_iff_ne.mpr hS
 have f0 : (s0.toList = [115,101,110,100]) = False:=eq_false (by rw [ByteArray.toList_eq]; exact hS)
 have e1 : (s0.toList == [114,101,99,118]) = false:=by rw [ByteArray.toList_eq]; exact beq_eq_false_iff_ne.mpr hR
 have f1 : (s0.toList = [114,101,99,118]) = False:=eq_false (by rw [ByteArray.toList_eq]; exact hR)
 have e2 : (s0.toList == [116,97,98,108,101]) = false:=by rw [ByteArray.toList_eq]; exact beq_eq_false_iff_ne.mpr hT
 have f2 : (s0.toList = [116,97,98,108,101]) = False:=eq_false (by rw [ByteArray.toList_eq]; exact hT)
 have e3 : (s0.toList == [102,117,110,99]) = false:=by rw [ByteArray.toList_eq]; exact beq_eq_false_iff_ne.mpr hF
 have f3 : (s0.toList = [102,117,110,99]) = False:=eq_false (by rw [ByteArray.toList_eq]; exact hF)
 rw [hc] at x8
 have FD:=Lib.hid (show s0.size ≤ 9223372036854775807 by omega)
 have tK:=Lib.hid (fun W => Tryz.strings_HasSuffix s0 ⟨#[58]⟩ W FD.out)
 have HI:=Lib.hid (show Inv { s with cases:=false } from hi)
 subst h1
 have tX:=hsf
 rw [show ([58] : List UInt8) = (⟨#[58]⟩ : ByteArray).data.toList from rfl] at tX
 rw [tX] at tK
 have M:=ah.mk M0
 clear M0 S hk L hn hS hR hT hF hc hsf tX hi
 go_enter Tryz.func24,Tryz.ntmps24
 go_wp2_with (first
  | ((with_reducible refine aU (t:=4) (p:=30) rfl ?_); refine fS (ah.mk M.out.mem) 4 (.tmp 30) 0 8 (.bool false) (dN vc vf vt vi gf gt gl vo false s.idle vu s.wrong s.line s.now) ?_ rfl rfl rfl rfl; clear M x8 x0; intro W2 M2_; have M2:=ah.mk (dX.mk (s:={ s with cases:=false }) (h:=⟨vc,vf,vt,vi,vo,vu,gf,gt,gl,of,ot,ol,vs⟩) M2_.out (rF.out.like) ⟨fU.out.f,fU.out.t,fU.out.l⟩ iK.out); clear M2_; have x0:=M2.out.word HL.out (j:=0) rfl) | (go_at_call 60; refine (tK.out _).mono ?_; rintro e2 w3 ⟨rfl,rfl⟩))
 refine gQ [] [(⟨gr,13,none⟩,.int .i64 s.now)] (ah.mk M2.out.mem) ?_ (fun w4 MD fV => ?_)
 ·intro q hq
  simp only [List.mem_cons,List.not_mem_nil,or_false] at hq
  rcases hq with rfl
  exact bY M2.out.mem 13 rfl
 have MR:=ah.mk (dX.mk (s:={ s with cases:=false }) (h:=⟨vc,vf,vt,vi,vo,vu,gf,gt,gl,of,ot,ol,vs⟩) MD.out (rF.out.like) ⟨fU.out.f,fU.out.t,fU.out.l⟩ iK.out)
 clear M2 x0
 refine kP 0 31 (.pointer (some ⟨gr,0,none⟩)) ?_
 simp only [Act.put,bF,bH,bG]
 refine kP 1 32 (.pointer (some ⟨gr,0,none⟩)) ?_
 simp only [Act.put,bF,bH,bG]
 refine kP 2 33 (.slice (some ⟨gw,0,none⟩) 1 c) ?_
 simp only [Act.put,bF,bH,bG]
 refine kP 4 35 (.pointer (some ⟨gr,0,none⟩)) ?_
 simp only [Act.put,bF,bH,bG]
 refine kP 5 36 (.pointer (some ⟨gr,0,none⟩)) ?_
 simp only [Act.put,bF,bH,bG]
 refine kP 6 37 (.pointer (some ⟨gr,13,none⟩)) ?_
 simp only [Act.put,bF,bH,bG]
 refine kE fV 7 38 0 ?_
 simp only [Act.put,bF,bH,bG]
 refine kR [3] ?_
 refine kK 3 34 Tryz.func63 #[.pointer (some ⟨gr,0,none⟩),.slice (some ⟨gw,0,none⟩) 1 c] ((qQ MR.out SS.out HK.out HL.out HI.out).mono ?_) aK.nil
 rintro e1 w5 ⟨rfl,h1,MP⟩
 have MQ:=ah.mk MP
 clear MP MD fV
 have NOW:=Lib.hid ((uj { s with cases:=false } (s0 :: r)))
 have xG : w5.cell? ⟨gr,13,none⟩ = some (.int .i64 s.now):=by have h:=bY MQ.out.mem 13 rfl; rw [h]; exact congrArg (fun x => some (Value.int .i64 x)) NOW.out
 refine ⟨_,rfl,?_,?_⟩
 ·intro q hq
  simp only [List.mem_cons,List.not_mem_nil,or_false] at hq
  rcases hq with rfl
  exact xG
 simp only [Act.put,bF,bH,bG]
 refine kR [8] ?_
 refine kK 8 39 Tryz.func58 #[.pointer (some ⟨gr,0,none⟩),.int .i64 ((St.instr { s with cases:=false } (s0 :: r)).2),.int .i64 s.now] ?_ aK.nil
 refine (tq MQ.out SS.out _ s.now).mono ?_
 rintro e2 w6 ⟨rfl,MB⟩
 have MC:=ah.mk MB
 clear MB
 refine ⟨_,rfl,?_,?_⟩
 ·intro q hq
  simp only [List.mem_cons,List.not_mem_nil,or_false] at hq
  have h:=bY MC.out.mem 13 rfl
  rcases hq with rfl
  rw [h]
  exact congrArg (fun x => some (Value.int .i64 x)) NOW.out
 clear MQ xG
 refine iG ?_
 go_wp2
 go_returns
 exact ⟨rfl,h1,MC.out⟩
theorem Jl (M0 : dX k w0 W gr l h s) (S : Std w0) (hk : k < 262144) (L : Line l gw n c (s0 :: r)) (hS : s0.data.toList ≠ uo) (hR : s0.data.toList ≠ wR) (hT : s0.data.toList ≠ AA) (hF : s0.data.toList ≠ Dx) (hc : s.cases = false) (hi : Inv s) (h1 : n ≠ 1) :
  Calls Tryz.prog 24 #[.pointer (some ⟨gr,0,none⟩),.slice (some ⟨gw,0,none⟩) n c] W fun z w' => z = .returned (.tuple #[]) ∧ ∃ h',dX (k + 1) w0 w' gr l h' ((St.instr { s with cases:=false } (s0 :: r)).1.bad (St.instr { s with cases:=false } (s0 :: r)).2 s.now):=by
 have SS:=Lib.hid S
 have HK:=Lib.hid hk
 have HL:=Lib.hid L
 have hcap : n ≤ c:=L.cap
 have hn : r.length + 1 = n:=by have:=L.len; rw [List.length_cons] at this; exact this
 have hpos : 0 < n:=by omega
 have uQ : (0 : Int) < (n : Int):=by omega
 have hsz:=L.small s0 List.mem_cons_self
 obtain ⟨vc,vf,vt,vi,vo,vu,gf,gt,gl,of,ot,ol,vs⟩:=h
 have x8 : W.cell? ⟨gr,8,none⟩ = some (.bool s.cases):=bY M0.mem 8 rfl
 have x0:=M0.word L (j:=0) rfl
 have rF:=Lib.hid M0.few
 have fU:=Lib.hid M0.says
 have iK:=Lib.hid M0.len
 have e0 : (s0.toList == [115,101,110,100]) = false:=by rw [ByteArray.toList_eq]; exact beq_eq_false_iff_ne.mpr hS
 have f0 : (s0.toList = [115,101,110,100]) = False:=eq_false (by rw [ByteArray.toList_eq]; exact hS)
 have e1 : (s0.toList == [114,101,99,118]) = false:=by rw [ByteArray.toList_eq]; exact beq_eq_false_iff_ne.mpr hR
 have f1 : (s0.toList = [114,101,99,118]) = False:=eq_false (by rw [ByteArray.toList_eq]; exact hR)
 have e2 : (s0.toList == [116,97,98,108,101]) = false:=by rw [ByteArray.toList_eq]; exact beq_eq_false_iff_ne.mpr hT
 have f2 : (s0.toList = [116,97,98,108,101]) = False:=eq_false (by rw [ByteArray.toList_eq]; exact hT)
 have e3 : (s0.toList == [102,117,110,99]) = false:=by rw [ByteArray.toList_eq]; exact beq_eq_false_iff_ne.mpr hF
 have f3 : (s0.toList = [102,117,110,99]) = False:=eq_false (by rw [ByteArray.toList_eq]; exact hF)
 rw [hc] at x8
 have FD:=Lib.hid (show s0.size ≤ 9223372036854775807 by omega)
 have tK:=Lib.hid (fun W => Tryz.strings_HasSuffix s0 ⟨#[58]⟩ W FD.out)
 have HI:=Lib.hid (show Inv { s with cases:=false } from hi)
 have b1 : ((n : Int) == 1) = false:=beq_eq_false_iff_ne.mpr (by omega)
 have M:=ah.mk M0
 clear M0 S hk L hn hS hR hT hF hc hi h1
 go_enter Tryz.func24,Tryz.ntmps24
 go_wp2_with (first
  | ((with_reducible refine aU (t:=4) (p:=30) rfl ?_); refine fS (ah.mk M.out.mem) 4 (.tmp 30) 0 8 (.bool false) (dN vc vf vt vi gf gt gl vo false s.idle vu s.wrong s.line s.now) ?_ rfl rfl rfl rfl; clear M x8 x0; intro W2 M2_; have M2:=ah.mk (dX.mk (s:={ s with cases:=false }) (h:=⟨vc,vf,vt,vi,vo,vu,gf,gt,gl,of,ot,ol,vs⟩) M2_.out (rF.out.like) ⟨fU.out.f,fU.out.t,fU.out.l⟩ iK.out); clear M2_; have x0:=M2.out.word HL.out (j:=0) rfl) | (go_at_call 60; refine (tK.out _).mono ?_; rintro e2 w3 ⟨rfl,rfl⟩))
 refine gQ [] [(⟨gr,13,none⟩,.int .i64 s.now)] (ah.mk M2.out.mem) ?_ (fun w4 MD fV => ?_)
 ·intro q hq
  simp only [List.mem_cons,List.not_mem_nil,or_false] at hq
  rcases hq with rfl
  exact bY M2.out.mem 13 rfl
 have MR:=ah.mk (dX.mk (s:={ s with cases:=false }) (h:=⟨vc,vf,vt,vi,vo,vu,gf,gt,gl,of,ot,ol,vs⟩) MD.out (rF.out.like) ⟨fU.out.f,fU.out.t,fU.out.l⟩ iK.out)
 clear M2 x0
 refine kP 0 31 (.pointer (some ⟨gr,0,none⟩)) ?_
 simp only [Act.put,bF,bH,bG]
 refine kP 1 32 (.pointer (some ⟨gr,0,none⟩)) ?_
 simp only [Act.put,bF,bH,bG]
 refine kP 2 33 (.slice (some ⟨gw,0,none⟩) n c) ?_
 simp only [Act.put,bF,bH,bG]
 refine kP 4 35 (.pointer (some ⟨gr,0,none⟩)) ?_
 simp only [Act.put,bF,bH,bG]
 refine kP 5 36 (.pointer (some ⟨gr,0,none⟩)) ?_
 simp only [Act.put,bF,bH,bG]
 refine kP 6 37 (.pointer (some ⟨gr,13,none⟩)) ?_
 simp only [Act.put,bF,bH,bG]
 refine kE fV 7 38 0 ?_
 simp only [Act.put,bF,bH,bG]
 refine kR [3] ?_
 refine kK 3 34 Tryz.func63 #[.pointer (some ⟨gr,0,none⟩),.slice (some ⟨gw,0,none⟩) n c] ((qQ MR.out SS.out HK.out HL.out HI.out).mono ?_) aK.nil
 rintro e1 w5 ⟨rfl,h1,MP⟩
 have MQ:=ah.mk MP
 clear MP MD fV
 have NOW:=Lib.hid ((uj { s with cases:=false } (s0 :: r)))
 have xG : w5.cell? ⟨gr,13,none⟩ = some (.int .i64 s.now):=by have h:=bY MQ.out.mem 13 rfl; rw [h]; exact congrArg (fun x => some (Value.int .i64 x)) NOW.out
 refine ⟨_,rfl,?_,?_⟩
 ·intro q hq
  simp only [List.mem_cons,List.not_mem_nil,or_false] at hq
  rcases hq with rfl
  exact xG
 simp only [Act.put,bF,bH,bG]
 refine kR [8] ?_
 refine kK 8 39 Tryz.func58 #[.pointer (some ⟨gr,0,none⟩),.int .i64 ((St.instr { s with cases:=false } (s0 :: r)).2),.int .i64 s.now] ?_ aK.nil
 refine (tq MQ.out SS.out _ s.now).mono ?_
 rintro e2 w6 ⟨rfl,MB⟩
 have MC:=ah.mk MB
 clear MB
 refine ⟨_,rfl,?_,?_⟩
 ·intro q hq
  simp only [List.mem_cons,List.not_mem_nil,or_false] at hq
  have h:=bY MC.out.mem 13 rfl
  rcases hq with rfl
  rw [h]
  exact congrArg (fun x => some (Value.int .i64 x)) NOW.out
 clear MQ xG
 refine iG ?_
 go_wp2
 go_returns
 exact ⟨rfl,h1,MC.out⟩
theorem PY (M0 : dX k w0 W gr l h s) (S : Std w0) (hk : k < 262144) (L : Line l gw n c (s0 :: r)) (hw : s0.data.toList = uo) (hc : s.cases = false) (h1 : n = 1) (hsf : Lib.hasSuffix s0.data.toList [58] = true) :
  Calls Tryz.prog 24 #[.pointer (some ⟨gr,0,none⟩),.slice (some ⟨gw,0,none⟩) n c] W fun z w' => z = .returned (.tuple #[]) ∧ ∃ h',dX (k + 1) w0 w' gr l h' ((St.mark { s with cases:=false } ⟨(Lib.trimSuffix s0.data.toList [58]).toArray⟩).1.bad (St.mark { s with cases:=false } ⟨(Lib.trimSuffix s0.data.toList [58]).toArray⟩).2 s.now):=by
 have SS:=Lib.hid S
 have HK:=Lib.hid hk
 have HL:=Lib.hid L
 have hcap : n ≤ c:=L.cap
 have hn : r.length + 1 = n:=by have:=L.len; rw [List.length_cons] at this; exact this
 have hpos : 0 < n:=by omega
 have uQ : (0 : Int) < (n : Int):=by omega
 have hsz:=L.small s0 List.mem_cons_self
 obtain ⟨vc,vf,vt,vi,vo,vu,gf,gt,gl,of,ot,ol,vs⟩:=h
 have x8 : W.cell? ⟨gr,8,none⟩ = some (.bool s.cases):=bY M0.mem 8 rfl
 have x0:=M0.word L (j:=0) rfl
 have rF:=Lib.hid M0.few
 have fU:=Lib.hid M0.says
 have iK:=Lib.hid M0.len
 have e0 : (s0.toList == [115,101,110,100]) = true:=by rw [ByteArray.toList_eq,hw]; rfl
 have e1 : (s0.toList == [114,101,99,118]) = false:=by rw [ByteArray.toList_eq,hw]; rfl
 have e2 : (s0.toList == [116,97,98,108,101]) = false:=by rw [ByteArray.toList_eq,hw]; rfl
 have e3 : (s0.toList == [102,117,110,99]) = false:=by rw [ByteArray.toList_eq,hw]; rfl
 have e4 : s0.toList = [115,101,110,100]:=by rw [ByteArray.toList_eq]; exact hw
 rw [hc] at x8
 have FD:=Lib.hid (show s0.size ≤ 9223372036854775807 by omega)
 have tK:=Lib.hid (fun W => Tryz.strings_HasSuffix s0 ⟨#[58]⟩ W FD.out)
 subst h1
 have tX:=hsf
 rw [show ([58] : List UInt8) = (⟨#[58]⟩ : ByteArray).data.toList from rfl] at tX
 rw [tX] at tK
 have HTS:=Lib.hid (Dc s0 hsz)
 have M:=ah.mk M0
 clear M0 S hk L hn hw hc hsf tX
 go_enter Tryz.func24,Tryz.ntmps24
 go_wp2_with (first
  | ((with_reducible refine aU (t:=4) (p:=30) rfl ?_); refine fS (ah.mk M.out.mem) 4 (.tmp 30) 0 8 (.bool false) (dN vc vf vt vi gf gt gl vo false s.idle vu s.wrong s.line s.now) ?_ rfl rfl rfl rfl; clear M x8 x0; intro W2 M2_; have M2:=ah.mk (dX.mk (s:={ s with cases:=false }) (h:=⟨vc,vf,vt,vi,vo,vu,gf,gt,gl,of,ot,ol,vs⟩) M2_.out (rF.out.like) ⟨fU.out.f,fU.out.t,fU.out.l⟩ iK.out); clear M2_; have x0:=M2.out.word HL.out (j:=0) rfl) | (go_at_call 60; refine (tK.out _).mono ?_; rintro e2 w3 ⟨rfl,rfl⟩))
 refine gQ [] [(⟨gr,13,none⟩,.int .i64 s.now),(⟨gw,0,none⟩,.string s0)] (ah.mk M2.out.mem) ?_ (fun w4 MD fV => ?_)
 ·intro q hq
  simp only [List.mem_cons,List.not_mem_nil,or_false] at hq
  rcases hq with rfl | rfl
  ·exact bY M2.out.mem 13 rfl
  ·exact x0
 have MR:=ah.mk (dX.mk (s:={ s with cases:=false }) (h:=⟨vc,vf,vt,vi,vo,vu,gf,gt,gl,of,ot,ol,vs⟩) MD.out (rF.out.like) ⟨fU.out.f,fU.out.t,fU.out.l⟩ iK.out)
 clear M2 x0
 refine kP 0 77 (.pointer (some ⟨gr,0,none⟩)) ?_
 simp only [Act.put,bF,bH,bG]
 refine kP 1 78 (.pointer (some ⟨gr,0,none⟩)) ?_
 simp only [Act.put,bF,bH,bG]
 refine kP 2 79 (.slice (some ⟨gw,0,none⟩) 1 c) ?_
 simp only [Act.put,bF,bH,bG]
 refine kP 3 80 (.pointer (some ⟨gw,0,none⟩)) ?_
 simp only [Act.put,bF,bH,bG]
 refine kE fV 4 81 1 ?_
 simp only [Act.put,bF,bH,bG]
 refine kP 7 84 (.pointer (some ⟨gr,0,none⟩)) ?_
 simp only [Act.put,bF,bH,bG]
 refine kP 8 85 (.pointer (some ⟨gr,0,none⟩)) ?_
 simp only [Act.put,bF,bH,bG]
 refine kP 9 86 (.pointer (some ⟨gr,13,none⟩)) ?_
 simp only [Act.put,bF,bH,bG]
 refine kE fV 10 87 0 ?_
 simp only [Act.put,bF,bH,bG]
 refine kR [5] ?_
 refine kK 5 82 Tryz.func62 #[.string s0,.string ⟨#[58]⟩] ((Tryz.strings_TrimSuffix s0 ⟨#[58]⟩ _ FD.out).mono ?_) aK.nil
 rintro e0 w5 ⟨rfl,rfl⟩
 refine ⟨_,rfl,fV.out,?_⟩
 simp only [Act.put,bF,bH,bG]
 refine kR [6] ?_
 refine kK 6 83 Tryz.func61 #[.pointer (some ⟨gr,0,none⟩),.string ⟨(Lib.trimSuffix s0.data.toList [58]).toArray⟩] ((Bq MR.out SS.out HK.out HTS.out).mono ?_) aK.nil
 rintro e1 w5 ⟨rfl,h1,MP⟩
 have MQ:=ah.mk MP
 clear MP MD fV
 have NOW:=Lib.hid ((EN { s with cases:=false } ⟨(Lib.trimSuffix s0.data.toList [58]).toArray⟩))
 have xG : w5.cell? ⟨gr,13,none⟩ = some (.int .i64 s.now):=by have h:=bY MQ.out.mem 13 rfl; rw [h]; exact congrArg (fun x => some (Value.int .i64 x)) NOW.out
 refine ⟨_,rfl,?_,?_⟩
 ·intro q hq
  simp only [List.mem_cons,List.not_mem_nil,or_false] at hq
  have xw:=MQ.out.word HL.out (j:=0) rfl
  rcases hq with rfl | rfl
  ·exact xG
  ·exact xw
 simp only [Act.put,bF,bH,bG]
 refine kR [11] ?_
 refine kK 11 88 Tryz.func58 #[.pointer (some ⟨gr,0,none⟩),.int .i64 ((St.mark { s with cases:=false } ⟨(Lib.trimSuffix s0.data.toList [58]).toArray⟩).2),.int .i64 s.now] ?_ aK.nil
 refine (tq MQ.out SS.out _ s.now).mono ?_
 rintro e2 w6 ⟨rfl,MB⟩
 have MC:=ah.mk MB
 clear MB
 refine ⟨_,rfl,?_,?_⟩
 ·intro q hq
  simp only [List.mem_cons,List.not_mem_nil,or_false] at hq
  have h:=bY MC.out.mem 13 rfl
  have xw:=MC.out.word HL.out (j:=0) rfl
  rcases hq with rfl | rfl
  ·rw [h]
   exact congrArg (fun x => some (Value.int .i64 x)) NOW.out
  ·exact xw
 clear MQ xG
 refine iG ?_
 go_wp2
 go_returns
 exact ⟨rfl,h1,MC.out⟩
theorem JR (M0 : dX k w0 W gr l h s) (S : Std w0) (hk : k < 262144) (L : Line l gw n c (s0 :: r)) (hw : s0.data.toList = uo) (hc : s.cases = false) (hi : Inv s) (h1 : n = 1) (hsf : Lib.hasSuffix s0.data.toList [58] = false) :
  Calls Tryz.prog 24 #[.pointer (some ⟨gr,0,none⟩),.slice (some ⟨gw,0,none⟩) n c] W fun z w' => z = .returned (.tuple #[]) ∧ ∃ h',dX (k + 1) w0 w' gr l h' ((St.instr { s with cases:=false } (s0 :: r)).1.bad (St.instr { s with cases:=false } (s0 :: r)).2 s.now):=by
 have SS:=Lib.hid S
 have HK:=Lib.hid hk
 have HL:=Lib.hid L
 have hcap : n ≤ c:=L.cap
 have hn : r.length + 1 = n:=by have:=L.len; rw [List.length_cons] at this; exact this
 have hpos : 0 < n:=by omega
 have uQ : (0 : Int) < (n : Int):=by omega
 have hsz:=L.small s0 List.mem_cons_self
 obtain ⟨vc,vf,vt,vi,vo,vu,gf,gt,gl,of,ot,ol,vs⟩:=h
 have x8 : W.cell? ⟨gr,8,none⟩ = some (.bool s.cases):=bY M0.mem 8 rfl
 have x0:=M0.word L (j:=0) rfl
 have rF:=Lib.hid M0.few
 have fU:=Lib.hid M0.says
 have iK:=Lib.hid M0.len
 have e0 : (s0.toList == [115,101,110,100]) = true:=by rw [ByteArray.toList_eq,hw]; rfl
 have e1 : (s0.toList == [114,101,99,118]) = false:=by rw [ByteArray.toList_eq,hw]; rfl
 have e2 : (s0.toList == [116,97,98,108,101]) = false:=by rw [ByteArray.toList_eq,hw]; rfl
 have e3 : (s0.toList == [102,117,110,99]) = false:=by rw [ByteArray.toList_eq,hw]; rfl
 have e4 : s0.toList = [115,101,110,100]:=by rw [ByteArray.toList_eq]; exact hw
 rw [hc] at x8
 have FD:=Lib.hid (show s0.size ≤ 9223372036854775807 by omega)
 have tK:=Lib.hid (fun W => Tryz.strings_HasSuffix s0 ⟨#[58]⟩ W FD.out)
 have HI:=Lib.hid (show Inv { s with cases:=false } from hi)
 subst h1
 have tX:=hsf
 rw [show ([58] : List UInt8) = (⟨#[58]⟩ : ByteArray).data.toList from rfl] at tX
 rw [tX] at tK
 have M:=ah.mk M0
 clear M0 S hk L hn hw hc hsf tX hi
 go_enter Tryz.func24,Tryz.ntmps24
 go_wp2_with (first
  | ((with_reducible refine aU (t:=4) (p:=30) rfl ?_); refine fS (ah.mk M.out.mem) 4 (.tmp 30) 0 8 (.bool false) (dN vc vf vt vi gf gt gl vo false s.idle vu s.wrong s.line s.now) ?_ rfl rfl rfl rfl; clear M x8 x0; intro W2 M2_; have M2:=ah.mk (dX.mk (s:={ s with cases:=false }) (h:=⟨vc,vf,vt,vi,vo,vu,gf,gt,gl,of,ot,ol,vs⟩) M2_.out (rF.out.like) ⟨fU.out.f,fU.out.t,fU.out.l⟩ iK.out); clear M2_; have x0:=M2.out.word HL.out (j:=0) rfl) | (go_at_call 60; refine (tK.out _).mono ?_; rintro e2 w3 ⟨rfl,rfl⟩))
 refine gQ [] [(⟨gr,13,none⟩,.int .i64 s.now)] (ah.mk M2.out.mem) ?_ (fun w4 MD fV => ?_)
 ·intro q hq
  simp only [List.mem_cons,List.not_mem_nil,or_false] at hq
  rcases hq with rfl
  exact bY M2.out.mem 13 rfl
 have MR:=ah.mk (dX.mk (s:={ s with cases:=false }) (h:=⟨vc,vf,vt,vi,vo,vu,gf,gt,gl,of,ot,ol,vs⟩) MD.out (rF.out.like) ⟨fU.out.f,fU.out.t,fU.out.l⟩ iK.out)
 clear M2 x0
 refine kP 0 31 (.pointer (some ⟨gr,0,none⟩)) ?_
 simp only [Act.put,bF,bH,bG]
 refine kP 1 32 (.pointer (some ⟨gr,0,none⟩)) ?_
 simp only [Act.put,bF,bH,bG]
 refine kP 2 33 (.slice (some ⟨gw,0,none⟩) 1 c) ?_
 simp only [Act.put,bF,bH,bG]
 refine kP 4 35 (.pointer (some ⟨gr,0,none⟩)) ?_
 simp only [Act.put,bF,bH,bG]
 refine kP 5 36 (.pointer (some ⟨gr,0,none⟩)) ?_
 simp only [Act.put,bF,bH,bG]
 refine kP 6 37 (.pointer (some ⟨gr,13,none⟩)) ?_
 simp only [Act.put,bF,bH,bG]
 refine kE fV 7 38 0 ?_
 simp only [Act.put,bF,bH,bG]
 refine kR [3] ?_
 refine kK 3 34 Tryz.func63 #[.pointer (some ⟨gr,0,none⟩),.slice (some ⟨gw,0,none⟩) 1 c] ((qQ MR.out SS.out HK.out HL.out HI.out).mono ?_) aK.nil
 rintro e1 w5 ⟨rfl,h1,MP⟩
 have MQ:=ah.mk MP
 clear MP MD fV
 have NOW:=Lib.hid ((uj { s with cases:=false } (s0 :: r)))
 have xG : w5.cell? ⟨gr,13,none⟩ = some (.int .i64 s.now):=by have h:=bY MQ.out.mem 13 rfl; rw [h]; exact congrArg (fun x => some (Value.int .i64 x)) NOW.out
 refine ⟨_,rfl,?_,?_⟩
 ·intro q hq
  simp only [List.mem_cons,List.not_mem_nil,or_false] at hq
  rcases hq with rfl
  exact xG
 simp only [Act.put,bF,bH,bG]
 refine kR [8] ?_
 refine kK 8 39 Tryz.func58 #[.pointer (some ⟨gr,0,none⟩),.int .i64 ((St.instr { s with cases:=false } (s0 :: r)).2),.int .i64 s.now] ?_ aK.nil
 refine (tq MQ.out SS.out _ s.now).mono ?_
 rintro e2 w6 ⟨rfl,MB⟩
 have MC:=ah.mk MB
 clear MB
 refine ⟨_,rfl,?_,?_⟩
 ·intro q hq
  simp only [List.mem_cons,List.not_mem_nil,or_false] at hq
  have h:=bY MC.out.mem 13 rfl
  rcases hq with rfl
  rw [h]
  exact congrArg (fun x => some (Value.int .i64 x)) NOW.out
 clear MQ xG
 refine iG ?_
 go_wp2
 go_returns
 exact ⟨rfl,h1,MC.out⟩
theorem JQ (M0 : dX k w0 W gr l h s) (S : Std w0) (hk : k < 262144) (L : Line l gw n c (s0 :: r)) (hw : s0.data.toList = uo) (hc : s.cases = false) (hi : Inv s) (h1 : n ≠ 1) :
  Calls Tryz.prog 24 #[.pointer (some ⟨gr,0,none⟩),.slice (some ⟨gw,0,none⟩) n c] W fun z w' => z = .returned (.tuple #[]) ∧ ∃ h',dX (k + 1) w0 w' gr l h' ((St.instr { s with cases:=false } (s0 :: r)).1.bad (St.instr { s with cases:=false } (s0 :: r)).2 s.now):=by
 have SS:=Lib.hid S
 have HK:=Lib.hid hk
 have HL:=Lib.hid L
 have hcap : n ≤ c:=L.cap
 have hn : r.length + 1 = n:=by have:=L.len; rw [List.length_cons] at this; exact this
 have hpos : 0 < n:=by omega
 have uQ : (0 : Int) < (n : Int):=by omega
 have hsz:=L.small s0 List.mem_cons_self
 obtain ⟨vc,vf,vt,vi,vo,vu,gf,gt,gl,of,ot,ol,vs⟩:=h
 have x8 : W.cell? ⟨gr,8,none⟩ = some (.bool s.cases):=bY M0.mem 8 rfl
 have x0:=M0.word L (j:=0) rfl
 have rF:=Lib.hid M0.few
 have fU:=Lib.hid M0.says
 have iK:=Lib.hid M0.len
 have e0 : (s0.toList == [115,101,110,100]) = true:=by rw [ByteArray.toList_eq,hw]; rfl
 have e1 : (s0.toList == [114,101,99,118]) = false:=by rw [ByteArray.toList_eq,hw]; rfl
 have e2 : (s0.toList == [116,97,98,108,101]) = false:=by rw [ByteArray.toList_eq,hw]; rfl
 have e3 : (s0.toList == [102,117,110,99]) = false:=by rw [ByteArray.toList_eq,hw]; rfl
 have e4 : s0.toList = [115,101,110,100]:=by rw [ByteArray.toList_eq]; exact hw
 rw [hc] at x8
 have FD:=Lib.hid (show s0.size ≤ 9223372036854775807 by omega)
 have tK:=Lib.hid (fun W => Tryz.strings_HasSuffix s0 ⟨#[58]⟩ W FD.out)
 have HI:=Lib.hid (show Inv { s with cases:=false } from hi)
 have b1 : ((n : Int) == 1) = false:=beq_eq_false_iff_ne.mpr (by omega)
 have M:=ah.mk M0
 clear M0 S hk L hn hw hc hi h1
 go_enter Tryz.func24,Tryz.ntmps24
 go_wp2_with (first
  | ((with_reducible refine aU (t:=4) (p:=30) rfl ?_); refine fS (ah.mk M.out.mem) 4 (.tmp 30) 0 8 (.bool false) (dN vc vf vt vi gf gt gl vo false s.idle vu s.wrong s.line s.now) ?_ rfl rfl rfl rfl; clear M x8 x0; intro W2 M2_; have M2:=ah.mk (dX.mk (s:={ s with cases:=false }) (h:=⟨vc,vf,vt,vi,vo,vu,gf,gt,gl,of,ot,ol,vs⟩) M2_.out (rF.out.like) ⟨fU.out.f,fU.out.t,fU.out.l⟩ iK.out); clear M2_; have x0:=M2.out.word HL.out (j:=0) rfl) | (go_at_call 60; refine (tK.out _).mono ?_; rintro e2 w3 ⟨rfl,rfl⟩))
 refine gQ [] [(⟨gr,13,none⟩,.int .i64 s.now)] (ah.mk M2.out.mem) ?_ (fun w4 MD fV => ?_)
 ·intro q hq
  simp only [List.mem_cons,List.not_mem_nil,or_false] at hq
  rcases hq with rfl
  exact bY M2.out.mem 13 rfl
 have MR:=ah.mk (dX.mk (s:={ s with cases:=false }) (h:=⟨vc,vf,vt,vi,vo,vu,gf,gt,gl,of,ot,ol,vs⟩) MD.out (rF.out.like) ⟨fU.out.f,fU.out.t,fU.out.l⟩ iK.out)
 clear M2 x0
 refine kP 0 31 (.pointer (some ⟨gr,0,none⟩)) ?_
 simp only [Act.put,bF,bH,bG]
 refine kP 1 32 (.pointer (some ⟨gr,0,none⟩)) ?_
 simp only [Act.put,bF,bH,bG]
 refine kP 2 33 (.slice (some ⟨gw,0,none⟩) n c) ?_
 simp only [Act.put,bF,bH,bG]
 refine kP 4 35 (.pointer (some ⟨gr,0,none⟩)) ?_
 simp only [Act.put,bF,bH,bG]
 refine kP 5 36 (.pointer (some ⟨gr,0,none⟩)) ?_
 simp only [Act.put,bF,bH,bG]
 refine kP 6 37 (.pointer (some ⟨gr,13,none⟩)) ?_
 simp only [Act.put,bF,bH,bG]
 refine kE fV 7 38 0 ?_
 simp only [Act.put,bF,bH,bG]
 refine kR [3] ?_
 refine kK 3 34 Tryz.func63 #[.pointer (some ⟨gr,0,none⟩),.slice (some ⟨gw,0,none⟩) n c] ((qQ MR.out SS.out HK.out HL.out HI.out).mono ?_) aK.nil
 rintro e1 w5 ⟨rfl,h1,MP⟩
 have MQ:=ah.mk MP
 clear MP MD fV
 have NOW:=Lib.hid ((uj { s with cases:=false } (s0 :: r)))
 have xG : w5.cell? ⟨gr,13,none⟩ = some (.int .i64 s.now):=by have h:=bY MQ.out.mem 13 rfl; rw [h]; exact congrArg (fun x => some (Value.int .i64 x)) NOW.out
 refine ⟨_,rfl,?_,?_⟩
 ·intro q hq
  simp only [List.mem_cons,List.not_mem_nil,or_false] at hq
  rcases hq with rfl
  exact xG
 simp only [Act.put,bF,bH,bG]
 refine kR [8] ?_
 refine kK 8 39 Tryz.func58 #[.pointer (some ⟨gr,0,none⟩),.int .i64 ((St.instr { s with cases:=false } (s0 :: r)).2),.int .i64 s.now] ?_ aK.nil
 refine (tq MQ.out SS.out _ s.now).mono ?_
 rintro e2 w6 ⟨rfl,MB⟩
 have MC:=ah.mk MB
 clear MB
 refine ⟨_,rfl,?_,?_⟩
 ·intro q hq
  simp only [List.mem_cons,List.not_mem_nil,or_false] at hq
  have h:=bY MC.out.mem 13 rfl
  rcases hq with rfl
  rw [h]
  exact congrArg (fun x => some (Value.int .i64 x)) NOW.out
 clear MQ xG
 refine iG ?_
 go_wp2
 go_returns
 exact ⟨rfl,h1,MC.out⟩
theorem PX (M0 : dX k w0 W gr l h s) (S : Std w0) (hk : k < 262144) (L : Line l gw n c (s0 :: r)) (hw : s0.data.toList = wR) (hc : s.cases = false) (h1 : n = 1) (hsf : Lib.hasSuffix s0.data.toList [58] = true) :
  Calls Tryz.prog 24 #[.pointer (some ⟨gr,0,none⟩),.slice (some ⟨gw,0,none⟩) n c] W fun z w' => z = .returned (.tuple #[]) ∧ ∃ h',dX (k + 1) w0 w' gr l h' ((St.mark { s with cases:=false } ⟨(Lib.trimSuffix s0.data.toList [58]).toArray⟩).1.bad (St.mark { s with cases:=false } ⟨(Lib.trimSuffix s0.data.toList [58]).toArray⟩).2 s.now):=by
 have SS:=Lib.hid S
 have HK:=Lib.hid hk
 have HL:=Lib.hid L
 have hcap : n ≤ c:=L.cap
 have hn : r.length + 1 = n:=by have:=L.len; rw [List.length_cons] at this; exact this
 have hpos : 0 < n:=by omega
 have uQ : (0 : Int) < (n : Int):=by omega
 have hsz:=L.small s0 List.mem_cons_self
 obtain ⟨vc,vf,vt,vi,vo,vu,gf,gt,gl,of,ot,ol,vs⟩:=h
 have x8 : W.cell? ⟨gr,8,none⟩ = some (.bool s.cases):=bY M0.mem 8 rfl
 have x0:=M0.word L (j:=0) rfl
 have rF:=Lib.hid M0.few
 have fU:=Lib.hid M0.says
 have iK:=Lib.hid M0.len
 have e0 : (s0.toList == [115,101,110,100]) = false:=by rw [ByteArray.toList_eq,hw]; rfl
 have e1 : (s0.toList == [114,101,99,118]) = true:=by rw [ByteArray.toList_eq,hw]; rfl
 have e2 : (s0.toList == [116,97,98,108,101]) = false:=by rw [ByteArray.toList_eq,hw]; rfl
 have e3 : (s0.toList == [102,117,110,99]) = false:=by rw [ByteArray.toList_eq,hw]; rfl
 have e4 : s0.toList = [114,101,99,118]:=by rw [ByteArray.toList_eq]; exact hw
 rw [hc] at x8
 have FD:=Lib.hid (show s0.size ≤ 9223372036854775807 by omega)
 have tK:=Lib.hid (fun W => Tryz.strings_HasSuffix s0 ⟨#[58]⟩ W FD.out)
 subst h1
 have tX:=hsf
 rw [show ([58] : List UInt8) = (⟨#[58]⟩ : ByteArray).data.toList from rfl] at tX
 rw [tX] at tK
 have HTS:=Lib.hid (Dc s0 hsz)
 have M:=ah.mk M0
 clear M0 S hk L hn hw hc hsf tX
 go_enter Tryz.func24,Tryz.ntmps24
 go_wp2_with (first
  | ((with_reducible refine aU (t:=4) (p:=30) rfl ?_); refine fS (ah.mk M.out.mem) 4 (.tmp 30) 0 8 (.bool false) (dN vc vf vt vi gf gt gl vo false s.idle vu s.wrong s.line s.now) ?_ rfl rfl rfl rfl; clear M x8 x0; intro W2 M2_; have M2:=ah.mk (dX.mk (s:={ s with cases:=false }) (h:=⟨vc,vf,vt,vi,vo,vu,gf,gt,gl,of,ot,ol,vs⟩) M2_.out (rF.out.like) ⟨fU.out.f,fU.out.t,fU.out.l⟩ iK.out); clear M2_; have x0:=M2.out.word HL.out (j:=0) rfl) | (go_at_call 60; refine (tK.out _).mono ?_; rintro e2 w3 ⟨rfl,rfl⟩))
 refine gQ [] [(⟨gr,13,none⟩,.int .i64 s.now),(⟨gw,0,none⟩,.string s0)] (ah.mk M2.out.mem) ?_ (fun w4 MD fV => ?_)
 ·intro q hq
  simp only [List.mem_cons,List.not_mem_nil,or_false] at hq
  rcases hq with rfl | rfl
  ·exact bY M2.out.mem 13 rfl
  ·exact x0
 have MR:=ah.mk (dX.mk (s:={ s with cases:=false }) (h:=⟨vc,vf,vt,vi,vo,vu,gf,gt,gl,of,ot,ol,vs⟩) MD.out (rF.out.like) ⟨fU.out.f,fU.out.t,fU.out.l⟩ iK.out)
 clear M2 x0
 refine kP 0 77 (.pointer (some ⟨gr,0,none⟩)) ?_
 simp only [Act.put,bF,bH,bG]
 refine kP 1 78 (.pointer (some ⟨gr,0,none⟩)) ?_
 simp only [Act.put,bF,bH,bG]
 refine kP 2 79 (.slice (some ⟨gw,0,none⟩) 1 c) ?_
 simp only [Act.put,bF,bH,bG]
 refine kP 3 80 (.pointer (some ⟨gw,0,none⟩)) ?_
 simp only [Act.put,bF,bH,bG]
 refine kE fV 4 81 1 ?_
 simp only [Act.put,bF,bH,bG]
 refine kP 7 84 (.pointer (some ⟨gr,0,none⟩)) ?_
 simp only [Act.put,bF,bH,bG]
 refine kP 8 85 (.pointer (some ⟨gr,0,none⟩)) ?_
 simp only [Act.put,bF,bH,bG]
 refine kP 9 86 (.pointer (some ⟨gr,13,none⟩)) ?_
 simp only [Act.put,bF,bH,bG]
 refine kE fV 10 87 0 ?_
 simp only [Act.put,bF,bH,bG]
 refine kR [5] ?_
 refine kK 5 82 Tryz.func62 #[.string s0,.string ⟨#[58]⟩] ((Tryz.strings_TrimSuffix s0 ⟨#[58]⟩ _ FD.out).mono ?_) aK.nil
 rintro e0 w5 ⟨rfl,rfl⟩
 refine ⟨_,rfl,fV.out,?_⟩
 simp only [Act.put,bF,bH,bG]
 refine kR [6] ?_
 refine kK 6 83 Tryz.func61 #[.pointer (some ⟨gr,0,none⟩),.string ⟨(Lib.trimSuffix s0.data.toList [58]).toArray⟩] ((Bq MR.out SS.out HK.out HTS.out).mono ?_) aK.nil
 rintro e1 w5 ⟨rfl,h1,MP⟩
 have MQ:=ah.mk MP
 clear MP MD fV
 have NOW:=Lib.hid ((EN { s with cases:=false } ⟨(Lib.trimSuffix s0.data.toList [58]).toArray⟩))
 have xG : w5.cell? ⟨gr,13,none⟩ = some (.int .i64 s.now):=by have h:=bY MQ.out.mem 13 rfl; rw [h]; exact congrArg (fun x => some (Value.int .i64 x)) NOW.out
 refine ⟨_,rfl,?_,?_⟩
 ·intro q hq
  simp only [List.mem_cons,List.not_mem_nil,or_false] at hq
  have xw:=MQ.out.word HL.out (j:=0) rfl
  rcases hq with rfl | rfl
  ·exact xG
  ·exact xw
 simp only [Act.put,bF,bH,bG]
 refine kR [11] ?_
 refine kK 11 88 Tryz.func58 #[.pointer (some ⟨gr,0,none⟩),.int .i64 ((St.mark { s with cases:=false } ⟨(Lib.trimSuffix s0.data.toList [58]).toArray⟩).2),.int .i64 s.now] ?_ aK.nil
 refine (tq MQ.out SS.out _ s.now).mono ?_
 rintro e2 w6 ⟨rfl,MB⟩
 have MC:=ah.mk MB
 clear MB
 refine ⟨_,rfl,?_,?_⟩
 ·intro q hq
  simp only [List.mem_cons,List.not_mem_nil,or_false] at hq
  have h:=bY MC.out.mem 13 rfl
  have xw:=MC.out.word HL.out (j:=0) rfl
  rcases hq with rfl | rfl
  ·rw [h]
   exact congrArg (fun x => some (Value.int .i64 x)) NOW.out
  ·exact xw
 clear MQ xG
 refine iG ?_
 go_wp2
 go_returns
 exact ⟨rfl,h1,MC.out⟩
theorem JO (M0 : dX k w0 W gr l h s) (S : Std w0) (hk : k < 262144) (L : Line l gw n c (s0 :: r)) (hw : s0.data.toList = wR) (hc : s.cases = false) (hi : Inv s) (h1 : n = 1) (hsf : Lib.hasSuffix s0.data.toList [58] = false) :
  Calls Tryz.prog 24 #[.pointer (some ⟨gr,0,none⟩),.slice (some ⟨gw,0,none⟩) n c] W fun z w' => z = .returned (.tuple #[]) ∧ ∃ h',dX (k + 1) w0 w' gr l h' ((St.instr { s with cases:=false } (s0 :: r)).1.bad (St.instr { s with cases:=false } (s0 :: r)).2 s.now):=by
 have SS:=Lib.hid S
 have HK:=Lib.hid hk
 have HL:=Lib.hid L
 have hcap : n ≤ c:=L.cap
 have hn : r.length + 1 = n:=by have:=L.len; rw [List.length_cons] at this; exact this
 have hpos : 0 < n:=by omega
 have uQ : (0 : Int) < (n : Int):=by omega
 have hsz:=L.small s0 List.mem_cons_self
 obtain ⟨vc,vf,vt,vi,vo,vu,gf,gt,gl,of,ot,ol,vs⟩:=h
 have x8 : W.cell? ⟨gr,8,none⟩ = some (.bool s.cases):=bY M0.mem 8 rfl
 have x0:=M0.word L (j:=0) rfl
 have rF:=Lib.hid M0.few
 have fU:=Lib.hid M0.says
 have iK:=Lib.hid M0.len
 have e0 : (s0.toList == [115,101,110,100]) = false:=by rw [ByteArray.toList_eq,hw]; rfl
 have e1 : (s0.toList == [114,101,99,118]) = true:=by rw [ByteArray.toList_eq,hw]; rfl
 have e2 : (s0.toList == [116,97,98,108,101]) = false:=by rw [ByteArray.toList_eq,hw]; rfl
 have e3 : (s0.toList == [102,117,110,99]) = false:=by rw [ByteArray.toList_eq,hw]; rfl
 have e4 : s0.toList = [114,101,99,118]:=by rw [ByteArray.toList_eq]; exact hw
 rw [hc] at x8
 have FD:=Lib.hid (show s0.size ≤ 9223372036854775807 by omega)
 have tK:=Lib.hid (fun W => Tryz.strings_HasSuffix s0 ⟨#[58]⟩ W FD.out)
 have HI:=Lib.hid (show Inv { s with cases:=false } from hi)
 subst h1
 have tX:=hsf
 rw [show ([58] : List UInt8) = (⟨#[58]⟩ : ByteArray).data.toList from rfl] at tX
 rw [tX] at tK
 have M:=ah.mk M0
 clear M0 S hk L hn hw hc hsf tX hi
 go_enter Tryz.func24,Tryz.ntmps24
 go_wp2_with (first
  | ((with_reducible refine aU (t:=4) (p:=30) rfl ?_); refine fS (ah.mk M.out.mem) 4 (.tmp 30) 0 8 (.bool false) (dN vc vf vt vi gf gt gl vo false s.idle vu s.wrong s.line s.now) ?_ rfl rfl rfl rfl; clear M x8 x0; intro W2 M2_; have M2:=ah.mk (dX.mk (s:={ s with cases:=false }) (h:=⟨vc,vf,vt,vi,vo,vu,gf,gt,gl,of,ot,ol,vs⟩) M2_.out (rF.out.like) ⟨fU.out.f,fU.out.t,fU.out.l⟩ iK.out); clear M2_; have x0:=M2.out.word HL.out (j:=0) rfl) | (go_at_call 60; refine (tK.out _).mono ?_; rintro e2 w3 ⟨rfl,rfl⟩))
 refine gQ [] [(⟨gr,13,none⟩,.int .i64 s.now)] (ah.mk M2.out.mem) ?_ (fun w4 MD fV => ?_)
 ·intro q hq
  simp only [List.mem_cons,List.not_mem_nil,or_false] at hq
  rcases hq with rfl
  exact bY M2.out.mem 13 rfl
 have MR:=ah.mk (dX.mk (s:={ s with cases:=false }) (h:=⟨vc,vf,vt,vi,vo,vu,gf,gt,gl,of,ot,ol,vs⟩) MD.out (rF.out.like) ⟨fU.out.f,fU.out.t,fU.out.l⟩ iK.out)
 clear M2 x0
 refine kP 0 31 (.pointer (some ⟨gr,0,none⟩)) ?_
 simp only [Act.put,bF,bH,bG]
 refine kP 1 32 (.pointer (some ⟨gr,0,none⟩)) ?_
 simp only [Act.put,bF,bH,bG]
 refine kP 2 33 (.slice (some ⟨gw,0,none⟩) 1 c) ?_
 simp only [Act.put,bF,bH,bG]
 refine kP 4 35 (.pointer (some ⟨gr,0,none⟩)) ?_
 simp only [Act.put,bF,bH,bG]
 refine kP 5 36 (.pointer (some ⟨gr,0,none⟩)) ?_
 simp only [Act.put,bF,bH,bG]
 refine kP 6 37 (.pointer (some ⟨gr,13,none⟩)) ?_
 simp only [Act.put,bF,bH,bG]
 refine kE fV 7 38 0 ?_
 simp only [Act.put,bF,bH,bG]
 refine kR [3] ?_
 refine kK 3 34 Tryz.func63 #[.pointer (some ⟨gr,0,none⟩),.slice (some ⟨gw,0,none⟩) 1 c] ((qQ MR.out SS.out HK.out HL.out HI.out).mono ?_) aK.nil
 rintro e1 w5 ⟨rfl,h1,MP⟩
 have MQ:=ah.mk MP
 clear MP MD fV
 have NOW:=Lib.hid ((uj { s with cases:=false } (s0 :: r)))
 have xG : w5.cell? ⟨gr,13,none⟩ = some (.int .i64 s.now):=by have h:=bY MQ.out.mem 13 rfl; rw [h]; exact congrArg (fun x => some (Value.int .i64 x)) NOW.out
 refine ⟨_,rfl,?_,?_⟩
 ·intro q hq
  simp only [List.mem_cons,List.not_mem_nil,or_false] at hq
  rcases hq with rfl
  exact xG
 simp only [Act.put,bF,bH,bG]
 refine kR [8] ?_
 refine kK 8 39 Tryz.func58 #[.pointer (some ⟨gr,0,none⟩),.int .i64 ((St.instr { s with cases:=false } (s0 :: r)).2),.int .i64 s.now] ?_ aK.nil
 refine (tq MQ.out SS.out _ s.now).mono ?_
 rintro e2 w6 ⟨rfl,MB⟩
 have MC:=ah.mk MB
 clear MB
 refine ⟨_,rfl,?_,?_⟩
 ·intro q hq
  simp only [List.mem_cons,List.not_mem_nil,or_false] at hq
  have h:=bY MC.out.mem 13 rfl
  rcases hq with rfl
  rw [h]
  exact congrArg (fun x => some (Value.int .i64 x)) NOW.out
 clear MQ xG
 refine iG ?_
 go_wp2
 go_returns
 exact ⟨rfl,h1,MC.out⟩
theorem JM (M0 : dX k w0 W gr l h s) (S : Std w0) (hk : k < 262144) (L : Line l gw n c (s0 :: r)) (hw : s0.data.toList = wR) (hc : s.cases = false) (hi : Inv s) (h1 : n ≠ 1) :
  Calls Tryz.prog 24 #[.pointer (some ⟨gr,0,none⟩),.slice (some ⟨gw,0,none⟩) n c] W fun z w' => z = .returned (.tuple #[]) ∧ ∃ h',dX (k + 1) w0 w' gr l h' ((St.instr { s with cases:=false } (s0 :: r)).1.bad (St.instr { s with cases:=false } (s0 :: r)).2 s.now):=by
 have SS:=Lib.hid S
 have HK:=Lib.hid hk
 have HL:=Lib.hid L
 have hcap : n ≤ c:=L.cap
 have hn : r.length + 1 = n:=by have:=L.len; rw [List.length_cons] at this; exact this
 have hpos : 0 < n:=by omega
 have uQ : (0 : Int) < (n : Int):=by omega
 have hsz:=L.small s0 List.mem_cons_self
 obtain ⟨vc,vf,vt,vi,vo,vu,gf,gt,gl,of,ot,ol,vs⟩:=h
 have x8 : W.cell? ⟨gr,8,none⟩ = some (.bool s.cases):=bY M0.mem 8 rfl
 have x0:=M0.word L (j:=0) rfl
 have rF:=Lib.hid M0.few
 have fU:=Lib.hid M0.says
 have iK:=Lib.hid M0.len
 have e0 : (s0.toList == [115,101,110,100]) = false:=by rw [ByteArray.toList_eq,hw]; rfl
 have e1 : (s0.toList == [114,101,99,118]) = true:=by rw [ByteArray.toList_eq,hw]; rfl
 have e2 : (s0.toList == [116,97,98,108,101]) = false:=by rw [ByteArray.toList_eq,hw]; rfl
 have e3 : (s0.toList == [102,117,110,99]) = false:=by rw [ByteArray.toList_eq,hw]; rfl
 have e4 : s0.toList = [114,101,99,118]:=by rw [ByteArray.toList_eq]; exact hw
 rw [hc] at x8
 have FD:=Lib.hid (show s0.size ≤ 9223372036854775807 by omega)
 have tK:=Lib.hid (fun W => Tryz.strings_HasSuffix s0 ⟨#[58]⟩ W FD.out)
 have HI:=Lib.hid (show Inv { s with cases:=false } from hi)
 have b1 : ((n : Int) == 1) = false:=beq_eq_false_iff_ne.mpr (by omega)
 have M:=ah.mk M0
 clear M0 S hk L hn hw hc hi h1
 go_enter Tryz.func24,Tryz.ntmps24
 go_wp2_with (first
  | ((with_reducible refine aU (t:=4) (p:=30) rfl ?_); refine fS (ah.mk M.out.mem) 4 (.tmp 30) 0 8 (.bool false) (dN vc vf vt vi gf gt gl vo false s.idle vu s.wrong s.line s.now) ?_ rfl rfl rfl rfl; clear M x8 x0; intro W2 M2_; have M2:=ah.mk (dX.mk (s:={ s with cases:=false }) (h:=⟨vc,vf,vt,vi,vo,vu,gf,gt,gl,of,ot,ol,vs⟩) M2_.out (rF.out.like) ⟨fU.out.f,fU.out.t,fU.out.l⟩ iK.out); clear M2_; have x0:=M2.out.word HL.out (j:=0) rfl) | (go_at_call 60; refine (tK.out _).mono ?_; rintro e2 w3 ⟨rfl,rfl⟩))
 refine gQ [] [(⟨gr,13,none⟩,.int .i64 s.now)] (ah.mk M2.out.mem) ?_ (fun w4 MD fV => ?_)
 ·intro q hq
  simp only [List.mem_cons,List.not_mem_nil,or_false] at hq
  rcases hq with rfl
  exact bY M2.out.mem 13 rfl
 have MR:=ah.mk (dX.mk (s:={ s with cases:=false }) (h:=⟨vc,vf,vt,vi,vo,vu,gf,gt,gl,of,ot,ol,vs⟩) MD.out (rF.out.like) ⟨fU.out.f,fU.out.t,fU.out.l⟩ iK.out)
 clear M2 x0
 refine kP 0 31 (.pointer (some ⟨gr,0,none⟩)) ?_
 simp only [Act.put,bF,bH,bG]
 refine kP 1 32 (.pointer (some ⟨gr,0,none⟩)) ?_
 simp only [Act.put,bF,bH,bG]
 refine kP 2 33 (.slice (some ⟨gw,0,none⟩) n c) ?_
 simp only [Act.put,bF,bH,bG]
 refine kP 4 35 (.pointer (some ⟨gr,0,none⟩)) ?_
 simp only [Act.put,bF,bH,bG]
 refine kP 5 36 (.pointer (some ⟨gr,0,none⟩)) ?_
 simp only [Act.put,bF,bH,bG]
 refine kP 6 37 (.pointer (some ⟨gr,13,none⟩)) ?_
 simp only [Act.put,bF,bH,bG]
 refine kE fV 7 38 0 ?_
 simp only [Act.put,bF,bH,bG]
 refine kR [3] ?_
 refine kK 3 34 Tryz.func63 #[.pointer (some ⟨gr,0,none⟩),.slice (some ⟨gw,0,none⟩) n c] ((qQ MR.out SS.out HK.out HL.out HI.out).mono ?_) aK.nil
 rintro e1 w5 ⟨rfl,h1,MP⟩
 have MQ:=ah.mk MP
 clear MP MD fV
 have NOW:=Lib.hid ((uj { s with cases:=false } (s0 :: r)))
 have xG : w5.cell? ⟨gr,13,none⟩ = some (.int .i64 s.now):=by have h:=bY MQ.out.mem 13 rfl; rw [h]; exact congrArg (fun x => some (Value.int .i64 x)) NOW.out
 refine ⟨_,rfl,?_,?_⟩
 ·intro q hq
  simp only [List.mem_cons,List.not_mem_nil,or_false] at hq
  rcases hq with rfl
  exact xG
 simp only [Act.put,bF,bH,bG]
 refine kR [8] ?_
 refine kK 8 39 Tryz.func58 #[.pointer (some ⟨gr,0,none⟩),.int .i64 ((St.instr { s with cases:=false } (s0 :: r)).2),.int .i64 s.now] ?_ aK.nil
 refine (tq MQ.out SS.out _ s.now).mono ?_
 rintro e2 w6 ⟨rfl,MB⟩
 have MC:=ah.mk MB
 clear MB
 refine ⟨_,rfl,?_,?_⟩
 ·intro q hq
  simp only [List.mem_cons,List.not_mem_nil,or_false] at hq
  have h:=bY MC.out.mem 13 rfl
  rcases hq with rfl
  rw [h]
  exact congrArg (fun x => some (Value.int .i64 x)) NOW.out
 clear MQ xG
 refine iG ?_
 go_wp2
 go_returns
 exact ⟨rfl,h1,MC.out⟩
theorem Rl (M0 : dX k w0 W gr l h s) (S : Std w0) (hk : k < 262144) (L : Line l gw n c (s0 :: r)) (hf : Fine s) :
  Calls Tryz.prog 24 #[.pointer (some ⟨gr,0,none⟩),.slice (some ⟨gw,0,none⟩) n c] W fun z w' => z = .returned (.tuple #[]) ∧ ∃ h',dX (k + 1) w0 w' gr l h' (s.read (s0 :: r)):=by
 have hn : (s0 :: r).length = n:=L.len
 have W1 : ∀ X,Ob s0 X = true ↔ s0.data.toList = X:=fun X => by unfold Ob; exact beq_iff_eq
 have W0 : ∀ X,Ob s0 X = false ↔ s0.data.toList ≠ X:=fun X => by unfold Ob; exact beq_eq_false_iff_ne
 by_cases hF : s0.data.toList = Dx
 ·rw [show s.read (s0 :: r) = St.fn { s with cases:=false } (s0 :: r) from if_pos ((W1 _).2 hF)]
  cases hc : s.cases with
  | true => exact PW M0 S hk L hF hc
  | false => exact PV M0 S hk L hF hc
 by_cases hT : s0.data.toList = AA
 ·rw [show s.read (s0 :: r) = St.table { s with cases:=true } (s0 :: r) from (if_neg (by rw [(W0 _).2 hF]; simp)).trans (if_pos ((W1 _).2 hT))]
  cases hc : s.cases with
  | true => exact NK M0 S hk L hT hc
  | false => exact NJ M0 S hk L hT hc
 have key : s.read (s0 :: r) = if s.cases && (Ob s0 uo || Ob s0 wR) then ((s.pick (Ob s0 uo) r).1.bad (s.pick (Ob s0 uo) r).2 s.now)
  else if (s0 :: r).length = 1 ∧ Lib.hasSuffix s0.data.toList [58] = true then
   (St.mark { s with cases:=false } ⟨(Lib.trimSuffix s0.data.toList [58]).toArray⟩).1.bad (St.mark { s with cases:=false } ⟨(Lib.trimSuffix s0.data.toList [58]).toArray⟩).2 s.now
  else (St.instr { s with cases:=false } (s0 :: r)).1.bad (St.instr { s with cases:=false } (s0 :: r)).2 s.now :=
  (if_neg (by rw [(W0 _).2 hF]; simp)).trans (if_neg (by rw [(W0 _).2 hT]; simp))
 have rest : (s.cases && (Ob s0 uo || Ob s0 wR)) = false → (∀ h1 : n = 1,Lib.hasSuffix s0.data.toList [58] = true → Calls Tryz.prog 24 #[.pointer (some ⟨gr,0,none⟩),.slice (some ⟨gw,0,none⟩) n c] W fun z w' => z = .returned (.tuple #[]) ∧ ∃ h',dX (k + 1) w0 w' gr l h' ((St.mark { s with cases:=false } ⟨(Lib.trimSuffix s0.data.toList [58]).toArray⟩).1.bad (St.mark { s with cases:=false } ⟨(Lib.trimSuffix s0.data.toList [58]).toArray⟩).2 s.now)) →
   (∀ h1 : n = 1,Lib.hasSuffix s0.data.toList [58] = false → Calls Tryz.prog 24 #[.pointer (some ⟨gr,0,none⟩),.slice (some ⟨gw,0,none⟩) n c] W fun z w' => z = .returned (.tuple #[]) ∧ ∃ h',dX (k + 1) w0 w' gr l h' ((St.instr { s with cases:=false } (s0 :: r)).1.bad (St.instr { s with cases:=false } (s0 :: r)).2 s.now)) →
   (∀ h1 : n ≠ 1,Calls Tryz.prog 24 #[.pointer (some ⟨gr,0,none⟩),.slice (some ⟨gw,0,none⟩) n c] W fun z w' => z = .returned (.tuple #[]) ∧ ∃ h',dX (k + 1) w0 w' gr l h' ((St.instr { s with cases:=false } (s0 :: r)).1.bad (St.instr { s with cases:=false } (s0 :: r)).2 s.now)) →
   Calls Tryz.prog 24 #[.pointer (some ⟨gr,0,none⟩),.slice (some ⟨gw,0,none⟩) n c] W fun z w' => z = .returned (.tuple #[]) ∧ ∃ h',dX (k + 1) w0 w' gr l h' (s.read (s0 :: r)):=by
  intro hcs a1 a2 a3
  rw [key,if_neg (by rw [hcs]; simp)]
  by_cases h1 : n = 1
  ·cases hsf : Lib.hasSuffix s0.data.toList [58] with
   | true => rw [if_pos ⟨hn.trans h1,rfl⟩]; exact a1 h1 hsf
   | false => rw [if_neg (by simp)]; exact a2 h1 hsf
  ·rw [if_neg (fun e => h1 (hn.symm.trans e.1))]; exact a3 h1
 by_cases hS : s0.data.toList = uo
 ·cases hc : s.cases with
  | true =>
   rw [key,hc,(W1 _).2 hS]
   have:=U4 M0 S hk L hS hc (hf.tabs hc)
   rwa [show ({ s with cases:=true } : St) = s by cases s; simp only at hc; subst hc; rfl] at this
  | false => exact rest (by rw [hc]; rfl) (fun h1 h2 => PY M0 S hk L hS hc h1 h2) (fun h1 h2 => JR M0 S hk L hS hc hf.inv h1 h2) (fun h1 => JQ M0 S hk L hS hc hf.inv h1)
 by_cases hR : s0.data.toList = wR
 ·cases hc : s.cases with
  | true =>
   rw [key,hc,(W1 _).2 hR,(W0 _).2 hS]
   have:=U3 M0 S hk L hR hc (hf.tabs hc)
   rwa [show ({ s with cases:=true } : St) = s by cases s; simp only at hc; subst hc; rfl] at this
  | false => exact rest (by rw [hc]; rfl) (fun h1 h2 => PX M0 S hk L hR hc h1 h2) (fun h1 h2 => JO M0 S hk L hR hc hf.inv h1 h2) (fun h1 => JM M0 S hk L hR hc hf.inv h1)
 have hcs : (s.cases && (Ob s0 uo || Ob s0 wR)) = false:=by rw [(W0 _).2 hS,(W0 _).2 hR]; simp
 cases hc : s.cases with
 | true => exact rest hcs (fun h1 h2 => NI M0 S hk L hS hR hT hF hc h1 h2) (fun h1 h2 => Jp M0 S hk L hS hR hT hF hc hf.inv h1 h2) (fun h1 => Jo M0 S hk L hS hR hT hF hc hf.inv h1)
 | false => exact rest hcs (fun h1 h2 => NH M0 S hk L hS hR hT hF hc h1 h2) (fun h1 h2 => Jm M0 S hk L hS hR hT hF hc hf.inv h1 h2) (fun h1 => Jl M0 S hk L hS hR hT hF hc hf.inv h1)
end
end Go.Proofs.YtdbpglhdicmhhaaGreatDoor.qp
end
