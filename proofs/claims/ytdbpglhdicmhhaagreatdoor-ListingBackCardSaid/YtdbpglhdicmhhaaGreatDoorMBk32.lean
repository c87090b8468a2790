import Derived.Test.YtdbpglhdicmhhaaGreatDoorMBk31
import Derived.Test.YtdbpglhdicmhhaaGreatDoorMBk10
set_option linter.unusedVariables false
set_option linter.unusedSimpArgs false
section
namespace Go.Proofs.YtdbpglhdicmhhaaGreatDoor.Hof
open Go.RowKit Go.Shelf Go.Proofs.YtdbpglhdicmhhaaGreatDoorW.PrintWords Go.Proofs.YtdbpglhdicmhhaaGreatDoorW.PrintLast Go.Proofs.YtdbpglhdicmhhaaGreatDoorW.PrintMore Hctx
open Go.Proofs.YtdbpglhdicmhhaaGreatDoor.GA
def funcW : List UInt8:=[102,117,110,99]
def tableW : List UInt8:=[116,97,98,108,101]
def isW (w : ByteArray) (l : List UInt8) : Bool:=w.data.toList == l
def St.read (s : St) (ws : List ByteArray) : St:=match ws with
 | [] => s
 | w :: r =>
  if isW w funcW then St.fn { s with cases:=false } (w :: r)
  else if isW w tableW then St.table { s with cases:=true } (w :: r)
  else if s.cases && (isW w sendW || isW w recvW) then ((s.pick (isW w sendW) r).1.bad (s.pick (isW w sendW) r).2 s.now)
  else if (w :: r).length = 1 ∧ Lib.hasSuffix w.data.toList [58] = true then
   (St.mark { s with cases:=false } ⟨(Lib.trimSuffix w.data.toList [58]).toArray⟩).1.bad (St.mark { s with cases:=false } ⟨(Lib.trimSuffix w.data.toList [58]).toArray⟩).2 s.now
  else (St.instr { s with cases:=false } (w :: r)).1.bad (St.instr { s with cases:=false } (w :: r)).2 s.now
theorem pick_now (s : St) (b : Bool) (r : List ByteArray) : (s.pick b r).1.now = s.now:=by
 unfold St.pick
 repeat' split
 all_goals rfl
theorem mark_now (s : St) (b : ByteArray) : (s.mark b).1.now = s.now:=by
 unfold St.mark
 split
 ·rfl
 ·split
  ·rfl
  ·split <;> rfl
theorem fin_now (s : St) (a : Nat) (e : Int) (i : List Int) : (s.fin a e i).1.now = s.now:=by
 unfold St.fin
 split
 ·rfl
 ·split <;> rfl
theorem imm_now (s : St) (a : Nat) (op e : Int) (abc : List Int) (r : List ByteArray) : (s.imm a op e abc r).1.now = s.now:=by
 unfold St.imm
 split
 ·exact fin_now ..
 ·dsimp only
  split
  ·exact fin_now ..
  ·split
   ·rfl
   ·exact fin_now ..
theorem regs_now (s : St) (a : Nat) (op : Int) (r : List ByteArray) : (s.regs a op r).1.now = s.now:=by
 unfold St.regs
 dsimp only
 repeat' split
 all_goals first | rfl | exact imm_now ..
theorem room_now (s : St) (op : Int) : (s.room op).now = s.now:=by
 unfold St.room
 split <;> rfl
theorem instr_now (s : St) (ws : List ByteArray) : (s.instr ws).1.now = s.now:=by
 unfold St.instr
 split
 ·rfl
 ·split
  ·rfl
  ·rw [regs_now,room_now]
theorem trim_size (s : ByteArray) (h : s.size ≤ 262144) : (⟨(Lib.trimSuffix s.data.toList [58]).toArray⟩ : ByteArray).size ≤ 262144:=by
 show (Lib.trimSuffix s.data.toList [58]).toArray.size ≤ 262144
 rw [List.size_toArray]
 unfold Lib.trimSuffix
 have h0 : s.data.toList.length ≤ 262144:=by rw [Array.length_toList]; exact h
 split
 ·rw [List.length_take]; omega
 ·exact h0
structure Fine (s : St) : Prop where
 inv : Inv s
 tabs : s.cases = true → s.tabs ≠ []
section
variable {k : Nat} {w0 W : World} {gr gw : Nat} {l : List (Nat × Array Value × TypeId)} {h : Hd} {s : St} {n c : Nat} {s0 : ByteArray} {r : List ByteArray}
set_option maxHeartbeats 8000000 in
set_option maxRecDepth 100000 in
theorem read_func_t (M0 : RdM k w0 W gr l h s) (S : Std w0) (hk : k < 262144) (L : Line l gw n c (s0 :: r)) (hw : s0.data.toList = funcW) (hc : s.cases = true) :
  Calls Tryz.prog 24 #[.pointer (some ⟨gr,0,none⟩),.slice (some ⟨gw,0,none⟩) n c] W fun z w' => z = .returned (.tuple #[]) ∧ ∃ h',RdM (k + 1) w0 w' gr l h' (St.fn { s with cases:=false } (s0 :: r)):=by
 have SS:=Lib.hid S
 have HK:=Lib.hid hk
 have HL:=Lib.hid L
 have hcap : n ≤ c:=L.cap
 have hn : r.length + 1 = n:=by have:=L.len; rw [List.length_cons] at this; exact this
 have hpos : 0 < n:=by omega
 have hposi : (0 : Int) < (n : Int):=by omega
 have hsz:=L.small s0 List.mem_cons_self
 obtain ⟨vc,vf,vt,vi,vo,vu,gf,gt,gl,of,ot,ol,vs⟩:=h
 have x8 : W.cell? ⟨gr,8,none⟩ = some (.bool s.cases):=rcell M0.mem 8 rfl
 have x0:=M0.word L (j:=0) rfl
 have HFW:=Lib.hid M0.few
 have HSY:=Lib.hid M0.says
 have HLN:=Lib.hid M0.len
 have e0 : (s0.toList == [115,101,110,100]) = false:=by rw [ByteArray.toList_eq,hw]; rfl
 have e1 : (s0.toList == [114,101,99,118]) = false:=by rw [ByteArray.toList_eq,hw]; rfl
 have e2 : (s0.toList == [116,97,98,108,101]) = false:=by rw [ByteArray.toList_eq,hw]; rfl
 have e3 : (s0.toList == [102,117,110,99]) = true:=by rw [ByteArray.toList_eq,hw]; rfl
 have e4 : s0.toList = [102,117,110,99]:=by rw [ByteArray.toList_eq]; exact hw
 rw [hc] at x8
 have M:=Aside0.mk M0
 clear M0 S hk L hn hw hc
 go_enter Tryz.func24,Tryz.ntmps24
 go_wp2_with (first
  | ((with_reducible refine gate_store (t:=4) (p:=30) rfl ?_); refine fS (Aside0.mk M.out.mem) 4 (.tmp 30) 0 8 (.bool false) (rcells vc vf vt vi gf gt gl vo false s.idle vu s.wrong s.line s.now) ?_ rfl rfl rfl rfl; clear M x8 x0; intro W2 M2_; have M2:=Aside0.mk (RdM.mk (s:={ s with cases:=false }) (h:=⟨vc,vf,vt,vi,vo,vu,gf,gt,gl,of,ot,ol,vs⟩) M2_.out (HFW.out.like) ⟨HSY.out.f,HSY.out.t,HSY.out.l⟩ HLN.out); clear M2_; have x0:=M2.out.word HL.out (j:=0) rfl))
 refine (fn_calls M2.out SS.out HK.out HL.out).mono ?_
 rintro e w3 ⟨rfl,h',M3⟩
 have M4:=Aside0.mk M3
 clear M3 M2 x0
 go_wp2
 go_returns
 exact ⟨rfl,h',M4.out⟩
set_option maxHeartbeats 8000000 in
set_option maxRecDepth 100000 in
theorem read_func_f (M0 : RdM k w0 W gr l h s) (S : Std w0) (hk : k < 262144) (L : Line l gw n c (s0 :: r)) (hw : s0.data.toList = funcW) (hc : s.cases = false) :
  Calls Tryz.prog 24 #[.pointer (some ⟨gr,0,none⟩),.slice (some ⟨gw,0,none⟩) n c] W fun z w' => z = .returned (.tuple #[]) ∧ ∃ h',RdM (k + 1) w0 w' gr l h' (St.fn { s with cases:=false } (s0 :: r)):=by
 have SS:=Lib.hid S
 have HK:=Lib.hid hk
 have HL:=Lib.hid L
 have hcap : n ≤ c:=L.cap
 have hn : r.length + 1 = n:=by have:=L.len; rw [List.length_cons] at this; exact this
 have hpos : 0 < n:=by omega
 have hposi : (0 : Int) < (n : Int):=by omega
 have hsz:=L.small s0 List.mem_cons_self
 obtain ⟨vc,vf,vt,vi,vo,vu,gf,gt,gl,of,ot,ol,vs⟩:=h
 have x8 : W.cell? ⟨gr,8,none⟩ = some (.bool s.cases):=rcell M0.mem 8 rfl
 have x0:=M0.word L (j:=0) rfl
 have HFW:=Lib.hid M0.few
 have HSY:=Lib.hid M0.says
 have HLN:=Lib.hid M0.len
 have e0 : (s0.toList == [115,101,110,100]) = false:=by rw [ByteArray.toList_eq,hw]; rfl
 have e1 : (s0.toList == [114,101,99,118]) = false:=by rw [ByteArray.toList_eq,hw]; rfl
 have e2 : (s0.toList == [116,97,98,108,101]) = false:=by rw [ByteArray.toList_eq,hw]; rfl
 have e3 : (s0.toList == [102,117,110,99]) = true:=by rw [ByteArray.toList_eq,hw]; rfl
 have e4 : s0.toList = [102,117,110,99]:=by rw [ByteArray.toList_eq]; exact hw
 rw [hc] at x8
 have M:=Aside0.mk M0
 clear M0 S hk L hn hw hc
 go_enter Tryz.func24,Tryz.ntmps24
 go_wp2_with (first
  | ((with_reducible refine gate_store (t:=4) (p:=30) rfl ?_); refine fS (Aside0.mk M.out.mem) 4 (.tmp 30) 0 8 (.bool false) (rcells vc vf vt vi gf gt gl vo false s.idle vu s.wrong s.line s.now) ?_ rfl rfl rfl rfl; clear M x8 x0; intro W2 M2_; have M2:=Aside0.mk (RdM.mk (s:={ s with cases:=false }) (h:=⟨vc,vf,vt,vi,vo,vu,gf,gt,gl,of,ot,ol,vs⟩) M2_.out (HFW.out.like) ⟨HSY.out.f,HSY.out.t,HSY.out.l⟩ HLN.out); clear M2_; have x0:=M2.out.word HL.out (j:=0) rfl))
 refine (fn_calls M2.out SS.out HK.out HL.out).mono ?_
 rintro e w3 ⟨rfl,h',M3⟩
 have M4:=Aside0.mk M3
 clear M3 M2 x0
 go_wp2
 go_returns
 exact ⟨rfl,h',M4.out⟩
set_option maxHeartbeats 8000000 in
set_option maxRecDepth 100000 in
theorem read_table_t (M0 : RdM k w0 W gr l h s) (S : Std w0) (hk : k < 262144) (L : Line l gw n c (s0 :: r)) (hw : s0.data.toList = tableW) (hc : s.cases = true) :
  Calls Tryz.prog 24 #[.pointer (some ⟨gr,0,none⟩),.slice (some ⟨gw,0,none⟩) n c] W fun z w' => z = .returned (.tuple #[]) ∧ ∃ h',RdM (k + 1) w0 w' gr l h' (St.table { s with cases:=true } (s0 :: r)):=by
 have SS:=Lib.hid S
 have HK:=Lib.hid hk
 have HL:=Lib.hid L
 have hcap : n ≤ c:=L.cap
 have hn : r.length + 1 = n:=by have:=L.len; rw [List.length_cons] at this; exact this
 have hpos : 0 < n:=by omega
 have hposi : (0 : Int) < (n : Int):=by omega
 have hsz:=L.small s0 List.mem_cons_self
 obtain ⟨vc,vf,vt,vi,vo,vu,gf,gt,gl,of,ot,ol,vs⟩:=h
 have x8 : W.cell? ⟨gr,8,none⟩ = some (.bool s.cases):=rcell M0.mem 8 rfl
 have x0:=M0.word L (j:=0) rfl
 have HFW:=Lib.hid M0.few
 have HSY:=Lib.hid M0.says
 have HLN:=Lib.hid M0.len
 have e0 : (s0.toList == [115,101,110,100]) = false:=by rw [ByteArray.toList_eq,hw]; rfl
 have e1 : (s0.toList == [114,101,99,118]) = false:=by rw [ByteArray.toList_eq,hw]; rfl
 have e2 : (s0.toList == [116,97,98,108,101]) = true:=by rw [ByteArray.toList_eq,hw]; rfl
 have e3 : (s0.toList == [102,117,110,99]) = false:=by rw [ByteArray.toList_eq,hw]; rfl
 have e4 : s0.toList = [116,97,98,108,101]:=by rw [ByteArray.toList_eq]; exact hw
 rw [hc] at x8
 have M:=Aside0.mk M0
 clear M0 S hk L hn hw hc
 go_enter Tryz.func24,Tryz.ntmps24
 go_wp2_with (first
  | ((with_reducible refine gate_store (t:=4) (p:=30) rfl ?_); refine fS (Aside0.mk M.out.mem) 4 (.tmp 30) 0 8 (.bool true) (rcells vc vf vt vi gf gt gl vo true s.idle vu s.wrong s.line s.now) ?_ rfl rfl rfl rfl; clear M x8 x0; intro W2 M2_; have M2:=Aside0.mk (RdM.mk (s:={ s with cases:=true }) (h:=⟨vc,vf,vt,vi,vo,vu,gf,gt,gl,of,ot,ol,vs⟩) M2_.out (HFW.out.like) ⟨HSY.out.f,HSY.out.t,HSY.out.l⟩ HLN.out); clear M2_; have x0:=M2.out.word HL.out (j:=0) rfl))
 refine (table_calls M2.out SS.out HK.out HL.out).mono ?_
 rintro e w3 ⟨rfl,h',M3⟩
 have M4:=Aside0.mk M3
 clear M3 M2 x0
 go_wp2
 go_returns
 exact ⟨rfl,h',M4.out⟩
set_option maxHeartbeats 8000000 in
set_option maxRecDepth 100000 in
theorem read_table_f (M0 : RdM k w0 W gr l h s) (S : Std w0) (hk : k < 262144) (L : Line l gw n c (s0 :: r)) (hw : s0.data.toList = tableW) (hc : s.cases = false) :
  Calls Tryz.prog 24 #[.pointer (some ⟨gr,0,none⟩),.slice (some ⟨gw,0,none⟩) n c] W fun z w' => z = .returned (.tuple #[]) ∧ ∃ h',RdM (k + 1) w0 w' gr l h' (St.table { s with cases:=true } (s0 :: r)):=by
 have SS:=Lib.hid S
 have HK:=Lib.hid hk
 have HL:=Lib.hid L
 have hcap : n ≤ c:=L.cap
 have hn : r.length + 1 = n:=by have:=L.len; rw [List.length_cons] at this; exact this
 have hpos : 0 < n:=by omega
 have hposi : (0 : Int) < (n : Int):=by omega
 have hsz:=L.small s0 List.mem_cons_self
 obtain ⟨vc,vf,vt,vi,vo,vu,gf,gt,gl,of,ot,ol,vs⟩:=h
 have x8 : W.cell? ⟨gr,8,none⟩ = some (.bool s.cases):=rcell M0.mem 8 rfl
 have x0:=M0.word L (j:=0) rfl
 have HFW:=Lib.hid M0.few
 have HSY:=Lib.hid M0.says
 have HLN:=Lib.hid M0.len
 have e0 : (s0.toList == [115,101,110,100]) = false:=by rw [ByteArray.toList_eq,hw]; rfl
 have e1 : (s0.toList == [114,101,99,118]) = false:=by rw [ByteArray.toList_eq,hw]; rfl
 have e2 : (s0.toList == [116,97,98,108,101]) = true:=by rw [ByteArray.toList_eq,hw]; rfl
 have e3 : (s0.toList == [102,117,110,99]) = false:=by rw [ByteArray.toList_eq,hw]; rfl
 have e4 : s0.toList = [116,97,98,108,101]:=by rw [ByteArray.toList_eq]; exact hw
 rw [hc] at x8
 have M:=Aside0.mk M0
 clear M0 S hk L hn hw hc
 go_enter Tryz.func24,Tryz.ntmps24
 go_wp2_with (first
  | ((with_reducible refine gate_store (t:=4) (p:=30) rfl ?_); refine fS (Aside0.mk M.out.mem) 4 (.tmp 30) 0 8 (.bool true) (rcells vc vf vt vi gf gt gl vo true s.idle vu s.wrong s.line s.now) ?_ rfl rfl rfl rfl; clear M x8 x0; intro W2 M2_; have M2:=Aside0.mk (RdM.mk (s:={ s with cases:=true }) (h:=⟨vc,vf,vt,vi,vo,vu,gf,gt,gl,of,ot,ol,vs⟩) M2_.out (HFW.out.like) ⟨HSY.out.f,HSY.out.t,HSY.out.l⟩ HLN.out); clear M2_; have x0:=M2.out.word HL.out (j:=0) rfl))
 refine (table_calls M2.out SS.out HK.out HL.out).mono ?_
 rintro e w3 ⟨rfl,h',M3⟩
 have M4:=Aside0.mk M3
 clear M3 M2 x0
 go_wp2
 go_returns
 exact ⟨rfl,h',M4.out⟩
set_option maxHeartbeats 8000000 in
set_option maxRecDepth 100000 in
theorem read_send (M0 : RdM k w0 W gr l h s) (S : Std w0) (hk : k < 262144) (L : Line l gw n c (s0 :: r)) (hw : s0.data.toList = sendW) (hc : s.cases = true) (ht : s.tabs ≠ []) :
  Calls Tryz.prog 24 #[.pointer (some ⟨gr,0,none⟩),.slice (some ⟨gw,0,none⟩) n c] W fun z w' => z = .returned (.tuple #[]) ∧ ∃ h',RdM (k + 1) w0 w' gr l h' ((St.pick { s with cases:=true } true r).1.bad (St.pick { s with cases:=true } true r).2 s.now):=by
 have SS:=Lib.hid S
 have HK:=Lib.hid hk
 have HL:=Lib.hid L
 have hcap : n ≤ c:=L.cap
 have hn : r.length + 1 = n:=by have:=L.len; rw [List.length_cons] at this; exact this
 have hpos : 0 < n:=by omega
 have hposi : (0 : Int) < (n : Int):=by omega
 have hsz:=L.small s0 List.mem_cons_self
 obtain ⟨vc,vf,vt,vi,vo,vu,gf,gt,gl,of,ot,ol,vs⟩:=h
 have x8 : W.cell? ⟨gr,8,none⟩ = some (.bool s.cases):=rcell M0.mem 8 rfl
 have x0:=M0.word L (j:=0) rfl
 have HFW:=Lib.hid M0.few
 have HSY:=Lib.hid M0.says
 have HLN:=Lib.hid M0.len
 have e0 : (s0.toList == [115,101,110,100]) = true:=by rw [ByteArray.toList_eq,hw]; rfl
 have e1 : (s0.toList == [114,101,99,118]) = false:=by rw [ByteArray.toList_eq,hw]; rfl
 have e2 : (s0.toList == [116,97,98,108,101]) = false:=by rw [ByteArray.toList_eq,hw]; rfl
 have e3 : (s0.toList == [102,117,110,99]) = false:=by rw [ByteArray.toList_eq,hw]; rfl
 have e4 : s0.toList = [115,101,110,100]:=by rw [ByteArray.toList_eq]; exact hw
 rw [hc] at x8
 have HW:=Lib.hid hw
 have HT:=Lib.hid ht
 have M:=Aside0.mk M0
 clear M0 S hk L hn hw hc ht
 go_enter Tryz.func24,Tryz.ntmps24
 go_wp2_with (first
  | ((with_reducible refine gate_store (t:=4) (p:=30) rfl ?_); refine fS (Aside0.mk M.out.mem) 4 (.tmp 30) 0 8 (.bool true) (rcells vc vf vt vi gf gt gl vo true s.idle vu s.wrong s.line s.now) ?_ rfl rfl rfl rfl; clear M x8 x0; intro W2 M2_; have M2:=Aside0.mk (RdM.mk (s:={ s with cases:=true }) (h:=⟨vc,vf,vt,vi,vo,vu,gf,gt,gl,of,ot,ol,vs⟩) M2_.out (HFW.out.like) ⟨HSY.out.f,HSY.out.t,HSY.out.l⟩ HLN.out); clear M2_; have x0:=M2.out.word HL.out (j:=0) rfl))
 refine kStart [] [(⟨gr,13,none⟩,.int .i64 s.now)] (Aside0.mk M2.out.mem) ?_ (fun w4 MD HK0 => ?_)
 ·intro q hq
  simp only [List.mem_cons,List.not_mem_nil,or_false] at hq
  rcases hq with rfl
  exact rcell M2.out.mem 13 rfl
 have MR:=Aside0.mk (RdM.mk (s:={ s with cases:=true }) (h:=⟨vc,vf,vt,vi,vo,vu,gf,gt,gl,of,ot,ol,vs⟩) MD.out (HFW.out.like) ⟨HSY.out.f,HSY.out.t,HSY.out.l⟩ HLN.out)
 clear M2 x0
 refine kP 0 58 (.pointer (some ⟨gr,0,none⟩)) ?_
 simp only [Act.put,sAz,sCz,sCs]
 refine kP 1 59 (.pointer (some ⟨gr,0,none⟩)) ?_
 simp only [Act.put,sAz,sCz,sCs]
 refine kP 2 60 (.slice (some ⟨gw,0,none⟩) n c) ?_
 simp only [Act.put,sAz,sCz,sCs]
 refine kP 4 62 (.pointer (some ⟨gr,0,none⟩)) ?_
 simp only [Act.put,sAz,sCz,sCs]
 refine kP 5 63 (.pointer (some ⟨gr,0,none⟩)) ?_
 simp only [Act.put,sAz,sCz,sCs]
 refine kP 6 64 (.pointer (some ⟨gr,13,none⟩)) ?_
 simp only [Act.put,sAz,sCz,sCs]
 refine kE HK0 7 65 0 ?_
 simp only [Act.put,sAz,sCz,sCs]
 refine kR [3] ?_
 refine kK 3 61 Tryz.func59 #[.pointer (some ⟨gr,0,none⟩),.slice (some ⟨gw,0,none⟩) n c] ((pick_send MR.out SS.out HK.out HL.out HW.out HT.out).mono ?_) AllReadyL.nil
 rintro e1 w5 ⟨rfl,h1,MP⟩
 have MQ:=Aside0.mk MP
 clear MP MD HK0
 have NOW:=Lib.hid ((pick_now { s with cases:=true } true r))
 have x13 : w5.cell? ⟨gr,13,none⟩ = some (.int .i64 s.now):=by have h:=rcell MQ.out.mem 13 rfl; rw [h]; exact congrArg (fun x => some (Value.int .i64 x)) NOW.out
 refine ⟨_,rfl,?_,?_⟩
 ·intro q hq
  simp only [List.mem_cons,List.not_mem_nil,or_false] at hq
  rcases hq with rfl
  exact x13
 simp only [Act.put,sAz,sCz,sCs]
 refine kR [8] ?_
 refine kK 8 66 Tryz.func58 #[.pointer (some ⟨gr,0,none⟩),.int .i64 ((St.pick { s with cases:=true } true r).2),.int .i64 s.now] ?_ AllReadyL.nil
 refine (rbad MQ.out SS.out _ s.now).mono ?_
 rintro e2 w6 ⟨rfl,MB⟩
 have MC:=Aside0.mk MB
 clear MB
 refine ⟨_,rfl,?_,?_⟩
 ·intro q hq
  simp only [List.mem_cons,List.not_mem_nil,or_false] at hq
  have h:=rcell MC.out.mem 13 rfl
  rcases hq with rfl
  rw [h]
  exact congrArg (fun x => some (Value.int .i64 x)) NOW.out
 clear MQ x13
 refine kDone ?_
 go_wp2
 go_returns
 exact ⟨rfl,h1,MC.out⟩
set_option maxHeartbeats 8000000 in
set_option maxRecDepth 100000 in
theorem read_recv (M0 : RdM k w0 W gr l h s) (S : Std w0) (hk : k < 262144) (L : Line l gw n c (s0 :: r)) (hw : s0.data.toList = recvW) (hc : s.cases = true) (ht : s.tabs ≠ []) :
  Calls Tryz.prog 24 #[.pointer (some ⟨gr,0,none⟩),.slice (some ⟨gw,0,none⟩) n c] W fun z w' => z = .returned (.tuple #[]) ∧ ∃ h',RdM (k + 1) w0 w' gr l h' ((St.pick { s with cases:=true } false r).1.bad (St.pick { s with cases:=true } false r).2 s.now):=by
 have SS:=Lib.hid S
 have HK:=Lib.hid hk
 have HL:=Lib.hid L
 have hcap : n ≤ c:=L.cap
 have hn : r.length + 1 = n:=by have:=L.len; rw [List.length_cons] at this; exact this
 have hpos : 0 < n:=by omega
 have hposi : (0 : Int) < (n : Int):=by omega
 have hsz:=L.small s0 List.mem_cons_self
 obtain ⟨vc,vf,vt,vi,vo,vu,gf,gt,gl,of,ot,ol,vs⟩:=h
 have x8 : W.cell? ⟨gr,8,none⟩ = some (.bool s.cases):=rcell M0.mem 8 rfl
 have x0:=M0.word L (j:=0) rfl
 have HFW:=Lib.hid M0.few
 have HSY:=Lib.hid M0.says
 have HLN:=Lib.hid M0.len
 have e0 : (s0.toList == [115,101,110,100]) = false:=by rw [ByteArray.toList_eq,hw]; rfl
 have e1 : (s0.toList == [114,101,99,118]) = true:=by rw [ByteArray.toList_eq,hw]; rfl
 have e2 : (s0.toList == [116,97,98,108,101]) = false:=by rw [ByteArray.toList_eq,hw]; rfl
 have e3 : (s0.toList == [102,117,110,99]) = false:=by rw [ByteArray.toList_eq,hw]; rfl
 have e4 : s0.toList = [114,101,99,118]:=by rw [ByteArray.toList_eq]; exact hw
 rw [hc] at x8
 have HW:=Lib.hid hw
 have HT:=Lib.hid ht
 have M:=Aside0.mk M0
 clear M0 S hk L hn hw hc ht
 go_enter Tryz.func24,Tryz.ntmps24
 go_wp2_with (first
  | ((with_reducible refine gate_store (t:=4) (p:=30) rfl ?_); refine fS (Aside0.mk M.out.mem) 4 (.tmp 30) 0 8 (.bool true) (rcells vc vf vt vi gf gt gl vo true s.idle vu s.wrong s.line s.now) ?_ rfl rfl rfl rfl; clear M x8 x0; intro W2 M2_; have M2:=Aside0.mk (RdM.mk (s:={ s with cases:=true }) (h:=⟨vc,vf,vt,vi,vo,vu,gf,gt,gl,of,ot,ol,vs⟩) M2_.out (HFW.out.like) ⟨HSY.out.f,HSY.out.t,HSY.out.l⟩ HLN.out); clear M2_; have x0:=M2.out.word HL.out (j:=0) rfl))
 refine kStart [] [(⟨gr,13,none⟩,.int .i64 s.now)] (Aside0.mk M2.out.mem) ?_ (fun w4 MD HK0 => ?_)
 ·intro q hq
  simp only [List.mem_cons,List.not_mem_nil,or_false] at hq
  rcases hq with rfl
  exact rcell M2.out.mem 13 rfl
 have MR:=Aside0.mk (RdM.mk (s:={ s with cases:=true }) (h:=⟨vc,vf,vt,vi,vo,vu,gf,gt,gl,of,ot,ol,vs⟩) MD.out (HFW.out.like) ⟨HSY.out.f,HSY.out.t,HSY.out.l⟩ HLN.out)
 clear M2 x0
 refine kP 0 58 (.pointer (some ⟨gr,0,none⟩)) ?_
 simp only [Act.put,sAz,sCz,sCs]
 refine kP 1 59 (.pointer (some ⟨gr,0,none⟩)) ?_
 simp only [Act.put,sAz,sCz,sCs]
 refine kP 2 60 (.slice (some ⟨gw,0,none⟩) n c) ?_
 simp only [Act.put,sAz,sCz,sCs]
 refine kP 4 62 (.pointer (some ⟨gr,0,none⟩)) ?_
 simp only [Act.put,sAz,sCz,sCs]
 refine kP 5 63 (.pointer (some ⟨gr,0,none⟩)) ?_
 simp only [Act.put,sAz,sCz,sCs]
 refine kP 6 64 (.pointer (some ⟨gr,13,none⟩)) ?_
 simp only [Act.put,sAz,sCz,sCs]
 refine kE HK0 7 65 0 ?_
 simp only [Act.put,sAz,sCz,sCs]
 refine kR [3] ?_
 refine kK 3 61 Tryz.func59 #[.pointer (some ⟨gr,0,none⟩),.slice (some ⟨gw,0,none⟩) n c] ((pick_recv MR.out SS.out HK.out HL.out HW.out HT.out).mono ?_) AllReadyL.nil
 rintro e1 w5 ⟨rfl,h1,MP⟩
 have MQ:=Aside0.mk MP
 clear MP MD HK0
 have NOW:=Lib.hid ((pick_now { s with cases:=true } false r))
 have x13 : w5.cell? ⟨gr,13,none⟩ = some (.int .i64 s.now):=by have h:=rcell MQ.out.mem 13 rfl; rw [h]; exact congrArg (fun x => some (Value.int .i64 x)) NOW.out
 refine ⟨_,rfl,?_,?_⟩
 ·intro q hq
  simp only [List.mem_cons,List.not_mem_nil,or_false] at hq
  rcases hq with rfl
  exact x13
 simp only [Act.put,sAz,sCz,sCs]
 refine kR [8] ?_
 refine kK 8 66 Tryz.func58 #[.pointer (some ⟨gr,0,none⟩),.int .i64 ((St.pick { s with cases:=true } false r).2),.int .i64 s.now] ?_ AllReadyL.nil
 refine (rbad MQ.out SS.out _ s.now).mono ?_
 rintro e2 w6 ⟨rfl,MB⟩
 have MC:=Aside0.mk MB
 clear MB
 refine ⟨_,rfl,?_,?_⟩
 ·intro q hq
  simp only [List.mem_cons,List.not_mem_nil,or_false] at hq
  have h:=rcell MC.out.mem 13 rfl
  rcases hq with rfl
  rw [h]
  exact congrArg (fun x => some (Value.int .i64 x)) NOW.out
 clear MQ x13
 refine kDone ?_
 go_wp2
 go_returns
 exact ⟨rfl,h1,MC.out⟩
set_option maxHeartbeats 8000000 in
set_option maxRecDepth 100000 in
theorem read_mark_nt (M0 : RdM k w0 W gr l h s) (S : Std w0) (hk : k < 262144) (L : Line l gw n c (s0 :: r)) (hS : s0.data.toList ≠ sendW) (hR : s0.data.toList ≠ recvW) (hT : s0.data.toList ≠ tableW) (hF : s0.data.toList ≠ funcW) (hc : s.cases = true) (h1 : n = 1) (hsf : Lib.hasSuffix s0.data.toList [58] = true) :
  Calls Tryz.prog 24 #[.pointer (some ⟨gr,0,none⟩),.slice (some ⟨gw,0,none⟩) n c] W fun z w' => z = .returned (.tuple #[]) ∧ ∃ h',RdM (k + 1) w0 w' gr l h' ((St.mark { s with cases:=false } ⟨(Lib.trimSuffix s0.data.toList [58]).toArray⟩).1.bad (St.mark { s with cases:=false } ⟨(Lib.trimSuffix s0.data.toList [58]).toArray⟩).2 s.now):=by
 have SS:=Lib.hid S
 have HK:=Lib.hid hk
 have HL:=Lib.hid L
 have hcap : n ≤ c:=L.cap
 have hn : r.length + 1 = n:=by have:=L.len; rw [List.length_cons] at this; exact this
 have hpos : 0 < n:=by omega
 have hposi : (0 : Int) < (n : Int):=by omega
 have hsz:=L.small s0 List.mem_cons_self
 obtain ⟨vc,vf,vt,vi,vo,vu,gf,gt,gl,of,ot,ol,vs⟩:=h
 have x8 : W.cell? ⟨gr,8,none⟩ = some (.bool s.cases):=rcell M0.mem 8 rfl
 have x0:=M0.word L (j:=0) rfl
 have HFW:=Lib.hid M0.few
 have HSY:=Lib.hid M0.says
 have HLN:=Lib.hid M0.len
 have e0 : (s0.toList == [115,101,110,100]) = false:=by rw [ByteArray.toList_eq]; exact beq_eq_false_iff_ne.mpr hS
 have f0 : (s0.toList = [115,101,110,100]) = False:=eq_false (by rw [ByteArray.toList_eq]; exact hS)
 have e1 : (s0.toList == [114,101,99,118]) = false:=by rw [ByteArray.toList_eq]; exact beq_eq_false_iff_ne.mpr hR
 have f1 : (s0.toList = [114,101,99,118]) = False:=eq_false (by rw [ByteArray.toList_eq]; exact hR)
 have e2 : (s0.toList == [116,97,98,108,101]) = false:=by rw [ByteArray.toList_eq]; exact beq_eq_false_iff_ne.mpr hT
 have f2 : (s0.toList = [116,97,98,108,101]) = False:=eq_false (by rw [ByteArray.toList_eq]; exact hT)
 have e3 : (s0.toList == [102,117,110,99]) = false:=by rw [ByteArray.toList_eq]; exact beq_eq_false_iff_ne.mpr hF
 have f3 : (s0.toList = [102,117,110,99]) = False:=eq_false (by rw [ByteArray.toList_eq]; exact hF)
 rw [hc] at x8
 have HSZ:=Lib.hid (show s0.size ≤ 9223372036854775807 by omega)
 have HSUF:=Lib.hid (fun W => Tryz.strings_HasSuffix s0 ⟨#[58]⟩ W HSZ.out)
 subst h1
 have hsf2:=hsf
 rw [show ([58] : List UInt8) = (⟨#[58]⟩ : ByteArray).data.toList from rfl] at hsf2
 rw [hsf2] at HSUF
 have HTS:=Lib.hid (trim_size s0 hsz)
 have M:=Aside0.mk M0
 clear M0 S hk L hn hS hR hT hF hc hsf hsf2
 go_enter Tryz.func24,Tryz.ntmps24
 go_wp2_with (first
  | ((with_reducible refine gate_store (t:=4) (p:=30) rfl ?_); refine fS (Aside0.mk M.out.mem) 4 (.tmp 30) 0 8 (.bool false) (rcells vc vf vt vi gf gt gl vo false s.idle vu s.wrong s.line s.now) ?_ rfl rfl rfl rfl; clear M x8 x0; intro W2 M2_; have M2:=Aside0.mk (RdM.mk (s:={ s with cases:=false }) (h:=⟨vc,vf,vt,vi,vo,vu,gf,gt,gl,of,ot,ol,vs⟩) M2_.out (HFW.out.like) ⟨HSY.out.f,HSY.out.t,HSY.out.l⟩ HLN.out); clear M2_; have x0:=M2.out.word HL.out (j:=0) rfl) | (go_at_call 60; refine (HSUF.out _).mono ?_; rintro e2 w3 ⟨rfl,rfl⟩))
 refine kStart [] [(⟨gr,13,none⟩,.int .i64 s.now),(⟨gw,0,none⟩,.string s0)] (Aside0.mk M2.out.mem) ?_ (fun w4 MD HK0 => ?_)
 ·intro q hq
  simp only [List.mem_cons,List.not_mem_nil,or_false] at hq
  rcases hq with rfl | rfl
  ·exact rcell M2.out.mem 13 rfl
  ·exact x0
 have MR:=Aside0.mk (RdM.mk (s:={ s with cases:=false }) (h:=⟨vc,vf,vt,vi,vo,vu,gf,gt,gl,of,ot,ol,vs⟩) MD.out (HFW.out.like) ⟨HSY.out.f,HSY.out.t,HSY.out.l⟩ HLN.out)
 clear M2 x0
 refine kP 0 77 (.pointer (some ⟨gr,0,none⟩)) ?_
 simp only [Act.put,sAz,sCz,sCs]
 refine kP 1 78 (.pointer (some ⟨gr,0,none⟩)) ?_
 simp only [Act.put,sAz,sCz,sCs]
 refine kP 2 79 (.slice (some ⟨gw,0,none⟩) 1 c) ?_
 simp only [Act.put,sAz,sCz,sCs]
 refine kP 3 80 (.pointer (some ⟨gw,0,none⟩)) ?_
 simp only [Act.put,sAz,sCz,sCs]
 refine kE HK0 4 81 1 ?_
 simp only [Act.put,sAz,sCz,sCs]
 refine kP 7 84 (.pointer (some ⟨gr,0,none⟩)) ?_
 simp only [Act.put,sAz,sCz,sCs]
 refine kP 8 85 (.pointer (some ⟨gr,0,none⟩)) ?_
 simp only [Act.put,sAz,sCz,sCs]
 refine kP 9 86 (.pointer (some ⟨gr,13,none⟩)) ?_
 simp only [Act.put,sAz,sCz,sCs]
 refine kE HK0 10 87 0 ?_
 simp only [Act.put,sAz,sCz,sCs]
 refine kR [5] ?_
 refine kK 5 82 Tryz.func62 #[.string s0,.string ⟨#[58]⟩] ((Tryz.strings_TrimSuffix s0 ⟨#[58]⟩ _ HSZ.out).mono ?_) AllReadyL.nil
 rintro e0 w5 ⟨rfl,rfl⟩
 refine ⟨_,rfl,HK0.out,?_⟩
 simp only [Act.put,sAz,sCz,sCs]
 refine kR [6] ?_
 refine kK 6 83 Tryz.func61 #[.pointer (some ⟨gr,0,none⟩),.string ⟨(Lib.trimSuffix s0.data.toList [58]).toArray⟩] ((mark_calls MR.out SS.out HK.out HTS.out).mono ?_) AllReadyL.nil
 rintro e1 w5 ⟨rfl,h1,MP⟩
 have MQ:=Aside0.mk MP
 clear MP MD HK0
 have NOW:=Lib.hid ((mark_now { s with cases:=false } ⟨(Lib.trimSuffix s0.data.toList [58]).toArray⟩))
 have x13 : w5.cell? ⟨gr,13,none⟩ = some (.int .i64 s.now):=by have h:=rcell MQ.out.mem 13 rfl; rw [h]; exact congrArg (fun x => some (Value.int .i64 x)) NOW.out
 refine ⟨_,rfl,?_,?_⟩
 ·intro q hq
  simp only [List.mem_cons,List.not_mem_nil,or_false] at hq
  have xw:=MQ.out.word HL.out (j:=0) rfl
  rcases hq with rfl | rfl
  ·exact x13
  ·exact xw
 simp only [Act.put,sAz,sCz,sCs]
 refine kR [11] ?_
 refine kK 11 88 Tryz.func58 #[.pointer (some ⟨gr,0,none⟩),.int .i64 ((St.mark { s with cases:=false } ⟨(Lib.trimSuffix s0.data.toList [58]).toArray⟩).2),.int .i64 s.now] ?_ AllReadyL.nil
 refine (rbad MQ.out SS.out _ s.now).mono ?_
 rintro e2 w6 ⟨rfl,MB⟩
 have MC:=Aside0.mk MB
 clear MB
 refine ⟨_,rfl,?_,?_⟩
 ·intro q hq
  simp only [List.mem_cons,List.not_mem_nil,or_false] at hq
  have h:=rcell MC.out.mem 13 rfl
  have xw:=MC.out.word HL.out (j:=0) rfl
  rcases hq with rfl | rfl
  ·rw [h]
   exact congrArg (fun x => some (Value.int .i64 x)) NOW.out
  ·exact xw
 clear MQ x13
 refine kDone ?_
 go_wp2
 go_returns
 exact ⟨rfl,h1,MC.out⟩
set_option maxHeartbeats 8000000 in
set_option maxRecDepth 100000 in
theorem read_instr_nt1 (M0 : RdM k w0 W gr l h s) (S : Std w0) (hk : k < 262144) (L : Line l gw n c (s0 :: r)) (hS : s0.data.toList ≠ sendW) (hR : s0.data.toList ≠ recvW) (hT : s0.data.toList ≠ tableW) (hF : s0.data.toList ≠ funcW) (hc : s.cases = true) (hi : Inv s) (h1 : n = 1) (hsf : Lib.hasSuffix s0.data.toList [58] = false) :
  Calls Tryz.prog 24 #[.pointer (some ⟨gr,0,none⟩),.slice (some ⟨gw,0,none⟩) n c] W fun z w' => z = .returned (.tuple #[]) ∧ ∃ h',RdM (k + 1) w0 w' gr l h' ((St.instr { s with cases:=false } (s0 :: r)).1.bad (St.instr { s with cases:=false } (s0 :: r)).2 s.now):=by
 have SS:=Lib.hid S
 have HK:=Lib.hid hk
 have HL:=Lib.hid L
 have hcap : n ≤ c:=L.cap
 have hn : r.length + 1 = n:=by have:=L.len; rw [List.length_cons] at this; exact this
 have hpos : 0 < n:=by omega
 have hposi : (0 : Int) < (n : Int):=by omega
 have hsz:=L.small s0 List.mem_cons_self
 obtain ⟨vc,vf,vt,vi,vo,vu,gf,gt,gl,of,ot,ol,vs⟩:=h
 have x8 : W.cell? ⟨gr,8,none⟩ = some (.bool s.cases):=rcell M0.mem 8 rfl
 have x0:=M0.word L (j:=0) rfl
 have HFW:=Lib.hid M0.few
 have HSY:=Lib.hid M0.says
 have HLN:=Lib.hid M0.len
 have e0 : (s0.toList == [115,101,110,100]) = false:=by rw [ByteArray.toList_eq]; exact beq_eq_false_iff_ne.mpr hS
 have f0 : (s0.toList = [115,101,110,100]) = False:=eq_false (by rw [ByteArray.toList_eq]; exact hS)
 have e1 : (s0.toList == [114,101,99,118]) = false:=by rw [ByteArray.toList_eq]; exact beq_eq_false_iff_ne.mpr hR
 have f1 : (s0.toList = [114,101,99,118]) = False:=eq_false (by rw [ByteArray.toList_eq]; exact hR)
 have e2 : (s0.toList == [116,97,98,108,101]) = false:=by rw [ByteArray.toList_eq]; exact beq_eq_false_iff_ne.mpr hT
 have f2 : (s0.toList = [116,97,98,108,101]) = False:=eq_false (by rw [ByteArray.toList_eq]; exact hT)
 have e3 : (s0.toList == [102,117,110,99]) = false:=by rw [ByteArray.toList_eq]; exact beq_eq_false_iff_ne.mpr hF
 have f3 : (s0.toList = [102,117,110,99]) = False:=eq_false (by rw [ByteArray.toList_eq]; exact hF)
 rw [hc] at x8
 have HSZ:=Lib.hid (show s0.size ≤ 9223372036854775807 by omega)
 have HSUF:=Lib.hid (fun W => Tryz.strings_HasSuffix s0 ⟨#[58]⟩ W HSZ.out)
 have HI:=Lib.hid (show Inv { s with cases:=false } from hi)
 subst h1
 have hsf2:=hsf
 rw [show ([58] : List UInt8) = (⟨#[58]⟩ : ByteArray).data.toList from rfl] at hsf2
 rw [hsf2] at HSUF
 have M:=Aside0.mk M0
 clear M0 S hk L hn hS hR hT hF hc hsf hsf2 hi
 go_enter Tryz.func24,Tryz.ntmps24
 go_wp2_with (first
  | ((with_reducible refine gate_store (t:=4) (p:=30) rfl ?_); refine fS (Aside0.mk M.out.mem) 4 (.tmp 30) 0 8 (.bool false) (rcells vc vf vt vi gf gt gl vo false s.idle vu s.wrong s.line s.now) ?_ rfl rfl rfl rfl; clear M x8 x0; intro W2 M2_; have M2:=Aside0.mk (RdM.mk (s:={ s with cases:=false }) (h:=⟨vc,vf,vt,vi,vo,vu,gf,gt,gl,of,ot,ol,vs⟩) M2_.out (HFW.out.like) ⟨HSY.out.f,HSY.out.t,HSY.out.l⟩ HLN.out); clear M2_; have x0:=M2.out.word HL.out (j:=0) rfl) | (go_at_call 60; refine (HSUF.out _).mono ?_; rintro e2 w3 ⟨rfl,rfl⟩))
 refine kStart [] [(⟨gr,13,none⟩,.int .i64 s.now)] (Aside0.mk M2.out.mem) ?_ (fun w4 MD HK0 => ?_)
 ·intro q hq
  simp only [List.mem_cons,List.not_mem_nil,or_false] at hq
  rcases hq with rfl
  exact rcell M2.out.mem 13 rfl
 have MR:=Aside0.mk (RdM.mk (s:={ s with cases:=false }) (h:=⟨vc,vf,vt,vi,vo,vu,gf,gt,gl,of,ot,ol,vs⟩) MD.out (HFW.out.like) ⟨HSY.out.f,HSY.out.t,HSY.out.l⟩ HLN.out)
 clear M2 x0
 refine kP 0 31 (.pointer (some ⟨gr,0,none⟩)) ?_
 simp only [Act.put,sAz,sCz,sCs]
 refine kP 1 32 (.pointer (some ⟨gr,0,none⟩)) ?_
 simp only [Act.put,sAz,sCz,sCs]
 refine kP 2 33 (.slice (some ⟨gw,0,none⟩) 1 c) ?_
 simp only [Act.put,sAz,sCz,sCs]
 refine kP 4 35 (.pointer (some ⟨gr,0,none⟩)) ?_
 simp only [Act.put,sAz,sCz,sCs]
 refine kP 5 36 (.pointer (some ⟨gr,0,none⟩)) ?_
 simp only [Act.put,sAz,sCz,sCs]
 refine kP 6 37 (.pointer (some ⟨gr,13,none⟩)) ?_
 simp only [Act.put,sAz,sCz,sCs]
 refine kE HK0 7 38 0 ?_
 simp only [Act.put,sAz,sCz,sCs]
 refine kR [3] ?_
 refine kK 3 34 Tryz.func63 #[.pointer (some ⟨gr,0,none⟩),.slice (some ⟨gw,0,none⟩) 1 c] ((instr_calls MR.out SS.out HK.out HL.out HI.out).mono ?_) AllReadyL.nil
 rintro e1 w5 ⟨rfl,h1,MP⟩
 have MQ:=Aside0.mk MP
 clear MP MD HK0
 have NOW:=Lib.hid ((instr_now { s with cases:=false } (s0 :: r)))
 have x13 : w5.cell? ⟨gr,13,none⟩ = some (.int .i64 s.now):=by have h:=rcell MQ.out.mem 13 rfl; rw [h]; exact congrArg (fun x => some (Value.int .i64 x)) NOW.out
 refine ⟨_,rfl,?_,?_⟩
 ·intro q hq
  simp only [List.mem_cons,List.not_mem_nil,or_false] at hq
  rcases hq with rfl
  exact x13
 simp only [Act.put,sAz,sCz,sCs]
 refine kR [8] ?_
 refine kK 8 39 Tryz.func58 #[.pointer (some ⟨gr,0,none⟩),.int .i64 ((St.instr { s with cases:=false } (s0 :: r)).2),.int .i64 s.now] ?_ AllReadyL.nil
 refine (rbad MQ.out SS.out _ s.now).mono ?_
 rintro e2 w6 ⟨rfl,MB⟩
 have MC:=Aside0.mk MB
 clear MB
 refine ⟨_,rfl,?_,?_⟩
 ·intro q hq
  simp only [List.mem_cons,List.not_mem_nil,or_false] at hq
  have h:=rcell MC.out.mem 13 rfl
  rcases hq with rfl
  rw [h]
  exact congrArg (fun x => some (Value.int .i64 x)) NOW.out
 clear MQ x13
 refine kDone ?_
 go_wp2
 go_returns
 exact ⟨rfl,h1,MC.out⟩
set_option maxHeartbeats 8000000 in
set_option maxRecDepth 100000 in
theorem read_instr_nt0 (M0 : RdM k w0 W gr l h s) (S : Std w0) (hk : k < 262144) (L : Line l gw n c (s0 :: r)) (hS : s0.data.toList ≠ sendW) (hR : s0.data.toList ≠ recvW) (hT : s0.data.toList ≠ tableW) (hF : s0.data.toList ≠ funcW) (hc : s.cases = true) (hi : Inv s) (h1 : n ≠ 1) :
  Calls Tryz.prog 24 #[.pointer (some ⟨gr,0,none⟩),.slice (some ⟨gw,0,none⟩) n c] W fun z w' => z = .returned (.tuple #[]) ∧ ∃ h',RdM (k + 1) w0 w' gr l h' ((St.instr { s with cases:=false } (s0 :: r)).1.bad (St.instr { s with cases:=false } (s0 :: r)).2 s.now):=by
 have SS:=Lib.hid S
 have HK:=Lib.hid hk
 have HL:=Lib.hid L
 have hcap : n ≤ c:=L.cap
 have hn : r.length + 1 = n:=by have:=L.len; rw [List.length_cons] at this; exact this
 have hpos : 0 < n:=by omega
 have hposi : (0 : Int) < (n : Int):=by omega
 have hsz:=L.small s0 List.mem_cons_self
 obtain ⟨vc,vf,vt,vi,vo,vu,gf,gt,gl,of,ot,ol,vs⟩:=h
 have x8 : W.cell? ⟨gr,8,none⟩ = some (.bool s.cases):=rcell M0.mem 8 rfl
 have x0:=M0.word L (j:=0) rfl
 have HFW:=Lib.hid M0.few
 have HSY:=Lib.hid M0.says
 have HLN:=Lib.hid M0.len
 have e0 : (s0.toList == [115,101,110,100]) = false:=by rw [ByteArray.toList_eq]; exact beq_eq_false_iff_ne.mpr hS
 have f0 : (s0.toList = [115,101,110,100]) = False:=eq_false (by rw [ByteArray.toList_eq]; exact hS)
 have e1 : (s0.toList == [114,101,99,118]) = false:=by rw [ByteArray.toList_eq]; exact beq_eq_false_iff_ne.mpr hR
 have f1 : (s0.toList = [114,101,99,118]) = False:=eq_false (by rw [ByteArray.toList_eq]; exact hR)
 have e2 : (s0.toList == [116,97,98,108,101]) = false:=by rw [ByteArray.toList_eq]; exact beq_eq_false_iff_ne.mpr hT
 have f2 : (s0.toList = [116,97,98,108,101]) = False:=eq_false (by rw [ByteArray.toList_eq]; exact hT)
 have e3 : (s0.toList == [102,117,110,99]) = false:=by rw [ByteArray.toList_eq]; exact beq_eq_false_iff_ne.mpr hF
 have f3 : (s0.toList = [102,117,110,99]) = False:=eq_false (by rw [ByteArray.toList_eq]; exact hF)
 rw [hc] at x8
 have HSZ:=Lib.hid (show s0.size ≤ 9223372036854775807 by omega)
 have HSUF:=Lib.hid (fun W => Tryz.strings_HasSuffix s0 ⟨#[58]⟩ W HSZ.out)
 have HI:=Lib.hid (show Inv { s with cases:=false } from hi)
 have b1 : ((n : Int) == 1) = false:=beq_eq_false_iff_ne.mpr (by omega)
 have M:=Aside0.mk M0
 clear M0 S hk L hn hS hR hT hF hc hi h1
 go_enter Tryz.func24,Tryz.ntmps24
 go_wp2_with (first
  | ((with_reducible refine gate_store (t:=4) (p:=30) rfl ?_); refine fS (Aside0.mk M.out.mem) 4 (.tmp 30) 0 8 (.bool false) (rcells vc vf vt vi gf gt gl vo false s.idle vu s.wrong s.line s.now) ?_ rfl rfl rfl rfl; clear M x8 x0; intro W2 M2_; have M2:=Aside0.mk (RdM.mk (s:={ s with cases:=false }) (h:=⟨vc,vf,vt,vi,vo,vu,gf,gt,gl,of,ot,ol,vs⟩) M2_.out (HFW.out.like) ⟨HSY.out.f,HSY.out.t,HSY.out.l⟩ HLN.out); clear M2_; have x0:=M2.out.word HL.out (j:=0) rfl) | (go_at_call 60; refine (HSUF.out _).mono ?_; rintro e2 w3 ⟨rfl,rfl⟩))
 refine kStart [] [(⟨gr,13,none⟩,.int .i64 s.now)] (Aside0.mk M2.out.mem) ?_ (fun w4 MD HK0 => ?_)
 ·intro q hq
  simp only [List.mem_cons,List.not_mem_nil,or_false] at hq
  rcases hq with rfl
  exact rcell M2.out.mem 13 rfl
 have MR:=Aside0.mk (RdM.mk (s:={ s with cases:=false }) (h:=⟨vc,vf,vt,vi,vo,vu,gf,gt,gl,of,ot,ol,vs⟩) MD.out (HFW.out.like) ⟨HSY.out.f,HSY.out.t,HSY.out.l⟩ HLN.out)
 clear M2 x0
 refine kP 0 31 (.pointer (some ⟨gr,0,none⟩)) ?_
 simp only [Act.put,sAz,sCz,sCs]
 refine kP 1 32 (.pointer (some ⟨gr,0,none⟩)) ?_
 simp only [Act.put,sAz,sCz,sCs]
 refine kP 2 33 (.slice (some ⟨gw,0,none⟩) n c) ?_
 simp only [Act.put,sAz,sCz,sCs]
 refine kP 4 35 (.pointer (some ⟨gr,0,none⟩)) ?_
 simp only [Act.put,sAz,sCz,sCs]
 refine kP 5 36 (.pointer (some ⟨gr,0,none⟩)) ?_
 simp only [Act.put,sAz,sCz,sCs]
 refine kP 6 37 (.pointer (some ⟨gr,13,none⟩)) ?_
 simp only [Act.put,sAz,sCz,sCs]
 refine kE HK0 7 38 0 ?_
 simp only [Act.put,sAz,sCz,sCs]
 refine kR [3] ?_
 refine kK 3 34 Tryz.func63 #[.pointer (some ⟨gr,0,none⟩),.slice (some ⟨gw,0,none⟩) n c] ((instr_calls MR.out SS.out HK.out HL.out HI.out).mono ?_) AllReadyL.nil
 rintro e1 w5 ⟨rfl,h1,MP⟩
 have MQ:=Aside0.mk MP
 clear MP MD HK0
 have NOW:=Lib.hid ((instr_now { s with cases:=false } (s0 :: r)))
 have x13 : w5.cell? ⟨gr,13,none⟩ = some (.int .i64 s.now):=by have h:=rcell MQ.out.mem 13 rfl; rw [h]; exact congrArg (fun x => some (Value.int .i64 x)) NOW.out
 refine ⟨_,rfl,?_,?_⟩
 ·intro q hq
  simp only [List.mem_cons,List.not_mem_nil,or_false] at hq
  rcases hq with rfl
  exact x13
 simp only [Act.put,sAz,sCz,sCs]
 refine kR [8] ?_
 refine kK 8 39 Tryz.func58 #[.pointer (some ⟨gr,0,none⟩),.int .i64 ((St.instr { s with cases:=false } (s0 :: r)).2),.int .i64 s.now] ?_ AllReadyL.nil
 refine (rbad MQ.out SS.out _ s.now).mono ?_
 rintro e2 w6 ⟨rfl,MB⟩
 have MC:=Aside0.mk MB
 clear MB
 refine ⟨_,rfl,?_,?_⟩
 ·intro q hq
  simp only [List.mem_cons,List.not_mem_nil,or_false] at hq
  have h:=rcell MC.out.mem 13 rfl
  rcases hq with rfl
  rw [h]
  exact congrArg (fun x => some (Value.int .i64 x)) NOW.out
 clear MQ x13
 refine kDone ?_
 go_wp2
 go_returns
 exact ⟨rfl,h1,MC.out⟩
set_option maxHeartbeats 8000000 in
set_option maxRecDepth 100000 in
theorem read_mark_nf (M0 : RdM k w0 W gr l h s) (S : Std w0) (hk : k < 262144) (L : Line l gw n c (s0 :: r)) (hS : s0.data.toList ≠ sendW) (hR : s0.data.toList ≠ recvW) (hT : s0.data.toList ≠ tableW) (hF : s0.data.toList ≠ funcW) (hc : s.cases = false) (h1 : n = 1) (hsf : Lib.hasSuffix s0.data.toList [58] = true) :
  Calls Tryz.prog 24 #[.pointer (some ⟨gr,0,none⟩),.slice (some ⟨gw,0,none⟩) n c] W fun z w' => z = .returned (.tuple #[]) ∧ ∃ h',RdM (k + 1) w0 w' gr l h' ((St.mark { s with cases:=false } ⟨(Lib.trimSuffix s0.data.toList [58]).toArray⟩).1.bad (St.mark { s with cases:=false } ⟨(Lib.trimSuffix s0.data.toList [58]).toArray⟩).2 s.now):=by
 have SS:=Lib.hid S
 have HK:=Lib.hid hk
 have HL:=Lib.hid L
 have hcap : n ≤ c:=L.cap
 have hn : r.length + 1 = n:=by have:=L.len; rw [List.length_cons] at this; exact this
 have hpos : 0 < n:=by omega
 have hposi : (0 : Int) < (n : Int):=by omega
 have hsz:=L.small s0 List.mem_cons_self
 obtain ⟨vc,vf,vt,vi,vo,vu,gf,gt,gl,of,ot,ol,vs⟩:=h
 have x8 : W.cell? ⟨gr,8,none⟩ = some (.bool s.cases):=rcell M0.mem 8 rfl
 have x0:=M0.word L (j:=0) rfl
 have HFW:=Lib.hid M0.few
 have HSY:=Lib.hid M0.says
 have HLN:=Lib.hid M0.len
 have e0 : (s0.toList == [115,101,110,100]) = false:=by rw [ByteArray.toList_eq]; exact beq_eq_false_iff_ne.mpr hS
 have f0 : (s0.toList = [115,101,110,100]) = False:=eq_false (by rw [ByteArray.toList_eq]; exact hS)
 have e1 : (s0.toList == [114,101,99,118]) = false:=by rw [ByteArray.toList_eq]; exact beq_eq_false_iff_ne.mpr hR
 have f1 : (s0.toList = [114,101,99,118]) = False:=eq_false (by rw [ByteArray.toList_eq]; exact hR)
 have e2 : (s0.toList == [116,97,98,108,101]) = false:=by rw [ByteArray.toList_eq]; exact beq_eq_false_iff_ne.mpr hT
 have f2 : (s0.toList = [116,97,98,108,101]) = False:=eq_false (by rw [ByteArray.toList_eq]; exact hT)
 have e3 : (s0.toList == [102,117,110,99]) = false:=by rw [ByteArray.toList_eq]; exact beq_eq_false_iff_ne.mpr hF
 have f3 : (s0.toList = [102,117,110,99]) = False:=eq_false (by rw [ByteArray.toList_eq]; exact hF)
 rw [hc] at x8
 have HSZ:=Lib.hid (show s0.size ≤ 9223372036854775807 by omega)
 have HSUF:=Lib.hid (fun W => Tryz.strings_HasSuffix s0 ⟨#[58]⟩ W HSZ.out)
 subst h1
 have hsf2:=hsf
 rw [show ([58] : List UInt8) = (⟨#[58]⟩ : ByteArray).data.toList from rfl] at hsf2
 rw [hsf2] at HSUF
 have HTS:=Lib.hid (trim_size s0 hsz)
 have M:=Aside0.mk M0
 clear M0 S hk L hn hS hR hT hF hc hsf hsf2
 go_enter Tryz.func24,Tryz.ntmps24
 go_wp2_with (first
  | ((with_reducible refine gate_store (t:=4) (p:=30) rfl ?_); refine fS (Aside0.mk M.out.mem) 4 (.tmp 30) 0 8 (.bool false) (rcells vc vf vt vi gf gt gl vo false s.idle vu s.wrong s.line s.now) ?_ rfl rfl rfl rfl; clear M x8 x0; intro W2 M2_; have M2:=Aside0.mk (RdM.mk (s:={ s with cases:=false }) (h:=⟨vc,vf,vt,vi,vo,vu,gf,gt,gl,of,ot,ol,vs⟩) M2_.out (HFW.out.like) ⟨HSY.out.f,HSY.out.t,HSY.out.l⟩ HLN.out); clear M2_; have x0:=M2.out.word HL.out (j:=0) rfl) | (go_at_call 60; refine (HSUF.out _).mono ?_; rintro e2 w3 ⟨rfl,rfl⟩))
 refine kStart [] [(⟨gr,13,none⟩,.int .i64 s.now),(⟨gw,0,none⟩,.string s0)] (Aside0.mk M2.out.mem) ?_ (fun w4 MD HK0 => ?_)
 ·intro q hq
  simp only [List.mem_cons,List.not_mem_nil,or_false] at hq
  rcases hq with rfl | rfl
  ·exact rcell M2.out.mem 13 rfl
  ·exact x0
 have MR:=Aside0.mk (RdM.mk (s:={ s with cases:=false }) (h:=⟨vc,vf,vt,vi,vo,vu,gf,gt,gl,of,ot,ol,vs⟩) MD.out (HFW.out.like) ⟨HSY.out.f,HSY.out.t,HSY.out.l⟩ HLN.out)
 clear M2 x0
 refine kP 0 77 (.pointer (some ⟨gr,0,none⟩)) ?_
 simp only [Act.put,sAz,sCz,sCs]
 refine kP 1 78 (.pointer (some ⟨gr,0,none⟩)) ?_
 simp only [Act.put,sAz,sCz,sCs]
 refine kP 2 79 (.slice (some ⟨gw,0,none⟩) 1 c) ?_
 simp only [Act.put,sAz,sCz,sCs]
 refine kP 3 80 (.pointer (some ⟨gw,0,none⟩)) ?_
 simp only [Act.put,sAz,sCz,sCs]
 refine kE HK0 4 81 1 ?_
 simp only [Act.put,sAz,sCz,sCs]
 refine kP 7 84 (.pointer (some ⟨gr,0,none⟩)) ?_
 simp only [Act.put,sAz,sCz,sCs]
 refine kP 8 85 (.pointer (some ⟨gr,0,none⟩)) ?_
 simp only [Act.put,sAz,sCz,sCs]
 refine kP 9 86 (.pointer (some ⟨gr,13,none⟩)) ?_
 simp only [Act.put,sAz,sCz,sCs]
 refine kE HK0 10 87 0 ?_
 simp only [Act.put,sAz,sCz,sCs]
 refine kR [5] ?_
 refine kK 5 82 Tryz.func62 #[.string s0,.string ⟨#[58]⟩] ((Tryz.strings_TrimSuffix s0 ⟨#[58]⟩ _ HSZ.out).mono ?_) AllReadyL.nil
 rintro e0 w5 ⟨rfl,rfl⟩
 refine ⟨_,rfl,HK0.out,?_⟩
 simp only [Act.put,sAz,sCz,sCs]
 refine kR [6] ?_
 refine kK 6 83 Tryz.func61 #[.pointer (some ⟨gr,0,none⟩),.string ⟨(Lib.trimSuffix s0.data.toList [58]).toArray⟩] ((mark_calls MR.out SS.out HK.out HTS.out).mono ?_) AllReadyL.nil
 rintro e1 w5 ⟨rfl,h1,MP⟩
 have MQ:=Aside0.mk MP
 clear MP MD HK0
 have NOW:=Lib.hid ((mark_now { s with cases:=false } ⟨(Lib.trimSuffix s0.data.toList [58]).toArray⟩))
 have x13 : w5.cell? ⟨gr,13,none⟩ = some (.int .i64 s.now):=by have h:=rcell MQ.out.mem 13 rfl; rw [h]; exact congrArg (fun x => some (Value.int .i64 x)) NOW.out
 refine ⟨_,rfl,?_,?_⟩
 ·intro q hq
  simp only [List.mem_cons,List.not_mem_nil,or_false] at hq
  have xw:=MQ.out.word HL.out (j:=0) rfl
  rcases hq with rfl | rfl
  ·exact x13
  ·exact xw
 simp only [Act.put,sAz,sCz,sCs]
 refine kR [11] ?_
 refine kK 11 88 Tryz.func58 #[.pointer (some ⟨gr,0,none⟩),.int .i64 ((St.mark { s with cases:=false } ⟨(Lib.trimSuffix s0.data.toList [58]).toArray⟩).2),.int .i64 s.now] ?_ AllReadyL.nil
 refine (rbad MQ.out SS.out _ s.now).mono ?_
 rintro e2 w6 ⟨rfl,MB⟩
 have MC:=Aside0.mk MB
 clear MB
 refine ⟨_,rfl,?_,?_⟩
 ·intro q hq
  simp only [List.mem_cons,List.not_mem_nil,or_false] at hq
  have h:=rcell MC.out.mem 13 rfl
  have xw:=MC.out.word HL.out (j:=0) rfl
  rcases hq with rfl | rfl
  ·rw [h]
   exact congrArg (fun x => some (Value.int .i64 x)) NOW.out
  ·exact xw
 clear MQ x13
 refine kDone ?_
 go_wp2
 go_returns
 exact ⟨rfl,h1,MC.out⟩
set_option maxHeartbeats 8000000 in
set_option maxRecDepth 100000 in
theorem read_instr_nf1 (M0 : RdM k w0 W gr l h s) (S : Std w0) (hk : k < 262144) (L : Line l gw n c (s0 :: r)) (hS : s0.data.toList ≠ sendW) (hR : s0.data.toList ≠ recvW) (hT : s0.data.toList ≠ tableW) (hF : s0.data.toList ≠ funcW) (hc : s.cases = false) (hi : Inv s) (h1 : n = 1) (hsf : Lib.hasSuffix s0.data.toList [58] = false) :
  Calls Tryz.prog 24 #[.pointer (some ⟨gr,0,none⟩),.slice (some ⟨gw,0,none⟩) n c] W fun z w' => z = .returned (.tuple #[]) ∧ ∃ h',RdM (k + 1) w0 w' gr l h' ((St.instr { s with cases:=false } (s0 :: r)).1.bad (St.instr { s with cases:=false } (s0 :: r)).2 s.now):=by
 have SS:=Lib.hid S
 have HK:=Lib.hid hk
 have HL:=Lib.hid L
 have hcap : n ≤ c:=L.cap
 have hn : r.length + 1 = n:=by have:=L.len; rw [List.length_cons] at this; exact this
 have hpos : 0 < n:=by omega
 have hposi : (0 : Int) < (n : Int):=by omega
 have hsz:=L.small s0 List.mem_cons_self
 obtain ⟨vc,vf,vt,vi,vo,vu,gf,gt,gl,of,ot,ol,vs⟩:=h
 have x8 : W.cell? ⟨gr,8,none⟩ = some (.bool s.cases):=rcell M0.mem 8 rfl
 have x0:=M0.word L (j:=0) rfl
 have HFW:=Lib.hid M0.few
 have HSY:=Lib.hid M0.says
 have HLN:=Lib.hid M0.len
 have e0 : (s0.toList == [115,101,110,100]) = false:=by rw [ByteArray.toList_eq]; exact beq_eq_false_iff_ne.mpr hS
 have f0 : (s0.toList = [115,101,110,100]) = False:=eq_false (by rw [ByteArray.toList_eq]; exact hS)
 have e1 : (s0.toList == [114,101,99,118]) = false:=by rw [ByteArray.toList_eq]; exact beq_eq_false_iff_ne.mpr hR
 have f1 : (s0.toList = [114,101,99,118]) = False:=eq_false (by rw [ByteArray.toList_eq]; exact hR)
 have e2 : (s0.toList == [116,97,98,108,101]) = false:=by rw [ByteArray.toList_eq]; exact beq_eq_false_iff_ne.mpr hT
 have f2 : (s0.toList = [116,97,98,108,101]) = False:=eq_false (by rw [ByteArray.toList_eq]; exact hT)
 have e3 : (s0.toList == [102,117,110,99]) = false:=by rw [ByteArray.toList_eq]; exact beq_eq_false_iff_ne.mpr hF
 have f3 : (s0.toList = [102,117,110,99]) = False:=eq_false (by rw [ByteArray.toList_eq]; exact hF)
 rw [hc] at x8
 have HSZ:=Lib.hid (show s0.size ≤ 9223372036854775807 by omega)
 have HSUF:=Lib.hid (fun W => Tryz.strings_HasSuffix s0 ⟨#[58]⟩ W HSZ.out)
 have HI:=Lib.hid (show Inv { s with cases:=false } from hi)
 subst h1
 have hsf2:=hsf
 rw [show ([58] : List UInt8) = (⟨#[58]⟩ : ByteArray).data.toList from rfl] at hsf2
 rw [hsf2] at HSUF
 have M:=Aside0.mk M0
 clear M0 S hk L hn hS hR hT hF hc hsf hsf2 hi
 go_enter Tryz.func24,Tryz.ntmps24
 go_wp2_with (first
  | ((with_reducible refine gate_store (t:=4) (p:=30) rfl ?_); refine fS (Aside0.mk M.out.mem) 4 (.tmp 30) 0 8 (.bool false) (rcells vc vf vt vi gf gt gl vo false s.idle vu s.wrong s.line s.now) ?_ rfl rfl rfl rfl; clear M x8 x0; intro W2 M2_; have M2:=Aside0.mk (RdM.mk (s:={ s with cases:=false }) (h:=⟨vc,vf,vt,vi,vo,vu,gf,gt,gl,of,ot,ol,vs⟩) M2_.out (HFW.out.like) ⟨HSY.out.f,HSY.out.t,HSY.out.l⟩ HLN.out); clear M2_; have x0:=M2.out.word HL.out (j:=0) rfl) | (go_at_call 60; refine (HSUF.out _).mono ?_; rintro e2 w3 ⟨rfl,rfl⟩))
 refine kStart [] [(⟨gr,13,none⟩,.int .i64 s.now)] (Aside0.mk M2.out.mem) ?_ (fun w4 MD HK0 => ?_)
 ·intro q hq
  simp only [List.mem_cons,List.not_mem_nil,or_false] at hq
  rcases hq with rfl
  exact rcell M2.out.mem 13 rfl
 have MR:=Aside0.mk (RdM.mk (s:={ s with cases:=false }) (h:=⟨vc,vf,vt,vi,vo,vu,gf,gt,gl,of,ot,ol,vs⟩) MD.out (HFW.out.like) ⟨HSY.out.f,HSY.out.t,HSY.out.l⟩ HLN.out)
 clear M2 x0
 refine kP 0 31 (.pointer (some ⟨gr,0,none⟩)) ?_
 simp only [Act.put,sAz,sCz,sCs]
 refine kP 1 32 (.pointer (some ⟨gr,0,none⟩)) ?_
 simp only [Act.put,sAz,sCz,sCs]
 refine kP 2 33 (.slice (some ⟨gw,0,none⟩) 1 c) ?_
 simp only [Act.put,sAz,sCz,sCs]
 refine kP 4 35 (.pointer (some ⟨gr,0,none⟩)) ?_
 simp only [Act.put,sAz,sCz,sCs]
 refine kP 5 36 (.pointer (some ⟨gr,0,none⟩)) ?_
 simp only [Act.put,sAz,sCz,sCs]
 refine kP 6 37 (.pointer (some ⟨gr,13,none⟩)) ?_
 simp only [Act.put,sAz,sCz,sCs]
 refine kE HK0 7 38 0 ?_
 simp only [Act.put,sAz,sCz,sCs]
 refine kR [3] ?_
 refine kK 3 34 Tryz.func63 #[.pointer (some ⟨gr,0,none⟩),.slice (some ⟨gw,0,none⟩) 1 c] ((instr_calls MR.out SS.out HK.out HL.out HI.out).mono ?_) AllReadyL.nil
 rintro e1 w5 ⟨rfl,h1,MP⟩
 have MQ:=Aside0.mk MP
 clear MP MD HK0
 have NOW:=Lib.hid ((instr_now { s with cases:=false } (s0 :: r)))
 have x13 : w5.cell? ⟨gr,13,none⟩ = some (.int .i64 s.now):=by have h:=rcell MQ.out.mem 13 rfl; rw [h]; exact congrArg (fun x => some (Value.int .i64 x)) NOW.out
 refine ⟨_,rfl,?_,?_⟩
 ·intro q hq
  simp only [List.mem_cons,List.not_mem_nil,or_false] at hq
  rcases hq with rfl
  exact x13
 simp only [Act.put,sAz,sCz,sCs]
 refine kR [8] ?_
 refine kK 8 39 Tryz.func58 #[.pointer (some ⟨gr,0,none⟩),.int .i64 ((St.instr { s with cases:=false } (s0 :: r)).2),.int .i64 s.now] ?_ AllReadyL.nil
 refine (rbad MQ.out SS.out _ s.now).mono ?_
 rintro e2 w6 ⟨rfl,MB⟩
 have MC:=Aside0.mk MB
 clear MB
 refine ⟨_,rfl,?_,?_⟩
 ·intro q hq
  simp only [List.mem_cons,List.not_mem_nil,or_false] at hq
  have h:=rcell MC.out.mem 13 rfl
  rcases hq with rfl
  rw [h]
  exact congrArg (fun x => some (Value.int .i64 x)) NOW.out
 clear MQ x13
 refine kDone ?_
 go_wp2
 go_returns
 exact ⟨rfl,h1,MC.out⟩
set_option maxHeartbeats 8000000 in
set_option maxRecDepth 100000 in
theorem read_instr_nf0 (M0 : RdM k w0 W gr l h s) (S : Std w0) (hk : k < 262144) (L : Line l gw n c (s0 :: r)) (hS : s0.data.toList ≠ sendW) (hR : s0.data.toList ≠ recvW) (hT : s0.data.toList ≠ tableW) (hF : s0.data.toList ≠ funcW) (hc : s.cases = false) (hi : Inv s) (h1 : n ≠ 1) :
  Calls Tryz.prog 24 #[.pointer (some ⟨gr,0,none⟩),.slice (some ⟨gw,0,none⟩) n c] W fun z w' => z = .returned (.tuple #[]) ∧ ∃ h',RdM (k + 1) w0 w' gr l h' ((St.instr { s with cases:=false } (s0 :: r)).1.bad (St.instr { s with cases:=false } (s0 :: r)).2 s.now):=by
 have SS:=Lib.hid S
 have HK:=Lib.hid hk
 have HL:=Lib.hid L
 have hcap : n ≤ c:=L.cap
 have hn : r.length + 1 = n:=by have:=L.len; rw [List.length_cons] at this; exact this
 have hpos : 0 < n:=by omega
 have hposi : (0 : Int) < (n : Int):=by omega
 have hsz:=L.small s0 List.mem_cons_self
 obtain ⟨vc,vf,vt,vi,vo,vu,gf,gt,gl,of,ot,ol,vs⟩:=h
 have x8 : W.cell? ⟨gr,8,none⟩ = some (.bool s.cases):=rcell M0.mem 8 rfl
 have x0:=M0.word L (j:=0) rfl
 have HFW:=Lib.hid M0.few
 have HSY:=Lib.hid M0.says
 have HLN:=Lib.hid M0.len
 have e0 : (s0.toList == [115,101,110,100]) = false:=by rw [ByteArray.toList_eq]; exact beq_eq_false_iff_ne.mpr hS
 have f0 : (s0.toList = [115,101,110,100]) = False:=eq_false (by rw [ByteArray.toList_eq]; exact hS)
 have e1 : (s0.toList == [114,101,99,118]) = false:=by rw [ByteArray.toList_eq]; exact beq_eq_false_iff_ne.mpr hR
 have f1 : (s0.toList = [114,101,99,118]) = False:=eq_false (by rw [ByteArray.toList_eq]; exact hR)
 have e2 : (s0.toList == [116,97,98,108,101]) = false:=by rw [ByteArray.toList_eq]; exact beq_eq_false_iff_ne.mpr hT
 have f2 : (s0.toList = [116,97,98,108,101]) = False:=eq_false (by rw [ByteArray.toList_eq]; exact hT)
 have e3 : (s0.toList == [102,117,110,99]) = false:=by rw [ByteArray.toList_eq]; exact beq_eq_false_iff_ne.mpr hF
 have f3 : (s0.toList = [102,117,110,99]) = False:=eq_false (by rw [ByteArray.toList_eq]; exact hF)
 rw [hc] at x8
 have HSZ:=Lib.hid (show s0.size ≤ 9223372036854775807 by omega)
 have HSUF:=Lib.hid (fun W => Tryz.strings_HasSuffix s0 ⟨#[58]⟩ W HSZ.out)
 have HI:=Lib.hid (show Inv { s with cases:=false } from hi)
 have b1 : ((n : Int) == 1) = false:=beq_eq_false_iff_ne.mpr (by omega)
 have M:=Aside0.mk M0
 clear M0 S hk L hn hS hR hT hF hc hi h1
 go_enter Tryz.func24,Tryz.ntmps24
 go_wp2_with (first
  | ((with_reducible refine gate_store (t:=4) (p:=30) rfl ?_); refine fS (Aside0.mk M.out.mem) 4 (.tmp 30) 0 8 (.bool false) (rcells vc vf vt vi gf gt gl vo false s.idle vu s.wrong s.line s.now) ?_ rfl rfl rfl rfl; clear M x8 x0; intro W2 M2_; have M2:=Aside0.mk (RdM.mk (s:={ s with cases:=false }) (h:=⟨vc,vf,vt,vi,vo,vu,gf,gt,gl,of,ot,ol,vs⟩) M2_.out (HFW.out.like) ⟨HSY.out.f,HSY.out.t,HSY.out.l⟩ HLN.out); clear M2_; have x0:=M2.out.word HL.out (j:=0) rfl) | (go_at_call 60; refine (HSUF.out _).mono ?_; rintro e2 w3 ⟨rfl,rfl⟩))
 refine kStart [] [(⟨gr,13,none⟩,.int .i64 s.now)] (Aside0.mk M2.out.mem) ?_ (fun w4 MD HK0 => ?_)
 ·intro q hq
  simp only [List.mem_cons,List.not_mem_nil,or_false] at hq
  rcases hq with rfl
  exact rcell M2.out.mem 13 rfl
 have MR:=Aside0.mk (RdM.mk (s:={ s with cases:=false }) (h:=⟨vc,vf,vt,vi,vo,vu,gf,gt,gl,of,ot,ol,vs⟩) MD.out (HFW.out.like) ⟨HSY.out.f,HSY.out.t,HSY.out.l⟩ HLN.out)
 clear M2 x0
 refine kP 0 31 (.pointer (some ⟨gr,0,none⟩)) ?_
 simp only [Act.put,sAz,sCz,sCs]
 refine kP 1 32 (.pointer (some ⟨gr,0,none⟩)) ?_
 simp only [Act.put,sAz,sCz,sCs]
 refine kP 2 33 (.slice (some ⟨gw,0,none⟩) n c) ?_
 simp only [Act.put,sAz,sCz,sCs]
 refine kP 4 35 (.pointer (some ⟨gr,0,none⟩)) ?_
 simp only [Act.put,sAz,sCz,sCs]
 refine kP 5 36 (.pointer (some ⟨gr,0,none⟩)) ?_
 simp only [Act.put,sAz,sCz,sCs]
 refine kP 6 37 (.pointer (some ⟨gr,13,none⟩)) ?_
 simp only [Act.put,sAz,sCz,sCs]
 refine kE HK0 7 38 0 ?_
 simp only [Act.put,sAz,sCz,sCs]
 refine kR [3] ?_
 refine kK 3 34 Tryz.func63 #[.pointer (some ⟨gr,0,none⟩),.slice (some ⟨gw,0,none⟩) n c] ((instr_calls MR.out SS.out HK.out HL.out HI.out).mono ?_) AllReadyL.nil
 rintro e1 w5 ⟨rfl,h1,MP⟩
 have MQ:=Aside0.mk MP
 clear MP MD HK0
 have NOW:=Lib.hid ((instr_now { s with cases:=false } (s0 :: r)))
 have x13 : w5.cell? ⟨gr,13,none⟩ = some (.int .i64 s.now):=by have h:=rcell MQ.out.mem 13 rfl; rw [h]; exact congrArg (fun x => some (Value.int .i64 x)) NOW.out
 refine ⟨_,rfl,?_,?_⟩
 ·intro q hq
  simp only [List.mem_cons,List.not_mem_nil,or_false] at hq
  rcases hq with rfl
  exact x13
 simp only [Act.put,sAz,sCz,sCs]
 refine kR [8] ?_
 refine kK 8 39 Tryz.func58 #[.pointer (some ⟨gr,0,none⟩),.int .i64 ((St.instr { s with cases:=false } (s0 :: r)).2),.int .i64 s.now] ?_ AllReadyL.nil
 refine (rbad MQ.out SS.out _ s.now).mono ?_
 rintro e2 w6 ⟨rfl,MB⟩
 have MC:=Aside0.mk MB
 clear MB
 refine ⟨_,rfl,?_,?_⟩
 ·intro q hq
  simp only [List.mem_cons,List.not_mem_nil,or_false] at hq
  have h:=rcell MC.out.mem 13 rfl
  rcases hq with rfl
  rw [h]
  exact congrArg (fun x => some (Value.int .i64 x)) NOW.out
 clear MQ x13
 refine kDone ?_
 go_wp2
 go_returns
 exact ⟨rfl,h1,MC.out⟩
set_option maxHeartbeats 8000000 in
set_option maxRecDepth 100000 in
theorem read_mark_S (M0 : RdM k w0 W gr l h s) (S : Std w0) (hk : k < 262144) (L : Line l gw n c (s0 :: r)) (hw : s0.data.toList = sendW) (hc : s.cases = false) (h1 : n = 1) (hsf : Lib.hasSuffix s0.data.toList [58] = true) :
  Calls Tryz.prog 24 #[.pointer (some ⟨gr,0,none⟩),.slice (some ⟨gw,0,none⟩) n c] W fun z w' => z = .returned (.tuple #[]) ∧ ∃ h',RdM (k + 1) w0 w' gr l h' ((St.mark { s with cases:=false } ⟨(Lib.trimSuffix s0.data.toList [58]).toArray⟩).1.bad (St.mark { s with cases:=false } ⟨(Lib.trimSuffix s0.data.toList [58]).toArray⟩).2 s.now):=by
 have SS:=Lib.hid S
 have HK:=Lib.hid hk
 have HL:=Lib.hid L
 have hcap : n ≤ c:=L.cap
 have hn : r.length + 1 = n:=by have:=L.len; rw [List.length_cons] at this; exact this
 have hpos : 0 < n:=by omega
 have hposi : (0 : Int) < (n : Int):=by omega
 have hsz:=L.small s0 List.mem_cons_self
 obtain ⟨vc,vf,vt,vi,vo,vu,gf,gt,gl,of,ot,ol,vs⟩:=h
 have x8 : W.cell? ⟨gr,8,none⟩ = some (.bool s.cases):=rcell M0.mem 8 rfl
 have x0:=M0.word L (j:=0) rfl
 have HFW:=Lib.hid M0.few
 have HSY:=Lib.hid M0.says
 have HLN:=Lib.hid M0.len
 have e0 : (s0.toList == [115,101,110,100]) = true:=by rw [ByteArray.toList_eq,hw]; rfl
 have e1 : (s0.toList == [114,101,99,118]) = false:=by rw [ByteArray.toList_eq,hw]; rfl
 have e2 : (s0.toList == [116,97,98,108,101]) = false:=by rw [ByteArray.toList_eq,hw]; rfl
 have e3 : (s0.toList == [102,117,110,99]) = false:=by rw [ByteArray.toList_eq,hw]; rfl
 have e4 : s0.toList = [115,101,110,100]:=by rw [ByteArray.toList_eq]; exact hw
 rw [hc] at x8
 have HSZ:=Lib.hid (show s0.size ≤ 9223372036854775807 by omega)
 have HSUF:=Lib.hid (fun W => Tryz.strings_HasSuffix s0 ⟨#[58]⟩ W HSZ.out)
 subst h1
 have hsf2:=hsf
 rw [show ([58] : List UInt8) = (⟨#[58]⟩ : ByteArray).data.toList from rfl] at hsf2
 rw [hsf2] at HSUF
 have HTS:=Lib.hid (trim_size s0 hsz)
 have M:=Aside0.mk M0
 clear M0 S hk L hn hw hc hsf hsf2
 go_enter Tryz.func24,Tryz.ntmps24
 go_wp2_with (first
  | ((with_reducible refine gate_store (t:=4) (p:=30) rfl ?_); refine fS (Aside0.mk M.out.mem) 4 (.tmp 30) 0 8 (.bool false) (rcells vc vf vt vi gf gt gl vo false s.idle vu s.wrong s.line s.now) ?_ rfl rfl rfl rfl; clear M x8 x0; intro W2 M2_; have M2:=Aside0.mk (RdM.mk (s:={ s with cases:=false }) (h:=⟨vc,vf,vt,vi,vo,vu,gf,gt,gl,of,ot,ol,vs⟩) M2_.out (HFW.out.like) ⟨HSY.out.f,HSY.out.t,HSY.out.l⟩ HLN.out); clear M2_; have x0:=M2.out.word HL.out (j:=0) rfl) | (go_at_call 60; refine (HSUF.out _).mono ?_; rintro e2 w3 ⟨rfl,rfl⟩))
 refine kStart [] [(⟨gr,13,none⟩,.int .i64 s.now),(⟨gw,0,none⟩,.string s0)] (Aside0.mk M2.out.mem) ?_ (fun w4 MD HK0 => ?_)
 ·intro q hq
  simp only [List.mem_cons,List.not_mem_nil,or_false] at hq
  rcases hq with rfl | rfl
  ·exact rcell M2.out.mem 13 rfl
  ·exact x0
 have MR:=Aside0.mk (RdM.mk (s:={ s with cases:=false }) (h:=⟨vc,vf,vt,vi,vo,vu,gf,gt,gl,of,ot,ol,vs⟩) MD.out (HFW.out.like) ⟨HSY.out.f,HSY.out.t,HSY.out.l⟩ HLN.out)
 clear M2 x0
 refine kP 0 77 (.pointer (some ⟨gr,0,none⟩)) ?_
 simp only [Act.put,sAz,sCz,sCs]
 refine kP 1 78 (.pointer (some ⟨gr,0,none⟩)) ?_
 simp only [Act.put,sAz,sCz,sCs]
 refine kP 2 79 (.slice (some ⟨gw,0,none⟩) 1 c) ?_
 simp only [Act.put,sAz,sCz,sCs]
 refine kP 3 80 (.pointer (some ⟨gw,0,none⟩)) ?_
 simp only [Act.put,sAz,sCz,sCs]
 refine kE HK0 4 81 1 ?_
 simp only [Act.put,sAz,sCz,sCs]
 refine kP 7 84 (.pointer (some ⟨gr,0,none⟩)) ?_
 simp only [Act.put,sAz,sCz,sCs]
 refine kP 8 85 (.pointer (some ⟨gr,0,none⟩)) ?_
 simp only [Act.put,sAz,sCz,sCs]
 refine kP 9 86 (.pointer (some ⟨gr,13,none⟩)) ?_
 simp only [Act.put,sAz,sCz,sCs]
 refine kE HK0 10 87 0 ?_
 simp only [Act.put,sAz,sCz,sCs]
 refine kR [5] ?_
 refine kK 5 82 Tryz.func62 #[.string s0,.string ⟨#[58]⟩] ((Tryz.strings_TrimSuffix s0 ⟨#[58]⟩ _ HSZ.out).mono ?_) AllReadyL.nil
 rintro e0 w5 ⟨rfl,rfl⟩
 refine ⟨_,rfl,HK0.out,?_⟩
 simp only [Act.put,sAz,sCz,sCs]
 refine kR [6] ?_
 refine kK 6 83 Tryz.func61 #[.pointer (some ⟨gr,0,none⟩),.string ⟨(Lib.trimSuffix s0.data.toList [58]).toArray⟩] ((mark_calls MR.out SS.out HK.out HTS.out).mono ?_) AllReadyL.nil
 rintro e1 w5 ⟨rfl,h1,MP⟩
 have MQ:=Aside0.mk MP
 clear MP MD HK0
 have NOW:=Lib.hid ((mark_now { s with cases:=false } ⟨(Lib.trimSuffix s0.data.toList [58]).toArray⟩))
 have x13 : w5.cell? ⟨gr,13,none⟩ = some (.int .i64 s.now):=by have h:=rcell MQ.out.mem 13 rfl; rw [h]; exact congrArg (fun x => some (Value.int .i64 x)) NOW.out
 refine ⟨_,rfl,?_,?_⟩
 ·intro q hq
  simp only [List.mem_cons,List.not_mem_nil,or_false] at hq
  have xw:=MQ.out.word HL.out (j:=0) rfl
  rcases hq with rfl | rfl
  ·exact x13
  ·exact xw
 simp only [Act.put,sAz,sCz,sCs]
 refine kR [11] ?_
 refine kK 11 88 Tryz.func58 #[.pointer (some ⟨gr,0,none⟩),.int .i64 ((St.mark { s with cases:=false } ⟨(Lib.trimSuffix s0.data.toList [58]).toArray⟩).2),.int .i64 s.now] ?_ AllReadyL.nil
 refine (rbad MQ.out SS.out _ s.now).mono ?_
 rintro e2 w6 ⟨rfl,MB⟩
 have MC:=Aside0.mk MB
 clear MB
 refine ⟨_,rfl,?_,?_⟩
 ·intro q hq
  simp only [List.mem_cons,List.not_mem_nil,or_false] at hq
  have h:=rcell MC.out.mem 13 rfl
  have xw:=MC.out.word HL.out (j:=0) rfl
  rcases hq with rfl | rfl
  ·rw [h]
   exact congrArg (fun x => some (Value.int .i64 x)) NOW.out
  ·exact xw
 clear MQ x13
 refine kDone ?_
 go_wp2
 go_returns
 exact ⟨rfl,h1,MC.out⟩
set_option maxHeartbeats 8000000 in
set_option maxRecDepth 100000 in
theorem read_instr_S1 (M0 : RdM k w0 W gr l h s) (S : Std w0) (hk : k < 262144) (L : Line l gw n c (s0 :: r)) (hw : s0.data.toList = sendW) (hc : s.cases = false) (hi : Inv s) (h1 : n = 1) (hsf : Lib.hasSuffix s0.data.toList [58] = false) :
  Calls Tryz.prog 24 #[.pointer (some ⟨gr,0,none⟩),.slice (some ⟨gw,0,none⟩) n c] W fun z w' => z = .returned (.tuple #[]) ∧ ∃ h',RdM (k + 1) w0 w' gr l h' ((St.instr { s with cases:=false } (s0 :: r)).1.bad (St.instr { s with cases:=false } (s0 :: r)).2 s.now):=by
 have SS:=Lib.hid S
 have HK:=Lib.hid hk
 have HL:=Lib.hid L
 have hcap : n ≤ c:=L.cap
 have hn : r.length + 1 = n:=by have:=L.len; rw [List.length_cons] at this; exact this
 have hpos : 0 < n:=by omega
 have hposi : (0 : Int) < (n : Int):=by omega
 have hsz:=L.small s0 List.mem_cons_self
 obtain ⟨vc,vf,vt,vi,vo,vu,gf,gt,gl,of,ot,ol,vs⟩:=h
 have x8 : W.cell? ⟨gr,8,none⟩ = some (.bool s.cases):=rcell M0.mem 8 rfl
 have x0:=M0.word L (j:=0) rfl
 have HFW:=Lib.hid M0.few
 have HSY:=Lib.hid M0.says
 have HLN:=Lib.hid M0.len
 have e0 : (s0.toList == [115,101,110,100]) = true:=by rw [ByteArray.toList_eq,hw]; rfl
 have e1 : (s0.toList == [114,101,99,118]) = false:=by rw [ByteArray.toList_eq,hw]; rfl
 have e2 : (s0.toList == [116,97,98,108,101]) = false:=by rw [ByteArray.toList_eq,hw]; rfl
 have e3 : (s0.toList == [102,117,110,99]) = false:=by rw [ByteArray.toList_eq,hw]; rfl
 have e4 : s0.toList = [115,101,110,100]:=by rw [ByteArray.toList_eq]; exact hw
 rw [hc] at x8
 have HSZ:=Lib.hid (show s0.size ≤ 9223372036854775807 by omega)
 have HSUF:=Lib.hid (fun W => Tryz.strings_HasSuffix s0 ⟨#[58]⟩ W HSZ.out)
 have HI:=Lib.hid (show Inv { s with cases:=false } from hi)
 subst h1
 have hsf2:=hsf
 rw [show ([58] : List UInt8) = (⟨#[58]⟩ : ByteArray).data.toList from rfl] at hsf2
 rw [hsf2] at HSUF
 have M:=Aside0.mk M0
 clear M0 S hk L hn hw hc hsf hsf2 hi
 go_enter Tryz.func24,Tryz.ntmps24
 go_wp2_with (first
  | ((with_reducible refine gate_store (t:=4) (p:=30) rfl ?_); refine fS (Aside0.mk M.out.mem) 4 (.tmp 30) 0 8 (.bool false) (rcells vc vf vt vi gf gt gl vo false s.idle vu s.wrong s.line s.now) ?_ rfl rfl rfl rfl; clear M x8 x0; intro W2 M2_; have M2:=Aside0.mk (RdM.mk (s:={ s with cases:=false }) (h:=⟨vc,vf,vt,vi,vo,vu,gf,gt,gl,of,ot,ol,vs⟩) M2_.out (HFW.out.like) ⟨HSY.out.f,HSY.out.t,HSY.out.l⟩ HLN.out); clear M2_; have x0:=M2.out.word HL.out (j:=0) rfl) | (go_at_call 60; refine (HSUF.out _).mono ?_; rintro e2 w3 ⟨rfl,rfl⟩))
 refine kStart [] [(⟨gr,13,none⟩,.int .i64 s.now)] (Aside0.mk M2.out.mem) ?_ (fun w4 MD HK0 => ?_)
 ·intro q hq
  simp only [List.mem_cons,List.not_mem_nil,or_false] at hq
  rcases hq with rfl
  exact rcell M2.out.mem 13 rfl
 have MR:=Aside0.mk (RdM.mk (s:={ s with cases:=false }) (h:=⟨vc,vf,vt,vi,vo,vu,gf,gt,gl,of,ot,ol,vs⟩) MD.out (HFW.out.like) ⟨HSY.out.f,HSY.out.t,HSY.out.l⟩ HLN.out)
 clear M2 x0
 refine kP 0 31 (.pointer (some ⟨gr,0,none⟩)) ?_
 simp only [Act.put,sAz,sCz,sCs]
 refine kP 1 32 (.pointer (some ⟨gr,0,none⟩)) ?_
 simp only [Act.put,sAz,sCz,sCs]
 refine kP 2 33 (.slice (some ⟨gw,0,none⟩) 1 c) ?_
 simp only [Act.put,sAz,sCz,sCs]
 refine kP 4 35 (.pointer (some ⟨gr,0,none⟩)) ?_
 simp only [Act.put,sAz,sCz,sCs]
 refine kP 5 36 (.pointer (some ⟨gr,0,none⟩)) ?_
 simp only [Act.put,sAz,sCz,sCs]
 refine kP 6 37 (.pointer (some ⟨gr,13,none⟩)) ?_
 simp only [Act.put,sAz,sCz,sCs]
 refine kE HK0 7 38 0 ?_
 simp only [Act.put,sAz,sCz,sCs]
 refine kR [3] ?_
 refine kK 3 34 Tryz.func63 #[.pointer (some ⟨gr,0,none⟩),.slice (some ⟨gw,0,none⟩) 1 c] ((instr_calls MR.out SS.out HK.out HL.out HI.out).mono ?_) AllReadyL.nil
 rintro e1 w5 ⟨rfl,h1,MP⟩
 have MQ:=Aside0.mk MP
 clear MP MD HK0
 have NOW:=Lib.hid ((instr_now { s with cases:=false } (s0 :: r)))
 have x13 : w5.cell? ⟨gr,13,none⟩ = some (.int .i64 s.now):=by have h:=rcell MQ.out.mem 13 rfl; rw [h]; exact congrArg (fun x => some (Value.int .i64 x)) NOW.out
 refine ⟨_,rfl,?_,?_⟩
 ·intro q hq
  simp only [List.mem_cons,List.not_mem_nil,or_false] at hq
  rcases hq with rfl
  exact x13
 simp only [Act.put,sAz,sCz,sCs]
 refine kR [8] ?_
 refine kK 8 39 Tryz.func58 #[.pointer (some ⟨gr,0,none⟩),.int .i64 ((St.instr { s with cases:=false } (s0 :: r)).2),.int .i64 s.now] ?_ AllReadyL.nil
 refine (rbad MQ.out SS.out _ s.now).mono ?_
 rintro e2 w6 ⟨rfl,MB⟩
 have MC:=Aside0.mk MB
 clear MB
 refine ⟨_,rfl,?_,?_⟩
 ·intro q hq
  simp only [List.mem_cons,List.not_mem_nil,or_false] at hq
  have h:=rcell MC.out.mem 13 rfl
  rcases hq with rfl
  rw [h]
  exact congrArg (fun x => some (Value.int .i64 x)) NOW.out
 clear MQ x13
 refine kDone ?_
 go_wp2
 go_returns
 exact ⟨rfl,h1,MC.out⟩
set_option maxHeartbeats 8000000 in
set_option maxRecDepth 100000 in
theorem read_instr_S0 (M0 : RdM k w0 W gr l h s) (S : Std w0) (hk : k < 262144) (L : Line l gw n c (s0 :: r)) (hw : s0.data.toList = sendW) (hc : s.cases = false) (hi : Inv s) (h1 : n ≠ 1) :
  Calls Tryz.prog 24 #[.pointer (some ⟨gr,0,none⟩),.slice (some ⟨gw,0,none⟩) n c] W fun z w' => z = .returned (.tuple #[]) ∧ ∃ h',RdM (k + 1) w0 w' gr l h' ((St.instr { s with cases:=false } (s0 :: r)).1.bad (St.instr { s with cases:=false } (s0 :: r)).2 s.now):=by
 have SS:=Lib.hid S
 have HK:=Lib.hid hk
 have HL:=Lib.hid L
 have hcap : n ≤ c:=L.cap
 have hn : r.length + 1 = n:=by have:=L.len; rw [List.length_cons] at this; exact this
 have hpos : 0 < n:=by omega
 have hposi : (0 : Int) < (n : Int):=by omega
 have hsz:=L.small s0 List.mem_cons_self
 obtain ⟨vc,vf,vt,vi,vo,vu,gf,gt,gl,of,ot,ol,vs⟩:=h
 have x8 : W.cell? ⟨gr,8,none⟩ = some (.bool s.cases):=rcell M0.mem 8 rfl
 have x0:=M0.word L (j:=0) rfl
 have HFW:=Lib.hid M0.few
 have HSY:=Lib.hid M0.says
 have HLN:=Lib.hid M0.len
 have e0 : (s0.toList == [115,101,110,100]) = true:=by rw [ByteArray.toList_eq,hw]; rfl
 have e1 : (s0.toList == [114,101,99,118]) = false:=by rw [ByteArray.toList_eq,hw]; rfl
 have e2 : (s0.toList == [116,97,98,108,101]) = false:=by rw [ByteArray.toList_eq,hw]; rfl
 have e3 : (s0.toList == [102,117,110,99]) = false:=by rw [ByteArray.toList_eq,hw]; rfl
 have e4 : s0.toList = [115,101,110,100]:=by rw [ByteArray.toList_eq]; exact hw
 rw [hc] at x8
 have HSZ:=Lib.hid (show s0.size ≤ 9223372036854775807 by omega)
 have HSUF:=Lib.hid (fun W => Tryz.strings_HasSuffix s0 ⟨#[58]⟩ W HSZ.out)
 have HI:=Lib.hid (show Inv { s with cases:=false } from hi)
 have b1 : ((n : Int) == 1) = false:=beq_eq_false_iff_ne.mpr (by omega)
 have M:=Aside0.mk M0
 clear M0 S hk L hn hw hc hi h1
 go_enter Tryz.func24,Tryz.ntmps24
 go_wp2_with (first
  | ((with_reducible refine gate_store (t:=4) (p:=30) rfl ?_); refine fS (Aside0.mk M.out.mem) 4 (.tmp 30) 0 8 (.bool false) (rcells vc vf vt vi gf gt gl vo false s.idle vu s.wrong s.line s.now) ?_ rfl rfl rfl rfl; clear M x8 x0; intro W2 M2_; have M2:=Aside0.mk (RdM.mk (s:={ s with cases:=false }) (h:=⟨vc,vf,vt,vi,vo,vu,gf,gt,gl,of,ot,ol,vs⟩) M2_.out (HFW.out.like) ⟨HSY.out.f,HSY.out.t,HSY.out.l⟩ HLN.out); clear M2_; have x0:=M2.out.word HL.out (j:=0) rfl) | (go_at_call 60; refine (HSUF.out _).mono ?_; rintro e2 w3 ⟨rfl,rfl⟩))
 refine kStart [] [(⟨gr,13,none⟩,.int .i64 s.now)] (Aside0.mk M2.out.mem) ?_ (fun w4 MD HK0 => ?_)
 ·intro q hq
  simp only [List.mem_cons,List.not_mem_nil,or_false] at hq
  rcases hq with rfl
  exact rcell M2.out.mem 13 rfl
 have MR:=Aside0.mk (RdM.mk (s:={ s with cases:=false }) (h:=⟨vc,vf,vt,vi,vo,vu,gf,gt,gl,of,ot,ol,vs⟩) MD.out (HFW.out.like) ⟨HSY.out.f,HSY.out.t,HSY.out.l⟩ HLN.out)
 clear M2 x0
 refine kP 0 31 (.pointer (some ⟨gr,0,none⟩)) ?_
 simp only [Act.put,sAz,sCz,sCs]
 refine kP 1 32 (.pointer (some ⟨gr,0,none⟩)) ?_
 simp only [Act.put,sAz,sCz,sCs]
 refine kP 2 33 (.slice (some ⟨gw,0,none⟩) n c) ?_
 simp only [Act.put,sAz,sCz,sCs]
 refine kP 4 35 (.pointer (some ⟨gr,0,none⟩)) ?_
 simp only [Act.put,sAz,sCz,sCs]
 refine kP 5 36 (.pointer (some ⟨gr,0,none⟩)) ?_
 simp only [Act.put,sAz,sCz,sCs]
 refine kP 6 37 (.pointer (some ⟨gr,13,none⟩)) ?_
 simp only [Act.put,sAz,sCz,sCs]
 refine kE HK0 7 38 0 ?_
 simp only [Act.put,sAz,sCz,sCs]
 refine kR [3] ?_
 refine kK 3 34 Tryz.func63 #[.pointer (some ⟨gr,0,none⟩),.slice (some ⟨gw,0,none⟩) n c] ((instr_calls MR.out SS.out HK.out HL.out HI.out).mono ?_) AllReadyL.nil
 rintro e1 w5 ⟨rfl,h1,MP⟩
 have MQ:=Aside0.mk MP
 clear MP MD HK0
 have NOW:=Lib.hid ((instr_now { s with cases:=false } (s0 :: r)))
 have x13 : w5.cell? ⟨gr,13,none⟩ = some (.int .i64 s.now):=by have h:=rcell MQ.out.mem 13 rfl; rw [h]; exact congrArg (fun x => some (Value.int .i64 x)) NOW.out
 refine ⟨_,rfl,?_,?_⟩
 ·intro q hq
  simp only [List.mem_cons,List.not_mem_nil,or_false] at hq
  rcases hq with rfl
  exact x13
 simp only [Act.put,sAz,sCz,sCs]
 refine kR [8] ?_
 refine kK 8 39 Tryz.func58 #[.pointer (some ⟨gr,0,none⟩),.int .i64 ((St.instr { s with cases:=false } (s0 :: r)).2),.int .i64 s.now] ?_ AllReadyL.nil
 refine (rbad MQ.out SS.out _ s.now).mono ?_
 rintro e2 w6 ⟨rfl,MB⟩
 have MC:=Aside0.mk MB
 clear MB
 refine ⟨_,rfl,?_,?_⟩
 ·intro q hq
  simp only [List.mem_cons,List.not_mem_nil,or_false] at hq
  have h:=rcell MC.out.mem 13 rfl
  rcases hq with rfl
  rw [h]
  exact congrArg (fun x => some (Value.int .i64 x)) NOW.out
 clear MQ x13
 refine kDone ?_
 go_wp2
 go_returns
 exact ⟨rfl,h1,MC.out⟩
set_option maxHeartbeats 8000000 in
set_option maxRecDepth 100000 in
theorem read_mark_R (M0 : RdM k w0 W gr l h s) (S : Std w0) (hk : k < 262144) (L : Line l gw n c (s0 :: r)) (hw : s0.data.toList = recvW) (hc : s.cases = false) (h1 : n = 1) (hsf : Lib.hasSuffix s0.data.toList [58] = true) :
  Calls Tryz.prog 24 #[.pointer (some ⟨gr,0,none⟩),.slice (some ⟨gw,0,none⟩) n c] W fun z w' => z = .returned (.tuple #[]) ∧ ∃ h',RdM (k + 1) w0 w' gr l h' ((St.mark { s with cases:=false } ⟨(Lib.trimSuffix s0.data.toList [58]).toArray⟩).1.bad (St.mark { s with cases:=false } ⟨(Lib.trimSuffix s0.data.toList [58]).toArray⟩).2 s.now):=by
 have SS:=Lib.hid S
 have HK:=Lib.hid hk
 have HL:=Lib.hid L
 have hcap : n ≤ c:=L.cap
 have hn : r.length + 1 = n:=by have:=L.len; rw [List.length_cons] at this; exact this
 have hpos : 0 < n:=by omega
 have hposi : (0 : Int) < (n : Int):=by omega
 have hsz:=L.small s0 List.mem_cons_self
 obtain ⟨vc,vf,vt,vi,vo,vu,gf,gt,gl,of,ot,ol,vs⟩:=h
 have x8 : W.cell? ⟨gr,8,none⟩ = some (.bool s.cases):=rcell M0.mem 8 rfl
 have x0:=M0.word L (j:=0) rfl
 have HFW:=Lib.hid M0.few
 have HSY:=Lib.hid M0.says
 have HLN:=Lib.hid M0.len
 have e0 : (s0.toList == [115,101,110,100]) = false:=by rw [ByteArray.toList_eq,hw]; rfl
 have e1 : (s0.toList == [114,101,99,118]) = true:=by rw [ByteArray.toList_eq,hw]; rfl
 have e2 : (s0.toList == [116,97,98,108,101]) = false:=by rw [ByteArray.toList_eq,hw]; rfl
 have e3 : (s0.toList == [102,117,110,99]) = false:=by rw [ByteArray.toList_eq,hw]; rfl
 have e4 : s0.toList = [114,101,99,118]:=by rw [ByteArray.toList_eq]; exact hw
 rw [hc] at x8
 have HSZ:=Lib.hid (show s0.size ≤ 9223372036854775807 by omega)
 have HSUF:=Lib.hid (fun W => Tryz.strings_HasSuffix s0 ⟨#[58]⟩ W HSZ.out)
 subst h1
 have hsf2:=hsf
 rw [show ([58] : List UInt8) = (⟨#[58]⟩ : ByteArray).data.toList from rfl] at hsf2
 rw [hsf2] at HSUF
 have HTS:=Lib.hid (trim_size s0 hsz)
 have M:=Aside0.mk M0
 clear M0 S hk L hn hw hc hsf hsf2
 go_enter Tryz.func24,Tryz.ntmps24
 go_wp2_with (first
  | ((with_reducible refine gate_store (t:=4) (p:=30) rfl ?_); refine fS (Aside0.mk M.out.mem) 4 (.tmp 30) 0 8 (.bool false) (rcells vc vf vt vi gf gt gl vo false s.idle vu s.wrong s.line s.now) ?_ rfl rfl rfl rfl; clear M x8 x0; intro W2 M2_; have M2:=Aside0.mk (RdM.mk (s:={ s with cases:=false }) (h:=⟨vc,vf,vt,vi,vo,vu,gf,gt,gl,of,ot,ol,vs⟩) M2_.out (HFW.out.like) ⟨HSY.out.f,HSY.out.t,HSY.out.l⟩ HLN.out); clear M2_; have x0:=M2.out.word HL.out (j:=0) rfl) | (go_at_call 60; refine (HSUF.out _).mono ?_; rintro e2 w3 ⟨rfl,rfl⟩))
 refine kStart [] [(⟨gr,13,none⟩,.int .i64 s.now),(⟨gw,0,none⟩,.string s0)] (Aside0.mk M2.out.mem) ?_ (fun w4 MD HK0 => ?_)
 ·intro q hq
  simp only [List.mem_cons,List.not_mem_nil,or_false] at hq
  rcases hq with rfl | rfl
  ·exact rcell M2.out.mem 13 rfl
  ·exact x0
 have MR:=Aside0.mk (RdM.mk (s:={ s with cases:=false }) (h:=⟨vc,vf,vt,vi,vo,vu,gf,gt,gl,of,ot,ol,vs⟩) MD.out (HFW.out.like) ⟨HSY.out.f,HSY.out.t,HSY.out.l⟩ HLN.out)
 clear M2 x0
 refine kP 0 77 (.pointer (some ⟨gr,0,none⟩)) ?_
 simp only [Act.put,sAz,sCz,sCs]
 refine kP 1 78 (.pointer (some ⟨gr,0,none⟩)) ?_
 simp only [Act.put,sAz,sCz,sCs]
 refine kP 2 79 (.slice (some ⟨gw,0,none⟩) 1 c) ?_
 simp only [Act.put,sAz,sCz,sCs]
 refine kP 3 80 (.pointer (some ⟨gw,0,none⟩)) ?_
 simp only [Act.put,sAz,sCz,sCs]
 refine kE HK0 4 81 1 ?_
 simp only [Act.put,sAz,sCz,sCs]
 refine kP 7 84 (.pointer (some ⟨gr,0,none⟩)) ?_
 simp only [Act.put,sAz,sCz,sCs]
 refine kP 8 85 (.pointer (some ⟨gr,0,none⟩)) ?_
 simp only [Act.put,sAz,sCz,sCs]
 refine kP 9 86 (.pointer (some ⟨gr,13,none⟩)) ?_
 simp only [Act.put,sAz,sCz,sCs]
 refine kE HK0 10 87 0 ?_
 simp only [Act.put,sAz,sCz,sCs]
 refine kR [5] ?_
 refine kK 5 82 Tryz.func62 #[.string s0,.string ⟨#[58]⟩] ((Tryz.strings_TrimSuffix s0 ⟨#[58]⟩ _ HSZ.out).mono ?_) AllReadyL.nil
 rintro e0 w5 ⟨rfl,rfl⟩
 refine ⟨_,rfl,HK0.out,?_⟩
 simp only [Act.put,sAz,sCz,sCs]
 refine kR [6] ?_
 refine kK 6 83 Tryz.func61 #[.pointer (some ⟨gr,0,none⟩),.string ⟨(Lib.trimSuffix s0.data.toList [58]).toArray⟩] ((mark_calls MR.out SS.out HK.out HTS.out).mono ?_) AllReadyL.nil
 rintro e1 w5 ⟨rfl,h1,MP⟩
 have MQ:=Aside0.mk MP
 clear MP MD HK0
 have NOW:=Lib.hid ((mark_now { s with cases:=false } ⟨(Lib.trimSuffix s0.data.toList [58]).toArray⟩))
 have x13 : w5.cell? ⟨gr,13,none⟩ = some (.int .i64 s.now):=by have h:=rcell MQ.out.mem 13 rfl; rw [h]; exact congrArg (fun x => some (Value.int .i64 x)) NOW.out
 refine ⟨_,rfl,?_,?_⟩
 ·intro q hq
  simp only [List.mem_cons,List.not_mem_nil,or_false] at hq
  have xw:=MQ.out.word HL.out (j:=0) rfl
  rcases hq with rfl | rfl
  ·exact x13
  ·exact xw
 simp only [Act.put,sAz,sCz,sCs]
 refine kR [11] ?_
 refine kK 11 88 Tryz.func58 #[.pointer (some ⟨gr,0,none⟩),.int .i64 ((St.mark { s with cases:=false } ⟨(Lib.trimSuffix s0.data.toList [58]).toArray⟩).2),.int .i64 s.now] ?_ AllReadyL.nil
 refine (rbad MQ.out SS.out _ s.now).mono ?_
 rintro e2 w6 ⟨rfl,MB⟩
 have MC:=Aside0.mk MB
 clear MB
 refine ⟨_,rfl,?_,?_⟩
 ·intro q hq
  simp only [List.mem_cons,List.not_mem_nil,or_false] at hq
  have h:=rcell MC.out.mem 13 rfl
  have xw:=MC.out.word HL.out (j:=0) rfl
  rcases hq with rfl | rfl
  ·rw [h]
   exact congrArg (fun x => some (Value.int .i64 x)) NOW.out
  ·exact xw
 clear MQ x13
 refine kDone ?_
 go_wp2
 go_returns
 exact ⟨rfl,h1,MC.out⟩
set_option maxHeartbeats 8000000 in
set_option maxRecDepth 100000 in
theorem read_instr_R1 (M0 : RdM k w0 W gr l h s) (S : Std w0) (hk : k < 262144) (L : Line l gw n c (s0 :: r)) (hw : s0.data.toList = recvW) (hc : s.cases = false) (hi : Inv s) (h1 : n = 1) (hsf : Lib.hasSuffix s0.data.toList [58] = false) :
  Calls Tryz.prog 24 #[.pointer (some ⟨gr,0,none⟩),.slice (some ⟨gw,0,none⟩) n c] W fun z w' => z = .returned (.tuple #[]) ∧ ∃ h',RdM (k + 1) w0 w' gr l h' ((St.instr { s with cases:=false } (s0 :: r)).1.bad (St.instr { s with cases:=false } (s0 :: r)).2 s.now):=by
 have SS:=Lib.hid S
 have HK:=Lib.hid hk
 have HL:=Lib.hid L
 have hcap : n ≤ c:=L.cap
 have hn : r.length + 1 = n:=by have:=L.len; rw [List.length_cons] at this; exact this
 have hpos : 0 < n:=by omega
 have hposi : (0 : Int) < (n : Int):=by omega
 have hsz:=L.small s0 List.mem_cons_self
 obtain ⟨vc,vf,vt,vi,vo,vu,gf,gt,gl,of,ot,ol,vs⟩:=h
 have x8 : W.cell? ⟨gr,8,none⟩ = some (.bool s.cases):=rcell M0.mem 8 rfl
 have x0:=M0.word L (j:=0) rfl
 have HFW:=Lib.hid M0.few
 have HSY:=Lib.hid M0.says
 have HLN:=Lib.hid M0.len
 have e0 : (s0.toList == [115,101,110,100]) = false:=by rw [ByteArray.toList_eq,hw]; rfl
 have e1 : (s0.toList == [114,101,99,118]) = true:=by rw [ByteArray.toList_eq,hw]; rfl
 have e2 : (s0.toList == [116,97,98,108,101]) = false:=by rw [ByteArray.toList_eq,hw]; rfl
 have e3 : (s0.toList == [102,117,110,99]) = false:=by rw [ByteArray.toList_eq,hw]; rfl
 have e4 : s0.toList = [114,101,99,118]:=by rw [ByteArray.toList_eq]; exact hw
 rw [hc] at x8
 have HSZ:=Lib.hid (show s0.size ≤ 9223372036854775807 by omega)
 have HSUF:=Lib.hid (fun W => Tryz.strings_HasSuffix s0 ⟨#[58]⟩ W HSZ.out)
 have HI:=Lib.hid (show Inv { s with cases:=false } from hi)
 subst h1
 have hsf2:=hsf
 rw [show ([58] : List UInt8) = (⟨#[58]⟩ : ByteArray).data.toList from rfl] at hsf2
 rw [hsf2] at HSUF
 have M:=Aside0.mk M0
 clear M0 S hk L hn hw hc hsf hsf2 hi
 go_enter Tryz.func24,Tryz.ntmps24
 go_wp2_with (first
  | ((with_reducible refine gate_store (t:=4) (p:=30) rfl ?_); refine fS (Aside0.mk M.out.mem) 4 (.tmp 30) 0 8 (.bool false) (rcells vc vf vt vi gf gt gl vo false s.idle vu s.wrong s.line s.now) ?_ rfl rfl rfl rfl; clear M x8 x0; intro W2 M2_; have M2:=Aside0.mk (RdM.mk (s:={ s with cases:=false }) (h:=⟨vc,vf,vt,vi,vo,vu,gf,gt,gl,of,ot,ol,vs⟩) M2_.out (HFW.out.like) ⟨HSY.out.f,HSY.out.t,HSY.out.l⟩ HLN.out); clear M2_; have x0:=M2.out.word HL.out (j:=0) rfl) | (go_at_call 60; refine (HSUF.out _).mono ?_; rintro e2 w3 ⟨rfl,rfl⟩))
 refine kStart [] [(⟨gr,13,none⟩,.int .i64 s.now)] (Aside0.mk M2.out.mem) ?_ (fun w4 MD HK0 => ?_)
 ·intro q hq
  simp only [List.mem_cons,List.not_mem_nil,or_false] at hq
  rcases hq with rfl
  exact rcell M2.out.mem 13 rfl
 have MR:=Aside0.mk (RdM.mk (s:={ s with cases:=false }) (h:=⟨vc,vf,vt,vi,vo,vu,gf,gt,gl,of,ot,ol,vs⟩) MD.out (HFW.out.like) ⟨HSY.out.f,HSY.out.t,HSY.out.l⟩ HLN.out)
 clear M2 x0
 refine kP 0 31 (.pointer (some ⟨gr,0,none⟩)) ?_
 simp only [Act.put,sAz,sCz,sCs]
 refine kP 1 32 (.pointer (some ⟨gr,0,none⟩)) ?_
 simp only [Act.put,sAz,sCz,sCs]
 refine kP 2 33 (.slice (some ⟨gw,0,none⟩) 1 c) ?_
 simp only [Act.put,sAz,sCz,sCs]
 refine kP 4 35 (.pointer (some ⟨gr,0,none⟩)) ?_
 simp only [Act.put,sAz,sCz,sCs]
 refine kP 5 36 (.pointer (some ⟨gr,0,none⟩)) ?_
 simp only [Act.put,sAz,sCz,sCs]
 refine kP 6 37 (.pointer (some ⟨gr,13,none⟩)) ?_
 simp only [Act.put,sAz,sCz,sCs]
 refine kE HK0 7 38 0 ?_
 simp only [Act.put,sAz,sCz,sCs]
 refine kR [3] ?_
 refine kK 3 34 Tryz.func63 #[.pointer (some ⟨gr,0,none⟩),.slice (some ⟨gw,0,none⟩) 1 c] ((instr_calls MR.out SS.out HK.out HL.out HI.out).mono ?_) AllReadyL.nil
 rintro e1 w5 ⟨rfl,h1,MP⟩
 have MQ:=Aside0.mk MP
 clear MP MD HK0
 have NOW:=Lib.hid ((instr_now { s with cases:=false } (s0 :: r)))
 have x13 : w5.cell? ⟨gr,13,none⟩ = some (.int .i64 s.now):=by have h:=rcell MQ.out.mem 13 rfl; rw [h]; exact congrArg (fun x => some (Value.int .i64 x)) NOW.out
 refine ⟨_,rfl,?_,?_⟩
 ·intro q hq
  simp only [List.mem_cons,List.not_mem_nil,or_false] at hq
  rcases hq with rfl
  exact x13
 simp only [Act.put,sAz,sCz,sCs]
 refine kR [8] ?_
 refine kK 8 39 Tryz.func58 #[.pointer (some ⟨gr,0,none⟩),.int .i64 ((St.instr { s with cases:=false } (s0 :: r)).2),.int .i64 s.now] ?_ AllReadyL.nil
 refine (rbad MQ.out SS.out _ s.now).mono ?_
 rintro e2 w6 ⟨rfl,MB⟩
 have MC:=Aside0.mk MB
 clear MB
 refine ⟨_,rfl,?_,?_⟩
 ·intro q hq
  simp only [List.mem_cons,List.not_mem_nil,or_false] at hq
  have h:=rcell MC.out.mem 13 rfl
  rcases hq with rfl
  rw [h]
  exact congrArg (fun x => some (Value.int .i64 x)) NOW.out
 clear MQ x13
 refine kDone ?_
 go_wp2
 go_returns
 exact ⟨rfl,h1,MC.out⟩
set_option maxHeartbeats 8000000 in
set_option maxRecDepth 100000 in
theorem read_instr_R0 (M0 : RdM k w0 W gr l h s) (S : Std w0) (hk : k < 262144) (L : Line l gw n c (s0 :: r)) (hw : s0.data.toList = recvW) (hc : s.cases = false) (hi : Inv s) (h1 : n ≠ 1) :
  Calls Tryz.prog 24 #[.pointer (some ⟨gr,0,none⟩),.slice (some ⟨gw,0,none⟩) n c] W fun z w' => z = .returned (.tuple #[]) ∧ ∃ h',RdM (k + 1) w0 w' gr l h' ((St.instr { s with cases:=false } (s0 :: r)).1.bad (St.instr { s with cases:=false } (s0 :: r)).2 s.now):=by
 have SS:=Lib.hid S
 have HK:=Lib.hid hk
 have HL:=Lib.hid L
 have hcap : n ≤ c:=L.cap
 have hn : r.length + 1 = n:=by have:=L.len; rw [List.length_cons] at this; exact this
 have hpos : 0 < n:=by omega
 have hposi : (0 : Int) < (n : Int):=by omega
 have hsz:=L.small s0 List.mem_cons_self
 obtain ⟨vc,vf,vt,vi,vo,vu,gf,gt,gl,of,ot,ol,vs⟩:=h
 have x8 : W.cell? ⟨gr,8,none⟩ = some (.bool s.cases):=rcell M0.mem 8 rfl
 have x0:=M0.word L (j:=0) rfl
 have HFW:=Lib.hid M0.few
 have HSY:=Lib.hid M0.says
 have HLN:=Lib.hid M0.len
 have e0 : (s0.toList == [115,101,110,100]) = false:=by rw [ByteArray.toList_eq,hw]; rfl
 have e1 : (s0.toList == [114,101,99,118]) = true:=by rw [ByteArray.toList_eq,hw]; rfl
 have e2 : (s0.toList == [116,97,98,108,101]) = false:=by rw [ByteArray.toList_eq,hw]; rfl
 have e3 : (s0.toList == [102,117,110,99]) = false:=by rw [ByteArray.toList_eq,hw]; rfl
 have e4 : s0.toList = [114,101,99,118]:=by rw [ByteArray.toList_eq]; exact hw
 rw [hc] at x8
 have HSZ:=Lib.hid (show s0.size ≤ 9223372036854775807 by omega)
 have HSUF:=Lib.hid (fun W => Tryz.strings_HasSuffix s0 ⟨#[58]⟩ W HSZ.out)
 have HI:=Lib.hid (show Inv { s with cases:=false } from hi)
 have b1 : ((n : Int) == 1) = false:=beq_eq_false_iff_ne.mpr (by omega)
 have M:=Aside0.mk M0
 clear M0 S hk L hn hw hc hi h1
 go_enter Tryz.func24,Tryz.ntmps24
 go_wp2_with (first
  | ((with_reducible refine gate_store (t:=4) (p:=30) rfl ?_); refine fS (Aside0.mk M.out.mem) 4 (.tmp 30) 0 8 (.bool false) (rcells vc vf vt vi gf gt gl vo false s.idle vu s.wrong s.line s.now) ?_ rfl rfl rfl rfl; clear M x8 x0; intro W2 M2_; have M2:=Aside0.mk (RdM.mk (s:={ s with cases:=false }) (h:=⟨vc,vf,vt,vi,vo,vu,gf,gt,gl,of,ot,ol,vs⟩) M2_.out (HFW.out.like) ⟨HSY.out.f,HSY.out.t,HSY.out.l⟩ HLN.out); clear M2_; have x0:=M2.out.word HL.out (j:=0) rfl) | (go_at_call 60; refine (HSUF.out _).mono ?_; rintro e2 w3 ⟨rfl,rfl⟩))
 refine kStart [] [(⟨gr,13,none⟩,.int .i64 s.now)] (Aside0.mk M2.out.mem) ?_ (fun w4 MD HK0 => ?_)
 ·intro q hq
  simp only [List.mem_cons,List.not_mem_nil,or_false] at hq
  rcases hq with rfl
  exact rcell M2.out.mem 13 rfl
 have MR:=Aside0.mk (RdM.mk (s:={ s with cases:=false }) (h:=⟨vc,vf,vt,vi,vo,vu,gf,gt,gl,of,ot,ol,vs⟩) MD.out (HFW.out.like) ⟨HSY.out.f,HSY.out.t,HSY.out.l⟩ HLN.out)
 clear M2 x0
 refine kP 0 31 (.pointer (some ⟨gr,0,none⟩)) ?_
 simp only [Act.put,sAz,sCz,sCs]
 refine kP 1 32 (.pointer (some ⟨gr,0,none⟩)) ?_
 simp only [Act.put,sAz,sCz,sCs]
 refine kP 2 33 (.slice (some ⟨gw,0,none⟩) n c) ?_
 simp only [Act.put,sAz,sCz,sCs]
 refine kP 4 35 (.pointer (some ⟨gr,0,none⟩)) ?_
 simp only [Act.put,sAz,sCz,sCs]
 refine kP 5 36 (.pointer (some ⟨gr,0,none⟩)) ?_
 simp only [Act.put,sAz,sCz,sCs]
 refine kP 6 37 (.pointer (some ⟨gr,13,none⟩)) ?_
 simp only [Act.put,sAz,sCz,sCs]
 refine kE HK0 7 38 0 ?_
 simp only [Act.put,sAz,sCz,sCs]
 refine kR [3] ?_
 refine kK 3 34 Tryz.func63 #[.pointer (some ⟨gr,0,none⟩),.slice (some ⟨gw,0,none⟩) n c] ((instr_calls MR.out SS.out HK.out HL.out HI.out).mono ?_) AllReadyL.nil
 rintro e1 w5 ⟨rfl,h1,MP⟩
 have MQ:=Aside0.mk MP
 clear MP MD HK0
 have NOW:=Lib.hid ((instr_now { s with cases:=false } (s0 :: r)))
 have x13 : w5.cell? ⟨gr,13,none⟩ = some (.int .i64 s.now):=by have h:=rcell MQ.out.mem 13 rfl; rw [h]; exact congrArg (fun x => some (Value.int .i64 x)) NOW.out
 refine ⟨_,rfl,?_,?_⟩
 ·intro q hq
  simp only [List.mem_cons,List.not_mem_nil,or_false] at hq
  rcases hq with rfl
  exact x13
 simp only [Act.put,sAz,sCz,sCs]
 refine kR [8] ?_
 refine kK 8 39 Tryz.func58 #[.pointer (some ⟨gr,0,none⟩),.int .i64 ((St.instr { s with cases:=false } (s0 :: r)).2),.int .i64 s.now] ?_ AllReadyL.nil
 refine (rbad MQ.out SS.out _ s.now).mono ?_
 rintro e2 w6 ⟨rfl,MB⟩
 have MC:=Aside0.mk MB
 clear MB
 refine ⟨_,rfl,?_,?_⟩
 ·intro q hq
  simp only [List.mem_cons,List.not_mem_nil,or_false] at hq
  have h:=rcell MC.out.mem 13 rfl
  rcases hq with rfl
  rw [h]
  exact congrArg (fun x => some (Value.int .i64 x)) NOW.out
 clear MQ x13
 refine kDone ?_
 go_wp2
 go_returns
 exact ⟨rfl,h1,MC.out⟩
theorem read_calls (M0 : RdM k w0 W gr l h s) (S : Std w0) (hk : k < 262144) (L : Line l gw n c (s0 :: r)) (hf : Fine s) :
  Calls Tryz.prog 24 #[.pointer (some ⟨gr,0,none⟩),.slice (some ⟨gw,0,none⟩) n c] W fun z w' => z = .returned (.tuple #[]) ∧ ∃ h',RdM (k + 1) w0 w' gr l h' (s.read (s0 :: r)):=by
 have hn : (s0 :: r).length = n:=L.len
 have W1 : ∀ X,isW s0 X = true ↔ s0.data.toList = X:=fun X => by unfold isW; exact beq_iff_eq
 have W0 : ∀ X,isW s0 X = false ↔ s0.data.toList ≠ X:=fun X => by unfold isW; exact beq_eq_false_iff_ne
 by_cases hF : s0.data.toList = funcW
 ·rw [show s.read (s0 :: r) = St.fn { s with cases:=false } (s0 :: r) from if_pos ((W1 _).2 hF)]
  cases hc : s.cases with
  | true => exact read_func_t M0 S hk L hF hc
  | false => exact read_func_f M0 S hk L hF hc
 by_cases hT : s0.data.toList = tableW
 ·rw [show s.read (s0 :: r) = St.table { s with cases:=true } (s0 :: r) from (if_neg (by rw [(W0 _).2 hF]; simp)).trans (if_pos ((W1 _).2 hT))]
  cases hc : s.cases with
  | true => exact read_table_t M0 S hk L hT hc
  | false => exact read_table_f M0 S hk L hT hc
 have key : s.read (s0 :: r) = if s.cases && (isW s0 sendW || isW s0 recvW) then ((s.pick (isW s0 sendW) r).1.bad (s.pick (isW s0 sendW) r).2 s.now)
  else if (s0 :: r).length = 1 ∧ Lib.hasSuffix s0.data.toList [58] = true then
   (St.mark { s with cases:=false } ⟨(Lib.trimSuffix s0.data.toList [58]).toArray⟩).1.bad (St.mark { s with cases:=false } ⟨(Lib.trimSuffix s0.data.toList [58]).toArray⟩).2 s.now
  else (St.instr { s with cases:=false } (s0 :: r)).1.bad (St.instr { s with cases:=false } (s0 :: r)).2 s.now :=
  (if_neg (by rw [(W0 _).2 hF]; simp)).trans (if_neg (by rw [(W0 _).2 hT]; simp))
 have rest : (s.cases && (isW s0 sendW || isW s0 recvW)) = false → (∀ h1 : n = 1,Lib.hasSuffix s0.data.toList [58] = true → Calls Tryz.prog 24 #[.pointer (some ⟨gr,0,none⟩),.slice (some ⟨gw,0,none⟩) n c] W fun z w' => z = .returned (.tuple #[]) ∧ ∃ h',RdM (k + 1) w0 w' gr l h' ((St.mark { s with cases:=false } ⟨(Lib.trimSuffix s0.data.toList [58]).toArray⟩).1.bad (St.mark { s with cases:=false } ⟨(Lib.trimSuffix s0.data.toList [58]).toArray⟩).2 s.now)) →
   (∀ h1 : n = 1,Lib.hasSuffix s0.data.toList [58] = false → Calls Tryz.prog 24 #[.pointer (some ⟨gr,0,none⟩),.slice (some ⟨gw,0,none⟩) n c] W fun z w' => z = .returned (.tuple #[]) ∧ ∃ h',RdM (k + 1) w0 w' gr l h' ((St.instr { s with cases:=false } (s0 :: r)).1.bad (St.instr { s with cases:=false } (s0 :: r)).2 s.now)) →
   (∀ h1 : n ≠ 1,Calls Tryz.prog 24 #[.pointer (some ⟨gr,0,none⟩),.slice (some ⟨gw,0,none⟩) n c] W fun z w' => z = .returned (.tuple #[]) ∧ ∃ h',RdM (k + 1) w0 w' gr l h' ((St.instr { s with cases:=false } (s0 :: r)).1.bad (St.instr { s with cases:=false } (s0 :: r)).2 s.now)) →
   Calls Tryz.prog 24 #[.pointer (some ⟨gr,0,none⟩),.slice (some ⟨gw,0,none⟩) n c] W fun z w' => z = .returned (.tuple #[]) ∧ ∃ h',RdM (k + 1) w0 w' gr l h' (s.read (s0 :: r)):=by
  intro hcs a1 a2 a3
  rw [key,if_neg (by rw [hcs]; simp)]
  by_cases h1 : n = 1
  ·cases hsf : Lib.hasSuffix s0.data.toList [58] with
   | true => rw [if_pos ⟨hn.trans h1,rfl⟩]; exact a1 h1 hsf
   | false => rw [if_neg (by simp)]; exact a2 h1 hsf
  ·rw [if_neg (fun e => h1 (hn.symm.trans e.1))]; exact a3 h1
 by_cases hS : s0.data.toList = sendW
 ·cases hc : s.cases with
  | true =>
   rw [key,hc,(W1 _).2 hS]
   have:=read_send M0 S hk L hS hc (hf.tabs hc)
   rwa [show ({ s with cases:=true } : St) = s by cases s; simp only at hc; subst hc; rfl] at this
  | false => exact rest (by rw [hc]; rfl) (fun h1 h2 => read_mark_S M0 S hk L hS hc h1 h2) (fun h1 h2 => read_instr_S1 M0 S hk L hS hc hf.inv h1 h2) (fun h1 => read_instr_S0 M0 S hk L hS hc hf.inv h1)
 by_cases hR : s0.data.toList = recvW
 ·cases hc : s.cases with
  | true =>
   rw [key,hc,(W1 _).2 hR,(W0 _).2 hS]
   have:=read_recv M0 S hk L hR hc (hf.tabs hc)
   rwa [show ({ s with cases:=true } : St) = s by cases s; simp only at hc; subst hc; rfl] at this
  | false => exact rest (by rw [hc]; rfl) (fun h1 h2 => read_mark_R M0 S hk L hR hc h1 h2) (fun h1 h2 => read_instr_R1 M0 S hk L hR hc hf.inv h1 h2) (fun h1 => read_instr_R0 M0 S hk L hR hc hf.inv h1)
 have hcs : (s.cases && (isW s0 sendW || isW s0 recvW)) = false:=by rw [(W0 _).2 hS,(W0 _).2 hR]; simp
 cases hc : s.cases with
 | true => exact rest hcs (fun h1 h2 => read_mark_nt M0 S hk L hS hR hT hF hc h1 h2) (fun h1 h2 => read_instr_nt1 M0 S hk L hS hR hT hF hc hf.inv h1 h2) (fun h1 => read_instr_nt0 M0 S hk L hS hR hT hF hc hf.inv h1)
 | false => exact rest hcs (fun h1 h2 => read_mark_nf M0 S hk L hS hR hT hF hc h1 h2) (fun h1 h2 => read_instr_nf1 M0 S hk L hS hR hT hF hc hf.inv h1 h2) (fun h1 => read_instr_nf0 M0 S hk L hS hR hT hF hc hf.inv h1)
end
end Go.Proofs.YtdbpglhdicmhhaaGreatDoor.Hof
end
