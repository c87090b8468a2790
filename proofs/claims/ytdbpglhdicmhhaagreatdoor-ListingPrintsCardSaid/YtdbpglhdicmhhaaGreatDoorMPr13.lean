import Derived.Test.YtdbpglhdicmhhaaGreatDoorProg
import Derived.WalkKit
import Derived.WalkLawsBesides
import Derived.Below
import Derived.IntWalk
import Derived.Laws.Tables
import Derived.Laws.Rows
import Derived.Laws.CopyOwn
import Derived.Outline
import Derived.Test.YtdbpglhdicmhhaaGreatDoorMPr2
import Derived.Lib.Hide
import Derived.Test.YtdbpglhdicmhhaaGreatDoorMPr3
import Derived.RegionTactic
import Derived.ChangeAlike
import Derived.Test.YtdbpglhdicmhhaaGreatDoorMPr4
set_option maxHeartbeats 8000000
set_option maxRecDepth 100000
set_option linter.unusedVariables false
set_option linter.unusedSimpArgs false
section
namespace Go.Proofs.YtdbpglhdicmhhaaGreatDoor.abA
open Go.RowKit
def quiet {α : Type} (P : Program) : Sem α → Option α
 | .pure a => some a
 | .program k => quiet P (k P)
 | .mark _ k => quiet P k
 | _ => none
theorem F7 {α : Type} {P : Program} : ∀ {s : Sem α} {a : α},quiet P s = some a → ∀ w,s.run P w = .ok a w
 | .pure _,_,h,w => by simp only [quiet,Option.some.injEq] at h; subst h; rfl
 | .program k,_,h,w => by simp only [quiet] at h; exact F7 (s:=k P) h w
 | .mark _ k,_,h,w => by simp only [quiet] at h; exact F7 (s:=k) h w
def AX (P : Program) : List Oper → Act → Option Act
 | [],a => some a
 | o :: rest,a => match o.guard with
  | some _ => none
  | none => match quiet P (execOp a.eval o) with
   | some (.value v) => AX P rest (a.put o.dst v)
   | _ => none
theorem Fz {P : Program} {ops : Array Oper} {Q : Exit → Act → World → Prop} {rest : List Oper} {a' : Act} {w : World} :
  ∀ (os : List Oper) (a : Act),AX P os a = some a' → wpList P ops Q rest a' w → wpList P ops Q (os ++ rest) a w
 | [],a,h,k => by simp only [AX,Option.some.injEq] at h; subst h; exact k
 | o :: os,a,h,k => by
  simp only [AX] at h
  split at h
  ·cases h
  ·rename_i hg
   split at h
   ·rename_i v hv
    refine wpList_plain hg fun K hK => ?_
    unfold Oper.wp
    rw [F7 hv w,Oper.upon_value]
    exact hK _ _ (Fz os _ h k)
   ·cases h
def rows : List (ByteArray × Int × Int × ByteArray × ByteArray) :=
 [(⟨#[110,111,112]⟩,0,1,⟨#[]⟩,⟨#[]⟩),
  (⟨#[115,101,116]⟩,6,1,⟨#[]⟩,⟨#[97]⟩),
  (⟨#[104,105,103,104]⟩,5,1,⟨#[97]⟩,⟨#[97]⟩),
  (⟨#[109,111,118,101]⟩,2,1,⟨#[98]⟩,⟨#[97]⟩),
  (⟨#[97,100,100]⟩,3,1,⟨#[98,99]⟩,⟨#[97]⟩),
  (⟨#[115,117,98]⟩,3,1,⟨#[98,99]⟩,⟨#[97]⟩),
  (⟨#[109,117,108]⟩,3,3,⟨#[98,99]⟩,⟨#[97]⟩),
  (⟨#[100,105,118]⟩,3,8,⟨#[98,99]⟩,⟨#[97]⟩),
  (⟨#[114,101,109]⟩,3,8,⟨#[98,99]⟩,⟨#[97]⟩),
  (⟨#[97,110,100]⟩,3,1,⟨#[98,99]⟩,⟨#[97]⟩),
  (⟨#[111,114]⟩,3,1,⟨#[98,99]⟩,⟨#[97]⟩),
  (⟨#[120,111,114]⟩,3,1,⟨#[98,99]⟩,⟨#[97]⟩),
  (⟨#[115,104,108]⟩,3,1,⟨#[98,99]⟩,⟨#[97]⟩),
  (⟨#[115,104,114]⟩,3,1,⟨#[98,99]⟩,⟨#[97]⟩),
  (⟨#[108,101,115,115]⟩,3,1,⟨#[98,99]⟩,⟨#[97]⟩),
  (⟨#[101,113,117,97,108]⟩,3,1,⟨#[98,99]⟩,⟨#[97]⟩),
  (⟨#[106,117,109,112]⟩,4,1,⟨#[]⟩,⟨#[]⟩),
  (⟨#[122,101,114,111]⟩,5,1,⟨#[97]⟩,⟨#[]⟩),
  (⟨#[115,111,109,101]⟩,5,1,⟨#[97]⟩,⟨#[]⟩),
  (⟨#[99,97,108,108]⟩,4,2,⟨#[]⟩,⟨#[]⟩),
  (⟨#[114,101,116]⟩,0,2,⟨#[]⟩,⟨#[]⟩),
  (⟨#[115,112,97,119,110]⟩,5,4,⟨#[97,108,108]⟩,⟨#[97]⟩),
  (⟨#[121,105,101,108,100]⟩,0,1,⟨#[]⟩,⟨#[]⟩),
  (⟨#[101,120,105,116]⟩,0,1,⟨#[]⟩,⟨#[]⟩),
  (⟨#[115,101,108,102]⟩,1,1,⟨#[]⟩,⟨#[97]⟩),
  (⟨#[110,111,119]⟩,1,1,⟨#[]⟩,⟨#[97]⟩),
  (⟨#[115,108,101,101,112]⟩,1,1,⟨#[97]⟩,⟨#[]⟩),
  (⟨#[109,97,107,101]⟩,2,4,⟨#[98]⟩,⟨#[97]⟩),
  (⟨#[115,101,110,100]⟩,2,2,⟨#[97,98]⟩,⟨#[]⟩),
  (⟨#[114,101,99,118]⟩,3,2,⟨#[99]⟩,⟨#[97,98]⟩),
  (⟨#[99,108,111,115,101]⟩,1,2,⟨#[97]⟩,⟨#[]⟩),
  (⟨#[108,101,110]⟩,2,1,⟨#[98]⟩,⟨#[97]⟩),
  (⟨#[99,97,112]⟩,2,1,⟨#[98]⟩,⟨#[97]⟩),
  (⟨#[115,101,108,101,99,116]⟩,5,4,⟨#[97,108,108]⟩,⟨#[97,108,108]⟩),
  (⟨#[108,111,99,107]⟩,1,2,⟨#[97]⟩,⟨#[]⟩),
  (⟨#[117,110,108,111,99,107]⟩,1,2,⟨#[97]⟩,⟨#[]⟩),
  (⟨#[114,108,111,99,107]⟩,1,2,⟨#[97]⟩,⟨#[]⟩),
  (⟨#[114,117,110,108,111,99,107]⟩,1,2,⟨#[97]⟩,⟨#[]⟩),
  (⟨#[119,97,100,100]⟩,2,2,⟨#[97,98]⟩,⟨#[]⟩),
  (⟨#[119,100,111,110,101]⟩,1,2,⟨#[97]⟩,⟨#[]⟩),
  (⟨#[119,119,97,105,116]⟩,1,2,⟨#[97]⟩,⟨#[]⟩),
  (⟨#[99,119,97,105,116]⟩,2,3,⟨#[97,98]⟩,⟨#[]⟩),
  (⟨#[115,105,103,110,97,108]⟩,1,2,⟨#[97]⟩,⟨#[]⟩),
  (⟨#[98,114,111,97,100,99,97,115,116]⟩,1,3,⟨#[97]⟩,⟨#[]⟩),
  (⟨#[97,99,113,117,105,114,101]⟩,1,2,⟨#[97]⟩,⟨#[]⟩),
  (⟨#[114,101,108,101,97,115,101]⟩,1,2,⟨#[97]⟩,⟨#[]⟩),
  (⟨#[108,111,97,100]⟩,2,2,⟨#[98]⟩,⟨#[97]⟩),
  (⟨#[115,116,111,114,101]⟩,2,2,⟨#[97,98]⟩,⟨#[]⟩),
  (⟨#[115,119,97,112]⟩,3,3,⟨#[97,98,99]⟩,⟨#[97]⟩),
  (⟨#[102,101,116,99,104]⟩,3,3,⟨#[98,99]⟩,⟨#[97]⟩),
  (⟨#[105,110,112,117,116]⟩,2,2,⟨#[]⟩,⟨#[97,98]⟩),
  (⟨#[111,117,116,112,117,116]⟩,1,2,⟨#[97]⟩,⟨#[]⟩),
  (⟨#[112,117,116]⟩,3,2,⟨#[97,98]⟩,⟨#[99]⟩),
  (⟨#[103,101,116]⟩,3,2,⟨#[99]⟩,⟨#[97,98]⟩),
  (⟨#[97,102,116,101,114]⟩,3,3,⟨#[98,99]⟩,⟨#[97]⟩),
  (⟨#[101,118,101,114,121]⟩,3,3,⟨#[98,99]⟩,⟨#[97]⟩),
  (⟨#[115,116,111,112]⟩,2,2,⟨#[98]⟩,⟨#[97]⟩),
  (⟨#[116,114,97,112]⟩,4,1,⟨#[]⟩,⟨#[]⟩)]
def Vh : Array Value :=
 #[.string ⟨#[110,111,112]⟩,.int .i64 0,.int .i64 1,.string ⟨#[]⟩,.string ⟨#[]⟩,
  .string ⟨#[115,101,116]⟩,.int .i64 6,.int .i64 1,.string ⟨#[]⟩,.string ⟨#[97]⟩,
  .string ⟨#[104,105,103,104]⟩,.int .i64 5,.int .i64 1,.string ⟨#[97]⟩,.string ⟨#[97]⟩,
  .string ⟨#[109,111,118,101]⟩,.int .i64 2,.int .i64 1,.string ⟨#[98]⟩,.string ⟨#[97]⟩,
  .string ⟨#[97,100,100]⟩,.int .i64 3,.int .i64 1,.string ⟨#[98,99]⟩,.string ⟨#[97]⟩,
  .string ⟨#[115,117,98]⟩,.int .i64 3,.int .i64 1,.string ⟨#[98,99]⟩,.string ⟨#[97]⟩,
  .string ⟨#[109,117,108]⟩,.int .i64 3,.int .i64 3,.string ⟨#[98,99]⟩,.string ⟨#[97]⟩,
  .string ⟨#[100,105,118]⟩,.int .i64 3,.int .i64 8,.string ⟨#[98,99]⟩,.string ⟨#[97]⟩,
  .string ⟨#[114,101,109]⟩,.int .i64 3,.int .i64 8,.string ⟨#[98,99]⟩,.string ⟨#[97]⟩,
  .string ⟨#[97,110,100]⟩,.int .i64 3,.int .i64 1,.string ⟨#[98,99]⟩,.string ⟨#[97]⟩,
  .string ⟨#[111,114]⟩,.int .i64 3,.int .i64 1,.string ⟨#[98,99]⟩,.string ⟨#[97]⟩,
  .string ⟨#[120,111,114]⟩,.int .i64 3,.int .i64 1,.string ⟨#[98,99]⟩,.string ⟨#[97]⟩,
  .string ⟨#[115,104,108]⟩,.int .i64 3,.int .i64 1,.string ⟨#[98,99]⟩,.string ⟨#[97]⟩,
  .string ⟨#[115,104,114]⟩,.int .i64 3,.int .i64 1,.string ⟨#[98,99]⟩,.string ⟨#[97]⟩,
  .string ⟨#[108,101,115,115]⟩,.int .i64 3,.int .i64 1,.string ⟨#[98,99]⟩,.string ⟨#[97]⟩,
  .string ⟨#[101,113,117,97,108]⟩,.int .i64 3,.int .i64 1,.string ⟨#[98,99]⟩,.string ⟨#[97]⟩,
  .string ⟨#[106,117,109,112]⟩,.int .i64 4,.int .i64 1,.string ⟨#[]⟩,.string ⟨#[]⟩,
  .string ⟨#[122,101,114,111]⟩,.int .i64 5,.int .i64 1,.string ⟨#[97]⟩,.string ⟨#[]⟩,
  .string ⟨#[115,111,109,101]⟩,.int .i64 5,.int .i64 1,.string ⟨#[97]⟩,.string ⟨#[]⟩,
  .string ⟨#[99,97,108,108]⟩,.int .i64 4,.int .i64 2,.string ⟨#[]⟩,.string ⟨#[]⟩,
  .string ⟨#[114,101,116]⟩,.int .i64 0,.int .i64 2,.string ⟨#[]⟩,.string ⟨#[]⟩,
  .string ⟨#[115,112,97,119,110]⟩,.int .i64 5,.int .i64 4,.string ⟨#[97,108,108]⟩,.string ⟨#[97]⟩,
  .string ⟨#[121,105,101,108,100]⟩,.int .i64 0,.int .i64 1,.string ⟨#[]⟩,.string ⟨#[]⟩,
  .string ⟨#[101,120,105,116]⟩,.int .i64 0,.int .i64 1,.string ⟨#[]⟩,.string ⟨#[]⟩,
  .string ⟨#[115,101,108,102]⟩,.int .i64 1,.int .i64 1,.string ⟨#[]⟩,.string ⟨#[97]⟩,
  .string ⟨#[110,111,119]⟩,.int .i64 1,.int .i64 1,.string ⟨#[]⟩,.string ⟨#[97]⟩,
  .string ⟨#[115,108,101,101,112]⟩,.int .i64 1,.int .i64 1,.string ⟨#[97]⟩,.string ⟨#[]⟩,
  .string ⟨#[109,97,107,101]⟩,.int .i64 2,.int .i64 4,.string ⟨#[98]⟩,.string ⟨#[97]⟩,
  .string ⟨#[115,101,110,100]⟩,.int .i64 2,.int .i64 2,.string ⟨#[97,98]⟩,.string ⟨#[]⟩,
  .string ⟨#[114,101,99,118]⟩,.int .i64 3,.int .i64 2,.string ⟨#[99]⟩,.string ⟨#[97,98]⟩,
  .string ⟨#[99,108,111,115,101]⟩,.int .i64 1,.int .i64 2,.string ⟨#[97]⟩,.string ⟨#[]⟩,
  .string ⟨#[108,101,110]⟩,.int .i64 2,.int .i64 1,.string ⟨#[98]⟩,.string ⟨#[97]⟩,
  .string ⟨#[99,97,112]⟩,.int .i64 2,.int .i64 1,.string ⟨#[98]⟩,.string ⟨#[97]⟩,
  .string ⟨#[115,101,108,101,99,116]⟩,.int .i64 5,.int .i64 4,.string ⟨#[97,108,108]⟩,.string ⟨#[97,108,108]⟩,
  .string ⟨#[108,111,99,107]⟩,.int .i64 1,.int .i64 2,.string ⟨#[97]⟩,.string ⟨#[]⟩,
  .string ⟨#[117,110,108,111,99,107]⟩,.int .i64 1,.int .i64 2,.string ⟨#[97]⟩,.string ⟨#[]⟩,
  .string ⟨#[114,108,111,99,107]⟩,.int .i64 1,.int .i64 2,.string ⟨#[97]⟩,.string ⟨#[]⟩,
  .string ⟨#[114,117,110,108,111,99,107]⟩,.int .i64 1,.int .i64 2,.string ⟨#[97]⟩,.string ⟨#[]⟩,
  .string ⟨#[119,97,100,100]⟩,.int .i64 2,.int .i64 2,.string ⟨#[97,98]⟩,.string ⟨#[]⟩,
  .string ⟨#[119,100,111,110,101]⟩,.int .i64 1,.int .i64 2,.string ⟨#[97]⟩,.string ⟨#[]⟩,
  .string ⟨#[119,119,97,105,116]⟩,.int .i64 1,.int .i64 2,.string ⟨#[97]⟩,.string ⟨#[]⟩,
  .string ⟨#[99,119,97,105,116]⟩,.int .i64 2,.int .i64 3,.string ⟨#[97,98]⟩,.string ⟨#[]⟩,
  .string ⟨#[115,105,103,110,97,108]⟩,.int .i64 1,.int .i64 2,.string ⟨#[97]⟩,.string ⟨#[]⟩,
  .string ⟨#[98,114,111,97,100,99,97,115,116]⟩,.int .i64 1,.int .i64 3,.string ⟨#[97]⟩,.string ⟨#[]⟩,
  .string ⟨#[97,99,113,117,105,114,101]⟩,.int .i64 1,.int .i64 2,.string ⟨#[97]⟩,.string ⟨#[]⟩,
  .string ⟨#[114,101,108,101,97,115,101]⟩,.int .i64 1,.int .i64 2,.string ⟨#[97]⟩,.string ⟨#[]⟩,
  .string ⟨#[108,111,97,100]⟩,.int .i64 2,.int .i64 2,.string ⟨#[98]⟩,.string ⟨#[97]⟩,
  .string ⟨#[115,116,111,114,101]⟩,.int .i64 2,.int .i64 2,.string ⟨#[97,98]⟩,.string ⟨#[]⟩,
  .string ⟨#[115,119,97,112]⟩,.int .i64 3,.int .i64 3,.string ⟨#[97,98,99]⟩,.string ⟨#[97]⟩,
  .string ⟨#[102,101,116,99,104]⟩,.int .i64 3,.int .i64 3,.string ⟨#[98,99]⟩,.string ⟨#[97]⟩,
  .string ⟨#[105,110,112,117,116]⟩,.int .i64 2,.int .i64 2,.string ⟨#[]⟩,.string ⟨#[97,98]⟩,
  .string ⟨#[111,117,116,112,117,116]⟩,.int .i64 1,.int .i64 2,.string ⟨#[97]⟩,.string ⟨#[]⟩,
  .string ⟨#[112,117,116]⟩,.int .i64 3,.int .i64 2,.string ⟨#[97,98]⟩,.string ⟨#[99]⟩,
  .string ⟨#[103,101,116]⟩,.int .i64 3,.int .i64 2,.string ⟨#[99]⟩,.string ⟨#[97,98]⟩,
  .string ⟨#[97,102,116,101,114]⟩,.int .i64 3,.int .i64 3,.string ⟨#[98,99]⟩,.string ⟨#[97]⟩,
  .string ⟨#[101,118,101,114,121]⟩,.int .i64 3,.int .i64 3,.string ⟨#[98,99]⟩,.string ⟨#[97]⟩,
  .string ⟨#[115,116,111,112]⟩,.int .i64 2,.int .i64 2,.string ⟨#[98]⟩,.string ⟨#[97]⟩,
  .string ⟨#[116,114,97,112]⟩,.int .i64 4,.int .i64 1,.string ⟨#[]⟩,.string ⟨#[]⟩]
def Z58 : Array Value:=(Array.replicate 58 #[.string ⟨#[]⟩,.int .i64 0,.int .i64 0,.string ⟨#[]⟩,.string ⟨#[]⟩]).flatten
def GK : Code → List Oper
 | .region _ ops _ => ops.toList
 | _ => []
def first : Code → Code
 | .seq a _ => a
 | c => c
def second : Code → Code
 | .seq _ b => b
 | c => c
noncomputable def J6 : Code:=Tryz.f104.body.getD .skip
noncomputable def Q8 : List Oper:=GK (first J6)
noncomputable def Nw : List Oper:=GK (first (second J6))
noncomputable def YE : Act:={ tmps:=Array.replicate 60 undef,defers:=[] }
noncomputable def aeJ (B : Nat) : Act:=YE.put (some 0) (.pointer (some ⟨B,0,none⟩))
noncomputable def YF (B : Nat) : Act:=(AX Tryz.prog (Nw.take 59) (aeJ B)).getD YE
theorem uq (w : World) :
  Calls Tryz.prog 104 #[] w fun e w' => e = .returned (.agg Vh) ∧ Below w.heap.size w w':=by
 have hbody : Tryz.f104.body = some (.seq (.region 0 Q8.toArray false) (.seq (.region 1 (Nw.take 59 ++ Nw.drop 59).toArray false) .ret)):=by kernel_rfl
 have hA : Q8 = [Q8.headD default]:=by kernel_rfl
 have hAr : ∀ W : World,(execOp YE.eval (Q8.headD default)).run Tryz.prog W = .ok (.value (.pointer (some ⟨W.heap.size,0,none⟩))) (W.alloc (.cells Z58 148)):=fun W => by kernel_rfl
 have hAg : (Q8.headD default).guard = none:=by kernel_rfl
 have hAd : (Q8.headD default).dst = some 0:=by kernel_rfl
 have hB : ∀ B,AX Tryz.prog (Nw.take 59) (aeJ B) = some (YF B):=fun B => by kernel_rfl
 have hB0 : ∀ B,(YF B).tmps.getD 0 undef = .pointer (some ⟨B,0,none⟩):=fun B => by kernel_rfl
 have hB1 : ∀ B,(YF B).tmps.getD 59 undef = .agg Vh:=fun B => by kernel_rfl
 have hB2 : ∀ B,(YF B).defers = []:=fun B => by kernel_rfl
 have hC : Nw.drop 59 = [(Nw.drop 59).headD default]:=by kernel_rfl
 have hCo : ((Nw.drop 59).headD default).op = .store 148 (.tmp 0) (.tmp 59):=by kernel_rfl
 have hCg : ((Nw.drop 59).headD default).guard = none:=by kernel_rfl
 have hCd : ((Nw.drop 59).headD default).dst = none:=by kernel_rfl
 have hn : Tryz.f104.ntmps = 60:=by kernel_rfl
 have hact : (⟨#[] ++ Array.replicate (Tryz.f104.ntmps - (#[] : Array Value).size) undef,[]⟩ : Act) = YE:=by kernel_rfl
 have hres : Tryz.f104.results = #[.cell 0 148]:=by kernel_rfl
 refine calls_of_wp Tryz.func104 hbody ?_
 rw [hact]
 refine wp_seq (wp_region_list ?_)
 rw [List.toList_toArray]
 generalize amw : Q8.headD default = oA at *
 rw [hA]
 refine wpList_plain hAg fun K hK => ?_
 unfold Oper.wp
 rw [hAr w,Oper.upon_value,hAd]
 refine hK _ _ (wpList_nil ?_)
 show Code.wp _ _ _ _ _
 refine wp_seq (wp_region_list ?_)
 rw [List.toList_toArray]
 refine Fz _ _ (hB w.heap.size) ?_
 rw [hC]
 refine wpList_store_row hCg 148 (.tmp 0) (.tmp 59) hCo w.heap.size Vh (hB0 _) (hB1 _) 148 Z58 (heap_alloc_new _ _) (by kernel_rfl) (by kernel_rfl) (by kernel_rfl) ?_
 rw [hCd]
 refine wpList_nil ?_
 refine wp_ret ?_
 refine bodyPost_ret (results_cell_row hres _ _ w.heap.size 148 Vh (0,0) _ (hB0 _) (setRow_heap _ _ _ _ _ _ (heap_alloc_new _ _)) Tryz.underlying148 rfl (by kernel_rfl)) (hB2 _) ⟨rfl,?_⟩
 exact below_setRow ((Below.refl _ _).alloc (Nat.le_refl _) _) (Nat.le_refl _) _
end Go.Proofs.YtdbpglhdicmhhaaGreatDoor.abA
end

section
namespace Go.Proofs.YtdbpglhdicmhhaaGreatDoor.dH
open Go.RowKit Go.Proofs.YtdbpglhdicmhhaaGreatDoor.abA Go.Proofs.YtdbpglhdicmhhaaGreatDoorW.aI
def row0 : ByteArray × Int × Int × ByteArray × ByteArray:=(⟨#[]⟩,0,0,⟨#[]⟩,⟨#[]⟩)
def rowAt (k : Nat) : ByteArray × Int × Int × ByteArray × ByteArray:=rows.getD k row0
def cellsOf (r : ByteArray × Int × Int × ByteArray × ByteArray) : Array Value:=#[.string r.1,.int .i64 r.2.1,.int .i64 r.2.2.1,.string r.2.2.2.1,.string r.2.2.2.2]
theorem PD {α : Type} (n : Nat) (f g : Nat → α) (h : (List.range n).map f = (List.range n).map g) (k : Nat) (hk : k < n) : f k = g k:=by
 have:=congrArg (fun l => l[k]?) h
 simpa [List.getElem?_map,List.getElem?_range hk] using this
theorem QK (k : Nat) (hk : k < 58) : Vh.extract (k * 5) (k * 5 + 5) = cellsOf (rowAt k) :=
 PD 58 (fun k => Vh.extract (k * 5) (k * 5 + 5)) (fun k => cellsOf (rowAt k)) (by kernel_rfl) k hk
theorem Ja (k : Nat) (hk : k < 58) (w : World) : (Instr.index 148 (.agg Vh) (.int .i64 k)).run Tryz.prog w = .ok (.agg (cellsOf (rowAt k))) w:=by
 have h1 : ∀ w,((sizeOf 127).run Tryz.prog w) = .ok 5 w:=fun w => by kernel_rfl
 have h2 : ∀ w,((isAgg 127).run Tryz.prog w) = .ok true w:=fun w => by kernel_rfl
 have h3:=QK k hk
 have h4 : (k : Int) < 58:=by omega
 have hx : ∀ j : Int,0 ≤ j → j < 58 → (Instr.index 148 (.agg Vh) (.int .i64 j)).run Tryz.prog w = .ok (.agg (Vh.extract (j.toNat * 5) (j.toNat * 5 + 5))) w:=by
  intro j h0 h1'
  simp [Instr.index,asIntOf,run_underlying Tryz.underlying148,part,h1,h2,h0,h1']
 rw [hx k (by omega) h4,Int.toNat_natCast,h3]
theorem sG {W w1 : World} (hb : Below W.heap.size W w1) : (∀ b o,b < W.heap.size → w1.cell? ⟨b,o,none⟩ = W.cell? ⟨b,o,none⟩) ∧ (∀ b o,b < W.heap.size → w1.frozen? ⟨b,o,none⟩ = W.frozen? ⟨b,o,none⟩) :=
 ⟨fun b o h => hb.cell (p:=⟨b,o,none⟩) h,fun b o h => hb.frozen (p:=⟨b,o,none⟩) h⟩
theorem YU (k : Nat) (hk : k < 58) (w : World) :
  Calls Tryz.prog 80 #[.int .i64 (k + 1)] w fun e w' => e = .returned (.tuple #[.agg (cellsOf (rowAt k)),.int .i64 0]) ∧ Below w.heap.size w w':=by
 have hu:=Tryz.underlying127
 have g0 : (0 : Int) ≤ k:=by omega
 have g1 : (k : Int) < 58:=by omega
 have ix : ∀ w : World,(Instr.index 148 (.agg Vh) (.int .i64 k)).run Tryz.prog w = .ok (.agg #[.string (rowAt k).1,.int .i64 (rowAt k).2.1,.int .i64 (rowAt k).2.2.1,.string (rowAt k).2.2.2.1,.string (rowAt k).2.2.2.2]) w:=Ja k hk
 unfold cellsOf
 generalize rowAt k = r at ix ⊢
 go_enter Tryz.func80,Tryz.ntmps80
 go_wp2_with (first | (go_at_call 104; refine (uq _).mono ?_; rintro e w' ⟨rfl,hb⟩; obtain ⟨hc,hf⟩:=sG hb))
 refine bodyPost_ret (dw rfl _ _ w.heap.size 127 #[.string r.1,.int .i64 r.2.1,.int .i64 r.2.2.1,.string r.2.2.2.1,.string r.2.2.2.2] (0,0) _ rfl ?hb hu rfl (by kernel_rfl)) rfl ⟨rfl,?_⟩
 case hb =>
  refine bg (cs:=#[.string r.1,.int .i64 r.2.1,.int .i64 r.2.2.1,.string r.2.2.2.1,.string ⟨#[]⟩]) ?_ 4 _ rfl
  refine bg (cs:=#[.string r.1,.int .i64 r.2.1,.int .i64 r.2.2.1,.string ⟨#[]⟩,.string ⟨#[]⟩]) ?_ 3 _ rfl
  refine bg (cs:=#[.string r.1,.int .i64 r.2.1,.int .i64 0,.string ⟨#[]⟩,.string ⟨#[]⟩]) ?_ 2 _ rfl
  refine bg (cs:=#[.string r.1,.int .i64 0,.int .i64 0,.string ⟨#[]⟩,.string ⟨#[]⟩]) ?_ 1 _ rfl
  refine bg (cs:=#[.string ⟨#[]⟩,.int .i64 0,.int .i64 0,.string ⟨#[]⟩,.string ⟨#[]⟩]) ?_ 0 _ rfl
  exact bU (iU _ _) hb
 iterate 5 refine Below.setCell ?_ (Nat.le_refl w.heap.size) _
 refine Below.trans ((Below.refl w.heap.size w).alloc (Nat.le_refl _) _) (hb.mono ?_)
 rw [World.size_alloc]
 exact Nat.le_succ _
theorem V8 (n : Int) (h : n ≤ 0 ∨ 59 ≤ n) (w : World) :
  Calls Tryz.prog 80 #[.int .i64 n] w fun e w' => e = .returned (.tuple #[.agg (cellsOf row0),.int .i64 60]) ∧ Below w.heap.size w w':=by
 have hu:=Tryz.underlying127
 unfold cellsOf row0
 rcases h with h | h
 all_goals
  go_enter Tryz.func80,Tryz.ntmps80
  go_wp2
  refine bodyPost_ret (dw rfl _ _ w.heap.size 127 #[.string ⟨#[]⟩,.int .i64 0,.int .i64 0,.string ⟨#[]⟩,.string ⟨#[]⟩] (0,0) _ rfl ?_ hu rfl (by kernel_rfl)) rfl ⟨rfl,?_⟩
  ·exact iU _ _
  exact (Below.refl _ _).alloc (Nat.le_refl _) _
end Go.Proofs.YtdbpglhdicmhhaaGreatDoor.dH
end

section
namespace Go.Proofs.YtdbpglhdicmhhaaGreatDoor.rQ
open Go.RowKit Go.Proofs.YtdbpglhdicmhhaaGreatDoorW.aI Go.Proofs.YtdbpglhdicmhhaaGreatDoorW.aZ
def reg (n : Int) : Bool:=decide (0 ≤ n) && decide (n < 16)
def jA (a b c m s : Int) : Bool :=
 if s = 0 then a == 0 && (b == 0 && (c == 0 && m == 0))
 else if s = 1 ∨ s = 2 ∨ s = 3 then (decide (¬ s < 2) || b == 0) && ((decide (¬ s < 3) || c == 0) && (reg a && (reg b && (reg c && m == 0))))
 else if s = 4 then a == 0 && (b == 0 && (c == 0 && (reg a && (decide (0 ≤ m) && decide (m < 65536)))))
 else if s = 6 then b == 0 && (c == 0 && (reg a && (decide (-32768 ≤ m) && decide (m < 32768))))
 else b == 0 && (c == 0 && (reg a && (decide (0 ≤ m) && decide (m < 65536))))
theorem gV (n : Int) (w : World) : Calls Tryz.prog 105 #[.int .i64 n] w fun e w' => e = .returned (.bool (reg n)) ∧ w = w':=by
 by_cases h : 0 ≤ n
 ·go_enter Tryz.func105,Tryz.ntmps105
  go_wp2
  go_ret
  exact ⟨by simp [reg,h],rfl⟩
 ·have hd : reg n = false:=by simp [reg]; omega
  have HD:=Lib.hid hd
  clear hd
  go_enter Tryz.func105,Tryz.ntmps105
  go_wp2
  go_ret
  exact ⟨by rw [HD.out]; rfl,rfl⟩
theorem aeX (o a b c m : Int) (w : World) :
  Calls Tryz.prog 81 #[.agg #[.int .i64 o,.int .i64 a,.int .i64 b,.int .i64 c,.int .i64 m],.int .i64 0] w fun e w' => e = .returned (.bool (a == 0 && (b == 0 && (c == 0 && m == 0)))) ∧ Below w.heap.size w w':=by
 have hu:=Tryz.underlying70
 go_enter Tryz.func81,Tryz.ntmps81
 go_wp2_with (first | (go_at_call 105; refine (gV _ _).mono ?_; rintro e w' ⟨rfl,rfl⟩))
 all_goals go_ret
 all_goals
  refine ⟨?_,?_⟩
  ·first | rfl | (simp_all; done) | (simp_all; omega)
  ·repeat (first | exact Below.refl _ _ | refine Below.alloc ?_ (by simp) _ | refine Below.setCell ?_ (by simp) _ | refine Below.drew ?_)
theorem fits1 (o a b c m : Int) (w : World) :
  Calls Tryz.prog 81 #[.agg #[.int .i64 o,.int .i64 a,.int .i64 b,.int .i64 c,.int .i64 m],.int .i64 1] w fun e w' => e = .returned (.bool (b == 0 && (c == 0 && (reg a && (reg b && (reg c && m == 0)))))) ∧ Below w.heap.size w w':=by
 have hu:=Tryz.underlying70
 go_enter Tryz.func81,Tryz.ntmps81
 go_wp2_with (first | (go_at_call 105; refine (gV _ _).mono ?_; rintro e w' ⟨rfl,rfl⟩))
 all_goals go_ret
 all_goals
  refine ⟨?_,?_⟩
  ·first | rfl | (simp_all; done) | (simp_all; omega)
  ·repeat (first | exact Below.refl _ _ | refine Below.alloc ?_ (by simp) _ | refine Below.setCell ?_ (by simp) _ | refine Below.drew ?_)
theorem aeY (o a b c m : Int) (w : World) :
  Calls Tryz.prog 81 #[.agg #[.int .i64 o,.int .i64 a,.int .i64 b,.int .i64 c,.int .i64 m],.int .i64 2] w fun e w' => e = .returned (.bool (c == 0 && (reg a && (reg b && (reg c && m == 0))))) ∧ Below w.heap.size w w':=by
 have hu:=Tryz.underlying70
 go_enter Tryz.func81,Tryz.ntmps81
 go_wp2_with (first | (go_at_call 105; refine (gV _ _).mono ?_; rintro e w' ⟨rfl,rfl⟩))
 all_goals go_ret
 all_goals
  refine ⟨?_,?_⟩
  ·first | rfl | (simp_all; done) | (simp_all; omega)
  ·repeat (first | exact Below.refl _ _ | refine Below.alloc ?_ (by simp) _ | refine Below.setCell ?_ (by simp) _ | refine Below.drew ?_)
theorem aeZ (o a b c m : Int) (w : World) :
  Calls Tryz.prog 81 #[.agg #[.int .i64 o,.int .i64 a,.int .i64 b,.int .i64 c,.int .i64 m],.int .i64 3] w fun e w' => e = .returned (.bool (reg a && (reg b && (reg c && m == 0)))) ∧ Below w.heap.size w w':=by
 have hu:=Tryz.underlying70
 go_enter Tryz.func81,Tryz.ntmps81
 go_wp2_with (first | (go_at_call 105; refine (gV _ _).mono ?_; rintro e w' ⟨rfl,rfl⟩))
 all_goals go_ret
 all_goals
  refine ⟨?_,?_⟩
  ·first | rfl | (simp_all; done) | (simp_all; omega)
  ·repeat (first | exact Below.refl _ _ | refine Below.alloc ?_ (by simp) _ | refine Below.setCell ?_ (by simp) _ | refine Below.drew ?_)
theorem ae0 (o a b c m : Int) (w : World) :
  Calls Tryz.prog 81 #[.agg #[.int .i64 o,.int .i64 a,.int .i64 b,.int .i64 c,.int .i64 m],.int .i64 4] w fun e w' => e = .returned (.bool (a == 0 && (b == 0 && (c == 0 && (reg a && (decide (0 ≤ m) && decide (m < 65536))))))) ∧ Below w.heap.size w w':=by
 have hu:=Tryz.underlying70
 go_enter Tryz.func81,Tryz.ntmps81
 go_wp2_with (first | (go_at_call 105; refine (gV _ _).mono ?_; rintro e w' ⟨rfl,rfl⟩))
 all_goals go_ret
 all_goals
  refine ⟨?_,?_⟩
  ·first | rfl | (simp_all; done) | (simp_all; omega)
  ·repeat (first | exact Below.refl _ _ | refine Below.alloc ?_ (by simp) _ | refine Below.setCell ?_ (by simp) _ | refine Below.drew ?_)
theorem ae1 (o a b c m : Int) (w : World) :
  Calls Tryz.prog 81 #[.agg #[.int .i64 o,.int .i64 a,.int .i64 b,.int .i64 c,.int .i64 m],.int .i64 6] w fun e w' => e = .returned (.bool (b == 0 && (c == 0 && (reg a && (decide (-32768 ≤ m) && decide (m < 32768)))))) ∧ Below w.heap.size w w':=by
 have hu:=Tryz.underlying70
 go_enter Tryz.func81,Tryz.ntmps81
 go_wp2_with (first | (go_at_call 105; refine (gV _ _).mono ?_; rintro e w' ⟨rfl,rfl⟩))
 go_region
 all_goals go_wp2_with (first | (go_at_call 105; refine (gV _ _).mono ?_; rintro e w' ⟨rfl,rfl⟩))
 all_goals go_ret
 all_goals
  refine ⟨?_,?_⟩
  ·first | rfl | (simp_all; done) | (simp_all; omega)
  ·repeat (first | exact Below.refl _ _ | refine Below.alloc ?_ (by simp) _ | refine Below.setCell ?_ (by simp) _ | refine Below.drew ?_)
theorem ae2 (o a b c m s : Int) (h : s ≠ 0 ∧ s ≠ 1 ∧ s ≠ 2 ∧ s ≠ 3 ∧ s ≠ 4 ∧ s ≠ 6) (w : World) :
  Calls Tryz.prog 81 #[.agg #[.int .i64 o,.int .i64 a,.int .i64 b,.int .i64 c,.int .i64 m],.int .i64 s] w fun e w' => e = .returned (.bool (b == 0 && (c == 0 && (reg a && (decide (0 ≤ m) && decide (m < 65536)))))) ∧ Below w.heap.size w w':=by
 have hu:=Tryz.underlying70
 obtain ⟨h0,h1,h2,h3,h4,h6⟩:=h
 replace h0 : (s == 0) = false:=beq_eq_false_iff_ne.2 h0
 replace h1 : (s == 1) = false:=beq_eq_false_iff_ne.2 h1
 replace h2 : (s == 2) = false:=beq_eq_false_iff_ne.2 h2
 replace h3 : (s == 3) = false:=beq_eq_false_iff_ne.2 h3
 replace h4 : (s == 4) = false:=beq_eq_false_iff_ne.2 h4
 replace h6 : (s == 6) = false:=beq_eq_false_iff_ne.2 h6
 go_enter Tryz.func81,Tryz.ntmps81
 go_wp2_with (first | (go_at_call 105; refine (gV _ _).mono ?_; rintro e w' ⟨rfl,rfl⟩))
 go_region
 all_goals go_wp2_with (first | (go_at_call 105; refine (gV _ _).mono ?_; rintro e w' ⟨rfl,rfl⟩))
 all_goals go_ret
 all_goals
  refine ⟨?_,?_⟩
  ·first | rfl | (simp_all; done) | (simp_all; omega)
  ·repeat (first | exact Below.refl _ _ | refine Below.alloc ?_ (by simp) _ | refine Below.setCell ?_ (by simp) _ | refine Below.drew ?_)
end Go.Proofs.YtdbpglhdicmhhaaGreatDoor.rQ
end

section
namespace Go.Proofs.YtdbpglhdicmhhaaGreatDoor.GA
open Go.RowKit Go.Proofs.YtdbpglhdicmhhaaGreatDoorW.aI Go.Proofs.YtdbpglhdicmhhaaGreatDoorW.aX Go.Proofs.YtdbpglhdicmhhaaGreatDoorW.aZ
def fO.f (a0 : Int) : Option (ByteArray × Int × Int × ByteArray × ByteArray × Int) :=
 if 1 ≤ a0 ∧ a0 ≤ 58 then some ((dH.rowAt (a0 - 1).toNat).1,(dH.rowAt (a0 - 1).toNat).2.1,(dH.rowAt (a0 - 1).toNat).2.2.1,(dH.rowAt (a0 - 1).toNat).2.2.2.1,(dH.rowAt (a0 - 1).toNat).2.2.2.2,0)
 else some (⟨#[]⟩,0,0,⟨#[]⟩,⟨#[]⟩,60)
theorem fO.calls (a0 : Int) (r1 : ByteArray) (r2 : Int) (r3 : Int) (r4 : ByteArray) (r5 : ByteArray) (r6 : Int) (w : World) (h : fO.f a0 = some (r1,r2,r3,r4,r5,r6)) :
  Calls Tryz.prog 80 #[.int .i64 a0] w fun e w' => e = .returned (.tuple #[.agg #[.string r1,.int .i64 r2,.int .i64 r3,.string r4,.string r5],.int .i64 r6]) ∧ Below w.heap.size w w':=by
 unfold fO.f at h
 split at h
 ·rename_i hr
  obtain ⟨k,hk⟩ : ∃ k : Nat,a0 - 1 = (k : Int):=⟨(a0 - 1).toNat,by omega⟩
  obtain rfl : a0 = (k : Int) + 1:=by omega
  rw [hk,Int.toNat_natCast] at h
  simp only [Option.some.injEq,Prod.mk.injEq] at h
  obtain ⟨rfl,rfl,rfl,rfl,rfl,rfl⟩:=h
  exact dH.YU k (by omega) w
 ·rename_i hr
  simp only [Option.some.injEq,Prod.mk.injEq] at h
  obtain ⟨rfl,rfl,rfl,rfl,rfl,rfl⟩:=h
  exact dH.V8 a0 (by omega) w
end Go.Proofs.YtdbpglhdicmhhaaGreatDoor.GA
end

section
namespace Go.Proofs.YtdbpglhdicmhhaaGreatDoor.GA
open Go.RowKit Go.Proofs.YtdbpglhdicmhhaaGreatDoorW.aI Go.Proofs.YtdbpglhdicmhhaaGreatDoorW.aX Go.Proofs.YtdbpglhdicmhhaaGreatDoorW.aZ
def jg.f (gy : Int) (gB : Int) (gG : Int) (gI : Int) (jl : Int) (a1 : Int) : Option (Bool):=some (rQ.jA gB gG gI jl a1)
theorem jg.calls (gy : Int) (gB : Int) (gG : Int) (gI : Int) (jl : Int) (a1 : Int) (r : Bool) (w : World) (h : jg.f gy gB gG gI jl a1 = some r) :
  Calls Tryz.prog 81 #[.agg #[.int .i64 gy,.int .i64 gB,.int .i64 gG,.int .i64 gI,.int .i64 jl],.int .i64 a1] w fun e w' => e = .returned (.bool r) ∧ Below w.heap.size w w':=by
 obtain rfl:=Option.some.inj h
 by_cases h0 : a1 = 0
 ·subst h0; exact rQ.aeX gy gB gG gI jl w
 by_cases h1 : a1 = 1
 ·subst h1; exact (rQ.fits1 gy gB gG gI jl w)
 by_cases h2 : a1 = 2
 ·subst h2; exact (rQ.aeY gy gB gG gI jl w)
 by_cases h3 : a1 = 3
 ·subst h3; exact (rQ.aeZ gy gB gG gI jl w)
 by_cases h4 : a1 = 4
 ·subst h4; exact (rQ.ae0 gy gB gG gI jl w)
 by_cases h6 : a1 = 6
 ·subst h6; exact (rQ.ae1 gy gB gG gI jl w)
 have e : rQ.jA gB gG gI jl a1 = (gG == 0 && (gI == 0 && (rQ.reg gB && (decide (0 ≤ jl) && decide (jl < 65536))))):=by
  unfold rQ.jA
  rw [if_neg h0,if_neg (by omega),if_neg h4,if_neg h6]
 rw [e]
 exact rQ.ae2 gy gB gG gI jl a1 ⟨h0,h1,h2,h3,h4,h6⟩ w
end Go.Proofs.YtdbpglhdicmhhaaGreatDoor.GA
end
