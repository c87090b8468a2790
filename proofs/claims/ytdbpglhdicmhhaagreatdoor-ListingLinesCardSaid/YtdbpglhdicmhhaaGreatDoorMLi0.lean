import Derived.Test.YtdbpglhdicmhhaaGreatDoorProg
import Derived.WalkKit
import Derived.WalkLawsBesides
import Derived.Below
import Derived.IntWalk
import Derived.Laws.Tables
import Derived.Laws.Rows
import Derived.Laws.CopyOwn
set_option linter.unusedVariables false
set_option linter.unusedSimpArgs false
section
namespace Go.Proofs.YtdbpglhdicmhhaaGreatDoor.Htab
open Go.RowKit
def quiet {α : Type} (P : Program) : Sem α → Option α
 | .pure a => some a
 | .program k => quiet P (k P)
 | .mark _ k => quiet P k
 | _ => none
theorem quiet_run {α : Type} {P : Program} : ∀ {s : Sem α} {a : α},quiet P s = some a → ∀ w,s.run P w = .ok a w
 | .pure _,_,h,w => by simp only [quiet,Option.some.injEq] at h; subst h; rfl
 | .program k,_,h,w => by simp only [quiet] at h; exact quiet_run (s:=k P) h w
 | .mark _ k,_,h,w => by simp only [quiet] at h; exact quiet_run (s:=k) h w
def quietOps (P : Program) : List Oper → Act → Option Act
 | [],a => some a
 | o :: rest,a => match o.guard with
  | some _ => none
  | none => match quiet P (execOp a.eval o) with
   | some (.value v) => quietOps P rest (a.put o.dst v)
   | _ => none
theorem wpList_quiet {P : Program} {ops : Array Oper} {Q : Exit → Act → World → Prop} {rest : List Oper} {a' : Act} {w : World} :
  ∀ (os : List Oper) (a : Act),quietOps P os a = some a' → wpList P ops Q rest a' w → wpList P ops Q (os ++ rest) a w
 | [],a,h,k => by simp only [quietOps,Option.some.injEq] at h; subst h; exact k
 | o :: os,a,h,k => by
  simp only [quietOps] at h
  split at h
  ·cases h
  ·rename_i hg
   split at h
   ·rename_i v hv
    refine wpList_plain hg fun K hK => ?_
    unfold Oper.wp
    rw [quiet_run hv w,Oper.upon_value]
    exact hK _ _ (wpList_quiet os _ h k)
   ·cases h
def rows : List (ByteArray × Int × Int × ByteArray × ByteArray) :=
 [(⟨#[110,111,112]⟩,0,1,⟨#[]⟩,⟨#[]⟩),
  (⟨#[115,101,116]⟩,6,1,⟨#[]⟩,⟨#[97]⟩),
  (⟨#[104,105,103,104]⟩,5,1,⟨#[97]⟩,⟨#[97]⟩),
  (⟨#[109,111,118,101]⟩,2,1,⟨#[98]⟩,⟨#[97]⟩),
  (⟨#[97,100,100]⟩,3,1,⟨#[98,99]⟩,⟨#[97]⟩),
  (⟨#[115,117,98]⟩,3,1,⟨#[98,99]⟩,⟨#[97]⟩),
  (⟨#[109,117,108]⟩,3,3,⟨#[98,99]⟩,⟨#[97]⟩),
  (⟨#[100,105,118]⟩,3,8,⟨#[98,99]⟩,⟨#[97]⟩),
  (⟨#[114,101,109]⟩,3,8,⟨#[98,99]⟩,⟨#[97]⟩),
  (⟨#[97,110,100]⟩,3,1,⟨#[98,99]⟩,⟨#[97]⟩),
  (⟨#[111,114]⟩,3,1,⟨#[98,99]⟩,⟨#[97]⟩),
  (⟨#[120,111,114]⟩,3,1,⟨#[98,99]⟩,⟨#[97]⟩),
  (⟨#[115,104,108]⟩,3,1,⟨#[98,99]⟩,⟨#[97]⟩),
  (⟨#[115,104,114]⟩,3,1,⟨#[98,99]⟩,⟨#[97]⟩),
  (⟨#[108,101,115,115]⟩,3,1,⟨#[98,99]⟩,⟨#[97]⟩),
  (⟨#[101,113,117,97,108]⟩,3,1,⟨#[98,99]⟩,⟨#[97]⟩),
  (⟨#[106,117,109,112]⟩,4,1,⟨#[]⟩,⟨#[]⟩),
  (⟨#[122,101,114,111]⟩,5,1,⟨#[97]⟩,⟨#[]⟩),
  (⟨#[115,111,109,101]⟩,5,1,⟨#[97]⟩,⟨#[]⟩),
  (⟨#[99,97,108,108]⟩,4,2,⟨#[]⟩,⟨#[]⟩),
  (⟨#[114,101,116]⟩,0,2,⟨#[]⟩,⟨#[]⟩),
  (⟨#[115,112,97,119,110]⟩,5,4,⟨#[97,108,108]⟩,⟨#[97]⟩),
  (⟨#[121,105,101,108,100]⟩,0,1,⟨#[]⟩,⟨#[]⟩),
  (⟨#[101,120,105,116]⟩,0,1,⟨#[]⟩,⟨#[]⟩),
  (⟨#[115,101,108,102]⟩,1,1,⟨#[]⟩,⟨#[97]⟩),
  (⟨#[110,111,119]⟩,1,1,⟨#[]⟩,⟨#[97]⟩),
  (⟨#[115,108,101,101,112]⟩,1,1,⟨#[97]⟩,⟨#[]⟩),
  (⟨#[109,97,107,101]⟩,2,4,⟨#[98]⟩,⟨#[97]⟩),
  (⟨#[115,101,110,100]⟩,2,2,⟨#[97,98]⟩,⟨#[]⟩),
  (⟨#[114,101,99,118]⟩,3,2,⟨#[99]⟩,⟨#[97,98]⟩),
  (⟨#[99,108,111,115,101]⟩,1,2,⟨#[97]⟩,⟨#[]⟩),
  (⟨#[108,101,110]⟩,2,1,⟨#[98]⟩,⟨#[97]⟩),
  (⟨#[99,97,112]⟩,2,1,⟨#[98]⟩,⟨#[97]⟩),
  (⟨#[115,101,108,101,99,116]⟩,5,4,⟨#[97,108,108]⟩,⟨#[97,108,108]⟩),
  (⟨#[108,111,99,107]⟩,1,2,⟨#[97]⟩,⟨#[]⟩),
  (⟨#[117,110,108,111,99,107]⟩,1,2,⟨#[97]⟩,⟨#[]⟩),
  (⟨#[114,108,111,99,107]⟩,1,2,⟨#[97]⟩,⟨#[]⟩),
  (⟨#[114,117,110,108,111,99,107]⟩,1,2,⟨#[97]⟩,⟨#[]⟩),
  (⟨#[119,97,100,100]⟩,2,2,⟨#[97,98]⟩,⟨#[]⟩),
  (⟨#[119,100,111,110,101]⟩,1,2,⟨#[97]⟩,⟨#[]⟩),
  (⟨#[119,119,97,105,116]⟩,1,2,⟨#[97]⟩,⟨#[]⟩),
  (⟨#[99,119,97,105,116]⟩,2,3,⟨#[97,98]⟩,⟨#[]⟩),
  (⟨#[115,105,103,110,97,108]⟩,1,2,⟨#[97]⟩,⟨#[]⟩),
  (⟨#[98,114,111,97,100,99,97,115,116]⟩,1,3,⟨#[97]⟩,⟨#[]⟩),
  (⟨#[97,99,113,117,105,114,101]⟩,1,2,⟨#[97]⟩,⟨#[]⟩),
  (⟨#[114,101,108,101,97,115,101]⟩,1,2,⟨#[97]⟩,⟨#[]⟩),
  (⟨#[108,111,97,100]⟩,2,2,⟨#[98]⟩,⟨#[97]⟩),
  (⟨#[115,116,111,114,101]⟩,2,2,⟨#[97,98]⟩,⟨#[]⟩),
  (⟨#[115,119,97,112]⟩,3,3,⟨#[97,98,99]⟩,⟨#[97]⟩),
  (⟨#[102,101,116,99,104]⟩,3,3,⟨#[98,99]⟩,⟨#[97]⟩),
  (⟨#[105,110,112,117,116]⟩,2,2,⟨#[]⟩,⟨#[97,98]⟩),
  (⟨#[111,117,116,112,117,116]⟩,1,2,⟨#[97]⟩,⟨#[]⟩),
  (⟨#[112,117,116]⟩,3,2,⟨#[97,98]⟩,⟨#[99]⟩),
  (⟨#[103,101,116]⟩,3,2,⟨#[99]⟩,⟨#[97,98]⟩),
  (⟨#[97,102,116,101,114]⟩,3,3,⟨#[98,99]⟩,⟨#[97]⟩),
  (⟨#[101,118,101,114,121]⟩,3,3,⟨#[98,99]⟩,⟨#[97]⟩),
  (⟨#[115,116,111,112]⟩,2,2,⟨#[98]⟩,⟨#[97]⟩),
  (⟨#[116,114,97,112]⟩,4,1,⟨#[]⟩,⟨#[]⟩)]
def T58 : Array Value :=
 #[.string ⟨#[110,111,112]⟩,.int .i64 0,.int .i64 1,.string ⟨#[]⟩,.string ⟨#[]⟩,
  .string ⟨#[115,101,116]⟩,.int .i64 6,.int .i64 1,.string ⟨#[]⟩,.string ⟨#[97]⟩,
  .string ⟨#[104,105,103,104]⟩,.int .i64 5,.int .i64 1,.string ⟨#[97]⟩,.string ⟨#[97]⟩,
  .string ⟨#[109,111,118,101]⟩,.int .i64 2,.int .i64 1,.string ⟨#[98]⟩,.string ⟨#[97]⟩,
  .string ⟨#[97,100,100]⟩,.int .i64 3,.int .i64 1,.string ⟨#[98,99]⟩,.string ⟨#[97]⟩,
  .string ⟨#[115,117,98]⟩,.int .i64 3,.int .i64 1,.string ⟨#[98,99]⟩,.string ⟨#[97]⟩,
  .string ⟨#[109,117,108]⟩,.int .i64 3,.int .i64 3,.string ⟨#[98,99]⟩,.string ⟨#[97]⟩,
  .string ⟨#[100,105,118]⟩,.int .i64 3,.int .i64 8,.string ⟨#[98,99]⟩,.string ⟨#[97]⟩,
  .string ⟨#[114,101,109]⟩,.int .i64 3,.int .i64 8,.string ⟨#[98,99]⟩,.string ⟨#[97]⟩,
  .string ⟨#[97,110,100]⟩,.int .i64 3,.int .i64 1,.string ⟨#[98,99]⟩,.string ⟨#[97]⟩,
  .string ⟨#[111,114]⟩,.int .i64 3,.int .i64 1,.string ⟨#[98,99]⟩,.string ⟨#[97]⟩,
  .string ⟨#[120,111,114]⟩,.int .i64 3,.int .i64 1,.string ⟨#[98,99]⟩,.string ⟨#[97]⟩,
  .string ⟨#[115,104,108]⟩,.int .i64 3,.int .i64 1,.string ⟨#[98,99]⟩,.string ⟨#[97]⟩,
  .string ⟨#[115,104,114]⟩,.int .i64 3,.int .i64 1,.string ⟨#[98,99]⟩,.string ⟨#[97]⟩,
  .string ⟨#[108,101,115,115]⟩,.int .i64 3,.int .i64 1,.string ⟨#[98,99]⟩,.string ⟨#[97]⟩,
  .string ⟨#[101,113,117,97,108]⟩,.int .i64 3,.int .i64 1,.string ⟨#[98,99]⟩,.string ⟨#[97]⟩,
  .string ⟨#[106,117,109,112]⟩,.int .i64 4,.int .i64 1,.string ⟨#[]⟩,.string ⟨#[]⟩,
  .string ⟨#[122,101,114,111]⟩,.int .i64 5,.int .i64 1,.string ⟨#[97]⟩,.string ⟨#[]⟩,
  .string ⟨#[115,111,109,101]⟩,.int .i64 5,.int .i64 1,.string ⟨#[97]⟩,.string ⟨#[]⟩,
  .string ⟨#[99,97,108,108]⟩,.int .i64 4,.int .i64 2,.string ⟨#[]⟩,.string ⟨#[]⟩,
  .string ⟨#[114,101,116]⟩,.int .i64 0,.int .i64 2,.string ⟨#[]⟩,.string ⟨#[]⟩,
  .string ⟨#[115,112,97,119,110]⟩,.int .i64 5,.int .i64 4,.string ⟨#[97,108,108]⟩,.string ⟨#[97]⟩,
  .string ⟨#[121,105,101,108,100]⟩,.int .i64 0,.int .i64 1,.string ⟨#[]⟩,.string ⟨#[]⟩,
  .string ⟨#[101,120,105,116]⟩,.int .i64 0,.int .i64 1,.string ⟨#[]⟩,.string ⟨#[]⟩,
  .string ⟨#[115,101,108,102]⟩,.int .i64 1,.int .i64 1,.string ⟨#[]⟩,.string ⟨#[97]⟩,
  .string ⟨#[110,111,119]⟩,.int .i64 1,.int .i64 1,.string ⟨#[]⟩,.string ⟨#[97]⟩,
  .string ⟨#[115,108,101,101,112]⟩,.int .i64 1,.int .i64 1,.string ⟨#[97]⟩,.string ⟨#[]⟩,
  .string ⟨#[109,97,107,101]⟩,.int .i64 2,.int .i64 4,.string ⟨#[98]⟩,.string ⟨#[97]⟩,
  .string ⟨#[115,101,110,100]⟩,.int .i64 2,.int .i64 2,.string ⟨#[97,98]⟩,.string ⟨#[]⟩,
  .string ⟨#[114,101,99,118]⟩,.int .i64 3,.int .i64 2,.string ⟨#[99]⟩,.string ⟨#[97,98]⟩,
  .string ⟨#[99,108,111,115,101]⟩,.int .i64 1,.int .i64 2,.string ⟨#[97]⟩,.string ⟨#[]⟩,
  .string ⟨#[108,101,110]⟩,.int .i64 2,.int .i64 1,.string ⟨#[98]⟩,.string ⟨#[97]⟩,
  .string ⟨#[99,97,112]⟩,.int .i64 2,.int .i64 1,.string ⟨#[98]⟩,.string ⟨#[97]⟩,
  .string ⟨#[115,101,108,101,99,116]⟩,.int .i64 5,.int .i64 4,.string ⟨#[97,108,108]⟩,.string ⟨#[97,108,108]⟩,
  .string ⟨#[108,111,99,107]⟩,.int .i64 1,.int .i64 2,.string ⟨#[97]⟩,.string ⟨#[]⟩,
  .string ⟨#[117,110,108,111,99,107]⟩,.int .i64 1,.int .i64 2,.string ⟨#[97]⟩,.string ⟨#[]⟩,
  .string ⟨#[114,108,111,99,107]⟩,.int .i64 1,.int .i64 2,.string ⟨#[97]⟩,.string ⟨#[]⟩,
  .string ⟨#[114,117,110,108,111,99,107]⟩,.int .i64 1,.int .i64 2,.string ⟨#[97]⟩,.string ⟨#[]⟩,
  .string ⟨#[119,97,100,100]⟩,.int .i64 2,.int .i64 2,.string ⟨#[97,98]⟩,.string ⟨#[]⟩,
  .string ⟨#[119,100,111,110,101]⟩,.int .i64 1,.int .i64 2,.string ⟨#[97]⟩,.string ⟨#[]⟩,
  .string ⟨#[119,119,97,105,116]⟩,.int .i64 1,.int .i64 2,.string ⟨#[97]⟩,.string ⟨#[]⟩,
  .string ⟨#[99,119,97,105,116]⟩,.int .i64 2,.int .i64 3,.string ⟨#[97,98]⟩,.string ⟨#[]⟩,
  .string ⟨#[115,105,103,110,97,108]⟩,.int .i64 1,.int .i64 2,.string ⟨#[97]⟩,.string ⟨#[]⟩,
  .string ⟨#[98,114,111,97,100,99,97,115,116]⟩,.int .i64 1,.int .i64 3,.string ⟨#[97]⟩,.string ⟨#[]⟩,
  .string ⟨#[97,99,113,117,105,114,101]⟩,.int .i64 1,.int .i64 2,.string ⟨#[97]⟩,.string ⟨#[]⟩,
  .string ⟨#[114,101,108,101,97,115,101]⟩,.int .i64 1,.int .i64 2,.string ⟨#[97]⟩,.string ⟨#[]⟩,
  .string ⟨#[108,111,97,100]⟩,.int .i64 2,.int .i64 2,.string ⟨#[98]⟩,.string ⟨#[97]⟩,
  .string ⟨#[115,116,111,114,101]⟩,.int .i64 2,.int .i64 2,.string ⟨#[97,98]⟩,.string ⟨#[]⟩,
  .string ⟨#[115,119,97,112]⟩,.int .i64 3,.int .i64 3,.string ⟨#[97,98,99]⟩,.string ⟨#[97]⟩,
  .string ⟨#[102,101,116,99,104]⟩,.int .i64 3,.int .i64 3,.string ⟨#[98,99]⟩,.string ⟨#[97]⟩,
  .string ⟨#[105,110,112,117,116]⟩,.int .i64 2,.int .i64 2,.string ⟨#[]⟩,.string ⟨#[97,98]⟩,
  .string ⟨#[111,117,116,112,117,116]⟩,.int .i64 1,.int .i64 2,.string ⟨#[97]⟩,.string ⟨#[]⟩,
  .string ⟨#[112,117,116]⟩,.int .i64 3,.int .i64 2,.string ⟨#[97,98]⟩,.string ⟨#[99]⟩,
  .string ⟨#[103,101,116]⟩,.int .i64 3,.int .i64 2,.string ⟨#[99]⟩,.string ⟨#[97,98]⟩,
  .string ⟨#[97,102,116,101,114]⟩,.int .i64 3,.int .i64 3,.string ⟨#[98,99]⟩,.string ⟨#[97]⟩,
  .string ⟨#[101,118,101,114,121]⟩,.int .i64 3,.int .i64 3,.string ⟨#[98,99]⟩,.string ⟨#[97]⟩,
  .string ⟨#[115,116,111,112]⟩,.int .i64 2,.int .i64 2,.string ⟨#[98]⟩,.string ⟨#[97]⟩,
  .string ⟨#[116,114,97,112]⟩,.int .i64 4,.int .i64 1,.string ⟨#[]⟩,.string ⟨#[]⟩]
def Z58 : Array Value:=(Array.replicate 58 #[.string ⟨#[]⟩,.int .i64 0,.int .i64 0,.string ⟨#[]⟩,.string ⟨#[]⟩]).flatten
def opsOfRegion : Code → List Oper
 | .region _ ops _ => ops.toList
 | _ => []
def first : Code → Code
 | .seq a _ => a
 | c => c
def second : Code → Code
 | .seq _ b => b
 | c => c
noncomputable def bodyTable : Code:=Tryz.f104.body.getD .skip
noncomputable def opsA : List Oper:=opsOfRegion (first bodyTable)
noncomputable def opsB : List Oper:=opsOfRegion (first (second bodyTable))
noncomputable def act0 : Act:={ tmps:=Array.replicate 60 undef,defers:=[] }
noncomputable def actA (B : Nat) : Act:=act0.put (some 0) (.pointer (some ⟨B,0,none⟩))
noncomputable def actB (B : Nat) : Act:=(quietOps Tryz.prog (opsB.take 59) (actA B)).getD act0
set_option maxHeartbeats 1000000 in
set_option maxRecDepth 100000 in
theorem table_calls (w : World) :
  Calls Tryz.prog 104 #[] w fun e w' => e = .returned (.agg T58) ∧ Below w.heap.size w w':=by
 have hbody : Tryz.f104.body = some (.seq (.region 0 opsA.toArray false) (.seq (.region 1 (opsB.take 59 ++ opsB.drop 59).toArray false) .ret)):=by kernel_rfl
 have hA : opsA = [opsA.headD default]:=by kernel_rfl
 have hAr : ∀ W : World,(execOp act0.eval (opsA.headD default)).run Tryz.prog W = .ok (.value (.pointer (some ⟨W.heap.size,0,none⟩))) (W.alloc (.cells Z58 148)):=fun W => by kernel_rfl
 have hAg : (opsA.headD default).guard = none:=by kernel_rfl
 have hAd : (opsA.headD default).dst = some 0:=by kernel_rfl
 have hB : ∀ B,quietOps Tryz.prog (opsB.take 59) (actA B) = some (actB B):=fun B => by kernel_rfl
 have hB0 : ∀ B,(actB B).tmps.getD 0 undef = .pointer (some ⟨B,0,none⟩):=fun B => by kernel_rfl
 have hB1 : ∀ B,(actB B).tmps.getD 59 undef = .agg T58:=fun B => by kernel_rfl
 have hB2 : ∀ B,(actB B).defers = []:=fun B => by kernel_rfl
 have hC : opsB.drop 59 = [(opsB.drop 59).headD default]:=by kernel_rfl
 have hCo : ((opsB.drop 59).headD default).op = .store 148 (.tmp 0) (.tmp 59):=by kernel_rfl
 have hCg : ((opsB.drop 59).headD default).guard = none:=by kernel_rfl
 have hCd : ((opsB.drop 59).headD default).dst = none:=by kernel_rfl
 have hn : Tryz.f104.ntmps = 60:=by kernel_rfl
 have hact : (⟨#[] ++ Array.replicate (Tryz.f104.ntmps - (#[] : Array Value).size) undef,[]⟩ : Act) = act0:=by kernel_rfl
 have hres : Tryz.f104.results = #[.cell 0 148]:=by kernel_rfl
 refine calls_of_wp Tryz.func104 hbody ?_
 rw [hact]
 refine wp_seq (wp_region_list ?_)
 rw [List.toList_toArray]
 generalize hAeq : opsA.headD default = oA at *
 rw [hA]
 refine wpList_plain hAg fun K hK => ?_
 unfold Oper.wp
 rw [hAr w,Oper.upon_value,hAd]
 refine hK _ _ (wpList_nil ?_)
 show Code.wp _ _ _ _ _
 refine wp_seq (wp_region_list ?_)
 rw [List.toList_toArray]
 refine wpList_quiet _ _ (hB w.heap.size) ?_
 rw [hC]
 refine wpList_store_row hCg 148 (.tmp 0) (.tmp 59) hCo w.heap.size T58 (hB0 _) (hB1 _) 148 Z58 (heap_alloc_new _ _) (by kernel_rfl) (by kernel_rfl) (by kernel_rfl) ?_
 rw [hCd]
 refine wpList_nil ?_
 refine wp_ret ?_
 refine bodyPost_ret (results_cell_row hres _ _ w.heap.size 148 T58 (0,0) _ (hB0 _) (setRow_heap _ _ _ _ _ _ (heap_alloc_new _ _)) Tryz.underlying148 rfl (by kernel_rfl)) (hB2 _) ⟨rfl,?_⟩
 exact below_setRow ((Below.refl _ _).alloc (Nat.le_refl _) _) (Nat.le_refl _) _
end Go.Proofs.YtdbpglhdicmhhaaGreatDoor.Htab
end
