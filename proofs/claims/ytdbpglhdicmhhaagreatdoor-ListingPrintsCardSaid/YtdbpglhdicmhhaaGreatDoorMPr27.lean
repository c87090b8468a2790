import Derived.Test.YtdbpglhdicmhhaaGreatDoorMPr26
import Derived.Deep.Cut
set_option maxHeartbeats 8000000
set_option maxRecDepth 100000
set_option linter.unusedVariables false
set_option linter.unusedSimpArgs false
section
namespace Go.Proofs.YtdbpglhdicmhhaaGreatDoor.qp
open Go.RowKit Go.Shelf Go.Proofs.YtdbpglhdicmhhaaGreatDoorW.aI Go.Proofs.YtdbpglhdicmhhaaGreatDoorW.aX Go.Proofs.YtdbpglhdicmhhaaGreatDoorW.aZ iM
open Go.Proofs.YtdbpglhdicmhhaaGreatDoor.GA
noncomputable def wP : Code:=(List.range 13).foldl (fun c _ => ads c) (Tryz.f63.body.getD .skip)
theorem WY {s : St} {n : Nat} {op e : Int} {abc : List Int} {rest : List ByteArray} (h : (bW (bn op)).2 = false) : s.jC n op e abc rest = s.fin n e (op :: abc ++ [0]):=if_pos h
theorem Lu {rest : List ByteArray} {m : Nat} {u : ByteArray} (h : rest[m]? = some u) : rest.getD m ByteArray.empty = u:=by rw [List.getD_eq_getElem?_getD,h]; rfl
section
variable {s : St} {n m : Nat} {op e z : Int} {abc : List Int} {rest : List ByteArray} {u : ByteArray} (h : (bW (bn op)).2 = true) (hm : (bW (bn op)).1 = (m : Int)) (hu : rest[m]? = some u)
include h hm hu
theorem WX (wK : Q.xP u.data.toList = (z,false)) (hr : wY op = true) (hn : Q.nameB u.data.toList = true) : s.jC n op e abc rest = St.fin { s with uses:=s.uses ++ [([(n : Int),(s.funcs.length : Int),s.now,op],u)] } n e (op :: abc ++ [0]):=by
 unfold St.jC
 rw [if_neg (by rw [h]; simp),hm,Int.toNat_natCast]
 simp only [Lu hu,wK,hr,hn]
 rfl
theorem O9 (wK : Q.xP u.data.toList = (z,false)) (hr : (wY op && Q.nameB u.data.toList) = false) : s.jC n op e abc rest = (s,70):=by
 unfold St.jC
 rw [if_neg (by rw [h]; simp),hm,Int.toNat_natCast]
 simp only [Lu hu,wK,hr]
 rfl
theorem CU (wK : Q.xP u.data.toList = (z,true)) : s.jC n op e abc rest = s.fin n (if outOf (bn op) z then 73 else e) (op :: abc ++ [z]):=by
 unfold St.jC
 rw [if_neg (by rw [h]; simp),hm,Int.toNat_natCast]
 simp only [Lu hu,wK]
 rfl
end
theorem XB {l : List UInt8} {z : Int} (h : Q.xP l = (z,false)) : z = 0:=by
 unfold Q.xP at h
 split at h
 ·simp at h
 ·injection h with h1 _; exact h1.symm
theorem vO.use {k : Nat} {s : St} (h : vO k s) (hu : s.uses.length < k) (x : List Int × ByteArray) : vO k { s with uses:=s.uses ++ [x] } :=
 ⟨h.code,h.funcs,h.tabs,h.ins,h.opn,by show (s.uses ++ [x]).length ≤ k; rw [List.length_append]; exact hu,h.cs⟩
theorem Va {es : List TypeId} {w0 W : World} {l : List (Nat × Array Value × TypeId)} {fx : List (Nat × Obj)} {vc vf vt vi vo vu v5 : Value} {gf gt gl : Nat} {of ot ol : Obj} {vs : List Value} {s : St} {r : Row} {x : List Int × ByteArray}
  (M : bf es w0 W l fx ((r :: dO ⟨vc,vf,vt,vi,vo,vu,gf,gt,gl,of,ot,ol,vs⟩ s).set 6 ⟨Kd.raw 5,111,v5,s.uses.map zH ++ [zH x]⟩)) :
  bf es w0 W l fx (r :: dO ⟨vc,vf,vt,vi,vo,v5,gf,gt,gl,of,ot,ol,vs⟩ { s with uses:=s.uses ++ [x] }):=by
 have key : ∀ A,A = s.uses.map zH ++ [zH x] → bf es w0 W l fx (r :: ⟨Kd.int .u32,39,vc,s.code⟩ :: ⟨Kd.raw 2,41,vf,s.funcs.map ints⟩ :: ⟨Kd.raw 2,44,vt,fF vs s.tabs⟩ :: ⟨Kd.raw 5,70,vi,s.ins.map ints⟩ :: ⟨Kd.int .i64,3,vo,s.opn⟩ :: ⟨Kd.raw 5,111,v5,A⟩ :: iE vs s.tabs):=by
  intro A hA
  rw [hA]; exact M
 exact key _ List.map_append
section
variable {k : Nat} {w0 W : World} {gr g14 gw : Nat} {l : List (Nat × Array Value × TypeId)} {h : Hd} {s : St} {op a b c jC e : Int} {n m c' nn cc' ow : Nat} {s0 : ByteArray} {r : List ByteArray}
theorem acT {u1 u2 u3 u9 u13 u15 u16 yh yj yu u20 u21 u22 u23 u24 u25 u26 u27 u28 u29 u30 u31 u32 u33 u34 u35 u36 u37 u38 yw u40 yx u42 yC u44 u45 u46 yD u48 u49 yE u51 yF u53 yG u55 yH yI u58 u59 u60 u61 yJ u63 u64 yK u66 yL u68 u69 u70 yM u72 u73 yN u75 yP yQ yS yT yU yV yX yY yZ zf zh zi zk zn zo zq zu u93 zA zB zC zD zF zG jM jO jP jQ jR u105 jS jT jU jV jW jX jY jZ ku kD kF kG kH u119 kJ kQ kS kT u124 kU kV u127 kX kZ lg u131 lq lu lC lD lF lG u138 u139 lH lI lJ lK lM lN lQ lS lT lU lV lW u152 lX u154 lY lZ l7 l9 mg mD mF u162 mG u164 mJ mM mO mP mQ mV mW mX mY mZ ng ny nC nD nG nH nI nJ nK nM nN nO nP nR nS nT nU nV u193 u194 nX u196 nY u198 nZ oh u201 oq ou oz oC u206 oD u208 oG u210 oH oI oJ oK oL oM oN oO oP oQ oU oV oW oZ o7 o8 o9 pq pz pF pG pI pJ u234 pK u236 pO pR pU pV pW pX : Value} (M0 : bf vk w0 W ((gr,gZ h s,55) :: l) (Ea h) (⟨Kd.raw 5,70,.slice (some ⟨g14,0,none⟩) 1 1,[[Value.int .i64 op,.int .i64 a,.int .i64 b,.int .i64 c,.int .i64 0]]⟩ :: dO h s)) (S : Std w0) (hf : vO k s) (hu : s.uses.length < k) (hsy : Says k h s) (hln : h.vs.length = s.tabs.length) (hk : k ≤ 262144) (hn : s.idle = false → n < s.ins.length ∧ n < s.code.length)
  (L : Line l gw nn cc' (s0 :: r)) (hc' : r.length ≤ c') (how : r ≠ [] → ow = 1) (him : (bW (bn op)).2 = false) :
  Code.wp Tryz.prog wP (bodyPost Tryz.prog Tryz.f63 fun z w' => z = .returned (.int .i64 (s.jC n op e [a,b,c] r).2) ∧ ∃ h',dX k w0 w' gr l h' (s.jC n op e [a,b,c] r).1) ⟨#[(.pointer (some ⟨gr,0,none⟩)),u1,u2,u3,(.int .i64 0),(.int .i64 op),(.int .i64 e),(.int .i64 (n : Int)),(.int .i64 (bn op)),u9,(.int .i64 (m : Int)),(.bool (bW (bn op)).2),(.slice (some ⟨gw,ow,none⟩) r.length c'),u13,(.pointer (some ⟨g14,0,none⟩)),u15,u16,yh,yj,yu,u20,u21,u22,u23,u24,u25,u26,u27,u28,u29,u30,u31,u32,u33,u34,u35,u36,u37,u38,yw,u40,yx,u42,yC,u44,u45,u46,yD,u48,u49,yE,u51,yF,u53,yG,u55,yH,yI,u58,u59,u60,u61,yJ,u63,u64,yK,u66,yL,u68,u69,u70,yM,u72,u73,yN,u75,yP,yQ,yS,yT,yU,yV,yX,yY,yZ,zf,zh,zi,zk,zn,zo,zq,zu,u93,zA,zB,zC,zD,zF,zG,jM,jO,jP,jQ,jR,u105,jS,jT,jU,jV,jW,jX,jY,jZ,ku,kD,kF,kG,kH,u119,kJ,kQ,kS,kT,u124,kU,kV,u127,kX,kZ,lg,u131,lq,lu,lC,lD,lF,lG,u138,u139,lH,lI,lJ,lK,lM,lN,lQ,lS,lT,lU,lV,lW,u152,lX,u154,lY,lZ,l7,l9,mg,mD,mF,u162,mG,u164,mJ,mM,mO,mP,mQ,mV,mW,mX,mY,mZ,ng,ny,nC,nD,nG,nH,nI,nJ,nK,nM,nN,nO,nP,nR,nS,nT,nU,nV,u193,u194,nX,u196,nY,u198,nZ,oh,u201,oq,ou,oz,oC,u206,oD,u208,oG,u210,oH,oI,oJ,oK,oL,oM,oN,oO,oP,oQ,oU,oV,oW,oZ,o7,o8,o9,pq,pz,pF,pG,pI,pJ,u234,pK,u236,pO,pR,pU,pV,pW,pX],[]⟩ W:=by
 have HF:=Lib.hid hf
 have HU:=Lib.hid hu
 have HS:=Lib.hid hsy
 have iK:=Lib.hid hln
 have HN:=Lib.hid hn
 have HK:=Lib.hid hk
 have Yl:=Lib.hid hc'
 obtain ⟨vc,vf,vt,vi,vo,vu,gf,gt,gl,of,ot,ol,vs⟩:=h
 rw [WY him,him]
 have M:=ah.mk M0
 clear hf hu hsy hln hn hk M0 S L hc' how
 conv => arg 2; whnf
 go_upto_if 143 with fail
 rename_i LC
 refine wp_cond_split rfl (fun h => ?_) (fun h => ?_)
 ·cases h
 ·refine wp_skip ?_
  refine LC _ _ ?_
  (refine zW (h:=⟨vc,vf,vt,vi,vo,vu,gf,gt,gl,of,ot,ol,vs⟩) (jC:=0) (e:=e) (s:=s) M.out HF.out HS.out iK.out HK.out HN.out)
theorem Xf {u1 u2 u3 u9 u13 u15 u16 yh yj yu u20 u21 u22 u23 u24 u25 u26 u27 u28 u29 u30 u31 u32 u33 u34 u35 u36 u37 u38 yw u40 yx u42 yC u44 u45 u46 yD u48 u49 yE u51 yF u53 yG u55 yH yI u58 u59 u60 u61 yJ u63 u64 yK u66 yL u68 u69 u70 yM u72 u73 yN u75 yP yQ yS yT yU yV yX yY yZ zf zh zi zk zn zo zq zu u93 zA zB zC zD zF zG jM jO jP jQ jR u105 jS jT jU jV jW jX jY jZ ku kD kF kG kH u119 kJ kQ kS kT u124 kU kV u127 kX kZ lg u131 lq lu lC lD lF lG u138 u139 lH lI lJ lK lM lN lQ lS lT lU lV lW u152 lX u154 lY lZ l7 l9 mg mD mF u162 mG u164 mJ mM mO mP mQ mV mW mX mY mZ ng ny nC nD nG nH nI nJ nK nM nN nO nP nR nS nT nU nV u193 u194 nX u196 nY u198 nZ oh u201 oq ou oz oC u206 oD u208 oG u210 oH oI oJ oK oL oM oN oO oP oQ oU oV oW oZ o7 o8 o9 pq pz pF pG pI pJ u234 pK u236 pO pR pU pV pW pX : Value} (M0 : bf vk w0 W ((gr,gZ h s,55) :: l) (Ea h) (⟨Kd.raw 5,70,.slice (some ⟨g14,0,none⟩) 1 1,[[Value.int .i64 op,.int .i64 a,.int .i64 b,.int .i64 c,.int .i64 0]]⟩ :: dO h s)) (S : Std w0) (hf : vO k s) (hu : s.uses.length < k) (hsy : Says k h s) (hln : h.vs.length = s.tabs.length) (hk : k ≤ 262144) (hn : s.idle = false → n < s.ins.length ∧ n < s.code.length)
  (L : Line l gw nn cc' (s0 :: r)) (hc' : r.length ≤ c') (how : r ≠ [] → ow = 1) (him : (bW (bn op)).2 = true) (hm : (bW (bn op)).1 = (m : Int)) {u : ByteArray} (rO : r[m]? = some u) {z : Int} (wK : Q.xP u.data.toList = (z,false)) (hr : wY op = false) :
  Code.wp Tryz.prog wP (bodyPost Tryz.prog Tryz.f63 fun z w' => z = .returned (.int .i64 (s.jC n op e [a,b,c] r).2) ∧ ∃ h',dX k w0 w' gr l h' (s.jC n op e [a,b,c] r).1) ⟨#[(.pointer (some ⟨gr,0,none⟩)),u1,u2,u3,(.int .i64 0),(.int .i64 op),(.int .i64 e),(.int .i64 (n : Int)),(.int .i64 (bn op)),u9,(.int .i64 (m : Int)),(.bool (bW (bn op)).2),(.slice (some ⟨gw,ow,none⟩) r.length c'),u13,(.pointer (some ⟨g14,0,none⟩)),u15,u16,yh,yj,yu,u20,u21,u22,u23,u24,u25,u26,u27,u28,u29,u30,u31,u32,u33,u34,u35,u36,u37,u38,yw,u40,yx,u42,yC,u44,u45,u46,yD,u48,u49,yE,u51,yF,u53,yG,u55,yH,yI,u58,u59,u60,u61,yJ,u63,u64,yK,u66,yL,u68,u69,u70,yM,u72,u73,yN,u75,yP,yQ,yS,yT,yU,yV,yX,yY,yZ,zf,zh,zi,zk,zn,zo,zq,zu,u93,zA,zB,zC,zD,zF,zG,jM,jO,jP,jQ,jR,u105,jS,jT,jU,jV,jW,jX,jY,jZ,ku,kD,kF,kG,kH,u119,kJ,kQ,kS,kT,u124,kU,kV,u127,kX,kZ,lg,u131,lq,lu,lC,lD,lF,lG,u138,u139,lH,lI,lJ,lK,lM,lN,lQ,lS,lT,lU,lV,lW,u152,lX,u154,lY,lZ,l7,l9,mg,mD,mF,u162,mG,u164,mJ,mM,mO,mP,mQ,mV,mW,mX,mY,mZ,ng,ny,nC,nD,nG,nH,nI,nJ,nK,nM,nN,nO,nP,nR,nS,nT,nU,nV,u193,u194,nX,u196,nY,u198,nZ,oh,u201,oq,ou,oz,oC,u206,oD,u208,oG,u210,oH,oI,oJ,oK,oL,oM,oN,oO,oP,oQ,oU,oV,oW,oZ,o7,o8,o9,pq,pz,pF,pG,pI,pJ,u234,pK,u236,pO,pR,pU,pV,pW,pX],[]⟩ W:=by
 have HF:=Lib.hid hf
 have HU:=Lib.hid hu
 have HS:=Lib.hid hsy
 have iK:=Lib.hid hln
 have HN:=Lib.hid hn
 have HK:=Lib.hid hk
 have Yl:=Lib.hid hc'
 obtain rfl:=how (by rintro rfl; simp at rO)
 have xw : W.cell? ⟨gw,1 + m,none⟩ = some (.string u):=by
  obtain ⟨i,cur,hi,hw⟩:=L.box
  rw [show 1 + m = m + 1 by omega]
  exact (M0.mem.cell (i + 1) (by simpa using hi) (m + 1)).trans (hw (m + 1) u (by simpa using rO))
 have hus : u.size ≤ 262144:=L.small u (List.mem_cons_of_mem _ (List.mem_of_getElem? rO))
 have wu:=Lib.hid (jD u hus W (S.below M0.mem.below))
 have JZ:=Lib.hid (fun W => jf u hus W)
 have Hl:=Lib.hid (fun W => eU.calls op _ W (qy op))
 have hml : m < r.length:=(List.getElem?_eq_some_iff.1 rO).1
 have hmI : (m : Int) < (r.length : Int):=by omega
 have OY : r.length ≤ c':=hc'
 rw [wK] at wu
 rw [O9 him hm rO wK (by rw [hr]; rfl),him]
 rw [hr] at Hl
 clear him hm rO wK hr
 have M:=ah.mk M0
 clear hf hu hsy hln hn hk M0 S L hc' how
 conv => arg 2; whnf
 go_wp2_with fail
 refine (wu.out).mono ?_
 rintro e1 w1 ⟨rfl,hb1⟩
 have M1:=ah.mk (M.out.call hb1)
 clear M hb1 xw
 go_wp2_with (first | (go_at_call 99; refine (Hl.out _).mono ?_; rintro e2 w2 ⟨rfl,hd2⟩; have M2:=ah.mk (M1.out.call (gK hd2)); clear M1 hd2))
 go_returns
 exact ⟨rfl,h,M2.out.fQ Mem.tail,HF.out,HS.out,iK.out⟩
theorem Xg {u1 u2 u3 u9 u13 u15 u16 yh yj yu u20 u21 u22 u23 u24 u25 u26 u27 u28 u29 u30 u31 u32 u33 u34 u35 u36 u37 u38 yw u40 yx u42 yC u44 u45 u46 yD u48 u49 yE u51 yF u53 yG u55 yH yI u58 u59 u60 u61 yJ u63 u64 yK u66 yL u68 u69 u70 yM u72 u73 yN u75 yP yQ yS yT yU yV yX yY yZ zf zh zi zk zn zo zq zu u93 zA zB zC zD zF zG jM jO jP jQ jR u105 jS jT jU jV jW jX jY jZ ku kD kF kG kH u119 kJ kQ kS kT u124 kU kV u127 kX kZ lg u131 lq lu lC lD lF lG u138 u139 lH lI lJ lK lM lN lQ lS lT lU lV lW u152 lX u154 lY lZ l7 l9 mg mD mF u162 mG u164 mJ mM mO mP mQ mV mW mX mY mZ ng ny nC nD nG nH nI nJ nK nM nN nO nP nR nS nT nU nV u193 u194 nX u196 nY u198 nZ oh u201 oq ou oz oC u206 oD u208 oG u210 oH oI oJ oK oL oM oN oO oP oQ oU oV oW oZ o7 o8 o9 pq pz pF pG pI pJ u234 pK u236 pO pR pU pV pW pX : Value} (M0 : bf vk w0 W ((gr,gZ h s,55) :: l) (Ea h) (⟨Kd.raw 5,70,.slice (some ⟨g14,0,none⟩) 1 1,[[Value.int .i64 op,.int .i64 a,.int .i64 b,.int .i64 c,.int .i64 0]]⟩ :: dO h s)) (S : Std w0) (hf : vO k s) (hu : s.uses.length < k) (hsy : Says k h s) (hln : h.vs.length = s.tabs.length) (hk : k ≤ 262144) (hn : s.idle = false → n < s.ins.length ∧ n < s.code.length)
  (L : Line l gw nn cc' (s0 :: r)) (hc' : r.length ≤ c') (how : r ≠ [] → ow = 1) (him : (bW (bn op)).2 = true) (hm : (bW (bn op)).1 = (m : Int)) {u : ByteArray} (rO : r[m]? = some u) {z : Int} (wK : Q.xP u.data.toList = (z,false)) (hr : wY op = true) (hnb : Q.nameB u.data.toList = false) :
  Code.wp Tryz.prog wP (bodyPost Tryz.prog Tryz.f63 fun z w' => z = .returned (.int .i64 (s.jC n op e [a,b,c] r).2) ∧ ∃ h',dX k w0 w' gr l h' (s.jC n op e [a,b,c] r).1) ⟨#[(.pointer (some ⟨gr,0,none⟩)),u1,u2,u3,(.int .i64 0),(.int .i64 op),(.int .i64 e),(.int .i64 (n : Int)),(.int .i64 (bn op)),u9,(.int .i64 (m : Int)),(.bool (bW (bn op)).2),(.slice (some ⟨gw,ow,none⟩) r.length c'),u13,(.pointer (some ⟨g14,0,none⟩)),u15,u16,yh,yj,yu,u20,u21,u22,u23,u24,u25,u26,u27,u28,u29,u30,u31,u32,u33,u34,u35,u36,u37,u38,yw,u40,yx,u42,yC,u44,u45,u46,yD,u48,u49,yE,u51,yF,u53,yG,u55,yH,yI,u58,u59,u60,u61,yJ,u63,u64,yK,u66,yL,u68,u69,u70,yM,u72,u73,yN,u75,yP,yQ,yS,yT,yU,yV,yX,yY,yZ,zf,zh,zi,zk,zn,zo,zq,zu,u93,zA,zB,zC,zD,zF,zG,jM,jO,jP,jQ,jR,u105,jS,jT,jU,jV,jW,jX,jY,jZ,ku,kD,kF,kG,kH,u119,kJ,kQ,kS,kT,u124,kU,kV,u127,kX,kZ,lg,u131,lq,lu,lC,lD,lF,lG,u138,u139,lH,lI,lJ,lK,lM,lN,lQ,lS,lT,lU,lV,lW,u152,lX,u154,lY,lZ,l7,l9,mg,mD,mF,u162,mG,u164,mJ,mM,mO,mP,mQ,mV,mW,mX,mY,mZ,ng,ny,nC,nD,nG,nH,nI,nJ,nK,nM,nN,nO,nP,nR,nS,nT,nU,nV,u193,u194,nX,u196,nY,u198,nZ,oh,u201,oq,ou,oz,oC,u206,oD,u208,oG,u210,oH,oI,oJ,oK,oL,oM,oN,oO,oP,oQ,oU,oV,oW,oZ,o7,o8,o9,pq,pz,pF,pG,pI,pJ,u234,pK,u236,pO,pR,pU,pV,pW,pX],[]⟩ W:=by
 have HF:=Lib.hid hf
 have HU:=Lib.hid hu
 have HS:=Lib.hid hsy
 have iK:=Lib.hid hln
 have HN:=Lib.hid hn
 have HK:=Lib.hid hk
 have Yl:=Lib.hid hc'
 obtain rfl:=how (by rintro rfl; simp at rO)
 have xw : W.cell? ⟨gw,1 + m,none⟩ = some (.string u):=by
  obtain ⟨i,cur,hi,hw⟩:=L.box
  rw [show 1 + m = m + 1 by omega]
  exact (M0.mem.cell (i + 1) (by simpa using hi) (m + 1)).trans (hw (m + 1) u (by simpa using rO))
 have hus : u.size ≤ 262144:=L.small u (List.mem_cons_of_mem _ (List.mem_of_getElem? rO))
 have wu:=Lib.hid (jD u hus W (S.below M0.mem.below))
 have JZ:=Lib.hid (fun W => jf u hus W)
 have Hl:=Lib.hid (fun W => eU.calls op _ W (qy op))
 have hml : m < r.length:=(List.getElem?_eq_some_iff.1 rO).1
 have hmI : (m : Int) < (r.length : Int):=by omega
 have OY : r.length ≤ c':=hc'
 rw [wK] at wu
 rw [O9 him hm rO wK (by rw [hr,hnb]; rfl),him]
 rw [hr] at Hl
 rw [hnb] at JZ
 clear him hm rO wK hr hnb
 have M:=ah.mk M0
 clear hf hu hsy hln hn hk M0 S L hc' how
 conv => arg 2; whnf
 go_wp2_with fail
 refine (wu.out).mono ?_
 rintro e1 w1 ⟨rfl,hb1⟩
 have M1:=ah.mk (M.out.call hb1)
 clear M hb1 xw
 go_wp2_with (first | (go_at_call 99; refine (Hl.out _).mono ?_; rintro e2 w2 ⟨rfl,hd2⟩; have M2:=ah.mk (M1.out.call (gK hd2)); clear M1 hd2) | (go_at_call 92; refine (JZ.out _).mono ?_; rintro e3 w3 ⟨rfl,hd3⟩; have M3:=ah.mk (M2.out.call (gK hd3)); clear M2 hd3))
 go_returns
 exact ⟨rfl,h,M3.out.fQ Mem.tail,HF.out,HS.out,iK.out⟩
theorem ZN {u1 u2 u3 u9 u13 u15 u16 yh yj yu u20 u21 u22 u23 u24 u25 u26 u27 u28 u29 u30 u31 u32 u33 u34 u35 u36 u37 u38 yw u40 yx u42 yC u44 u45 u46 yD u48 u49 yE u51 yF u53 yG u55 yH yI u58 u59 u60 u61 yJ u63 u64 yK u66 yL u68 u69 u70 yM u72 u73 yN u75 yP yQ yS yT yU yV yX yY yZ zf zh zi zk zn zo zq zu u93 zA zB zC zD zF zG jM jO jP jQ jR u105 jS jT jU jV jW jX jY jZ ku kD kF kG kH u119 kJ kQ kS kT u124 kU kV u127 kX kZ lg u131 lq lu lC lD lF lG u138 u139 lH lI lJ lK lM lN lQ lS lT lU lV lW u152 lX u154 lY lZ l7 l9 mg mD mF u162 mG u164 mJ mM mO mP mQ mV mW mX mY mZ ng ny nC nD nG nH nI nJ nK nM nN nO nP nR nS nT nU nV u193 u194 nX u196 nY u198 nZ oh u201 oq ou oz oC u206 oD u208 oG u210 oH oI oJ oK oL oM oN oO oP oQ oU oV oW oZ o7 o8 o9 pq pz pF pG pI pJ u234 pK u236 pO pR pU pV pW pX : Value} (M0 : bf vk w0 W ((gr,gZ h s,55) :: l) (Ea h) (⟨Kd.raw 5,70,.slice (some ⟨g14,0,none⟩) 1 1,[[Value.int .i64 op,.int .i64 a,.int .i64 b,.int .i64 c,.int .i64 0]]⟩ :: dO h s)) (S : Std w0) (hf : vO k s) (hu : s.uses.length < k) (hsy : Says k h s) (hln : h.vs.length = s.tabs.length) (hk : k ≤ 262144) (hn : s.idle = false → n < s.ins.length ∧ n < s.code.length)
  (L : Line l gw nn cc' (s0 :: r)) (hc' : r.length ≤ c') (how : r ≠ [] → ow = 1) (him : (bW (bn op)).2 = true) (hm : (bW (bn op)).1 = (m : Int)) {u : ByteArray} (rO : r[m]? = some u) {z : Int} (wK : Q.xP u.data.toList = (z,false)) (hr : wY op = true) (hnb : Q.nameB u.data.toList = true) :
  Code.wp Tryz.prog wP (bodyPost Tryz.prog Tryz.f63 fun z w' => z = .returned (.int .i64 (s.jC n op e [a,b,c] r).2) ∧ ∃ h',dX k w0 w' gr l h' (s.jC n op e [a,b,c] r).1) ⟨#[(.pointer (some ⟨gr,0,none⟩)),u1,u2,u3,(.int .i64 0),(.int .i64 op),(.int .i64 e),(.int .i64 (n : Int)),(.int .i64 (bn op)),u9,(.int .i64 (m : Int)),(.bool (bW (bn op)).2),(.slice (some ⟨gw,ow,none⟩) r.length c'),u13,(.pointer (some ⟨g14,0,none⟩)),u15,u16,yh,yj,yu,u20,u21,u22,u23,u24,u25,u26,u27,u28,u29,u30,u31,u32,u33,u34,u35,u36,u37,u38,yw,u40,yx,u42,yC,u44,u45,u46,yD,u48,u49,yE,u51,yF,u53,yG,u55,yH,yI,u58,u59,u60,u61,yJ,u63,u64,yK,u66,yL,u68,u69,u70,yM,u72,u73,yN,u75,yP,yQ,yS,yT,yU,yV,yX,yY,yZ,zf,zh,zi,zk,zn,zo,zq,zu,u93,zA,zB,zC,zD,zF,zG,jM,jO,jP,jQ,jR,u105,jS,jT,jU,jV,jW,jX,jY,jZ,ku,kD,kF,kG,kH,u119,kJ,kQ,kS,kT,u124,kU,kV,u127,kX,kZ,lg,u131,lq,lu,lC,lD,lF,lG,u138,u139,lH,lI,lJ,lK,lM,lN,lQ,lS,lT,lU,lV,lW,u152,lX,u154,lY,lZ,l7,l9,mg,mD,mF,u162,mG,u164,mJ,mM,mO,mP,mQ,mV,mW,mX,mY,mZ,ng,ny,nC,nD,nG,nH,nI,nJ,nK,nM,nN,nO,nP,nR,nS,nT,nU,nV,u193,u194,nX,u196,nY,u198,nZ,oh,u201,oq,ou,oz,oC,u206,oD,u208,oG,u210,oH,oI,oJ,oK,oL,oM,oN,oO,oP,oQ,oU,oV,oW,oZ,o7,o8,o9,pq,pz,pF,pG,pI,pJ,u234,pK,u236,pO,pR,pU,pV,pW,pX],[]⟩ W:=by
 have HF:=Lib.hid hf
 have HU:=Lib.hid hu
 have HS:=Lib.hid hsy
 have iK:=Lib.hid hln
 have HN:=Lib.hid hn
 have HK:=Lib.hid hk
 have Yl:=Lib.hid hc'
 obtain rfl:=how (by rintro rfl; simp at rO)
 have xw : W.cell? ⟨gw,1 + m,none⟩ = some (.string u):=by
  obtain ⟨i,cur,hi,hw⟩:=L.box
  rw [show 1 + m = m + 1 by omega]
  exact (M0.mem.cell (i + 1) (by simpa using hi) (m + 1)).trans (hw (m + 1) u (by simpa using rO))
 have hus : u.size ≤ 262144:=L.small u (List.mem_cons_of_mem _ (List.mem_of_getElem? rO))
 have wu:=Lib.hid (jD u hus W (S.below M0.mem.below))
 have JZ:=Lib.hid (fun W => jf u hus W)
 have Hl:=Lib.hid (fun W => eU.calls op _ W (qy op))
 have hml : m < r.length:=(List.getElem?_eq_some_iff.1 rO).1
 have hmI : (m : Int) < (r.length : Int):=by omega
 have OY : r.length ≤ c':=hc'
 rw [wK] at wu
 obtain ⟨vc,vf,vt,vi,vo,vu,gf,gt,gl,of,ot,ol,vs⟩:=h
 obtain ⟨A1,c1,rfl⟩ : ∃ A c,vf = .slice A s.funcs.length c:=by
  obtain ⟨A,c,he⟩:=Kd.iy (M0.mem.owns 2 _ rfl)
  exact ⟨A,c,by rw [show s.funcs.length = (s.funcs.map ints).length by simp]; exact he⟩
 have BN:=Lib.hid (show ((s.uses.map zH).length + 1) * 48 ≤ 140737488355328 by rw [List.length_map]; omega)
 obtain rfl:=XB wK
 rw [WX him hm rO wK hr hnb,him]
 rw [hr] at Hl
 rw [hnb] at JZ
 clear him hm rO wK hr hnb
 have M:=ah.mk M0
 clear hf hu hsy hln hn hk M0 S L hc' how
 conv => arg 2; whnf
 go_upto_if 143 with fail
 rename_i LC
 go_wp2_with fail
 refine (wu.out).mono ?_
 rintro e1 w1 ⟨rfl,hb1⟩
 have M1:=ah.mk (M.out.call hb1)
 clear M hb1 xw
 go_wp2_with (first | (go_at_call 99; refine (Hl.out _).mono ?_; rintro e2 w2 ⟨rfl,hd2⟩; have M2:=ah.mk (M1.out.call (gK hd2)); clear M1 hd2) | (go_at_call 92; refine (JZ.out _).mono ?_; rintro e3 w3 ⟨rfl,hd3⟩; have M3:=ah.mk (M2.out.call (gK hd3)); clear M2 hd3))
 refine gQ [20,23] [(⟨gr,10,none⟩,vu),(⟨gr,1,none⟩,.slice A1 s.funcs.length c1),(⟨gr,13,none⟩,.int .i64 s.now)] M3 ?_ (fun w4 MD fV => ?_)
 ·intro q hq
  simp only [List.mem_cons,List.not_mem_nil,or_false] at hq
  rcases hq with rfl | rfl | rfl
  ·exact bY M3.out 10 rfl
  ·exact bY M3.out 1 rfl
  ·exact bY M3.out 13 rfl
 clear M3
 refine kP 0 164 (.pointer (some ⟨gr,0,none⟩)) ?_
 simp only [Act.put,bF,bH,bG]
 refine kP 1 165 (.pointer (some ⟨gr,0,none⟩)) ?_
 simp only [Act.put,bF,bH,bG]
 refine kP 2 166 (.pointer (some ⟨gr,0,none⟩)) ?_
 simp only [Act.put,bF,bH,bG]
 refine kP 3 167 (.pointer (some ⟨gr,10,none⟩)) ?_
 simp only [Act.put,bF,bH,bG]
 refine kE fV 4 168 0 ?_
 simp only [Act.put,bF,bH,bG]
 refine kP 5 169 (.int .i64 (n : Int)) ?_
 simp only [Act.put,bF,bH,bG]
 refine kP 6 170 (.pointer (some ⟨gr,0,none⟩)) ?_
 simp only [Act.put,bF,bH,bG]
 refine kP 7 171 (.pointer (some ⟨gr,0,none⟩)) ?_
 simp only [Act.put,bF,bH,bG]
 refine kP 8 172 (.pointer (some ⟨gr,0,none⟩)) ?_
 simp only [Act.put,bF,bH,bG]
 refine kP 9 173 (.pointer (some ⟨gr,1,none⟩)) ?_
 simp only [Act.put,bF,bH,bG]
 refine kE fV 10 174 1 ?_
 simp only [Act.put,bF,bH,bG]
 refine kP 11 175 (.int .i64 (s.funcs.length : Int)) ?_
 simp only [Act.put,bF,bH,bG]
 refine kP 12 176 (.pointer (some ⟨gr,0,none⟩)) ?_
 simp only [Act.put,bF,bH,bG]
 refine kP 13 177 (.pointer (some ⟨gr,0,none⟩)) ?_
 simp only [Act.put,bF,bH,bG]
 refine kP 14 178 (.pointer (some ⟨gr,13,none⟩)) ?_
 simp only [Act.put,bF,bH,bG]
 refine kE fV 15 179 2 ?_
 simp only [Act.put,bF,bH,bG]
 refine kP 16 180 (.int .i64 op) ?_
 simp only [Act.put,bF,bH,bG]
 refine kP 17 181 (.string u) ?_
 simp only [Act.put,bF,bH,bG]
 refine kP 18 182 (.agg [Value.int .i64 (n : Int),.int .i64 (s.funcs.length : Int),.int .i64 s.now,.int .i64 op,.string u].toArray) ?_
 simp only [Act.put,bF,bH,bG]
 refine kR [19] ?_
 refine kBs fV 19 183 [Value.int .i64 (n : Int),.int .i64 (s.funcs.length : Int),.int .i64 s.now,.int .i64 op,.string u] 111 (fun D9 => ?_) aK.nil
 simp only [Act.put,bF,bH,bG]
 clear fV D9
 have MF:=ah.mk (bf.front MD.out 6 rfl)
 clear MD
 refine kR [20] ?_
 refine kAp MF 20 184 [Value.int .i64 (n : Int),.int .i64 (s.funcs.length : Int),.int .i64 s.now,.int .i64 op,.string u] [Value.int .i64 (n : Int),.int .i64 (s.funcs.length : Int),.int .i64 s.now,.int .i64 op,.string u] (.agg #[.int .i64 0,.int .i64 0,.int .i64 0,.int .i64 0,.string ByteArray.empty]) 48 BN.out ?_ ⟨rfl,rfl,fun q hq => by simp at hq; rcases hq with rfl | rfl | rfl | rfl | rfl <;> rfl⟩ rfl (by decide) aK.nil
 clear MF
 intro v5 w5 MG
 simp only [Act.put,bF,bH,bG]
 have ONE:=Lib.hid (bf.one MG.out 0 rfl)
 have MT:=ah.mk (bf.back 6 (by show 6 < (_ :: dO _ _).length; simp [dO]) MG.out)
 clear MG
 refine kP 21 185 (.pointer (some ⟨gr,0,none⟩)) ?_
 simp only [Act.put,bF,bH,bG]
 refine kP 22 186 (.pointer (some ⟨gr,10,none⟩)) ?_
 simp only [Act.put,bF,bH,bG]
 refine kR [23] ?_
 refine kC MT 23 53 186 0 10 v5 (dN vc (.slice A1 s.funcs.length c1) vt vi gf gt gl vo s.cases s.idle v5 s.wrong s.line s.now) ?_ rfl rfl ONE.out rfl aK.nil
 clear MT ONE
 intro w6 MH
 refine iG ?_
 have MI:=ah.mk (Va (x:=([(n : Int),(s.funcs.length : Int),s.now,op],u)) MH.out)
 clear MH
 go_wp2_with (first | ((with_reducible refine aU (t:=3) (p:=214) rfl ?_); refine fE MI 3 (.tmp 214) 0 4 (.int .i64 0) [.int .i64 0] [.int .i64 op,.int .i64 a,.int .i64 b,.int .i64 c,.int .i64 0] (by decide) rfl ?_ rfl (by intro q hq; rw [List.mem_singleton] at hq; subst hq; rfl) (Nat.le_refl 5) rfl; clear MI; intro w9 MZ; refine LC _ _ ?_; (refine zW (h:=⟨vc,.slice A1 s.funcs.length c1,vt,vi,vo,v5,gf,gt,gl,of,ot,ol,vs⟩) (jC:=0) (e:=e) (s:={ s with uses:=s.uses ++ [([(n : Int),(s.funcs.length : Int),s.now,op],u)] }) MZ.out (vO.use HF.out HU.out _) ⟨HS.out.f,HS.out.t,HS.out.l⟩ iK.out HK.out HN.out)))
theorem WZ {u1 u2 u3 u9 u13 u15 u16 yh yj yu u20 u21 u22 u23 u24 u25 u26 u27 u28 u29 u30 u31 u32 u33 u34 u35 u36 u37 u38 yw u40 yx u42 yC u44 u45 u46 yD u48 u49 yE u51 yF u53 yG u55 yH yI u58 u59 u60 u61 yJ u63 u64 yK u66 yL u68 u69 u70 yM u72 u73 yN u75 yP yQ yS yT yU yV yX yY yZ zf zh zi zk zn zo zq zu u93 zA zB zC zD zF zG jM jO jP jQ jR u105 jS jT jU jV jW jX jY jZ ku kD kF kG kH u119 kJ kQ kS kT u124 kU kV u127 kX kZ lg u131 lq lu lC lD lF lG u138 u139 lH lI lJ lK lM lN lQ lS lT lU lV lW u152 lX u154 lY lZ l7 l9 mg mD mF u162 mG u164 mJ mM mO mP mQ mV mW mX mY mZ ng ny nC nD nG nH nI nJ nK nM nN nO nP nR nS nT nU nV u193 u194 nX u196 nY u198 nZ oh u201 oq ou oz oC u206 oD u208 oG u210 oH oI oJ oK oL oM oN oO oP oQ oU oV oW oZ o7 o8 o9 pq pz pF pG pI pJ u234 pK u236 pO pR pU pV pW pX : Value} (M0 : bf vk w0 W ((gr,gZ h s,55) :: l) (Ea h) (⟨Kd.raw 5,70,.slice (some ⟨g14,0,none⟩) 1 1,[[Value.int .i64 op,.int .i64 a,.int .i64 b,.int .i64 c,.int .i64 0]]⟩ :: dO h s)) (S : Std w0) (hf : vO k s) (hu : s.uses.length < k) (hsy : Says k h s) (hln : h.vs.length = s.tabs.length) (hk : k ≤ 262144) (hn : s.idle = false → n < s.ins.length ∧ n < s.code.length)
  (L : Line l gw nn cc' (s0 :: r)) (hc' : r.length ≤ c') (how : r ≠ [] → ow = 1) (him : (bW (bn op)).2 = true) (hm : (bW (bn op)).1 = (m : Int)) {u : ByteArray} (rO : r[m]? = some u) {z : Int} (wK : Q.xP u.data.toList = (z,true)) (h6 : bn op = 6) (h1 : z < -32768) :
  Code.wp Tryz.prog wP (bodyPost Tryz.prog Tryz.f63 fun z w' => z = .returned (.int .i64 (s.jC n op e [a,b,c] r).2) ∧ ∃ h',dX k w0 w' gr l h' (s.jC n op e [a,b,c] r).1) ⟨#[(.pointer (some ⟨gr,0,none⟩)),u1,u2,u3,(.int .i64 0),(.int .i64 op),(.int .i64 e),(.int .i64 (n : Int)),(.int .i64 (bn op)),u9,(.int .i64 (m : Int)),(.bool (bW (bn op)).2),(.slice (some ⟨gw,ow,none⟩) r.length c'),u13,(.pointer (some ⟨g14,0,none⟩)),u15,u16,yh,yj,yu,u20,u21,u22,u23,u24,u25,u26,u27,u28,u29,u30,u31,u32,u33,u34,u35,u36,u37,u38,yw,u40,yx,u42,yC,u44,u45,u46,yD,u48,u49,yE,u51,yF,u53,yG,u55,yH,yI,u58,u59,u60,u61,yJ,u63,u64,yK,u66,yL,u68,u69,u70,yM,u72,u73,yN,u75,yP,yQ,yS,yT,yU,yV,yX,yY,yZ,zf,zh,zi,zk,zn,zo,zq,zu,u93,zA,zB,zC,zD,zF,zG,jM,jO,jP,jQ,jR,u105,jS,jT,jU,jV,jW,jX,jY,jZ,ku,kD,kF,kG,kH,u119,kJ,kQ,kS,kT,u124,kU,kV,u127,kX,kZ,lg,u131,lq,lu,lC,lD,lF,lG,u138,u139,lH,lI,lJ,lK,lM,lN,lQ,lS,lT,lU,lV,lW,u152,lX,u154,lY,lZ,l7,l9,mg,mD,mF,u162,mG,u164,mJ,mM,mO,mP,mQ,mV,mW,mX,mY,mZ,ng,ny,nC,nD,nG,nH,nI,nJ,nK,nM,nN,nO,nP,nR,nS,nT,nU,nV,u193,u194,nX,u196,nY,u198,nZ,oh,u201,oq,ou,oz,oC,u206,oD,u208,oG,u210,oH,oI,oJ,oK,oL,oM,oN,oO,oP,oQ,oU,oV,oW,oZ,o7,o8,o9,pq,pz,pF,pG,pI,pJ,u234,pK,u236,pO,pR,pU,pV,pW,pX],[]⟩ W:=by
 have HF:=Lib.hid hf
 have HU:=Lib.hid hu
 have HS:=Lib.hid hsy
 have iK:=Lib.hid hln
 have HN:=Lib.hid hn
 have HK:=Lib.hid hk
 have Yl:=Lib.hid hc'
 obtain rfl:=how (by rintro rfl; simp at rO)
 have xw : W.cell? ⟨gw,1 + m,none⟩ = some (.string u):=by
  obtain ⟨i,cur,hi,hw⟩:=L.box
  rw [show 1 + m = m + 1 by omega]
  exact (M0.mem.cell (i + 1) (by simpa using hi) (m + 1)).trans (hw (m + 1) u (by simpa using rO))
 have hus : u.size ≤ 262144:=L.small u (List.mem_cons_of_mem _ (List.mem_of_getElem? rO))
 have wu:=Lib.hid (jD u hus W (S.below M0.mem.below))
 have JZ:=Lib.hid (fun W => jf u hus W)
 have Hl:=Lib.hid (fun W => eU.calls op _ W (qy op))
 have hml : m < r.length:=(List.getElem?_eq_some_iff.1 rO).1
 have hmI : (m : Int) < (r.length : Int):=by omega
 have OY : r.length ≤ c':=hc'
 rw [wK] at wu
 rw [CU him hm rO wK,him]
 have hs6 : bn op = 6:=h6
 have s1 : (bn op == 6) = true:=beq_iff_eq.mpr h6
 have s2 : (bn op != 6) = false:=by rw [h6]; rfl
 have d1 : decide (z < -32768) = true:=decide_eq_true h1
 have ho : outOf (bn op) z = true:=by unfold outOf; rw [if_pos h6]; simp; omega
 rw [ho]
 have HE : (if true = true then (73 : Int) else e) = 73:=rfl
 rw [HE]
 clear him hm rO wK h1 ho HE
 have M:=ah.mk M0
 clear hf hu hsy hln hn hk M0 S L hc' how
 conv => arg 2; whnf
 go_upto_if 143 with fail
 rename_i LC
 go_wp2_with fail
 refine (wu.out).mono ?_
 rintro e1 w1 ⟨rfl,hb1⟩
 have M1:=ah.mk (M.out.call hb1)
 clear M hb1 xw
 go_wp2_with (first | ((with_reducible refine aU (t:=3) (p:=214) rfl ?_); refine fE M1 3 (.tmp 214) 0 4 (.int .i64 z) [.int .i64 z] [.int .i64 op,.int .i64 a,.int .i64 b,.int .i64 c,.int .i64 0] (by decide) rfl ?_ rfl (by intro q hq; rw [List.mem_singleton] at hq; subst hq; rfl) (Nat.le_refl 5) rfl; clear M1; intro w9 MZ; refine LC _ _ ?_; (refine zW (h:=h) (jC:=z) (e:=73) (s:=s) MZ.out HF.out HS.out iK.out HK.out HN.out)))
theorem Xa {u1 u2 u3 u9 u13 u15 u16 yh yj yu u20 u21 u22 u23 u24 u25 u26 u27 u28 u29 u30 u31 u32 u33 u34 u35 u36 u37 u38 yw u40 yx u42 yC u44 u45 u46 yD u48 u49 yE u51 yF u53 yG u55 yH yI u58 u59 u60 u61 yJ u63 u64 yK u66 yL u68 u69 u70 yM u72 u73 yN u75 yP yQ yS yT yU yV yX yY yZ zf zh zi zk zn zo zq zu u93 zA zB zC zD zF zG jM jO jP jQ jR u105 jS jT jU jV jW jX jY jZ ku kD kF kG kH u119 kJ kQ kS kT u124 kU kV u127 kX kZ lg u131 lq lu lC lD lF lG u138 u139 lH lI lJ lK lM lN lQ lS lT lU lV lW u152 lX u154 lY lZ l7 l9 mg mD mF u162 mG u164 mJ mM mO mP mQ mV mW mX mY mZ ng ny nC nD nG nH nI nJ nK nM nN nO nP nR nS nT nU nV u193 u194 nX u196 nY u198 nZ oh u201 oq ou oz oC u206 oD u208 oG u210 oH oI oJ oK oL oM oN oO oP oQ oU oV oW oZ o7 o8 o9 pq pz pF pG pI pJ u234 pK u236 pO pR pU pV pW pX : Value} (M0 : bf vk w0 W ((gr,gZ h s,55) :: l) (Ea h) (⟨Kd.raw 5,70,.slice (some ⟨g14,0,none⟩) 1 1,[[Value.int .i64 op,.int .i64 a,.int .i64 b,.int .i64 c,.int .i64 0]]⟩ :: dO h s)) (S : Std w0) (hf : vO k s) (hu : s.uses.length < k) (hsy : Says k h s) (hln : h.vs.length = s.tabs.length) (hk : k ≤ 262144) (hn : s.idle = false → n < s.ins.length ∧ n < s.code.length)
  (L : Line l gw nn cc' (s0 :: r)) (hc' : r.length ≤ c') (how : r ≠ [] → ow = 1) (him : (bW (bn op)).2 = true) (hm : (bW (bn op)).1 = (m : Int)) {u : ByteArray} (rO : r[m]? = some u) {z : Int} (wK : Q.xP u.data.toList = (z,true)) (h6 : bn op = 6) (h1 : ¬ z < -32768 ∧ 32767 < z) :
  Code.wp Tryz.prog wP (bodyPost Tryz.prog Tryz.f63 fun z w' => z = .returned (.int .i64 (s.jC n op e [a,b,c] r).2) ∧ ∃ h',dX k w0 w' gr l h' (s.jC n op e [a,b,c] r).1) ⟨#[(.pointer (some ⟨gr,0,none⟩)),u1,u2,u3,(.int .i64 0),(.int .i64 op),(.int .i64 e),(.int .i64 (n : Int)),(.int .i64 (bn op)),u9,(.int .i64 (m : Int)),(.bool (bW (bn op)).2),(.slice (some ⟨gw,ow,none⟩) r.length c'),u13,(.pointer (some ⟨g14,0,none⟩)),u15,u16,yh,yj,yu,u20,u21,u22,u23,u24,u25,u26,u27,u28,u29,u30,u31,u32,u33,u34,u35,u36,u37,u38,yw,u40,yx,u42,yC,u44,u45,u46,yD,u48,u49,yE,u51,yF,u53,yG,u55,yH,yI,u58,u59,u60,u61,yJ,u63,u64,yK,u66,yL,u68,u69,u70,yM,u72,u73,yN,u75,yP,yQ,yS,yT,yU,yV,yX,yY,yZ,zf,zh,zi,zk,zn,zo,zq,zu,u93,zA,zB,zC,zD,zF,zG,jM,jO,jP,jQ,jR,u105,jS,jT,jU,jV,jW,jX,jY,jZ,ku,kD,kF,kG,kH,u119,kJ,kQ,kS,kT,u124,kU,kV,u127,kX,kZ,lg,u131,lq,lu,lC,lD,lF,lG,u138,u139,lH,lI,lJ,lK,lM,lN,lQ,lS,lT,lU,lV,lW,u152,lX,u154,lY,lZ,l7,l9,mg,mD,mF,u162,mG,u164,mJ,mM,mO,mP,mQ,mV,mW,mX,mY,mZ,ng,ny,nC,nD,nG,nH,nI,nJ,nK,nM,nN,nO,nP,nR,nS,nT,nU,nV,u193,u194,nX,u196,nY,u198,nZ,oh,u201,oq,ou,oz,oC,u206,oD,u208,oG,u210,oH,oI,oJ,oK,oL,oM,oN,oO,oP,oQ,oU,oV,oW,oZ,o7,o8,o9,pq,pz,pF,pG,pI,pJ,u234,pK,u236,pO,pR,pU,pV,pW,pX],[]⟩ W:=by
 have HF:=Lib.hid hf
 have HU:=Lib.hid hu
 have HS:=Lib.hid hsy
 have iK:=Lib.hid hln
 have HN:=Lib.hid hn
 have HK:=Lib.hid hk
 have Yl:=Lib.hid hc'
 obtain rfl:=how (by rintro rfl; simp at rO)
 have xw : W.cell? ⟨gw,1 + m,none⟩ = some (.string u):=by
  obtain ⟨i,cur,hi,hw⟩:=L.box
  rw [show 1 + m = m + 1 by omega]
  exact (M0.mem.cell (i + 1) (by simpa using hi) (m + 1)).trans (hw (m + 1) u (by simpa using rO))
 have hus : u.size ≤ 262144:=L.small u (List.mem_cons_of_mem _ (List.mem_of_getElem? rO))
 have wu:=Lib.hid (jD u hus W (S.below M0.mem.below))
 have JZ:=Lib.hid (fun W => jf u hus W)
 have Hl:=Lib.hid (fun W => eU.calls op _ W (qy op))
 have hml : m < r.length:=(List.getElem?_eq_some_iff.1 rO).1
 have hmI : (m : Int) < (r.length : Int):=by omega
 have OY : r.length ≤ c':=hc'
 rw [wK] at wu
 rw [CU him hm rO wK,him]
 have hs6 : bn op = 6:=h6
 have s1 : (bn op == 6) = true:=beq_iff_eq.mpr h6
 have s2 : (bn op != 6) = false:=by rw [h6]; rfl
 have d1 : decide (z < -32768) = false:=decide_eq_false h1.1
 have d2 : decide (z > 32767) = true:=decide_eq_true h1.2
 have d3 : decide (32767 < z) = true:=decide_eq_true h1.2
 have ho : outOf (bn op) z = true:=by unfold outOf; rw [if_pos h6]; simp; omega
 rw [ho]
 have HE : (if true = true then (73 : Int) else e) = 73:=rfl
 rw [HE]
 clear him hm rO wK h1 ho HE
 have M:=ah.mk M0
 clear hf hu hsy hln hn hk M0 S L hc' how
 conv => arg 2; whnf
 go_upto_if 143 with fail
 rename_i LC
 go_wp2_with fail
 refine (wu.out).mono ?_
 rintro e1 w1 ⟨rfl,hb1⟩
 have M1:=ah.mk (M.out.call hb1)
 clear M hb1 xw
 go_wp2_with (first | ((with_reducible refine aU (t:=3) (p:=214) rfl ?_); refine fE M1 3 (.tmp 214) 0 4 (.int .i64 z) [.int .i64 z] [.int .i64 op,.int .i64 a,.int .i64 b,.int .i64 c,.int .i64 0] (by decide) rfl ?_ rfl (by intro q hq; rw [List.mem_singleton] at hq; subst hq; rfl) (Nat.le_refl 5) rfl; clear M1; intro w9 MZ; refine LC _ _ ?_; (refine zW (h:=h) (jC:=z) (e:=73) (s:=s) MZ.out HF.out HS.out iK.out HK.out HN.out)))
theorem Xb {u1 u2 u3 u9 u13 u15 u16 yh yj yu u20 u21 u22 u23 u24 u25 u26 u27 u28 u29 u30 u31 u32 u33 u34 u35 u36 u37 u38 yw u40 yx u42 yC u44 u45 u46 yD u48 u49 yE u51 yF u53 yG u55 yH yI u58 u59 u60 u61 yJ u63 u64 yK u66 yL u68 u69 u70 yM u72 u73 yN u75 yP yQ yS yT yU yV yX yY yZ zf zh zi zk zn zo zq zu u93 zA zB zC zD zF zG jM jO jP jQ jR u105 jS jT jU jV jW jX jY jZ ku kD kF kG kH u119 kJ kQ kS kT u124 kU kV u127 kX kZ lg u131 lq lu lC lD lF lG u138 u139 lH lI lJ lK lM lN lQ lS lT lU lV lW u152 lX u154 lY lZ l7 l9 mg mD mF u162 mG u164 mJ mM mO mP mQ mV mW mX mY mZ ng ny nC nD nG nH nI nJ nK nM nN nO nP nR nS nT nU nV u193 u194 nX u196 nY u198 nZ oh u201 oq ou oz oC u206 oD u208 oG u210 oH oI oJ oK oL oM oN oO oP oQ oU oV oW oZ o7 o8 o9 pq pz pF pG pI pJ u234 pK u236 pO pR pU pV pW pX : Value} (M0 : bf vk w0 W ((gr,gZ h s,55) :: l) (Ea h) (⟨Kd.raw 5,70,.slice (some ⟨g14,0,none⟩) 1 1,[[Value.int .i64 op,.int .i64 a,.int .i64 b,.int .i64 c,.int .i64 0]]⟩ :: dO h s)) (S : Std w0) (hf : vO k s) (hu : s.uses.length < k) (hsy : Says k h s) (hln : h.vs.length = s.tabs.length) (hk : k ≤ 262144) (hn : s.idle = false → n < s.ins.length ∧ n < s.code.length)
  (L : Line l gw nn cc' (s0 :: r)) (hc' : r.length ≤ c') (how : r ≠ [] → ow = 1) (him : (bW (bn op)).2 = true) (hm : (bW (bn op)).1 = (m : Int)) {u : ByteArray} (rO : r[m]? = some u) {z : Int} (wK : Q.xP u.data.toList = (z,true)) (h6 : bn op = 6) (h1 : ¬ z < -32768 ∧ ¬ 32767 < z) :
  Code.wp Tryz.prog wP (bodyPost Tryz.prog Tryz.f63 fun z w' => z = .returned (.int .i64 (s.jC n op e [a,b,c] r).2) ∧ ∃ h',dX k w0 w' gr l h' (s.jC n op e [a,b,c] r).1) ⟨#[(.pointer (some ⟨gr,0,none⟩)),u1,u2,u3,(.int .i64 0),(.int .i64 op),(.int .i64 e),(.int .i64 (n : Int)),(.int .i64 (bn op)),u9,(.int .i64 (m : Int)),(.bool (bW (bn op)).2),(.slice (some ⟨gw,ow,none⟩) r.length c'),u13,(.pointer (some ⟨g14,0,none⟩)),u15,u16,yh,yj,yu,u20,u21,u22,u23,u24,u25,u26,u27,u28,u29,u30,u31,u32,u33,u34,u35,u36,u37,u38,yw,u40,yx,u42,yC,u44,u45,u46,yD,u48,u49,yE,u51,yF,u53,yG,u55,yH,yI,u58,u59,u60,u61,yJ,u63,u64,yK,u66,yL,u68,u69,u70,yM,u72,u73,yN,u75,yP,yQ,yS,yT,yU,yV,yX,yY,yZ,zf,zh,zi,zk,zn,zo,zq,zu,u93,zA,zB,zC,zD,zF,zG,jM,jO,jP,jQ,jR,u105,jS,jT,jU,jV,jW,jX,jY,jZ,ku,kD,kF,kG,kH,u119,kJ,kQ,kS,kT,u124,kU,kV,u127,kX,kZ,lg,u131,lq,lu,lC,lD,lF,lG,u138,u139,lH,lI,lJ,lK,lM,lN,lQ,lS,lT,lU,lV,lW,u152,lX,u154,lY,lZ,l7,l9,mg,mD,mF,u162,mG,u164,mJ,mM,mO,mP,mQ,mV,mW,mX,mY,mZ,ng,ny,nC,nD,nG,nH,nI,nJ,nK,nM,nN,nO,nP,nR,nS,nT,nU,nV,u193,u194,nX,u196,nY,u198,nZ,oh,u201,oq,ou,oz,oC,u206,oD,u208,oG,u210,oH,oI,oJ,oK,oL,oM,oN,oO,oP,oQ,oU,oV,oW,oZ,o7,o8,o9,pq,pz,pF,pG,pI,pJ,u234,pK,u236,pO,pR,pU,pV,pW,pX],[]⟩ W:=by
 have HF:=Lib.hid hf
 have HU:=Lib.hid hu
 have HS:=Lib.hid hsy
 have iK:=Lib.hid hln
 have HN:=Lib.hid hn
 have HK:=Lib.hid hk
 have Yl:=Lib.hid hc'
 obtain rfl:=how (by rintro rfl; simp at rO)
 have xw : W.cell? ⟨gw,1 + m,none⟩ = some (.string u):=by
  obtain ⟨i,cur,hi,hw⟩:=L.box
  rw [show 1 + m = m + 1 by omega]
  exact (M0.mem.cell (i + 1) (by simpa using hi) (m + 1)).trans (hw (m + 1) u (by simpa using rO))
 have hus : u.size ≤ 262144:=L.small u (List.mem_cons_of_mem _ (List.mem_of_getElem? rO))
 have wu:=Lib.hid (jD u hus W (S.below M0.mem.below))
 have JZ:=Lib.hid (fun W => jf u hus W)
 have Hl:=Lib.hid (fun W => eU.calls op _ W (qy op))
 have hml : m < r.length:=(List.getElem?_eq_some_iff.1 rO).1
 have hmI : (m : Int) < (r.length : Int):=by omega
 have OY : r.length ≤ c':=hc'
 rw [wK] at wu
 rw [CU him hm rO wK,him]
 have hs6 : bn op = 6:=h6
 have s1 : (bn op == 6) = true:=beq_iff_eq.mpr h6
 have s2 : (bn op != 6) = false:=by rw [h6]; rfl
 have d1 : decide (z < -32768) = false:=decide_eq_false h1.1
 have d2 : decide (z > 32767) = false:=decide_eq_false h1.2
 have d3 : decide (32767 < z) = false:=decide_eq_false h1.2
 have ho : outOf (bn op) z = false:=by unfold outOf; rw [if_pos h6]; simp; omega
 rw [ho]
 have HE : (if false = true then (73 : Int) else e) = e:=rfl
 rw [HE]
 clear him hm rO wK h1 ho HE
 have M:=ah.mk M0
 clear hf hu hsy hln hn hk M0 S L hc' how
 conv => arg 2; whnf
 go_upto_if 143 with fail
 rename_i LC
 go_wp2_with fail
 refine (wu.out).mono ?_
 rintro e1 w1 ⟨rfl,hb1⟩
 have M1:=ah.mk (M.out.call hb1)
 clear M hb1 xw
 go_wp2_with (first | ((with_reducible refine aU (t:=3) (p:=214) rfl ?_); refine fE M1 3 (.tmp 214) 0 4 (.int .i64 z) [.int .i64 z] [.int .i64 op,.int .i64 a,.int .i64 b,.int .i64 c,.int .i64 0] (by decide) rfl ?_ rfl (by intro q hq; rw [List.mem_singleton] at hq; subst hq; rfl) (Nat.le_refl 5) rfl; clear M1; intro w9 MZ; refine LC _ _ ?_; (refine zW (h:=h) (jC:=z) (e:=e) (s:=s) MZ.out HF.out HS.out iK.out HK.out HN.out)))
theorem Xc {u1 u2 u3 u9 u13 u15 u16 yh yj yu u20 u21 u22 u23 u24 u25 u26 u27 u28 u29 u30 u31 u32 u33 u34 u35 u36 u37 u38 yw u40 yx u42 yC u44 u45 u46 yD u48 u49 yE u51 yF u53 yG u55 yH yI u58 u59 u60 u61 yJ u63 u64 yK u66 yL u68 u69 u70 yM u72 u73 yN u75 yP yQ yS yT yU yV yX yY yZ zf zh zi zk zn zo zq zu u93 zA zB zC zD zF zG jM jO jP jQ jR u105 jS jT jU jV jW jX jY jZ ku kD kF kG kH u119 kJ kQ kS kT u124 kU kV u127 kX kZ lg u131 lq lu lC lD lF lG u138 u139 lH lI lJ lK lM lN lQ lS lT lU lV lW u152 lX u154 lY lZ l7 l9 mg mD mF u162 mG u164 mJ mM mO mP mQ mV mW mX mY mZ ng ny nC nD nG nH nI nJ nK nM nN nO nP nR nS nT nU nV u193 u194 nX u196 nY u198 nZ oh u201 oq ou oz oC u206 oD u208 oG u210 oH oI oJ oK oL oM oN oO oP oQ oU oV oW oZ o7 o8 o9 pq pz pF pG pI pJ u234 pK u236 pO pR pU pV pW pX : Value} (M0 : bf vk w0 W ((gr,gZ h s,55) :: l) (Ea h) (⟨Kd.raw 5,70,.slice (some ⟨g14,0,none⟩) 1 1,[[Value.int .i64 op,.int .i64 a,.int .i64 b,.int .i64 c,.int .i64 0]]⟩ :: dO h s)) (S : Std w0) (hf : vO k s) (hu : s.uses.length < k) (hsy : Says k h s) (hln : h.vs.length = s.tabs.length) (hk : k ≤ 262144) (hn : s.idle = false → n < s.ins.length ∧ n < s.code.length)
  (L : Line l gw nn cc' (s0 :: r)) (hc' : r.length ≤ c') (how : r ≠ [] → ow = 1) (him : (bW (bn op)).2 = true) (hm : (bW (bn op)).1 = (m : Int)) {u : ByteArray} (rO : r[m]? = some u) {z : Int} (wK : Q.xP u.data.toList = (z,true)) (h6 : bn op ≠ 6) (h1 : z < 0) :
  Code.wp Tryz.prog wP (bodyPost Tryz.prog Tryz.f63 fun z w' => z = .returned (.int .i64 (s.jC n op e [a,b,c] r).2) ∧ ∃ h',dX k w0 w' gr l h' (s.jC n op e [a,b,c] r).1) ⟨#[(.pointer (some ⟨gr,0,none⟩)),u1,u2,u3,(.int .i64 0),(.int .i64 op),(.int .i64 e),(.int .i64 (n : Int)),(.int .i64 (bn op)),u9,(.int .i64 (m : Int)),(.bool (bW (bn op)).2),(.slice (some ⟨gw,ow,none⟩) r.length c'),u13,(.pointer (some ⟨g14,0,none⟩)),u15,u16,yh,yj,yu,u20,u21,u22,u23,u24,u25,u26,u27,u28,u29,u30,u31,u32,u33,u34,u35,u36,u37,u38,yw,u40,yx,u42,yC,u44,u45,u46,yD,u48,u49,yE,u51,yF,u53,yG,u55,yH,yI,u58,u59,u60,u61,yJ,u63,u64,yK,u66,yL,u68,u69,u70,yM,u72,u73,yN,u75,yP,yQ,yS,yT,yU,yV,yX,yY,yZ,zf,zh,zi,zk,zn,zo,zq,zu,u93,zA,zB,zC,zD,zF,zG,jM,jO,jP,jQ,jR,u105,jS,jT,jU,jV,jW,jX,jY,jZ,ku,kD,kF,kG,kH,u119,kJ,kQ,kS,kT,u124,kU,kV,u127,kX,kZ,lg,u131,lq,lu,lC,lD,lF,lG,u138,u139,lH,lI,lJ,lK,lM,lN,lQ,lS,lT,lU,lV,lW,u152,lX,u154,lY,lZ,l7,l9,mg,mD,mF,u162,mG,u164,mJ,mM,mO,mP,mQ,mV,mW,mX,mY,mZ,ng,ny,nC,nD,nG,nH,nI,nJ,nK,nM,nN,nO,nP,nR,nS,nT,nU,nV,u193,u194,nX,u196,nY,u198,nZ,oh,u201,oq,ou,oz,oC,u206,oD,u208,oG,u210,oH,oI,oJ,oK,oL,oM,oN,oO,oP,oQ,oU,oV,oW,oZ,o7,o8,o9,pq,pz,pF,pG,pI,pJ,u234,pK,u236,pO,pR,pU,pV,pW,pX],[]⟩ W:=by
 have HF:=Lib.hid hf
 have HU:=Lib.hid hu
 have HS:=Lib.hid hsy
 have iK:=Lib.hid hln
 have HN:=Lib.hid hn
 have HK:=Lib.hid hk
 have Yl:=Lib.hid hc'
 obtain rfl:=how (by rintro rfl; simp at rO)
 have xw : W.cell? ⟨gw,1 + m,none⟩ = some (.string u):=by
  obtain ⟨i,cur,hi,hw⟩:=L.box
  rw [show 1 + m = m + 1 by omega]
  exact (M0.mem.cell (i + 1) (by simpa using hi) (m + 1)).trans (hw (m + 1) u (by simpa using rO))
 have hus : u.size ≤ 262144:=L.small u (List.mem_cons_of_mem _ (List.mem_of_getElem? rO))
 have wu:=Lib.hid (jD u hus W (S.below M0.mem.below))
 have JZ:=Lib.hid (fun W => jf u hus W)
 have Hl:=Lib.hid (fun W => eU.calls op _ W (qy op))
 have hml : m < r.length:=(List.getElem?_eq_some_iff.1 rO).1
 have hmI : (m : Int) < (r.length : Int):=by omega
 have OY : r.length ≤ c':=hc'
 rw [wK] at wu
 rw [CU him hm rO wK,him]
 have s1 : (bn op == 6) = false:=beq_eq_false_iff_ne.mpr h6
 have s2 : (bn op != 6) = true:=bne_iff_ne.mpr h6
 have d1 : decide (z < 0) = true:=decide_eq_true h1
 have ho : outOf (bn op) z = true:=by unfold outOf; rw [if_neg h6]; simp; omega
 rw [ho]
 have HE : (if true = true then (73 : Int) else e) = 73:=rfl
 rw [HE]
 clear him hm rO wK h1 ho HE
 have M:=ah.mk M0
 clear hf hu hsy hln hn hk M0 S L hc' how
 conv => arg 2; whnf
 go_upto_if 143 with fail
 rename_i LC
 go_wp2_with fail
 refine (wu.out).mono ?_
 rintro e1 w1 ⟨rfl,hb1⟩
 have M1:=ah.mk (M.out.call hb1)
 clear M hb1 xw
 go_wp2_with (first | ((with_reducible refine aU (t:=3) (p:=214) rfl ?_); refine fE M1 3 (.tmp 214) 0 4 (.int .i64 z) [.int .i64 z] [.int .i64 op,.int .i64 a,.int .i64 b,.int .i64 c,.int .i64 0] (by decide) rfl ?_ rfl (by intro q hq; rw [List.mem_singleton] at hq; subst hq; rfl) (Nat.le_refl 5) rfl; clear M1; intro w9 MZ; refine LC _ _ ?_; (refine zW (h:=h) (jC:=z) (e:=73) (s:=s) MZ.out HF.out HS.out iK.out HK.out HN.out)))
theorem Xd {u1 u2 u3 u9 u13 u15 u16 yh yj yu u20 u21 u22 u23 u24 u25 u26 u27 u28 u29 u30 u31 u32 u33 u34 u35 u36 u37 u38 yw u40 yx u42 yC u44 u45 u46 yD u48 u49 yE u51 yF u53 yG u55 yH yI u58 u59 u60 u61 yJ u63 u64 yK u66 yL u68 u69 u70 yM u72 u73 yN u75 yP yQ yS yT yU yV yX yY yZ zf zh zi zk zn zo zq zu u93 zA zB zC zD zF zG jM jO jP jQ jR u105 jS jT jU jV jW jX jY jZ ku kD kF kG kH u119 kJ kQ kS kT u124 kU kV u127 kX kZ lg u131 lq lu lC lD lF lG u138 u139 lH lI lJ lK lM lN lQ lS lT lU lV lW u152 lX u154 lY lZ l7 l9 mg mD mF u162 mG u164 mJ mM mO mP mQ mV mW mX mY mZ ng ny nC nD nG nH nI nJ nK nM nN nO nP nR nS nT nU nV u193 u194 nX u196 nY u198 nZ oh u201 oq ou oz oC u206 oD u208 oG u210 oH oI oJ oK oL oM oN oO oP oQ oU oV oW oZ o7 o8 o9 pq pz pF pG pI pJ u234 pK u236 pO pR pU pV pW pX : Value} (M0 : bf vk w0 W ((gr,gZ h s,55) :: l) (Ea h) (⟨Kd.raw 5,70,.slice (some ⟨g14,0,none⟩) 1 1,[[Value.int .i64 op,.int .i64 a,.int .i64 b,.int .i64 c,.int .i64 0]]⟩ :: dO h s)) (S : Std w0) (hf : vO k s) (hu : s.uses.length < k) (hsy : Says k h s) (hln : h.vs.length = s.tabs.length) (hk : k ≤ 262144) (hn : s.idle = false → n < s.ins.length ∧ n < s.code.length)
  (L : Line l gw nn cc' (s0 :: r)) (hc' : r.length ≤ c') (how : r ≠ [] → ow = 1) (him : (bW (bn op)).2 = true) (hm : (bW (bn op)).1 = (m : Int)) {u : ByteArray} (rO : r[m]? = some u) {z : Int} (wK : Q.xP u.data.toList = (z,true)) (h6 : bn op ≠ 6) (h1 : ¬ z < 0 ∧ 65535 < z) :
  Code.wp Tryz.prog wP (bodyPost Tryz.prog Tryz.f63 fun z w' => z = .returned (.int .i64 (s.jC n op e [a,b,c] r).2) ∧ ∃ h',dX k w0 w' gr l h' (s.jC n op e [a,b,c] r).1) ⟨#[(.pointer (some ⟨gr,0,none⟩)),u1,u2,u3,(.int .i64 0),(.int .i64 op),(.int .i64 e),(.int .i64 (n : Int)),(.int .i64 (bn op)),u9,(.int .i64 (m : Int)),(.bool (bW (bn op)).2),(.slice (some ⟨gw,ow,none⟩) r.length c'),u13,(.pointer (some ⟨g14,0,none⟩)),u15,u16,yh,yj,yu,u20,u21,u22,u23,u24,u25,u26,u27,u28,u29,u30,u31,u32,u33,u34,u35,u36,u37,u38,yw,u40,yx,u42,yC,u44,u45,u46,yD,u48,u49,yE,u51,yF,u53,yG,u55,yH,yI,u58,u59,u60,u61,yJ,u63,u64,yK,u66,yL,u68,u69,u70,yM,u72,u73,yN,u75,yP,yQ,yS,yT,yU,yV,yX,yY,yZ,zf,zh,zi,zk,zn,zo,zq,zu,u93,zA,zB,zC,zD,zF,zG,jM,jO,jP,jQ,jR,u105,jS,jT,jU,jV,jW,jX,jY,jZ,ku,kD,kF,kG,kH,u119,kJ,kQ,kS,kT,u124,kU,kV,u127,kX,kZ,lg,u131,lq,lu,lC,lD,lF,lG,u138,u139,lH,lI,lJ,lK,lM,lN,lQ,lS,lT,lU,lV,lW,u152,lX,u154,lY,lZ,l7,l9,mg,mD,mF,u162,mG,u164,mJ,mM,mO,mP,mQ,mV,mW,mX,mY,mZ,ng,ny,nC,nD,nG,nH,nI,nJ,nK,nM,nN,nO,nP,nR,nS,nT,nU,nV,u193,u194,nX,u196,nY,u198,nZ,oh,u201,oq,ou,oz,oC,u206,oD,u208,oG,u210,oH,oI,oJ,oK,oL,oM,oN,oO,oP,oQ,oU,oV,oW,oZ,o7,o8,o9,pq,pz,pF,pG,pI,pJ,u234,pK,u236,pO,pR,pU,pV,pW,pX],[]⟩ W:=by
 have HF:=Lib.hid hf
 have HU:=Lib.hid hu
 have HS:=Lib.hid hsy
 have iK:=Lib.hid hln
 have HN:=Lib.hid hn
 have HK:=Lib.hid hk
 have Yl:=Lib.hid hc'
 obtain rfl:=how (by rintro rfl; simp at rO)
 have xw : W.cell? ⟨gw,1 + m,none⟩ = some (.string u):=by
  obtain ⟨i,cur,hi,hw⟩:=L.box
  rw [show 1 + m = m + 1 by omega]
  exact (M0.mem.cell (i + 1) (by simpa using hi) (m + 1)).trans (hw (m + 1) u (by simpa using rO))
 have hus : u.size ≤ 262144:=L.small u (List.mem_cons_of_mem _ (List.mem_of_getElem? rO))
 have wu:=Lib.hid (jD u hus W (S.below M0.mem.below))
 have JZ:=Lib.hid (fun W => jf u hus W)
 have Hl:=Lib.hid (fun W => eU.calls op _ W (qy op))
 have hml : m < r.length:=(List.getElem?_eq_some_iff.1 rO).1
 have hmI : (m : Int) < (r.length : Int):=by omega
 have OY : r.length ≤ c':=hc'
 rw [wK] at wu
 rw [CU him hm rO wK,him]
 have s1 : (bn op == 6) = false:=beq_eq_false_iff_ne.mpr h6
 have s2 : (bn op != 6) = true:=bne_iff_ne.mpr h6
 have d1 : decide (z < 0) = false:=decide_eq_false h1.1
 have d2 : decide (z > 65535) = true:=decide_eq_true h1.2
 have d3 : decide (65535 < z) = true:=decide_eq_true h1.2
 have ho : outOf (bn op) z = true:=by unfold outOf; rw [if_neg h6]; simp; omega
 rw [ho]
 have HE : (if true = true then (73 : Int) else e) = 73:=rfl
 rw [HE]
 clear him hm rO wK h1 ho HE
 have M:=ah.mk M0
 clear hf hu hsy hln hn hk M0 S L hc' how
 conv => arg 2; whnf
 go_upto_if 143 with fail
 rename_i LC
 go_wp2_with fail
 refine (wu.out).mono ?_
 rintro e1 w1 ⟨rfl,hb1⟩
 have M1:=ah.mk (M.out.call hb1)
 clear M hb1 xw
 go_wp2_with (first | ((with_reducible refine aU (t:=3) (p:=214) rfl ?_); refine fE M1 3 (.tmp 214) 0 4 (.int .i64 z) [.int .i64 z] [.int .i64 op,.int .i64 a,.int .i64 b,.int .i64 c,.int .i64 0] (by decide) rfl ?_ rfl (by intro q hq; rw [List.mem_singleton] at hq; subst hq; rfl) (Nat.le_refl 5) rfl; clear M1; intro w9 MZ; refine LC _ _ ?_; (refine zW (h:=h) (jC:=z) (e:=73) (s:=s) MZ.out HF.out HS.out iK.out HK.out HN.out)))
theorem Xe {u1 u2 u3 u9 u13 u15 u16 yh yj yu u20 u21 u22 u23 u24 u25 u26 u27 u28 u29 u30 u31 u32 u33 u34 u35 u36 u37 u38 yw u40 yx u42 yC u44 u45 u46 yD u48 u49 yE u51 yF u53 yG u55 yH yI u58 u59 u60 u61 yJ u63 u64 yK u66 yL u68 u69 u70 yM u72 u73 yN u75 yP yQ yS yT yU yV yX yY yZ zf zh zi zk zn zo zq zu u93 zA zB zC zD zF zG jM jO jP jQ jR u105 jS jT jU jV jW jX jY jZ ku kD kF kG kH u119 kJ kQ kS kT u124 kU kV u127 kX kZ lg u131 lq lu lC lD lF lG u138 u139 lH lI lJ lK lM lN lQ lS lT lU lV lW u152 lX u154 lY lZ l7 l9 mg mD mF u162 mG u164 mJ mM mO mP mQ mV mW mX mY mZ ng ny nC nD nG nH nI nJ nK nM nN nO nP nR nS nT nU nV u193 u194 nX u196 nY u198 nZ oh u201 oq ou oz oC u206 oD u208 oG u210 oH oI oJ oK oL oM oN oO oP oQ oU oV oW oZ o7 o8 o9 pq pz pF pG pI pJ u234 pK u236 pO pR pU pV pW pX : Value} (M0 : bf vk w0 W ((gr,gZ h s,55) :: l) (Ea h) (⟨Kd.raw 5,70,.slice (some ⟨g14,0,none⟩) 1 1,[[Value.int .i64 op,.int .i64 a,.int .i64 b,.int .i64 c,.int .i64 0]]⟩ :: dO h s)) (S : Std w0) (hf : vO k s) (hu : s.uses.length < k) (hsy : Says k h s) (hln : h.vs.length = s.tabs.length) (hk : k ≤ 262144) (hn : s.idle = false → n < s.ins.length ∧ n < s.code.length)
  (L : Line l gw nn cc' (s0 :: r)) (hc' : r.length ≤ c') (how : r ≠ [] → ow = 1) (him : (bW (bn op)).2 = true) (hm : (bW (bn op)).1 = (m : Int)) {u : ByteArray} (rO : r[m]? = some u) {z : Int} (wK : Q.xP u.data.toList = (z,true)) (h6 : bn op ≠ 6) (h1 : ¬ z < 0 ∧ ¬ 65535 < z) :
  Code.wp Tryz.prog wP (bodyPost Tryz.prog Tryz.f63 fun z w' => z = .returned (.int .i64 (s.jC n op e [a,b,c] r).2) ∧ ∃ h',dX k w0 w' gr l h' (s.jC n op e [a,b,c] r).1) ⟨#[(.pointer (some ⟨gr,0,none⟩)),u1,u2,u3,(.int .i64 0),(.int .i64 op),(.int .i64 e),(.int .i64 (n : Int)),(.int .i64 (bn op)),u9,(.int .i64 (m : Int)),(.bool (bW (bn op)).2),(.slice (some ⟨gw,ow,none⟩) r.length c'),u13,(.pointer (some ⟨g14,0,none⟩)),u15,u16,yh,yj,yu,u20,u21,u22,u23,u24,u25,u26,u27,u28,u29,u30,u31,u32,u33,u34,u35,u36,u37,u38,yw,u40,yx,u42,yC,u44,u45,u46,yD,u48,u49,yE,u51,yF,u53,yG,u55,yH,yI,u58,u59,u60,u61,yJ,u63,u64,yK,u66,yL,u68,u69,u70,yM,u72,u73,yN,u75,yP,yQ,yS,yT,yU,yV,yX,yY,yZ,zf,zh,zi,zk,zn,zo,zq,zu,u93,zA,zB,zC,zD,zF,zG,jM,jO,jP,jQ,jR,u105,jS,jT,jU,jV,jW,jX,jY,jZ,ku,kD,kF,kG,kH,u119,kJ,kQ,kS,kT,u124,kU,kV,u127,kX,kZ,lg,u131,lq,lu,lC,lD,lF,lG,u138,u139,lH,lI,lJ,lK,lM,lN,lQ,lS,lT,lU,lV,lW,u152,lX,u154,lY,lZ,l7,l9,mg,mD,mF,u162,mG,u164,mJ,mM,mO,mP,mQ,mV,mW,mX,mY,mZ,ng,ny,nC,nD,nG,nH,nI,nJ,nK,nM,nN,nO,nP,nR,nS,nT,nU,nV,u193,u194,nX,u196,nY,u198,nZ,oh,u201,oq,ou,oz,oC,u206,oD,u208,oG,u210,oH,oI,oJ,oK,oL,oM,oN,oO,oP,oQ,oU,oV,oW,oZ,o7,o8,o9,pq,pz,pF,pG,pI,pJ,u234,pK,u236,pO,pR,pU,pV,pW,pX],[]⟩ W:=by
 have HF:=Lib.hid hf
 have HU:=Lib.hid hu
 have HS:=Lib.hid hsy
 have iK:=Lib.hid hln
 have HN:=Lib.hid hn
 have HK:=Lib.hid hk
 have Yl:=Lib.hid hc'
 obtain rfl:=how (by rintro rfl; simp at rO)
 have xw : W.cell? ⟨gw,1 + m,none⟩ = some (.string u):=by
  obtain ⟨i,cur,hi,hw⟩:=L.box
  rw [show 1 + m = m + 1 by omega]
  exact (M0.mem.cell (i + 1) (by simpa using hi) (m + 1)).trans (hw (m + 1) u (by simpa using rO))
 have hus : u.size ≤ 262144:=L.small u (List.mem_cons_of_mem _ (List.mem_of_getElem? rO))
 have wu:=Lib.hid (jD u hus W (S.below M0.mem.below))
 have JZ:=Lib.hid (fun W => jf u hus W)
 have Hl:=Lib.hid (fun W => eU.calls op _ W (qy op))
 have hml : m < r.length:=(List.getElem?_eq_some_iff.1 rO).1
 have hmI : (m : Int) < (r.length : Int):=by omega
 have OY : r.length ≤ c':=hc'
 rw [wK] at wu
 rw [CU him hm rO wK,him]
 have s1 : (bn op == 6) = false:=beq_eq_false_iff_ne.mpr h6
 have s2 : (bn op != 6) = true:=bne_iff_ne.mpr h6
 have d1 : decide (z < 0) = false:=decide_eq_false h1.1
 have d2 : decide (z > 65535) = false:=decide_eq_false h1.2
 have d3 : decide (65535 < z) = false:=decide_eq_false h1.2
 have ho : outOf (bn op) z = false:=by unfold outOf; rw [if_neg h6]; simp; omega
 rw [ho]
 have HE : (if false = true then (73 : Int) else e) = e:=rfl
 rw [HE]
 clear him hm rO wK h1 ho HE
 have M:=ah.mk M0
 clear hf hu hsy hln hn hk M0 S L hc' how
 conv => arg 2; whnf
 go_upto_if 143 with fail
 rename_i LC
 go_wp2_with fail
 refine (wu.out).mono ?_
 rintro e1 w1 ⟨rfl,hb1⟩
 have M1:=ah.mk (M.out.call hb1)
 clear M hb1 xw
 go_wp2_with (first | ((with_reducible refine aU (t:=3) (p:=214) rfl ?_); refine fE M1 3 (.tmp 214) 0 4 (.int .i64 z) [.int .i64 z] [.int .i64 op,.int .i64 a,.int .i64 b,.int .i64 c,.int .i64 0] (by decide) rfl ?_ rfl (by intro q hq; rw [List.mem_singleton] at hq; subst hq; rfl) (Nat.le_refl 5) rfl; clear M1; intro w9 MZ; refine LC _ _ ?_; (refine zW (h:=h) (jC:=z) (e:=e) (s:=s) MZ.out HF.out HS.out iK.out HK.out HN.out)))
theorem ZP {u1 u2 u3 u9 u13 u15 u16 yh yj yu u20 u21 u22 u23 u24 u25 u26 u27 u28 u29 u30 u31 u32 u33 u34 u35 u36 u37 u38 yw u40 yx u42 yC u44 u45 u46 yD u48 u49 yE u51 yF u53 yG u55 yH yI u58 u59 u60 u61 yJ u63 u64 yK u66 yL u68 u69 u70 yM u72 u73 yN u75 yP yQ yS yT yU yV yX yY yZ zf zh zi zk zn zo zq zu u93 zA zB zC zD zF zG jM jO jP jQ jR u105 jS jT jU jV jW jX jY jZ ku kD kF kG kH u119 kJ kQ kS kT u124 kU kV u127 kX kZ lg u131 lq lu lC lD lF lG u138 u139 lH lI lJ lK lM lN lQ lS lT lU lV lW u152 lX u154 lY lZ l7 l9 mg mD mF u162 mG u164 mJ mM mO mP mQ mV mW mX mY mZ ng ny nC nD nG nH nI nJ nK nM nN nO nP nR nS nT nU nV u193 u194 nX u196 nY u198 nZ oh u201 oq ou oz oC u206 oD u208 oG u210 oH oI oJ oK oL oM oN oO oP oQ oU oV oW oZ o7 o8 o9 pq pz pF pG pI pJ u234 pK u236 pO pR pU pV pW pX : Value} (M0 : bf vk w0 W ((gr,gZ h s,55) :: l) (Ea h) (⟨Kd.raw 5,70,.slice (some ⟨g14,0,none⟩) 1 1,[[Value.int .i64 op,.int .i64 a,.int .i64 b,.int .i64 c,.int .i64 0]]⟩ :: dO h s)) (S : Std w0) (hf : vO k s) (hu : s.uses.length < k) (hsy : Says k h s) (hln : h.vs.length = s.tabs.length) (hk : k ≤ 262144) (hn : s.idle = false → n < s.ins.length ∧ n < s.code.length)
  (L : Line l gw nn cc' (s0 :: r)) (hc' : r.length ≤ c') (how : r ≠ [] → ow = 1) (hm : (bW (bn op)).1 = (m : Int)) (hl : (r.length : Int) = (m : Int) + (if (bW (bn op)).2 then 1 else 0)) :
  Code.wp Tryz.prog wP (bodyPost Tryz.prog Tryz.f63 fun z w' => z = .returned (.int .i64 (s.jC n op e [a,b,c] r).2) ∧ ∃ h',dX k w0 w' gr l h' (s.jC n op e [a,b,c] r).1) ⟨#[(.pointer (some ⟨gr,0,none⟩)),u1,u2,u3,(.int .i64 0),(.int .i64 op),(.int .i64 e),(.int .i64 (n : Int)),(.int .i64 (bn op)),u9,(.int .i64 (m : Int)),(.bool (bW (bn op)).2),(.slice (some ⟨gw,ow,none⟩) r.length c'),u13,(.pointer (some ⟨g14,0,none⟩)),u15,u16,yh,yj,yu,u20,u21,u22,u23,u24,u25,u26,u27,u28,u29,u30,u31,u32,u33,u34,u35,u36,u37,u38,yw,u40,yx,u42,yC,u44,u45,u46,yD,u48,u49,yE,u51,yF,u53,yG,u55,yH,yI,u58,u59,u60,u61,yJ,u63,u64,yK,u66,yL,u68,u69,u70,yM,u72,u73,yN,u75,yP,yQ,yS,yT,yU,yV,yX,yY,yZ,zf,zh,zi,zk,zn,zo,zq,zu,u93,zA,zB,zC,zD,zF,zG,jM,jO,jP,jQ,jR,u105,jS,jT,jU,jV,jW,jX,jY,jZ,ku,kD,kF,kG,kH,u119,kJ,kQ,kS,kT,u124,kU,kV,u127,kX,kZ,lg,u131,lq,lu,lC,lD,lF,lG,u138,u139,lH,lI,lJ,lK,lM,lN,lQ,lS,lT,lU,lV,lW,u152,lX,u154,lY,lZ,l7,l9,mg,mD,mF,u162,mG,u164,mJ,mM,mO,mP,mQ,mV,mW,mX,mY,mZ,ng,ny,nC,nD,nG,nH,nI,nJ,nK,nM,nN,nO,nP,nR,nS,nT,nU,nV,u193,u194,nX,u196,nY,u198,nZ,oh,u201,oq,ou,oz,oC,u206,oD,u208,oG,u210,oH,oI,oJ,oK,oL,oM,oN,oO,oP,oQ,oU,oV,oW,oZ,o7,o8,o9,pq,pz,pF,pG,pI,pJ,u234,pK,u236,pO,pR,pU,pV,pW,pX],[]⟩ W:=by
 rcases Bool.eq_false_or_eq_true (bW (bn op)).2 with him | him
 case inr => exact acT M0 S hf hu hsy hln hk hn L hc' how him
 case inl =>
  rw [him,if_pos rfl] at hl
  obtain ⟨u,rO⟩ : ∃ u,r[m]? = some u:=⟨_,List.getElem?_eq_getElem (by omega)⟩
  obtain ⟨z,ok,wK⟩ : ∃ z ok,Q.xP u.data.toList = (z,ok):=⟨_,_,rfl⟩
  cases ok with
  | false =>
   cases hr : wY op with
   | false => exact Xf M0 S hf hu hsy hln hk hn L hc' how him hm rO wK hr
   | true =>
    cases hnb : Q.nameB u.data.toList with
    | false => exact Xg M0 S hf hu hsy hln hk hn L hc' how him hm rO wK hr hnb
    | true => exact ZN M0 S hf hu hsy hln hk hn L hc' how him hm rO wK hr hnb
  | true =>
   by_cases h6 : bn op = 6
   ·by_cases h1 : z < -32768
    ·exact WZ M0 S hf hu hsy hln hk hn L hc' how him hm rO wK h6 h1
    ·by_cases h2 : 32767 < z
     ·exact Xa M0 S hf hu hsy hln hk hn L hc' how him hm rO wK h6 ⟨h1,h2⟩
     ·exact Xb M0 S hf hu hsy hln hk hn L hc' how him hm rO wK h6 ⟨h1,h2⟩
   ·by_cases h1 : z < 0
    ·exact Xc M0 S hf hu hsy hln hk hn L hc' how him hm rO wK h6 h1
    ·by_cases h2 : 65535 < z
     ·exact Xd M0 S hf hu hsy hln hk hn L hc' how him hm rO wK h6 ⟨h1,h2⟩
     ·exact Xe M0 S hf hu hsy hln hk hn L hc' how him hm rO wK h6 ⟨h1,h2⟩
theorem Jb {u1 u2 u3 u9 u13 u15 u16 yh yj yu u20 u21 u22 u23 u24 u25 u26 u27 u28 u29 u30 u31 u32 u33 u34 u35 u36 u37 u38 yw u40 yx u42 yC u44 u45 u46 yD u48 u49 yE u51 yF u53 yG u55 yH yI u58 u59 u60 u61 yJ u63 u64 yK u66 yL u68 u69 u70 yM u72 u73 yN u75 yP yQ yS yT yU yV yX yY yZ zf zh zi zk zn zo zq zu u93 zA zB zC zD zF zG jM jO jP jQ jR u105 jS jT jU jV jW jX jY jZ ku kD kF kG kH u119 kJ kQ kS kT u124 kU kV u127 kX kZ lg u131 lq lu lC lD lF lG u138 u139 lH lI lJ lK lM lN lQ lS lT lU lV lW u152 lX u154 lY lZ l7 l9 mg mD mF u162 mG u164 mJ mM mO mP mQ mV mW mX mY mZ ng ny nC nD nG nH nI nJ nK nM nN nO nP nR nS nT nU nV u193 u194 nX u196 nY u198 nZ oh u201 oq ou oz oC u206 oD u208 oG u210 oH oI oJ oK oL oM oN oO oP oQ oU oV oW oZ o7 o8 o9 pq pz pF pG pI pJ u234 pK u236 pO pR pU pV pW pX : Value} (M0 : bf vk w0 W ((gr,gZ h s,55) :: l) (Ea h) (⟨Kd.raw 5,70,.slice (some ⟨g14,0,none⟩) 1 1,[[Value.int .i64 op,.int .i64 a,.int .i64 b,.int .i64 c,.int .i64 0]]⟩ :: dO h s)) (S : Std w0) (hf : vO k s) (hu : s.uses.length < k) (hsy : Says k h s) (hln : h.vs.length = s.tabs.length) (hk : k ≤ 262144) (hn : s.idle = false → n < s.ins.length ∧ n < s.code.length)
  (L : Line l gw nn cc' (s0 :: r)) (hc' : r.length ≤ c') (how : r ≠ [] → ow = 1) (hm : (bW (bn op)).1 = (m : Int)) (hl : (r.length : Int) = (m : Int) + (if (bW (bn op)).2 then 1 else 0)) {b0 : Bool} (hb : (bW (bn op)).2 = b0) :
  Code.wp Tryz.prog wP (bodyPost Tryz.prog Tryz.f63 fun z w' => z = .returned (.int .i64 (s.jC n op e [a,b,c] r).2) ∧ ∃ h',dX k w0 w' gr l h' (s.jC n op e [a,b,c] r).1) ⟨#[(.pointer (some ⟨gr,0,none⟩)),u1,u2,u3,(.int .i64 0),(.int .i64 op),(.int .i64 e),(.int .i64 (n : Int)),(.int .i64 (bn op)),u9,(.int .i64 (m : Int)),(.bool b0),(.slice (some ⟨gw,ow,none⟩) r.length c'),u13,(.pointer (some ⟨g14,0,none⟩)),u15,u16,yh,yj,yu,u20,u21,u22,u23,u24,u25,u26,u27,u28,u29,u30,u31,u32,u33,u34,u35,u36,u37,u38,yw,u40,yx,u42,yC,u44,u45,u46,yD,u48,u49,yE,u51,yF,u53,yG,u55,yH,yI,u58,u59,u60,u61,yJ,u63,u64,yK,u66,yL,u68,u69,u70,yM,u72,u73,yN,u75,yP,yQ,yS,yT,yU,yV,yX,yY,yZ,zf,zh,zi,zk,zn,zo,zq,zu,u93,zA,zB,zC,zD,zF,zG,jM,jO,jP,jQ,jR,u105,jS,jT,jU,jV,jW,jX,jY,jZ,ku,kD,kF,kG,kH,u119,kJ,kQ,kS,kT,u124,kU,kV,u127,kX,kZ,lg,u131,lq,lu,lC,lD,lF,lG,u138,u139,lH,lI,lJ,lK,lM,lN,lQ,lS,lT,lU,lV,lW,u152,lX,u154,lY,lZ,l7,l9,mg,mD,mF,u162,mG,u164,mJ,mM,mO,mP,mQ,mV,mW,mX,mY,mZ,ng,ny,nC,nD,nG,nH,nI,nJ,nK,nM,nN,nO,nP,nR,nS,nT,nU,nV,u193,u194,nX,u196,nY,u198,nZ,oh,u201,oq,ou,oz,oC,u206,oD,u208,oG,u210,oH,oI,oJ,oK,oL,oM,oN,oO,oP,oQ,oU,oV,oW,oZ,o7,o8,o9,pq,pz,pF,pG,pI,pJ,u234,pK,u236,pO,pR,pU,pV,pW,pX],[]⟩ W:=by
 subst hb
 exact ZP M0 S hf hu hsy hln hk hn L hc' how hm hl
end
end Go.Proofs.YtdbpglhdicmhhaaGreatDoor.qp
end
