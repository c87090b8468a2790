import Derived.Test.YtdbpglhdicmhhaaGreatDoorMPr27
set_option maxHeartbeats 8000000
set_option maxRecDepth 100000
set_option linter.unusedVariables false
set_option linter.unusedSimpArgs false
section
namespace Go.Proofs.YtdbpglhdicmhhaaGreatDoor.qp
open Go.RowKit Go.Shelf Go.Proofs.YtdbpglhdicmhhaaGreatDoorW.aI Go.Proofs.YtdbpglhdicmhhaaGreatDoorW.aX Go.Proofs.YtdbpglhdicmhhaaGreatDoorW.aZ iM
open Go.Proofs.YtdbpglhdicmhhaaGreatDoor.GA
noncomputable def yg : Code:=(List.range 5).foldl (fun c _ => ads c) (Tryz.f63.body.getD .skip)
def fill (op : Int) (q : List Int) (i : Nat) : List Value:=[.int .i64 op,.int .i64 (if 0 < i then q.getD 0 0 else 0),.int .i64 (if 1 < i then q.getD 1 0 else 0),.int .i64 (if 2 < i then q.getD 2 0 else 0),.int .i64 0]
theorem IX {op : Int} {q : List Int} {m : Nat} (hq : q.length = m) (hm : m ≤ 3) : fill op q m = [.int .i64 op,.int .i64 ((xH q).getD 0 0),.int .i64 ((xH q).getD 1 0),.int .i64 ((xH q).getD 2 0),.int .i64 0]:=by
 unfold fill xH
 have z : ∀ j,q.length ≤ j → q.getD j 0 = 0:=fun j hj => by rw [List.getD_eq_getElem?_getD,List.getElem?_eq_none hj]; rfl
 have key : ∀ j,(if j < m then q.getD j 0 else 0) = q.getD j 0:=fun j => by
  by_cases h : j < m
  ·rw [if_pos h]
  ·rw [if_neg h,z j (by omega)]
 rw [key,key,key]; rfl
theorem EU {s : St} {n : Nat} {op : Int} {rest : List ByteArray} (h : (rest.length : Int) ≠ (bW (bn op)).1 + (if (bW (bn op)).2 then 1 else 0)) : s.regs n op rest = (s,70):=if_pos h
theorem Ju {s : St} {n m : Nat} {op : Int} {rest : List ByteArray} (hm : (bW (bn op)).1 = (m : Int)) (h : (rest.length : Int) = (m : Int) + (if (bW (bn op)).2 then 1 else 0)) (h2 : (Q.fD [] 0 (bl (rest.take m))).2 = 70) : s.regs n op rest = (s,70):=by
 unfold St.regs
 rw [if_neg (by rw [hm]; exact fun e => e h),hm,Int.toNat_natCast]
 exact if_pos h2
theorem NR {s : St} {n m : Nat} {op : Int} {rest : List ByteArray} (hm : (bW (bn op)).1 = (m : Int)) (h : (rest.length : Int) = (m : Int) + (if (bW (bn op)).2 then 1 else 0)) (h2 : (Q.fD [] 0 (bl (rest.take m))).2 ≠ 70) : s.regs n op rest = s.jC n op (Q.fD [] 0 (bl (rest.take m))).2 (xH (Q.fD [] 0 (bl (rest.take m))).1) rest:=by
 unfold St.regs
 rw [if_neg (by rw [hm]; exact fun e => e h),hm,Int.toNat_natCast]
 exact if_neg h2
theorem Gf {k : Nat} {w0 W : World} {gr : Nat} {l : List (Nat × Array Value × TypeId)} {h : Hd} {s : St} (M : dX k w0 W gr l h s) (S : Std w0) {gw n c : Nat} {s0 : ByteArray} {r : List ByteArray} (L : Line l gw n c (s0 :: r)) (ow m c' : Nat) (how : r ≠ [] → ow = 1) (hm : m ≤ r.length) (hc' : m ≤ c') (hgw : gw < W.heap.size) :
  Calls Tryz.prog 94 #[.slice (some ⟨gw,ow,none⟩) m c'] W fun e w' => ∃ A c,e = .returned (.tuple #[.slice A (Q.fD [] 0 (bl (r.take m))).1.length c,.int .i64 (Q.fD [] 0 (bl (r.take m))).2]) ∧
   bf vk w0 w' ((gr,gZ h s,55) :: l) (Ea h) (⟨Kd.int .i64,3,.slice A (Q.fD [] 0 (bl (r.take m))).1.length c,(Q.fD [] 0 (bl (r.take m))).1⟩ :: dO h s):=by
 have hl : (r.take m).length = m:=by rw [List.length_take]; omega
 have hw : Bf W gw ow (r.take m):=by
  by_cases hr : r = []
  ·subst hr; intro i p hi; simp at hi
  ·obtain rfl:=how hr
   intro i p hi
   refine (Line.rest L M) i p ?_
   rw [List.getElem?_take] at hi
   split at hi
   ·exact hi
   ·cases hi
 have hfew : r.length + 1 ≤ 262144:=by have h1:=L.len; have h2:=L.few; rw [List.length_cons] at h1; omega
 have WV:=BI gw ow c' (r.take m) W (S.below M.below) hgw hw (fun p hp => L.small p (List.mem_cons_of_mem _ (List.mem_of_mem_take hp))) (by omega) (by omega)
 rw [hl] at WV
 refine WV.mono ?_
 rintro e w' ⟨v,rfl,hR⟩
 obtain ⟨A,c,hv⟩ : ∃ A c,v = .slice A (Q.fD [] 0 (bl (r.take m))).1.length c:=Kd.iy (hR.mem.owns 0 _ rfl)
 subst hv
 exact ⟨A,c,rfl,M.mem.row hR.mem.below hR.mem.own (by decide)⟩
theorem aaR {op : Int} {q : List Int} : (fill op q 0).take 1 ++ [Value.int .i64 (q.getD 0 0)] ++ (fill op q 0).drop (1 + [Value.int .i64 (q.getD 0 0)].length) = fill op q 1:=by simp [fill]
theorem aaS {op : Int} {q : List Int} : (fill op q 1).take 2 ++ [Value.int .i64 (q.getD 1 0)] ++ (fill op q 1).drop (2 + [Value.int .i64 (q.getD 1 0)].length) = fill op q 2:=by simp [fill]
theorem aaT {op : Int} {q : List Int} : (fill op q 2).take 3 ++ [Value.int .i64 (q.getD 2 0)] ++ (fill op q 2).drop (3 + [Value.int .i64 (q.getD 2 0)].length) = fill op q 3:=by simp [fill]
section
variable {k : Nat} {w0 W : World} {gr gw : Nat} {l : List (Nat × Array Value × TypeId)} {h : Hd} {s : St} {op : Int} {n m cc' : Nat} {s0 : ByteArray} {r : List ByteArray}
theorem XP {u2 u3 u8 u9 u10 u11 u12 u13 u14 u15 u16 yh yj yu u20 u21 u22 u23 u24 u25 u26 u27 u28 u29 u30 u31 u32 u33 u34 u35 u36 u37 u38 yw u40 yx u42 yC u44 u45 u46 yD u48 u49 yE u51 yF u53 yG u55 yH yI u58 u59 u60 u61 yJ u63 u64 yK u66 yL u68 u69 u70 yM u72 u73 yN u75 yP yQ yS yT yU yV yX yY yZ zf zh zi zk zn zo zq zu u93 zA zB zC zD zF zG jM jO jP jQ jR u105 jS jT jU jV jW jX jY jZ ku kD kF kG kH u119 kJ kQ kS kT u124 kU kV u127 kX kZ lg u131 lq lu lC lD lF lG u138 u139 lH lI lJ lK lM lN lQ lS lT lU lV lW u152 lX u154 lY lZ l7 l9 mg mD mF u162 mG u164 mJ mM mO mP mQ mV mW mX mY mZ ng ny nC nD nG nH nI nJ nK nM nN nO nP nR nS nT nU nV u193 u194 nX u196 nY u198 nZ oh u201 oq ou oz oC u206 oD u208 oG u210 oH oI oJ oK oL oM oN oO oP oQ oU oV oW oZ o7 o8 o9 pq pz pF pG pI pJ u234 pK u236 pO pR pU pV pW pX : Value} (M0 : dX k w0 W gr l h s) (S : Std w0) (hu : s.uses.length < k) (hk : k ≤ 262144) (hn : s.idle = false → n < s.ins.length ∧ n < s.code.length)
  (L : Line l gw (([] : List ByteArray).length + 1) 1 (s0 :: ([] : List ByteArray))) (hm : (bW (bn op)).1 = (m : Int)) (AL : m ≤ 3) (him : (bW (bn op)).2 = false) (hl : (0 : Int) ≠ (m : Int)) :
  Code.wp Tryz.prog yg (bodyPost Tryz.prog Tryz.f63 fun z w' => z = .returned (.int .i64 (s.regs n op ([] : List ByteArray)).2) ∧ ∃ h',dX k w0 w' gr l h' (s.regs n op ([] : List ByteArray)).1) ⟨#[(.pointer (some ⟨gr,0,none⟩)),(.slice (some ⟨gw,0,none⟩) 1 1),u2,u3,(.int .i64 0),(.int .i64 op),(.int .i64 0),(.int .i64 (n : Int)),u8,u9,u10,u11,u12,u13,u14,u15,u16,yh,yj,yu,u20,u21,u22,u23,u24,u25,u26,u27,u28,u29,u30,u31,u32,u33,u34,u35,u36,u37,u38,yw,u40,yx,u42,yC,u44,u45,u46,yD,u48,u49,yE,u51,yF,u53,yG,u55,yH,yI,u58,u59,u60,u61,yJ,u63,u64,yK,u66,yL,u68,u69,u70,yM,u72,u73,yN,u75,yP,yQ,yS,yT,yU,yV,yX,yY,yZ,zf,zh,zi,zk,zn,zo,zq,zu,u93,zA,zB,zC,zD,zF,zG,jM,jO,jP,jQ,jR,u105,jS,jT,jU,jV,jW,jX,jY,jZ,ku,kD,kF,kG,kH,u119,kJ,kQ,kS,kT,u124,kU,kV,u127,kX,kZ,lg,u131,lq,lu,lC,lD,lF,lG,u138,u139,lH,lI,lJ,lK,lM,lN,lQ,lS,lT,lU,lV,lW,u152,lX,u154,lY,lZ,l7,l9,mg,mD,mF,u162,mG,u164,mJ,mM,mO,mP,mQ,mV,mW,mX,mY,mZ,ng,ny,nC,nD,nG,nH,nI,nJ,nK,nM,nN,nO,nP,nR,nS,nT,nU,nV,u193,u194,nX,u196,nY,u198,nZ,oh,u201,oq,ou,oz,oC,u206,oD,u208,oG,u210,oH,oI,oJ,oK,oL,oM,oN,oO,oP,oQ,oU,oV,oW,oZ,o7,o8,o9,pq,pz,pF,pG,pI,pJ,u234,pK,u236,pO,pR,pU,pV,pW,pX],[]⟩ W:=by
 have SS:=Lib.hid S
 have HU:=Lib.hid hu
 have HN:=Lib.hid hn
 have HK:=Lib.hid hk
 have HL:=Lib.hid L
 have HM:=Lib.hid hm
 have Ul:=Lib.hid AL
 have Hl:=Lib.hid True.intro
 obtain ⟨es,hes⟩:=qE op
 have KQ:=Lib.hid (fun W => eF.calls op _ _ W hes)
 have hfl:=jF (bn op)
 rw [hm] at hfl
 have Eb:=Lib.hid (fun W => dF.calls (bn op) _ _ W hfl)
 rw [EU (by rw [hm,him]; simpa using hl)]
 rw [him] at Eb
 have b1 : ((0 : Int) != (m : Int)) = true:=bne_iff_ne.mpr hl
 have M:=ah.mk M0
 clear M0 S hu hk hn L hm hes hfl AL him hl HM
 conv => arg 2; whnf
 go_wp2_with (first | (go_at_call 36; refine (KQ.out _).mono ?_; rintro e1 w1 ⟨rfl,hb1⟩; have M1:=ah.mk (M.out.call hb1); clear M hb1) | (go_at_call 37; refine (Eb.out _).mono ?_; rintro e2 w2 ⟨rfl,hd2⟩; have M2:=ah.mk (M1.out.call (gK hd2)); clear M1 hd2))
 go_returns
 exact ⟨rfl,_,M2.out⟩
theorem XR {u2 u3 u8 u9 u10 u11 u12 u13 u14 u15 u16 yh yj yu u20 u21 u22 u23 u24 u25 u26 u27 u28 u29 u30 u31 u32 u33 u34 u35 u36 u37 u38 yw u40 yx u42 yC u44 u45 u46 yD u48 u49 yE u51 yF u53 yG u55 yH yI u58 u59 u60 u61 yJ u63 u64 yK u66 yL u68 u69 u70 yM u72 u73 yN u75 yP yQ yS yT yU yV yX yY yZ zf zh zi zk zn zo zq zu u93 zA zB zC zD zF zG jM jO jP jQ jR u105 jS jT jU jV jW jX jY jZ ku kD kF kG kH u119 kJ kQ kS kT u124 kU kV u127 kX kZ lg u131 lq lu lC lD lF lG u138 u139 lH lI lJ lK lM lN lQ lS lT lU lV lW u152 lX u154 lY lZ l7 l9 mg mD mF u162 mG u164 mJ mM mO mP mQ mV mW mX mY mZ ng ny nC nD nG nH nI nJ nK nM nN nO nP nR nS nT nU nV u193 u194 nX u196 nY u198 nZ oh u201 oq ou oz oC u206 oD u208 oG u210 oH oI oJ oK oL oM oN oO oP oQ oU oV oW oZ o7 o8 o9 pq pz pF pG pI pJ u234 pK u236 pO pR pU pV pW pX : Value} (M0 : dX k w0 W gr l h s) (S : Std w0) (hu : s.uses.length < k) (hk : k ≤ 262144) (hn : s.idle = false → n < s.ins.length ∧ n < s.code.length)
  (L : Line l gw (([] : List ByteArray).length + 1) 1 (s0 :: ([] : List ByteArray))) (hm : (bW (bn op)).1 = (m : Int)) (AL : m ≤ 3) (him : (bW (bn op)).2 = true) (hl : (0 : Int) ≠ (m : Int) + 1) :
  Code.wp Tryz.prog yg (bodyPost Tryz.prog Tryz.f63 fun z w' => z = .returned (.int .i64 (s.regs n op ([] : List ByteArray)).2) ∧ ∃ h',dX k w0 w' gr l h' (s.regs n op ([] : List ByteArray)).1) ⟨#[(.pointer (some ⟨gr,0,none⟩)),(.slice (some ⟨gw,0,none⟩) 1 1),u2,u3,(.int .i64 0),(.int .i64 op),(.int .i64 0),(.int .i64 (n : Int)),u8,u9,u10,u11,u12,u13,u14,u15,u16,yh,yj,yu,u20,u21,u22,u23,u24,u25,u26,u27,u28,u29,u30,u31,u32,u33,u34,u35,u36,u37,u38,yw,u40,yx,u42,yC,u44,u45,u46,yD,u48,u49,yE,u51,yF,u53,yG,u55,yH,yI,u58,u59,u60,u61,yJ,u63,u64,yK,u66,yL,u68,u69,u70,yM,u72,u73,yN,u75,yP,yQ,yS,yT,yU,yV,yX,yY,yZ,zf,zh,zi,zk,zn,zo,zq,zu,u93,zA,zB,zC,zD,zF,zG,jM,jO,jP,jQ,jR,u105,jS,jT,jU,jV,jW,jX,jY,jZ,ku,kD,kF,kG,kH,u119,kJ,kQ,kS,kT,u124,kU,kV,u127,kX,kZ,lg,u131,lq,lu,lC,lD,lF,lG,u138,u139,lH,lI,lJ,lK,lM,lN,lQ,lS,lT,lU,lV,lW,u152,lX,u154,lY,lZ,l7,l9,mg,mD,mF,u162,mG,u164,mJ,mM,mO,mP,mQ,mV,mW,mX,mY,mZ,ng,ny,nC,nD,nG,nH,nI,nJ,nK,nM,nN,nO,nP,nR,nS,nT,nU,nV,u193,u194,nX,u196,nY,u198,nZ,oh,u201,oq,ou,oz,oC,u206,oD,u208,oG,u210,oH,oI,oJ,oK,oL,oM,oN,oO,oP,oQ,oU,oV,oW,oZ,o7,o8,o9,pq,pz,pF,pG,pI,pJ,u234,pK,u236,pO,pR,pU,pV,pW,pX],[]⟩ W:=by
 have SS:=Lib.hid S
 have HU:=Lib.hid hu
 have HN:=Lib.hid hn
 have HK:=Lib.hid hk
 have HL:=Lib.hid L
 have HM:=Lib.hid hm
 have Ul:=Lib.hid AL
 have Hl:=Lib.hid True.intro
 obtain ⟨es,hes⟩:=qE op
 have KQ:=Lib.hid (fun W => eF.calls op _ _ W hes)
 have hfl:=jF (bn op)
 rw [hm] at hfl
 have Eb:=Lib.hid (fun W => dF.calls (bn op) _ _ W hfl)
 rw [EU (by rw [hm,him]; simpa using hl)]
 rw [him] at Eb
 obtain ⟨m1,hm1⟩ : ∃ x : Int,x = (m : Int) + 1:=⟨_,rfl⟩
 have wm : wrap64 ((m : Int) + 1) = m1:=by rw [hm1]; exact IntWalk.wrap64_in _ (by omega)
 rw [← hm1] at hl
 have b1 : ((0 : Int) != m1) = true:=bne_iff_ne.mpr hl
 have M:=ah.mk M0
 clear M0 S hu hk hn L hm hes hfl AL him hl hm1 HM
 conv => arg 2; whnf
 go_wp2_with (first | (go_at_call 36; refine (KQ.out _).mono ?_; rintro e1 w1 ⟨rfl,hb1⟩; have M1:=ah.mk (M.out.call hb1); clear M hb1) | (go_at_call 37; refine (Eb.out _).mono ?_; rintro e2 w2 ⟨rfl,hd2⟩; have M2:=ah.mk (M1.out.call (gK hd2)); clear M1 hd2))
 go_returns
 exact ⟨rfl,_,M2.out⟩
theorem XV {u2 u3 u8 u9 u10 u11 u12 u13 u14 u15 u16 yh yj yu u20 u21 u22 u23 u24 u25 u26 u27 u28 u29 u30 u31 u32 u33 u34 u35 u36 u37 u38 yw u40 yx u42 yC u44 u45 u46 yD u48 u49 yE u51 yF u53 yG u55 yH yI u58 u59 u60 u61 yJ u63 u64 yK u66 yL u68 u69 u70 yM u72 u73 yN u75 yP yQ yS yT yU yV yX yY yZ zf zh zi zk zn zo zq zu u93 zA zB zC zD zF zG jM jO jP jQ jR u105 jS jT jU jV jW jX jY jZ ku kD kF kG kH u119 kJ kQ kS kT u124 kU kV u127 kX kZ lg u131 lq lu lC lD lF lG u138 u139 lH lI lJ lK lM lN lQ lS lT lU lV lW u152 lX u154 lY lZ l7 l9 mg mD mF u162 mG u164 mJ mM mO mP mQ mV mW mX mY mZ ng ny nC nD nG nH nI nJ nK nM nN nO nP nR nS nT nU nV u193 u194 nX u196 nY u198 nZ oh u201 oq ou oz oC u206 oD u208 oG u210 oH oI oJ oK oL oM oN oO oP oQ oU oV oW oZ o7 o8 o9 pq pz pF pG pI pJ u234 pK u236 pO pR pU pV pW pX : Value} (M0 : dX k w0 W gr l h s) (S : Std w0) (hu : s.uses.length < k) (hk : k ≤ 262144) (hn : s.idle = false → n < s.ins.length ∧ n < s.code.length)
  (L : Line l gw (([] : List ByteArray).length + 1) 1 (s0 :: ([] : List ByteArray))) (hm : (bW (bn op)).1 = (m : Int)) (AL : m ≤ 3) (him : (bW (bn op)).2 = false) (hl : (0 : Int) = (m : Int)) (vS : (Q.fD [] 0 (bl (([] : List ByteArray).take m))).2 = 70) :
  Code.wp Tryz.prog yg (bodyPost Tryz.prog Tryz.f63 fun z w' => z = .returned (.int .i64 (s.regs n op ([] : List ByteArray)).2) ∧ ∃ h',dX k w0 w' gr l h' (s.regs n op ([] : List ByteArray)).1) ⟨#[(.pointer (some ⟨gr,0,none⟩)),(.slice (some ⟨gw,0,none⟩) 1 1),u2,u3,(.int .i64 0),(.int .i64 op),(.int .i64 0),(.int .i64 (n : Int)),u8,u9,u10,u11,u12,u13,u14,u15,u16,yh,yj,yu,u20,u21,u22,u23,u24,u25,u26,u27,u28,u29,u30,u31,u32,u33,u34,u35,u36,u37,u38,yw,u40,yx,u42,yC,u44,u45,u46,yD,u48,u49,yE,u51,yF,u53,yG,u55,yH,yI,u58,u59,u60,u61,yJ,u63,u64,yK,u66,yL,u68,u69,u70,yM,u72,u73,yN,u75,yP,yQ,yS,yT,yU,yV,yX,yY,yZ,zf,zh,zi,zk,zn,zo,zq,zu,u93,zA,zB,zC,zD,zF,zG,jM,jO,jP,jQ,jR,u105,jS,jT,jU,jV,jW,jX,jY,jZ,ku,kD,kF,kG,kH,u119,kJ,kQ,kS,kT,u124,kU,kV,u127,kX,kZ,lg,u131,lq,lu,lC,lD,lF,lG,u138,u139,lH,lI,lJ,lK,lM,lN,lQ,lS,lT,lU,lV,lW,u152,lX,u154,lY,lZ,l7,l9,mg,mD,mF,u162,mG,u164,mJ,mM,mO,mP,mQ,mV,mW,mX,mY,mZ,ng,ny,nC,nD,nG,nH,nI,nJ,nK,nM,nN,nO,nP,nR,nS,nT,nU,nV,u193,u194,nX,u196,nY,u198,nZ,oh,u201,oq,ou,oz,oC,u206,oD,u208,oG,u210,oH,oI,oJ,oK,oL,oM,oN,oO,oP,oQ,oU,oV,oW,oZ,o7,o8,o9,pq,pz,pF,pG,pI,pJ,u234,pK,u236,pO,pR,pU,pV,pW,pX],[]⟩ W:=by
 have SS:=Lib.hid S
 have HU:=Lib.hid hu
 have HN:=Lib.hid hn
 have HK:=Lib.hid hk
 have HL:=Lib.hid L
 have HM:=Lib.hid hm
 have Ul:=Lib.hid AL
 have Hl:=Lib.hid True.intro
 obtain ⟨es,hes⟩:=qE op
 have KQ:=Lib.hid (fun W => eF.calls op _ _ W hes)
 have hfl:=jF (bn op)
 rw [hm] at hfl
 have Eb:=Lib.hid (fun W => dF.calls (bn op) _ _ W hfl)
 have rF:=Lib.hid M0.few
 have fU:=Lib.hid M0.says
 have iK:=Lib.hid M0.len
 obtain ⟨q,hq⟩ : ∃ q,Q.fD [] 0 (bl (([] : List ByteArray).take m)) = q:=⟨_,rfl⟩
 have HQ:=Lib.hid hq
 rw [Ju hm (by rw [him]; simpa using hl) vS]
 rw [hq] at vS
 have H70:=Lib.hid vS
 have b70 : (q.2 == 70) = true:=by rw [vS]; rfl
 obtain rfl : m = 0:=by omega
 rw [him] at Eb
 have HOW:=Lib.hid (show ([] : List ByteArray) ≠ [] → 0 = 1 from fun h => (h rfl).elim)
 have Vx:=Lib.hid (show 0 ≤ ([] : List ByteArray).length from Nat.le_refl 0)
 have Vw:=Lib.hid (Nat.le_refl 0)
 have M:=ah.mk M0
 clear M0 S hu hk hn L hm hes hfl AL him hl hq vS HM
 conv => arg 2; whnf
 go_wp2_with (first | (go_at_call 36; refine (KQ.out _).mono ?_; rintro e1 w1 ⟨rfl,hb1⟩; have M1:=ah.mk (M.out.call hb1); clear M hb1) | (go_at_call 37; refine (Eb.out _).mono ?_; rintro e2 w2 ⟨rfl,hd2⟩; have M2:=ah.mk (M1.out.call (gK hd2)); clear M1 hd2) | (go_at_call 94; have rr:=Gf M2.out SS.out HL.out 0 0 0 (fun h => (h rfl).elim) Vx.out Vw.out (zX M2.out HL.out); rw [HQ.out] at rr; refine rr.mono ?_; rintro e3 w3 ⟨A3,c3,rfl,MF⟩; have M3:=ah.mk MF; clear M2 MF rr))
 go_returns
 exact ⟨by show Ending.returned (.int .i64 q.2) = _; rw [H70.out],h,M3.out.fQ Mem.tail,rF.out,fU.out,iK.out⟩
theorem XL {u2 u3 u8 u9 u10 u11 u12 u13 u14 u15 u16 yh yj yu u20 u21 u22 u23 u24 u25 u26 u27 u28 u29 u30 u31 u32 u33 u34 u35 u36 u37 u38 yw u40 yx u42 yC u44 u45 u46 yD u48 u49 yE u51 yF u53 yG u55 yH yI u58 u59 u60 u61 yJ u63 u64 yK u66 yL u68 u69 u70 yM u72 u73 yN u75 yP yQ yS yT yU yV yX yY yZ zf zh zi zk zn zo zq zu u93 zA zB zC zD zF zG jM jO jP jQ jR u105 jS jT jU jV jW jX jY jZ ku kD kF kG kH u119 kJ kQ kS kT u124 kU kV u127 kX kZ lg u131 lq lu lC lD lF lG u138 u139 lH lI lJ lK lM lN lQ lS lT lU lV lW u152 lX u154 lY lZ l7 l9 mg mD mF u162 mG u164 mJ mM mO mP mQ mV mW mX mY mZ ng ny nC nD nG nH nI nJ nK nM nN nO nP nR nS nT nU nV u193 u194 nX u196 nY u198 nZ oh u201 oq ou oz oC u206 oD u208 oG u210 oH oI oJ oK oL oM oN oO oP oQ oU oV oW oZ o7 o8 o9 pq pz pF pG pI pJ u234 pK u236 pO pR pU pV pW pX : Value} (M0 : dX k w0 W gr l h s) (S : Std w0) (hu : s.uses.length < k) (hk : k ≤ 262144) (hn : s.idle = false → n < s.ins.length ∧ n < s.code.length)
  (L : Line l gw (([] : List ByteArray).length + 1) 1 (s0 :: ([] : List ByteArray))) (hm : (bW (bn op)).1 = (m : Int)) (AL : m ≤ 3) (him : (bW (bn op)).2 = false) (hl : (0 : Int) = (m : Int)) (vS : (Q.fD [] 0 (bl (([] : List ByteArray).take m))).2 ≠ 70) :
  Code.wp Tryz.prog yg (bodyPost Tryz.prog Tryz.f63 fun z w' => z = .returned (.int .i64 (s.regs n op ([] : List ByteArray)).2) ∧ ∃ h',dX k w0 w' gr l h' (s.regs n op ([] : List ByteArray)).1) ⟨#[(.pointer (some ⟨gr,0,none⟩)),(.slice (some ⟨gw,0,none⟩) 1 1),u2,u3,(.int .i64 0),(.int .i64 op),(.int .i64 0),(.int .i64 (n : Int)),u8,u9,u10,u11,u12,u13,u14,u15,u16,yh,yj,yu,u20,u21,u22,u23,u24,u25,u26,u27,u28,u29,u30,u31,u32,u33,u34,u35,u36,u37,u38,yw,u40,yx,u42,yC,u44,u45,u46,yD,u48,u49,yE,u51,yF,u53,yG,u55,yH,yI,u58,u59,u60,u61,yJ,u63,u64,yK,u66,yL,u68,u69,u70,yM,u72,u73,yN,u75,yP,yQ,yS,yT,yU,yV,yX,yY,yZ,zf,zh,zi,zk,zn,zo,zq,zu,u93,zA,zB,zC,zD,zF,zG,jM,jO,jP,jQ,jR,u105,jS,jT,jU,jV,jW,jX,jY,jZ,ku,kD,kF,kG,kH,u119,kJ,kQ,kS,kT,u124,kU,kV,u127,kX,kZ,lg,u131,lq,lu,lC,lD,lF,lG,u138,u139,lH,lI,lJ,lK,lM,lN,lQ,lS,lT,lU,lV,lW,u152,lX,u154,lY,lZ,l7,l9,mg,mD,mF,u162,mG,u164,mJ,mM,mO,mP,mQ,mV,mW,mX,mY,mZ,ng,ny,nC,nD,nG,nH,nI,nJ,nK,nM,nN,nO,nP,nR,nS,nT,nU,nV,u193,u194,nX,u196,nY,u198,nZ,oh,u201,oq,ou,oz,oC,u206,oD,u208,oG,u210,oH,oI,oJ,oK,oL,oM,oN,oO,oP,oQ,oU,oV,oW,oZ,o7,o8,o9,pq,pz,pF,pG,pI,pJ,u234,pK,u236,pO,pR,pU,pV,pW,pX],[]⟩ W:=by
 have SS:=Lib.hid S
 have HU:=Lib.hid hu
 have HN:=Lib.hid hn
 have HK:=Lib.hid hk
 have HL:=Lib.hid L
 have HM:=Lib.hid hm
 have Ul:=Lib.hid AL
 have Hl:=Lib.hid True.intro
 obtain ⟨es,hes⟩:=qE op
 have KQ:=Lib.hid (fun W => eF.calls op _ _ W hes)
 have hfl:=jF (bn op)
 rw [hm] at hfl
 have Eb:=Lib.hid (fun W => dF.calls (bn op) _ _ W hfl)
 have rF:=Lib.hid M0.few
 have fU:=Lib.hid M0.says
 have iK:=Lib.hid M0.len
 obtain ⟨q,hq⟩ : ∃ q,Q.fD [] 0 (bl (([] : List ByteArray).take m)) = q:=⟨_,rfl⟩
 have HQ:=Lib.hid hq
 have HIM:=Lib.hid him
 have Vu:=Lib.hid (show ((([] : List ByteArray).length : Nat) : Int) = (m : Int) + (if (bW (bn op)).2 then 1 else 0) by rw [him]; simpa using hl)
 rw [NR hm (by rw [him]; simpa using hl) vS]
 rw [hq] at vS ⊢
 have JE:=Lib.hid (show q.1.length = m by rw [← hq]; have h1:=Q.xC (bl (([] : List ByteArray).take m)) [] 0 (by rw [hq]; exact vS); rw [h1]; show 0 + ((([] : List ByteArray).take m).map _).length = _; rw [List.length_map,List.length_take]; simp; omega)
 have b70 : (q.2 == 70) = false:=beq_eq_false_iff_ne.mpr vS
 obtain rfl : m = 0:=by omega
 rw [him] at Eb
 have HOW:=Lib.hid (show ([] : List ByteArray) ≠ [] → 0 = 1 from fun h => (h rfl).elim)
 have Vx:=Lib.hid (show 0 ≤ ([] : List ByteArray).length from Nat.le_refl 0)
 have Vw:=Lib.hid (Nat.le_refl 0)
 have M:=ah.mk M0
 clear M0 S hu hk hn L hm hes hfl AL him hl hq vS
 conv => arg 2; whnf
 go_wp2_with (first | (go_at_call 36; refine (KQ.out _).mono ?_; rintro e1 w1 ⟨rfl,hb1⟩; have M1:=ah.mk (M.out.call hb1); clear M hb1) | (go_at_call 37; refine (Eb.out _).mono ?_; rintro e2 w2 ⟨rfl,hd2⟩; have M2:=ah.mk (M1.out.call (gK hd2)); clear M1 hd2) | (go_at_call 94; have rr:=Gf M2.out SS.out HL.out 0 0 0 (fun h => (h rfl).elim) Vx.out Vw.out (zX M2.out HL.out); rw [HQ.out] at rr; rw [JE.out] at rr; refine rr.mono ?_; rintro e3 w3 ⟨A3,c3,rfl,MF⟩; have M3:=ah.mk MF; clear M2 MF rr) | ((with_reducible refine bI (N:=14) rfl ?_); refine fBr M3 14 [.int .i64 0,.int .i64 0,.int .i64 0,.int .i64 0,.int .i64 0] 70 (by decide) (by decide) ?_; clear M3; intro g14 w4 M4) | ((with_reducible refine aU (t:=70) (p:=14) rfl ?_); refine fE M4 70 (.tmp 14) 0 0 (.agg #[.int .i64 op,.int .i64 0,.int .i64 0,.int .i64 0,.int .i64 0]) [.int .i64 op,.int .i64 0,.int .i64 0,.int .i64 0,.int .i64 0] [.int .i64 0,.int .i64 0,.int .i64 0,.int .i64 0,.int .i64 0] (by decide) rfl ?_ rfl (by intro q hq; simp at hq; rcases hq with rfl | rfl | rfl | rfl | rfl <;> rfl) (Nat.le_refl 5) rfl; clear M4; intro w5 M5))
 rename_i Wi
 have HF:=Lib.hid (show (fill op q.1 0 : List Value) = [.int .i64 op,.int .i64 0,.int .i64 0,.int .i64 0,.int .i64 0] from rfl)
 go_loopw [124] (fun v124 wr => ∃ i : Nat,i ≤ 0 ∧ v124 = .int .i64 (i : Int) ∧ bf vk w0 wr ((gr,gZ h s,55) :: l) (Ea h) (⟨Kd.raw 5,70,.slice (some ⟨g14,0,none⟩) 1 1,[fill op q.1 i]⟩ :: ⟨Kd.int .i64,3,.slice A3 0 c3,q.1⟩ :: dO h s)) (fun v124 _ => 0 - (intOf v124).toNat)
 case atStart => exact ⟨0,Nat.zero_le _,rfl,by rw [HF.out]; exact M5.out⟩
 obtain ⟨i,hi,rfl,MF⟩:=hrel
 have M6:=ah.mk MF
 clear MF M5
 by_cases him : i < 0
 ·exfalso; omega
 ·obtain rfl : 0 = i:=by omega
  have q2 : ¬ ((0 : Nat) : Int) < ((0 : Nat) : Int):=by omega
  have HFE:=Lib.hid (IX (op:=op) JE.out (m:=0) (by omega))
  have hfe:=HFE.out
  have M7:=ah.mk (show bf vk w0 _ ((gr,gZ h s,55) :: l) (Ea h) (⟨Kd.raw 5,70,.slice (some ⟨g14,0,none⟩) 1 1,[[.int .i64 op,.int .i64 ((xH q.1).getD 0 0),.int .i64 ((xH q.1).getD 1 0),.int .i64 ((xH q.1).getD 2 0),.int .i64 0]]⟩ :: dO h s) from by
   have h1:=M6.out
   rw [hfe] at h1
   exact (bf.front h1 1 rfl).fQ Mem.tail)
  clear M6 hfe
  go_upto_if 125 with fail
  refine wp_cond_split rfl (fun h => ?_) (fun h => ?_)
  ·simp at h
  ·refine wp_exit ?_
   refine Wi _ _ ?_
   exact Jb M7.out SS.out rF.out HU.out fU.out iK.out HK.out HN.out HL.out (Nat.le_refl 0) (fun h => (h rfl).elim) HM.out Vu.out HIM.out
theorem XQ {u2 u3 u8 u9 u10 u11 u12 u13 u14 u15 u16 yh yj yu u20 u21 u22 u23 u24 u25 u26 u27 u28 u29 u30 u31 u32 u33 u34 u35 u36 u37 u38 yw u40 yx u42 yC u44 u45 u46 yD u48 u49 yE u51 yF u53 yG u55 yH yI u58 u59 u60 u61 yJ u63 u64 yK u66 yL u68 u69 u70 yM u72 u73 yN u75 yP yQ yS yT yU yV yX yY yZ zf zh zi zk zn zo zq zu u93 zA zB zC zD zF zG jM jO jP jQ jR u105 jS jT jU jV jW jX jY jZ ku kD kF kG kH u119 kJ kQ kS kT u124 kU kV u127 kX kZ lg u131 lq lu lC lD lF lG u138 u139 lH lI lJ lK lM lN lQ lS lT lU lV lW u152 lX u154 lY lZ l7 l9 mg mD mF u162 mG u164 mJ mM mO mP mQ mV mW mX mY mZ ng ny nC nD nG nH nI nJ nK nM nN nO nP nR nS nT nU nV u193 u194 nX u196 nY u198 nZ oh u201 oq ou oz oC u206 oD u208 oG u210 oH oI oJ oK oL oM oN oO oP oQ oU oV oW oZ o7 o8 o9 pq pz pF pG pI pJ u234 pK u236 pO pR pU pV pW pX : Value} (M0 : dX k w0 W gr l h s) (S : Std w0) (hu : s.uses.length < k) (hk : k ≤ 262144) (hn : s.idle = false → n < s.ins.length ∧ n < s.code.length)
  (L : Line l gw (r.length + 1) cc' (s0 :: r)) (hm : (bW (bn op)).1 = (m : Int)) (AL : m ≤ 3) (hc1 : cc' ≠ 1) (him : (bW (bn op)).2 = false) (hl : (r.length : Int) ≠ (m : Int)) :
  Code.wp Tryz.prog yg (bodyPost Tryz.prog Tryz.f63 fun z w' => z = .returned (.int .i64 (s.regs n op r).2) ∧ ∃ h',dX k w0 w' gr l h' (s.regs n op r).1) ⟨#[(.pointer (some ⟨gr,0,none⟩)),(.slice (some ⟨gw,0,none⟩) (r.length + 1) cc'),u2,u3,(.int .i64 0),(.int .i64 op),(.int .i64 0),(.int .i64 (n : Int)),u8,u9,u10,u11,u12,u13,u14,u15,u16,yh,yj,yu,u20,u21,u22,u23,u24,u25,u26,u27,u28,u29,u30,u31,u32,u33,u34,u35,u36,u37,u38,yw,u40,yx,u42,yC,u44,u45,u46,yD,u48,u49,yE,u51,yF,u53,yG,u55,yH,yI,u58,u59,u60,u61,yJ,u63,u64,yK,u66,yL,u68,u69,u70,yM,u72,u73,yN,u75,yP,yQ,yS,yT,yU,yV,yX,yY,yZ,zf,zh,zi,zk,zn,zo,zq,zu,u93,zA,zB,zC,zD,zF,zG,jM,jO,jP,jQ,jR,u105,jS,jT,jU,jV,jW,jX,jY,jZ,ku,kD,kF,kG,kH,u119,kJ,kQ,kS,kT,u124,kU,kV,u127,kX,kZ,lg,u131,lq,lu,lC,lD,lF,lG,u138,u139,lH,lI,lJ,lK,lM,lN,lQ,lS,lT,lU,lV,lW,u152,lX,u154,lY,lZ,l7,l9,mg,mD,mF,u162,mG,u164,mJ,mM,mO,mP,mQ,mV,mW,mX,mY,mZ,ng,ny,nC,nD,nG,nH,nI,nJ,nK,nM,nN,nO,nP,nR,nS,nT,nU,nV,u193,u194,nX,u196,nY,u198,nZ,oh,u201,oq,ou,oz,oC,u206,oD,u208,oG,u210,oH,oI,oJ,oK,oL,oM,oN,oO,oP,oQ,oU,oV,oW,oZ,o7,o8,o9,pq,pz,pF,pG,pI,pJ,u234,pK,u236,pO,pR,pU,pV,pW,pX],[]⟩ W:=by
 have SS:=Lib.hid S
 have HU:=Lib.hid hu
 have HN:=Lib.hid hn
 have HK:=Lib.hid hk
 have HL:=Lib.hid L
 have HM:=Lib.hid hm
 have Ul:=Lib.hid AL
 have hcap : r.length + 1 ≤ cc':=L.cap
 have hcap2 : 1 ≤ cc':=by omega
 have Hl:=Lib.hid (show r.length < 262144 by have:=L.few; omega)
 obtain ⟨es,hes⟩:=qE op
 have KQ:=Lib.hid (fun W => eF.calls op _ _ W hes)
 have hfl:=jF (bn op)
 rw [hm] at hfl
 have Eb:=Lib.hid (fun W => dF.calls (bn op) _ _ W hfl)
 rw [EU (by rw [hm,him]; simpa using hl)]
 rw [him] at Eb
 have b1 : ((r.length : Int) != (m : Int)) = true:=bne_iff_ne.mpr hl
 have M:=ah.mk M0
 clear M0 S hu hk hn L hm hes hfl AL him hl HM
 conv => arg 2; whnf
 go_wp2_with (first | (go_at_call 36; refine (KQ.out _).mono ?_; rintro e1 w1 ⟨rfl,hb1⟩; have M1:=ah.mk (M.out.call hb1); clear M hb1) | (go_at_call 37; refine (Eb.out _).mono ?_; rintro e2 w2 ⟨rfl,hd2⟩; have M2:=ah.mk (M1.out.call (gK hd2)); clear M1 hd2))
 go_returns
 exact ⟨rfl,_,M2.out⟩
theorem XT {u2 u3 u8 u9 u10 u11 u12 u13 u14 u15 u16 yh yj yu u20 u21 u22 u23 u24 u25 u26 u27 u28 u29 u30 u31 u32 u33 u34 u35 u36 u37 u38 yw u40 yx u42 yC u44 u45 u46 yD u48 u49 yE u51 yF u53 yG u55 yH yI u58 u59 u60 u61 yJ u63 u64 yK u66 yL u68 u69 u70 yM u72 u73 yN u75 yP yQ yS yT yU yV yX yY yZ zf zh zi zk zn zo zq zu u93 zA zB zC zD zF zG jM jO jP jQ jR u105 jS jT jU jV jW jX jY jZ ku kD kF kG kH u119 kJ kQ kS kT u124 kU kV u127 kX kZ lg u131 lq lu lC lD lF lG u138 u139 lH lI lJ lK lM lN lQ lS lT lU lV lW u152 lX u154 lY lZ l7 l9 mg mD mF u162 mG u164 mJ mM mO mP mQ mV mW mX mY mZ ng ny nC nD nG nH nI nJ nK nM nN nO nP nR nS nT nU nV u193 u194 nX u196 nY u198 nZ oh u201 oq ou oz oC u206 oD u208 oG u210 oH oI oJ oK oL oM oN oO oP oQ oU oV oW oZ o7 o8 o9 pq pz pF pG pI pJ u234 pK u236 pO pR pU pV pW pX : Value} (M0 : dX k w0 W gr l h s) (S : Std w0) (hu : s.uses.length < k) (hk : k ≤ 262144) (hn : s.idle = false → n < s.ins.length ∧ n < s.code.length)
  (L : Line l gw (r.length + 1) cc' (s0 :: r)) (hm : (bW (bn op)).1 = (m : Int)) (AL : m ≤ 3) (hc1 : cc' ≠ 1) (him : (bW (bn op)).2 = true) (hl : (r.length : Int) ≠ (m : Int) + 1) :
  Code.wp Tryz.prog yg (bodyPost Tryz.prog Tryz.f63 fun z w' => z = .returned (.int .i64 (s.regs n op r).2) ∧ ∃ h',dX k w0 w' gr l h' (s.regs n op r).1) ⟨#[(.pointer (some ⟨gr,0,none⟩)),(.slice (some ⟨gw,0,none⟩) (r.length + 1) cc'),u2,u3,(.int .i64 0),(.int .i64 op),(.int .i64 0),(.int .i64 (n : Int)),u8,u9,u10,u11,u12,u13,u14,u15,u16,yh,yj,yu,u20,u21,u22,u23,u24,u25,u26,u27,u28,u29,u30,u31,u32,u33,u34,u35,u36,u37,u38,yw,u40,yx,u42,yC,u44,u45,u46,yD,u48,u49,yE,u51,yF,u53,yG,u55,yH,yI,u58,u59,u60,u61,yJ,u63,u64,yK,u66,yL,u68,u69,u70,yM,u72,u73,yN,u75,yP,yQ,yS,yT,yU,yV,yX,yY,yZ,zf,zh,zi,zk,zn,zo,zq,zu,u93,zA,zB,zC,zD,zF,zG,jM,jO,jP,jQ,jR,u105,jS,jT,jU,jV,jW,jX,jY,jZ,ku,kD,kF,kG,kH,u119,kJ,kQ,kS,kT,u124,kU,kV,u127,kX,kZ,lg,u131,lq,lu,lC,lD,lF,lG,u138,u139,lH,lI,lJ,lK,lM,lN,lQ,lS,lT,lU,lV,lW,u152,lX,u154,lY,lZ,l7,l9,mg,mD,mF,u162,mG,u164,mJ,mM,mO,mP,mQ,mV,mW,mX,mY,mZ,ng,ny,nC,nD,nG,nH,nI,nJ,nK,nM,nN,nO,nP,nR,nS,nT,nU,nV,u193,u194,nX,u196,nY,u198,nZ,oh,u201,oq,ou,oz,oC,u206,oD,u208,oG,u210,oH,oI,oJ,oK,oL,oM,oN,oO,oP,oQ,oU,oV,oW,oZ,o7,o8,o9,pq,pz,pF,pG,pI,pJ,u234,pK,u236,pO,pR,pU,pV,pW,pX],[]⟩ W:=by
 have SS:=Lib.hid S
 have HU:=Lib.hid hu
 have HN:=Lib.hid hn
 have HK:=Lib.hid hk
 have HL:=Lib.hid L
 have HM:=Lib.hid hm
 have Ul:=Lib.hid AL
 have hcap : r.length + 1 ≤ cc':=L.cap
 have hcap2 : 1 ≤ cc':=by omega
 have Hl:=Lib.hid (show r.length < 262144 by have:=L.few; omega)
 obtain ⟨es,hes⟩:=qE op
 have KQ:=Lib.hid (fun W => eF.calls op _ _ W hes)
 have hfl:=jF (bn op)
 rw [hm] at hfl
 have Eb:=Lib.hid (fun W => dF.calls (bn op) _ _ W hfl)
 rw [EU (by rw [hm,him]; simpa using hl)]
 rw [him] at Eb
 obtain ⟨m1,hm1⟩ : ∃ x : Int,x = (m : Int) + 1:=⟨_,rfl⟩
 have wm : wrap64 ((m : Int) + 1) = m1:=by rw [hm1]; exact IntWalk.wrap64_in _ (by omega)
 rw [← hm1] at hl
 have b1 : ((r.length : Int) != m1) = true:=bne_iff_ne.mpr hl
 have M:=ah.mk M0
 clear M0 S hu hk hn L hm hes hfl AL him hl hm1 HM
 conv => arg 2; whnf
 go_wp2_with (first | (go_at_call 36; refine (KQ.out _).mono ?_; rintro e1 w1 ⟨rfl,hb1⟩; have M1:=ah.mk (M.out.call hb1); clear M hb1) | (go_at_call 37; refine (Eb.out _).mono ?_; rintro e2 w2 ⟨rfl,hd2⟩; have M2:=ah.mk (M1.out.call (gK hd2)); clear M1 hd2))
 go_returns
 exact ⟨rfl,_,M2.out⟩
theorem XW {u2 u3 u8 u9 u10 u11 u12 u13 u14 u15 u16 yh yj yu u20 u21 u22 u23 u24 u25 u26 u27 u28 u29 u30 u31 u32 u33 u34 u35 u36 u37 u38 yw u40 yx u42 yC u44 u45 u46 yD u48 u49 yE u51 yF u53 yG u55 yH yI u58 u59 u60 u61 yJ u63 u64 yK u66 yL u68 u69 u70 yM u72 u73 yN u75 yP yQ yS yT yU yV yX yY yZ zf zh zi zk zn zo zq zu u93 zA zB zC zD zF zG jM jO jP jQ jR u105 jS jT jU jV jW jX jY jZ ku kD kF kG kH u119 kJ kQ kS kT u124 kU kV u127 kX kZ lg u131 lq lu lC lD lF lG u138 u139 lH lI lJ lK lM lN lQ lS lT lU lV lW u152 lX u154 lY lZ l7 l9 mg mD mF u162 mG u164 mJ mM mO mP mQ mV mW mX mY mZ ng ny nC nD nG nH nI nJ nK nM nN nO nP nR nS nT nU nV u193 u194 nX u196 nY u198 nZ oh u201 oq ou oz oC u206 oD u208 oG u210 oH oI oJ oK oL oM oN oO oP oQ oU oV oW oZ o7 o8 o9 pq pz pF pG pI pJ u234 pK u236 pO pR pU pV pW pX : Value} (M0 : dX k w0 W gr l h s) (S : Std w0) (hu : s.uses.length < k) (hk : k ≤ 262144) (hn : s.idle = false → n < s.ins.length ∧ n < s.code.length)
  (L : Line l gw (r.length + 1) cc' (s0 :: r)) (hm : (bW (bn op)).1 = (m : Int)) (AL : m ≤ 3) (hc1 : cc' ≠ 1) (him : (bW (bn op)).2 = false) (hl : (r.length : Int) = (m : Int)) (vS : (Q.fD [] 0 (bl (r.take m))).2 = 70) :
  Code.wp Tryz.prog yg (bodyPost Tryz.prog Tryz.f63 fun z w' => z = .returned (.int .i64 (s.regs n op r).2) ∧ ∃ h',dX k w0 w' gr l h' (s.regs n op r).1) ⟨#[(.pointer (some ⟨gr,0,none⟩)),(.slice (some ⟨gw,0,none⟩) (r.length + 1) cc'),u2,u3,(.int .i64 0),(.int .i64 op),(.int .i64 0),(.int .i64 (n : Int)),u8,u9,u10,u11,u12,u13,u14,u15,u16,yh,yj,yu,u20,u21,u22,u23,u24,u25,u26,u27,u28,u29,u30,u31,u32,u33,u34,u35,u36,u37,u38,yw,u40,yx,u42,yC,u44,u45,u46,yD,u48,u49,yE,u51,yF,u53,yG,u55,yH,yI,u58,u59,u60,u61,yJ,u63,u64,yK,u66,yL,u68,u69,u70,yM,u72,u73,yN,u75,yP,yQ,yS,yT,yU,yV,yX,yY,yZ,zf,zh,zi,zk,zn,zo,zq,zu,u93,zA,zB,zC,zD,zF,zG,jM,jO,jP,jQ,jR,u105,jS,jT,jU,jV,jW,jX,jY,jZ,ku,kD,kF,kG,kH,u119,kJ,kQ,kS,kT,u124,kU,kV,u127,kX,kZ,lg,u131,lq,lu,lC,lD,lF,lG,u138,u139,lH,lI,lJ,lK,lM,lN,lQ,lS,lT,lU,lV,lW,u152,lX,u154,lY,lZ,l7,l9,mg,mD,mF,u162,mG,u164,mJ,mM,mO,mP,mQ,mV,mW,mX,mY,mZ,ng,ny,nC,nD,nG,nH,nI,nJ,nK,nM,nN,nO,nP,nR,nS,nT,nU,nV,u193,u194,nX,u196,nY,u198,nZ,oh,u201,oq,ou,oz,oC,u206,oD,u208,oG,u210,oH,oI,oJ,oK,oL,oM,oN,oO,oP,oQ,oU,oV,oW,oZ,o7,o8,o9,pq,pz,pF,pG,pI,pJ,u234,pK,u236,pO,pR,pU,pV,pW,pX],[]⟩ W:=by
 have SS:=Lib.hid S
 have HU:=Lib.hid hu
 have HN:=Lib.hid hn
 have HK:=Lib.hid hk
 have HL:=Lib.hid L
 have HM:=Lib.hid hm
 have Ul:=Lib.hid AL
 have hcap : r.length + 1 ≤ cc':=L.cap
 have hcap2 : 1 ≤ cc':=by omega
 have Hl:=Lib.hid (show r.length < 262144 by have:=L.few; omega)
 obtain ⟨es,hes⟩:=qE op
 have KQ:=Lib.hid (fun W => eF.calls op _ _ W hes)
 have hfl:=jF (bn op)
 rw [hm] at hfl
 have Eb:=Lib.hid (fun W => dF.calls (bn op) _ _ W hfl)
 have rF:=Lib.hid M0.few
 have fU:=Lib.hid M0.says
 have iK:=Lib.hid M0.len
 obtain ⟨q,hq⟩ : ∃ q,Q.fD [] 0 (bl (r.take m)) = q:=⟨_,rfl⟩
 have HQ:=Lib.hid hq
 rw [Ju hm (by rw [him]; simpa using hl) vS]
 rw [hq] at vS
 have H70:=Lib.hid vS
 have b70 : (q.2 == 70) = true:=by rw [vS]; rfl
 rw [him] at Eb
 have HOW:=Lib.hid (show r ≠ [] → 1 = 1 from fun _ => rfl)
 have hmr : m ≤ r.length:=by omega
 have Vx:=Lib.hid hmr
 have hmc : m ≤ cc' - 1:=by omega
 have acO : (m : Int) ≤ ((cc' - 1 : Nat) : Int):=by omega
 have Vw:=Lib.hid hmc
 have b1 : ((r.length : Int) != (m : Int)) = false:=by rw [hl]; simp
 have M:=ah.mk M0
 clear M0 S hu hk hn L hm hes hfl AL him hl hq vS HM
 conv => arg 2; whnf
 go_wp2_with (first | (go_at_call 36; refine (KQ.out _).mono ?_; rintro e1 w1 ⟨rfl,hb1⟩; have M1:=ah.mk (M.out.call hb1); clear M hb1) | (go_at_call 37; refine (Eb.out _).mono ?_; rintro e2 w2 ⟨rfl,hd2⟩; have M2:=ah.mk (M1.out.call (gK hd2)); clear M1 hd2) | (go_at_call 94; have rr:=Gf M2.out SS.out HL.out 1 m (cc' - 1) (fun _ => rfl) Vx.out Vw.out (zX M2.out HL.out); rw [HQ.out] at rr; refine rr.mono ?_; rintro e3 w3 ⟨A3,c3,rfl,MF⟩; have M3:=ah.mk MF; clear M2 MF rr))
 go_returns
 exact ⟨by show Ending.returned (.int .i64 q.2) = _; rw [H70.out],h,M3.out.fQ Mem.tail,rF.out,fU.out,iK.out⟩
theorem XM {u2 u3 u8 u9 u10 u11 u12 u13 u14 u15 u16 yh yj yu u20 u21 u22 u23 u24 u25 u26 u27 u28 u29 u30 u31 u32 u33 u34 u35 u36 u37 u38 yw u40 yx u42 yC u44 u45 u46 yD u48 u49 yE u51 yF u53 yG u55 yH yI u58 u59 u60 u61 yJ u63 u64 yK u66 yL u68 u69 u70 yM u72 u73 yN u75 yP yQ yS yT yU yV yX yY yZ zf zh zi zk zn zo zq zu u93 zA zB zC zD zF zG jM jO jP jQ jR u105 jS jT jU jV jW jX jY jZ ku kD kF kG kH u119 kJ kQ kS kT u124 kU kV u127 kX kZ lg u131 lq lu lC lD lF lG u138 u139 lH lI lJ lK lM lN lQ lS lT lU lV lW u152 lX u154 lY lZ l7 l9 mg mD mF u162 mG u164 mJ mM mO mP mQ mV mW mX mY mZ ng ny nC nD nG nH nI nJ nK nM nN nO nP nR nS nT nU nV u193 u194 nX u196 nY u198 nZ oh u201 oq ou oz oC u206 oD u208 oG u210 oH oI oJ oK oL oM oN oO oP oQ oU oV oW oZ o7 o8 o9 pq pz pF pG pI pJ u234 pK u236 pO pR pU pV pW pX : Value} (M0 : dX k w0 W gr l h s) (S : Std w0) (hu : s.uses.length < k) (hk : k ≤ 262144) (hn : s.idle = false → n < s.ins.length ∧ n < s.code.length)
  (L : Line l gw (r.length + 1) cc' (s0 :: r)) (hm : (bW (bn op)).1 = (m : Int)) (AL : m ≤ 3) (hc1 : cc' ≠ 1) (him : (bW (bn op)).2 = false) (hl : (r.length : Int) = (m : Int)) (vS : (Q.fD [] 0 (bl (r.take m))).2 ≠ 70) :
  Code.wp Tryz.prog yg (bodyPost Tryz.prog Tryz.f63 fun z w' => z = .returned (.int .i64 (s.regs n op r).2) ∧ ∃ h',dX k w0 w' gr l h' (s.regs n op r).1) ⟨#[(.pointer (some ⟨gr,0,none⟩)),(.slice (some ⟨gw,0,none⟩) (r.length + 1) cc'),u2,u3,(.int .i64 0),(.int .i64 op),(.int .i64 0),(.int .i64 (n : Int)),u8,u9,u10,u11,u12,u13,u14,u15,u16,yh,yj,yu,u20,u21,u22,u23,u24,u25,u26,u27,u28,u29,u30,u31,u32,u33,u34,u35,u36,u37,u38,yw,u40,yx,u42,yC,u44,u45,u46,yD,u48,u49,yE,u51,yF,u53,yG,u55,yH,yI,u58,u59,u60,u61,yJ,u63,u64,yK,u66,yL,u68,u69,u70,yM,u72,u73,yN,u75,yP,yQ,yS,yT,yU,yV,yX,yY,yZ,zf,zh,zi,zk,zn,zo,zq,zu,u93,zA,zB,zC,zD,zF,zG,jM,jO,jP,jQ,jR,u105,jS,jT,jU,jV,jW,jX,jY,jZ,ku,kD,kF,kG,kH,u119,kJ,kQ,kS,kT,u124,kU,kV,u127,kX,kZ,lg,u131,lq,lu,lC,lD,lF,lG,u138,u139,lH,lI,lJ,lK,lM,lN,lQ,lS,lT,lU,lV,lW,u152,lX,u154,lY,lZ,l7,l9,mg,mD,mF,u162,mG,u164,mJ,mM,mO,mP,mQ,mV,mW,mX,mY,mZ,ng,ny,nC,nD,nG,nH,nI,nJ,nK,nM,nN,nO,nP,nR,nS,nT,nU,nV,u193,u194,nX,u196,nY,u198,nZ,oh,u201,oq,ou,oz,oC,u206,oD,u208,oG,u210,oH,oI,oJ,oK,oL,oM,oN,oO,oP,oQ,oU,oV,oW,oZ,o7,o8,o9,pq,pz,pF,pG,pI,pJ,u234,pK,u236,pO,pR,pU,pV,pW,pX],[]⟩ W:=by
 have SS:=Lib.hid S
 have HU:=Lib.hid hu
 have HN:=Lib.hid hn
 have HK:=Lib.hid hk
 have HL:=Lib.hid L
 have HM:=Lib.hid hm
 have Ul:=Lib.hid AL
 have hcap : r.length + 1 ≤ cc':=L.cap
 have hcap2 : 1 ≤ cc':=by omega
 have Hl:=Lib.hid (show r.length < 262144 by have:=L.few; omega)
 obtain ⟨es,hes⟩:=qE op
 have KQ:=Lib.hid (fun W => eF.calls op _ _ W hes)
 have hfl:=jF (bn op)
 rw [hm] at hfl
 have Eb:=Lib.hid (fun W => dF.calls (bn op) _ _ W hfl)
 have rF:=Lib.hid M0.few
 have fU:=Lib.hid M0.says
 have iK:=Lib.hid M0.len
 obtain ⟨q,hq⟩ : ∃ q,Q.fD [] 0 (bl (r.take m)) = q:=⟨_,rfl⟩
 have HQ:=Lib.hid hq
 have Oa:=Lib.hid (show r.length ≤ cc' - 1 by omega)
 have HIM:=Lib.hid him
 have Vu:=Lib.hid (show ((r.length : Nat) : Int) = (m : Int) + (if (bW (bn op)).2 then 1 else 0) by rw [him]; simpa using hl)
 rw [NR hm (by rw [him]; simpa using hl) vS]
 rw [hq] at vS ⊢
 have JE:=Lib.hid (show q.1.length = m by rw [← hq]; have h1:=Q.xC (bl (r.take m)) [] 0 (by rw [hq]; exact vS); rw [h1]; show 0 + ((r.take m).map _).length = _; rw [List.length_map,List.length_take]; omega)
 have b70 : (q.2 == 70) = false:=beq_eq_false_iff_ne.mpr vS
 rw [him] at Eb
 have HOW:=Lib.hid (show r ≠ [] → 1 = 1 from fun _ => rfl)
 have hmr : m ≤ r.length:=by omega
 have Vx:=Lib.hid hmr
 have hmc : m ≤ cc' - 1:=by omega
 have acO : (m : Int) ≤ ((cc' - 1 : Nat) : Int):=by omega
 have Vw:=Lib.hid hmc
 have b1 : ((r.length : Int) != (m : Int)) = false:=by rw [hl]; simp
 have M:=ah.mk M0
 clear M0 S hu hk hn L hm hes hfl AL him hl hq vS
 conv => arg 2; whnf
 go_wp2_with (first | (go_at_call 36; refine (KQ.out _).mono ?_; rintro e1 w1 ⟨rfl,hb1⟩; have M1:=ah.mk (M.out.call hb1); clear M hb1) | (go_at_call 37; refine (Eb.out _).mono ?_; rintro e2 w2 ⟨rfl,hd2⟩; have M2:=ah.mk (M1.out.call (gK hd2)); clear M1 hd2) | (go_at_call 94; have rr:=Gf M2.out SS.out HL.out 1 m (cc' - 1) (fun _ => rfl) Vx.out Vw.out (zX M2.out HL.out); rw [HQ.out] at rr; rw [JE.out] at rr; refine rr.mono ?_; rintro e3 w3 ⟨A3,c3,rfl,MF⟩; have M3:=ah.mk MF; clear M2 MF rr) | ((with_reducible refine bI (N:=14) rfl ?_); refine fBr M3 14 [.int .i64 0,.int .i64 0,.int .i64 0,.int .i64 0,.int .i64 0] 70 (by decide) (by decide) ?_; clear M3; intro g14 w4 M4) | ((with_reducible refine aU (t:=70) (p:=14) rfl ?_); refine fE M4 70 (.tmp 14) 0 0 (.agg #[.int .i64 op,.int .i64 0,.int .i64 0,.int .i64 0,.int .i64 0]) [.int .i64 op,.int .i64 0,.int .i64 0,.int .i64 0,.int .i64 0] [.int .i64 0,.int .i64 0,.int .i64 0,.int .i64 0,.int .i64 0] (by decide) rfl ?_ rfl (by intro q hq; simp at hq; rcases hq with rfl | rfl | rfl | rfl | rfl <;> rfl) (Nat.le_refl 5) rfl; clear M4; intro w5 M5))
 rename_i Wi
 have HF:=Lib.hid (show (fill op q.1 0 : List Value) = [.int .i64 op,.int .i64 0,.int .i64 0,.int .i64 0,.int .i64 0] from rfl)
 go_loopw [124] (fun v124 wr => ∃ i : Nat,i ≤ m ∧ v124 = .int .i64 (i : Int) ∧ bf vk w0 wr ((gr,gZ h s,55) :: l) (Ea h) (⟨Kd.raw 5,70,.slice (some ⟨g14,0,none⟩) 1 1,[fill op q.1 i]⟩ :: ⟨Kd.int .i64,3,.slice A3 m c3,q.1⟩ :: dO h s)) (fun v124 _ => m - (intOf v124).toNat)
 case atStart => exact ⟨0,Nat.zero_le _,rfl,by rw [HF.out]; exact M5.out⟩
 obtain ⟨i,hi,rfl,MF⟩:=hrel
 have M6:=ah.mk MF
 clear MF M5
 by_cases him : i < m
 ·obtain ⟨g3,rfl⟩ : ∃ g,A3 = some ⟨g,0,none⟩:=by
   rcases bf.slice M6.out 1 rfl with ⟨c0,h1,h2⟩ | ⟨g,c0,h1,h2⟩
   ·have:=JE.out; rw [h2] at this; simp at this; omega
   ·injection h1 with h1 _ _; exact ⟨g,h1⟩
  have AL:=Ul.out
  rcases (show i = 0 ∨ i = 1 ∨ i = 2 by omega) with rfl | rfl | rfl
  ·have y:=M6.out.zV 1 rfl (i:=0) (x:=q.1.getD 0 0) (by rw [List.getD_eq_getElem?_getD]; exact (List.getElem?_eq_getElem (by rw [JE.out]; omega)).trans (by rw [List.getElem?_eq_getElem (by rw [JE.out]; omega)]; rfl)) (by omega)
   have q2 : ((0 : Nat) : Int) < (m : Int):=by omega
   go_wp2_with (first | ((with_reducible refine aU (t:=3) (p:=133) rfl ?_); refine fE M6 3 (.tmp 133) 0 1 (.int .i64 (q.1.getD 0 0)) [.int .i64 (q.1.getD 0 0)] (fill op q.1 0) (by decide) rfl ?_ rfl (by intro q hq; rw [List.mem_singleton] at hq; subst hq; rfl) (by show 1 + 1 ≤ 5; decide) rfl; clear M6; intro w7 M7))
   go_roundw
   case rel => exact ⟨1,by omega,rfl,by have h1:=M7.out; rw [aaR] at h1; exact h1⟩
   case measure => simp [intOf]; omega
  ·have y:=M6.out.zV 1 rfl (i:=1) (x:=q.1.getD 1 0) (by rw [List.getD_eq_getElem?_getD]; exact (List.getElem?_eq_getElem (by rw [JE.out]; omega)).trans (by rw [List.getElem?_eq_getElem (by rw [JE.out]; omega)]; rfl)) (by omega)
   have q2 : ((1 : Nat) : Int) < (m : Int):=by omega
   go_wp2_with (first | ((with_reducible refine aU (t:=3) (p:=137) rfl ?_); refine fE M6 3 (.tmp 137) 0 2 (.int .i64 (q.1.getD 1 0)) [.int .i64 (q.1.getD 1 0)] (fill op q.1 1) (by decide) rfl ?_ rfl (by intro q hq; rw [List.mem_singleton] at hq; subst hq; rfl) (by show 2 + 1 ≤ 5; decide) rfl; clear M6; intro w7 M7))
   go_roundw
   case rel => exact ⟨2,by omega,rfl,by have h1:=M7.out; rw [aaS] at h1; exact h1⟩
   case measure => simp [intOf]; omega
  ·have y:=M6.out.zV 1 rfl (i:=2) (x:=q.1.getD 2 0) (by rw [List.getD_eq_getElem?_getD]; exact (List.getElem?_eq_getElem (by rw [JE.out]; omega)).trans (by rw [List.getElem?_eq_getElem (by rw [JE.out]; omega)]; rfl)) (by omega)
   have q2 : ((2 : Nat) : Int) < (m : Int):=by omega
   go_wp2_with (first | ((with_reducible refine aU (t:=3) (p:=141) rfl ?_); refine fE M6 3 (.tmp 141) 0 3 (.int .i64 (q.1.getD 2 0)) [.int .i64 (q.1.getD 2 0)] (fill op q.1 2) (by decide) rfl ?_ rfl (by intro q hq; rw [List.mem_singleton] at hq; subst hq; rfl) (by show 3 + 1 ≤ 5; decide) rfl; clear M6; intro w7 M7))
   go_roundw
   case rel => exact ⟨3,by omega,rfl,by have h1:=M7.out; rw [aaT] at h1; exact h1⟩
   case measure => simp [intOf]; omega
 ·obtain rfl : m = i:=by omega
  have q2 : ¬ ((m : Nat) : Int) < ((m : Nat) : Int):=by omega
  have HFE:=Lib.hid (IX (op:=op) JE.out (m:=m) Ul.out)
  have hfe:=HFE.out
  have M7:=ah.mk (show bf vk w0 _ ((gr,gZ h s,55) :: l) (Ea h) (⟨Kd.raw 5,70,.slice (some ⟨g14,0,none⟩) 1 1,[[.int .i64 op,.int .i64 ((xH q.1).getD 0 0),.int .i64 ((xH q.1).getD 1 0),.int .i64 ((xH q.1).getD 2 0),.int .i64 0]]⟩ :: dO h s) from by
   have h1:=M6.out
   rw [hfe] at h1
   exact (bf.front h1 1 rfl).fQ Mem.tail)
  clear M6 hfe
  go_upto_if 125 with fail
  refine wp_cond_split rfl (fun h => ?_) (fun h => ?_)
  ·simp at h
  ·refine wp_exit ?_
   refine Wi _ _ ?_
   exact Jb M7.out SS.out rF.out HU.out fU.out iK.out HK.out HN.out HL.out Oa.out (fun _ => rfl) HM.out Vu.out HIM.out
theorem XY {u2 u3 u8 u9 u10 u11 u12 u13 u14 u15 u16 yh yj yu u20 u21 u22 u23 u24 u25 u26 u27 u28 u29 u30 u31 u32 u33 u34 u35 u36 u37 u38 yw u40 yx u42 yC u44 u45 u46 yD u48 u49 yE u51 yF u53 yG u55 yH yI u58 u59 u60 u61 yJ u63 u64 yK u66 yL u68 u69 u70 yM u72 u73 yN u75 yP yQ yS yT yU yV yX yY yZ zf zh zi zk zn zo zq zu u93 zA zB zC zD zF zG jM jO jP jQ jR u105 jS jT jU jV jW jX jY jZ ku kD kF kG kH u119 kJ kQ kS kT u124 kU kV u127 kX kZ lg u131 lq lu lC lD lF lG u138 u139 lH lI lJ lK lM lN lQ lS lT lU lV lW u152 lX u154 lY lZ l7 l9 mg mD mF u162 mG u164 mJ mM mO mP mQ mV mW mX mY mZ ng ny nC nD nG nH nI nJ nK nM nN nO nP nR nS nT nU nV u193 u194 nX u196 nY u198 nZ oh u201 oq ou oz oC u206 oD u208 oG u210 oH oI oJ oK oL oM oN oO oP oQ oU oV oW oZ o7 o8 o9 pq pz pF pG pI pJ u234 pK u236 pO pR pU pV pW pX : Value} (M0 : dX k w0 W gr l h s) (S : Std w0) (hu : s.uses.length < k) (hk : k ≤ 262144) (hn : s.idle = false → n < s.ins.length ∧ n < s.code.length)
  (L : Line l gw (r.length + 1) cc' (s0 :: r)) (hm : (bW (bn op)).1 = (m : Int)) (AL : m ≤ 3) (hc1 : cc' ≠ 1) (him : (bW (bn op)).2 = true) (hl : (r.length : Int) = (m : Int) + 1) (vS : (Q.fD [] 0 (bl (r.take m))).2 = 70) :
  Code.wp Tryz.prog yg (bodyPost Tryz.prog Tryz.f63 fun z w' => z = .returned (.int .i64 (s.regs n op r).2) ∧ ∃ h',dX k w0 w' gr l h' (s.regs n op r).1) ⟨#[(.pointer (some ⟨gr,0,none⟩)),(.slice (some ⟨gw,0,none⟩) (r.length + 1) cc'),u2,u3,(.int .i64 0),(.int .i64 op),(.int .i64 0),(.int .i64 (n : Int)),u8,u9,u10,u11,u12,u13,u14,u15,u16,yh,yj,yu,u20,u21,u22,u23,u24,u25,u26,u27,u28,u29,u30,u31,u32,u33,u34,u35,u36,u37,u38,yw,u40,yx,u42,yC,u44,u45,u46,yD,u48,u49,yE,u51,yF,u53,yG,u55,yH,yI,u58,u59,u60,u61,yJ,u63,u64,yK,u66,yL,u68,u69,u70,yM,u72,u73,yN,u75,yP,yQ,yS,yT,yU,yV,yX,yY,yZ,zf,zh,zi,zk,zn,zo,zq,zu,u93,zA,zB,zC,zD,zF,zG,jM,jO,jP,jQ,jR,u105,jS,jT,jU,jV,jW,jX,jY,jZ,ku,kD,kF,kG,kH,u119,kJ,kQ,kS,kT,u124,kU,kV,u127,kX,kZ,lg,u131,lq,lu,lC,lD,lF,lG,u138,u139,lH,lI,lJ,lK,lM,lN,lQ,lS,lT,lU,lV,lW,u152,lX,u154,lY,lZ,l7,l9,mg,mD,mF,u162,mG,u164,mJ,mM,mO,mP,mQ,mV,mW,mX,mY,mZ,ng,ny,nC,nD,nG,nH,nI,nJ,nK,nM,nN,nO,nP,nR,nS,nT,nU,nV,u193,u194,nX,u196,nY,u198,nZ,oh,u201,oq,ou,oz,oC,u206,oD,u208,oG,u210,oH,oI,oJ,oK,oL,oM,oN,oO,oP,oQ,oU,oV,oW,oZ,o7,o8,o9,pq,pz,pF,pG,pI,pJ,u234,pK,u236,pO,pR,pU,pV,pW,pX],[]⟩ W:=by
 have SS:=Lib.hid S
 have HU:=Lib.hid hu
 have HN:=Lib.hid hn
 have HK:=Lib.hid hk
 have HL:=Lib.hid L
 have HM:=Lib.hid hm
 have Ul:=Lib.hid AL
 have hcap : r.length + 1 ≤ cc':=L.cap
 have hcap2 : 1 ≤ cc':=by omega
 have Hl:=Lib.hid (show r.length < 262144 by have:=L.few; omega)
 obtain ⟨es,hes⟩:=qE op
 have KQ:=Lib.hid (fun W => eF.calls op _ _ W hes)
 have hfl:=jF (bn op)
 rw [hm] at hfl
 have Eb:=Lib.hid (fun W => dF.calls (bn op) _ _ W hfl)
 have rF:=Lib.hid M0.few
 have fU:=Lib.hid M0.says
 have iK:=Lib.hid M0.len
 obtain ⟨q,hq⟩ : ∃ q,Q.fD [] 0 (bl (r.take m)) = q:=⟨_,rfl⟩
 have HQ:=Lib.hid hq
 rw [Ju hm (by rw [him]; simpa using hl) vS]
 rw [hq] at vS
 have H70:=Lib.hid vS
 have b70 : (q.2 == 70) = true:=by rw [vS]; rfl
 rw [him] at Eb
 have HOW:=Lib.hid (show r ≠ [] → 1 = 1 from fun _ => rfl)
 have hmr : m ≤ r.length:=by omega
 have Vx:=Lib.hid hmr
 have hmc : m ≤ cc' - 1:=by omega
 have acO : (m : Int) ≤ ((cc' - 1 : Nat) : Int):=by omega
 have Vw:=Lib.hid hmc
 obtain ⟨m1,hm1⟩ : ∃ x : Int,x = (m : Int) + 1:=⟨_,rfl⟩
 have wm : wrap64 ((m : Int) + 1) = m1:=by rw [hm1]; exact IntWalk.wrap64_in _ (by omega)
 have hl1:=hl
 rw [← hm1] at hl1
 have b1 : ((r.length : Int) != m1) = false:=by rw [hl1]; simp
 have M:=ah.mk M0
 clear M0 S hu hk hn L hm hes hfl AL him hl hq hm1 hl1 vS HM
 conv => arg 2; whnf
 go_wp2_with (first | (go_at_call 36; refine (KQ.out _).mono ?_; rintro e1 w1 ⟨rfl,hb1⟩; have M1:=ah.mk (M.out.call hb1); clear M hb1) | (go_at_call 37; refine (Eb.out _).mono ?_; rintro e2 w2 ⟨rfl,hd2⟩; have M2:=ah.mk (M1.out.call (gK hd2)); clear M1 hd2) | (go_at_call 94; have rr:=Gf M2.out SS.out HL.out 1 m (cc' - 1) (fun _ => rfl) Vx.out Vw.out (zX M2.out HL.out); rw [HQ.out] at rr; refine rr.mono ?_; rintro e3 w3 ⟨A3,c3,rfl,MF⟩; have M3:=ah.mk MF; clear M2 MF rr))
 go_returns
 exact ⟨by show Ending.returned (.int .i64 q.2) = _; rw [H70.out],h,M3.out.fQ Mem.tail,rF.out,fU.out,iK.out⟩
theorem XO {u2 u3 u8 u9 u10 u11 u12 u13 u14 u15 u16 yh yj yu u20 u21 u22 u23 u24 u25 u26 u27 u28 u29 u30 u31 u32 u33 u34 u35 u36 u37 u38 yw u40 yx u42 yC u44 u45 u46 yD u48 u49 yE u51 yF u53 yG u55 yH yI u58 u59 u60 u61 yJ u63 u64 yK u66 yL u68 u69 u70 yM u72 u73 yN u75 yP yQ yS yT yU yV yX yY yZ zf zh zi zk zn zo zq zu u93 zA zB zC zD zF zG jM jO jP jQ jR u105 jS jT jU jV jW jX jY jZ ku kD kF kG kH u119 kJ kQ kS kT u124 kU kV u127 kX kZ lg u131 lq lu lC lD lF lG u138 u139 lH lI lJ lK lM lN lQ lS lT lU lV lW u152 lX u154 lY lZ l7 l9 mg mD mF u162 mG u164 mJ mM mO mP mQ mV mW mX mY mZ ng ny nC nD nG nH nI nJ nK nM nN nO nP nR nS nT nU nV u193 u194 nX u196 nY u198 nZ oh u201 oq ou oz oC u206 oD u208 oG u210 oH oI oJ oK oL oM oN oO oP oQ oU oV oW oZ o7 o8 o9 pq pz pF pG pI pJ u234 pK u236 pO pR pU pV pW pX : Value} (M0 : dX k w0 W gr l h s) (S : Std w0) (hu : s.uses.length < k) (hk : k ≤ 262144) (hn : s.idle = false → n < s.ins.length ∧ n < s.code.length)
  (L : Line l gw (r.length + 1) cc' (s0 :: r)) (hm : (bW (bn op)).1 = (m : Int)) (AL : m ≤ 3) (hc1 : cc' ≠ 1) (him : (bW (bn op)).2 = true) (hl : (r.length : Int) = (m : Int) + 1) (vS : (Q.fD [] 0 (bl (r.take m))).2 ≠ 70) :
  Code.wp Tryz.prog yg (bodyPost Tryz.prog Tryz.f63 fun z w' => z = .returned (.int .i64 (s.regs n op r).2) ∧ ∃ h',dX k w0 w' gr l h' (s.regs n op r).1) ⟨#[(.pointer (some ⟨gr,0,none⟩)),(.slice (some ⟨gw,0,none⟩) (r.length + 1) cc'),u2,u3,(.int .i64 0),(.int .i64 op),(.int .i64 0),(.int .i64 (n : Int)),u8,u9,u10,u11,u12,u13,u14,u15,u16,yh,yj,yu,u20,u21,u22,u23,u24,u25,u26,u27,u28,u29,u30,u31,u32,u33,u34,u35,u36,u37,u38,yw,u40,yx,u42,yC,u44,u45,u46,yD,u48,u49,yE,u51,yF,u53,yG,u55,yH,yI,u58,u59,u60,u61,yJ,u63,u64,yK,u66,yL,u68,u69,u70,yM,u72,u73,yN,u75,yP,yQ,yS,yT,yU,yV,yX,yY,yZ,zf,zh,zi,zk,zn,zo,zq,zu,u93,zA,zB,zC,zD,zF,zG,jM,jO,jP,jQ,jR,u105,jS,jT,jU,jV,jW,jX,jY,jZ,ku,kD,kF,kG,kH,u119,kJ,kQ,kS,kT,u124,kU,kV,u127,kX,kZ,lg,u131,lq,lu,lC,lD,lF,lG,u138,u139,lH,lI,lJ,lK,lM,lN,lQ,lS,lT,lU,lV,lW,u152,lX,u154,lY,lZ,l7,l9,mg,mD,mF,u162,mG,u164,mJ,mM,mO,mP,mQ,mV,mW,mX,mY,mZ,ng,ny,nC,nD,nG,nH,nI,nJ,nK,nM,nN,nO,nP,nR,nS,nT,nU,nV,u193,u194,nX,u196,nY,u198,nZ,oh,u201,oq,ou,oz,oC,u206,oD,u208,oG,u210,oH,oI,oJ,oK,oL,oM,oN,oO,oP,oQ,oU,oV,oW,oZ,o7,o8,o9,pq,pz,pF,pG,pI,pJ,u234,pK,u236,pO,pR,pU,pV,pW,pX],[]⟩ W:=by
 have SS:=Lib.hid S
 have HU:=Lib.hid hu
 have HN:=Lib.hid hn
 have HK:=Lib.hid hk
 have HL:=Lib.hid L
 have HM:=Lib.hid hm
 have Ul:=Lib.hid AL
 have hcap : r.length + 1 ≤ cc':=L.cap
 have hcap2 : 1 ≤ cc':=by omega
 have Hl:=Lib.hid (show r.length < 262144 by have:=L.few; omega)
 obtain ⟨es,hes⟩:=qE op
 have KQ:=Lib.hid (fun W => eF.calls op _ _ W hes)
 have hfl:=jF (bn op)
 rw [hm] at hfl
 have Eb:=Lib.hid (fun W => dF.calls (bn op) _ _ W hfl)
 have rF:=Lib.hid M0.few
 have fU:=Lib.hid M0.says
 have iK:=Lib.hid M0.len
 obtain ⟨q,hq⟩ : ∃ q,Q.fD [] 0 (bl (r.take m)) = q:=⟨_,rfl⟩
 have HQ:=Lib.hid hq
 have Oa:=Lib.hid (show r.length ≤ cc' - 1 by omega)
 have HIM:=Lib.hid him
 have Vu:=Lib.hid (show ((r.length : Nat) : Int) = (m : Int) + (if (bW (bn op)).2 then 1 else 0) by rw [him]; simpa using hl)
 rw [NR hm (by rw [him]; simpa using hl) vS]
 rw [hq] at vS ⊢
 have JE:=Lib.hid (show q.1.length = m by rw [← hq]; have h1:=Q.xC (bl (r.take m)) [] 0 (by rw [hq]; exact vS); rw [h1]; show 0 + ((r.take m).map _).length = _; rw [List.length_map,List.length_take]; omega)
 have b70 : (q.2 == 70) = false:=beq_eq_false_iff_ne.mpr vS
 rw [him] at Eb
 have HOW:=Lib.hid (show r ≠ [] → 1 = 1 from fun _ => rfl)
 have hmr : m ≤ r.length:=by omega
 have Vx:=Lib.hid hmr
 have hmc : m ≤ cc' - 1:=by omega
 have acO : (m : Int) ≤ ((cc' - 1 : Nat) : Int):=by omega
 have Vw:=Lib.hid hmc
 obtain ⟨m1,hm1⟩ : ∃ x : Int,x = (m : Int) + 1:=⟨_,rfl⟩
 have wm : wrap64 ((m : Int) + 1) = m1:=by rw [hm1]; exact IntWalk.wrap64_in _ (by omega)
 have hl1:=hl
 rw [← hm1] at hl1
 have b1 : ((r.length : Int) != m1) = false:=by rw [hl1]; simp
 have M:=ah.mk M0
 clear M0 S hu hk hn L hm hes hfl AL him hl hq hm1 hl1 vS
 conv => arg 2; whnf
 go_wp2_with (first | (go_at_call 36; refine (KQ.out _).mono ?_; rintro e1 w1 ⟨rfl,hb1⟩; have M1:=ah.mk (M.out.call hb1); clear M hb1) | (go_at_call 37; refine (Eb.out _).mono ?_; rintro e2 w2 ⟨rfl,hd2⟩; have M2:=ah.mk (M1.out.call (gK hd2)); clear M1 hd2) | (go_at_call 94; have rr:=Gf M2.out SS.out HL.out 1 m (cc' - 1) (fun _ => rfl) Vx.out Vw.out (zX M2.out HL.out); rw [HQ.out] at rr; rw [JE.out] at rr; refine rr.mono ?_; rintro e3 w3 ⟨A3,c3,rfl,MF⟩; have M3:=ah.mk MF; clear M2 MF rr) | ((with_reducible refine bI (N:=14) rfl ?_); refine fBr M3 14 [.int .i64 0,.int .i64 0,.int .i64 0,.int .i64 0,.int .i64 0] 70 (by decide) (by decide) ?_; clear M3; intro g14 w4 M4) | ((with_reducible refine aU (t:=70) (p:=14) rfl ?_); refine fE M4 70 (.tmp 14) 0 0 (.agg #[.int .i64 op,.int .i64 0,.int .i64 0,.int .i64 0,.int .i64 0]) [.int .i64 op,.int .i64 0,.int .i64 0,.int .i64 0,.int .i64 0] [.int .i64 0,.int .i64 0,.int .i64 0,.int .i64 0,.int .i64 0] (by decide) rfl ?_ rfl (by intro q hq; simp at hq; rcases hq with rfl | rfl | rfl | rfl | rfl <;> rfl) (Nat.le_refl 5) rfl; clear M4; intro w5 M5))
 rename_i Wi
 have HF:=Lib.hid (show (fill op q.1 0 : List Value) = [.int .i64 op,.int .i64 0,.int .i64 0,.int .i64 0,.int .i64 0] from rfl)
 go_loopw [124] (fun v124 wr => ∃ i : Nat,i ≤ m ∧ v124 = .int .i64 (i : Int) ∧ bf vk w0 wr ((gr,gZ h s,55) :: l) (Ea h) (⟨Kd.raw 5,70,.slice (some ⟨g14,0,none⟩) 1 1,[fill op q.1 i]⟩ :: ⟨Kd.int .i64,3,.slice A3 m c3,q.1⟩ :: dO h s)) (fun v124 _ => m - (intOf v124).toNat)
 case atStart => exact ⟨0,Nat.zero_le _,rfl,by rw [HF.out]; exact M5.out⟩
 obtain ⟨i,hi,rfl,MF⟩:=hrel
 have M6:=ah.mk MF
 clear MF M5
 by_cases him : i < m
 ·obtain ⟨g3,rfl⟩ : ∃ g,A3 = some ⟨g,0,none⟩:=by
   rcases bf.slice M6.out 1 rfl with ⟨c0,h1,h2⟩ | ⟨g,c0,h1,h2⟩
   ·have:=JE.out; rw [h2] at this; simp at this; omega
   ·injection h1 with h1 _ _; exact ⟨g,h1⟩
  have AL:=Ul.out
  rcases (show i = 0 ∨ i = 1 ∨ i = 2 by omega) with rfl | rfl | rfl
  ·have y:=M6.out.zV 1 rfl (i:=0) (x:=q.1.getD 0 0) (by rw [List.getD_eq_getElem?_getD]; exact (List.getElem?_eq_getElem (by rw [JE.out]; omega)).trans (by rw [List.getElem?_eq_getElem (by rw [JE.out]; omega)]; rfl)) (by omega)
   have q2 : ((0 : Nat) : Int) < (m : Int):=by omega
   go_wp2_with (first | ((with_reducible refine aU (t:=3) (p:=133) rfl ?_); refine fE M6 3 (.tmp 133) 0 1 (.int .i64 (q.1.getD 0 0)) [.int .i64 (q.1.getD 0 0)] (fill op q.1 0) (by decide) rfl ?_ rfl (by intro q hq; rw [List.mem_singleton] at hq; subst hq; rfl) (by show 1 + 1 ≤ 5; decide) rfl; clear M6; intro w7 M7))
   go_roundw
   case rel => exact ⟨1,by omega,rfl,by have h1:=M7.out; rw [aaR] at h1; exact h1⟩
   case measure => simp [intOf]; omega
  ·have y:=M6.out.zV 1 rfl (i:=1) (x:=q.1.getD 1 0) (by rw [List.getD_eq_getElem?_getD]; exact (List.getElem?_eq_getElem (by rw [JE.out]; omega)).trans (by rw [List.getElem?_eq_getElem (by rw [JE.out]; omega)]; rfl)) (by omega)
   have q2 : ((1 : Nat) : Int) < (m : Int):=by omega
   go_wp2_with (first | ((with_reducible refine aU (t:=3) (p:=137) rfl ?_); refine fE M6 3 (.tmp 137) 0 2 (.int .i64 (q.1.getD 1 0)) [.int .i64 (q.1.getD 1 0)] (fill op q.1 1) (by decide) rfl ?_ rfl (by intro q hq; rw [List.mem_singleton] at hq; subst hq; rfl) (by show 2 + 1 ≤ 5; decide) rfl; clear M6; intro w7 M7))
   go_roundw
   case rel => exact ⟨2,by omega,rfl,by have h1:=M7.out; rw [aaS] at h1; exact h1⟩
   case measure => simp [intOf]; omega
  ·have y:=M6.out.zV 1 rfl (i:=2) (x:=q.1.getD 2 0) (by rw [List.getD_eq_getElem?_getD]; exact (List.getElem?_eq_getElem (by rw [JE.out]; omega)).trans (by rw [List.getElem?_eq_getElem (by rw [JE.out]; omega)]; rfl)) (by omega)
   have q2 : ((2 : Nat) : Int) < (m : Int):=by omega
   go_wp2_with (first | ((with_reducible refine aU (t:=3) (p:=141) rfl ?_); refine fE M6 3 (.tmp 141) 0 3 (.int .i64 (q.1.getD 2 0)) [.int .i64 (q.1.getD 2 0)] (fill op q.1 2) (by decide) rfl ?_ rfl (by intro q hq; rw [List.mem_singleton] at hq; subst hq; rfl) (by show 3 + 1 ≤ 5; decide) rfl; clear M6; intro w7 M7))
   go_roundw
   case rel => exact ⟨3,by omega,rfl,by have h1:=M7.out; rw [aaT] at h1; exact h1⟩
   case measure => simp [intOf]; omega
 ·obtain rfl : m = i:=by omega
  have q2 : ¬ ((m : Nat) : Int) < ((m : Nat) : Int):=by omega
  have HFE:=Lib.hid (IX (op:=op) JE.out (m:=m) Ul.out)
  have hfe:=HFE.out
  have M7:=ah.mk (show bf vk w0 _ ((gr,gZ h s,55) :: l) (Ea h) (⟨Kd.raw 5,70,.slice (some ⟨g14,0,none⟩) 1 1,[[.int .i64 op,.int .i64 ((xH q.1).getD 0 0),.int .i64 ((xH q.1).getD 1 0),.int .i64 ((xH q.1).getD 2 0),.int .i64 0]]⟩ :: dO h s) from by
   have h1:=M6.out
   rw [hfe] at h1
   exact (bf.front h1 1 rfl).fQ Mem.tail)
  clear M6 hfe
  go_upto_if 125 with fail
  refine wp_cond_split rfl (fun h => ?_) (fun h => ?_)
  ·simp at h
  ·refine wp_exit ?_
   refine Wi _ _ ?_
   exact Jb M7.out SS.out rF.out HU.out fU.out iK.out HK.out HN.out HL.out Oa.out (fun _ => rfl) HM.out Vu.out HIM.out
theorem Ph {u2 u3 u8 u9 u10 u11 u12 u13 u14 u15 u16 yh yj yu u20 u21 u22 u23 u24 u25 u26 u27 u28 u29 u30 u31 u32 u33 u34 u35 u36 u37 u38 yw u40 yx u42 yC u44 u45 u46 yD u48 u49 yE u51 yF u53 yG u55 yH yI u58 u59 u60 u61 yJ u63 u64 yK u66 yL u68 u69 u70 yM u72 u73 yN u75 yP yQ yS yT yU yV yX yY yZ zf zh zi zk zn zo zq zu u93 zA zB zC zD zF zG jM jO jP jQ jR u105 jS jT jU jV jW jX jY jZ ku kD kF kG kH u119 kJ kQ kS kT u124 kU kV u127 kX kZ lg u131 lq lu lC lD lF lG u138 u139 lH lI lJ lK lM lN lQ lS lT lU lV lW u152 lX u154 lY lZ l7 l9 mg mD mF u162 mG u164 mJ mM mO mP mQ mV mW mX mY mZ ng ny nC nD nG nH nI nJ nK nM nN nO nP nR nS nT nU nV u193 u194 nX u196 nY u198 nZ oh u201 oq ou oz oC u206 oD u208 oG u210 oH oI oJ oK oL oM oN oO oP oQ oU oV oW oZ o7 o8 o9 pq pz pF pG pI pJ u234 pK u236 pO pR pU pV pW pX : Value} (M0 : dX k w0 W gr l h s) (S : Std w0) (hu : s.uses.length < k) (hk : k ≤ 262144) (hn : s.idle = false → n < s.ins.length ∧ n < s.code.length)
  (L : Line l gw (r.length + 1) cc' (s0 :: r)) :
  Code.wp Tryz.prog yg (bodyPost Tryz.prog Tryz.f63 fun z w' => z = .returned (.int .i64 (s.regs n op r).2) ∧ ∃ h',dX k w0 w' gr l h' (s.regs n op r).1) ⟨#[(.pointer (some ⟨gr,0,none⟩)),(.slice (some ⟨gw,0,none⟩) (r.length + 1) cc'),u2,u3,(.int .i64 0),(.int .i64 op),(.int .i64 0),(.int .i64 (n : Int)),u8,u9,u10,u11,u12,u13,u14,u15,u16,yh,yj,yu,u20,u21,u22,u23,u24,u25,u26,u27,u28,u29,u30,u31,u32,u33,u34,u35,u36,u37,u38,yw,u40,yx,u42,yC,u44,u45,u46,yD,u48,u49,yE,u51,yF,u53,yG,u55,yH,yI,u58,u59,u60,u61,yJ,u63,u64,yK,u66,yL,u68,u69,u70,yM,u72,u73,yN,u75,yP,yQ,yS,yT,yU,yV,yX,yY,yZ,zf,zh,zi,zk,zn,zo,zq,zu,u93,zA,zB,zC,zD,zF,zG,jM,jO,jP,jQ,jR,u105,jS,jT,jU,jV,jW,jX,jY,jZ,ku,kD,kF,kG,kH,u119,kJ,kQ,kS,kT,u124,kU,kV,u127,kX,kZ,lg,u131,lq,lu,lC,lD,lF,lG,u138,u139,lH,lI,lJ,lK,lM,lN,lQ,lS,lT,lU,lV,lW,u152,lX,u154,lY,lZ,l7,l9,mg,mD,mF,u162,mG,u164,mJ,mM,mO,mP,mQ,mV,mW,mX,mY,mZ,ng,ny,nC,nD,nG,nH,nI,nJ,nK,nM,nN,nO,nP,nR,nS,nT,nU,nV,u193,u194,nX,u196,nY,u198,nZ,oh,u201,oq,ou,oz,oC,u206,oD,u208,oG,u210,oH,oI,oJ,oK,oL,oM,oN,oO,oP,oQ,oU,oV,oW,oZ,o7,o8,o9,pq,pz,pF,pG,pI,pJ,u234,pK,u236,pO,pR,pU,pV,pW,pX],[]⟩ W:=by
 obtain ⟨m,hm,AL⟩:=JK (bn op)
 by_cases hc1 : cc' = 1
 ·subst hc1
  obtain rfl : r = []:=by have:=L.cap; exact List.length_eq_zero_iff.1 (by omega)
  rcases Bool.eq_false_or_eq_true (bW (bn op)).2 with him | him
  case inl => exact XR M0 S hu hk hn L hm AL him (by omega)
  case inr =>
   by_cases hl : (0 : Int) = (m : Int)
   ·by_cases vS : (Q.fD [] 0 (bl (([] : List ByteArray).take m))).2 = 70
    ·exact XV M0 S hu hk hn L hm AL him hl vS
    ·exact XL M0 S hu hk hn L hm AL him hl vS
   ·exact XP M0 S hu hk hn L hm AL him hl
 ·rcases Bool.eq_false_or_eq_true (bW (bn op)).2 with him | him
  case inl =>
   by_cases hl : (r.length : Int) = (m : Int) + 1
   ·by_cases vS : (Q.fD [] 0 (bl (r.take m))).2 = 70
    ·exact XY M0 S hu hk hn L hm AL hc1 him hl vS
    ·exact XO M0 S hu hk hn L hm AL hc1 him hl vS
   ·exact XT M0 S hu hk hn L hm AL hc1 him hl
  case inr =>
   by_cases hl : (r.length : Int) = (m : Int)
   ·by_cases vS : (Q.fD [] 0 (bl (r.take m))).2 = 70
    ·exact XW M0 S hu hk hn L hm AL hc1 him hl vS
    ·exact XM M0 S hu hk hn L hm AL hc1 him hl vS
   ·exact XQ M0 S hu hk hn L hm AL hc1 him hl
end
end Go.Proofs.YtdbpglhdicmhhaaGreatDoor.qp
end
