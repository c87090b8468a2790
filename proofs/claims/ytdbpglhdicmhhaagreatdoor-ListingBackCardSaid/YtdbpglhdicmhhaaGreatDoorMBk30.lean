import Derived.Test.YtdbpglhdicmhhaaGreatDoorMBk29
set_option linter.unusedVariables false
set_option linter.unusedSimpArgs false
section
namespace Go.Proofs.YtdbpglhdicmhhaaGreatDoor.Hof
open Go.RowKit Go.Shelf Go.Proofs.YtdbpglhdicmhhaaGreatDoorW.PrintWords Go.Proofs.YtdbpglhdicmhhaaGreatDoorW.PrintLast Go.Proofs.YtdbpglhdicmhhaaGreatDoorW.PrintMore Hctx
open Go.Proofs.YtdbpglhdicmhhaaGreatDoor.GA
noncomputable def tail10 : Code:=(List.range 5).foldl (fun c _ => seqR c) (Tryz.f63.body.getD .skip)
def fill (op : Int) (q : List Int) (i : Nat) : List Value:=[.int .i64 op,.int .i64 (if 0 < i then q.getD 0 0 else 0),.int .i64 (if 1 < i then q.getD 1 0 else 0),.int .i64 (if 2 < i then q.getD 2 0 else 0),.int .i64 0]
theorem fill_end {op : Int} {q : List Int} {m : Nat} (hq : q.length = m) (hm : m ≤ 3) : fill op q m = [.int .i64 op,.int .i64 ((abcOf q).getD 0 0),.int .i64 ((abcOf q).getD 1 0),.int .i64 ((abcOf q).getD 2 0),.int .i64 0]:=by
 unfold fill abcOf
 have z : ∀ j,q.length ≤ j → q.getD j 0 = 0:=fun j hj => by rw [List.getD_eq_getElem?_getD,List.getElem?_eq_none hj]; rfl
 have key : ∀ j,(if j < m then q.getD j 0 else 0) = q.getD j 0:=fun j => by
  by_cases h : j < m
  ·rw [if_pos h]
  ·rw [if_neg h,z j (by omega)]
 rw [key,key,key]; rfl
theorem regs_len {s : St} {n : Nat} {op : Int} {rest : List ByteArray} (h : (rest.length : Int) ≠ (fieldsV (shapeV op)).1 + (if (fieldsV (shapeV op)).2 then 1 else 0)) : s.regs n op rest = (s,70):=if_pos h
theorem regs_txt {s : St} {n m : Nat} {op : Int} {rest : List ByteArray} (hm : (fieldsV (shapeV op)).1 = (m : Int)) (h : (rest.length : Int) = (m : Int) + (if (fieldsV (shapeV op)).2 then 1 else 0)) (h2 : (Q.regsV [] 0 (bl (rest.take m))).2 = 70) : s.regs n op rest = (s,70):=by
 unfold St.regs
 rw [if_neg (by rw [hm]; exact fun e => e h),hm,Int.toNat_natCast]
 exact if_pos h2
theorem regs_ok {s : St} {n m : Nat} {op : Int} {rest : List ByteArray} (hm : (fieldsV (shapeV op)).1 = (m : Int)) (h : (rest.length : Int) = (m : Int) + (if (fieldsV (shapeV op)).2 then 1 else 0)) (h2 : (Q.regsV [] 0 (bl (rest.take m))).2 ≠ 70) : s.regs n op rest = s.imm n op (Q.regsV [] 0 (bl (rest.take m))).2 (abcOf (Q.regsV [] 0 (bl (rest.take m))).1) rest:=by
 unfold St.regs
 rw [if_neg (by rw [hm]; exact fun e => e h),hm,Int.toNat_natCast]
 exact if_neg h2
theorem rregs' {k : Nat} {w0 W : World} {gr : Nat} {l : List (Nat × Array Value × TypeId)} {h : Hd} {s : St} (M : RdM k w0 W gr l h s) (S : Std w0) {gw n c : Nat} {s0 : ByteArray} {r : List ByteArray} (L : Line l gw n c (s0 :: r)) (ow m c' : Nat) (how : r ≠ [] → ow = 1) (hm : m ≤ r.length) (hc' : m ≤ c') (hgw : gw < W.heap.size) :
  Calls Tryz.prog 94 #[.slice (some ⟨gw,ow,none⟩) m c'] W fun e w' => ∃ A c,e = .returned (.tuple #[.slice A (Q.regsV [] 0 (bl (r.take m))).1.length c,.int .i64 (Q.regsV [] 0 (bl (r.take m))).2]) ∧
   MemF esR w0 w' ((gr,cellsR h s,55) :: l) (fxR h) (⟨Kd.int .i64,3,.slice A (Q.regsV [] 0 (bl (r.take m))).1.length c,(Q.regsV [] 0 (bl (r.take m))).1⟩ :: rowsR h s):=by
 have hl : (r.take m).length = m:=by rw [List.length_take]; omega
 have hw : WordsAt W gw ow (r.take m):=by
  by_cases hr : r = []
  ·subst hr; intro i p hi; simp at hi
  ·obtain rfl:=how hr
   intro i p hi
   refine (Line.rest L M) i p ?_
   rw [List.getElem?_take] at hi
   split at hi
   ·exact hi
   ·cases hi
 have hfew : r.length + 1 ≤ 262144:=by have h1:=L.len; have h2:=L.few; rw [List.length_cons] at h1; omega
 have hreg:=registers_calls gw ow c' (r.take m) W (S.below M.below) hgw hw (fun p hp => L.small p (List.mem_cons_of_mem _ (List.mem_of_mem_take hp))) (by omega) (by omega)
 rw [hl] at hreg
 refine hreg.mono ?_
 rintro e w' ⟨v,rfl,hR⟩
 obtain ⟨A,c,hv⟩ : ∃ A c,v = .slice A (Q.regsV [] 0 (bl (r.take m))).1.length c:=Kd.R_slice (hR.mem.owns 0 _ rfl)
 subst hv
 exact ⟨A,c,rfl,M.mem.row hR.mem.below hR.mem.own (by decide)⟩
theorem fill1 {op : Int} {q : List Int} : (fill op q 0).take 1 ++ [Value.int .i64 (q.getD 0 0)] ++ (fill op q 0).drop (1 + [Value.int .i64 (q.getD 0 0)].length) = fill op q 1:=by simp [fill]
theorem fill2 {op : Int} {q : List Int} : (fill op q 1).take 2 ++ [Value.int .i64 (q.getD 1 0)] ++ (fill op q 1).drop (2 + [Value.int .i64 (q.getD 1 0)].length) = fill op q 2:=by simp [fill]
theorem fill3 {op : Int} {q : List Int} : (fill op q 2).take 3 ++ [Value.int .i64 (q.getD 2 0)] ++ (fill op q 2).drop (3 + [Value.int .i64 (q.getD 2 0)].length) = fill op q 3:=by simp [fill]
section
variable {k : Nat} {w0 W : World} {gr gw : Nat} {l : List (Nat × Array Value × TypeId)} {h : Hd} {s : St} {op : Int} {n m cc' : Nat} {s0 : ByteArray} {r : List ByteArray}
set_option maxHeartbeats 8000000 in
set_option maxRecDepth 100000 in
theorem regs_l0A {u2 u3 u8 u9 u10 u11 u12 u13 u14 u15 u16 u17 u18 u19 u20 u21 u22 u23 u24 u25 u26 u27 u28 u29 u30 u31 u32 u33 u34 u35 u36 u37 u38 u39 u40 u41 u42 u43 u44 u45 u46 u47 u48 u49 u50 u51 u52 u53 u54 u55 u56 u57 u58 u59 u60 u61 u62 u63 u64 u65 u66 u67 u68 u69 u70 u71 u72 u73 u74 u75 u76 u77 u78 u79 u80 u81 u82 u83 u84 u85 u86 u87 u88 u89 u90 u91 u92 u93 u94 u95 u96 u97 u98 u99 u100 u101 u102 u103 u104 u105 u106 u107 u108 u109 u110 u111 u112 u113 u114 u115 u116 u117 u118 u119 u120 u121 u122 u123 u124 u125 u126 u127 u128 u129 u130 u131 u132 u133 u134 u135 u136 u137 u138 u139 u140 u141 u142 u143 u144 u145 u146 u147 u148 u149 u150 u151 u152 u153 u154 u155 u156 u157 u158 u159 u160 u161 u162 u163 u164 u165 u166 u167 u168 u169 u170 u171 u172 u173 u174 u175 u176 u177 u178 u179 u180 u181 u182 u183 u184 u185 u186 u187 u188 u189 u190 u191 u192 u193 u194 u195 u196 u197 u198 u199 u200 u201 u202 u203 u204 u205 u206 u207 u208 u209 u210 u211 u212 u213 u214 u215 u216 u217 u218 u219 u220 u221 u222 u223 u224 u225 u226 u227 u228 u229 u230 u231 u232 u233 u234 u235 u236 u237 u238 u239 u240 u241 u242 : Value} (M0 : RdM k w0 W gr l h s) (S : Std w0) (hu : s.uses.length < k) (hk : k ≤ 262144) (hn : s.idle = false → n < s.ins.length ∧ n < s.code.length)
  (L : Line l gw (([] : List ByteArray).length + 1) 1 (s0 :: ([] : List ByteArray))) (hm : (fieldsV (shapeV op)).1 = (m : Int)) (hm3 : m ≤ 3) (him : (fieldsV (shapeV op)).2 = false) (hl : (0 : Int) ≠ (m : Int)) :
  Code.wp Tryz.prog tail10 (bodyPost Tryz.prog Tryz.f63 fun z w' => z = .returned (.int .i64 (s.regs n op ([] : List ByteArray)).2) ∧ ∃ h',RdM k w0 w' gr l h' (s.regs n op ([] : List ByteArray)).1) ⟨#[(.pointer (some ⟨gr,0,none⟩)),(.slice (some ⟨gw,0,none⟩) 1 1),u2,u3,(.int .i64 0),(.int .i64 op),(.int .i64 0),(.int .i64 (n : Int)),u8,u9,u10,u11,u12,u13,u14,u15,u16,u17,u18,u19,u20,u21,u22,u23,u24,u25,u26,u27,u28,u29,u30,u31,u32,u33,u34,u35,u36,u37,u38,u39,u40,u41,u42,u43,u44,u45,u46,u47,u48,u49,u50,u51,u52,u53,u54,u55,u56,u57,u58,u59,u60,u61,u62,u63,u64,u65,u66,u67,u68,u69,u70,u71,u72,u73,u74,u75,u76,u77,u78,u79,u80,u81,u82,u83,u84,u85,u86,u87,u88,u89,u90,u91,u92,u93,u94,u95,u96,u97,u98,u99,u100,u101,u102,u103,u104,u105,u106,u107,u108,u109,u110,u111,u112,u113,u114,u115,u116,u117,u118,u119,u120,u121,u122,u123,u124,u125,u126,u127,u128,u129,u130,u131,u132,u133,u134,u135,u136,u137,u138,u139,u140,u141,u142,u143,u144,u145,u146,u147,u148,u149,u150,u151,u152,u153,u154,u155,u156,u157,u158,u159,u160,u161,u162,u163,u164,u165,u166,u167,u168,u169,u170,u171,u172,u173,u174,u175,u176,u177,u178,u179,u180,u181,u182,u183,u184,u185,u186,u187,u188,u189,u190,u191,u192,u193,u194,u195,u196,u197,u198,u199,u200,u201,u202,u203,u204,u205,u206,u207,u208,u209,u210,u211,u212,u213,u214,u215,u216,u217,u218,u219,u220,u221,u222,u223,u224,u225,u226,u227,u228,u229,u230,u231,u232,u233,u234,u235,u236,u237,u238,u239,u240,u241,u242],[]⟩ W:=by
 have SS:=Lib.hid S
 have HU:=Lib.hid hu
 have HN:=Lib.hid hn
 have HK:=Lib.hid hk
 have HL:=Lib.hid L
 have HM:=Lib.hid hm
 have HM3:=Lib.hid hm3
 have HRF:=Lib.hid True.intro
 obtain ⟨es,hes⟩:=shape_some op
 have HSH:=Lib.hid (fun W => word_Shape.calls op _ _ W hes)
 have hfl:=fields_some (shapeV op)
 rw [hm] at hfl
 have HFL:=Lib.hid (fun W => listing_fields.calls (shapeV op) _ _ W hfl)
 rw [regs_len (by rw [hm,him]; simpa using hl)]
 rw [him] at HFL
 have b1 : ((0 : Int) != (m : Int)) = true:=bne_iff_ne.mpr hl
 have M:=Aside0.mk M0
 clear M0 S hu hk hn L hm hes hfl hm3 him hl HM
 conv => arg 2; whnf
 go_wp2_with (first | (go_at_call 36; refine (HSH.out _).mono ?_; rintro e1 w1 ⟨rfl,hb1⟩; have M1:=Aside0.mk (M.out.call hb1); clear M hb1) | (go_at_call 37; refine (HFL.out _).mono ?_; rintro e2 w2 ⟨rfl,hd2⟩; have M2:=Aside0.mk (M1.out.call (below_d0 hd2)); clear M1 hd2))
 go_returns
 exact ⟨rfl,_,M2.out⟩
set_option maxHeartbeats 8000000 in
set_option maxRecDepth 100000 in
theorem regs_l1A {u2 u3 u8 u9 u10 u11 u12 u13 u14 u15 u16 u17 u18 u19 u20 u21 u22 u23 u24 u25 u26 u27 u28 u29 u30 u31 u32 u33 u34 u35 u36 u37 u38 u39 u40 u41 u42 u43 u44 u45 u46 u47 u48 u49 u50 u51 u52 u53 u54 u55 u56 u57 u58 u59 u60 u61 u62 u63 u64 u65 u66 u67 u68 u69 u70 u71 u72 u73 u74 u75 u76 u77 u78 u79 u80 u81 u82 u83 u84 u85 u86 u87 u88 u89 u90 u91 u92 u93 u94 u95 u96 u97 u98 u99 u100 u101 u102 u103 u104 u105 u106 u107 u108 u109 u110 u111 u112 u113 u114 u115 u116 u117 u118 u119 u120 u121 u122 u123 u124 u125 u126 u127 u128 u129 u130 u131 u132 u133 u134 u135 u136 u137 u138 u139 u140 u141 u142 u143 u144 u145 u146 u147 u148 u149 u150 u151 u152 u153 u154 u155 u156 u157 u158 u159 u160 u161 u162 u163 u164 u165 u166 u167 u168 u169 u170 u171 u172 u173 u174 u175 u176 u177 u178 u179 u180 u181 u182 u183 u184 u185 u186 u187 u188 u189 u190 u191 u192 u193 u194 u195 u196 u197 u198 u199 u200 u201 u202 u203 u204 u205 u206 u207 u208 u209 u210 u211 u212 u213 u214 u215 u216 u217 u218 u219 u220 u221 u222 u223 u224 u225 u226 u227 u228 u229 u230 u231 u232 u233 u234 u235 u236 u237 u238 u239 u240 u241 u242 : Value} (M0 : RdM k w0 W gr l h s) (S : Std w0) (hu : s.uses.length < k) (hk : k ≤ 262144) (hn : s.idle = false → n < s.ins.length ∧ n < s.code.length)
  (L : Line l gw (([] : List ByteArray).length + 1) 1 (s0 :: ([] : List ByteArray))) (hm : (fieldsV (shapeV op)).1 = (m : Int)) (hm3 : m ≤ 3) (him : (fieldsV (shapeV op)).2 = true) (hl : (0 : Int) ≠ (m : Int) + 1) :
  Code.wp Tryz.prog tail10 (bodyPost Tryz.prog Tryz.f63 fun z w' => z = .returned (.int .i64 (s.regs n op ([] : List ByteArray)).2) ∧ ∃ h',RdM k w0 w' gr l h' (s.regs n op ([] : List ByteArray)).1) ⟨#[(.pointer (some ⟨gr,0,none⟩)),(.slice (some ⟨gw,0,none⟩) 1 1),u2,u3,(.int .i64 0),(.int .i64 op),(.int .i64 0),(.int .i64 (n : Int)),u8,u9,u10,u11,u12,u13,u14,u15,u16,u17,u18,u19,u20,u21,u22,u23,u24,u25,u26,u27,u28,u29,u30,u31,u32,u33,u34,u35,u36,u37,u38,u39,u40,u41,u42,u43,u44,u45,u46,u47,u48,u49,u50,u51,u52,u53,u54,u55,u56,u57,u58,u59,u60,u61,u62,u63,u64,u65,u66,u67,u68,u69,u70,u71,u72,u73,u74,u75,u76,u77,u78,u79,u80,u81,u82,u83,u84,u85,u86,u87,u88,u89,u90,u91,u92,u93,u94,u95,u96,u97,u98,u99,u100,u101,u102,u103,u104,u105,u106,u107,u108,u109,u110,u111,u112,u113,u114,u115,u116,u117,u118,u119,u120,u121,u122,u123,u124,u125,u126,u127,u128,u129,u130,u131,u132,u133,u134,u135,u136,u137,u138,u139,u140,u141,u142,u143,u144,u145,u146,u147,u148,u149,u150,u151,u152,u153,u154,u155,u156,u157,u158,u159,u160,u161,u162,u163,u164,u165,u166,u167,u168,u169,u170,u171,u172,u173,u174,u175,u176,u177,u178,u179,u180,u181,u182,u183,u184,u185,u186,u187,u188,u189,u190,u191,u192,u193,u194,u195,u196,u197,u198,u199,u200,u201,u202,u203,u204,u205,u206,u207,u208,u209,u210,u211,u212,u213,u214,u215,u216,u217,u218,u219,u220,u221,u222,u223,u224,u225,u226,u227,u228,u229,u230,u231,u232,u233,u234,u235,u236,u237,u238,u239,u240,u241,u242],[]⟩ W:=by
 have SS:=Lib.hid S
 have HU:=Lib.hid hu
 have HN:=Lib.hid hn
 have HK:=Lib.hid hk
 have HL:=Lib.hid L
 have HM:=Lib.hid hm
 have HM3:=Lib.hid hm3
 have HRF:=Lib.hid True.intro
 obtain ⟨es,hes⟩:=shape_some op
 have HSH:=Lib.hid (fun W => word_Shape.calls op _ _ W hes)
 have hfl:=fields_some (shapeV op)
 rw [hm] at hfl
 have HFL:=Lib.hid (fun W => listing_fields.calls (shapeV op) _ _ W hfl)
 rw [regs_len (by rw [hm,him]; simpa using hl)]
 rw [him] at HFL
 obtain ⟨m1,hm1⟩ : ∃ x : Int,x = (m : Int) + 1:=⟨_,rfl⟩
 have wm : wrap64 ((m : Int) + 1) = m1:=by rw [hm1]; exact IntWalk.wrap64_in _ (by omega)
 rw [← hm1] at hl
 have b1 : ((0 : Int) != m1) = true:=bne_iff_ne.mpr hl
 have M:=Aside0.mk M0
 clear M0 S hu hk hn L hm hes hfl hm3 him hl hm1 HM
 conv => arg 2; whnf
 go_wp2_with (first | (go_at_call 36; refine (HSH.out _).mono ?_; rintro e1 w1 ⟨rfl,hb1⟩; have M1:=Aside0.mk (M.out.call hb1); clear M hb1) | (go_at_call 37; refine (HFL.out _).mono ?_; rintro e2 w2 ⟨rfl,hd2⟩; have M2:=Aside0.mk (M1.out.call (below_d0 hd2)); clear M1 hd2))
 go_returns
 exact ⟨rfl,_,M2.out⟩
set_option maxHeartbeats 8000000 in
set_option maxRecDepth 100000 in
theorem regs_t0A {u2 u3 u8 u9 u10 u11 u12 u13 u14 u15 u16 u17 u18 u19 u20 u21 u22 u23 u24 u25 u26 u27 u28 u29 u30 u31 u32 u33 u34 u35 u36 u37 u38 u39 u40 u41 u42 u43 u44 u45 u46 u47 u48 u49 u50 u51 u52 u53 u54 u55 u56 u57 u58 u59 u60 u61 u62 u63 u64 u65 u66 u67 u68 u69 u70 u71 u72 u73 u74 u75 u76 u77 u78 u79 u80 u81 u82 u83 u84 u85 u86 u87 u88 u89 u90 u91 u92 u93 u94 u95 u96 u97 u98 u99 u100 u101 u102 u103 u104 u105 u106 u107 u108 u109 u110 u111 u112 u113 u114 u115 u116 u117 u118 u119 u120 u121 u122 u123 u124 u125 u126 u127 u128 u129 u130 u131 u132 u133 u134 u135 u136 u137 u138 u139 u140 u141 u142 u143 u144 u145 u146 u147 u148 u149 u150 u151 u152 u153 u154 u155 u156 u157 u158 u159 u160 u161 u162 u163 u164 u165 u166 u167 u168 u169 u170 u171 u172 u173 u174 u175 u176 u177 u178 u179 u180 u181 u182 u183 u184 u185 u186 u187 u188 u189 u190 u191 u192 u193 u194 u195 u196 u197 u198 u199 u200 u201 u202 u203 u204 u205 u206 u207 u208 u209 u210 u211 u212 u213 u214 u215 u216 u217 u218 u219 u220 u221 u222 u223 u224 u225 u226 u227 u228 u229 u230 u231 u232 u233 u234 u235 u236 u237 u238 u239 u240 u241 u242 : Value} (M0 : RdM k w0 W gr l h s) (S : Std w0) (hu : s.uses.length < k) (hk : k ≤ 262144) (hn : s.idle = false → n < s.ins.length ∧ n < s.code.length)
  (L : Line l gw (([] : List ByteArray).length + 1) 1 (s0 :: ([] : List ByteArray))) (hm : (fieldsV (shapeV op)).1 = (m : Int)) (hm3 : m ≤ 3) (him : (fieldsV (shapeV op)).2 = false) (hl : (0 : Int) = (m : Int)) (h70 : (Q.regsV [] 0 (bl (([] : List ByteArray).take m))).2 = 70) :
  Code.wp Tryz.prog tail10 (bodyPost Tryz.prog Tryz.f63 fun z w' => z = .returned (.int .i64 (s.regs n op ([] : List ByteArray)).2) ∧ ∃ h',RdM k w0 w' gr l h' (s.regs n op ([] : List ByteArray)).1) ⟨#[(.pointer (some ⟨gr,0,none⟩)),(.slice (some ⟨gw,0,none⟩) 1 1),u2,u3,(.int .i64 0),(.int .i64 op),(.int .i64 0),(.int .i64 (n : Int)),u8,u9,u10,u11,u12,u13,u14,u15,u16,u17,u18,u19,u20,u21,u22,u23,u24,u25,u26,u27,u28,u29,u30,u31,u32,u33,u34,u35,u36,u37,u38,u39,u40,u41,u42,u43,u44,u45,u46,u47,u48,u49,u50,u51,u52,u53,u54,u55,u56,u57,u58,u59,u60,u61,u62,u63,u64,u65,u66,u67,u68,u69,u70,u71,u72,u73,u74,u75,u76,u77,u78,u79,u80,u81,u82,u83,u84,u85,u86,u87,u88,u89,u90,u91,u92,u93,u94,u95,u96,u97,u98,u99,u100,u101,u102,u103,u104,u105,u106,u107,u108,u109,u110,u111,u112,u113,u114,u115,u116,u117,u118,u119,u120,u121,u122,u123,u124,u125,u126,u127,u128,u129,u130,u131,u132,u133,u134,u135,u136,u137,u138,u139,u140,u141,u142,u143,u144,u145,u146,u147,u148,u149,u150,u151,u152,u153,u154,u155,u156,u157,u158,u159,u160,u161,u162,u163,u164,u165,u166,u167,u168,u169,u170,u171,u172,u173,u174,u175,u176,u177,u178,u179,u180,u181,u182,u183,u184,u185,u186,u187,u188,u189,u190,u191,u192,u193,u194,u195,u196,u197,u198,u199,u200,u201,u202,u203,u204,u205,u206,u207,u208,u209,u210,u211,u212,u213,u214,u215,u216,u217,u218,u219,u220,u221,u222,u223,u224,u225,u226,u227,u228,u229,u230,u231,u232,u233,u234,u235,u236,u237,u238,u239,u240,u241,u242],[]⟩ W:=by
 have SS:=Lib.hid S
 have HU:=Lib.hid hu
 have HN:=Lib.hid hn
 have HK:=Lib.hid hk
 have HL:=Lib.hid L
 have HM:=Lib.hid hm
 have HM3:=Lib.hid hm3
 have HRF:=Lib.hid True.intro
 obtain ⟨es,hes⟩:=shape_some op
 have HSH:=Lib.hid (fun W => word_Shape.calls op _ _ W hes)
 have hfl:=fields_some (shapeV op)
 rw [hm] at hfl
 have HFL:=Lib.hid (fun W => listing_fields.calls (shapeV op) _ _ W hfl)
 have HFW:=Lib.hid M0.few
 have HSY:=Lib.hid M0.says
 have HLN:=Lib.hid M0.len
 obtain ⟨q,hq⟩ : ∃ q,Q.regsV [] 0 (bl (([] : List ByteArray).take m)) = q:=⟨_,rfl⟩
 have HQ:=Lib.hid hq
 rw [regs_txt hm (by rw [him]; simpa using hl) h70]
 rw [hq] at h70
 have H70:=Lib.hid h70
 have b70 : (q.2 == 70) = true:=by rw [h70]; rfl
 obtain rfl : m = 0:=by omega
 rw [him] at HFL
 have HOW:=Lib.hid (show ([] : List ByteArray) ≠ [] → 0 = 1 from fun h => (h rfl).elim)
 have HMR:=Lib.hid (show 0 ≤ ([] : List ByteArray).length from Nat.le_refl 0)
 have HMC:=Lib.hid (Nat.le_refl 0)
 have M:=Aside0.mk M0
 clear M0 S hu hk hn L hm hes hfl hm3 him hl hq h70 HM
 conv => arg 2; whnf
 go_wp2_with (first | (go_at_call 36; refine (HSH.out _).mono ?_; rintro e1 w1 ⟨rfl,hb1⟩; have M1:=Aside0.mk (M.out.call hb1); clear M hb1) | (go_at_call 37; refine (HFL.out _).mono ?_; rintro e2 w2 ⟨rfl,hd2⟩; have M2:=Aside0.mk (M1.out.call (below_d0 hd2)); clear M1 hd2) | (go_at_call 94; have rr:=rregs' M2.out SS.out HL.out 0 0 0 (fun h => (h rfl).elim) HMR.out HMC.out (line_lt M2.out HL.out); rw [HQ.out] at rr; refine rr.mono ?_; rintro e3 w3 ⟨A3,c3,rfl,MF⟩; have M3:=Aside0.mk MF; clear M2 MF rr))
 go_returns
 exact ⟨by show Ending.returned (.int .i64 q.2) = _; rw [H70.out],h,M3.out.rowsBy Mem.tail,HFW.out,HSY.out,HLN.out⟩
set_option maxHeartbeats 8000000 in
set_option maxRecDepth 100000 in
theorem regs_k0A {u2 u3 u8 u9 u10 u11 u12 u13 u14 u15 u16 u17 u18 u19 u20 u21 u22 u23 u24 u25 u26 u27 u28 u29 u30 u31 u32 u33 u34 u35 u36 u37 u38 u39 u40 u41 u42 u43 u44 u45 u46 u47 u48 u49 u50 u51 u52 u53 u54 u55 u56 u57 u58 u59 u60 u61 u62 u63 u64 u65 u66 u67 u68 u69 u70 u71 u72 u73 u74 u75 u76 u77 u78 u79 u80 u81 u82 u83 u84 u85 u86 u87 u88 u89 u90 u91 u92 u93 u94 u95 u96 u97 u98 u99 u100 u101 u102 u103 u104 u105 u106 u107 u108 u109 u110 u111 u112 u113 u114 u115 u116 u117 u118 u119 u120 u121 u122 u123 u124 u125 u126 u127 u128 u129 u130 u131 u132 u133 u134 u135 u136 u137 u138 u139 u140 u141 u142 u143 u144 u145 u146 u147 u148 u149 u150 u151 u152 u153 u154 u155 u156 u157 u158 u159 u160 u161 u162 u163 u164 u165 u166 u167 u168 u169 u170 u171 u172 u173 u174 u175 u176 u177 u178 u179 u180 u181 u182 u183 u184 u185 u186 u187 u188 u189 u190 u191 u192 u193 u194 u195 u196 u197 u198 u199 u200 u201 u202 u203 u204 u205 u206 u207 u208 u209 u210 u211 u212 u213 u214 u215 u216 u217 u218 u219 u220 u221 u222 u223 u224 u225 u226 u227 u228 u229 u230 u231 u232 u233 u234 u235 u236 u237 u238 u239 u240 u241 u242 : Value} (M0 : RdM k w0 W gr l h s) (S : Std w0) (hu : s.uses.length < k) (hk : k ≤ 262144) (hn : s.idle = false → n < s.ins.length ∧ n < s.code.length)
  (L : Line l gw (([] : List ByteArray).length + 1) 1 (s0 :: ([] : List ByteArray))) (hm : (fieldsV (shapeV op)).1 = (m : Int)) (hm3 : m ≤ 3) (him : (fieldsV (shapeV op)).2 = false) (hl : (0 : Int) = (m : Int)) (h70 : (Q.regsV [] 0 (bl (([] : List ByteArray).take m))).2 ≠ 70) :
  Code.wp Tryz.prog tail10 (bodyPost Tryz.prog Tryz.f63 fun z w' => z = .returned (.int .i64 (s.regs n op ([] : List ByteArray)).2) ∧ ∃ h',RdM k w0 w' gr l h' (s.regs n op ([] : List ByteArray)).1) ⟨#[(.pointer (some ⟨gr,0,none⟩)),(.slice (some ⟨gw,0,none⟩) 1 1),u2,u3,(.int .i64 0),(.int .i64 op),(.int .i64 0),(.int .i64 (n : Int)),u8,u9,u10,u11,u12,u13,u14,u15,u16,u17,u18,u19,u20,u21,u22,u23,u24,u25,u26,u27,u28,u29,u30,u31,u32,u33,u34,u35,u36,u37,u38,u39,u40,u41,u42,u43,u44,u45,u46,u47,u48,u49,u50,u51,u52,u53,u54,u55,u56,u57,u58,u59,u60,u61,u62,u63,u64,u65,u66,u67,u68,u69,u70,u71,u72,u73,u74,u75,u76,u77,u78,u79,u80,u81,u82,u83,u84,u85,u86,u87,u88,u89,u90,u91,u92,u93,u94,u95,u96,u97,u98,u99,u100,u101,u102,u103,u104,u105,u106,u107,u108,u109,u110,u111,u112,u113,u114,u115,u116,u117,u118,u119,u120,u121,u122,u123,u124,u125,u126,u127,u128,u129,u130,u131,u132,u133,u134,u135,u136,u137,u138,u139,u140,u141,u142,u143,u144,u145,u146,u147,u148,u149,u150,u151,u152,u153,u154,u155,u156,u157,u158,u159,u160,u161,u162,u163,u164,u165,u166,u167,u168,u169,u170,u171,u172,u173,u174,u175,u176,u177,u178,u179,u180,u181,u182,u183,u184,u185,u186,u187,u188,u189,u190,u191,u192,u193,u194,u195,u196,u197,u198,u199,u200,u201,u202,u203,u204,u205,u206,u207,u208,u209,u210,u211,u212,u213,u214,u215,u216,u217,u218,u219,u220,u221,u222,u223,u224,u225,u226,u227,u228,u229,u230,u231,u232,u233,u234,u235,u236,u237,u238,u239,u240,u241,u242],[]⟩ W:=by
 have SS:=Lib.hid S
 have HU:=Lib.hid hu
 have HN:=Lib.hid hn
 have HK:=Lib.hid hk
 have HL:=Lib.hid L
 have HM:=Lib.hid hm
 have HM3:=Lib.hid hm3
 have HRF:=Lib.hid True.intro
 obtain ⟨es,hes⟩:=shape_some op
 have HSH:=Lib.hid (fun W => word_Shape.calls op _ _ W hes)
 have hfl:=fields_some (shapeV op)
 rw [hm] at hfl
 have HFL:=Lib.hid (fun W => listing_fields.calls (shapeV op) _ _ W hfl)
 have HFW:=Lib.hid M0.few
 have HSY:=Lib.hid M0.says
 have HLN:=Lib.hid M0.len
 obtain ⟨q,hq⟩ : ∃ q,Q.regsV [] 0 (bl (([] : List ByteArray).take m)) = q:=⟨_,rfl⟩
 have HQ:=Lib.hid hq
 have HIM:=Lib.hid him
 have HLIF:=Lib.hid (show ((([] : List ByteArray).length : Nat) : Int) = (m : Int) + (if (fieldsV (shapeV op)).2 then 1 else 0) by rw [him]; simpa using hl)
 rw [regs_ok hm (by rw [him]; simpa using hl) h70]
 rw [hq] at h70 ⊢
 have HQL:=Lib.hid (show q.1.length = m by rw [← hq]; have h1:=Q.regsV_len (bl (([] : List ByteArray).take m)) [] 0 (by rw [hq]; exact h70); rw [h1]; show 0 + ((([] : List ByteArray).take m).map _).length = _; rw [List.length_map,List.length_take]; simp; omega)
 have b70 : (q.2 == 70) = false:=beq_eq_false_iff_ne.mpr h70
 obtain rfl : m = 0:=by omega
 rw [him] at HFL
 have HOW:=Lib.hid (show ([] : List ByteArray) ≠ [] → 0 = 1 from fun h => (h rfl).elim)
 have HMR:=Lib.hid (show 0 ≤ ([] : List ByteArray).length from Nat.le_refl 0)
 have HMC:=Lib.hid (Nat.le_refl 0)
 have M:=Aside0.mk M0
 clear M0 S hu hk hn L hm hes hfl hm3 him hl hq h70
 conv => arg 2; whnf
 go_wp2_with (first | (go_at_call 36; refine (HSH.out _).mono ?_; rintro e1 w1 ⟨rfl,hb1⟩; have M1:=Aside0.mk (M.out.call hb1); clear M hb1) | (go_at_call 37; refine (HFL.out _).mono ?_; rintro e2 w2 ⟨rfl,hd2⟩; have M2:=Aside0.mk (M1.out.call (below_d0 hd2)); clear M1 hd2) | (go_at_call 94; have rr:=rregs' M2.out SS.out HL.out 0 0 0 (fun h => (h rfl).elim) HMR.out HMC.out (line_lt M2.out HL.out); rw [HQ.out] at rr; rw [HQL.out] at rr; refine rr.mono ?_; rintro e3 w3 ⟨A3,c3,rfl,MF⟩; have M3:=Aside0.mk MF; clear M2 MF rr) | ((with_reducible refine gate_dst (N:=14) rfl ?_); refine fBr M3 14 [.int .i64 0,.int .i64 0,.int .i64 0,.int .i64 0,.int .i64 0] 70 (by decide) (by decide) ?_; clear M3; intro g14 w4 M4) | ((with_reducible refine gate_store (t:=70) (p:=14) rfl ?_); refine fE M4 70 (.tmp 14) 0 0 (.agg #[.int .i64 op,.int .i64 0,.int .i64 0,.int .i64 0,.int .i64 0]) [.int .i64 op,.int .i64 0,.int .i64 0,.int .i64 0,.int .i64 0] [.int .i64 0,.int .i64 0,.int .i64 0,.int .i64 0,.int .i64 0] (by decide) rfl ?_ rfl (by intro q hq; simp at hq; rcases hq with rfl | rfl | rfl | rfl | rfl <;> rfl) (Nat.le_refl 5) rfl; clear M4; intro w5 M5))
 rename_i hK13
 have HF:=Lib.hid (show (fill op q.1 0 : List Value) = [.int .i64 op,.int .i64 0,.int .i64 0,.int .i64 0,.int .i64 0] from rfl)
 go_loopw [124] (fun v124 wr => ∃ i : Nat,i ≤ 0 ∧ v124 = .int .i64 (i : Int) ∧ MemF esR w0 wr ((gr,cellsR h s,55) :: l) (fxR h) (⟨Kd.raw 5,70,.slice (some ⟨g14,0,none⟩) 1 1,[fill op q.1 i]⟩ :: ⟨Kd.int .i64,3,.slice A3 0 c3,q.1⟩ :: rowsR h s)) (fun v124 _ => 0 - (intOf v124).toNat)
 case atStart => exact ⟨0,Nat.zero_le _,rfl,by rw [HF.out]; exact M5.out⟩
 obtain ⟨i,hi,rfl,MF⟩:=hrel
 have M6:=Aside0.mk MF
 clear MF M5
 by_cases him : i < 0
 ·exfalso; omega
 ·obtain rfl : 0 = i:=by omega
  have q2 : ¬ ((0 : Nat) : Int) < ((0 : Nat) : Int):=by omega
  have HFE:=Lib.hid (fill_end (op:=op) HQL.out (m:=0) (by omega))
  have hfe:=HFE.out
  have M7:=Aside0.mk (show MemF esR w0 _ ((gr,cellsR h s,55) :: l) (fxR h) (⟨Kd.raw 5,70,.slice (some ⟨g14,0,none⟩) 1 1,[[.int .i64 op,.int .i64 ((abcOf q.1).getD 0 0),.int .i64 ((abcOf q.1).getD 1 0),.int .i64 ((abcOf q.1).getD 2 0),.int .i64 0]]⟩ :: rowsR h s) from by
   have h1:=M6.out
   rw [hfe] at h1
   exact (MemF.front h1 1 rfl).rowsBy Mem.tail)
  clear M6 hfe
  go_upto_if 125 with fail
  refine wp_cond_split rfl (fun h => ?_) (fun h => ?_)
  ·simp at h
  ·refine wp_exit ?_
   refine hK13 _ _ ?_
   exact ins_imm2 M7.out SS.out HFW.out HU.out HSY.out HLN.out HK.out HN.out HL.out (Nat.le_refl 0) (fun h => (h rfl).elim) HM.out HLIF.out HIM.out
set_option maxHeartbeats 8000000 in
set_option maxRecDepth 100000 in
theorem regs_l0B {u2 u3 u8 u9 u10 u11 u12 u13 u14 u15 u16 u17 u18 u19 u20 u21 u22 u23 u24 u25 u26 u27 u28 u29 u30 u31 u32 u33 u34 u35 u36 u37 u38 u39 u40 u41 u42 u43 u44 u45 u46 u47 u48 u49 u50 u51 u52 u53 u54 u55 u56 u57 u58 u59 u60 u61 u62 u63 u64 u65 u66 u67 u68 u69 u70 u71 u72 u73 u74 u75 u76 u77 u78 u79 u80 u81 u82 u83 u84 u85 u86 u87 u88 u89 u90 u91 u92 u93 u94 u95 u96 u97 u98 u99 u100 u101 u102 u103 u104 u105 u106 u107 u108 u109 u110 u111 u112 u113 u114 u115 u116 u117 u118 u119 u120 u121 u122 u123 u124 u125 u126 u127 u128 u129 u130 u131 u132 u133 u134 u135 u136 u137 u138 u139 u140 u141 u142 u143 u144 u145 u146 u147 u148 u149 u150 u151 u152 u153 u154 u155 u156 u157 u158 u159 u160 u161 u162 u163 u164 u165 u166 u167 u168 u169 u170 u171 u172 u173 u174 u175 u176 u177 u178 u179 u180 u181 u182 u183 u184 u185 u186 u187 u188 u189 u190 u191 u192 u193 u194 u195 u196 u197 u198 u199 u200 u201 u202 u203 u204 u205 u206 u207 u208 u209 u210 u211 u212 u213 u214 u215 u216 u217 u218 u219 u220 u221 u222 u223 u224 u225 u226 u227 u228 u229 u230 u231 u232 u233 u234 u235 u236 u237 u238 u239 u240 u241 u242 : Value} (M0 : RdM k w0 W gr l h s) (S : Std w0) (hu : s.uses.length < k) (hk : k ≤ 262144) (hn : s.idle = false → n < s.ins.length ∧ n < s.code.length)
  (L : Line l gw (r.length + 1) cc' (s0 :: r)) (hm : (fieldsV (shapeV op)).1 = (m : Int)) (hm3 : m ≤ 3) (hc1 : cc' ≠ 1) (him : (fieldsV (shapeV op)).2 = false) (hl : (r.length : Int) ≠ (m : Int)) :
  Code.wp Tryz.prog tail10 (bodyPost Tryz.prog Tryz.f63 fun z w' => z = .returned (.int .i64 (s.regs n op r).2) ∧ ∃ h',RdM k w0 w' gr l h' (s.regs n op r).1) ⟨#[(.pointer (some ⟨gr,0,none⟩)),(.slice (some ⟨gw,0,none⟩) (r.length + 1) cc'),u2,u3,(.int .i64 0),(.int .i64 op),(.int .i64 0),(.int .i64 (n : Int)),u8,u9,u10,u11,u12,u13,u14,u15,u16,u17,u18,u19,u20,u21,u22,u23,u24,u25,u26,u27,u28,u29,u30,u31,u32,u33,u34,u35,u36,u37,u38,u39,u40,u41,u42,u43,u44,u45,u46,u47,u48,u49,u50,u51,u52,u53,u54,u55,u56,u57,u58,u59,u60,u61,u62,u63,u64,u65,u66,u67,u68,u69,u70,u71,u72,u73,u74,u75,u76,u77,u78,u79,u80,u81,u82,u83,u84,u85,u86,u87,u88,u89,u90,u91,u92,u93,u94,u95,u96,u97,u98,u99,u100,u101,u102,u103,u104,u105,u106,u107,u108,u109,u110,u111,u112,u113,u114,u115,u116,u117,u118,u119,u120,u121,u122,u123,u124,u125,u126,u127,u128,u129,u130,u131,u132,u133,u134,u135,u136,u137,u138,u139,u140,u141,u142,u143,u144,u145,u146,u147,u148,u149,u150,u151,u152,u153,u154,u155,u156,u157,u158,u159,u160,u161,u162,u163,u164,u165,u166,u167,u168,u169,u170,u171,u172,u173,u174,u175,u176,u177,u178,u179,u180,u181,u182,u183,u184,u185,u186,u187,u188,u189,u190,u191,u192,u193,u194,u195,u196,u197,u198,u199,u200,u201,u202,u203,u204,u205,u206,u207,u208,u209,u210,u211,u212,u213,u214,u215,u216,u217,u218,u219,u220,u221,u222,u223,u224,u225,u226,u227,u228,u229,u230,u231,u232,u233,u234,u235,u236,u237,u238,u239,u240,u241,u242],[]⟩ W:=by
 have SS:=Lib.hid S
 have HU:=Lib.hid hu
 have HN:=Lib.hid hn
 have HK:=Lib.hid hk
 have HL:=Lib.hid L
 have HM:=Lib.hid hm
 have HM3:=Lib.hid hm3
 have hcap : r.length + 1 ≤ cc':=L.cap
 have hcap2 : 1 ≤ cc':=by omega
 have HRF:=Lib.hid (show r.length < 262144 by have:=L.few; omega)
 obtain ⟨es,hes⟩:=shape_some op
 have HSH:=Lib.hid (fun W => word_Shape.calls op _ _ W hes)
 have hfl:=fields_some (shapeV op)
 rw [hm] at hfl
 have HFL:=Lib.hid (fun W => listing_fields.calls (shapeV op) _ _ W hfl)
 rw [regs_len (by rw [hm,him]; simpa using hl)]
 rw [him] at HFL
 have b1 : ((r.length : Int) != (m : Int)) = true:=bne_iff_ne.mpr hl
 have M:=Aside0.mk M0
 clear M0 S hu hk hn L hm hes hfl hm3 him hl HM
 conv => arg 2; whnf
 go_wp2_with (first | (go_at_call 36; refine (HSH.out _).mono ?_; rintro e1 w1 ⟨rfl,hb1⟩; have M1:=Aside0.mk (M.out.call hb1); clear M hb1) | (go_at_call 37; refine (HFL.out _).mono ?_; rintro e2 w2 ⟨rfl,hd2⟩; have M2:=Aside0.mk (M1.out.call (below_d0 hd2)); clear M1 hd2))
 go_returns
 exact ⟨rfl,_,M2.out⟩
set_option maxHeartbeats 8000000 in
set_option maxRecDepth 100000 in
theorem regs_l1B {u2 u3 u8 u9 u10 u11 u12 u13 u14 u15 u16 u17 u18 u19 u20 u21 u22 u23 u24 u25 u26 u27 u28 u29 u30 u31 u32 u33 u34 u35 u36 u37 u38 u39 u40 u41 u42 u43 u44 u45 u46 u47 u48 u49 u50 u51 u52 u53 u54 u55 u56 u57 u58 u59 u60 u61 u62 u63 u64 u65 u66 u67 u68 u69 u70 u71 u72 u73 u74 u75 u76 u77 u78 u79 u80 u81 u82 u83 u84 u85 u86 u87 u88 u89 u90 u91 u92 u93 u94 u95 u96 u97 u98 u99 u100 u101 u102 u103 u104 u105 u106 u107 u108 u109 u110 u111 u112 u113 u114 u115 u116 u117 u118 u119 u120 u121 u122 u123 u124 u125 u126 u127 u128 u129 u130 u131 u132 u133 u134 u135 u136 u137 u138 u139 u140 u141 u142 u143 u144 u145 u146 u147 u148 u149 u150 u151 u152 u153 u154 u155 u156 u157 u158 u159 u160 u161 u162 u163 u164 u165 u166 u167 u168 u169 u170 u171 u172 u173 u174 u175 u176 u177 u178 u179 u180 u181 u182 u183 u184 u185 u186 u187 u188 u189 u190 u191 u192 u193 u194 u195 u196 u197 u198 u199 u200 u201 u202 u203 u204 u205 u206 u207 u208 u209 u210 u211 u212 u213 u214 u215 u216 u217 u218 u219 u220 u221 u222 u223 u224 u225 u226 u227 u228 u229 u230 u231 u232 u233 u234 u235 u236 u237 u238 u239 u240 u241 u242 : Value} (M0 : RdM k w0 W gr l h s) (S : Std w0) (hu : s.uses.length < k) (hk : k ≤ 262144) (hn : s.idle = false → n < s.ins.length ∧ n < s.code.length)
  (L : Line l gw (r.length + 1) cc' (s0 :: r)) (hm : (fieldsV (shapeV op)).1 = (m : Int)) (hm3 : m ≤ 3) (hc1 : cc' ≠ 1) (him : (fieldsV (shapeV op)).2 = true) (hl : (r.length : Int) ≠ (m : Int) + 1) :
  Code.wp Tryz.prog tail10 (bodyPost Tryz.prog Tryz.f63 fun z w' => z = .returned (.int .i64 (s.regs n op r).2) ∧ ∃ h',RdM k w0 w' gr l h' (s.regs n op r).1) ⟨#[(.pointer (some ⟨gr,0,none⟩)),(.slice (some ⟨gw,0,none⟩) (r.length + 1) cc'),u2,u3,(.int .i64 0),(.int .i64 op),(.int .i64 0),(.int .i64 (n : Int)),u8,u9,u10,u11,u12,u13,u14,u15,u16,u17,u18,u19,u20,u21,u22,u23,u24,u25,u26,u27,u28,u29,u30,u31,u32,u33,u34,u35,u36,u37,u38,u39,u40,u41,u42,u43,u44,u45,u46,u47,u48,u49,u50,u51,u52,u53,u54,u55,u56,u57,u58,u59,u60,u61,u62,u63,u64,u65,u66,u67,u68,u69,u70,u71,u72,u73,u74,u75,u76,u77,u78,u79,u80,u81,u82,u83,u84,u85,u86,u87,u88,u89,u90,u91,u92,u93,u94,u95,u96,u97,u98,u99,u100,u101,u102,u103,u104,u105,u106,u107,u108,u109,u110,u111,u112,u113,u114,u115,u116,u117,u118,u119,u120,u121,u122,u123,u124,u125,u126,u127,u128,u129,u130,u131,u132,u133,u134,u135,u136,u137,u138,u139,u140,u141,u142,u143,u144,u145,u146,u147,u148,u149,u150,u151,u152,u153,u154,u155,u156,u157,u158,u159,u160,u161,u162,u163,u164,u165,u166,u167,u168,u169,u170,u171,u172,u173,u174,u175,u176,u177,u178,u179,u180,u181,u182,u183,u184,u185,u186,u187,u188,u189,u190,u191,u192,u193,u194,u195,u196,u197,u198,u199,u200,u201,u202,u203,u204,u205,u206,u207,u208,u209,u210,u211,u212,u213,u214,u215,u216,u217,u218,u219,u220,u221,u222,u223,u224,u225,u226,u227,u228,u229,u230,u231,u232,u233,u234,u235,u236,u237,u238,u239,u240,u241,u242],[]⟩ W:=by
 have SS:=Lib.hid S
 have HU:=Lib.hid hu
 have HN:=Lib.hid hn
 have HK:=Lib.hid hk
 have HL:=Lib.hid L
 have HM:=Lib.hid hm
 have HM3:=Lib.hid hm3
 have hcap : r.length + 1 ≤ cc':=L.cap
 have hcap2 : 1 ≤ cc':=by omega
 have HRF:=Lib.hid (show r.length < 262144 by have:=L.few; omega)
 obtain ⟨es,hes⟩:=shape_some op
 have HSH:=Lib.hid (fun W => word_Shape.calls op _ _ W hes)
 have hfl:=fields_some (shapeV op)
 rw [hm] at hfl
 have HFL:=Lib.hid (fun W => listing_fields.calls (shapeV op) _ _ W hfl)
 rw [regs_len (by rw [hm,him]; simpa using hl)]
 rw [him] at HFL
 obtain ⟨m1,hm1⟩ : ∃ x : Int,x = (m : Int) + 1:=⟨_,rfl⟩
 have wm : wrap64 ((m : Int) + 1) = m1:=by rw [hm1]; exact IntWalk.wrap64_in _ (by omega)
 rw [← hm1] at hl
 have b1 : ((r.length : Int) != m1) = true:=bne_iff_ne.mpr hl
 have M:=Aside0.mk M0
 clear M0 S hu hk hn L hm hes hfl hm3 him hl hm1 HM
 conv => arg 2; whnf
 go_wp2_with (first | (go_at_call 36; refine (HSH.out _).mono ?_; rintro e1 w1 ⟨rfl,hb1⟩; have M1:=Aside0.mk (M.out.call hb1); clear M hb1) | (go_at_call 37; refine (HFL.out _).mono ?_; rintro e2 w2 ⟨rfl,hd2⟩; have M2:=Aside0.mk (M1.out.call (below_d0 hd2)); clear M1 hd2))
 go_returns
 exact ⟨rfl,_,M2.out⟩
set_option maxHeartbeats 8000000 in
set_option maxRecDepth 100000 in
theorem regs_t0B {u2 u3 u8 u9 u10 u11 u12 u13 u14 u15 u16 u17 u18 u19 u20 u21 u22 u23 u24 u25 u26 u27 u28 u29 u30 u31 u32 u33 u34 u35 u36 u37 u38 u39 u40 u41 u42 u43 u44 u45 u46 u47 u48 u49 u50 u51 u52 u53 u54 u55 u56 u57 u58 u59 u60 u61 u62 u63 u64 u65 u66 u67 u68 u69 u70 u71 u72 u73 u74 u75 u76 u77 u78 u79 u80 u81 u82 u83 u84 u85 u86 u87 u88 u89 u90 u91 u92 u93 u94 u95 u96 u97 u98 u99 u100 u101 u102 u103 u104 u105 u106 u107 u108 u109 u110 u111 u112 u113 u114 u115 u116 u117 u118 u119 u120 u121 u122 u123 u124 u125 u126 u127 u128 u129 u130 u131 u132 u133 u134 u135 u136 u137 u138 u139 u140 u141 u142 u143 u144 u145 u146 u147 u148 u149 u150 u151 u152 u153 u154 u155 u156 u157 u158 u159 u160 u161 u162 u163 u164 u165 u166 u167 u168 u169 u170 u171 u172 u173 u174 u175 u176 u177 u178 u179 u180 u181 u182 u183 u184 u185 u186 u187 u188 u189 u190 u191 u192 u193 u194 u195 u196 u197 u198 u199 u200 u201 u202 u203 u204 u205 u206 u207 u208 u209 u210 u211 u212 u213 u214 u215 u216 u217 u218 u219 u220 u221 u222 u223 u224 u225 u226 u227 u228 u229 u230 u231 u232 u233 u234 u235 u236 u237 u238 u239 u240 u241 u242 : Value} (M0 : RdM k w0 W gr l h s) (S : Std w0) (hu : s.uses.length < k) (hk : k ≤ 262144) (hn : s.idle = false → n < s.ins.length ∧ n < s.code.length)
  (L : Line l gw (r.length + 1) cc' (s0 :: r)) (hm : (fieldsV (shapeV op)).1 = (m : Int)) (hm3 : m ≤ 3) (hc1 : cc' ≠ 1) (him : (fieldsV (shapeV op)).2 = false) (hl : (r.length : Int) = (m : Int)) (h70 : (Q.regsV [] 0 (bl (r.take m))).2 = 70) :
  Code.wp Tryz.prog tail10 (bodyPost Tryz.prog Tryz.f63 fun z w' => z = .returned (.int .i64 (s.regs n op r).2) ∧ ∃ h',RdM k w0 w' gr l h' (s.regs n op r).1) ⟨#[(.pointer (some ⟨gr,0,none⟩)),(.slice (some ⟨gw,0,none⟩) (r.length + 1) cc'),u2,u3,(.int .i64 0),(.int .i64 op),(.int .i64 0),(.int .i64 (n : Int)),u8,u9,u10,u11,u12,u13,u14,u15,u16,u17,u18,u19,u20,u21,u22,u23,u24,u25,u26,u27,u28,u29,u30,u31,u32,u33,u34,u35,u36,u37,u38,u39,u40,u41,u42,u43,u44,u45,u46,u47,u48,u49,u50,u51,u52,u53,u54,u55,u56,u57,u58,u59,u60,u61,u62,u63,u64,u65,u66,u67,u68,u69,u70,u71,u72,u73,u74,u75,u76,u77,u78,u79,u80,u81,u82,u83,u84,u85,u86,u87,u88,u89,u90,u91,u92,u93,u94,u95,u96,u97,u98,u99,u100,u101,u102,u103,u104,u105,u106,u107,u108,u109,u110,u111,u112,u113,u114,u115,u116,u117,u118,u119,u120,u121,u122,u123,u124,u125,u126,u127,u128,u129,u130,u131,u132,u133,u134,u135,u136,u137,u138,u139,u140,u141,u142,u143,u144,u145,u146,u147,u148,u149,u150,u151,u152,u153,u154,u155,u156,u157,u158,u159,u160,u161,u162,u163,u164,u165,u166,u167,u168,u169,u170,u171,u172,u173,u174,u175,u176,u177,u178,u179,u180,u181,u182,u183,u184,u185,u186,u187,u188,u189,u190,u191,u192,u193,u194,u195,u196,u197,u198,u199,u200,u201,u202,u203,u204,u205,u206,u207,u208,u209,u210,u211,u212,u213,u214,u215,u216,u217,u218,u219,u220,u221,u222,u223,u224,u225,u226,u227,u228,u229,u230,u231,u232,u233,u234,u235,u236,u237,u238,u239,u240,u241,u242],[]⟩ W:=by
 have SS:=Lib.hid S
 have HU:=Lib.hid hu
 have HN:=Lib.hid hn
 have HK:=Lib.hid hk
 have HL:=Lib.hid L
 have HM:=Lib.hid hm
 have HM3:=Lib.hid hm3
 have hcap : r.length + 1 ≤ cc':=L.cap
 have hcap2 : 1 ≤ cc':=by omega
 have HRF:=Lib.hid (show r.length < 262144 by have:=L.few; omega)
 obtain ⟨es,hes⟩:=shape_some op
 have HSH:=Lib.hid (fun W => word_Shape.calls op _ _ W hes)
 have hfl:=fields_some (shapeV op)
 rw [hm] at hfl
 have HFL:=Lib.hid (fun W => listing_fields.calls (shapeV op) _ _ W hfl)
 have HFW:=Lib.hid M0.few
 have HSY:=Lib.hid M0.says
 have HLN:=Lib.hid M0.len
 obtain ⟨q,hq⟩ : ∃ q,Q.regsV [] 0 (bl (r.take m)) = q:=⟨_,rfl⟩
 have HQ:=Lib.hid hq
 rw [regs_txt hm (by rw [him]; simpa using hl) h70]
 rw [hq] at h70
 have H70:=Lib.hid h70
 have b70 : (q.2 == 70) = true:=by rw [h70]; rfl
 rw [him] at HFL
 have HOW:=Lib.hid (show r ≠ [] → 1 = 1 from fun _ => rfl)
 have hmr : m ≤ r.length:=by omega
 have HMR:=Lib.hid hmr
 have hmc : m ≤ cc' - 1:=by omega
 have hmcI : (m : Int) ≤ ((cc' - 1 : Nat) : Int):=by omega
 have HMC:=Lib.hid hmc
 have b1 : ((r.length : Int) != (m : Int)) = false:=by rw [hl]; simp
 have M:=Aside0.mk M0
 clear M0 S hu hk hn L hm hes hfl hm3 him hl hq h70 HM
 conv => arg 2; whnf
 go_wp2_with (first | (go_at_call 36; refine (HSH.out _).mono ?_; rintro e1 w1 ⟨rfl,hb1⟩; have M1:=Aside0.mk (M.out.call hb1); clear M hb1) | (go_at_call 37; refine (HFL.out _).mono ?_; rintro e2 w2 ⟨rfl,hd2⟩; have M2:=Aside0.mk (M1.out.call (below_d0 hd2)); clear M1 hd2) | (go_at_call 94; have rr:=rregs' M2.out SS.out HL.out 1 m (cc' - 1) (fun _ => rfl) HMR.out HMC.out (line_lt M2.out HL.out); rw [HQ.out] at rr; refine rr.mono ?_; rintro e3 w3 ⟨A3,c3,rfl,MF⟩; have M3:=Aside0.mk MF; clear M2 MF rr))
 go_returns
 exact ⟨by show Ending.returned (.int .i64 q.2) = _; rw [H70.out],h,M3.out.rowsBy Mem.tail,HFW.out,HSY.out,HLN.out⟩
set_option maxHeartbeats 8000000 in
set_option maxRecDepth 100000 in
theorem regs_k0B {u2 u3 u8 u9 u10 u11 u12 u13 u14 u15 u16 u17 u18 u19 u20 u21 u22 u23 u24 u25 u26 u27 u28 u29 u30 u31 u32 u33 u34 u35 u36 u37 u38 u39 u40 u41 u42 u43 u44 u45 u46 u47 u48 u49 u50 u51 u52 u53 u54 u55 u56 u57 u58 u59 u60 u61 u62 u63 u64 u65 u66 u67 u68 u69 u70 u71 u72 u73 u74 u75 u76 u77 u78 u79 u80 u81 u82 u83 u84 u85 u86 u87 u88 u89 u90 u91 u92 u93 u94 u95 u96 u97 u98 u99 u100 u101 u102 u103 u104 u105 u106 u107 u108 u109 u110 u111 u112 u113 u114 u115 u116 u117 u118 u119 u120 u121 u122 u123 u124 u125 u126 u127 u128 u129 u130 u131 u132 u133 u134 u135 u136 u137 u138 u139 u140 u141 u142 u143 u144 u145 u146 u147 u148 u149 u150 u151 u152 u153 u154 u155 u156 u157 u158 u159 u160 u161 u162 u163 u164 u165 u166 u167 u168 u169 u170 u171 u172 u173 u174 u175 u176 u177 u178 u179 u180 u181 u182 u183 u184 u185 u186 u187 u188 u189 u190 u191 u192 u193 u194 u195 u196 u197 u198 u199 u200 u201 u202 u203 u204 u205 u206 u207 u208 u209 u210 u211 u212 u213 u214 u215 u216 u217 u218 u219 u220 u221 u222 u223 u224 u225 u226 u227 u228 u229 u230 u231 u232 u233 u234 u235 u236 u237 u238 u239 u240 u241 u242 : Value} (M0 : RdM k w0 W gr l h s) (S : Std w0) (hu : s.uses.length < k) (hk : k ≤ 262144) (hn : s.idle = false → n < s.ins.length ∧ n < s.code.length)
  (L : Line l gw (r.length + 1) cc' (s0 :: r)) (hm : (fieldsV (shapeV op)).1 = (m : Int)) (hm3 : m ≤ 3) (hc1 : cc' ≠ 1) (him : (fieldsV (shapeV op)).2 = false) (hl : (r.length : Int) = (m : Int)) (h70 : (Q.regsV [] 0 (bl (r.take m))).2 ≠ 70) :
  Code.wp Tryz.prog tail10 (bodyPost Tryz.prog Tryz.f63 fun z w' => z = .returned (.int .i64 (s.regs n op r).2) ∧ ∃ h',RdM k w0 w' gr l h' (s.regs n op r).1) ⟨#[(.pointer (some ⟨gr,0,none⟩)),(.slice (some ⟨gw,0,none⟩) (r.length + 1) cc'),u2,u3,(.int .i64 0),(.int .i64 op),(.int .i64 0),(.int .i64 (n : Int)),u8,u9,u10,u11,u12,u13,u14,u15,u16,u17,u18,u19,u20,u21,u22,u23,u24,u25,u26,u27,u28,u29,u30,u31,u32,u33,u34,u35,u36,u37,u38,u39,u40,u41,u42,u43,u44,u45,u46,u47,u48,u49,u50,u51,u52,u53,u54,u55,u56,u57,u58,u59,u60,u61,u62,u63,u64,u65,u66,u67,u68,u69,u70,u71,u72,u73,u74,u75,u76,u77,u78,u79,u80,u81,u82,u83,u84,u85,u86,u87,u88,u89,u90,u91,u92,u93,u94,u95,u96,u97,u98,u99,u100,u101,u102,u103,u104,u105,u106,u107,u108,u109,u110,u111,u112,u113,u114,u115,u116,u117,u118,u119,u120,u121,u122,u123,u124,u125,u126,u127,u128,u129,u130,u131,u132,u133,u134,u135,u136,u137,u138,u139,u140,u141,u142,u143,u144,u145,u146,u147,u148,u149,u150,u151,u152,u153,u154,u155,u156,u157,u158,u159,u160,u161,u162,u163,u164,u165,u166,u167,u168,u169,u170,u171,u172,u173,u174,u175,u176,u177,u178,u179,u180,u181,u182,u183,u184,u185,u186,u187,u188,u189,u190,u191,u192,u193,u194,u195,u196,u197,u198,u199,u200,u201,u202,u203,u204,u205,u206,u207,u208,u209,u210,u211,u212,u213,u214,u215,u216,u217,u218,u219,u220,u221,u222,u223,u224,u225,u226,u227,u228,u229,u230,u231,u232,u233,u234,u235,u236,u237,u238,u239,u240,u241,u242],[]⟩ W:=by
 have SS:=Lib.hid S
 have HU:=Lib.hid hu
 have HN:=Lib.hid hn
 have HK:=Lib.hid hk
 have HL:=Lib.hid L
 have HM:=Lib.hid hm
 have HM3:=Lib.hid hm3
 have hcap : r.length + 1 ≤ cc':=L.cap
 have hcap2 : 1 ≤ cc':=by omega
 have HRF:=Lib.hid (show r.length < 262144 by have:=L.few; omega)
 obtain ⟨es,hes⟩:=shape_some op
 have HSH:=Lib.hid (fun W => word_Shape.calls op _ _ W hes)
 have hfl:=fields_some (shapeV op)
 rw [hm] at hfl
 have HFL:=Lib.hid (fun W => listing_fields.calls (shapeV op) _ _ W hfl)
 have HFW:=Lib.hid M0.few
 have HSY:=Lib.hid M0.says
 have HLN:=Lib.hid M0.len
 obtain ⟨q,hq⟩ : ∃ q,Q.regsV [] 0 (bl (r.take m)) = q:=⟨_,rfl⟩
 have HQ:=Lib.hid hq
 have HCL:=Lib.hid (show r.length ≤ cc' - 1 by omega)
 have HIM:=Lib.hid him
 have HLIF:=Lib.hid (show ((r.length : Nat) : Int) = (m : Int) + (if (fieldsV (shapeV op)).2 then 1 else 0) by rw [him]; simpa using hl)
 rw [regs_ok hm (by rw [him]; simpa using hl) h70]
 rw [hq] at h70 ⊢
 have HQL:=Lib.hid (show q.1.length = m by rw [← hq]; have h1:=Q.regsV_len (bl (r.take m)) [] 0 (by rw [hq]; exact h70); rw [h1]; show 0 + ((r.take m).map _).length = _; rw [List.length_map,List.length_take]; omega)
 have b70 : (q.2 == 70) = false:=beq_eq_false_iff_ne.mpr h70
 rw [him] at HFL
 have HOW:=Lib.hid (show r ≠ [] → 1 = 1 from fun _ => rfl)
 have hmr : m ≤ r.length:=by omega
 have HMR:=Lib.hid hmr
 have hmc : m ≤ cc' - 1:=by omega
 have hmcI : (m : Int) ≤ ((cc' - 1 : Nat) : Int):=by omega
 have HMC:=Lib.hid hmc
 have b1 : ((r.length : Int) != (m : Int)) = false:=by rw [hl]; simp
 have M:=Aside0.mk M0
 clear M0 S hu hk hn L hm hes hfl hm3 him hl hq h70
 conv => arg 2; whnf
 go_wp2_with (first | (go_at_call 36; refine (HSH.out _).mono ?_; rintro e1 w1 ⟨rfl,hb1⟩; have M1:=Aside0.mk (M.out.call hb1); clear M hb1) | (go_at_call 37; refine (HFL.out _).mono ?_; rintro e2 w2 ⟨rfl,hd2⟩; have M2:=Aside0.mk (M1.out.call (below_d0 hd2)); clear M1 hd2) | (go_at_call 94; have rr:=rregs' M2.out SS.out HL.out 1 m (cc' - 1) (fun _ => rfl) HMR.out HMC.out (line_lt M2.out HL.out); rw [HQ.out] at rr; rw [HQL.out] at rr; refine rr.mono ?_; rintro e3 w3 ⟨A3,c3,rfl,MF⟩; have M3:=Aside0.mk MF; clear M2 MF rr) | ((with_reducible refine gate_dst (N:=14) rfl ?_); refine fBr M3 14 [.int .i64 0,.int .i64 0,.int .i64 0,.int .i64 0,.int .i64 0] 70 (by decide) (by decide) ?_; clear M3; intro g14 w4 M4) | ((with_reducible refine gate_store (t:=70) (p:=14) rfl ?_); refine fE M4 70 (.tmp 14) 0 0 (.agg #[.int .i64 op,.int .i64 0,.int .i64 0,.int .i64 0,.int .i64 0]) [.int .i64 op,.int .i64 0,.int .i64 0,.int .i64 0,.int .i64 0] [.int .i64 0,.int .i64 0,.int .i64 0,.int .i64 0,.int .i64 0] (by decide) rfl ?_ rfl (by intro q hq; simp at hq; rcases hq with rfl | rfl | rfl | rfl | rfl <;> rfl) (Nat.le_refl 5) rfl; clear M4; intro w5 M5))
 rename_i hK13
 have HF:=Lib.hid (show (fill op q.1 0 : List Value) = [.int .i64 op,.int .i64 0,.int .i64 0,.int .i64 0,.int .i64 0] from rfl)
 go_loopw [124] (fun v124 wr => ∃ i : Nat,i ≤ m ∧ v124 = .int .i64 (i : Int) ∧ MemF esR w0 wr ((gr,cellsR h s,55) :: l) (fxR h) (⟨Kd.raw 5,70,.slice (some ⟨g14,0,none⟩) 1 1,[fill op q.1 i]⟩ :: ⟨Kd.int .i64,3,.slice A3 m c3,q.1⟩ :: rowsR h s)) (fun v124 _ => m - (intOf v124).toNat)
 case atStart => exact ⟨0,Nat.zero_le _,rfl,by rw [HF.out]; exact M5.out⟩
 obtain ⟨i,hi,rfl,MF⟩:=hrel
 have M6:=Aside0.mk MF
 clear MF M5
 by_cases him : i < m
 ·obtain ⟨g3,rfl⟩ : ∃ g,A3 = some ⟨g,0,none⟩:=by
   rcases MemF.slice M6.out 1 rfl with ⟨c0,h1,h2⟩ | ⟨g,c0,h1,h2⟩
   ·have:=HQL.out; rw [h2] at this; simp at this; omega
   ·injection h1 with h1 _ _; exact ⟨g,h1⟩
  have hm3:=HM3.out
  rcases (show i = 0 ∨ i = 1 ∨ i = 2 by omega) with rfl | rfl | rfl
  ·have y:=M6.out.icell 1 rfl (i:=0) (x:=q.1.getD 0 0) (by rw [List.getD_eq_getElem?_getD]; exact (List.getElem?_eq_getElem (by rw [HQL.out]; omega)).trans (by rw [List.getElem?_eq_getElem (by rw [HQL.out]; omega)]; rfl)) (by omega)
   have q2 : ((0 : Nat) : Int) < (m : Int):=by omega
   go_wp2_with (first | ((with_reducible refine gate_store (t:=3) (p:=133) rfl ?_); refine fE M6 3 (.tmp 133) 0 1 (.int .i64 (q.1.getD 0 0)) [.int .i64 (q.1.getD 0 0)] (fill op q.1 0) (by decide) rfl ?_ rfl (by intro q hq; rw [List.mem_singleton] at hq; subst hq; rfl) (by show 1 + 1 ≤ 5; decide) rfl; clear M6; intro w7 M7))
   go_roundw
   case rel => exact ⟨1,by omega,rfl,by have h1:=M7.out; rw [fill1] at h1; exact h1⟩
   case measure => simp [intOf]; omega
  ·have y:=M6.out.icell 1 rfl (i:=1) (x:=q.1.getD 1 0) (by rw [List.getD_eq_getElem?_getD]; exact (List.getElem?_eq_getElem (by rw [HQL.out]; omega)).trans (by rw [List.getElem?_eq_getElem (by rw [HQL.out]; omega)]; rfl)) (by omega)
   have q2 : ((1 : Nat) : Int) < (m : Int):=by omega
   go_wp2_with (first | ((with_reducible refine gate_store (t:=3) (p:=137) rfl ?_); refine fE M6 3 (.tmp 137) 0 2 (.int .i64 (q.1.getD 1 0)) [.int .i64 (q.1.getD 1 0)] (fill op q.1 1) (by decide) rfl ?_ rfl (by intro q hq; rw [List.mem_singleton] at hq; subst hq; rfl) (by show 2 + 1 ≤ 5; decide) rfl; clear M6; intro w7 M7))
   go_roundw
   case rel => exact ⟨2,by omega,rfl,by have h1:=M7.out; rw [fill2] at h1; exact h1⟩
   case measure => simp [intOf]; omega
  ·have y:=M6.out.icell 1 rfl (i:=2) (x:=q.1.getD 2 0) (by rw [List.getD_eq_getElem?_getD]; exact (List.getElem?_eq_getElem (by rw [HQL.out]; omega)).trans (by rw [List.getElem?_eq_getElem (by rw [HQL.out]; omega)]; rfl)) (by omega)
   have q2 : ((2 : Nat) : Int) < (m : Int):=by omega
   go_wp2_with (first | ((with_reducible refine gate_store (t:=3) (p:=141) rfl ?_); refine fE M6 3 (.tmp 141) 0 3 (.int .i64 (q.1.getD 2 0)) [.int .i64 (q.1.getD 2 0)] (fill op q.1 2) (by decide) rfl ?_ rfl (by intro q hq; rw [List.mem_singleton] at hq; subst hq; rfl) (by show 3 + 1 ≤ 5; decide) rfl; clear M6; intro w7 M7))
   go_roundw
   case rel => exact ⟨3,by omega,rfl,by have h1:=M7.out; rw [fill3] at h1; exact h1⟩
   case measure => simp [intOf]; omega
 ·obtain rfl : m = i:=by omega
  have q2 : ¬ ((m : Nat) : Int) < ((m : Nat) : Int):=by omega
  have HFE:=Lib.hid (fill_end (op:=op) HQL.out (m:=m) HM3.out)
  have hfe:=HFE.out
  have M7:=Aside0.mk (show MemF esR w0 _ ((gr,cellsR h s,55) :: l) (fxR h) (⟨Kd.raw 5,70,.slice (some ⟨g14,0,none⟩) 1 1,[[.int .i64 op,.int .i64 ((abcOf q.1).getD 0 0),.int .i64 ((abcOf q.1).getD 1 0),.int .i64 ((abcOf q.1).getD 2 0),.int .i64 0]]⟩ :: rowsR h s) from by
   have h1:=M6.out
   rw [hfe] at h1
   exact (MemF.front h1 1 rfl).rowsBy Mem.tail)
  clear M6 hfe
  go_upto_if 125 with fail
  refine wp_cond_split rfl (fun h => ?_) (fun h => ?_)
  ·simp at h
  ·refine wp_exit ?_
   refine hK13 _ _ ?_
   exact ins_imm2 M7.out SS.out HFW.out HU.out HSY.out HLN.out HK.out HN.out HL.out HCL.out (fun _ => rfl) HM.out HLIF.out HIM.out
set_option maxHeartbeats 8000000 in
set_option maxRecDepth 100000 in
theorem regs_t1B {u2 u3 u8 u9 u10 u11 u12 u13 u14 u15 u16 u17 u18 u19 u20 u21 u22 u23 u24 u25 u26 u27 u28 u29 u30 u31 u32 u33 u34 u35 u36 u37 u38 u39 u40 u41 u42 u43 u44 u45 u46 u47 u48 u49 u50 u51 u52 u53 u54 u55 u56 u57 u58 u59 u60 u61 u62 u63 u64 u65 u66 u67 u68 u69 u70 u71 u72 u73 u74 u75 u76 u77 u78 u79 u80 u81 u82 u83 u84 u85 u86 u87 u88 u89 u90 u91 u92 u93 u94 u95 u96 u97 u98 u99 u100 u101 u102 u103 u104 u105 u106 u107 u108 u109 u110 u111 u112 u113 u114 u115 u116 u117 u118 u119 u120 u121 u122 u123 u124 u125 u126 u127 u128 u129 u130 u131 u132 u133 u134 u135 u136 u137 u138 u139 u140 u141 u142 u143 u144 u145 u146 u147 u148 u149 u150 u151 u152 u153 u154 u155 u156 u157 u158 u159 u160 u161 u162 u163 u164 u165 u166 u167 u168 u169 u170 u171 u172 u173 u174 u175 u176 u177 u178 u179 u180 u181 u182 u183 u184 u185 u186 u187 u188 u189 u190 u191 u192 u193 u194 u195 u196 u197 u198 u199 u200 u201 u202 u203 u204 u205 u206 u207 u208 u209 u210 u211 u212 u213 u214 u215 u216 u217 u218 u219 u220 u221 u222 u223 u224 u225 u226 u227 u228 u229 u230 u231 u232 u233 u234 u235 u236 u237 u238 u239 u240 u241 u242 : Value} (M0 : RdM k w0 W gr l h s) (S : Std w0) (hu : s.uses.length < k) (hk : k ≤ 262144) (hn : s.idle = false → n < s.ins.length ∧ n < s.code.length)
  (L : Line l gw (r.length + 1) cc' (s0 :: r)) (hm : (fieldsV (shapeV op)).1 = (m : Int)) (hm3 : m ≤ 3) (hc1 : cc' ≠ 1) (him : (fieldsV (shapeV op)).2 = true) (hl : (r.length : Int) = (m : Int) + 1) (h70 : (Q.regsV [] 0 (bl (r.take m))).2 = 70) :
  Code.wp Tryz.prog tail10 (bodyPost Tryz.prog Tryz.f63 fun z w' => z = .returned (.int .i64 (s.regs n op r).2) ∧ ∃ h',RdM k w0 w' gr l h' (s.regs n op r).1) ⟨#[(.pointer (some ⟨gr,0,none⟩)),(.slice (some ⟨gw,0,none⟩) (r.length + 1) cc'),u2,u3,(.int .i64 0),(.int .i64 op),(.int .i64 0),(.int .i64 (n : Int)),u8,u9,u10,u11,u12,u13,u14,u15,u16,u17,u18,u19,u20,u21,u22,u23,u24,u25,u26,u27,u28,u29,u30,u31,u32,u33,u34,u35,u36,u37,u38,u39,u40,u41,u42,u43,u44,u45,u46,u47,u48,u49,u50,u51,u52,u53,u54,u55,u56,u57,u58,u59,u60,u61,u62,u63,u64,u65,u66,u67,u68,u69,u70,u71,u72,u73,u74,u75,u76,u77,u78,u79,u80,u81,u82,u83,u84,u85,u86,u87,u88,u89,u90,u91,u92,u93,u94,u95,u96,u97,u98,u99,u100,u101,u102,u103,u104,u105,u106,u107,u108,u109,u110,u111,u112,u113,u114,u115,u116,u117,u118,u119,u120,u121,u122,u123,u124,u125,u126,u127,u128,u129,u130,u131,u132,u133,u134,u135,u136,u137,u138,u139,u140,u141,u142,u143,u144,u145,u146,u147,u148,u149,u150,u151,u152,u153,u154,u155,u156,u157,u158,u159,u160,u161,u162,u163,u164,u165,u166,u167,u168,u169,u170,u171,u172,u173,u174,u175,u176,u177,u178,u179,u180,u181,u182,u183,u184,u185,u186,u187,u188,u189,u190,u191,u192,u193,u194,u195,u196,u197,u198,u199,u200,u201,u202,u203,u204,u205,u206,u207,u208,u209,u210,u211,u212,u213,u214,u215,u216,u217,u218,u219,u220,u221,u222,u223,u224,u225,u226,u227,u228,u229,u230,u231,u232,u233,u234,u235,u236,u237,u238,u239,u240,u241,u242],[]⟩ W:=by
 have SS:=Lib.hid S
 have HU:=Lib.hid hu
 have HN:=Lib.hid hn
 have HK:=Lib.hid hk
 have HL:=Lib.hid L
 have HM:=Lib.hid hm
 have HM3:=Lib.hid hm3
 have hcap : r.length + 1 ≤ cc':=L.cap
 have hcap2 : 1 ≤ cc':=by omega
 have HRF:=Lib.hid (show r.length < 262144 by have:=L.few; omega)
 obtain ⟨es,hes⟩:=shape_some op
 have HSH:=Lib.hid (fun W => word_Shape.calls op _ _ W hes)
 have hfl:=fields_some (shapeV op)
 rw [hm] at hfl
 have HFL:=Lib.hid (fun W => listing_fields.calls (shapeV op) _ _ W hfl)
 have HFW:=Lib.hid M0.few
 have HSY:=Lib.hid M0.says
 have HLN:=Lib.hid M0.len
 obtain ⟨q,hq⟩ : ∃ q,Q.regsV [] 0 (bl (r.take m)) = q:=⟨_,rfl⟩
 have HQ:=Lib.hid hq
 rw [regs_txt hm (by rw [him]; simpa using hl) h70]
 rw [hq] at h70
 have H70:=Lib.hid h70
 have b70 : (q.2 == 70) = true:=by rw [h70]; rfl
 rw [him] at HFL
 have HOW:=Lib.hid (show r ≠ [] → 1 = 1 from fun _ => rfl)
 have hmr : m ≤ r.length:=by omega
 have HMR:=Lib.hid hmr
 have hmc : m ≤ cc' - 1:=by omega
 have hmcI : (m : Int) ≤ ((cc' - 1 : Nat) : Int):=by omega
 have HMC:=Lib.hid hmc
 obtain ⟨m1,hm1⟩ : ∃ x : Int,x = (m : Int) + 1:=⟨_,rfl⟩
 have wm : wrap64 ((m : Int) + 1) = m1:=by rw [hm1]; exact IntWalk.wrap64_in _ (by omega)
 have hl1:=hl
 rw [← hm1] at hl1
 have b1 : ((r.length : Int) != m1) = false:=by rw [hl1]; simp
 have M:=Aside0.mk M0
 clear M0 S hu hk hn L hm hes hfl hm3 him hl hq hm1 hl1 h70 HM
 conv => arg 2; whnf
 go_wp2_with (first | (go_at_call 36; refine (HSH.out _).mono ?_; rintro e1 w1 ⟨rfl,hb1⟩; have M1:=Aside0.mk (M.out.call hb1); clear M hb1) | (go_at_call 37; refine (HFL.out _).mono ?_; rintro e2 w2 ⟨rfl,hd2⟩; have M2:=Aside0.mk (M1.out.call (below_d0 hd2)); clear M1 hd2) | (go_at_call 94; have rr:=rregs' M2.out SS.out HL.out 1 m (cc' - 1) (fun _ => rfl) HMR.out HMC.out (line_lt M2.out HL.out); rw [HQ.out] at rr; refine rr.mono ?_; rintro e3 w3 ⟨A3,c3,rfl,MF⟩; have M3:=Aside0.mk MF; clear M2 MF rr))
 go_returns
 exact ⟨by show Ending.returned (.int .i64 q.2) = _; rw [H70.out],h,M3.out.rowsBy Mem.tail,HFW.out,HSY.out,HLN.out⟩
set_option maxHeartbeats 8000000 in
set_option maxRecDepth 100000 in
theorem regs_k1B {u2 u3 u8 u9 u10 u11 u12 u13 u14 u15 u16 u17 u18 u19 u20 u21 u22 u23 u24 u25 u26 u27 u28 u29 u30 u31 u32 u33 u34 u35 u36 u37 u38 u39 u40 u41 u42 u43 u44 u45 u46 u47 u48 u49 u50 u51 u52 u53 u54 u55 u56 u57 u58 u59 u60 u61 u62 u63 u64 u65 u66 u67 u68 u69 u70 u71 u72 u73 u74 u75 u76 u77 u78 u79 u80 u81 u82 u83 u84 u85 u86 u87 u88 u89 u90 u91 u92 u93 u94 u95 u96 u97 u98 u99 u100 u101 u102 u103 u104 u105 u106 u107 u108 u109 u110 u111 u112 u113 u114 u115 u116 u117 u118 u119 u120 u121 u122 u123 u124 u125 u126 u127 u128 u129 u130 u131 u132 u133 u134 u135 u136 u137 u138 u139 u140 u141 u142 u143 u144 u145 u146 u147 u148 u149 u150 u151 u152 u153 u154 u155 u156 u157 u158 u159 u160 u161 u162 u163 u164 u165 u166 u167 u168 u169 u170 u171 u172 u173 u174 u175 u176 u177 u178 u179 u180 u181 u182 u183 u184 u185 u186 u187 u188 u189 u190 u191 u192 u193 u194 u195 u196 u197 u198 u199 u200 u201 u202 u203 u204 u205 u206 u207 u208 u209 u210 u211 u212 u213 u214 u215 u216 u217 u218 u219 u220 u221 u222 u223 u224 u225 u226 u227 u228 u229 u230 u231 u232 u233 u234 u235 u236 u237 u238 u239 u240 u241 u242 : Value} (M0 : RdM k w0 W gr l h s) (S : Std w0) (hu : s.uses.length < k) (hk : k ≤ 262144) (hn : s.idle = false → n < s.ins.length ∧ n < s.code.length)
  (L : Line l gw (r.length + 1) cc' (s0 :: r)) (hm : (fieldsV (shapeV op)).1 = (m : Int)) (hm3 : m ≤ 3) (hc1 : cc' ≠ 1) (him : (fieldsV (shapeV op)).2 = true) (hl : (r.length : Int) = (m : Int) + 1) (h70 : (Q.regsV [] 0 (bl (r.take m))).2 ≠ 70) :
  Code.wp Tryz.prog tail10 (bodyPost Tryz.prog Tryz.f63 fun z w' => z = .returned (.int .i64 (s.regs n op r).2) ∧ ∃ h',RdM k w0 w' gr l h' (s.regs n op r).1) ⟨#[(.pointer (some ⟨gr,0,none⟩)),(.slice (some ⟨gw,0,none⟩) (r.length + 1) cc'),u2,u3,(.int .i64 0),(.int .i64 op),(.int .i64 0),(.int .i64 (n : Int)),u8,u9,u10,u11,u12,u13,u14,u15,u16,u17,u18,u19,u20,u21,u22,u23,u24,u25,u26,u27,u28,u29,u30,u31,u32,u33,u34,u35,u36,u37,u38,u39,u40,u41,u42,u43,u44,u45,u46,u47,u48,u49,u50,u51,u52,u53,u54,u55,u56,u57,u58,u59,u60,u61,u62,u63,u64,u65,u66,u67,u68,u69,u70,u71,u72,u73,u74,u75,u76,u77,u78,u79,u80,u81,u82,u83,u84,u85,u86,u87,u88,u89,u90,u91,u92,u93,u94,u95,u96,u97,u98,u99,u100,u101,u102,u103,u104,u105,u106,u107,u108,u109,u110,u111,u112,u113,u114,u115,u116,u117,u118,u119,u120,u121,u122,u123,u124,u125,u126,u127,u128,u129,u130,u131,u132,u133,u134,u135,u136,u137,u138,u139,u140,u141,u142,u143,u144,u145,u146,u147,u148,u149,u150,u151,u152,u153,u154,u155,u156,u157,u158,u159,u160,u161,u162,u163,u164,u165,u166,u167,u168,u169,u170,u171,u172,u173,u174,u175,u176,u177,u178,u179,u180,u181,u182,u183,u184,u185,u186,u187,u188,u189,u190,u191,u192,u193,u194,u195,u196,u197,u198,u199,u200,u201,u202,u203,u204,u205,u206,u207,u208,u209,u210,u211,u212,u213,u214,u215,u216,u217,u218,u219,u220,u221,u222,u223,u224,u225,u226,u227,u228,u229,u230,u231,u232,u233,u234,u235,u236,u237,u238,u239,u240,u241,u242],[]⟩ W:=by
 have SS:=Lib.hid S
 have HU:=Lib.hid hu
 have HN:=Lib.hid hn
 have HK:=Lib.hid hk
 have HL:=Lib.hid L
 have HM:=Lib.hid hm
 have HM3:=Lib.hid hm3
 have hcap : r.length + 1 ≤ cc':=L.cap
 have hcap2 : 1 ≤ cc':=by omega
 have HRF:=Lib.hid (show r.length < 262144 by have:=L.few; omega)
 obtain ⟨es,hes⟩:=shape_some op
 have HSH:=Lib.hid (fun W => word_Shape.calls op _ _ W hes)
 have hfl:=fields_some (shapeV op)
 rw [hm] at hfl
 have HFL:=Lib.hid (fun W => listing_fields.calls (shapeV op) _ _ W hfl)
 have HFW:=Lib.hid M0.few
 have HSY:=Lib.hid M0.says
 have HLN:=Lib.hid M0.len
 obtain ⟨q,hq⟩ : ∃ q,Q.regsV [] 0 (bl (r.take m)) = q:=⟨_,rfl⟩
 have HQ:=Lib.hid hq
 have HCL:=Lib.hid (show r.length ≤ cc' - 1 by omega)
 have HIM:=Lib.hid him
 have HLIF:=Lib.hid (show ((r.length : Nat) : Int) = (m : Int) + (if (fieldsV (shapeV op)).2 then 1 else 0) by rw [him]; simpa using hl)
 rw [regs_ok hm (by rw [him]; simpa using hl) h70]
 rw [hq] at h70 ⊢
 have HQL:=Lib.hid (show q.1.length = m by rw [← hq]; have h1:=Q.regsV_len (bl (r.take m)) [] 0 (by rw [hq]; exact h70); rw [h1]; show 0 + ((r.take m).map _).length = _; rw [List.length_map,List.length_take]; omega)
 have b70 : (q.2 == 70) = false:=beq_eq_false_iff_ne.mpr h70
 rw [him] at HFL
 have HOW:=Lib.hid (show r ≠ [] → 1 = 1 from fun _ => rfl)
 have hmr : m ≤ r.length:=by omega
 have HMR:=Lib.hid hmr
 have hmc : m ≤ cc' - 1:=by omega
 have hmcI : (m : Int) ≤ ((cc' - 1 : Nat) : Int):=by omega
 have HMC:=Lib.hid hmc
 obtain ⟨m1,hm1⟩ : ∃ x : Int,x = (m : Int) + 1:=⟨_,rfl⟩
 have wm : wrap64 ((m : Int) + 1) = m1:=by rw [hm1]; exact IntWalk.wrap64_in _ (by omega)
 have hl1:=hl
 rw [← hm1] at hl1
 have b1 : ((r.length : Int) != m1) = false:=by rw [hl1]; simp
 have M:=Aside0.mk M0
 clear M0 S hu hk hn L hm hes hfl hm3 him hl hq hm1 hl1 h70
 conv => arg 2; whnf
 go_wp2_with (first | (go_at_call 36; refine (HSH.out _).mono ?_; rintro e1 w1 ⟨rfl,hb1⟩; have M1:=Aside0.mk (M.out.call hb1); clear M hb1) | (go_at_call 37; refine (HFL.out _).mono ?_; rintro e2 w2 ⟨rfl,hd2⟩; have M2:=Aside0.mk (M1.out.call (below_d0 hd2)); clear M1 hd2) | (go_at_call 94; have rr:=rregs' M2.out SS.out HL.out 1 m (cc' - 1) (fun _ => rfl) HMR.out HMC.out (line_lt M2.out HL.out); rw [HQ.out] at rr; rw [HQL.out] at rr; refine rr.mono ?_; rintro e3 w3 ⟨A3,c3,rfl,MF⟩; have M3:=Aside0.mk MF; clear M2 MF rr) | ((with_reducible refine gate_dst (N:=14) rfl ?_); refine fBr M3 14 [.int .i64 0,.int .i64 0,.int .i64 0,.int .i64 0,.int .i64 0] 70 (by decide) (by decide) ?_; clear M3; intro g14 w4 M4) | ((with_reducible refine gate_store (t:=70) (p:=14) rfl ?_); refine fE M4 70 (.tmp 14) 0 0 (.agg #[.int .i64 op,.int .i64 0,.int .i64 0,.int .i64 0,.int .i64 0]) [.int .i64 op,.int .i64 0,.int .i64 0,.int .i64 0,.int .i64 0] [.int .i64 0,.int .i64 0,.int .i64 0,.int .i64 0,.int .i64 0] (by decide) rfl ?_ rfl (by intro q hq; simp at hq; rcases hq with rfl | rfl | rfl | rfl | rfl <;> rfl) (Nat.le_refl 5) rfl; clear M4; intro w5 M5))
 rename_i hK13
 have HF:=Lib.hid (show (fill op q.1 0 : List Value) = [.int .i64 op,.int .i64 0,.int .i64 0,.int .i64 0,.int .i64 0] from rfl)
 go_loopw [124] (fun v124 wr => ∃ i : Nat,i ≤ m ∧ v124 = .int .i64 (i : Int) ∧ MemF esR w0 wr ((gr,cellsR h s,55) :: l) (fxR h) (⟨Kd.raw 5,70,.slice (some ⟨g14,0,none⟩) 1 1,[fill op q.1 i]⟩ :: ⟨Kd.int .i64,3,.slice A3 m c3,q.1⟩ :: rowsR h s)) (fun v124 _ => m - (intOf v124).toNat)
 case atStart => exact ⟨0,Nat.zero_le _,rfl,by rw [HF.out]; exact M5.out⟩
 obtain ⟨i,hi,rfl,MF⟩:=hrel
 have M6:=Aside0.mk MF
 clear MF M5
 by_cases him : i < m
 ·obtain ⟨g3,rfl⟩ : ∃ g,A3 = some ⟨g,0,none⟩:=by
   rcases MemF.slice M6.out 1 rfl with ⟨c0,h1,h2⟩ | ⟨g,c0,h1,h2⟩
   ·have:=HQL.out; rw [h2] at this; simp at this; omega
   ·injection h1 with h1 _ _; exact ⟨g,h1⟩
  have hm3:=HM3.out
  rcases (show i = 0 ∨ i = 1 ∨ i = 2 by omega) with rfl | rfl | rfl
  ·have y:=M6.out.icell 1 rfl (i:=0) (x:=q.1.getD 0 0) (by rw [List.getD_eq_getElem?_getD]; exact (List.getElem?_eq_getElem (by rw [HQL.out]; omega)).trans (by rw [List.getElem?_eq_getElem (by rw [HQL.out]; omega)]; rfl)) (by omega)
   have q2 : ((0 : Nat) : Int) < (m : Int):=by omega
   go_wp2_with (first | ((with_reducible refine gate_store (t:=3) (p:=133) rfl ?_); refine fE M6 3 (.tmp 133) 0 1 (.int .i64 (q.1.getD 0 0)) [.int .i64 (q.1.getD 0 0)] (fill op q.1 0) (by decide) rfl ?_ rfl (by intro q hq; rw [List.mem_singleton] at hq; subst hq; rfl) (by show 1 + 1 ≤ 5; decide) rfl; clear M6; intro w7 M7))
   go_roundw
   case rel => exact ⟨1,by omega,rfl,by have h1:=M7.out; rw [fill1] at h1; exact h1⟩
   case measure => simp [intOf]; omega
  ·have y:=M6.out.icell 1 rfl (i:=1) (x:=q.1.getD 1 0) (by rw [List.getD_eq_getElem?_getD]; exact (List.getElem?_eq_getElem (by rw [HQL.out]; omega)).trans (by rw [List.getElem?_eq_getElem (by rw [HQL.out]; omega)]; rfl)) (by omega)
   have q2 : ((1 : Nat) : Int) < (m : Int):=by omega
   go_wp2_with (first | ((with_reducible refine gate_store (t:=3) (p:=137) rfl ?_); refine fE M6 3 (.tmp 137) 0 2 (.int .i64 (q.1.getD 1 0)) [.int .i64 (q.1.getD 1 0)] (fill op q.1 1) (by decide) rfl ?_ rfl (by intro q hq; rw [List.mem_singleton] at hq; subst hq; rfl) (by show 2 + 1 ≤ 5; decide) rfl; clear M6; intro w7 M7))
   go_roundw
   case rel => exact ⟨2,by omega,rfl,by have h1:=M7.out; rw [fill2] at h1; exact h1⟩
   case measure => simp [intOf]; omega
  ·have y:=M6.out.icell 1 rfl (i:=2) (x:=q.1.getD 2 0) (by rw [List.getD_eq_getElem?_getD]; exact (List.getElem?_eq_getElem (by rw [HQL.out]; omega)).trans (by rw [List.getElem?_eq_getElem (by rw [HQL.out]; omega)]; rfl)) (by omega)
   have q2 : ((2 : Nat) : Int) < (m : Int):=by omega
   go_wp2_with (first | ((with_reducible refine gate_store (t:=3) (p:=141) rfl ?_); refine fE M6 3 (.tmp 141) 0 3 (.int .i64 (q.1.getD 2 0)) [.int .i64 (q.1.getD 2 0)] (fill op q.1 2) (by decide) rfl ?_ rfl (by intro q hq; rw [List.mem_singleton] at hq; subst hq; rfl) (by show 3 + 1 ≤ 5; decide) rfl; clear M6; intro w7 M7))
   go_roundw
   case rel => exact ⟨3,by omega,rfl,by have h1:=M7.out; rw [fill3] at h1; exact h1⟩
   case measure => simp [intOf]; omega
 ·obtain rfl : m = i:=by omega
  have q2 : ¬ ((m : Nat) : Int) < ((m : Nat) : Int):=by omega
  have HFE:=Lib.hid (fill_end (op:=op) HQL.out (m:=m) HM3.out)
  have hfe:=HFE.out
  have M7:=Aside0.mk (show MemF esR w0 _ ((gr,cellsR h s,55) :: l) (fxR h) (⟨Kd.raw 5,70,.slice (some ⟨g14,0,none⟩) 1 1,[[.int .i64 op,.int .i64 ((abcOf q.1).getD 0 0),.int .i64 ((abcOf q.1).getD 1 0),.int .i64 ((abcOf q.1).getD 2 0),.int .i64 0]]⟩ :: rowsR h s) from by
   have h1:=M6.out
   rw [hfe] at h1
   exact (MemF.front h1 1 rfl).rowsBy Mem.tail)
  clear M6 hfe
  go_upto_if 125 with fail
  refine wp_cond_split rfl (fun h => ?_) (fun h => ?_)
  ·simp at h
  ·refine wp_exit ?_
   refine hK13 _ _ ?_
   exact ins_imm2 M7.out SS.out HFW.out HU.out HSY.out HLN.out HK.out HN.out HL.out HCL.out (fun _ => rfl) HM.out HLIF.out HIM.out
theorem ins_regs {u2 u3 u8 u9 u10 u11 u12 u13 u14 u15 u16 u17 u18 u19 u20 u21 u22 u23 u24 u25 u26 u27 u28 u29 u30 u31 u32 u33 u34 u35 u36 u37 u38 u39 u40 u41 u42 u43 u44 u45 u46 u47 u48 u49 u50 u51 u52 u53 u54 u55 u56 u57 u58 u59 u60 u61 u62 u63 u64 u65 u66 u67 u68 u69 u70 u71 u72 u73 u74 u75 u76 u77 u78 u79 u80 u81 u82 u83 u84 u85 u86 u87 u88 u89 u90 u91 u92 u93 u94 u95 u96 u97 u98 u99 u100 u101 u102 u103 u104 u105 u106 u107 u108 u109 u110 u111 u112 u113 u114 u115 u116 u117 u118 u119 u120 u121 u122 u123 u124 u125 u126 u127 u128 u129 u130 u131 u132 u133 u134 u135 u136 u137 u138 u139 u140 u141 u142 u143 u144 u145 u146 u147 u148 u149 u150 u151 u152 u153 u154 u155 u156 u157 u158 u159 u160 u161 u162 u163 u164 u165 u166 u167 u168 u169 u170 u171 u172 u173 u174 u175 u176 u177 u178 u179 u180 u181 u182 u183 u184 u185 u186 u187 u188 u189 u190 u191 u192 u193 u194 u195 u196 u197 u198 u199 u200 u201 u202 u203 u204 u205 u206 u207 u208 u209 u210 u211 u212 u213 u214 u215 u216 u217 u218 u219 u220 u221 u222 u223 u224 u225 u226 u227 u228 u229 u230 u231 u232 u233 u234 u235 u236 u237 u238 u239 u240 u241 u242 : Value} (M0 : RdM k w0 W gr l h s) (S : Std w0) (hu : s.uses.length < k) (hk : k ≤ 262144) (hn : s.idle = false → n < s.ins.length ∧ n < s.code.length)
  (L : Line l gw (r.length + 1) cc' (s0 :: r)) :
  Code.wp Tryz.prog tail10 (bodyPost Tryz.prog Tryz.f63 fun z w' => z = .returned (.int .i64 (s.regs n op r).2) ∧ ∃ h',RdM k w0 w' gr l h' (s.regs n op r).1) ⟨#[(.pointer (some ⟨gr,0,none⟩)),(.slice (some ⟨gw,0,none⟩) (r.length + 1) cc'),u2,u3,(.int .i64 0),(.int .i64 op),(.int .i64 0),(.int .i64 (n : Int)),u8,u9,u10,u11,u12,u13,u14,u15,u16,u17,u18,u19,u20,u21,u22,u23,u24,u25,u26,u27,u28,u29,u30,u31,u32,u33,u34,u35,u36,u37,u38,u39,u40,u41,u42,u43,u44,u45,u46,u47,u48,u49,u50,u51,u52,u53,u54,u55,u56,u57,u58,u59,u60,u61,u62,u63,u64,u65,u66,u67,u68,u69,u70,u71,u72,u73,u74,u75,u76,u77,u78,u79,u80,u81,u82,u83,u84,u85,u86,u87,u88,u89,u90,u91,u92,u93,u94,u95,u96,u97,u98,u99,u100,u101,u102,u103,u104,u105,u106,u107,u108,u109,u110,u111,u112,u113,u114,u115,u116,u117,u118,u119,u120,u121,u122,u123,u124,u125,u126,u127,u128,u129,u130,u131,u132,u133,u134,u135,u136,u137,u138,u139,u140,u141,u142,u143,u144,u145,u146,u147,u148,u149,u150,u151,u152,u153,u154,u155,u156,u157,u158,u159,u160,u161,u162,u163,u164,u165,u166,u167,u168,u169,u170,u171,u172,u173,u174,u175,u176,u177,u178,u179,u180,u181,u182,u183,u184,u185,u186,u187,u188,u189,u190,u191,u192,u193,u194,u195,u196,u197,u198,u199,u200,u201,u202,u203,u204,u205,u206,u207,u208,u209,u210,u211,u212,u213,u214,u215,u216,u217,u218,u219,u220,u221,u222,u223,u224,u225,u226,u227,u228,u229,u230,u231,u232,u233,u234,u235,u236,u237,u238,u239,u240,u241,u242],[]⟩ W:=by
 obtain ⟨m,hm,hm3⟩:=fieldsV_bound (shapeV op)
 by_cases hc1 : cc' = 1
 ·subst hc1
  obtain rfl : r = []:=by have:=L.cap; exact List.length_eq_zero_iff.1 (by omega)
  rcases Bool.eq_false_or_eq_true (fieldsV (shapeV op)).2 with him | him
  case inl => exact regs_l1A M0 S hu hk hn L hm hm3 him (by omega)
  case inr =>
   by_cases hl : (0 : Int) = (m : Int)
   ·by_cases h70 : (Q.regsV [] 0 (bl (([] : List ByteArray).take m))).2 = 70
    ·exact regs_t0A M0 S hu hk hn L hm hm3 him hl h70
    ·exact regs_k0A M0 S hu hk hn L hm hm3 him hl h70
   ·exact regs_l0A M0 S hu hk hn L hm hm3 him hl
 ·rcases Bool.eq_false_or_eq_true (fieldsV (shapeV op)).2 with him | him
  case inl =>
   by_cases hl : (r.length : Int) = (m : Int) + 1
   ·by_cases h70 : (Q.regsV [] 0 (bl (r.take m))).2 = 70
    ·exact regs_t1B M0 S hu hk hn L hm hm3 hc1 him hl h70
    ·exact regs_k1B M0 S hu hk hn L hm hm3 hc1 him hl h70
   ·exact regs_l1B M0 S hu hk hn L hm hm3 hc1 him hl
  case inr =>
   by_cases hl : (r.length : Int) = (m : Int)
   ·by_cases h70 : (Q.regsV [] 0 (bl (r.take m))).2 = 70
    ·exact regs_t0B M0 S hu hk hn L hm hm3 hc1 him hl h70
    ·exact regs_k0B M0 S hu hk hn L hm hm3 hc1 him hl h70
   ·exact regs_l0B M0 S hu hk hn L hm hm3 hc1 him hl
end
end Go.Proofs.YtdbpglhdicmhhaaGreatDoor.Hof
end
