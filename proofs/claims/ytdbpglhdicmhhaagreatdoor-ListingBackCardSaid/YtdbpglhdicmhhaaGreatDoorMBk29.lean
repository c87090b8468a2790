import Derived.Test.YtdbpglhdicmhhaaGreatDoorMBk28
import Derived.Deep.Cut
set_option linter.unusedVariables false
set_option linter.unusedSimpArgs false
section
namespace Go.Proofs.YtdbpglhdicmhhaaGreatDoor.Hof
open Go.RowKit Go.Shelf Go.Proofs.YtdbpglhdicmhhaaGreatDoorW.PrintWords Go.Proofs.YtdbpglhdicmhhaaGreatDoorW.PrintLast Go.Proofs.YtdbpglhdicmhhaaGreatDoorW.PrintMore Hctx
open Go.Proofs.YtdbpglhdicmhhaaGreatDoor.GA
noncomputable def tail30 : Code:=(List.range 13).foldl (fun c _ => seqR c) (Tryz.f63.body.getD .skip)
theorem imm_none {s : St} {n : Nat} {op e : Int} {abc : List Int} {rest : List ByteArray} (h : (fieldsV (shapeV op)).2 = false) : s.imm n op e abc rest = s.fin n e (op :: abc ++ [0]):=if_pos h
theorem getD_of {rest : List ByteArray} {m : Nat} {u : ByteArray} (h : rest[m]? = some u) : rest.getD m ByteArray.empty = u:=by rw [List.getD_eq_getElem?_getD,h]; rfl
section
variable {s : St} {n m : Nat} {op e z : Int} {abc : List Int} {rest : List ByteArray} {u : ByteArray} (h : (fieldsV (shapeV op)).2 = true) (hm : (fieldsV (shapeV op)).1 = (m : Int)) (hu : rest[m]? = some u)
include h hm hu
theorem imm_name (hnv : Q.numV u.data.toList = (z,false)) (hr : refersV op = true) (hn : Q.nameB u.data.toList = true) : s.imm n op e abc rest = St.fin { s with uses:=s.uses ++ [([(n : Int),(s.funcs.length : Int),s.now,op],u)] } n e (op :: abc ++ [0]):=by
 unfold St.imm
 rw [if_neg (by rw [h]; simp),hm,Int.toNat_natCast]
 simp only [getD_of hu,hnv,hr,hn]
 rfl
theorem imm_text (hnv : Q.numV u.data.toList = (z,false)) (hr : (refersV op && Q.nameB u.data.toList) = false) : s.imm n op e abc rest = (s,70):=by
 unfold St.imm
 rw [if_neg (by rw [h]; simp),hm,Int.toNat_natCast]
 simp only [getD_of hu,hnv,hr]
 rfl
theorem imm_num (hnv : Q.numV u.data.toList = (z,true)) : s.imm n op e abc rest = s.fin n (if outOf (shapeV op) z then 73 else e) (op :: abc ++ [z]):=by
 unfold St.imm
 rw [if_neg (by rw [h]; simp),hm,Int.toNat_natCast]
 simp only [getD_of hu,hnv]
 rfl
end
theorem num_zero {l : List UInt8} {z : Int} (h : Q.numV l = (z,false)) : z = 0:=by
 unfold Q.numV at h
 split at h
 ·simp at h
 ·injection h with h1 _; exact h1.symm
theorem Few.use {k : Nat} {s : St} (h : Few k s) (hu : s.uses.length < k) (x : List Int × ByteArray) : Few k { s with uses:=s.uses ++ [x] } :=
 ⟨h.code,h.funcs,h.tabs,h.ins,h.opn,by show (s.uses ++ [x]).length ≤ k; rw [List.length_append]; exact hu,h.cs⟩
theorem uses_rows {es : List TypeId} {w0 W : World} {l : List (Nat × Array Value × TypeId)} {fx : List (Nat × Obj)} {vc vf vt vi vo vu v5 : Value} {gf gt gl : Nat} {of ot ol : Obj} {vs : List Value} {s : St} {r : Row} {x : List Int × ByteArray}
  (M : MemF es w0 W l fx ((r :: rowsR ⟨vc,vf,vt,vi,vo,vu,gf,gt,gl,of,ot,ol,vs⟩ s).set 6 ⟨Kd.raw 5,111,v5,s.uses.map ucell ++ [ucell x]⟩)) :
  MemF es w0 W l fx (r :: rowsR ⟨vc,vf,vt,vi,vo,v5,gf,gt,gl,of,ot,ol,vs⟩ { s with uses:=s.uses ++ [x] }):=by
 have key : ∀ A,A = s.uses.map ucell ++ [ucell x] → MemF es w0 W l fx (r :: ⟨Kd.int .u32,39,vc,s.code⟩ :: ⟨Kd.raw 2,41,vf,s.funcs.map ints⟩ :: ⟨Kd.raw 2,44,vt,tcells vs s.tabs⟩ :: ⟨Kd.raw 5,70,vi,s.ins.map ints⟩ :: ⟨Kd.int .i64,3,vo,s.opn⟩ :: ⟨Kd.raw 5,111,v5,A⟩ :: csRows vs s.tabs):=by
  intro A hA
  rw [hA]; exact M
 exact key _ List.map_append
section
variable {k : Nat} {w0 W : World} {gr g14 gw : Nat} {l : List (Nat × Array Value × TypeId)} {h : Hd} {s : St} {op a b c imm e : Int} {n m c' nn cc' ow : Nat} {s0 : ByteArray} {r : List ByteArray}
set_option maxHeartbeats 8000000 in
set_option maxRecDepth 100000 in
theorem imm_no {u1 u2 u3 u9 u13 u15 u16 u17 u18 u19 u20 u21 u22 u23 u24 u25 u26 u27 u28 u29 u30 u31 u32 u33 u34 u35 u36 u37 u38 u39 u40 u41 u42 u43 u44 u45 u46 u47 u48 u49 u50 u51 u52 u53 u54 u55 u56 u57 u58 u59 u60 u61 u62 u63 u64 u65 u66 u67 u68 u69 u70 u71 u72 u73 u74 u75 u76 u77 u78 u79 u80 u81 u82 u83 u84 u85 u86 u87 u88 u89 u90 u91 u92 u93 u94 u95 u96 u97 u98 u99 u100 u101 u102 u103 u104 u105 u106 u107 u108 u109 u110 u111 u112 u113 u114 u115 u116 u117 u118 u119 u120 u121 u122 u123 u124 u125 u126 u127 u128 u129 u130 u131 u132 u133 u134 u135 u136 u137 u138 u139 u140 u141 u142 u143 u144 u145 u146 u147 u148 u149 u150 u151 u152 u153 u154 u155 u156 u157 u158 u159 u160 u161 u162 u163 u164 u165 u166 u167 u168 u169 u170 u171 u172 u173 u174 u175 u176 u177 u178 u179 u180 u181 u182 u183 u184 u185 u186 u187 u188 u189 u190 u191 u192 u193 u194 u195 u196 u197 u198 u199 u200 u201 u202 u203 u204 u205 u206 u207 u208 u209 u210 u211 u212 u213 u214 u215 u216 u217 u218 u219 u220 u221 u222 u223 u224 u225 u226 u227 u228 u229 u230 u231 u232 u233 u234 u235 u236 u237 u238 u239 u240 u241 u242 : Value} (M0 : MemF esR w0 W ((gr,cellsR h s,55) :: l) (fxR h) (⟨Kd.raw 5,70,.slice (some ⟨g14,0,none⟩) 1 1,[[Value.int .i64 op,.int .i64 a,.int .i64 b,.int .i64 c,.int .i64 0]]⟩ :: rowsR h s)) (S : Std w0) (hf : Few k s) (hu : s.uses.length < k) (hsy : Says k h s) (hln : h.vs.length = s.tabs.length) (hk : k ≤ 262144) (hn : s.idle = false → n < s.ins.length ∧ n < s.code.length)
  (L : Line l gw nn cc' (s0 :: r)) (hc' : r.length ≤ c') (how : r ≠ [] → ow = 1) (him : (fieldsV (shapeV op)).2 = false) :
  Code.wp Tryz.prog tail30 (bodyPost Tryz.prog Tryz.f63 fun z w' => z = .returned (.int .i64 (s.imm n op e [a,b,c] r).2) ∧ ∃ h',RdM k w0 w' gr l h' (s.imm n op e [a,b,c] r).1) ⟨#[(.pointer (some ⟨gr,0,none⟩)),u1,u2,u3,(.int .i64 0),(.int .i64 op),(.int .i64 e),(.int .i64 (n : Int)),(.int .i64 (shapeV op)),u9,(.int .i64 (m : Int)),(.bool (fieldsV (shapeV op)).2),(.slice (some ⟨gw,ow,none⟩) r.length c'),u13,(.pointer (some ⟨g14,0,none⟩)),u15,u16,u17,u18,u19,u20,u21,u22,u23,u24,u25,u26,u27,u28,u29,u30,u31,u32,u33,u34,u35,u36,u37,u38,u39,u40,u41,u42,u43,u44,u45,u46,u47,u48,u49,u50,u51,u52,u53,u54,u55,u56,u57,u58,u59,u60,u61,u62,u63,u64,u65,u66,u67,u68,u69,u70,u71,u72,u73,u74,u75,u76,u77,u78,u79,u80,u81,u82,u83,u84,u85,u86,u87,u88,u89,u90,u91,u92,u93,u94,u95,u96,u97,u98,u99,u100,u101,u102,u103,u104,u105,u106,u107,u108,u109,u110,u111,u112,u113,u114,u115,u116,u117,u118,u119,u120,u121,u122,u123,u124,u125,u126,u127,u128,u129,u130,u131,u132,u133,u134,u135,u136,u137,u138,u139,u140,u141,u142,u143,u144,u145,u146,u147,u148,u149,u150,u151,u152,u153,u154,u155,u156,u157,u158,u159,u160,u161,u162,u163,u164,u165,u166,u167,u168,u169,u170,u171,u172,u173,u174,u175,u176,u177,u178,u179,u180,u181,u182,u183,u184,u185,u186,u187,u188,u189,u190,u191,u192,u193,u194,u195,u196,u197,u198,u199,u200,u201,u202,u203,u204,u205,u206,u207,u208,u209,u210,u211,u212,u213,u214,u215,u216,u217,u218,u219,u220,u221,u222,u223,u224,u225,u226,u227,u228,u229,u230,u231,u232,u233,u234,u235,u236,u237,u238,u239,u240,u241,u242],[]⟩ W:=by
 have HF:=Lib.hid hf
 have HU:=Lib.hid hu
 have HS:=Lib.hid hsy
 have HLN:=Lib.hid hln
 have HN:=Lib.hid hn
 have HK:=Lib.hid hk
 have HC':=Lib.hid hc'
 obtain ⟨vc,vf,vt,vi,vo,vu,gf,gt,gl,of,ot,ol,vs⟩:=h
 rw [imm_none him,him]
 have M:=Aside0.mk M0
 clear hf hu hsy hln hn hk M0 S L hc' how
 conv => arg 2; whnf
 go_upto_if 143 with fail
 rename_i hKK
 refine wp_cond_split rfl (fun h => ?_) (fun h => ?_)
 ·cases h
 ·refine wp_skip ?_
  refine hKK _ _ ?_
  (refine ins_end (h:=⟨vc,vf,vt,vi,vo,vu,gf,gt,gl,of,ot,ol,vs⟩) (imm:=0) (e:=e) (s:=s) M.out HF.out HS.out HLN.out HK.out HN.out)
set_option maxHeartbeats 8000000 in
set_option maxRecDepth 100000 in
theorem imm_txt1 {u1 u2 u3 u9 u13 u15 u16 u17 u18 u19 u20 u21 u22 u23 u24 u25 u26 u27 u28 u29 u30 u31 u32 u33 u34 u35 u36 u37 u38 u39 u40 u41 u42 u43 u44 u45 u46 u47 u48 u49 u50 u51 u52 u53 u54 u55 u56 u57 u58 u59 u60 u61 u62 u63 u64 u65 u66 u67 u68 u69 u70 u71 u72 u73 u74 u75 u76 u77 u78 u79 u80 u81 u82 u83 u84 u85 u86 u87 u88 u89 u90 u91 u92 u93 u94 u95 u96 u97 u98 u99 u100 u101 u102 u103 u104 u105 u106 u107 u108 u109 u110 u111 u112 u113 u114 u115 u116 u117 u118 u119 u120 u121 u122 u123 u124 u125 u126 u127 u128 u129 u130 u131 u132 u133 u134 u135 u136 u137 u138 u139 u140 u141 u142 u143 u144 u145 u146 u147 u148 u149 u150 u151 u152 u153 u154 u155 u156 u157 u158 u159 u160 u161 u162 u163 u164 u165 u166 u167 u168 u169 u170 u171 u172 u173 u174 u175 u176 u177 u178 u179 u180 u181 u182 u183 u184 u185 u186 u187 u188 u189 u190 u191 u192 u193 u194 u195 u196 u197 u198 u199 u200 u201 u202 u203 u204 u205 u206 u207 u208 u209 u210 u211 u212 u213 u214 u215 u216 u217 u218 u219 u220 u221 u222 u223 u224 u225 u226 u227 u228 u229 u230 u231 u232 u233 u234 u235 u236 u237 u238 u239 u240 u241 u242 : Value} (M0 : MemF esR w0 W ((gr,cellsR h s,55) :: l) (fxR h) (⟨Kd.raw 5,70,.slice (some ⟨g14,0,none⟩) 1 1,[[Value.int .i64 op,.int .i64 a,.int .i64 b,.int .i64 c,.int .i64 0]]⟩ :: rowsR h s)) (S : Std w0) (hf : Few k s) (hu : s.uses.length < k) (hsy : Says k h s) (hln : h.vs.length = s.tabs.length) (hk : k ≤ 262144) (hn : s.idle = false → n < s.ins.length ∧ n < s.code.length)
  (L : Line l gw nn cc' (s0 :: r)) (hc' : r.length ≤ c') (how : r ≠ [] → ow = 1) (him : (fieldsV (shapeV op)).2 = true) (hm : (fieldsV (shapeV op)).1 = (m : Int)) {u : ByteArray} (hum : r[m]? = some u) {z : Int} (hnv : Q.numV u.data.toList = (z,false)) (hr : refersV op = false) :
  Code.wp Tryz.prog tail30 (bodyPost Tryz.prog Tryz.f63 fun z w' => z = .returned (.int .i64 (s.imm n op e [a,b,c] r).2) ∧ ∃ h',RdM k w0 w' gr l h' (s.imm n op e [a,b,c] r).1) ⟨#[(.pointer (some ⟨gr,0,none⟩)),u1,u2,u3,(.int .i64 0),(.int .i64 op),(.int .i64 e),(.int .i64 (n : Int)),(.int .i64 (shapeV op)),u9,(.int .i64 (m : Int)),(.bool (fieldsV (shapeV op)).2),(.slice (some ⟨gw,ow,none⟩) r.length c'),u13,(.pointer (some ⟨g14,0,none⟩)),u15,u16,u17,u18,u19,u20,u21,u22,u23,u24,u25,u26,u27,u28,u29,u30,u31,u32,u33,u34,u35,u36,u37,u38,u39,u40,u41,u42,u43,u44,u45,u46,u47,u48,u49,u50,u51,u52,u53,u54,u55,u56,u57,u58,u59,u60,u61,u62,u63,u64,u65,u66,u67,u68,u69,u70,u71,u72,u73,u74,u75,u76,u77,u78,u79,u80,u81,u82,u83,u84,u85,u86,u87,u88,u89,u90,u91,u92,u93,u94,u95,u96,u97,u98,u99,u100,u101,u102,u103,u104,u105,u106,u107,u108,u109,u110,u111,u112,u113,u114,u115,u116,u117,u118,u119,u120,u121,u122,u123,u124,u125,u126,u127,u128,u129,u130,u131,u132,u133,u134,u135,u136,u137,u138,u139,u140,u141,u142,u143,u144,u145,u146,u147,u148,u149,u150,u151,u152,u153,u154,u155,u156,u157,u158,u159,u160,u161,u162,u163,u164,u165,u166,u167,u168,u169,u170,u171,u172,u173,u174,u175,u176,u177,u178,u179,u180,u181,u182,u183,u184,u185,u186,u187,u188,u189,u190,u191,u192,u193,u194,u195,u196,u197,u198,u199,u200,u201,u202,u203,u204,u205,u206,u207,u208,u209,u210,u211,u212,u213,u214,u215,u216,u217,u218,u219,u220,u221,u222,u223,u224,u225,u226,u227,u228,u229,u230,u231,u232,u233,u234,u235,u236,u237,u238,u239,u240,u241,u242],[]⟩ W:=by
 have HF:=Lib.hid hf
 have HU:=Lib.hid hu
 have HS:=Lib.hid hsy
 have HLN:=Lib.hid hln
 have HN:=Lib.hid hn
 have HK:=Lib.hid hk
 have HC':=Lib.hid hc'
 obtain rfl:=how (by rintro rfl; simp at hum)
 have xw : W.cell? ⟨gw,1 + m,none⟩ = some (.string u):=by
  obtain ⟨i,cur,hi,hw⟩:=L.box
  rw [show 1 + m = m + 1 by omega]
  exact (M0.mem.cell (i + 1) (by simpa using hi) (m + 1)).trans (hw (m + 1) u (by simpa using hum))
 have hus : u.size ≤ 262144:=L.small u (List.mem_cons_of_mem _ (List.mem_of_getElem? hum))
 have HNUM:=Lib.hid (number_calls u hus W (S.below M0.mem.below))
 have HNM:=Lib.hid (fun W => name_calls u hus W)
 have HRF:=Lib.hid (fun W => listing_refers.calls op _ W (refers_some op))
 have hml : m < r.length:=(List.getElem?_eq_some_iff.1 hum).1
 have hmI : (m : Int) < (r.length : Int):=by omega
 have hml2 : r.length ≤ c':=hc'
 rw [hnv] at HNUM
 rw [imm_text him hm hum hnv (by rw [hr]; rfl),him]
 rw [hr] at HRF
 clear him hm hum hnv hr
 have M:=Aside0.mk M0
 clear hf hu hsy hln hn hk M0 S L hc' how
 conv => arg 2; whnf
 go_wp2_with fail
 refine (HNUM.out).mono ?_
 rintro e1 w1 ⟨rfl,hb1⟩
 have M1:=Aside0.mk (M.out.call hb1)
 clear M hb1 xw
 go_wp2_with (first | (go_at_call 99; refine (HRF.out _).mono ?_; rintro e2 w2 ⟨rfl,hd2⟩; have M2:=Aside0.mk (M1.out.call (below_d0 hd2)); clear M1 hd2))
 go_returns
 exact ⟨rfl,h,M2.out.rowsBy Mem.tail,HF.out,HS.out,HLN.out⟩
set_option maxHeartbeats 8000000 in
set_option maxRecDepth 100000 in
theorem imm_txt2 {u1 u2 u3 u9 u13 u15 u16 u17 u18 u19 u20 u21 u22 u23 u24 u25 u26 u27 u28 u29 u30 u31 u32 u33 u34 u35 u36 u37 u38 u39 u40 u41 u42 u43 u44 u45 u46 u47 u48 u49 u50 u51 u52 u53 u54 u55 u56 u57 u58 u59 u60 u61 u62 u63 u64 u65 u66 u67 u68 u69 u70 u71 u72 u73 u74 u75 u76 u77 u78 u79 u80 u81 u82 u83 u84 u85 u86 u87 u88 u89 u90 u91 u92 u93 u94 u95 u96 u97 u98 u99 u100 u101 u102 u103 u104 u105 u106 u107 u108 u109 u110 u111 u112 u113 u114 u115 u116 u117 u118 u119 u120 u121 u122 u123 u124 u125 u126 u127 u128 u129 u130 u131 u132 u133 u134 u135 u136 u137 u138 u139 u140 u141 u142 u143 u144 u145 u146 u147 u148 u149 u150 u151 u152 u153 u154 u155 u156 u157 u158 u159 u160 u161 u162 u163 u164 u165 u166 u167 u168 u169 u170 u171 u172 u173 u174 u175 u176 u177 u178 u179 u180 u181 u182 u183 u184 u185 u186 u187 u188 u189 u190 u191 u192 u193 u194 u195 u196 u197 u198 u199 u200 u201 u202 u203 u204 u205 u206 u207 u208 u209 u210 u211 u212 u213 u214 u215 u216 u217 u218 u219 u220 u221 u222 u223 u224 u225 u226 u227 u228 u229 u230 u231 u232 u233 u234 u235 u236 u237 u238 u239 u240 u241 u242 : Value} (M0 : MemF esR w0 W ((gr,cellsR h s,55) :: l) (fxR h) (⟨Kd.raw 5,70,.slice (some ⟨g14,0,none⟩) 1 1,[[Value.int .i64 op,.int .i64 a,.int .i64 b,.int .i64 c,.int .i64 0]]⟩ :: rowsR h s)) (S : Std w0) (hf : Few k s) (hu : s.uses.length < k) (hsy : Says k h s) (hln : h.vs.length = s.tabs.length) (hk : k ≤ 262144) (hn : s.idle = false → n < s.ins.length ∧ n < s.code.length)
  (L : Line l gw nn cc' (s0 :: r)) (hc' : r.length ≤ c') (how : r ≠ [] → ow = 1) (him : (fieldsV (shapeV op)).2 = true) (hm : (fieldsV (shapeV op)).1 = (m : Int)) {u : ByteArray} (hum : r[m]? = some u) {z : Int} (hnv : Q.numV u.data.toList = (z,false)) (hr : refersV op = true) (hnb : Q.nameB u.data.toList = false) :
  Code.wp Tryz.prog tail30 (bodyPost Tryz.prog Tryz.f63 fun z w' => z = .returned (.int .i64 (s.imm n op e [a,b,c] r).2) ∧ ∃ h',RdM k w0 w' gr l h' (s.imm n op e [a,b,c] r).1) ⟨#[(.pointer (some ⟨gr,0,none⟩)),u1,u2,u3,(.int .i64 0),(.int .i64 op),(.int .i64 e),(.int .i64 (n : Int)),(.int .i64 (shapeV op)),u9,(.int .i64 (m : Int)),(.bool (fieldsV (shapeV op)).2),(.slice (some ⟨gw,ow,none⟩) r.length c'),u13,(.pointer (some ⟨g14,0,none⟩)),u15,u16,u17,u18,u19,u20,u21,u22,u23,u24,u25,u26,u27,u28,u29,u30,u31,u32,u33,u34,u35,u36,u37,u38,u39,u40,u41,u42,u43,u44,u45,u46,u47,u48,u49,u50,u51,u52,u53,u54,u55,u56,u57,u58,u59,u60,u61,u62,u63,u64,u65,u66,u67,u68,u69,u70,u71,u72,u73,u74,u75,u76,u77,u78,u79,u80,u81,u82,u83,u84,u85,u86,u87,u88,u89,u90,u91,u92,u93,u94,u95,u96,u97,u98,u99,u100,u101,u102,u103,u104,u105,u106,u107,u108,u109,u110,u111,u112,u113,u114,u115,u116,u117,u118,u119,u120,u121,u122,u123,u124,u125,u126,u127,u128,u129,u130,u131,u132,u133,u134,u135,u136,u137,u138,u139,u140,u141,u142,u143,u144,u145,u146,u147,u148,u149,u150,u151,u152,u153,u154,u155,u156,u157,u158,u159,u160,u161,u162,u163,u164,u165,u166,u167,u168,u169,u170,u171,u172,u173,u174,u175,u176,u177,u178,u179,u180,u181,u182,u183,u184,u185,u186,u187,u188,u189,u190,u191,u192,u193,u194,u195,u196,u197,u198,u199,u200,u201,u202,u203,u204,u205,u206,u207,u208,u209,u210,u211,u212,u213,u214,u215,u216,u217,u218,u219,u220,u221,u222,u223,u224,u225,u226,u227,u228,u229,u230,u231,u232,u233,u234,u235,u236,u237,u238,u239,u240,u241,u242],[]⟩ W:=by
 have HF:=Lib.hid hf
 have HU:=Lib.hid hu
 have HS:=Lib.hid hsy
 have HLN:=Lib.hid hln
 have HN:=Lib.hid hn
 have HK:=Lib.hid hk
 have HC':=Lib.hid hc'
 obtain rfl:=how (by rintro rfl; simp at hum)
 have xw : W.cell? ⟨gw,1 + m,none⟩ = some (.string u):=by
  obtain ⟨i,cur,hi,hw⟩:=L.box
  rw [show 1 + m = m + 1 by omega]
  exact (M0.mem.cell (i + 1) (by simpa using hi) (m + 1)).trans (hw (m + 1) u (by simpa using hum))
 have hus : u.size ≤ 262144:=L.small u (List.mem_cons_of_mem _ (List.mem_of_getElem? hum))
 have HNUM:=Lib.hid (number_calls u hus W (S.below M0.mem.below))
 have HNM:=Lib.hid (fun W => name_calls u hus W)
 have HRF:=Lib.hid (fun W => listing_refers.calls op _ W (refers_some op))
 have hml : m < r.length:=(List.getElem?_eq_some_iff.1 hum).1
 have hmI : (m : Int) < (r.length : Int):=by omega
 have hml2 : r.length ≤ c':=hc'
 rw [hnv] at HNUM
 rw [imm_text him hm hum hnv (by rw [hr,hnb]; rfl),him]
 rw [hr] at HRF
 rw [hnb] at HNM
 clear him hm hum hnv hr hnb
 have M:=Aside0.mk M0
 clear hf hu hsy hln hn hk M0 S L hc' how
 conv => arg 2; whnf
 go_wp2_with fail
 refine (HNUM.out).mono ?_
 rintro e1 w1 ⟨rfl,hb1⟩
 have M1:=Aside0.mk (M.out.call hb1)
 clear M hb1 xw
 go_wp2_with (first | (go_at_call 99; refine (HRF.out _).mono ?_; rintro e2 w2 ⟨rfl,hd2⟩; have M2:=Aside0.mk (M1.out.call (below_d0 hd2)); clear M1 hd2) | (go_at_call 92; refine (HNM.out _).mono ?_; rintro e3 w3 ⟨rfl,hd3⟩; have M3:=Aside0.mk (M2.out.call (below_d0 hd3)); clear M2 hd3))
 go_returns
 exact ⟨rfl,h,M3.out.rowsBy Mem.tail,HF.out,HS.out,HLN.out⟩
set_option maxHeartbeats 8000000 in
set_option maxRecDepth 100000 in
theorem imm_nam {u1 u2 u3 u9 u13 u15 u16 u17 u18 u19 u20 u21 u22 u23 u24 u25 u26 u27 u28 u29 u30 u31 u32 u33 u34 u35 u36 u37 u38 u39 u40 u41 u42 u43 u44 u45 u46 u47 u48 u49 u50 u51 u52 u53 u54 u55 u56 u57 u58 u59 u60 u61 u62 u63 u64 u65 u66 u67 u68 u69 u70 u71 u72 u73 u74 u75 u76 u77 u78 u79 u80 u81 u82 u83 u84 u85 u86 u87 u88 u89 u90 u91 u92 u93 u94 u95 u96 u97 u98 u99 u100 u101 u102 u103 u104 u105 u106 u107 u108 u109 u110 u111 u112 u113 u114 u115 u116 u117 u118 u119 u120 u121 u122 u123 u124 u125 u126 u127 u128 u129 u130 u131 u132 u133 u134 u135 u136 u137 u138 u139 u140 u141 u142 u143 u144 u145 u146 u147 u148 u149 u150 u151 u152 u153 u154 u155 u156 u157 u158 u159 u160 u161 u162 u163 u164 u165 u166 u167 u168 u169 u170 u171 u172 u173 u174 u175 u176 u177 u178 u179 u180 u181 u182 u183 u184 u185 u186 u187 u188 u189 u190 u191 u192 u193 u194 u195 u196 u197 u198 u199 u200 u201 u202 u203 u204 u205 u206 u207 u208 u209 u210 u211 u212 u213 u214 u215 u216 u217 u218 u219 u220 u221 u222 u223 u224 u225 u226 u227 u228 u229 u230 u231 u232 u233 u234 u235 u236 u237 u238 u239 u240 u241 u242 : Value} (M0 : MemF esR w0 W ((gr,cellsR h s,55) :: l) (fxR h) (⟨Kd.raw 5,70,.slice (some ⟨g14,0,none⟩) 1 1,[[Value.int .i64 op,.int .i64 a,.int .i64 b,.int .i64 c,.int .i64 0]]⟩ :: rowsR h s)) (S : Std w0) (hf : Few k s) (hu : s.uses.length < k) (hsy : Says k h s) (hln : h.vs.length = s.tabs.length) (hk : k ≤ 262144) (hn : s.idle = false → n < s.ins.length ∧ n < s.code.length)
  (L : Line l gw nn cc' (s0 :: r)) (hc' : r.length ≤ c') (how : r ≠ [] → ow = 1) (him : (fieldsV (shapeV op)).2 = true) (hm : (fieldsV (shapeV op)).1 = (m : Int)) {u : ByteArray} (hum : r[m]? = some u) {z : Int} (hnv : Q.numV u.data.toList = (z,false)) (hr : refersV op = true) (hnb : Q.nameB u.data.toList = true) :
  Code.wp Tryz.prog tail30 (bodyPost Tryz.prog Tryz.f63 fun z w' => z = .returned (.int .i64 (s.imm n op e [a,b,c] r).2) ∧ ∃ h',RdM k w0 w' gr l h' (s.imm n op e [a,b,c] r).1) ⟨#[(.pointer (some ⟨gr,0,none⟩)),u1,u2,u3,(.int .i64 0),(.int .i64 op),(.int .i64 e),(.int .i64 (n : Int)),(.int .i64 (shapeV op)),u9,(.int .i64 (m : Int)),(.bool (fieldsV (shapeV op)).2),(.slice (some ⟨gw,ow,none⟩) r.length c'),u13,(.pointer (some ⟨g14,0,none⟩)),u15,u16,u17,u18,u19,u20,u21,u22,u23,u24,u25,u26,u27,u28,u29,u30,u31,u32,u33,u34,u35,u36,u37,u38,u39,u40,u41,u42,u43,u44,u45,u46,u47,u48,u49,u50,u51,u52,u53,u54,u55,u56,u57,u58,u59,u60,u61,u62,u63,u64,u65,u66,u67,u68,u69,u70,u71,u72,u73,u74,u75,u76,u77,u78,u79,u80,u81,u82,u83,u84,u85,u86,u87,u88,u89,u90,u91,u92,u93,u94,u95,u96,u97,u98,u99,u100,u101,u102,u103,u104,u105,u106,u107,u108,u109,u110,u111,u112,u113,u114,u115,u116,u117,u118,u119,u120,u121,u122,u123,u124,u125,u126,u127,u128,u129,u130,u131,u132,u133,u134,u135,u136,u137,u138,u139,u140,u141,u142,u143,u144,u145,u146,u147,u148,u149,u150,u151,u152,u153,u154,u155,u156,u157,u158,u159,u160,u161,u162,u163,u164,u165,u166,u167,u168,u169,u170,u171,u172,u173,u174,u175,u176,u177,u178,u179,u180,u181,u182,u183,u184,u185,u186,u187,u188,u189,u190,u191,u192,u193,u194,u195,u196,u197,u198,u199,u200,u201,u202,u203,u204,u205,u206,u207,u208,u209,u210,u211,u212,u213,u214,u215,u216,u217,u218,u219,u220,u221,u222,u223,u224,u225,u226,u227,u228,u229,u230,u231,u232,u233,u234,u235,u236,u237,u238,u239,u240,u241,u242],[]⟩ W:=by
 have HF:=Lib.hid hf
 have HU:=Lib.hid hu
 have HS:=Lib.hid hsy
 have HLN:=Lib.hid hln
 have HN:=Lib.hid hn
 have HK:=Lib.hid hk
 have HC':=Lib.hid hc'
 obtain rfl:=how (by rintro rfl; simp at hum)
 have xw : W.cell? ⟨gw,1 + m,none⟩ = some (.string u):=by
  obtain ⟨i,cur,hi,hw⟩:=L.box
  rw [show 1 + m = m + 1 by omega]
  exact (M0.mem.cell (i + 1) (by simpa using hi) (m + 1)).trans (hw (m + 1) u (by simpa using hum))
 have hus : u.size ≤ 262144:=L.small u (List.mem_cons_of_mem _ (List.mem_of_getElem? hum))
 have HNUM:=Lib.hid (number_calls u hus W (S.below M0.mem.below))
 have HNM:=Lib.hid (fun W => name_calls u hus W)
 have HRF:=Lib.hid (fun W => listing_refers.calls op _ W (refers_some op))
 have hml : m < r.length:=(List.getElem?_eq_some_iff.1 hum).1
 have hmI : (m : Int) < (r.length : Int):=by omega
 have hml2 : r.length ≤ c':=hc'
 rw [hnv] at HNUM
 obtain ⟨vc,vf,vt,vi,vo,vu,gf,gt,gl,of,ot,ol,vs⟩:=h
 obtain ⟨A1,c1,rfl⟩ : ∃ A c,vf = .slice A s.funcs.length c:=by
  obtain ⟨A,c,he⟩:=Kd.R_slice (M0.mem.owns 2 _ rfl)
  exact ⟨A,c,by rw [show s.funcs.length = (s.funcs.map ints).length by simp]; exact he⟩
 have HL64:=Lib.hid (show ((s.uses.map ucell).length + 1) * 48 ≤ 140737488355328 by rw [List.length_map]; omega)
 obtain rfl:=num_zero hnv
 rw [imm_name him hm hum hnv hr hnb,him]
 rw [hr] at HRF
 rw [hnb] at HNM
 clear him hm hum hnv hr hnb
 have M:=Aside0.mk M0
 clear hf hu hsy hln hn hk M0 S L hc' how
 conv => arg 2; whnf
 go_upto_if 143 with fail
 rename_i hKK
 go_wp2_with fail
 refine (HNUM.out).mono ?_
 rintro e1 w1 ⟨rfl,hb1⟩
 have M1:=Aside0.mk (M.out.call hb1)
 clear M hb1 xw
 go_wp2_with (first | (go_at_call 99; refine (HRF.out _).mono ?_; rintro e2 w2 ⟨rfl,hd2⟩; have M2:=Aside0.mk (M1.out.call (below_d0 hd2)); clear M1 hd2) | (go_at_call 92; refine (HNM.out _).mono ?_; rintro e3 w3 ⟨rfl,hd3⟩; have M3:=Aside0.mk (M2.out.call (below_d0 hd3)); clear M2 hd3))
 refine kStart [20,23] [(⟨gr,10,none⟩,vu),(⟨gr,1,none⟩,.slice A1 s.funcs.length c1),(⟨gr,13,none⟩,.int .i64 s.now)] M3 ?_ (fun w4 MD HK0 => ?_)
 ·intro q hq
  simp only [List.mem_cons,List.not_mem_nil,or_false] at hq
  rcases hq with rfl | rfl | rfl
  ·exact rcell M3.out 10 rfl
  ·exact rcell M3.out 1 rfl
  ·exact rcell M3.out 13 rfl
 clear M3
 refine kP 0 164 (.pointer (some ⟨gr,0,none⟩)) ?_
 simp only [Act.put,sAz,sCz,sCs]
 refine kP 1 165 (.pointer (some ⟨gr,0,none⟩)) ?_
 simp only [Act.put,sAz,sCz,sCs]
 refine kP 2 166 (.pointer (some ⟨gr,0,none⟩)) ?_
 simp only [Act.put,sAz,sCz,sCs]
 refine kP 3 167 (.pointer (some ⟨gr,10,none⟩)) ?_
 simp only [Act.put,sAz,sCz,sCs]
 refine kE HK0 4 168 0 ?_
 simp only [Act.put,sAz,sCz,sCs]
 refine kP 5 169 (.int .i64 (n : Int)) ?_
 simp only [Act.put,sAz,sCz,sCs]
 refine kP 6 170 (.pointer (some ⟨gr,0,none⟩)) ?_
 simp only [Act.put,sAz,sCz,sCs]
 refine kP 7 171 (.pointer (some ⟨gr,0,none⟩)) ?_
 simp only [Act.put,sAz,sCz,sCs]
 refine kP 8 172 (.pointer (some ⟨gr,0,none⟩)) ?_
 simp only [Act.put,sAz,sCz,sCs]
 refine kP 9 173 (.pointer (some ⟨gr,1,none⟩)) ?_
 simp only [Act.put,sAz,sCz,sCs]
 refine kE HK0 10 174 1 ?_
 simp only [Act.put,sAz,sCz,sCs]
 refine kP 11 175 (.int .i64 (s.funcs.length : Int)) ?_
 simp only [Act.put,sAz,sCz,sCs]
 refine kP 12 176 (.pointer (some ⟨gr,0,none⟩)) ?_
 simp only [Act.put,sAz,sCz,sCs]
 refine kP 13 177 (.pointer (some ⟨gr,0,none⟩)) ?_
 simp only [Act.put,sAz,sCz,sCs]
 refine kP 14 178 (.pointer (some ⟨gr,13,none⟩)) ?_
 simp only [Act.put,sAz,sCz,sCs]
 refine kE HK0 15 179 2 ?_
 simp only [Act.put,sAz,sCz,sCs]
 refine kP 16 180 (.int .i64 op) ?_
 simp only [Act.put,sAz,sCz,sCs]
 refine kP 17 181 (.string u) ?_
 simp only [Act.put,sAz,sCz,sCs]
 refine kP 18 182 (.agg [Value.int .i64 (n : Int),.int .i64 (s.funcs.length : Int),.int .i64 s.now,.int .i64 op,.string u].toArray) ?_
 simp only [Act.put,sAz,sCz,sCs]
 refine kR [19] ?_
 refine kBs HK0 19 183 [Value.int .i64 (n : Int),.int .i64 (s.funcs.length : Int),.int .i64 s.now,.int .i64 op,.string u] 111 (fun HK1 => ?_) AllReadyL.nil
 simp only [Act.put,sAz,sCz,sCs]
 clear HK0 HK1
 have MF:=Aside0.mk (MemF.front MD.out 6 rfl)
 clear MD
 refine kR [20] ?_
 refine kAp MF 20 184 [Value.int .i64 (n : Int),.int .i64 (s.funcs.length : Int),.int .i64 s.now,.int .i64 op,.string u] [Value.int .i64 (n : Int),.int .i64 (s.funcs.length : Int),.int .i64 s.now,.int .i64 op,.string u] (.agg #[.int .i64 0,.int .i64 0,.int .i64 0,.int .i64 0,.string ByteArray.empty]) 48 HL64.out ?_ ⟨rfl,rfl,fun q hq => by simp at hq; rcases hq with rfl | rfl | rfl | rfl | rfl <;> rfl⟩ rfl (by decide) AllReadyL.nil
 clear MF
 intro v5 w5 MG
 simp only [Act.put,sAz,sCz,sCs]
 have ONE:=Lib.hid (MemF.one MG.out 0 rfl)
 have MT:=Aside0.mk (MemF.back 6 (by show 6 < (_ :: rowsR _ _).length; simp [rowsR]) MG.out)
 clear MG
 refine kP 21 185 (.pointer (some ⟨gr,0,none⟩)) ?_
 simp only [Act.put,sAz,sCz,sCs]
 refine kP 22 186 (.pointer (some ⟨gr,10,none⟩)) ?_
 simp only [Act.put,sAz,sCz,sCs]
 refine kR [23] ?_
 refine kC MT 23 53 186 0 10 v5 (rcells vc (.slice A1 s.funcs.length c1) vt vi gf gt gl vo s.cases s.idle v5 s.wrong s.line s.now) ?_ rfl rfl ONE.out rfl AllReadyL.nil
 clear MT ONE
 intro w6 MH
 refine kDone ?_
 have MI:=Aside0.mk (uses_rows (x:=([(n : Int),(s.funcs.length : Int),s.now,op],u)) MH.out)
 clear MH
 go_wp2_with (first | ((with_reducible refine gate_store (t:=3) (p:=214) rfl ?_); refine fE MI 3 (.tmp 214) 0 4 (.int .i64 0) [.int .i64 0] [.int .i64 op,.int .i64 a,.int .i64 b,.int .i64 c,.int .i64 0] (by decide) rfl ?_ rfl (by intro q hq; rw [List.mem_singleton] at hq; subst hq; rfl) (Nat.le_refl 5) rfl; clear MI; intro w9 MZ; refine hKK _ _ ?_; (refine ins_end (h:=⟨vc,.slice A1 s.funcs.length c1,vt,vi,vo,v5,gf,gt,gl,of,ot,ol,vs⟩) (imm:=0) (e:=e) (s:={ s with uses:=s.uses ++ [([(n : Int),(s.funcs.length : Int),s.now,op],u)] }) MZ.out (Few.use HF.out HU.out _) ⟨HS.out.f,HS.out.t,HS.out.l⟩ HLN.out HK.out HN.out)))
set_option maxHeartbeats 8000000 in
set_option maxRecDepth 100000 in
theorem imm_num0 {u1 u2 u3 u9 u13 u15 u16 u17 u18 u19 u20 u21 u22 u23 u24 u25 u26 u27 u28 u29 u30 u31 u32 u33 u34 u35 u36 u37 u38 u39 u40 u41 u42 u43 u44 u45 u46 u47 u48 u49 u50 u51 u52 u53 u54 u55 u56 u57 u58 u59 u60 u61 u62 u63 u64 u65 u66 u67 u68 u69 u70 u71 u72 u73 u74 u75 u76 u77 u78 u79 u80 u81 u82 u83 u84 u85 u86 u87 u88 u89 u90 u91 u92 u93 u94 u95 u96 u97 u98 u99 u100 u101 u102 u103 u104 u105 u106 u107 u108 u109 u110 u111 u112 u113 u114 u115 u116 u117 u118 u119 u120 u121 u122 u123 u124 u125 u126 u127 u128 u129 u130 u131 u132 u133 u134 u135 u136 u137 u138 u139 u140 u141 u142 u143 u144 u145 u146 u147 u148 u149 u150 u151 u152 u153 u154 u155 u156 u157 u158 u159 u160 u161 u162 u163 u164 u165 u166 u167 u168 u169 u170 u171 u172 u173 u174 u175 u176 u177 u178 u179 u180 u181 u182 u183 u184 u185 u186 u187 u188 u189 u190 u191 u192 u193 u194 u195 u196 u197 u198 u199 u200 u201 u202 u203 u204 u205 u206 u207 u208 u209 u210 u211 u212 u213 u214 u215 u216 u217 u218 u219 u220 u221 u222 u223 u224 u225 u226 u227 u228 u229 u230 u231 u232 u233 u234 u235 u236 u237 u238 u239 u240 u241 u242 : Value} (M0 : MemF esR w0 W ((gr,cellsR h s,55) :: l) (fxR h) (⟨Kd.raw 5,70,.slice (some ⟨g14,0,none⟩) 1 1,[[Value.int .i64 op,.int .i64 a,.int .i64 b,.int .i64 c,.int .i64 0]]⟩ :: rowsR h s)) (S : Std w0) (hf : Few k s) (hu : s.uses.length < k) (hsy : Says k h s) (hln : h.vs.length = s.tabs.length) (hk : k ≤ 262144) (hn : s.idle = false → n < s.ins.length ∧ n < s.code.length)
  (L : Line l gw nn cc' (s0 :: r)) (hc' : r.length ≤ c') (how : r ≠ [] → ow = 1) (him : (fieldsV (shapeV op)).2 = true) (hm : (fieldsV (shapeV op)).1 = (m : Int)) {u : ByteArray} (hum : r[m]? = some u) {z : Int} (hnv : Q.numV u.data.toList = (z,true)) (h6 : shapeV op = 6) (h1 : z < -32768) :
  Code.wp Tryz.prog tail30 (bodyPost Tryz.prog Tryz.f63 fun z w' => z = .returned (.int .i64 (s.imm n op e [a,b,c] r).2) ∧ ∃ h',RdM k w0 w' gr l h' (s.imm n op e [a,b,c] r).1) ⟨#[(.pointer (some ⟨gr,0,none⟩)),u1,u2,u3,(.int .i64 0),(.int .i64 op),(.int .i64 e),(.int .i64 (n : Int)),(.int .i64 (shapeV op)),u9,(.int .i64 (m : Int)),(.bool (fieldsV (shapeV op)).2),(.slice (some ⟨gw,ow,none⟩) r.length c'),u13,(.pointer (some ⟨g14,0,none⟩)),u15,u16,u17,u18,u19,u20,u21,u22,u23,u24,u25,u26,u27,u28,u29,u30,u31,u32,u33,u34,u35,u36,u37,u38,u39,u40,u41,u42,u43,u44,u45,u46,u47,u48,u49,u50,u51,u52,u53,u54,u55,u56,u57,u58,u59,u60,u61,u62,u63,u64,u65,u66,u67,u68,u69,u70,u71,u72,u73,u74,u75,u76,u77,u78,u79,u80,u81,u82,u83,u84,u85,u86,u87,u88,u89,u90,u91,u92,u93,u94,u95,u96,u97,u98,u99,u100,u101,u102,u103,u104,u105,u106,u107,u108,u109,u110,u111,u112,u113,u114,u115,u116,u117,u118,u119,u120,u121,u122,u123,u124,u125,u126,u127,u128,u129,u130,u131,u132,u133,u134,u135,u136,u137,u138,u139,u140,u141,u142,u143,u144,u145,u146,u147,u148,u149,u150,u151,u152,u153,u154,u155,u156,u157,u158,u159,u160,u161,u162,u163,u164,u165,u166,u167,u168,u169,u170,u171,u172,u173,u174,u175,u176,u177,u178,u179,u180,u181,u182,u183,u184,u185,u186,u187,u188,u189,u190,u191,u192,u193,u194,u195,u196,u197,u198,u199,u200,u201,u202,u203,u204,u205,u206,u207,u208,u209,u210,u211,u212,u213,u214,u215,u216,u217,u218,u219,u220,u221,u222,u223,u224,u225,u226,u227,u228,u229,u230,u231,u232,u233,u234,u235,u236,u237,u238,u239,u240,u241,u242],[]⟩ W:=by
 have HF:=Lib.hid hf
 have HU:=Lib.hid hu
 have HS:=Lib.hid hsy
 have HLN:=Lib.hid hln
 have HN:=Lib.hid hn
 have HK:=Lib.hid hk
 have HC':=Lib.hid hc'
 obtain rfl:=how (by rintro rfl; simp at hum)
 have xw : W.cell? ⟨gw,1 + m,none⟩ = some (.string u):=by
  obtain ⟨i,cur,hi,hw⟩:=L.box
  rw [show 1 + m = m + 1 by omega]
  exact (M0.mem.cell (i + 1) (by simpa using hi) (m + 1)).trans (hw (m + 1) u (by simpa using hum))
 have hus : u.size ≤ 262144:=L.small u (List.mem_cons_of_mem _ (List.mem_of_getElem? hum))
 have HNUM:=Lib.hid (number_calls u hus W (S.below M0.mem.below))
 have HNM:=Lib.hid (fun W => name_calls u hus W)
 have HRF:=Lib.hid (fun W => listing_refers.calls op _ W (refers_some op))
 have hml : m < r.length:=(List.getElem?_eq_some_iff.1 hum).1
 have hmI : (m : Int) < (r.length : Int):=by omega
 have hml2 : r.length ≤ c':=hc'
 rw [hnv] at HNUM
 rw [imm_num him hm hum hnv,him]
 have hs6 : shapeV op = 6:=h6
 have s1 : (shapeV op == 6) = true:=beq_iff_eq.mpr h6
 have s2 : (shapeV op != 6) = false:=by rw [h6]; rfl
 have d1 : decide (z < -32768) = true:=decide_eq_true h1
 have ho : outOf (shapeV op) z = true:=by unfold outOf; rw [if_pos h6]; simp; omega
 rw [ho]
 have HE : (if true = true then (73 : Int) else e) = 73:=rfl
 rw [HE]
 clear him hm hum hnv h1 ho HE
 have M:=Aside0.mk M0
 clear hf hu hsy hln hn hk M0 S L hc' how
 conv => arg 2; whnf
 go_upto_if 143 with fail
 rename_i hKK
 go_wp2_with fail
 refine (HNUM.out).mono ?_
 rintro e1 w1 ⟨rfl,hb1⟩
 have M1:=Aside0.mk (M.out.call hb1)
 clear M hb1 xw
 go_wp2_with (first | ((with_reducible refine gate_store (t:=3) (p:=214) rfl ?_); refine fE M1 3 (.tmp 214) 0 4 (.int .i64 z) [.int .i64 z] [.int .i64 op,.int .i64 a,.int .i64 b,.int .i64 c,.int .i64 0] (by decide) rfl ?_ rfl (by intro q hq; rw [List.mem_singleton] at hq; subst hq; rfl) (Nat.le_refl 5) rfl; clear M1; intro w9 MZ; refine hKK _ _ ?_; (refine ins_end (h:=h) (imm:=z) (e:=73) (s:=s) MZ.out HF.out HS.out HLN.out HK.out HN.out)))
set_option maxHeartbeats 8000000 in
set_option maxRecDepth 100000 in
theorem imm_num1 {u1 u2 u3 u9 u13 u15 u16 u17 u18 u19 u20 u21 u22 u23 u24 u25 u26 u27 u28 u29 u30 u31 u32 u33 u34 u35 u36 u37 u38 u39 u40 u41 u42 u43 u44 u45 u46 u47 u48 u49 u50 u51 u52 u53 u54 u55 u56 u57 u58 u59 u60 u61 u62 u63 u64 u65 u66 u67 u68 u69 u70 u71 u72 u73 u74 u75 u76 u77 u78 u79 u80 u81 u82 u83 u84 u85 u86 u87 u88 u89 u90 u91 u92 u93 u94 u95 u96 u97 u98 u99 u100 u101 u102 u103 u104 u105 u106 u107 u108 u109 u110 u111 u112 u113 u114 u115 u116 u117 u118 u119 u120 u121 u122 u123 u124 u125 u126 u127 u128 u129 u130 u131 u132 u133 u134 u135 u136 u137 u138 u139 u140 u141 u142 u143 u144 u145 u146 u147 u148 u149 u150 u151 u152 u153 u154 u155 u156 u157 u158 u159 u160 u161 u162 u163 u164 u165 u166 u167 u168 u169 u170 u171 u172 u173 u174 u175 u176 u177 u178 u179 u180 u181 u182 u183 u184 u185 u186 u187 u188 u189 u190 u191 u192 u193 u194 u195 u196 u197 u198 u199 u200 u201 u202 u203 u204 u205 u206 u207 u208 u209 u210 u211 u212 u213 u214 u215 u216 u217 u218 u219 u220 u221 u222 u223 u224 u225 u226 u227 u228 u229 u230 u231 u232 u233 u234 u235 u236 u237 u238 u239 u240 u241 u242 : Value} (M0 : MemF esR w0 W ((gr,cellsR h s,55) :: l) (fxR h) (⟨Kd.raw 5,70,.slice (some ⟨g14,0,none⟩) 1 1,[[Value.int .i64 op,.int .i64 a,.int .i64 b,.int .i64 c,.int .i64 0]]⟩ :: rowsR h s)) (S : Std w0) (hf : Few k s) (hu : s.uses.length < k) (hsy : Says k h s) (hln : h.vs.length = s.tabs.length) (hk : k ≤ 262144) (hn : s.idle = false → n < s.ins.length ∧ n < s.code.length)
  (L : Line l gw nn cc' (s0 :: r)) (hc' : r.length ≤ c') (how : r ≠ [] → ow = 1) (him : (fieldsV (shapeV op)).2 = true) (hm : (fieldsV (shapeV op)).1 = (m : Int)) {u : ByteArray} (hum : r[m]? = some u) {z : Int} (hnv : Q.numV u.data.toList = (z,true)) (h6 : shapeV op = 6) (h1 : ¬ z < -32768 ∧ 32767 < z) :
  Code.wp Tryz.prog tail30 (bodyPost Tryz.prog Tryz.f63 fun z w' => z = .returned (.int .i64 (s.imm n op e [a,b,c] r).2) ∧ ∃ h',RdM k w0 w' gr l h' (s.imm n op e [a,b,c] r).1) ⟨#[(.pointer (some ⟨gr,0,none⟩)),u1,u2,u3,(.int .i64 0),(.int .i64 op),(.int .i64 e),(.int .i64 (n : Int)),(.int .i64 (shapeV op)),u9,(.int .i64 (m : Int)),(.bool (fieldsV (shapeV op)).2),(.slice (some ⟨gw,ow,none⟩) r.length c'),u13,(.pointer (some ⟨g14,0,none⟩)),u15,u16,u17,u18,u19,u20,u21,u22,u23,u24,u25,u26,u27,u28,u29,u30,u31,u32,u33,u34,u35,u36,u37,u38,u39,u40,u41,u42,u43,u44,u45,u46,u47,u48,u49,u50,u51,u52,u53,u54,u55,u56,u57,u58,u59,u60,u61,u62,u63,u64,u65,u66,u67,u68,u69,u70,u71,u72,u73,u74,u75,u76,u77,u78,u79,u80,u81,u82,u83,u84,u85,u86,u87,u88,u89,u90,u91,u92,u93,u94,u95,u96,u97,u98,u99,u100,u101,u102,u103,u104,u105,u106,u107,u108,u109,u110,u111,u112,u113,u114,u115,u116,u117,u118,u119,u120,u121,u122,u123,u124,u125,u126,u127,u128,u129,u130,u131,u132,u133,u134,u135,u136,u137,u138,u139,u140,u141,u142,u143,u144,u145,u146,u147,u148,u149,u150,u151,u152,u153,u154,u155,u156,u157,u158,u159,u160,u161,u162,u163,u164,u165,u166,u167,u168,u169,u170,u171,u172,u173,u174,u175,u176,u177,u178,u179,u180,u181,u182,u183,u184,u185,u186,u187,u188,u189,u190,u191,u192,u193,u194,u195,u196,u197,u198,u199,u200,u201,u202,u203,u204,u205,u206,u207,u208,u209,u210,u211,u212,u213,u214,u215,u216,u217,u218,u219,u220,u221,u222,u223,u224,u225,u226,u227,u228,u229,u230,u231,u232,u233,u234,u235,u236,u237,u238,u239,u240,u241,u242],[]⟩ W:=by
 have HF:=Lib.hid hf
 have HU:=Lib.hid hu
 have HS:=Lib.hid hsy
 have HLN:=Lib.hid hln
 have HN:=Lib.hid hn
 have HK:=Lib.hid hk
 have HC':=Lib.hid hc'
 obtain rfl:=how (by rintro rfl; simp at hum)
 have xw : W.cell? ⟨gw,1 + m,none⟩ = some (.string u):=by
  obtain ⟨i,cur,hi,hw⟩:=L.box
  rw [show 1 + m = m + 1 by omega]
  exact (M0.mem.cell (i + 1) (by simpa using hi) (m + 1)).trans (hw (m + 1) u (by simpa using hum))
 have hus : u.size ≤ 262144:=L.small u (List.mem_cons_of_mem _ (List.mem_of_getElem? hum))
 have HNUM:=Lib.hid (number_calls u hus W (S.below M0.mem.below))
 have HNM:=Lib.hid (fun W => name_calls u hus W)
 have HRF:=Lib.hid (fun W => listing_refers.calls op _ W (refers_some op))
 have hml : m < r.length:=(List.getElem?_eq_some_iff.1 hum).1
 have hmI : (m : Int) < (r.length : Int):=by omega
 have hml2 : r.length ≤ c':=hc'
 rw [hnv] at HNUM
 rw [imm_num him hm hum hnv,him]
 have hs6 : shapeV op = 6:=h6
 have s1 : (shapeV op == 6) = true:=beq_iff_eq.mpr h6
 have s2 : (shapeV op != 6) = false:=by rw [h6]; rfl
 have d1 : decide (z < -32768) = false:=decide_eq_false h1.1
 have d2 : decide (z > 32767) = true:=decide_eq_true h1.2
 have d3 : decide (32767 < z) = true:=decide_eq_true h1.2
 have ho : outOf (shapeV op) z = true:=by unfold outOf; rw [if_pos h6]; simp; omega
 rw [ho]
 have HE : (if true = true then (73 : Int) else e) = 73:=rfl
 rw [HE]
 clear him hm hum hnv h1 ho HE
 have M:=Aside0.mk M0
 clear hf hu hsy hln hn hk M0 S L hc' how
 conv => arg 2; whnf
 go_upto_if 143 with fail
 rename_i hKK
 go_wp2_with fail
 refine (HNUM.out).mono ?_
 rintro e1 w1 ⟨rfl,hb1⟩
 have M1:=Aside0.mk (M.out.call hb1)
 clear M hb1 xw
 go_wp2_with (first | ((with_reducible refine gate_store (t:=3) (p:=214) rfl ?_); refine fE M1 3 (.tmp 214) 0 4 (.int .i64 z) [.int .i64 z] [.int .i64 op,.int .i64 a,.int .i64 b,.int .i64 c,.int .i64 0] (by decide) rfl ?_ rfl (by intro q hq; rw [List.mem_singleton] at hq; subst hq; rfl) (Nat.le_refl 5) rfl; clear M1; intro w9 MZ; refine hKK _ _ ?_; (refine ins_end (h:=h) (imm:=z) (e:=73) (s:=s) MZ.out HF.out HS.out HLN.out HK.out HN.out)))
set_option maxHeartbeats 8000000 in
set_option maxRecDepth 100000 in
theorem imm_num2 {u1 u2 u3 u9 u13 u15 u16 u17 u18 u19 u20 u21 u22 u23 u24 u25 u26 u27 u28 u29 u30 u31 u32 u33 u34 u35 u36 u37 u38 u39 u40 u41 u42 u43 u44 u45 u46 u47 u48 u49 u50 u51 u52 u53 u54 u55 u56 u57 u58 u59 u60 u61 u62 u63 u64 u65 u66 u67 u68 u69 u70 u71 u72 u73 u74 u75 u76 u77 u78 u79 u80 u81 u82 u83 u84 u85 u86 u87 u88 u89 u90 u91 u92 u93 u94 u95 u96 u97 u98 u99 u100 u101 u102 u103 u104 u105 u106 u107 u108 u109 u110 u111 u112 u113 u114 u115 u116 u117 u118 u119 u120 u121 u122 u123 u124 u125 u126 u127 u128 u129 u130 u131 u132 u133 u134 u135 u136 u137 u138 u139 u140 u141 u142 u143 u144 u145 u146 u147 u148 u149 u150 u151 u152 u153 u154 u155 u156 u157 u158 u159 u160 u161 u162 u163 u164 u165 u166 u167 u168 u169 u170 u171 u172 u173 u174 u175 u176 u177 u178 u179 u180 u181 u182 u183 u184 u185 u186 u187 u188 u189 u190 u191 u192 u193 u194 u195 u196 u197 u198 u199 u200 u201 u202 u203 u204 u205 u206 u207 u208 u209 u210 u211 u212 u213 u214 u215 u216 u217 u218 u219 u220 u221 u222 u223 u224 u225 u226 u227 u228 u229 u230 u231 u232 u233 u234 u235 u236 u237 u238 u239 u240 u241 u242 : Value} (M0 : MemF esR w0 W ((gr,cellsR h s,55) :: l) (fxR h) (⟨Kd.raw 5,70,.slice (some ⟨g14,0,none⟩) 1 1,[[Value.int .i64 op,.int .i64 a,.int .i64 b,.int .i64 c,.int .i64 0]]⟩ :: rowsR h s)) (S : Std w0) (hf : Few k s) (hu : s.uses.length < k) (hsy : Says k h s) (hln : h.vs.length = s.tabs.length) (hk : k ≤ 262144) (hn : s.idle = false → n < s.ins.length ∧ n < s.code.length)
  (L : Line l gw nn cc' (s0 :: r)) (hc' : r.length ≤ c') (how : r ≠ [] → ow = 1) (him : (fieldsV (shapeV op)).2 = true) (hm : (fieldsV (shapeV op)).1 = (m : Int)) {u : ByteArray} (hum : r[m]? = some u) {z : Int} (hnv : Q.numV u.data.toList = (z,true)) (h6 : shapeV op = 6) (h1 : ¬ z < -32768 ∧ ¬ 32767 < z) :
  Code.wp Tryz.prog tail30 (bodyPost Tryz.prog Tryz.f63 fun z w' => z = .returned (.int .i64 (s.imm n op e [a,b,c] r).2) ∧ ∃ h',RdM k w0 w' gr l h' (s.imm n op e [a,b,c] r).1) ⟨#[(.pointer (some ⟨gr,0,none⟩)),u1,u2,u3,(.int .i64 0),(.int .i64 op),(.int .i64 e),(.int .i64 (n : Int)),(.int .i64 (shapeV op)),u9,(.int .i64 (m : Int)),(.bool (fieldsV (shapeV op)).2),(.slice (some ⟨gw,ow,none⟩) r.length c'),u13,(.pointer (some ⟨g14,0,none⟩)),u15,u16,u17,u18,u19,u20,u21,u22,u23,u24,u25,u26,u27,u28,u29,u30,u31,u32,u33,u34,u35,u36,u37,u38,u39,u40,u41,u42,u43,u44,u45,u46,u47,u48,u49,u50,u51,u52,u53,u54,u55,u56,u57,u58,u59,u60,u61,u62,u63,u64,u65,u66,u67,u68,u69,u70,u71,u72,u73,u74,u75,u76,u77,u78,u79,u80,u81,u82,u83,u84,u85,u86,u87,u88,u89,u90,u91,u92,u93,u94,u95,u96,u97,u98,u99,u100,u101,u102,u103,u104,u105,u106,u107,u108,u109,u110,u111,u112,u113,u114,u115,u116,u117,u118,u119,u120,u121,u122,u123,u124,u125,u126,u127,u128,u129,u130,u131,u132,u133,u134,u135,u136,u137,u138,u139,u140,u141,u142,u143,u144,u145,u146,u147,u148,u149,u150,u151,u152,u153,u154,u155,u156,u157,u158,u159,u160,u161,u162,u163,u164,u165,u166,u167,u168,u169,u170,u171,u172,u173,u174,u175,u176,u177,u178,u179,u180,u181,u182,u183,u184,u185,u186,u187,u188,u189,u190,u191,u192,u193,u194,u195,u196,u197,u198,u199,u200,u201,u202,u203,u204,u205,u206,u207,u208,u209,u210,u211,u212,u213,u214,u215,u216,u217,u218,u219,u220,u221,u222,u223,u224,u225,u226,u227,u228,u229,u230,u231,u232,u233,u234,u235,u236,u237,u238,u239,u240,u241,u242],[]⟩ W:=by
 have HF:=Lib.hid hf
 have HU:=Lib.hid hu
 have HS:=Lib.hid hsy
 have HLN:=Lib.hid hln
 have HN:=Lib.hid hn
 have HK:=Lib.hid hk
 have HC':=Lib.hid hc'
 obtain rfl:=how (by rintro rfl; simp at hum)
 have xw : W.cell? ⟨gw,1 + m,none⟩ = some (.string u):=by
  obtain ⟨i,cur,hi,hw⟩:=L.box
  rw [show 1 + m = m + 1 by omega]
  exact (M0.mem.cell (i + 1) (by simpa using hi) (m + 1)).trans (hw (m + 1) u (by simpa using hum))
 have hus : u.size ≤ 262144:=L.small u (List.mem_cons_of_mem _ (List.mem_of_getElem? hum))
 have HNUM:=Lib.hid (number_calls u hus W (S.below M0.mem.below))
 have HNM:=Lib.hid (fun W => name_calls u hus W)
 have HRF:=Lib.hid (fun W => listing_refers.calls op _ W (refers_some op))
 have hml : m < r.length:=(List.getElem?_eq_some_iff.1 hum).1
 have hmI : (m : Int) < (r.length : Int):=by omega
 have hml2 : r.length ≤ c':=hc'
 rw [hnv] at HNUM
 rw [imm_num him hm hum hnv,him]
 have hs6 : shapeV op = 6:=h6
 have s1 : (shapeV op == 6) = true:=beq_iff_eq.mpr h6
 have s2 : (shapeV op != 6) = false:=by rw [h6]; rfl
 have d1 : decide (z < -32768) = false:=decide_eq_false h1.1
 have d2 : decide (z > 32767) = false:=decide_eq_false h1.2
 have d3 : decide (32767 < z) = false:=decide_eq_false h1.2
 have ho : outOf (shapeV op) z = false:=by unfold outOf; rw [if_pos h6]; simp; omega
 rw [ho]
 have HE : (if false = true then (73 : Int) else e) = e:=rfl
 rw [HE]
 clear him hm hum hnv h1 ho HE
 have M:=Aside0.mk M0
 clear hf hu hsy hln hn hk M0 S L hc' how
 conv => arg 2; whnf
 go_upto_if 143 with fail
 rename_i hKK
 go_wp2_with fail
 refine (HNUM.out).mono ?_
 rintro e1 w1 ⟨rfl,hb1⟩
 have M1:=Aside0.mk (M.out.call hb1)
 clear M hb1 xw
 go_wp2_with (first | ((with_reducible refine gate_store (t:=3) (p:=214) rfl ?_); refine fE M1 3 (.tmp 214) 0 4 (.int .i64 z) [.int .i64 z] [.int .i64 op,.int .i64 a,.int .i64 b,.int .i64 c,.int .i64 0] (by decide) rfl ?_ rfl (by intro q hq; rw [List.mem_singleton] at hq; subst hq; rfl) (Nat.le_refl 5) rfl; clear M1; intro w9 MZ; refine hKK _ _ ?_; (refine ins_end (h:=h) (imm:=z) (e:=e) (s:=s) MZ.out HF.out HS.out HLN.out HK.out HN.out)))
set_option maxHeartbeats 8000000 in
set_option maxRecDepth 100000 in
theorem imm_num3 {u1 u2 u3 u9 u13 u15 u16 u17 u18 u19 u20 u21 u22 u23 u24 u25 u26 u27 u28 u29 u30 u31 u32 u33 u34 u35 u36 u37 u38 u39 u40 u41 u42 u43 u44 u45 u46 u47 u48 u49 u50 u51 u52 u53 u54 u55 u56 u57 u58 u59 u60 u61 u62 u63 u64 u65 u66 u67 u68 u69 u70 u71 u72 u73 u74 u75 u76 u77 u78 u79 u80 u81 u82 u83 u84 u85 u86 u87 u88 u89 u90 u91 u92 u93 u94 u95 u96 u97 u98 u99 u100 u101 u102 u103 u104 u105 u106 u107 u108 u109 u110 u111 u112 u113 u114 u115 u116 u117 u118 u119 u120 u121 u122 u123 u124 u125 u126 u127 u128 u129 u130 u131 u132 u133 u134 u135 u136 u137 u138 u139 u140 u141 u142 u143 u144 u145 u146 u147 u148 u149 u150 u151 u152 u153 u154 u155 u156 u157 u158 u159 u160 u161 u162 u163 u164 u165 u166 u167 u168 u169 u170 u171 u172 u173 u174 u175 u176 u177 u178 u179 u180 u181 u182 u183 u184 u185 u186 u187 u188 u189 u190 u191 u192 u193 u194 u195 u196 u197 u198 u199 u200 u201 u202 u203 u204 u205 u206 u207 u208 u209 u210 u211 u212 u213 u214 u215 u216 u217 u218 u219 u220 u221 u222 u223 u224 u225 u226 u227 u228 u229 u230 u231 u232 u233 u234 u235 u236 u237 u238 u239 u240 u241 u242 : Value} (M0 : MemF esR w0 W ((gr,cellsR h s,55) :: l) (fxR h) (⟨Kd.raw 5,70,.slice (some ⟨g14,0,none⟩) 1 1,[[Value.int .i64 op,.int .i64 a,.int .i64 b,.int .i64 c,.int .i64 0]]⟩ :: rowsR h s)) (S : Std w0) (hf : Few k s) (hu : s.uses.length < k) (hsy : Says k h s) (hln : h.vs.length = s.tabs.length) (hk : k ≤ 262144) (hn : s.idle = false → n < s.ins.length ∧ n < s.code.length)
  (L : Line l gw nn cc' (s0 :: r)) (hc' : r.length ≤ c') (how : r ≠ [] → ow = 1) (him : (fieldsV (shapeV op)).2 = true) (hm : (fieldsV (shapeV op)).1 = (m : Int)) {u : ByteArray} (hum : r[m]? = some u) {z : Int} (hnv : Q.numV u.data.toList = (z,true)) (h6 : shapeV op ≠ 6) (h1 : z < 0) :
  Code.wp Tryz.prog tail30 (bodyPost Tryz.prog Tryz.f63 fun z w' => z = .returned (.int .i64 (s.imm n op e [a,b,c] r).2) ∧ ∃ h',RdM k w0 w' gr l h' (s.imm n op e [a,b,c] r).1) ⟨#[(.pointer (some ⟨gr,0,none⟩)),u1,u2,u3,(.int .i64 0),(.int .i64 op),(.int .i64 e),(.int .i64 (n : Int)),(.int .i64 (shapeV op)),u9,(.int .i64 (m : Int)),(.bool (fieldsV (shapeV op)).2),(.slice (some ⟨gw,ow,none⟩) r.length c'),u13,(.pointer (some ⟨g14,0,none⟩)),u15,u16,u17,u18,u19,u20,u21,u22,u23,u24,u25,u26,u27,u28,u29,u30,u31,u32,u33,u34,u35,u36,u37,u38,u39,u40,u41,u42,u43,u44,u45,u46,u47,u48,u49,u50,u51,u52,u53,u54,u55,u56,u57,u58,u59,u60,u61,u62,u63,u64,u65,u66,u67,u68,u69,u70,u71,u72,u73,u74,u75,u76,u77,u78,u79,u80,u81,u82,u83,u84,u85,u86,u87,u88,u89,u90,u91,u92,u93,u94,u95,u96,u97,u98,u99,u100,u101,u102,u103,u104,u105,u106,u107,u108,u109,u110,u111,u112,u113,u114,u115,u116,u117,u118,u119,u120,u121,u122,u123,u124,u125,u126,u127,u128,u129,u130,u131,u132,u133,u134,u135,u136,u137,u138,u139,u140,u141,u142,u143,u144,u145,u146,u147,u148,u149,u150,u151,u152,u153,u154,u155,u156,u157,u158,u159,u160,u161,u162,u163,u164,u165,u166,u167,u168,u169,u170,u171,u172,u173,u174,u175,u176,u177,u178,u179,u180,u181,u182,u183,u184,u185,u186,u187,u188,u189,u190,u191,u192,u193,u194,u195,u196,u197,u198,u199,u200,u201,u202,u203,u204,u205,u206,u207,u208,u209,u210,u211,u212,u213,u214,u215,u216,u217,u218,u219,u220,u221,u222,u223,u224,u225,u226,u227,u228,u229,u230,u231,u232,u233,u234,u235,u236,u237,u238,u239,u240,u241,u242],[]⟩ W:=by
 have HF:=Lib.hid hf
 have HU:=Lib.hid hu
 have HS:=Lib.hid hsy
 have HLN:=Lib.hid hln
 have HN:=Lib.hid hn
 have HK:=Lib.hid hk
 have HC':=Lib.hid hc'
 obtain rfl:=how (by rintro rfl; simp at hum)
 have xw : W.cell? ⟨gw,1 + m,none⟩ = some (.string u):=by
  obtain ⟨i,cur,hi,hw⟩:=L.box
  rw [show 1 + m = m + 1 by omega]
  exact (M0.mem.cell (i + 1) (by simpa using hi) (m + 1)).trans (hw (m + 1) u (by simpa using hum))
 have hus : u.size ≤ 262144:=L.small u (List.mem_cons_of_mem _ (List.mem_of_getElem? hum))
 have HNUM:=Lib.hid (number_calls u hus W (S.below M0.mem.below))
 have HNM:=Lib.hid (fun W => name_calls u hus W)
 have HRF:=Lib.hid (fun W => listing_refers.calls op _ W (refers_some op))
 have hml : m < r.length:=(List.getElem?_eq_some_iff.1 hum).1
 have hmI : (m : Int) < (r.length : Int):=by omega
 have hml2 : r.length ≤ c':=hc'
 rw [hnv] at HNUM
 rw [imm_num him hm hum hnv,him]
 have s1 : (shapeV op == 6) = false:=beq_eq_false_iff_ne.mpr h6
 have s2 : (shapeV op != 6) = true:=bne_iff_ne.mpr h6
 have d1 : decide (z < 0) = true:=decide_eq_true h1
 have ho : outOf (shapeV op) z = true:=by unfold outOf; rw [if_neg h6]; simp; omega
 rw [ho]
 have HE : (if true = true then (73 : Int) else e) = 73:=rfl
 rw [HE]
 clear him hm hum hnv h1 ho HE
 have M:=Aside0.mk M0
 clear hf hu hsy hln hn hk M0 S L hc' how
 conv => arg 2; whnf
 go_upto_if 143 with fail
 rename_i hKK
 go_wp2_with fail
 refine (HNUM.out).mono ?_
 rintro e1 w1 ⟨rfl,hb1⟩
 have M1:=Aside0.mk (M.out.call hb1)
 clear M hb1 xw
 go_wp2_with (first | ((with_reducible refine gate_store (t:=3) (p:=214) rfl ?_); refine fE M1 3 (.tmp 214) 0 4 (.int .i64 z) [.int .i64 z] [.int .i64 op,.int .i64 a,.int .i64 b,.int .i64 c,.int .i64 0] (by decide) rfl ?_ rfl (by intro q hq; rw [List.mem_singleton] at hq; subst hq; rfl) (Nat.le_refl 5) rfl; clear M1; intro w9 MZ; refine hKK _ _ ?_; (refine ins_end (h:=h) (imm:=z) (e:=73) (s:=s) MZ.out HF.out HS.out HLN.out HK.out HN.out)))
set_option maxHeartbeats 8000000 in
set_option maxRecDepth 100000 in
theorem imm_num4 {u1 u2 u3 u9 u13 u15 u16 u17 u18 u19 u20 u21 u22 u23 u24 u25 u26 u27 u28 u29 u30 u31 u32 u33 u34 u35 u36 u37 u38 u39 u40 u41 u42 u43 u44 u45 u46 u47 u48 u49 u50 u51 u52 u53 u54 u55 u56 u57 u58 u59 u60 u61 u62 u63 u64 u65 u66 u67 u68 u69 u70 u71 u72 u73 u74 u75 u76 u77 u78 u79 u80 u81 u82 u83 u84 u85 u86 u87 u88 u89 u90 u91 u92 u93 u94 u95 u96 u97 u98 u99 u100 u101 u102 u103 u104 u105 u106 u107 u108 u109 u110 u111 u112 u113 u114 u115 u116 u117 u118 u119 u120 u121 u122 u123 u124 u125 u126 u127 u128 u129 u130 u131 u132 u133 u134 u135 u136 u137 u138 u139 u140 u141 u142 u143 u144 u145 u146 u147 u148 u149 u150 u151 u152 u153 u154 u155 u156 u157 u158 u159 u160 u161 u162 u163 u164 u165 u166 u167 u168 u169 u170 u171 u172 u173 u174 u175 u176 u177 u178 u179 u180 u181 u182 u183 u184 u185 u186 u187 u188 u189 u190 u191 u192 u193 u194 u195 u196 u197 u198 u199 u200 u201 u202 u203 u204 u205 u206 u207 u208 u209 u210 u211 u212 u213 u214 u215 u216 u217 u218 u219 u220 u221 u222 u223 u224 u225 u226 u227 u228 u229 u230 u231 u232 u233 u234 u235 u236 u237 u238 u239 u240 u241 u242 : Value} (M0 : MemF esR w0 W ((gr,cellsR h s,55) :: l) (fxR h) (⟨Kd.raw 5,70,.slice (some ⟨g14,0,none⟩) 1 1,[[Value.int .i64 op,.int .i64 a,.int .i64 b,.int .i64 c,.int .i64 0]]⟩ :: rowsR h s)) (S : Std w0) (hf : Few k s) (hu : s.uses.length < k) (hsy : Says k h s) (hln : h.vs.length = s.tabs.length) (hk : k ≤ 262144) (hn : s.idle = false → n < s.ins.length ∧ n < s.code.length)
  (L : Line l gw nn cc' (s0 :: r)) (hc' : r.length ≤ c') (how : r ≠ [] → ow = 1) (him : (fieldsV (shapeV op)).2 = true) (hm : (fieldsV (shapeV op)).1 = (m : Int)) {u : ByteArray} (hum : r[m]? = some u) {z : Int} (hnv : Q.numV u.data.toList = (z,true)) (h6 : shapeV op ≠ 6) (h1 : ¬ z < 0 ∧ 65535 < z) :
  Code.wp Tryz.prog tail30 (bodyPost Tryz.prog Tryz.f63 fun z w' => z = .returned (.int .i64 (s.imm n op e [a,b,c] r).2) ∧ ∃ h',RdM k w0 w' gr l h' (s.imm n op e [a,b,c] r).1) ⟨#[(.pointer (some ⟨gr,0,none⟩)),u1,u2,u3,(.int .i64 0),(.int .i64 op),(.int .i64 e),(.int .i64 (n : Int)),(.int .i64 (shapeV op)),u9,(.int .i64 (m : Int)),(.bool (fieldsV (shapeV op)).2),(.slice (some ⟨gw,ow,none⟩) r.length c'),u13,(.pointer (some ⟨g14,0,none⟩)),u15,u16,u17,u18,u19,u20,u21,u22,u23,u24,u25,u26,u27,u28,u29,u30,u31,u32,u33,u34,u35,u36,u37,u38,u39,u40,u41,u42,u43,u44,u45,u46,u47,u48,u49,u50,u51,u52,u53,u54,u55,u56,u57,u58,u59,u60,u61,u62,u63,u64,u65,u66,u67,u68,u69,u70,u71,u72,u73,u74,u75,u76,u77,u78,u79,u80,u81,u82,u83,u84,u85,u86,u87,u88,u89,u90,u91,u92,u93,u94,u95,u96,u97,u98,u99,u100,u101,u102,u103,u104,u105,u106,u107,u108,u109,u110,u111,u112,u113,u114,u115,u116,u117,u118,u119,u120,u121,u122,u123,u124,u125,u126,u127,u128,u129,u130,u131,u132,u133,u134,u135,u136,u137,u138,u139,u140,u141,u142,u143,u144,u145,u146,u147,u148,u149,u150,u151,u152,u153,u154,u155,u156,u157,u158,u159,u160,u161,u162,u163,u164,u165,u166,u167,u168,u169,u170,u171,u172,u173,u174,u175,u176,u177,u178,u179,u180,u181,u182,u183,u184,u185,u186,u187,u188,u189,u190,u191,u192,u193,u194,u195,u196,u197,u198,u199,u200,u201,u202,u203,u204,u205,u206,u207,u208,u209,u210,u211,u212,u213,u214,u215,u216,u217,u218,u219,u220,u221,u222,u223,u224,u225,u226,u227,u228,u229,u230,u231,u232,u233,u234,u235,u236,u237,u238,u239,u240,u241,u242],[]⟩ W:=by
 have HF:=Lib.hid hf
 have HU:=Lib.hid hu
 have HS:=Lib.hid hsy
 have HLN:=Lib.hid hln
 have HN:=Lib.hid hn
 have HK:=Lib.hid hk
 have HC':=Lib.hid hc'
 obtain rfl:=how (by rintro rfl; simp at hum)
 have xw : W.cell? ⟨gw,1 + m,none⟩ = some (.string u):=by
  obtain ⟨i,cur,hi,hw⟩:=L.box
  rw [show 1 + m = m + 1 by omega]
  exact (M0.mem.cell (i + 1) (by simpa using hi) (m + 1)).trans (hw (m + 1) u (by simpa using hum))
 have hus : u.size ≤ 262144:=L.small u (List.mem_cons_of_mem _ (List.mem_of_getElem? hum))
 have HNUM:=Lib.hid (number_calls u hus W (S.below M0.mem.below))
 have HNM:=Lib.hid (fun W => name_calls u hus W)
 have HRF:=Lib.hid (fun W => listing_refers.calls op _ W (refers_some op))
 have hml : m < r.length:=(List.getElem?_eq_some_iff.1 hum).1
 have hmI : (m : Int) < (r.length : Int):=by omega
 have hml2 : r.length ≤ c':=hc'
 rw [hnv] at HNUM
 rw [imm_num him hm hum hnv,him]
 have s1 : (shapeV op == 6) = false:=beq_eq_false_iff_ne.mpr h6
 have s2 : (shapeV op != 6) = true:=bne_iff_ne.mpr h6
 have d1 : decide (z < 0) = false:=decide_eq_false h1.1
 have d2 : decide (z > 65535) = true:=decide_eq_true h1.2
 have d3 : decide (65535 < z) = true:=decide_eq_true h1.2
 have ho : outOf (shapeV op) z = true:=by unfold outOf; rw [if_neg h6]; simp; omega
 rw [ho]
 have HE : (if true = true then (73 : Int) else e) = 73:=rfl
 rw [HE]
 clear him hm hum hnv h1 ho HE
 have M:=Aside0.mk M0
 clear hf hu hsy hln hn hk M0 S L hc' how
 conv => arg 2; whnf
 go_upto_if 143 with fail
 rename_i hKK
 go_wp2_with fail
 refine (HNUM.out).mono ?_
 rintro e1 w1 ⟨rfl,hb1⟩
 have M1:=Aside0.mk (M.out.call hb1)
 clear M hb1 xw
 go_wp2_with (first | ((with_reducible refine gate_store (t:=3) (p:=214) rfl ?_); refine fE M1 3 (.tmp 214) 0 4 (.int .i64 z) [.int .i64 z] [.int .i64 op,.int .i64 a,.int .i64 b,.int .i64 c,.int .i64 0] (by decide) rfl ?_ rfl (by intro q hq; rw [List.mem_singleton] at hq; subst hq; rfl) (Nat.le_refl 5) rfl; clear M1; intro w9 MZ; refine hKK _ _ ?_; (refine ins_end (h:=h) (imm:=z) (e:=73) (s:=s) MZ.out HF.out HS.out HLN.out HK.out HN.out)))
set_option maxHeartbeats 8000000 in
set_option maxRecDepth 100000 in
theorem imm_num5 {u1 u2 u3 u9 u13 u15 u16 u17 u18 u19 u20 u21 u22 u23 u24 u25 u26 u27 u28 u29 u30 u31 u32 u33 u34 u35 u36 u37 u38 u39 u40 u41 u42 u43 u44 u45 u46 u47 u48 u49 u50 u51 u52 u53 u54 u55 u56 u57 u58 u59 u60 u61 u62 u63 u64 u65 u66 u67 u68 u69 u70 u71 u72 u73 u74 u75 u76 u77 u78 u79 u80 u81 u82 u83 u84 u85 u86 u87 u88 u89 u90 u91 u92 u93 u94 u95 u96 u97 u98 u99 u100 u101 u102 u103 u104 u105 u106 u107 u108 u109 u110 u111 u112 u113 u114 u115 u116 u117 u118 u119 u120 u121 u122 u123 u124 u125 u126 u127 u128 u129 u130 u131 u132 u133 u134 u135 u136 u137 u138 u139 u140 u141 u142 u143 u144 u145 u146 u147 u148 u149 u150 u151 u152 u153 u154 u155 u156 u157 u158 u159 u160 u161 u162 u163 u164 u165 u166 u167 u168 u169 u170 u171 u172 u173 u174 u175 u176 u177 u178 u179 u180 u181 u182 u183 u184 u185 u186 u187 u188 u189 u190 u191 u192 u193 u194 u195 u196 u197 u198 u199 u200 u201 u202 u203 u204 u205 u206 u207 u208 u209 u210 u211 u212 u213 u214 u215 u216 u217 u218 u219 u220 u221 u222 u223 u224 u225 u226 u227 u228 u229 u230 u231 u232 u233 u234 u235 u236 u237 u238 u239 u240 u241 u242 : Value} (M0 : MemF esR w0 W ((gr,cellsR h s,55) :: l) (fxR h) (⟨Kd.raw 5,70,.slice (some ⟨g14,0,none⟩) 1 1,[[Value.int .i64 op,.int .i64 a,.int .i64 b,.int .i64 c,.int .i64 0]]⟩ :: rowsR h s)) (S : Std w0) (hf : Few k s) (hu : s.uses.length < k) (hsy : Says k h s) (hln : h.vs.length = s.tabs.length) (hk : k ≤ 262144) (hn : s.idle = false → n < s.ins.length ∧ n < s.code.length)
  (L : Line l gw nn cc' (s0 :: r)) (hc' : r.length ≤ c') (how : r ≠ [] → ow = 1) (him : (fieldsV (shapeV op)).2 = true) (hm : (fieldsV (shapeV op)).1 = (m : Int)) {u : ByteArray} (hum : r[m]? = some u) {z : Int} (hnv : Q.numV u.data.toList = (z,true)) (h6 : shapeV op ≠ 6) (h1 : ¬ z < 0 ∧ ¬ 65535 < z) :
  Code.wp Tryz.prog tail30 (bodyPost Tryz.prog Tryz.f63 fun z w' => z = .returned (.int .i64 (s.imm n op e [a,b,c] r).2) ∧ ∃ h',RdM k w0 w' gr l h' (s.imm n op e [a,b,c] r).1) ⟨#[(.pointer (some ⟨gr,0,none⟩)),u1,u2,u3,(.int .i64 0),(.int .i64 op),(.int .i64 e),(.int .i64 (n : Int)),(.int .i64 (shapeV op)),u9,(.int .i64 (m : Int)),(.bool (fieldsV (shapeV op)).2),(.slice (some ⟨gw,ow,none⟩) r.length c'),u13,(.pointer (some ⟨g14,0,none⟩)),u15,u16,u17,u18,u19,u20,u21,u22,u23,u24,u25,u26,u27,u28,u29,u30,u31,u32,u33,u34,u35,u36,u37,u38,u39,u40,u41,u42,u43,u44,u45,u46,u47,u48,u49,u50,u51,u52,u53,u54,u55,u56,u57,u58,u59,u60,u61,u62,u63,u64,u65,u66,u67,u68,u69,u70,u71,u72,u73,u74,u75,u76,u77,u78,u79,u80,u81,u82,u83,u84,u85,u86,u87,u88,u89,u90,u91,u92,u93,u94,u95,u96,u97,u98,u99,u100,u101,u102,u103,u104,u105,u106,u107,u108,u109,u110,u111,u112,u113,u114,u115,u116,u117,u118,u119,u120,u121,u122,u123,u124,u125,u126,u127,u128,u129,u130,u131,u132,u133,u134,u135,u136,u137,u138,u139,u140,u141,u142,u143,u144,u145,u146,u147,u148,u149,u150,u151,u152,u153,u154,u155,u156,u157,u158,u159,u160,u161,u162,u163,u164,u165,u166,u167,u168,u169,u170,u171,u172,u173,u174,u175,u176,u177,u178,u179,u180,u181,u182,u183,u184,u185,u186,u187,u188,u189,u190,u191,u192,u193,u194,u195,u196,u197,u198,u199,u200,u201,u202,u203,u204,u205,u206,u207,u208,u209,u210,u211,u212,u213,u214,u215,u216,u217,u218,u219,u220,u221,u222,u223,u224,u225,u226,u227,u228,u229,u230,u231,u232,u233,u234,u235,u236,u237,u238,u239,u240,u241,u242],[]⟩ W:=by
 have HF:=Lib.hid hf
 have HU:=Lib.hid hu
 have HS:=Lib.hid hsy
 have HLN:=Lib.hid hln
 have HN:=Lib.hid hn
 have HK:=Lib.hid hk
 have HC':=Lib.hid hc'
 obtain rfl:=how (by rintro rfl; simp at hum)
 have xw : W.cell? ⟨gw,1 + m,none⟩ = some (.string u):=by
  obtain ⟨i,cur,hi,hw⟩:=L.box
  rw [show 1 + m = m + 1 by omega]
  exact (M0.mem.cell (i + 1) (by simpa using hi) (m + 1)).trans (hw (m + 1) u (by simpa using hum))
 have hus : u.size ≤ 262144:=L.small u (List.mem_cons_of_mem _ (List.mem_of_getElem? hum))
 have HNUM:=Lib.hid (number_calls u hus W (S.below M0.mem.below))
 have HNM:=Lib.hid (fun W => name_calls u hus W)
 have HRF:=Lib.hid (fun W => listing_refers.calls op _ W (refers_some op))
 have hml : m < r.length:=(List.getElem?_eq_some_iff.1 hum).1
 have hmI : (m : Int) < (r.length : Int):=by omega
 have hml2 : r.length ≤ c':=hc'
 rw [hnv] at HNUM
 rw [imm_num him hm hum hnv,him]
 have s1 : (shapeV op == 6) = false:=beq_eq_false_iff_ne.mpr h6
 have s2 : (shapeV op != 6) = true:=bne_iff_ne.mpr h6
 have d1 : decide (z < 0) = false:=decide_eq_false h1.1
 have d2 : decide (z > 65535) = false:=decide_eq_false h1.2
 have d3 : decide (65535 < z) = false:=decide_eq_false h1.2
 have ho : outOf (shapeV op) z = false:=by unfold outOf; rw [if_neg h6]; simp; omega
 rw [ho]
 have HE : (if false = true then (73 : Int) else e) = e:=rfl
 rw [HE]
 clear him hm hum hnv h1 ho HE
 have M:=Aside0.mk M0
 clear hf hu hsy hln hn hk M0 S L hc' how
 conv => arg 2; whnf
 go_upto_if 143 with fail
 rename_i hKK
 go_wp2_with fail
 refine (HNUM.out).mono ?_
 rintro e1 w1 ⟨rfl,hb1⟩
 have M1:=Aside0.mk (M.out.call hb1)
 clear M hb1 xw
 go_wp2_with (first | ((with_reducible refine gate_store (t:=3) (p:=214) rfl ?_); refine fE M1 3 (.tmp 214) 0 4 (.int .i64 z) [.int .i64 z] [.int .i64 op,.int .i64 a,.int .i64 b,.int .i64 c,.int .i64 0] (by decide) rfl ?_ rfl (by intro q hq; rw [List.mem_singleton] at hq; subst hq; rfl) (Nat.le_refl 5) rfl; clear M1; intro w9 MZ; refine hKK _ _ ?_; (refine ins_end (h:=h) (imm:=z) (e:=e) (s:=s) MZ.out HF.out HS.out HLN.out HK.out HN.out)))
set_option maxHeartbeats 8000000 in
set_option maxRecDepth 100000 in
theorem ins_imm {u1 u2 u3 u9 u13 u15 u16 u17 u18 u19 u20 u21 u22 u23 u24 u25 u26 u27 u28 u29 u30 u31 u32 u33 u34 u35 u36 u37 u38 u39 u40 u41 u42 u43 u44 u45 u46 u47 u48 u49 u50 u51 u52 u53 u54 u55 u56 u57 u58 u59 u60 u61 u62 u63 u64 u65 u66 u67 u68 u69 u70 u71 u72 u73 u74 u75 u76 u77 u78 u79 u80 u81 u82 u83 u84 u85 u86 u87 u88 u89 u90 u91 u92 u93 u94 u95 u96 u97 u98 u99 u100 u101 u102 u103 u104 u105 u106 u107 u108 u109 u110 u111 u112 u113 u114 u115 u116 u117 u118 u119 u120 u121 u122 u123 u124 u125 u126 u127 u128 u129 u130 u131 u132 u133 u134 u135 u136 u137 u138 u139 u140 u141 u142 u143 u144 u145 u146 u147 u148 u149 u150 u151 u152 u153 u154 u155 u156 u157 u158 u159 u160 u161 u162 u163 u164 u165 u166 u167 u168 u169 u170 u171 u172 u173 u174 u175 u176 u177 u178 u179 u180 u181 u182 u183 u184 u185 u186 u187 u188 u189 u190 u191 u192 u193 u194 u195 u196 u197 u198 u199 u200 u201 u202 u203 u204 u205 u206 u207 u208 u209 u210 u211 u212 u213 u214 u215 u216 u217 u218 u219 u220 u221 u222 u223 u224 u225 u226 u227 u228 u229 u230 u231 u232 u233 u234 u235 u236 u237 u238 u239 u240 u241 u242 : Value} (M0 : MemF esR w0 W ((gr,cellsR h s,55) :: l) (fxR h) (⟨Kd.raw 5,70,.slice (some ⟨g14,0,none⟩) 1 1,[[Value.int .i64 op,.int .i64 a,.int .i64 b,.int .i64 c,.int .i64 0]]⟩ :: rowsR h s)) (S : Std w0) (hf : Few k s) (hu : s.uses.length < k) (hsy : Says k h s) (hln : h.vs.length = s.tabs.length) (hk : k ≤ 262144) (hn : s.idle = false → n < s.ins.length ∧ n < s.code.length)
  (L : Line l gw nn cc' (s0 :: r)) (hc' : r.length ≤ c') (how : r ≠ [] → ow = 1) (hm : (fieldsV (shapeV op)).1 = (m : Int)) (hl : (r.length : Int) = (m : Int) + (if (fieldsV (shapeV op)).2 then 1 else 0)) :
  Code.wp Tryz.prog tail30 (bodyPost Tryz.prog Tryz.f63 fun z w' => z = .returned (.int .i64 (s.imm n op e [a,b,c] r).2) ∧ ∃ h',RdM k w0 w' gr l h' (s.imm n op e [a,b,c] r).1) ⟨#[(.pointer (some ⟨gr,0,none⟩)),u1,u2,u3,(.int .i64 0),(.int .i64 op),(.int .i64 e),(.int .i64 (n : Int)),(.int .i64 (shapeV op)),u9,(.int .i64 (m : Int)),(.bool (fieldsV (shapeV op)).2),(.slice (some ⟨gw,ow,none⟩) r.length c'),u13,(.pointer (some ⟨g14,0,none⟩)),u15,u16,u17,u18,u19,u20,u21,u22,u23,u24,u25,u26,u27,u28,u29,u30,u31,u32,u33,u34,u35,u36,u37,u38,u39,u40,u41,u42,u43,u44,u45,u46,u47,u48,u49,u50,u51,u52,u53,u54,u55,u56,u57,u58,u59,u60,u61,u62,u63,u64,u65,u66,u67,u68,u69,u70,u71,u72,u73,u74,u75,u76,u77,u78,u79,u80,u81,u82,u83,u84,u85,u86,u87,u88,u89,u90,u91,u92,u93,u94,u95,u96,u97,u98,u99,u100,u101,u102,u103,u104,u105,u106,u107,u108,u109,u110,u111,u112,u113,u114,u115,u116,u117,u118,u119,u120,u121,u122,u123,u124,u125,u126,u127,u128,u129,u130,u131,u132,u133,u134,u135,u136,u137,u138,u139,u140,u141,u142,u143,u144,u145,u146,u147,u148,u149,u150,u151,u152,u153,u154,u155,u156,u157,u158,u159,u160,u161,u162,u163,u164,u165,u166,u167,u168,u169,u170,u171,u172,u173,u174,u175,u176,u177,u178,u179,u180,u181,u182,u183,u184,u185,u186,u187,u188,u189,u190,u191,u192,u193,u194,u195,u196,u197,u198,u199,u200,u201,u202,u203,u204,u205,u206,u207,u208,u209,u210,u211,u212,u213,u214,u215,u216,u217,u218,u219,u220,u221,u222,u223,u224,u225,u226,u227,u228,u229,u230,u231,u232,u233,u234,u235,u236,u237,u238,u239,u240,u241,u242],[]⟩ W:=by
 rcases Bool.eq_false_or_eq_true (fieldsV (shapeV op)).2 with him | him
 case inr => exact imm_no M0 S hf hu hsy hln hk hn L hc' how him
 case inl =>
  rw [him,if_pos rfl] at hl
  obtain ⟨u,hum⟩ : ∃ u,r[m]? = some u:=⟨_,List.getElem?_eq_getElem (by omega)⟩
  obtain ⟨z,ok,hnv⟩ : ∃ z ok,Q.numV u.data.toList = (z,ok):=⟨_,_,rfl⟩
  cases ok with
  | false =>
   cases hr : refersV op with
   | false => exact imm_txt1 M0 S hf hu hsy hln hk hn L hc' how him hm hum hnv hr
   | true =>
    cases hnb : Q.nameB u.data.toList with
    | false => exact imm_txt2 M0 S hf hu hsy hln hk hn L hc' how him hm hum hnv hr hnb
    | true => exact imm_nam M0 S hf hu hsy hln hk hn L hc' how him hm hum hnv hr hnb
  | true =>
   by_cases h6 : shapeV op = 6
   ·by_cases h1 : z < -32768
    ·exact imm_num0 M0 S hf hu hsy hln hk hn L hc' how him hm hum hnv h6 h1
    ·by_cases h2 : 32767 < z
     ·exact imm_num1 M0 S hf hu hsy hln hk hn L hc' how him hm hum hnv h6 ⟨h1,h2⟩
     ·exact imm_num2 M0 S hf hu hsy hln hk hn L hc' how him hm hum hnv h6 ⟨h1,h2⟩
   ·by_cases h1 : z < 0
    ·exact imm_num3 M0 S hf hu hsy hln hk hn L hc' how him hm hum hnv h6 h1
    ·by_cases h2 : 65535 < z
     ·exact imm_num4 M0 S hf hu hsy hln hk hn L hc' how him hm hum hnv h6 ⟨h1,h2⟩
     ·exact imm_num5 M0 S hf hu hsy hln hk hn L hc' how him hm hum hnv h6 ⟨h1,h2⟩
set_option maxHeartbeats 8000000 in
set_option maxRecDepth 100000 in
theorem ins_imm2 {u1 u2 u3 u9 u13 u15 u16 u17 u18 u19 u20 u21 u22 u23 u24 u25 u26 u27 u28 u29 u30 u31 u32 u33 u34 u35 u36 u37 u38 u39 u40 u41 u42 u43 u44 u45 u46 u47 u48 u49 u50 u51 u52 u53 u54 u55 u56 u57 u58 u59 u60 u61 u62 u63 u64 u65 u66 u67 u68 u69 u70 u71 u72 u73 u74 u75 u76 u77 u78 u79 u80 u81 u82 u83 u84 u85 u86 u87 u88 u89 u90 u91 u92 u93 u94 u95 u96 u97 u98 u99 u100 u101 u102 u103 u104 u105 u106 u107 u108 u109 u110 u111 u112 u113 u114 u115 u116 u117 u118 u119 u120 u121 u122 u123 u124 u125 u126 u127 u128 u129 u130 u131 u132 u133 u134 u135 u136 u137 u138 u139 u140 u141 u142 u143 u144 u145 u146 u147 u148 u149 u150 u151 u152 u153 u154 u155 u156 u157 u158 u159 u160 u161 u162 u163 u164 u165 u166 u167 u168 u169 u170 u171 u172 u173 u174 u175 u176 u177 u178 u179 u180 u181 u182 u183 u184 u185 u186 u187 u188 u189 u190 u191 u192 u193 u194 u195 u196 u197 u198 u199 u200 u201 u202 u203 u204 u205 u206 u207 u208 u209 u210 u211 u212 u213 u214 u215 u216 u217 u218 u219 u220 u221 u222 u223 u224 u225 u226 u227 u228 u229 u230 u231 u232 u233 u234 u235 u236 u237 u238 u239 u240 u241 u242 : Value} (M0 : MemF esR w0 W ((gr,cellsR h s,55) :: l) (fxR h) (⟨Kd.raw 5,70,.slice (some ⟨g14,0,none⟩) 1 1,[[Value.int .i64 op,.int .i64 a,.int .i64 b,.int .i64 c,.int .i64 0]]⟩ :: rowsR h s)) (S : Std w0) (hf : Few k s) (hu : s.uses.length < k) (hsy : Says k h s) (hln : h.vs.length = s.tabs.length) (hk : k ≤ 262144) (hn : s.idle = false → n < s.ins.length ∧ n < s.code.length)
  (L : Line l gw nn cc' (s0 :: r)) (hc' : r.length ≤ c') (how : r ≠ [] → ow = 1) (hm : (fieldsV (shapeV op)).1 = (m : Int)) (hl : (r.length : Int) = (m : Int) + (if (fieldsV (shapeV op)).2 then 1 else 0)) {b0 : Bool} (hb : (fieldsV (shapeV op)).2 = b0) :
  Code.wp Tryz.prog tail30 (bodyPost Tryz.prog Tryz.f63 fun z w' => z = .returned (.int .i64 (s.imm n op e [a,b,c] r).2) ∧ ∃ h',RdM k w0 w' gr l h' (s.imm n op e [a,b,c] r).1) ⟨#[(.pointer (some ⟨gr,0,none⟩)),u1,u2,u3,(.int .i64 0),(.int .i64 op),(.int .i64 e),(.int .i64 (n : Int)),(.int .i64 (shapeV op)),u9,(.int .i64 (m : Int)),(.bool b0),(.slice (some ⟨gw,ow,none⟩) r.length c'),u13,(.pointer (some ⟨g14,0,none⟩)),u15,u16,u17,u18,u19,u20,u21,u22,u23,u24,u25,u26,u27,u28,u29,u30,u31,u32,u33,u34,u35,u36,u37,u38,u39,u40,u41,u42,u43,u44,u45,u46,u47,u48,u49,u50,u51,u52,u53,u54,u55,u56,u57,u58,u59,u60,u61,u62,u63,u64,u65,u66,u67,u68,u69,u70,u71,u72,u73,u74,u75,u76,u77,u78,u79,u80,u81,u82,u83,u84,u85,u86,u87,u88,u89,u90,u91,u92,u93,u94,u95,u96,u97,u98,u99,u100,u101,u102,u103,u104,u105,u106,u107,u108,u109,u110,u111,u112,u113,u114,u115,u116,u117,u118,u119,u120,u121,u122,u123,u124,u125,u126,u127,u128,u129,u130,u131,u132,u133,u134,u135,u136,u137,u138,u139,u140,u141,u142,u143,u144,u145,u146,u147,u148,u149,u150,u151,u152,u153,u154,u155,u156,u157,u158,u159,u160,u161,u162,u163,u164,u165,u166,u167,u168,u169,u170,u171,u172,u173,u174,u175,u176,u177,u178,u179,u180,u181,u182,u183,u184,u185,u186,u187,u188,u189,u190,u191,u192,u193,u194,u195,u196,u197,u198,u199,u200,u201,u202,u203,u204,u205,u206,u207,u208,u209,u210,u211,u212,u213,u214,u215,u216,u217,u218,u219,u220,u221,u222,u223,u224,u225,u226,u227,u228,u229,u230,u231,u232,u233,u234,u235,u236,u237,u238,u239,u240,u241,u242],[]⟩ W:=by
 subst hb
 exact ins_imm M0 S hf hu hsy hln hk hn L hc' how hm hl
end
end Go.Proofs.YtdbpglhdicmhhaaGreatDoor.Hof
end
