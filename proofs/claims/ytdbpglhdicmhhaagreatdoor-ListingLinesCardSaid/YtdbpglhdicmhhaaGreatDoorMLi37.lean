import Derived.Test.YtdbpglhdicmhhaaGreatDoorMLi13
import Derived.Test.YtdbpglhdicmhhaaGreatDoorMLi15
import Derived.Test.YtdbpglhdicmhhaaGreatDoorMLi18
import Derived.Test.YtdbpglhdicmhhaaGreatDoorMLi36
import Derived.Test.YtdbpglhdicmhhaaGreatDoorRows
import Derived.Test.YtdbpglhdicmhhaaGreatDoorMLi3
import Derived.ChangeArms
import Derived.DataReads
import Derived.OpenShut
import Derived.DataElems
import Derived.SizedLaws
import Derived.ProofKit
import Derived.Test.YtdbpglhdicmhhaaGreatDoorMLi6
set_option linter.unusedVariables false
set_option linter.unusedSimpArgs false
section
namespace Go.Proofs.YtdbpglhdicmhhaaGreatDoor.Q
open Go.RowKit Go.Lib Go.Proofs.YtdbpglhdicmhhaaGreatDoor.GA Go.Proofs.YtdbpglhdicmhhaaGreatDoor.Hfits Go.Proofs.YtdbpglhdicmhhaaGreatDoorW.PrintWords Go.Proofs.YtdbpglhdicmhhaaGreatDoorW.PrintLast Go.Proofs.YtdbpglhdicmhhaaGreatDoorW.PrintMore
theorem ref_decode (w : Int) (h0 : 0 ≤ w) (h1 : w < 4294967296) : rotaref06_Decode.f w = word_Decode.f w:=by
 unfold rotaref06_Decode.f Hdec.decF
 rw [if_pos ⟨h0,h1⟩]
 rcases in_or (w / 16777216) with ⟨j,hj,ho⟩ | hn
 ·rw [word_decode j hj w h0 h1 ho,ho,table_in j hj]
  obtain ⟨_,_,s0,s1⟩:=cost_at hj
  generalize (Hfind.rowAt j).2.1 = s at *
  have a0 : 0 ≤ dA w ∧ dA w < 16:=by unfold dA; omega
  have b0 : 0 ≤ dB w ∧ dB w < 16:=by unfold dB; omega
  have m0 : 0 ≤ w % 65536 ∧ w % 65536 < 65536 ∧ 0 ≤ w % 16 ∧ w % 16 < 16 ∧ (w % 65536) % 16 = w % 16:=by omega
  simp only [Option.bind_some,if_true,has_at]
  rw [show w / 1048576 % 16 = dA w from rfl,show w / 65536 % 16 = dB w from rfl]
  have hs : s = 0 ∨ s = 1 ∨ s = 2 ∨ s = 3 ∨ s = 4 ∨ s = 5 ∨ s = 6:=by omega
  clear ho
  rcases hs with rfl | rfl | rfl | rfl | rfl | rfl | rfl
  all_goals
   simp only [Hdec.fields,Hdec.bad,Hdec.fitB,dC,dM,Hfits.fitsB,Hfits.reg]
   simp
   generalize dA w = a at *
   generalize dB w = b at *
   generalize w % 16 = c at *
   generalize w % 65536 = m at *
   repeat' split
   all_goals first | rfl | omega | (simp; omega)
 ·rw [decode_else w h0 h1 hn,table_else _ hn]
  simp
theorem dec_at {n : Int} (h : Few5 n) (j : Nat) (hj : 8 ≤ j) : rotaref07_decimal.f j n = some (bs (itoa n)):=up (fun k => rotaref07_decimal.mono n k) (dec_int n h.1 h.2).1 j hj
theorem j4_at (k : Nat) (x : List UInt8) (imm : Bool) (o a b c m : Int) (hx : x.length ≤ 1000) (hm : Few5 m) : rotaref07_Line.j4 (k + 10) (bs x) imm o a b c m = some (bs (x ++ immL imm o m),0):=by
 have hp:=pref_len o
 have hi:=itoa_len hm
 rw [rotaref07_Line.j4]
 cases imm with
 | false => rw [if_neg (by simp)]; unfold immL; simp
 | true =>
  rw [if_pos rfl,size_bs,if_pos (by omega),ahead_at (k + 7) o]
  simp only [Option.bind_some]
  rw [show (⟨#[32]⟩ : ByteArray) = bs [32] from rfl,app_bs,size_bs,size_bs,if_pos (by simp only [List.length_append,List.length_cons,List.length_nil]; omega),dec_at hm (k + 9) (by omega)]
  simp only [Option.bind_some]
  rw [app_bs,size_bs,size_bs,if_pos (by simp only [List.length_append,List.length_cons,List.length_nil]; omega),app_bs]
  simp only [immL,if_true,List.append_assoc]
theorem j3_at (k : Nat) (x : ByteArray) (low high o a b c m : Int) : rotaref07_Line.j3 (k + 11) x low high o a b c m = rotaref07_Line.j4 (k + 10) x (low != 0 || high != 0) o a b c m:=by
 rw [rotaref07_Line.j3]
 by_cases h : low = 0
 ·rw [if_pos h,h]; simp
 ·rw [if_neg h,show (low != 0) = true from bne_iff_ne.mpr h]; rfl
theorem reg_at (k : Nat) {α : Type} (x : List UInt8) (n : Int) (hx : x.length ≤ 1000) (hn : Few5 n) (hk : 8 ≤ k) (F : ByteArray → Option α) :
  (if (bs x).size + 2 ≤ 9223372036854775807 then ((rotaref07_decimal.f k n).bind fun t => (if (bs x ++ (⟨#[32,114]⟩ : ByteArray)).size + t.size ≤ 9223372036854775807 then F ((bs x ++ (⟨#[32,114]⟩ : ByteArray)) ++ t) else none)) else none) = F (bs (x ++ regL n)):=by
 have hi:=itoa_len hn
 rw [size_bs,if_pos (by omega),dec_at hn k hk]
 simp only [Option.bind_some]
 rw [show (⟨#[32,114]⟩ : ByteArray) = bs [32,114] from rfl,app_bs,size_bs,size_bs,if_pos (by simp only [List.length_append,List.length_cons,List.length_nil]; omega),app_bs]
 simp only [regL,List.append_assoc]
theorem regL_len {n : Int} (h : Few5 n) : (regL n).length ≤ 10:=by
 have:=itoa_len h
 unfold regL
 simp only [List.length_append,List.length_cons,List.length_nil]; omega
theorem line_ref {l0 : List Int} {l1 : List S41} {l2 : List S44} {i : Nat} {w : Int} (hw : l0[i]? = some w) (h0 : 0 ≤ w) (h1 : w < 4294967296) {k : Nat} (hk : k < 58) {a b c m : Int} (hd : word_Decode.f w = some ((k : Int) + 1,a,b,c,m,0)) (ha : Few5 a) (hb : Few5 b) (hc : Few5 c) (hm : Few5 m) :
  rotaref07_Line.f 20 l0 l1 l2 (i : Int) = some (bs (lineL k a b c m),0):=by
 have hil : i < l0.length:=(List.getElem?_eq_some_iff.1 hw).1
 have e : rd l0 (i : Int) = w:=by unfold rd; rw [Int.toNat_natCast,List.getD_eq_getElem?_getD,hw]; rfl
 have hnm : rotaref06_Name.f ((k : Int) + 1) = some ((Hfind.rowAt k).1,0):=by unfold rotaref06_Name.f; rw [table_in k hk]; rfl
 have hsh : rotaref06_Shape.f ((k : Int) + 1) = some ((Hfind.rowAt k).2.1,0):=by unfold rotaref06_Shape.f; rw [table_in k hk]; rfl
 have hln:=name_short hk
 have la:=regL_len ha
 have lb:=regL_len hb
 have lc:=regL_len hc
 obtain ⟨_,_,s0,s1⟩:=cost_at hk
 unfold rotaref07_Line.f
 rw [if_neg (by omega),show decide ((i : Int) ≥ (l0.length : Int)) = false from decide_eq_false (by omega),rotaref07_Line.j0,if_neg (by simp),if_pos (by omega),if_pos (by omega),e,ref_decode w h0 h1,hd]
 simp only [Option.bind_some,if_true]
 rw [hnm]
 simp only [Option.bind_some]
 rw [hsh]
 simp only [Option.bind_some]
 rw [has_at]
 simp only [Option.bind_some]
 unfold lineL
 rw [bs_of (Hfind.rowAt k).1]
 simp only [data_bs]
 generalize (Hfind.rowAt k).1.data.toList = nm at hln ⊢
 generalize (Hfind.rowAt k).2.1 = s at s0 s1 ⊢
 have hs : s = 0 ∨ s = 1 ∨ s = 2 ∨ s = 3 ∨ s = 4 ∨ s = 5 ∨ s = 6:=by omega
 have L1 : (nm ++ regL a).length ≤ 1000:=by rw [List.length_append]; omega
 have L2 : (nm ++ regL a ++ regL b).length ≤ 1000:=by rw [List.length_append,List.length_append]; omega
 have L3 : (nm ++ regL a ++ regL b ++ regL c).length ≤ 1000:=by rw [List.length_append,List.length_append,List.length_append]; omega
 have J1 : ∀ (x : List UInt8) (bb cc : Bool) (low high : Int),x.length ≤ 900 → rotaref07_Line.j1 19 (bs x) bb cc low high ((k : Int) + 1) a b c m = rotaref07_Line.j2 18 (bs (x ++ (if bb then regL b else []))) cc low high ((k : Int) + 1) a b c m:=by
  intro x bb cc low high hx
  rw [rotaref07_Line.j1]
  cases bb with
  | true => rw [if_pos rfl]; exact reg_at 18 x b (by omega) hb (by omega) (fun t => rotaref07_Line.j2 18 t cc low high ((k : Int) + 1) a b c m)
  | false => rw [if_neg (by simp)]; simp
 have J2 : ∀ (x : List UInt8) (cc : Bool) (low high : Int),x.length ≤ 950 → rotaref07_Line.j2 18 (bs x) cc low high ((k : Int) + 1) a b c m = rotaref07_Line.j3 17 (bs (x ++ (if cc then regL c else []))) low high ((k : Int) + 1) a b c m:=by
  intro x cc low high hx
  rw [rotaref07_Line.j2]
  cases cc with
  | true => rw [if_pos rfl]; exact reg_at 17 x c (by omega) hc (by omega) (fun t => rotaref07_Line.j3 17 t low high ((k : Int) + 1) a b c m)
  | false => rw [if_neg (by simp)]; simp
 have J0 : ∀ (aa bb cc : Bool) (low high : Int),(if aa = true then (if (bs nm).size + 2 ≤ 9223372036854775807 then ((rotaref07_decimal.f 19 a).bind fun t543 => (if (bs nm ++ (⟨#[32,114]⟩ : ByteArray)).size + t543.size ≤ 9223372036854775807 then (rotaref07_Line.j1 19 ((bs nm ++ (⟨#[32,114]⟩ : ByteArray)) ++ t543) bb cc low high ((k : Int) + 1) a b c m) else none)) else none) else (rotaref07_Line.j1 19 (bs nm) bb cc low high ((k : Int) + 1) a b c m)) =
   some (bs (nm ++ (if aa then regL a else []) ++ (if bb then regL b else []) ++ (if cc then regL c else []) ++ immL (low != 0 || high != 0) ((k : Int) + 1) m),0):=by
  intro aa bb cc low high
  have fin : ∀ x : List UInt8,x.length ≤ 200 → rotaref07_Line.j1 19 (bs x) bb cc low high ((k : Int) + 1) a b c m = some (bs (x ++ (if bb then regL b else []) ++ (if cc then regL c else []) ++ immL (low != 0 || high != 0) ((k : Int) + 1) m),0):=by
   intro x hx
   have hb2 : (if bb then regL b else []).length ≤ 10:=by
    split
    ·exact lb
    ·exact Nat.zero_le _
   have hc2 : (if cc then regL c else []).length ≤ 10:=by
    split
    ·exact lc
    ·exact Nat.zero_le _
   rw [J1 x bb cc low high (by omega),J2 _ cc low high (by rw [List.length_append]; omega),j3_at 6,j4_at 6 _ _ _ _ _ _ _ (by rw [List.length_append,List.length_append]; omega) hm]
  cases aa with
  | true =>
   rw [if_pos rfl]
   refine (reg_at 19 nm a (by omega) ha (by omega) (fun t => rotaref07_Line.j1 19 t bb cc low high ((k : Int) + 1) a b c m)).trans ?_
   rw [fin _ (by rw [List.length_append]; omega)]
   rfl
  | false =>
   rw [if_neg (by simp),fin nm (by omega)]
   simp
 refine (J0 _ _ _ _ _).trans ?_
 congr 2
 rcases hs with rfl | rfl | rfl | rfl | rfl | rfl | rfl
 all_goals simp [immL,List.flatMap]
theorem ref_out {l0 : List Int} {l1 : List S41} {l2 : List S44} {i : Int} (h : i < 0 ∨ (l0.length : Int) ≤ i) : rotaref07_Line.f 20 l0 l1 l2 i = some (⟨#[]⟩,1):=by
 unfold rotaref07_Line.f
 by_cases h0 : i < 0
 ·rw [if_pos h0,rotaref07_Line.j0,if_pos rfl]
 ·rw [if_neg h0,show decide (i ≥ (l0.length : Int)) = true from decide_eq_true (by omega),rotaref07_Line.j0,if_pos rfl]
theorem ref_bad {l0 : List Int} {l1 : List S41} {l2 : List S44} {i : Nat} {w : Int} (hw : l0[i]? = some w) (h0 : 0 ≤ w) (h1 : w < 4294967296) {o a b c m e : Int} (hd : word_Decode.f w = some (o,a,b,c,m,e)) (he : e ≠ 0) : rotaref07_Line.f 20 l0 l1 l2 (i : Int) = some (⟨#[]⟩,e):=by
 have hil : i < l0.length:=(List.getElem?_eq_some_iff.1 hw).1
 have e1 : rd l0 (i : Int) = w:=by unfold rd; rw [Int.toNat_natCast,List.getD_eq_getElem?_getD,hw]; rfl
 unfold rotaref07_Line.f
 rw [if_neg (by omega),show decide ((i : Int) ≥ (l0.length : Int)) = false from decide_eq_false (by omega),rotaref07_Line.j0,if_neg (by simp),if_pos (by omega),if_pos (by omega),e1,ref_decode w h0 h1,hd]
 simp only [Option.bind_some]
 rw [if_neg he]
theorem lines_same {l0 : List Int} {l1 : List S41} {l2 : List S44} (hw : ∀ x ∈ l0,0 ≤ x ∧ x < 4294967296) (i : Int) : ∃ r,listing_Line.f 8 l0 l1 l2 i = some r ∧ rotaref07_Line.f 20 l0 l1 l2 i = some r:=by
 by_cases h : i < 0 ∨ (l0.length : Int) ≤ i
 ·exact ⟨_,line_out h,ref_out h⟩
 ·obtain ⟨n,rfl⟩ : ∃ n : Nat,i = (n : Int):=⟨i.toNat,by omega⟩
  obtain ⟨w,hn⟩ : ∃ w,l0[n]? = some w:=⟨_,List.getElem?_eq_getElem (by omega)⟩
  obtain ⟨h0,h1⟩:=hw w (List.mem_of_getElem? hn)
  rcases decode_kinds w h0 h1 with ⟨k,a,b,c,m,hk,hd,fa,fb,fc,fm⟩ | ⟨o,a,b,c,m,e,hd,he⟩
  ·exact ⟨_,line_prog hn hk hd fa fb fc fm,line_ref hn h0 h1 hk hd fa fb fc fm⟩
  ·exact ⟨_,line_bad hn hd he,ref_bad hn h0 h1 hd he⟩
theorem lines_law {l0 : List Int} {l1 : List S41} {l2 : List S44} (M : Mild l0 l1 l2) (hw : ∀ x ∈ l0,0 ≤ x ∧ x < 4294967296) (i : Int) : ∃ k,rotalaw07_ListingLines.f k l0 l1 l2 i = some true:=by
 obtain ⟨k,hk⟩:=twin_same M
 obtain ⟨r,h1,h2⟩:=lines_same (l1:=l1) (l2:=l2) hw i
 refine ⟨k + 20,?_⟩
 unfold rotalaw07_ListingLines.f
 rw [up (fun j => rotalaw07_twin.mono l0 l1 l2 j) hk (k + 20) (by omega)]
 simp only [Option.bind_some]
 rw [up (fun j => listing_Line.mono l0 l1 l2 i j) h1 (k + 20) (by omega)]
 simp only [Option.bind_some]
 rw [up (fun j => rotaref07_Line.mono l0 l1 l2 i j) h2 (k + 20) (by omega)]
 simp [rotalaw07_lives.f]
end Go.Proofs.YtdbpglhdicmhhaaGreatDoor.Q
end

section
namespace Go.Proofs.YtdbpglhdicmhhaaGreatDoor.Opn
open Go.Proofs.YtdbpglhdicmhhaaGreatDoorW.PrintWords
structure Opens {α : Type} (P : Program) (t : TypeId) (d : Kd α) (G : α → Nat → Prop) : Prop where
 size : P.cellsOf t = d.sz
 mono : ∀ x m n,m ≤ n → G x m → G x n
 opens : ∀ {H : Type} (enc : TypeId × Value → H) (w : World) (base : Nat) (spare : Nat → Bool) (held : Bool) (fuel : Nat) (cs : List Value) (x : DataW H × List MemPlace),
  DataW.trod enc P w base spare held fuel t cs = some x → (∀ n ∈ x.1.weights P t,n ≤ reachBytes) → ∃ v,d.K w v cs ∧ G v (Rows.uptoBulk x.1)
variable {P : Program} {t e : TypeId}
def GInt (k : IntKind) (v : Int) (_ : Nat) : Prop:=(Lit.int k v).wf = true
def GBool (_ : Bool) (_ : Nat) : Prop:=True
def GSl {α : Type} (B : Nat) (G : α → Nat → Prop) (xs : List α) (n : Nat) : Prop:=xs.length * B ≤ 140737488351232 ∧ xs.length ≤ maxLen ∧ xs.length < n ∧ ∀ x ∈ xs,G x n
theorem opens_int {k : IntKind} (ht : P.underlying t = some (.int k)) (hc : P.cellsOf t = 1) : Opens P t (Kd.int k) (GInt k) where
 size:=hc
 mono:=fun _ _ _ _ h => h
 opens:=by
  intro H enc w base spare held fuel cs x h _
  obtain ⟨n,rfl,rfl,hw⟩:=DataW.trod_int ht h
  exact ⟨n,rfl,hw⟩
theorem opens_bool (ht : P.underlying t = some .bool) (hc : P.cellsOf t = 1) : Opens P t Kd.bool GBool where
 size:=hc
 mono:=fun _ _ _ _ h => h
 opens:=by
  intro H enc w base spare held fuel cs x h _
  obtain ⟨b,rfl,rfl⟩:=DataW.trod_bool ht h
  exact ⟨b,rfl,trivial⟩
theorem weights_all {H : Type} {P : Program} {e : TypeId} : ∀ {l : List (DataW H)} {d : DataW H},d ∈ l → ∀ n ∈ d.weights P e,n ∈ DataW.weightsAll P e l
 | a :: l,d,hd,n,hn => by
  rw [DataW.weightsAll]
  rcases List.mem_cons.1 hd with rfl | hd
  ·exact List.mem_append_left _ hn
  ·exact List.mem_append_right _ (weights_all hd n hn)
theorem bulk_all {H : Type} : ∀ {l : List (DataW H)} {d : DataW H},d ∈ l → Rows.uptoBulk d ≤ Rows.uptoBulkAll l
 | a :: l,d,hd => by
  rw [Rows.uptoBulkAll]
  rcases List.mem_cons.1 hd with rfl | hd
  ·omega
  ·have:=bulk_all hd; omega
theorem bulk_pos {H : Type} (d : DataW H) : 1 ≤ Rows.uptoBulk d:=by
 cases d with
 | lit l => cases l <;> simp [Rows.uptoBulk]
 | _ => simp [Rows.uptoBulk]
theorem bulk_len {H : Type} : ∀ l : List (DataW H),l.length ≤ Rows.uptoBulkAll l
 | [] => by simp
 | a :: l => by rw [Rows.uptoBulkAll]; have:=bulk_len l; have:=bulk_pos a; simp; omega
theorem choice_list {α : Type} {R : Nat → α → Prop} : ∀ (n : Nat),(∀ i < n,∃ v,R i v) → ∃ l : List α,l.length = n ∧ ∀ i v,l[i]? = some v → R i v
 | 0,_ => ⟨[],rfl,fun i v h => by simp at h⟩
 | n + 1,h => by
  obtain ⟨l,hl,hr⟩:=choice_list n (fun i hi => h i (by omega))
  obtain ⟨v,hv⟩:=h n (by omega)
  refine ⟨l ++ [v],by simp [hl],fun i u hu => ?_⟩
  rcases Nat.lt_or_ge i l.length with hi | hi
  ·rw [List.getElem?_append_left hi] at hu
   exact hr i u hu
  ·rw [List.getElem?_append_right hi] at hu
   have h0 : i - l.length = 0:=by
    rcases Nat.eq_zero_or_pos (i - l.length) with h0 | h0
    ·exact h0
    ·rw [List.getElem?_eq_none (by simp; omega)] at hu; cases hu
   rw [h0] at hu
   obtain rfl : v = u:=by simpa using hu
   obtain rfl : i = n:=by omega
   exact hv
theorem opens_slice {α : Type} {d : Kd α} {G : α → Nat → Prop} {B : Nat} (he : Opens P e d G) (ht : P.underlying t = some (.slice e)) (hc : P.cellsOf t = 1) (hB : P.bytesOf e = B) : Opens P t (Kd.slice e d) (GSl B G) where
 size:=hc
 mono:=fun _ _ _ hmn h => ⟨h.1,h.2.1,Nat.lt_of_lt_of_le h.2.2.1 hmn,fun x hx => he.mono _ _ _ hmn (h.2.2.2 x hx)⟩
 opens:=by
  intro H enc w base spare held fuel cs x h hw
  rcases DataW.trod_slice ht h with ⟨rfl,rfl⟩ | ⟨a,len,cap,elems,rest,n,rfl,rfl,rfl,hb,hl,hm,hlen,hel,_,_⟩
  ·exact ⟨[],⟨none,0,rfl,Nat.le_refl _,Kd.C_nil d w⟩,by simp,by simp,by simp [Rows.uptoBulk],by simp⟩
  ·simp only [DataW.weights,ht] at hw
   have hbulk : Rows.uptoBulkAll (elems.map (·.1)) < Rows.uptoBulk (DataW.slice (elems.map (·.1)) (rest.map (·.1))):=by rw [Rows.uptoBulk]; omega
   have each : ∀ i < len,∃ v,∃ c,d.K w v c ∧ G v (Rows.uptoBulk (DataW.slice (elems.map (·.1)) (rest.map (·.1)))) ∧ w.cells? base (a.add (i * P.cellsOf e)) (P.cellsOf e) = some c:=by
    intro i hi
    have h1:=hel i hi
    rw [List.getElem?_eq_getElem (by omega)] at h1
    obtain ⟨c,hc1,hc2⟩:=Option.bind_eq_some_iff.1 h1
    have hmem : elems[i].1 ∈ elems.map (·.1):=List.mem_map.2 ⟨_,List.getElem_mem _,rfl⟩
    obtain ⟨v,hv1,hv2⟩:=he.opens enc w base spare held n c _ hc2 (fun q hq => hw q (List.mem_cons_of_mem _ (List.mem_append_left _ (weights_all hmem q hq))))
    exact ⟨v,c,hv1,he.mono _ _ _ (by have:=bulk_all hmem; omega) hv2,hc1⟩
   obtain ⟨l,hl1,hl2⟩:=choice_list len each
   refine ⟨l,⟨some a,cap,by rw [hl1],by omega,?_⟩,?_,by rw [hl1]; omega,?_,?_⟩
   ·rw [hl1]
    refine ⟨hl1,by unfold maxLen at hm; omega,fun _ => ⟨a,rfl,fun j p hj => ?_⟩⟩
    obtain ⟨c,hc1,_,hc3⟩:=hl2 j p hj
    obtain ⟨_,hc4,hc5⟩:=World.cells?_some hc3
    refine ⟨c,by rw [hc4,he.size],hc1,fun i u hu => ?_⟩
    have hi : i < P.cellsOf e:=by
     rcases Nat.lt_or_ge i c.length with h | h
     ·omega
     ·rw [List.getElem?_eq_none h] at hu; cases hu
    have:=hc5 i hi
    rw [hu] at this
    rw [← this,← he.size]
    rw [Addr.add_add]
   ·have h1:=hw _ (List.mem_cons_self)
    rw [hl1,← hB,← hlen]
    have h2 : elems.length * P.bytesOf e ≤ ((elems.map (·.1)).length + (rest.map (·.1)).length) * P.bytesOf e:=Nat.mul_le_mul_right _ (by simp)
    exact Nat.le_trans h2 (by simpa [reachBytes] using h1)
   ·rw [hl1,← hlen]
    have:=bulk_len (elems.map (·.1))
    simp at this ⊢
    simp at hbulk
    omega
   ·intro x hx
    obtain ⟨i,hi,rfl⟩:=List.getElem_of_mem hx
    exact (hl2 i _ (List.getElem?_eq_getElem hi)).choose_spec.2.1
structure OpensSeq {α : Type} (P : Program) (ts : List TypeId) (d : Kd α) (G : α → Nat → Prop) : Prop where
 size : (ts.map P.cellsOf).sum = d.sz
 mono : ∀ x m n,m ≤ n → G x m → G x n
 opens : ∀ {H : Type} (enc : TypeId × Value → H) (w : World) (base : Nat) (spare : Nat → Bool) (held : Bool) (fuel : Nat) (cs : List Value) (xs : List (DataW H × List MemPlace)),
  cs.length = d.sz → xs.length = ts.length →
  (∀ i t,ts[i]? = some t → ∃ y,xs[i]? = some y ∧ DataW.trod enc P w base spare held fuel t ((cs.drop ((ts.take i).map P.cellsOf).sum).take (P.cellsOf t)) = some y ∧ ∀ n ∈ y.1.weights P t,n ≤ reachBytes) →
  ∃ v,d.K w v cs ∧ G v (Rows.uptoBulkAll (xs.map (·.1)))
theorem seq_one {α : Type} {d : Kd α} {G : α → Nat → Prop} (h : Opens P t d G) : OpensSeq P [t] d G where
 size:=by simp [h.size]
 mono:=h.mono
 opens:=by
  intro H enc w base spare held fuel cs xs hl hx hf
  obtain ⟨y,hy,ht,hw⟩:=hf 0 t rfl
  have e : (cs.drop 0).take (P.cellsOf t) = cs:=by rw [List.drop_zero,List.take_of_length_le (by rw [hl,h.size]; exact Nat.le_refl _)]
  simp only [List.take_zero,List.map_nil,List.sum_nil] at ht
  rw [e] at ht
  obtain ⟨v,h1,h2⟩:=h.opens enc w base spare held fuel cs y ht hw
  exact ⟨v,h1,h.mono _ _ _ (bulk_all (List.mem_map.2 ⟨y,List.mem_of_getElem? hy,rfl⟩)) h2⟩
def GPair {α β : Type} (G : α → Nat → Prop) (G' : β → Nat → Prop) (x : α × β) (n : Nat) : Prop:=G x.1 n ∧ G' x.2 n
theorem seq_cons {α β : Type} {d : Kd α} {G : α → Nat → Prop} {ts : List TypeId} {d' : Kd β} {G' : β → Nat → Prop} (h : Opens P t d G) (h' : OpensSeq P ts d' G') : OpensSeq P (t :: ts) (Kd.pair d d') (GPair G G') where
 size:=by show _ = d.sz + d'.sz; simp [h.size,← h'.size]
 mono:=fun x m n hmn hx => ⟨h.mono _ _ _ hmn hx.1,h'.mono _ _ _ hmn hx.2⟩
 opens:=by
  intro H enc w base spare held fuel cs xs hl hx hf
  replace hl : cs.length = d.sz + d'.sz:=hl
  obtain ⟨y,hy,ht,hw⟩:=hf 0 t rfl
  simp only [List.take_zero,List.map_nil,List.sum_nil,List.drop_zero] at ht
  obtain ⟨v,h1,h2⟩:=h.opens enc w base spare held fuel _ y ht hw
  match xs,hx with
  | [],hx => simp at hx
  | x0 :: xs,hx =>
   obtain rfl : x0 = y:=by simpa using hy
   obtain ⟨v',h3,h4⟩:=h'.opens enc w base spare held fuel (cs.drop (P.cellsOf t)) xs (by rw [List.length_drop,hl,h.size]; omega) (by simpa using hx) (fun i t' hi => by
    obtain ⟨y',hy',ht',hw'⟩:=hf (i + 1) t' (by simpa using hi)
    refine ⟨y',by simpa using hy',?_,hw'⟩
    rw [List.drop_drop]
    simpa [List.take_succ_cons] using ht')
   refine ⟨(v,v'),⟨cs.take (P.cellsOf t),cs.drop (P.cellsOf t),(List.take_append_drop _ _).symm,h1,h3⟩,?_,?_⟩
   ·refine h.mono _ _ _ ?_ h2
    rw [List.map_cons,Rows.uptoBulkAll]; omega
   ·refine h'.mono _ _ _ ?_ h4
    rw [List.map_cons,Rows.uptoBulkAll]; omega
def offsB (P : Program) : Nat → List Field → Bool
 | _,[] => true
 | o,f :: r => (f.offset == o) && offsB P (o + P.cellsOf f.type) r
theorem offs_at : ∀ {l : List Field} {o : Nat},offsB P o l = true → ∀ i f,l[i]? = some f → f.offset = o + (((l.map (·.type)).take i).map P.cellsOf).sum
 | [],o,_,i,f,hf => by simp at hf
 | a :: l,o,h,i,f,hf => by
  simp only [offsB,Bool.and_eq_true,beq_iff_eq] at h
  cases i with
  | zero =>
  obtain rfl : a = f:=by simpa using hf
  simp [h.1]
  | succ i =>
   have:=offs_at h.2 i f (by simpa using hf)
   rw [this]
   simp [List.take_succ_cons]; omega
theorem weights_each {H : Type} : ∀ {ts : List TypeId} {ds : List (DataW H)} {i : Nat} {t : TypeId} {d : DataW H},ts[i]? = some t → ds[i]? = some d → ∀ n ∈ d.weights P t,n ∈ DataW.weightsEach P ts ds :=
 fun ht hd n hn => DataW.weights_mem_each ht hd n hn
theorem opens_struct {α β : Type} {d : Kd α} {G : α → Nat → Prop} {fs : Array Field} {ts : List TypeId} (h : OpensSeq P ts d G) (ht : P.underlying t = some (.struct fs)) (hts : fs.toList.map (·.type) = ts) (ho : offsB P 0 fs.toList = true)
  (hc : P.cellsOf t = d.sz) (f : β → α) (g : α → β) (hfg : ∀ a,f (g a) = a) : Opens P t (Kd.iso d f) (fun x n => G (f x) n) where
 size:=hc
 mono:=fun x m n hmn hx => h.mono _ _ _ hmn hx
 opens:=by
  intro H enc w base spare held fuel cs x hx hw
  obtain ⟨xs,n,_,rfl,hl,hlen,hf⟩:=DataW.trod_struct ht hx
  have hlen2 : xs.length = ts.length:=by rw [hlen,← hts]; simp
  simp only [DataW.weights,ht,hts] at hw
  obtain ⟨v,h1,h2⟩:=h.opens enc w base spare held n cs xs (hl.trans hc) hlen2 (fun i t' hi => by
   have hi2 : i < ts.length:=by
    rcases Nat.lt_or_ge i ts.length with h | h
    ·exact h
    ·rw [List.getElem?_eq_none h] at hi; cases hi
   have hfi : ∃ fi : Field,fs[i]? = some fi ∧ fi.type = t':=by
    rw [← hts,List.getElem?_map] at hi
    obtain ⟨fi,h3,h4⟩:=Option.map_eq_some_iff.1 hi
    exact ⟨fi,by simpa using h3,h4⟩
   obtain ⟨fi,hfi1,rfl⟩:=hfi
   have h5:=hf i fi hfi1
   refine ⟨xs[i],List.getElem?_eq_getElem (by omega),?_,?_⟩
   ·rw [List.getElem?_eq_getElem (by omega)] at h5
    have:=offs_at ho i fi (by simpa using hfi1)
    rw [hts,Nat.zero_add] at this
    rw [← this]
    exact h5
   ·intro q hq
    exact hw q (weights_each hi (by rw [List.getElem?_map,List.getElem?_eq_getElem (by omega)]; rfl) q hq))
  refine ⟨g v,by show d.K w (f (g v)) cs; rw [hfg]; exact h1,?_⟩
  show G (f (g v)) _
  rw [hfg]
  exact h.mono _ _ _ (by rw [Rows.uptoBulk]; omega) h2
end Go.Proofs.YtdbpglhdicmhhaaGreatDoor.Opn
end

section
namespace Go.Proofs.YtdbpglhdicmhhaaGreatDoor.Kinds
open Go.RowKit Go.Proofs.YtdbpglhdicmhhaaGreatDoorW.PrintWords Go.Proofs.YtdbpglhdicmhhaaGreatDoor.Opn Go.Proofs.YtdbpglhdicmhhaaGreatDoor.GA
theorem o3 : Opens Tryz.prog 3 (Kd.int .i64) (GInt .i64):=opens_int Tryz.underlying3 (by kernel_rfl)
theorem o4 : Opens Tryz.prog 4 Kd.bool (fun _ _ => True):=opens_bool Tryz.underlying4 (by kernel_rfl)
theorem o39 : Opens Tryz.prog 39 (Kd.int .u32) (GInt .u32):=opens_int Tryz.underlying39 (by kernel_rfl)
theorem o22 : Opens Tryz.prog 22 (Kd.slice 39 (Kd.int .u32)) (GSl 4 (GInt .u32)):=opens_slice o39 Tryz.underlying22 (by kernel_rfl) (B:=4) (by kernel_rfl)
def G41 (x : S41) (n : Nat) : Prop:=GPair (GInt .i64) (GInt .i64) (x.f0,x.f1) n
theorem o41 : Opens Tryz.prog 41 k41 G41 :=
 opens_struct (seq_cons o3 (seq_one o3)) Tryz.underlying41 (by kernel_rfl) (by kernel_rfl) (by kernel_rfl) _ (fun a => ⟨a.1,a.2⟩) (fun _ => rfl)
theorem o23 : Opens Tryz.prog 23 (Kd.slice 41 k41) (GSl 16 G41):=opens_slice o41 Tryz.underlying23 (by kernel_rfl) (B:=16) (by kernel_rfl)
def G46 (x : S46) (n : Nat) : Prop:=GPair (fun _ _ => True) (GPair (GInt .i64) (GPair (GInt .i64) (GInt .i64))) (x.f0,x.f1,x.f2,x.f3) n
theorem o46 : Opens Tryz.prog 46 k46 G46 :=
 opens_struct (seq_cons o4 (seq_cons o3 (seq_cons o3 (seq_one o3)))) Tryz.underlying46 (by kernel_rfl) (by kernel_rfl) (by kernel_rfl) _ (fun a => ⟨a.1,a.2.1,a.2.2.1,a.2.2.2⟩) (fun _ => rfl)
theorem o42 : Opens Tryz.prog 42 (Kd.slice 46 k46) (GSl 32 G46):=opens_slice o46 Tryz.underlying42 (by kernel_rfl) (B:=32) (by kernel_rfl)
def G44 (x : S44) (n : Nat) : Prop:=GPair (GSl 32 G46) (fun _ _ => True) (x.f0,x.f1) n
theorem o44 : Opens Tryz.prog 44 k44 G44 :=
 opens_struct (seq_cons o42 (seq_one o4)) Tryz.underlying44 (by kernel_rfl) (by kernel_rfl) (by kernel_rfl) _ (fun a => ⟨a.1,a.2⟩) (fun _ => rfl)
theorem o24 : Opens Tryz.prog 24 (Kd.slice 44 k44) (GSl 32 G44):=opens_slice o44 Tryz.underlying24 (by kernel_rfl) (B:=32) (by kernel_rfl)
structure S26 where
 code : List Int
 funcs : List S41
 tabs : List S44
def k26 : Kd S26:=Kd.iso (Kd.pair (Kd.slice 39 (Kd.int .u32)) (Kd.pair (Kd.slice 41 k41) (Kd.slice 44 k44))) (fun x : S26 => (x.code,x.funcs,x.tabs))
theorem k26_open {w : World} {x : S26} {cs : List Value} (h : k26.K w x cs) : ∃ A0 c0 A1 c1 A2 c2,cs = [.slice A0 x.code.length c0,.slice A1 x.funcs.length c1,.slice A2 x.tabs.length c2] ∧ x.code.length ≤ c0 ∧ (Kd.int .u32).C w A0 x.code.length x.code ∧ x.funcs.length ≤ c1 ∧ k41.C w A1 x.funcs.length x.funcs ∧ x.tabs.length ≤ c2 ∧ k44.C w A2 x.tabs.length x.tabs:=by
 obtain ⟨_,_,rfl,⟨A0,c0,rfl,h0,h1⟩,⟨_,_,rfl,⟨A1,c1,rfl,h2,h3⟩,⟨A2,c2,rfl,h4,h5⟩⟩⟩:=h
 exact ⟨A0,c0,A1,c1,A2,c2,rfl,h0,h1,h2,h3,h4,h5⟩
def G26 (x : S26) (n : Nat) : Prop:=GPair (GSl 4 (GInt .u32)) (GPair (GSl 16 G41) (GSl 32 G44)) (x.code,x.funcs,x.tabs) n
theorem o26 : Opens Tryz.prog 26 k26 G26 :=
 opens_struct (seq_cons o22 (seq_cons o23 (seq_one o24))) Tryz.underlying26 (by kernel_rfl) (by kernel_rfl) (by kernel_rfl) _ (fun a => ⟨a.1,a.2.1,a.2.2⟩) (fun _ => rfl)
theorem mild {x : S26} {n : Nat} (h : G26 x n) : Q.Mild x.code x.funcs x.tabs:=by
 have h0:=h.1.1
 have h1:=h.2.1.1
 have h2:=h.2.2.1
 have h3:=h.2.2.2.2.2
 dsimp only at h0 h1 h2 h3
 refine ⟨by omega,by omega,by omega,fun t ht => ?_⟩
 have h4:=(h3 t ht).1.1
 dsimp only at h4
 omega
theorem wf_u32 {n : Int} (h : (Lit.int IntKind.u32 n).wf = true) : 0 ≤ n ∧ n < 4294967296:=by
 unfold Lit.wf at h
 rw [Bool.and_eq_true] at h
 have a:=of_decide_eq_true h.1
 have b:=of_decide_eq_true h.2
 rw [show IntKind.u32.min = 0 by decide] at a
 rw [show IntKind.u32.max = 4294967295 by decide] at b
 omega
theorem words {x : S26} {n : Nat} (h : G26 x n) : ∀ y ∈ x.code,0 ≤ y ∧ y < 4294967296:=fun y hy => wf_u32 (h.1.2.2.2 y hy)
end Go.Proofs.YtdbpglhdicmhhaaGreatDoor.Kinds
end
