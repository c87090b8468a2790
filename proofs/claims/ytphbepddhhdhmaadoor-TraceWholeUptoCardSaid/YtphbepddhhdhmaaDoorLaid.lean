/-
  The listed variables of package trace and of the library: what their cells hold, and that calls which write nothing there keep it.
-/
import Derived.Test.YtphbepddhhdhmaaDoorOpn
import Derived.OpenShut
import Derived.Below
import Derived.Laws.Rows
import Derived.FnData
set_option linter.unusedVariables false
set_option linter.unusedSimpArgs false
namespace Go.Proofs.YtphbepddhhdhmaaDoor.Laid
open Go.RowKit Go.Proofs.YtphbepddhhdhmaaDoorW.PrintWords
def names : List ByteArray := [⟨#[100, 105, 115, 112, 97, 116, 99, 104]⟩, ⟨#[98, 101, 103, 105, 110]⟩, ⟨#[100, 111, 110, 101]⟩, ⟨#[119, 97, 105, 116]⟩, ⟨#[114, 101, 97, 100, 121]⟩, ⟨#[115, 112, 97, 119, 110]⟩, ⟨#[121, 105, 101, 108, 100]⟩, ⟨#[112, 114, 101, 101, 109, 112, 116]⟩, ⟨#[108, 101, 97, 118, 101]⟩, ⟨#[101, 120, 105, 116]⟩, ⟨#[116, 114, 97, 112]⟩, ⟨#[111, 117, 116, 112, 117, 116]⟩, ⟨#[105, 110, 112, 117, 116]⟩, ⟨#[99, 108, 111, 99, 107]⟩, ⟨#[101, 114, 114, 111, 114]⟩, ⟨#[115, 101, 110, 100]⟩, ⟨#[114, 101, 99, 118]⟩, ⟨#[112, 105, 99, 107]⟩, ⟨#[99, 108, 111, 115, 101]⟩, ⟨#[108, 111, 99, 107]⟩, ⟨#[117, 110, 108, 111, 99, 107]⟩, ⟨#[103, 114, 111, 117, 112]⟩, ⟨#[106, 111, 105, 110]⟩, ⟨#[115, 105, 103, 110, 97, 108]⟩, ⟨#[97, 119, 97, 105, 116]⟩, ⟨#[97, 99, 113, 117, 105, 114, 101]⟩, ⟨#[114, 101, 108, 101, 97, 115, 101]⟩, ⟨#[108, 111, 97, 100]⟩, ⟨#[115, 116, 111, 114, 101]⟩, ⟨#[115, 119, 97, 112]⟩, ⟨#[102, 97, 105, 108]⟩, ⟨#[97, 100, 100]⟩, ⟨#[112, 117, 116]⟩, ⟨#[103, 101, 116]⟩, ⟨#[116, 105, 109, 101, 114]⟩, ⟨#[100, 101, 97, 100]⟩]
def nameAt (i : Nat) : ByteArray := names.getD i ⟨#[]⟩
/-- The table of names (variable 0) holds its texts. -/
def LaidNames (w : World) : Prop := ∀ i < 36, w.cell? ⟨0, i, none⟩ = some (.string (nameAt i))
theorem LaidNames.below {w w1 : World} (h : LaidNames w) (hb : Below w.heap.size w w1) : LaidNames w1 := fun i hi =>
  (hb.cell (p := ⟨0, i, none⟩) (block_lt_of_cell (h i hi))).trans (h i hi)
theorem laidVars_mem {P : Program} {w : World} {name : String} {d : DataW Unit} : ∀ {laid : List (String × DataW Unit)} {ps : List MemPlace}, DataW.LaidVars P w laid ps → (name, d) ∈ laid →
    ∃ g t cs fuel p, P.globalNamed name = some g ∧ (P.globals[g]?).map (·.type) = some t ∧ w.var? P name = some cs ∧ DataW.trod (fun _ => ()) P w 0 (fun _ => true) false fuel t cs.toList = some (d, p)
  | [], _, _, hm => by simp at hm
  | (n', d') :: r, ps, h, hm => by
    obtain ⟨g, t, cs, fuel, p, q, h1, h2, h3, h4, h5, _⟩ := h
    rcases List.mem_cons.1 hm with e | hm
    · obtain ⟨rfl, rfl⟩ := Prod.mk.inj e
      exact ⟨g, t, cs, fuel, p, h1, h2, h3, h4⟩
    · exact laidVars_mem h5 hm
/-- A variable that is an array of texts: its cells. -/
theorem strings_at {P : Program} {w : World} {name : String} {laid : List (String × DataW Unit)} {ls : List (List UInt8)} {g t e : TypeId} {n : Nat} (h : laidMet P laid w) (hm : (name, (DataW.agg (ls.map fun l => .lit (.string l)) : DataW Unit)) ∈ laid)
    (hg : P.globalNamed name = some g) (hty : (P.globals[g]?).map (·.type) = some t) (ht : P.underlying t = some (.array n e)) (he : P.underlying e = some .string) (hce : P.cellsOf e = 1) :
    ∀ i < n, w.cell? ⟨g, i, none⟩ = some (.string ⟨(ls.getD i []).toArray⟩) := by
  intro i hi
  obtain ⟨ps, hps, _⟩ := h
  obtain ⟨g', t', cs, fuel, p, hg', ht', hvar, hd⟩ := laidVars_mem hps hm
  obtain rfl := Option.some.inj (hg.symm.trans hg')
  obtain rfl := Option.some.inj (hty.symm.trans ht')
  obtain ⟨xs, m, _, hx, hl, hlen, hf⟩ := DataW.trod_array ht hd
  have h1 := hf i hi
  rw [List.getElem?_eq_getElem (by omega)] at h1
  obtain ⟨s, hc, hy, _⟩ := DataW.trod_string he h1
  rw [hce, Nat.mul_one] at hc
  have h2 : cs[i]? = some (.string s) := by
    have := congrArg (·[0]?) hc
    simpa [List.getElem?_take, List.getElem?_drop] using this
  have h3 : (ls.map fun l => (DataW.lit (.string l) : DataW Unit))[i]? = some (DataW.lit (.string s.data.toList)) := by
    have h4 := congrArg Prod.fst hx
    simp only [DataW.agg.injEq] at h4
    rw [h4, List.getElem?_map, List.getElem?_eq_getElem (by omega), Option.map_some, hy]
  rw [World.var?_cell hg hvar i, h2]
  rw [List.getElem?_map, Option.map_eq_some_iff] at h3
  obtain ⟨l, h5, h6⟩ := h3
  simp only [DataW.lit.injEq, Lit.string.injEq] at h6
  rw [List.getD_eq_getElem?_getD, h5, h6]
  simp
theorem names_of {w : World} {laid : List (String × DataW Unit)} (h : laidMet Tryd.prog laid w) (hm : ("rota/trace.names", Rows.laid_rota_trace_names) ∈ laid) : LaidNames w := by
  intro i hi
  have e : (Rows.laid_rota_trace_names : DataW Unit) = .agg ((names.map fun s => s.data.toList).map fun l => .lit (.string l)) := by kernel_rfl
  rw [e] at hm
  have := strings_at h hm (g := 0) (by kernel_rfl) (by kernel_rfl) Tryd.underlying50 Tryd.underlying9 (by kernel_rfl) i hi
  rw [this]
  unfold nameAt
  rw [List.getD_eq_getElem?_getD, List.getD_eq_getElem?_getD, List.getElem?_map, List.getElem?_eq_getElem (show i < names.length from hi)]
  rfl
end Go.Proofs.YtphbepddhhdhmaaDoor.Laid
