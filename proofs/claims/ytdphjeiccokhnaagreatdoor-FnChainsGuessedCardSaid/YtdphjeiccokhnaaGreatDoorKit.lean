/- Small laws on reading arguments, by which a struct that comes in is opened cell by cell. No condition beyond those that each law names. -/
import Derived.WalkKit
import Derived.ProofKit
import Derived.OpenShut
import Derived.ShutString
import Derived.ChangeOld
import Derived.Below
import Derived.Carry
import Derived.SizedLaws
namespace Go.Proofs.YtdphjeiccokhnaaGreatDoor.Kit
open Go.ChangeShapes Go.WideShapes Go.ChangeAt Go.RowKit
section
variable {H:Type} {enc:TypeId×Value→H} {P:Program} {w:World} {base:Nat} {spare:Nat→Bool} {held:Bool}
theorem field_any {t:TypeId} {fs:Array Field} {fuel:Nat} {cs:List Value} {x:DataW H×List MemPlace} (ht:P.underlying t=some (.struct fs))
    (h:DataW.trod enc P w base spare held fuel t cs=some x) (i:Nat) {f:Field} (hf:fs[i]? = some f) :
    ∃n y,DataW.trod enc P w base spare held n f.type ((cs.drop f.offset).take (P.cellsOf f.type))=some y:=by
  obtain ⟨xs,n,_,_,_,hl,hg⟩:=DataW.trod_struct ht h
  have h1:=hg i f hf
  have hi:i<xs.length:=by rw [hl];exact (Array.getElem?_eq_some_iff.1 hf).1
  rw [List.getElem?_eq_getElem hi] at h1
  exact ⟨n,_,h1⟩
theorem int_get {t:TypeId} {k:IntKind} {fuel:Nat} {cs:List Value} {x:DataW H×List MemPlace} (ht:P.underlying t=some (.int k))
    (h:DataW.trod enc P w base spare held fuel t cs=some x):∃z,cs[0]? = some (.int k z)∧(Lit.int k z).wf=true:=by
  obtain ⟨z,rfl,_,hw⟩:=DataW.trod_int ht h
  exact ⟨z,rfl,hw⟩
theorem sub_get {cs:List Value} {o c j:Nat} {v:Value} (h:((cs.drop o).take c)[j]? = some v):cs[o+j]? = some v:=by
  rw [List.getElem?_take] at h
  split at h
  · rw [List.getElem?_drop] at h;exact h
  · cases h
theorem getl {l zs:List Value} (hl:l.length=zs.length) (h:∀i,i<zs.length→l[i]? = zs[i]?):l=zs:=by
  apply List.ext_getElem?;intro i
  by_cases hi:i<zs.length
  · exact h i hi
  · rw [List.getElem?_eq_none (by omega),List.getElem?_eq_none (by omega)]
end
theorem isSome_setCell (w:World) (a b:Addr) (v:Value):((w.setCell a v).cell? b).isSome=(w.cell? b).isSome:=by
  by_cases h:a=b
  · subst h
    cases e:w.cell? a with
    | some u=>rw [World.cell?_setCell_same (h:=e)];rfl
    | none=>
      cases e2:(w.setCell a v).cell? a with
      | none=>rfl
      | some u=>
        exfalso
        unfold World.cell? World.setCell at e2
        unfold World.cell? at e
        simp only [Array.getElem?_modify,↓reduceIte] at e2
        cases hb:w.heap[a.block]? with
        | none=>simp [hb] at e2
        | some o=>
          cases o <;> simp_all
  · rw [World.cell?_setCell_other (h:=h)]
end Go.Proofs.YtdphjeiccokhnaaGreatDoor.Kit
