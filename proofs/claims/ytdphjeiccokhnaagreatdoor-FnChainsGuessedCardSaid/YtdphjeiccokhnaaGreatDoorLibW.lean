/- What the library's own variables hold where a call of it is made; behind a call they hold it still. (This seat's own text.) -/
import Derived.Below
import Derived.Lib.LaidTab
import Derived.Lib.ItoaNum
import Derived.Lib.AtoiAll
import Derived.Lib.SmallJoins
import Derived.Lib.SplitLaws
import Derived.Lib.ReplaceLaws
import Derived.Test.YtdphjeiccokhnaaGreatDoorProg
namespace Go.Proofs.YtdphjeiccokhnaaGreatDoor.LibW
open Go.RowKit
def LibOk (w : World) : Prop := (∃ m, w.cell? ⟨0, 0, none⟩ = some (.int .i64 m)) ∧ Lib.TabIs Tryz.prog w "internal/strconv.uint64pow10" .u64 Lib.pow10Tab ∧ (∃ tp p, w.var? Tryz.prog "strconv.ErrSyntax" = some #[.iface tp p]) ∧ (∃ tp p, w.var? Tryz.prog "strconv.ErrRange" = some #[.iface tp p])
theorem var_below {P:Program} {n:String} {c:Array Value} {w w':World} (h:w.var? P n=some c) (hb:Below w.heap.size w w'):w'.var? P n=some c:=by
  unfold World.var? at *
  cases hg:P.globalNamed n with
  | none=>rw [hg] at h;cases h
  | some g=>
    rw [hg] at h
    simp only [Option.bind_some] at h ⊢
    cases hc:w.heap[g]? with
    | none=>rw [hc] at h;cases h
    | some o=>
      have:w'.heap[g]? = w.heap[g]?:=hb.block g (Array.getElem?_eq_some_iff.1 hc).1
      rw [this]
      exact h
theorem tab_below {w w':World} (h:LibOk w) (hb:Below w.heap.size w w'):LibOk w':=by
  obtain ⟨⟨m,hm⟩,ht,⟨t1,p1,h1⟩,⟨t2,p2,h2⟩⟩:=h
  refine ⟨⟨m,?_⟩,var_below ht hb,⟨t1,p1,var_below h1 hb⟩,⟨t2,p2,var_below h2 hb⟩⟩
  unfold World.cell? at *
  cases hc:w.heap[0]? with
  | none=>rw [hc] at hm;cases hm
  | some o=>
    have:w'.heap[0]? = w.heap[0]?:=hb.block 0 (Array.getElem?_eq_some_iff.1 hc).1
    rw [this]
    exact hm
end Go.Proofs.YtdphjeiccokhnaaGreatDoor.LibW
