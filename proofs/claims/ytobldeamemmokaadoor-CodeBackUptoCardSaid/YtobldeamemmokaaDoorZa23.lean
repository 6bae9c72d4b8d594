import Derived.Lib.LaidU8T
import Derived.Lib.LaidU8
import Derived.Shelf.Vars
import Derived.Test.YtobldeamemmokaaDoorRows
import Derived.Test.YtobldeamemmokaaDoorZa04
set_option linter.unusedVariables false
set_option linter.unusedSimpArgs false
set_option maxHeartbeats 64000000
namespace Go.Proofs.YtobldeamemmokaaDoor.laids
open Go Go.Proofs Go.Lib Go.Shelf
open Go.Proofs.YtobldeamemmokaaDoorTabs Go.Proofs.YtobldeamemmokaaDoorW.PrintWords
def qIB:List (String × DataW Unit):=[("unicode/utf8.acceptRanges", Rows.laid_unicode_utf8_acceptRanges),("unicode.White_Space", Rows.laid_unicode_White_Space),("strings.asciiSpace", Rows.laid_strings_asciiSpace),("unicode/utf8.first", Rows.laid_unicode_utf8_first)]
theorem qIC:Rows.laid_strings_asciiSpace (H:=Unit)=tabData .u8 asciiSpaceTab:=by kernel_rfl
theorem qFG:Tryd.prog.globalNamed "strings.asciiSpace" = some 1:=by kernel_rfl
theorem tab {W:World}(h:laidMetH Tryd.prog qIB W)(hs:W.ShapedOpen Tryd.prog):Tab W:=by
 have h':laidMet Tryd.prog qIB W:=h
 have r:VarReads Tryd.prog W "strings.asciiSpace" Rows.laid_strings_asciiSpace:=laidMet.reads h' (.tail _ (.tail _ (.head _)))
 rw[qIC] at r
 obtain⟨g',t',cs,fuel,p,hg',ht',hvar,hd⟩:=r
 have ht2:(Tryd.prog.globals[g']?).map (·.type)=some t':=ht'
 obtain rfl:1=g':=Option.some.inj (qFG.symm.trans hg')
 refine⟨?_,cell_of_shapedOpen_int (zero:=#[.int .i64 0]) (t:=3) hs (of_decide_eq_true (by kernel_rfl)) (by kernel_rfl) rfl (by kernel_rfl) (by kernel_rfl) Tryd.underlying3⟩
 have e:(Tryd.prog.globals[1]?).map (·.type)=some 145:=by kernel_rfl
 obtain rfl:=Option.some.inj (e.symm.trans ht2)
 unfold TabIs
 rw[hvar,← cells_of_tab Tryd.underlying145 Tryd.underlying5 (by kernel_rfl) (by kernel_rfl) hd]
noncomputable def laidWorld (os:Os):World:=
 let N:=(World.settled Tryd.prog os).heap.size
 let w0:=World.holding Tryd.prog os ⟨#[.cells (Lib.whiteT.map fun(z:Nat)=>Value.int .u16 (z:Int)).toArray 163,.cells #[.slice (some ⟨N,0,none⟩) 7 7,.slice none 0 0,.int .i64 2] 161],#[],[]⟩
 let put (h:Array Obj) (g:Nat) (cs:Array Value):Array Obj:=h.modify g fun
  | .cells _ t frozen=>.cells cs t frozen
  | o=>o
 let h1:=put w0.heap 1 (Lib.asciiSpaceTab.map fun z=>Value.int .u8 z).toArray
 let h2:=put h1 2 #[.pointer (some ⟨N+1,0,none⟩)]
 let h3:=put h2 3 (Lib.firstTab.map fun z=>Value.int .u8 z).toArray
 let h4:=put h3 4 ((List.range 16).flatMap fun i=>[Value.int .u8 (Lib.accLo i),Value.int .u8 (Lib.accHi i)]).toArray
 {w0 with heap:=h4}
theorem laid_met (os:Os)(args:Array Value):laidMet Tryd.prog qIB ((laidWorld os).forCall (fun _ _=>0) ⟨#[],args,[]⟩).memory:=
 laidMet_of_run' 10 (by kernel_rfl) (by kernel_rfl)
end Go.Proofs.YtobldeamemmokaaDoor.laids
