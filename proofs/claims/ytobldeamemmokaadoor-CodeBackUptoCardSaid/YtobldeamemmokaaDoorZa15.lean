import Derived.Test.YtobldeamemmokaaDoorZa05
import Derived.Shelf.Utf8.RuneCount
import Derived.Shelf.Strings.Search1
import Derived.Shelf.Strings.Search2
import Derived.Shelf.Strings.Search3
import Derived.Shelf.Strings.Cut
import Derived.Shelf.Strings.Count
import Derived.Shelf.LaysM
import Derived.Shelf.Strings.Shaped
import Derived.Shelf.Strings.Split
import Derived.Shelf.Strings.Fields
import Derived.Shelf.Strings.SplitShaped
import Derived.Shelf.Unicode.Latin
import Derived.Shelf.Unicode.Decode
import Derived.Shelf.Strings.RuneCount
import Derived.Shelf.Strings.Explode
import Derived.Shelf.Unicode.DecodeSlow
import Derived.Shelf.Unicode.DecodeAny
import Derived.Shelf.Unicode.Is16White
import Derived.Shelf.Unicode.IsSpaceAny
import Derived.Shelf.Unicode.Is16Any
import Derived.Shelf.Unicode.Is32Any
import Derived.Shelf.Unicode.ExclAny
import Derived.Test.YtobldeamemmokaaDoorProg
set_option linter.unusedVariables false
set_option linter.unusedSimpArgs false
set_option maxHeartbeats 64000000
namespace Go.Proofs.YtobldeamemmokaaDoor.P
open Go.RowKit Go.Proofs.YtobldeamemmokaaDoorW.PrintWords Go.Proofs.YtobldeamemmokaaDoorW.PrintLast Go.Proofs.YtobldeamemmokaaDoorW.PrintMore
def qFc (x:ju):List Value:=[.int .i64 x.f0,.string x.f1,.string x.f2,.string x.f3,.int .u8 x.f4,.string x.f5,.bool x.f6]
theorem yx (w:World)(base:Nat)(ok:Nat→Prop):∀ xs:List ju,Reps (Kd.M qAg w base ok) 7 xs (xs.flatMap qFc)
 | []=>Reps.none _ _
 | x::xs=>Reps.c7 (qGl w base ok x) (yx w base ok xs)
end Go.Proofs.YtobldeamemmokaaDoor.P
namespace Go.Proofs.YtobldeamemmokaaDoor.Sh
open Go.Shelf Go.Proofs
def Tryd.lays145_ren:Go.Shelf.Ren:=⟨fun|145=>61|220=>77|219=>86|217=>94|225=>95|224=>96|267=>97|266=>101|314=>102|n=>n,fun|9=>9|4=>4|59=>110|3=>3|5=>5|46=>48|146=>149|51=>34|n=>n,fun|1=>0|n=>n⟩
theorem Tryd.lays145:Go.Proofs.Lays.n145 Tryd.prog Tryd.lays145_ren:={
 mixed:=by kernel_rfl
 f145:=Tryd.func61.trans (congrArg some (by kernel_rfl))
 f217:=Tryd.func94.trans (congrArg some (by kernel_rfl))
 f219:=Tryd.func86.trans (congrArg some (by kernel_rfl))
 f220:=Tryd.func77.trans (congrArg some (by kernel_rfl))
 f224:=Tryd.func96.trans (congrArg some (by kernel_rfl))
 f225:=Tryd.func95.trans (congrArg some (by kernel_rfl))
 f266:=Tryd.func101.trans (congrArg some (by kernel_rfl))
 f267:=Tryd.func97.trans (congrArg some (by kernel_rfl))
 f314:=Tryd.func102.trans (congrArg some (by kernel_rfl))
 t3:=Tryd.underlying3
 a3:=Tryd.isAgg3
 z3:=Tryd.sizeOf3
 v3:=Tryd.zeroValue3
 t4:=Tryd.underlying4
 a4:=Tryd.isAgg4
 z4:=Tryd.sizeOf4
 v4:=Tryd.zeroValue4
 t5:=Tryd.underlying5
 a5:=Tryd.isAgg5
 z5:=Tryd.sizeOf5
 v5:=Tryd.zeroValue5
 t9:=Tryd.underlying9
 a9:=Tryd.isAgg9
 z9:=Tryd.sizeOf9
 v9:=Tryd.zeroValue9
 t46:=Tryd.underlying48
 a46:=Tryd.isAgg48
 z46:=Tryd.sizeOf48
 v46:=Tryd.zeroValue48
 t51:=Tryd.underlying34
 a51:=Tryd.isAgg34
 z51:=Tryd.sizeOf34
 v51:=Tryd.zeroValue34
 t59:=Tryd.underlying110
 a59:=Tryd.isAgg110
 z59:=Tryd.sizeOf110
 v59:=Tryd.zeroValue110
 t146:=Tryd.underlying149
 a146:=Tryd.isAgg149
 z146:=Tryd.sizeOf149
 v146:=Tryd.zeroValue149
 g1:=by kernel_rfl}
open Go.RowKit Go.Lib in
theorem Tryd.strings_Cut (s sep:ByteArray)(m:Int)(w:World)(hs:s.size<4294967281)(hm:w.cell? ⟨0,0,none⟩=some (.int .i64 m)):
 Calls Tryd.prog 61 #[.string s,.string sep] w fun e w'=>e = .returned (.tuple #[.string ⟨(Lib.cut s.data.toList sep.data.toList).1.toArray⟩,.string ⟨(Lib.cut s.data.toList sep.data.toList).2.1.toArray⟩,.bool (Lib.cut s.data.toList sep.data.toList).2.2])∧∃ n,w'=w.drewN n:=Any.strings_Cut Tryd.lays145 s sep m w hs hm
def Tryd.lays138_ren:Go.Shelf.Ren:=⟨fun|138=>84|195=>90|218=>91|143=>92|219=>86|217=>94|225=>95|224=>96|267=>97|266=>101|314=>102|n=>n,fun|9=>9|3=>3|4=>4|5=>5|0=>0|46=>48|146=>149|51=>34|n=>n,fun|1=>0|n=>n⟩
theorem Tryd.lays138:Go.Proofs.Lays.n138 Tryd.prog Tryd.lays138_ren:={
 mixed:=by kernel_rfl
 f138:=Tryd.func84.trans (congrArg some (by kernel_rfl))
 f143:=Tryd.func92.trans (congrArg some (by kernel_rfl))
 f195:=Tryd.func90.trans (congrArg some (by kernel_rfl))
 f217:=Tryd.func94.trans (congrArg some (by kernel_rfl))
 f218:=Tryd.func91.trans (congrArg some (by kernel_rfl))
 f219:=Tryd.func86.trans (congrArg some (by kernel_rfl))
 f224:=Tryd.func96.trans (congrArg some (by kernel_rfl))
 f225:=Tryd.func95.trans (congrArg some (by kernel_rfl))
 f266:=Tryd.func101.trans (congrArg some (by kernel_rfl))
 f267:=Tryd.func97.trans (congrArg some (by kernel_rfl))
 f314:=Tryd.func102.trans (congrArg some (by kernel_rfl))
 t0:=Tryd.underlying0
 a0:=Tryd.isAgg0
 z0:=Tryd.sizeOf0
 v0:=Tryd.zeroValue0
 t3:=Tryd.underlying3
 a3:=Tryd.isAgg3
 z3:=Tryd.sizeOf3
 v3:=Tryd.zeroValue3
 t4:=Tryd.underlying4
 a4:=Tryd.isAgg4
 z4:=Tryd.sizeOf4
 v4:=Tryd.zeroValue4
 t5:=Tryd.underlying5
 a5:=Tryd.isAgg5
 z5:=Tryd.sizeOf5
 v5:=Tryd.zeroValue5
 t9:=Tryd.underlying9
 a9:=Tryd.isAgg9
 z9:=Tryd.sizeOf9
 v9:=Tryd.zeroValue9
 t46:=Tryd.underlying48
 a46:=Tryd.isAgg48
 z46:=Tryd.sizeOf48
 v46:=Tryd.zeroValue48
 t51:=Tryd.underlying34
 a51:=Tryd.isAgg34
 z51:=Tryd.sizeOf34
 v51:=Tryd.zeroValue34
 t146:=Tryd.underlying149
 a146:=Tryd.isAgg149
 z146:=Tryd.sizeOf149
 v146:=Tryd.zeroValue149
 g1:=by kernel_rfl}
open Go.RowKit Go.Lib in
theorem Tryd.strings_Count_one (s:ByteArray)(c:UInt8)(w:World):
 Calls Tryd.prog 84 #[.string s,.string ⟨#[c]⟩] w fun e w'=>e = .returned (.int .i64 (Lib.countByte s.data.toList c))∧w'=w:=Any.strings_Count_one Tryd.lays138 s c w
def Tryd.lays146_ren:Go.Shelf.Ren:=⟨fun|146=>85|221=>93|268=>100|138=>84|143=>92|195=>90|197=>104|218=>91|219=>86|260=>107|217=>94|225=>95|224=>96|267=>97|266=>101|314=>102|n=>n,fun|9=>9|31=>136|3=>3|4=>4|0=>0|105=>156|21=>21|5=>5|46=>48|119=>145|139=>172|138=>171|146=>149|51=>34|n=>n,fun|1=>0|3=>3|4=>4|n=>n⟩
theorem Tryd.lays146:Go.Proofs.Lays.n146 Tryd.prog Tryd.lays146_ren:={
 mixed:=by kernel_rfl
 f138:=Tryd.func84.trans (congrArg some (by kernel_rfl))
 f143:=Tryd.func92.trans (congrArg some (by kernel_rfl))
 f146:=Tryd.func85.trans (congrArg some (by kernel_rfl))
 f195:=Tryd.func90.trans (congrArg some (by kernel_rfl))
 f197:=Tryd.func104.trans (congrArg some (by kernel_rfl))
 f217:=Tryd.func94.trans (congrArg some (by kernel_rfl))
 f218:=Tryd.func91.trans (congrArg some (by kernel_rfl))
 f219:=Tryd.func86.trans (congrArg some (by kernel_rfl))
 f221:=Tryd.func93.trans (congrArg some (by kernel_rfl))
 f224:=Tryd.func96.trans (congrArg some (by kernel_rfl))
 f225:=Tryd.func95.trans (congrArg some (by kernel_rfl))
 f260:=Tryd.func107.trans (congrArg some (by kernel_rfl))
 f266:=Tryd.func101.trans (congrArg some (by kernel_rfl))
 f267:=Tryd.func97.trans (congrArg some (by kernel_rfl))
 f268:=Tryd.func100.trans (congrArg some (by kernel_rfl))
 f314:=Tryd.func102.trans (congrArg some (by kernel_rfl))
 t0:=Tryd.underlying0
 a0:=Tryd.isAgg0
 z0:=Tryd.sizeOf0
 v0:=Tryd.zeroValue0
 t3:=Tryd.underlying3
 a3:=Tryd.isAgg3
 z3:=Tryd.sizeOf3
 v3:=Tryd.zeroValue3
 t4:=Tryd.underlying4
 a4:=Tryd.isAgg4
 z4:=Tryd.sizeOf4
 v4:=Tryd.zeroValue4
 t5:=Tryd.underlying5
 a5:=Tryd.isAgg5
 z5:=Tryd.sizeOf5
 v5:=Tryd.zeroValue5
 t9:=Tryd.underlying9
 a9:=Tryd.isAgg9
 z9:=Tryd.sizeOf9
 v9:=Tryd.zeroValue9
 t21:=Tryd.underlying21
 a21:=Tryd.isAgg21
 z21:=Tryd.sizeOf21
 v21:=Tryd.zeroValue21
 t31:=Tryd.underlying136
 a31:=Tryd.isAgg136
 z31:=Tryd.sizeOf136
 v31:=Tryd.zeroValue136
 t46:=Tryd.underlying48
 a46:=Tryd.isAgg48
 z46:=Tryd.sizeOf48
 v46:=Tryd.zeroValue48
 t51:=Tryd.underlying34
 a51:=Tryd.isAgg34
 z51:=Tryd.sizeOf34
 v51:=Tryd.zeroValue34
 t105:=Tryd.underlying156
 a105:=Tryd.isAgg156
 z105:=Tryd.sizeOf156
 v105:=Tryd.zeroValue156
 t119:=Tryd.underlying145
 a119:=Tryd.isAgg145
 z119:=Tryd.sizeOf145
 t138:=Tryd.underlying171
 a138:=Tryd.isAgg171
 z138:=Tryd.sizeOf171
 v138:=Tryd.zeroValue171
 t139:=Tryd.underlying172
 a139:=Tryd.isAgg172
 z139:=Tryd.sizeOf172
 v139:=Tryd.zeroValue172
 t146:=Tryd.underlying149
 a146:=Tryd.isAgg149
 z146:=Tryd.sizeOf149
 v146:=Tryd.zeroValue149
 g1:=by kernel_rfl
 g3:=by kernel_rfl
 g4:=by kernel_rfl}
open Go.RowKit Go.Lib in
theorem Tryd.strings_Split (s sep:ByteArray)(m:Int)(w:World)(hs:s.size<4294967281)(hm:w.cell? ⟨0,0,none⟩=some (.int .i64 m))(h1:1≤sep.size):
 Calls Tryd.prog 85 #[.string s,.string sep] w fun e w' =>
  e = .returned (.slice (some ⟨w.heap.size,0,none⟩) (Lib.countB s sep+1) (Lib.countB s sep+1))∧w'=w.alloc (.cells ((Lib.splitB sep 0 (Lib.countB s sep) s).map Value.string).toArray 9):=Any.strings_Split Tryd.lays146 (by kernel_rfl) s sep m w hs hm h1
def Tryd.lays157_ren:Go.Shelf.Ren:=⟨fun|157=>89|229=>98|199=>99|261=>103|311=>105|312=>106|n=>n,fun|9=>9|31=>136|3=>3|5=>5|4=>4|119=>145|0=>0|40=>147|152=>151|21=>21|154=>153|51=>34|141=>155|196=>161|193=>158|198=>163|49=>32|194=>159|201=>166|226=>168|46=>48|227=>169|n=>n,fun|0=>1|6=>2|n=>n⟩
theorem Tryd.lays157:Go.Proofs.Lays.n157 Tryd.prog Tryd.lays157_ren:={
 mixed:=by kernel_rfl
 f157:=Tryd.func89.trans (congrArg some (by kernel_rfl))
 f199:=Tryd.func99.trans (congrArg some (by kernel_rfl))
 f229:=Tryd.func98.trans (congrArg some (by kernel_rfl))
 f261:=Tryd.func103.trans (congrArg some (by kernel_rfl))
 f311:=Tryd.func105.trans (congrArg some (by kernel_rfl))
 f312:=Tryd.func106.trans (congrArg some (by kernel_rfl))
 t0:=Tryd.underlying0
 a0:=Tryd.isAgg0
 z0:=Tryd.sizeOf0
 v0:=Tryd.zeroValue0
 t3:=Tryd.underlying3
 a3:=Tryd.isAgg3
 z3:=Tryd.sizeOf3
 v3:=Tryd.zeroValue3
 t4:=Tryd.underlying4
 a4:=Tryd.isAgg4
 z4:=Tryd.sizeOf4
 v4:=Tryd.zeroValue4
 t5:=Tryd.underlying5
 a5:=Tryd.isAgg5
 z5:=Tryd.sizeOf5
 v5:=Tryd.zeroValue5
 t9:=Tryd.underlying9
 a9:=Tryd.isAgg9
 z9:=Tryd.sizeOf9
 v9:=Tryd.zeroValue9
 t21:=Tryd.underlying21
 a21:=Tryd.isAgg21
 z21:=Tryd.sizeOf21
 v21:=Tryd.zeroValue21
 t31:=Tryd.underlying136
 a31:=Tryd.isAgg136
 z31:=Tryd.sizeOf136
 v31:=Tryd.zeroValue136
 t40:=Tryd.underlying147
 a40:=Tryd.isAgg147
 z40:=Tryd.sizeOf147
 v40:=Tryd.zeroValue147
 t46:=Tryd.underlying48
 a46:=Tryd.isAgg48
 z46:=Tryd.sizeOf48
 v46:=Tryd.zeroValue48
 t49:=Tryd.underlying32
 a49:=Tryd.isAgg32
 z49:=Tryd.sizeOf32
 v49:=Tryd.zeroValue32
 t51:=Tryd.underlying34
 a51:=Tryd.isAgg34
 z51:=Tryd.sizeOf34
 v51:=Tryd.zeroValue34
 t119:=Tryd.underlying145
 a119:=Tryd.isAgg145
 z119:=Tryd.sizeOf145
 t141:=Tryd.underlying155
 a141:=Tryd.isAgg155
 z141:=Tryd.sizeOf155
 v141:=Tryd.zeroValue155
 t152:=Tryd.underlying151
 a152:=Tryd.isAgg151
 z152:=Tryd.sizeOf151
 v152:=Tryd.zeroValue151
 t154:=Tryd.underlying153
 a154:=Tryd.isAgg153
 z154:=Tryd.sizeOf153
 v154:=Tryd.zeroValue153
 t193:=Tryd.underlying158
 a193:=Tryd.isAgg158
 z193:=Tryd.sizeOf158
 v193:=Tryd.zeroValue158
 t194:=Tryd.underlying159
 a194:=Tryd.isAgg159
 z194:=Tryd.sizeOf159
 v194:=Tryd.zeroValue159
 t196:=Tryd.underlying161
 a196:=Tryd.isAgg161
 z196:=Tryd.sizeOf161
 v196:=Tryd.zeroValue161
 t198:=Tryd.underlying163
 a198:=Tryd.isAgg163
 z198:=Tryd.sizeOf163
 v198:=Tryd.zeroValue163
 t201:=Tryd.underlying166
 a201:=Tryd.isAgg166
 z201:=Tryd.sizeOf166
 v201:=Tryd.zeroValue166
 t226:=Tryd.underlying168
 a226:=Tryd.isAgg168
 z226:=Tryd.sizeOf168
 v226:=Tryd.zeroValue168
 t227:=Tryd.underlying169
 a227:=Tryd.isAgg169
 z227:=Tryd.sizeOf169
 v227:=Tryd.zeroValue169
 g0:=by kernel_rfl
 g6:=by kernel_rfl}
open Go.RowKit Go.Lib in
theorem Tryd.strings_Fields (s:ByteArray) (w:World) (hs:s.size<4294967281) (hascii:∀(j:Nat) b,s.data.toList[j]? = some b→b.toNat<128) (htab:Lib.TabIs Tryd.prog w "strings.asciiSpace" .u8 Lib.asciiSpaceTab) :
 Calls Tryd.prog 89 #[.string s] w fun e w' =>
  e = .returned (.slice (some ⟨w.heap.size,0,none⟩) (Lib.fields s.data.toList).length (Lib.fields s.data.toList).length)∧w'=w.alloc (.cells ((Lib.fields s.data.toList).map fun l=>Value.string ⟨l.toArray⟩).toArray 9):=Any.strings_Fields Tryd.lays157 (by kernel_rfl) (by kernel_rfl) s w hs hascii htab
end Go.Proofs.YtobldeamemmokaaDoor.Sh
namespace Go.Proofs.YtobldeamemmokaaDoor.P
open Go.Proofs.YtobldeamemmokaaDoorTabs
open Go.RowKit Go.Proofs.YtobldeamemmokaaDoorW.PrintWords Go.Proofs.YtobldeamemmokaaDoorW.PrintLast Go.Proofs.YtobldeamemmokaaDoorW.PrintMore
def qGv (s:ByteArray):Bool:=s.data.toList.all fun b=>decide (b.toNat<128)
theorem qFg {s:ByteArray}(h:qGv s=true):∀(j:Nat) b,s.data.toList[j]? = some b→b.toNat<128:=by
 intro j b hj
 exact of_decide_eq_true (List.all_eq_true.1 h b (List.mem_of_getElem? hj))
theorem qCj {w:World}{l:List ByteArray}(hl:l.length≤9223372036854775807):Kd.R Kd.string 9 (w.alloc (.cells (l.map Value.string).toArray 9)) w.heap.size (fun _=>True) (.slice (some ⟨w.heap.size,0,none⟩) l.length l.length) l:=by
 have h:=World.ownsRow_lit (base:=w.heap.size) (e:=9) (size:=1) w (l.map Value.string).toArray l.length (Nat.le_refl _) (by simpa [maxLen] using hl) (by simp)
 exact Kd.R_of_own (by simpa [zV] using h) (fun _ _=>trivial)
def y4 (s:ByteArray):List ByteArray:=(Lib.fields s.data.toList).map fun l=>⟨l.toArray⟩
def strings_Fields.f (s:ByteArray):Option (List ByteArray):=if s.size<4294967281∧qGv s=true∧(y4 s).length≤9223372036854775807 then some (y4 s) else none
theorem strings_Fields.calls (a0:ByteArray)(r:List ByteArray)(w:World)(hT:Tab w)(h:strings_Fields.f a0=some r):
 Calls Tryd.prog 89 #[.string a0] w fun e w'=>∃ v0_:Value,e = .returned (v0_)∧Kd.R Kd.string 9 w' w.heap.size (fun _=>True) v0_ r∧Below w.heap.size w w':=by
 unfold strings_Fields.f at h
 split at h
 ·rename_i hc
  obtain rfl:=Option.some.inj h
  refine(Sh.Tryd.strings_Fields a0 w hc.1 (qFg hc.2.1) hT.aS).mono ?_
  rintro e w' ⟨rfl,rfl⟩
  have e1:((Lib.fields a0.data.toList).map fun l=>Value.string ⟨l.toArray⟩)=(y4 a0).map Value.string:=by simp[y4,List.map_map,Function.comp_def]
  have e2:(Lib.fields a0.data.toList).length=(y4 a0).length:=by simp[y4]
  rw[e1,e2]
  exact⟨_,rfl,qCj hc.2.2,qh (Below.refl _ _) _⟩
 ·cases h
def jg.f (s sub:ByteArray):Option Int:=match sub.data.toList with | [c]=>some ((Lib.countByte s.data.toList c:Nat):Int)|_=>none
theorem jg.calls (a0 a1:ByteArray)(r:Int)(w:World)(h:jg.f a0 a1=some r):
 Calls Tryd.prog 84 #[.string a0,.string a1] w fun e w'=>e = .returned (.int .i64 r)∧qf w w':=by
 unfold jg.f at h
 split at h
 ·rename_i c hc
  obtain rfl:=Option.some.inj h
  have e:a1=⟨#[c]⟩:=by
   obtain⟨⟨l⟩⟩:=a1
   have:l = [c]:=hc
   subst this
   rfl
  rw[e]
  refine(Sh.Tryd.strings_Count_one a0 c w).mono ?_
  rintro e w' ⟨rfl,rfl⟩
  exact⟨rfl,qf.refl _⟩
 ·cases h
def qAG (c:UInt8):List UInt8→List UInt8→List (List UInt8)
 | cur,[]=>[cur]
 | cur,b::l=>if b==c then cur::qAG c [] l else qAG c (cur ++ [b]) l
theorem qCg (c:UInt8):∀(l cur:List UInt8),(∀ x ∈ l,x≠c)→qAG c cur l = [cur++l]
 | [],cur,_=>by simp[qAG]
 | b::l,cur,h=>by
   have hb:(b==c)=false:=beq_eq_false_iff_ne.2 (h b (by simp))
   rw[qAG,hb,if_neg (by decide),qCg c l _ (fun x hx=>h x (by simp[hx]))]
   simp
theorem qDQ (c:UInt8)(r:List UInt8):∀(a cur:List UInt8),(∀ x ∈ a,x≠c)→qAG c cur (a++c::r)=(cur++a)::qAG c [] r
 | [],cur,_=>by simp[qAG]
 | b::a,cur,h=>by
   have hb:(b==c)=false:=beq_eq_false_iff_ne.2 (h b (by simp))
   rw[List.cons_append,qAG,hb,if_neg (by decide),qDQ c r a _ (fun x hx=>h x (by simp[hx]))]
   simp
theorem qDO (c:UInt8):∀(n:Nat) (l:List UInt8),l.length≤n→Lib.splitK [c] 0 (Lib.count l [c]) l=qAG c [] l∧(qAG c [] l).length=Lib.count l [c]+1:=by
 intro n
 induction n with
 | zero =>
   intro l hl
   obtain rfl:l = []:=List.eq_nil_of_length_eq_zero (by omega)
   have hi:Lib.index [] [c] = -1:=rfl
   rw[Lib.count_miss hi]
   exact⟨rfl,rfl⟩
 | succ n ih =>
   intro l hl
   rcases Int.lt_or_le (Lib.index l [c]) 0 with hneg|hpos
   ·have hi:Lib.index l [c] = -1:=by have:=Lib.indexByte_ge l c;rw[← Lib.index_one] at this;omega
    have hno:∀ x ∈ l,x≠c:=fun x hx e=>by
     obtain⟨k,hk⟩:=List.getElem?_of_mem hx
     exact Lib.indexByte_none (l:=l) (c:=c) (by rw[← Lib.index_one];exact hi) k (by rw[hk,e])
    rw[Lib.count_miss hi,qCg c l [] hno]
    exact⟨rfl,rfl⟩
   ·obtain⟨i,hi⟩:=Int.eq_ofNat_of_zero_le hpos
    obtain⟨h1,h2⟩:=Lib.indexByte_some (l:=l) (c:=c) (o:=i) (by rw[← Lib.index_one];exact hi)
    have hil:i<l.length:=(List.getElem?_eq_some_iff.1 h1).1
    have hl':l=l.take i++c::l.drop (i+1):=by
     have e:l[i]=c:=(List.getElem?_eq_some_iff.1 h1).2
     rw[← e,List.getElem_cons_drop,List.take_append_drop]
    have hno:∀ x ∈ l.take i,x≠c:=fun x hx e=>by
     obtain⟨k,hk⟩:=List.getElem?_of_mem hx
     have hk':k<i:=by have:=(List.getElem?_eq_some_iff.1 hk).1;simp at this;omega
     rw[List.getElem?_take_of_lt hk'] at hk
     exact h2 k hk' (by rw[hk,e])
    obtain⟨a1,a2⟩:=ih (l.drop (i+1)) (by simp;omega)
    have hc:Lib.count l [c]=Lib.count (l.drop (i+1)) [c]+1:=by
     have:=Lib.count_hit (s:=l) (sub:=[c]) (i:=i) (by simp) hi
     simpa [Nat.add_comm] using this
    have e2:qAG c [] l=l.take i::qAG c [] (l.drop (i+1)):=by
     conv=>lhs;rw[hl']
     rw[qDQ c _ _ _ hno];simp
    rw[hc,e2]
    have hm:¬(Lib.index l [c] == -1)=true:=fun e=>by have:=beq_iff_eq.1 e;omega
    refine⟨?_,by simp[a2]⟩
    rw[Lib.splitK,if_neg hm,hi]
    simp only[Int.toNat_natCast,Nat.add_zero,List.length_cons,List.length_nil,Nat.zero_add]
    rw[a1]
def qAY (s:ByteArray)(c:UInt8):List ByteArray:=(qAG c [] s.data.toList).map fun l=>⟨l.toArray⟩
theorem qFy (s sep:ByteArray)(c:UInt8)(hs:sep.data.toList = [c]):Lib.splitB sep 0 (Lib.countB s sep) s=qAY s c∧(qAY s c).length=Lib.countB s sep+1:=by
 obtain⟨h1,h2⟩:=qDO c s.data.toList.length s.data.toList (Nat.le_refl _)
 have h3:=Lib.splitB_data sep 0 (Lib.countB s sep) s
 unfold Lib.countB at h3 ⊢
 rw[hs] at h3 ⊢
 rw[h1] at h3
 refine⟨?_,by simp[qAY,h2]⟩
 unfold qAY
 rw[← h3]
 simp[List.map_map,Function.comp_def]
def strings_Split.f (s sep:ByteArray):Option (List ByteArray):=match sep.data.toList with | [c]=>if s.size<4294967281∧(qAY s c).length≤9223372036854775807 then some (qAY s c) else none|_=>none
theorem strings_Split.calls (a0 a1:ByteArray)(r:List ByteArray)(w:World)(hT:Tab w)(h:strings_Split.f a0 a1=some r):
 Calls Tryd.prog 85 #[.string a0,.string a1] w fun e w'=>∃ v0_:Value,e = .returned (v0_)∧Kd.R Kd.string 9 w' w.heap.size (fun _=>True) v0_ r∧Below w.heap.size w w':=by
 unfold strings_Split.f at h
 split at h
 ·rename_i c hs
  split at h
  ·rename_i hc
   obtain rfl:=Option.some.inj h
   obtain⟨m,hm⟩:=hT.mL
   obtain⟨e1,e2⟩:=qFy a0 a1 c hs
   have h1:1≤a1.size:=by
    have h2:a1.data.toList.length=1:=by rw[hs];rfl
    have h3:a1.size=1:=by rw[Array.length_toList] at h2;exact h2
    omega
   refine(Sh.Tryd.strings_Split a0 a1 m w hc.1 hm h1).mono ?_
   rintro e w' ⟨rfl,rfl⟩
   rw[e1,← e2]
   exact⟨_,rfl,qCj hc.2,qh (Below.refl _ _) _⟩
  ·cases h
 ·cases h
def strings_Cut.f (s sep:ByteArray):Option (ByteArray × ByteArray × Bool):=if s.size<4294967281 then some (⟨(Lib.cut s.data.toList sep.data.toList).1.toArray⟩,⟨(Lib.cut s.data.toList sep.data.toList).2.1.toArray⟩,(Lib.cut s.data.toList sep.data.toList).2.2) else none
theorem strings_Cut.calls (a0 a1:ByteArray)(r1 r2:ByteArray)(r3:Bool)(w:World)(hT:Tab w)(h:strings_Cut.f a0 a1=some (r1,r2,r3)):
 Calls Tryd.prog 61 #[.string a0,.string a1] w fun e w'=>e = .returned (.tuple #[.string r1,.string r2,.bool r3])∧qf w w':=by
 unfold strings_Cut.f at h
 split at h
 ·rename_i hc
  obtain⟨m,hm⟩:=hT.mL
  simp only[Option.some.injEq,Prod.mk.injEq] at h
  obtain⟨rfl,rfl,rfl⟩:=h
  refine(Sh.Tryd.strings_Cut a0 a1 m w hc hm).mono ?_
  rintro e w' ⟨rfl,n,rfl⟩
  exact⟨rfl,⟨n,rfl⟩⟩
 ·cases h
end Go.Proofs.YtobldeamemmokaaDoor.P
namespace Go.Proofs.YtobldeamemmokaaDoor.P
open Go.Proofs.YtobldeamemmokaaDoorTabs
open Go.Proofs.YtobldeamemmokaaDoorCaps
open Go.RowKit Go.Proofs.YtobldeamemmokaaDoorW.PrintWords Go.Proofs.YtobldeamemmokaaDoorW.PrintLast Go.Proofs.YtobldeamemmokaaDoorW.PrintMore
section
attribute [local go_sem] jh jj xE xF jb jZ jv jt   -- for this text's walks alone
def qR.f (a0:ByteArray)(a1:Int):Option (ByteArray):=(strings_Fields.f a0).bind fun t104=>(if (t104.length:Int)=1 then (if 0<(t104.length:Int) then (some (xR ByteArray.empty t104 0)) else (none)) else (if a1<(t104.length:Int) then (if 0≤a1 then (some (xR ByteArray.empty t104 a1)) else (none)) else (some (⟨#[]⟩:ByteArray))))
set_option maxRecDepth 100000 in
theorem qR.calls (a0:ByteArray)(a1:Int)(r:ByteArray)(w:World)(hT:YtobldeamemmokaaDoorTabs.Tab w)(h:qR.f a0 a1=some r):
 Calls Tryd.prog 83 #[.string a0,.int .i64 a1] w fun e w'=>e = .returned (.string r)∧Below w.heap.size w w':=by
 have HT:=am hT
 clear hT
 have HB:=am (Below.refl w.heap.size w)
 have H:=h
 unfold qR.f at H
 clear h
 replace H:=Option.bind_eq_some_iff.mp H
 obtain⟨t104,A30,H⟩:=H
 try dsimp only at H
 have A3:=am A30
 clear A30
 by_cases c4:(t104.length:Int)=1
 ·rw[if_pos c4] at H
  have c4b0:((t104.length:Int)==1)=true:=beq_iff_eq.mpr c4
  have c4b1:((t104.length:Int) != 1)=false:=bne_eq_false_iff_eq.mpr c4
  clear c4
  by_cases c5:0<(t104.length:Int)
  ·rw[if_pos c5] at H
   have c5b0:decide (0<(t104.length:Int))=true:=decide_eq_true c5
   have c5b1:decide (0<t104.length)=true:=decide_eq_true mDj
   clear c5
   obtain rfl:=Option.some.inj H
   go_enter Tryd.func83,Tryd.ntmps83
   go_wp2_with (first|((with_reducible refine qO (f:=89) rfl ?_);refine qo (some 7) rfl rfl Tryd.func89 mDh rfl #[.string a0] rfl mCe ?_;(with_reducible refine(strings_Fields.calls (hT:=mCd) a0 t104 _ A3.out).mono ?_);rintro e w6 ⟨v105,rfl,ho0,hb⟩;refine⟨_,rfl,?_⟩;have n0_:=am (Kd.R_lower ho0 (qM mCf));have n1_:=am (qB mCf hb);clear HB;have HO106:=n0_;have HB:=n1_;clear n0_ n1_;(try clear hb);(try clear hb2);(try clear hk);(try clear hi);(try clear ho0);obtain⟨Ao7,co7,eo7⟩:=Kd.R_slice HO106.out;subst eo7;have p107:0≤(0:Int):=mDj;have q107:0<(t104.length:Int):=of_decide_eq_true mDk;obtain⟨ad107,e107,hx107_0⟩:=Kd.at_string (Kd.R_reads' HO106.out).2.2 0 p107 q107;cases e107;have qi107:(0<t104.length)=True:=eq_true mDj;(try rw[show((0:Int)).toNat=0 from rfl] at hx107_0);(try rw[Addr.add_zero'] at hx107_0);replace p107:=eq_true p107;replace q107:=eq_true q107))
   go_ret
   exact mAo
  ·rw[if_neg c5] at H
   exact absurd H mDp
 ·rw[if_neg c4] at H
  have c4b0:((t104.length:Int)==1)=false:=beq_eq_false_iff_ne.mpr c4
  have c4b1:((t104.length:Int) != 1)=true:=bne_iff_ne.mpr c4
  by_cases c8:a1<(t104.length:Int)
  ·rw[if_pos c8] at H
   have c8b0:decide (a1<(t104.length:Int))=true:=decide_eq_true c8
   clear c8
   by_cases c9:0≤a1
   ·rw[if_pos c9] at H
    have c9b0:decide (0≤a1)=true:=decide_eq_true c9
    clear c9
    obtain rfl:=Option.some.inj H
    go_enter Tryd.func83,Tryd.ntmps83
    go_wp2_with (first|((with_reducible refine qO (f:=89) rfl ?_);refine qo (some 7) rfl rfl Tryd.func89 mDh rfl #[.string a0] rfl mCe ?_;(with_reducible refine(strings_Fields.calls (hT:=mCd) a0 t104 _ A3.out).mono ?_);rintro e w10 ⟨v105,rfl,ho0,hb⟩;refine⟨_,rfl,?_⟩;have n0_:=am (Kd.R_lower ho0 (qM mCf));have n1_:=am (qB mCf hb);clear HB;have HO106:=n0_;have HB:=n1_;clear n0_ n1_;(try clear hb);(try clear hb2);(try clear hk);(try clear hi);(try clear ho0);obtain⟨Ao11,co11,eo11⟩:=Kd.R_slice HO106.out;subst eo11;have p108:0≤(a1:Int):=of_decide_eq_true mDk;have q108:a1<(t104.length:Int):=of_decide_eq_true mDk;obtain⟨ad108,e108,hx108_0⟩:=Kd.at_string (Kd.R_reads' HO106.out).2.2 a1 p108 q108;cases e108;replace p108:=eq_true p108;replace q108:=eq_true q108))
    go_ret
    exact mAo
   ·rw[if_neg c9] at H
    exact absurd H mDp
  ·rw[if_neg c8] at H
   have c8b0:decide (a1<(t104.length:Int))=false:=decide_eq_false c8
   clear c8
   obtain rfl:=Option.some.inj H
   go_enter Tryd.func83,Tryd.ntmps83
   go_wp2_with (first|((with_reducible refine qO (f:=89) rfl ?_);refine qo (some 7) rfl rfl Tryd.func89 mDh rfl #[.string a0] rfl mCe ?_;(with_reducible refine(strings_Fields.calls (hT:=mCd) a0 t104 _ A3.out).mono ?_);rintro e w12 ⟨v105,rfl,ho0,hb⟩;refine⟨_,rfl,?_⟩;have n0_:=am (Kd.R_lower ho0 (qM mCf));have n1_:=am (qB mCf hb);clear HB;have HO106:=n0_;have HB:=n1_;clear n0_ n1_;(try clear hb);(try clear hb2);(try clear hk);(try clear hi);(try clear ho0);obtain⟨Ao13,co13,eo13⟩:=Kd.R_slice HO106.out;subst eo13))
   go_ret
   exact mAo
end
section
attribute [local go_sem] jh jj xE xF jb jZ jv jt   -- for this text's walks alone
def zi.xs:List ju:=[
 ⟨0,⟨#[118,49,50,56,46,108,111,97,100]⟩,⟨#[32,56,120,56,95,115,32,56,120,56,95,117,32,49,54,120,52,95,115,32,49,54,120,52,95,117,32,51,50,120,50,95,115,32,51,50,120,50,95,117,32,56,95,115,112,108,97,116,32,49,54,95,115,112,108,97,116,32,51,50,95,115,112,108,97,116,32,54,52,95,115,112,108,97,116]⟩,⟨#[105,58,118]⟩,16,⟨#[49,50,56,32,54,52,32,54,52,32,54,52,32,54,52,32,54,52,32,54,52,32,56,32,49,54,32,51,50,32,54,52]⟩,false⟩,
 ⟨11,⟨#[118,49,50,56,46]⟩,⟨#[115,116,111,114,101]⟩,⟨#[105,118,58]⟩,16,⟨#[49,50,56]⟩,false⟩,
 ⟨12,⟨#[118,49,50,56,46]⟩,⟨#[99,111,110,115,116]⟩,⟨#[58,118]⟩,24,⟨#[]⟩,true⟩,
 ⟨13,⟨#[105,56,120,49,54,46]⟩,⟨#[115,104,117,102,102,108,101]⟩,⟨#[118,118,58,118]⟩,19,⟨#[]⟩,true⟩,
 ⟨14,⟨#[105,56,120,49,54,46]⟩,⟨#[115,119,105,122,122,108,101]⟩,⟨#[118,118,58,118]⟩,0,⟨#[]⟩,true⟩,
 ⟨15,⟨#[]⟩,⟨#[105,56,120,49,54,46,115,112,108,97,116,32,105,49,54,120,56,46,115,112,108,97,116,32,105,51,50,120,52,46,115,112,108,97,116,32,105,54,52,120,50,46,115,112,108,97,116,32,102,51,50,120,52,46,115,112,108,97,116,32,102,54,52,120,50,46,115,112,108,97,116]⟩,⟨#[105,58,118,32,105,58,118,32,105,58,118,32,108,58,118,32,102,58,118,32,100,58,118]⟩,0,⟨#[]⟩,true⟩,
 ⟨21,⟨#[]⟩,⟨#[105,56,120,49,54,46,101,120,116,114,97,99,116,95,108,97,110,101,95,115,32,105,56,120,49,54,46,101,120,116,114,97,99,116,95,108,97,110,101,95,117,32,105,56,120,49,54,46,114,101,112,108,97,99,101,95,108,97,110,101,32,105,49,54,120,56,46,101,120,116,114,97,99,116,95,108,97,110,101,95,115,32,105,49,54,120,56,46,101,120,116,114,97,99,116,95,108,97,110,101,95,117,32,105,49,54,120,56,46,114,101,112,108,97,99,101,95,108,97,110,101,32,105,51,50,120,52,46,101,120,116,114,97,99,116,95,108,97,110,101,32,105,51,50,120,52,46,114,101,112,108,97,99,101,95,108,97,110,101,32,105,54,52,120,50,46,101,120,116,114,97,99,116,95,108,97,110,101,32,105,54,52,120,50,46,114,101,112,108,97,99,101,95,108,97,110,101,32,102,51,50,120,52,46,101,120,116,114,97,99,116,95,108,97,110,101,32,102,51,50,120,52,46,114,101,112,108,97,99,101,95,108,97,110,101,32,102,54,52,120,50,46,101,120,116,114,97,99,116,95,108,97,110,101,32,102,54,52,120,50,46,114,101,112,108,97,99,101,95,108,97,110,101]⟩,⟨#[118,58,105,32,118,58,105,32,118,105,58,118,32,118,58,105,32,118,58,105,32,118,105,58,118,32,118,58,105,32,118,105,58,118,32,118,58,108,32,118,108,58,118,32,118,58,102,32,118,102,58,118,32,118,58,100,32,118,100,58,118]⟩,18,⟨#[]⟩,true⟩,
 ⟨35,⟨#[105,56,120,49,54,46]⟩,⟨#[101,113,32,110,101,32,108,116,95,115,32,108,116,95,117,32,103,116,95,115,32,103,116,95,117,32,108,101,95,115,32,108,101,95,117,32,103,101,95,115,32,103,101,95,117]⟩,⟨#[118,118,58,118]⟩,0,⟨#[]⟩,true⟩,
 ⟨45,⟨#[105,49,54,120,56,46]⟩,⟨#[101,113,32,110,101,32,108,116,95,115,32,108,116,95,117,32,103,116,95,115,32,103,116,95,117,32,108,101,95,115,32,108,101,95,117,32,103,101,95,115,32,103,101,95,117]⟩,⟨#[118,118,58,118]⟩,0,⟨#[]⟩,true⟩,
 ⟨55,⟨#[105,51,50,120,52,46]⟩,⟨#[101,113,32,110,101,32,108,116,95,115,32,108,116,95,117,32,103,116,95,115,32,103,116,95,117,32,108,101,95,115,32,108,101,95,117,32,103,101,95,115,32,103,101,95,117]⟩,⟨#[118,118,58,118]⟩,0,⟨#[]⟩,true⟩,
 ⟨65,⟨#[102,51,50,120,52,46]⟩,⟨#[101,113,32,110,101,32,108,116,32,103,116,32,108,101,32,103,101]⟩,⟨#[118,118,58,118]⟩,0,⟨#[]⟩,true⟩,
 ⟨71,⟨#[102,54,52,120,50,46]⟩,⟨#[101,113,32,110,101,32,108,116,32,103,116,32,108,101,32,103,101]⟩,⟨#[118,118,58,118]⟩,0,⟨#[]⟩,true⟩,
 ⟨77,⟨#[118,49,50,56,46]⟩,⟨#[110,111,116,32,97,110,100,32,97,110,100,110,111,116,32,111,114,32,120,111,114,32,98,105,116,115,101,108,101,99,116,32,97,110,121,95,116,114,117,101]⟩,⟨#[118,58,118,32,118,118,58,118,32,118,118,58,118,32,118,118,58,118,32,118,118,58,118,32,118,118,118,58,118,32,118,58,105]⟩,0,⟨#[]⟩,true⟩,
 ⟨84,⟨#[118,49,50,56,46]⟩,⟨#[108,111,97,100,56,95,108,97,110,101,32,108,111,97,100,49,54,95,108,97,110,101,32,108,111,97,100,51,50,95,108,97,110,101,32,108,111,97,100,54,52,95,108,97,110,101]⟩,⟨#[105,118,58,118]⟩,17,⟨#[56,32,49,54,32,51,50,32,54,52]⟩,false⟩,
 ⟨88,⟨#[118,49,50,56,46]⟩,⟨#[115,116,111,114,101,56,95,108,97,110,101,32,115,116,111,114,101,49,54,95,108,97,110,101,32,115,116,111,114,101,51,50,95,108,97,110,101,32,115,116,111,114,101,54,52,95,108,97,110,101]⟩,⟨#[105,118,58]⟩,17,⟨#[56,32,49,54,32,51,50,32,54,52]⟩,false⟩,
 ⟨92,⟨#[118,49,50,56,46]⟩,⟨#[108,111,97,100,51,50,95,122,101,114,111,32,108,111,97,100,54,52,95,122,101,114,111]⟩,⟨#[105,58,118]⟩,16,⟨#[51,50,32,54,52]⟩,false⟩,
 ⟨94,⟨#[]⟩,⟨#[102,51,50,120,52,46,100,101,109,111,116,101,95,102,54,52,120,50,95,122,101,114,111,32,102,54,52,120,50,46,112,114,111,109,111,116,101,95,108,111,119,95,102,51,50,120,52]⟩,⟨#[118,58,118]⟩,0,⟨#[]⟩,true⟩]
def zi.f:Option (List ju):=some zi.xs
set_option maxRecDepth 100000 in
theorem zi.calls (r:List ju)(w:World)(h:zi.f=some r):
 Calls Tryd.prog 80 #[] w fun e w'=>∃ v0_:Value,e = .returned (v0_)∧Kd.R qAg 134 w' w.heap.size (fun _=>True) v0_ r∧Below w.heap.size w w':=by
 have hu134:=Tryd.underlying134
 have HB:=am (Below.refl w.heap.size w)
 obtain rfl:=Option.some.inj (show some zi.xs=some r from h)
 clear h
 go_enter Tryd.func80,Tryd.ntmps80
 go_wp2_with (first|((with_reducible refine qE (N:=28) rfl ?_);refine Kd.R_lit qAg _ 134 ?hg (N:=28) ?hd (xs:=zi.xs) (inner:=zi.xs.flatMap qFc) (ok:=fun _=>True) (okp:=fun _=>True) ?hr ?hp (fun _ hk=>hk) trivial (Below.refl _ _) (Nat.le_refl _) (of_decide_eq_true mDh) ?_;(case hd=>rfl);(case hg=>rfl);(case hr=>kernel_rfl);(case hp=>exact yx _ _ _ _);intro v161 w1 ho2 hb hg_ hnew_;clear hg_ hnew_;have n0_:=am (Kd.R_lower ho2 (qM mCf));have n1_:=am (qB mCf hb);clear HB;have HO1:=n0_;have HB:=n1_;clear n0_ n1_;clear hb ho2))
 go_ret
 exact⟨_,by first|rfl|(simp[qk,qj] <;> rfl),by (with_reducible repeat (first|apply rA|apply rN|apply rD));exact HO1.out,mCf⟩
def jk.xs:List ju:=[
 ⟨98,⟨#[105,56,120,49,54,46]⟩,⟨#[112,111,112,99,110,116]⟩,⟨#[118,58,118]⟩,0,⟨#[]⟩,true⟩,
 ⟨103,⟨#[102,51,50,120,52,46]⟩,⟨#[99,101,105,108,32,102,108,111,111,114,32,116,114,117,110,99,32,110,101,97,114,101,115,116]⟩,⟨#[118,58,118]⟩,0,⟨#[]⟩,true⟩,
 ⟨116,⟨#[102,54,52,120,50,46]⟩,⟨#[99,101,105,108,32,102,108,111,111,114]⟩,⟨#[118,58,118]⟩,0,⟨#[]⟩,true⟩,
 ⟨122,⟨#[102,54,52,120,50,46]⟩,⟨#[116,114,117,110,99]⟩,⟨#[118,58,118]⟩,0,⟨#[]⟩,true⟩,
 ⟨124,⟨#[105,49,54,120,56,46,101,120,116,97,100,100,95,112,97,105,114,119,105,115,101,95,105,56,120,49,54,95]⟩,⟨#[115,32,117]⟩,⟨#[118,58,118]⟩,0,⟨#[]⟩,true⟩,
 ⟨126,⟨#[105,51,50,120,52,46,101,120,116,97,100,100,95,112,97,105,114,119,105,115,101,95,105,49,54,120,56,95]⟩,⟨#[115,32,117]⟩,⟨#[118,58,118]⟩,0,⟨#[]⟩,true⟩,
 ⟨130,⟨#[105,49,54,120,56,46]⟩,⟨#[113,49,53,109,117,108,114,95,115,97,116,95,115]⟩,⟨#[118,118,58,118]⟩,0,⟨#[]⟩,true⟩,
 ⟨148,⟨#[102,54,52,120,50,46]⟩,⟨#[110,101,97,114,101,115,116]⟩,⟨#[118,58,118]⟩,0,⟨#[]⟩,true⟩,
 ⟨186,⟨#[105,51,50,120,52,46]⟩,⟨#[100,111,116,95,105,49,54,120,56,95,115]⟩,⟨#[118,118,58,118]⟩,0,⟨#[]⟩,true⟩,
 ⟨214,⟨#[105,54,52,120,50,46]⟩,⟨#[101,113,32,110,101,32,108,116,95,115,32,103,116,95,115,32,108,101,95,115,32,103,101,95,115]⟩,⟨#[118,118,58,118]⟩,0,⟨#[]⟩,true⟩,
 ⟨224,⟨#[102,51,50,120,52,46]⟩,⟨#[97,98,115,32,110,101,103]⟩,⟨#[118,58,118]⟩,0,⟨#[]⟩,true⟩,
 ⟨227,⟨#[102,51,50,120,52,46]⟩,⟨#[115,113,114,116]⟩,⟨#[118,58,118]⟩,0,⟨#[]⟩,true⟩,
 ⟨228,⟨#[102,51,50,120,52,46]⟩,⟨#[97,100,100,32,115,117,98,32,109,117,108,32,100,105,118,32,109,105,110,32,109,97,120,32,112,109,105,110,32,112,109,97,120]⟩,⟨#[118,118,58,118]⟩,0,⟨#[]⟩,true⟩,
 ⟨236,⟨#[102,54,52,120,50,46]⟩,⟨#[97,98,115,32,110,101,103]⟩,⟨#[118,58,118]⟩,0,⟨#[]⟩,true⟩,
 ⟨239,⟨#[102,54,52,120,50,46]⟩,⟨#[115,113,114,116]⟩,⟨#[118,58,118]⟩,0,⟨#[]⟩,true⟩,
 ⟨240,⟨#[102,54,52,120,50,46]⟩,⟨#[97,100,100,32,115,117,98,32,109,117,108,32,100,105,118,32,109,105,110,32,109,97,120,32,112,109,105,110,32,112,109,97,120]⟩,⟨#[118,118,58,118]⟩,0,⟨#[]⟩,true⟩,
 ⟨248,⟨#[105,51,50,120,52,46,116,114,117,110,99,95,115,97,116,95,102,51,50,120,52,95]⟩,⟨#[115,32,117]⟩,⟨#[118,58,118]⟩,0,⟨#[]⟩,true⟩,
 ⟨250,⟨#[102,51,50,120,52,46,99,111,110,118,101,114,116,95,105,51,50,120,52,95]⟩,⟨#[115,32,117]⟩,⟨#[118,58,118]⟩,0,⟨#[]⟩,true⟩,
 ⟨252,⟨#[105,51,50,120,52,46,116,114,117,110,99,95,115,97,116,95,102,54,52,120,50,95]⟩,⟨#[115,95,122,101,114,111,32,117,95,122,101,114,111]⟩,⟨#[118,58,118]⟩,0,⟨#[]⟩,true⟩,
 ⟨254,⟨#[102,54,52,120,50,46,99,111,110,118,101,114,116,95,108,111,119,95,105,51,50,120,52,95]⟩,⟨#[115,32,117]⟩,⟨#[118,58,118]⟩,0,⟨#[]⟩,true⟩]
def jk.f:Option (List ju):=some jk.xs
set_option maxRecDepth 100000 in
theorem jk.calls (r:List ju)(w:World)(h:jk.f=some r):
 Calls Tryd.prog 81 #[] w fun e w'=>∃ v0_:Value,e = .returned (v0_)∧Kd.R qAg 134 w' w.heap.size (fun _=>True) v0_ r∧Below w.heap.size w w':=by
 have hu134:=Tryd.underlying134
 have HB:=am (Below.refl w.heap.size w)
 obtain rfl:=Option.some.inj (show some jk.xs=some r from h)
 clear h
 go_enter Tryd.func81,Tryd.ntmps81
 go_wp2_with (first|((with_reducible refine qE (N:=42) rfl ?_);refine Kd.R_lit qAg _ 134 ?hg (N:=42) ?hd (xs:=jk.xs) (inner:=jk.xs.flatMap qFc) (ok:=fun _=>True) (okp:=fun _=>True) ?hr ?hp (fun _ hk=>hk) trivial (Below.refl _ _) (Nat.le_refl _) (of_decide_eq_true mDh) ?_;(case hd=>rfl);(case hg=>rfl);(case hr=>kernel_rfl);(case hp=>exact yx _ _ _ _);intro v161 w1 ho2 hb hg_ hnew_;clear hg_ hnew_;have n0_:=am (Kd.R_lower ho2 (qM mCf));have n1_:=am (qB mCf hb);clear HB;have HO1:=n0_;have HB:=n1_;clear n0_ n1_;clear hb ho2))
 go_ret
 exact⟨_,by first|rfl|(simp[qk,qj] <;> rfl),by (with_reducible repeat (first|apply rA|apply rN|apply rD));exact HO1.out,mCf⟩
end
end Go.Proofs.YtobldeamemmokaaDoor.P
