/- The walk of the program's layer 1: trimming. -/
import Derived.Shelf.Strings.OnBuilder
import Derived.Shelf.Small.Wraps
import Derived.Shelf.Utf8.RuneCount
import Derived.Shelf.Strconv.Itoa3
import Derived.Shelf.Strconv.ErrVarAll
import Derived.Shelf.Strings.Shaped
import Derived.Shelf.Strings.LastIndex
import Derived.Shelf.Strings.SplitShaped
import Derived.Shelf.Strings.Explode
import Derived.Shelf.Unicode.IsSpaceAny
import Derived.Shelf.Unicode.DecodeLast
import Derived.Shelf.Unicode.CaseLaid
import Derived.Shelf.Unicode.ExclAny
import Derived.Shelf.Strings.BuilderCap
import Derived.Shelf.Slices.Turned
import Derived.Shelf.Slices.SearchI
import Derived.Shelf.Strings.SlTrimAscii
import Derived.Test.YtogchgjfialleaaGreatDoorKad
set_option linter.unusedVariables false
set_option maxRecDepth 100000
set_option maxHeartbeats 400000
namespace Go.Proofs
open Go.Shelf
def Tryz.EI:Go.Shelf.Ren:=⟨fun|170=>141|n=>n,fun|70=>204|3=>3|0=>0|72=>206|37=>63|5=>5|n=>n,fun|n=>n⟩
theorem Tryz.Se:Go.Proofs.Lays.n170 Tryz.prog Tryz.EI:=by repeat' first|kernel_rfl|(intro _;kernel_rfl)|constructor
open Go.RowKit in
theorem Tryz.Builder_Len (B b:Nat) (a:List Value) (w:World) (h:Lib.IsBuilder 206 5 B b a w):
 Calls Tryz.prog 141 #[.pointer (some ⟨b,0,none⟩)] w fun e w'=>e=.returned (.int .i64 a.length)∧w'=w:=Any.Builder_Len Tryz.Se B b a w h
def Tryz.vq:Go.Shelf.Ren:=⟨fun|169=>142|n=>n,fun|70=>204|9=>9|0=>0|72=>206|37=>63|127=>247|3=>3|5=>5|n=>n,fun|n=>n⟩
theorem Tryz.Sf:Go.Proofs.Lays.n169 Tryz.prog Tryz.vq:=by repeat' first|kernel_rfl|(intro _;kernel_rfl)|constructor
theorem Tryz.sR:Builder.Extra Tryz.prog Tryz.vq:=by repeat' first|kernel_rfl|(intro _;kernel_rfl)|decide|constructor
open Go.RowKit in
theorem Tryz.Builder_String_any (B b:Nat) (l:List UInt8) (w:World) (h:Lib.IsBuilder 206 5 B b (Lib.byteCells l) w) (a:B≤w.heap.size):
 Calls Tryz.prog 142 #[.pointer (some ⟨b,0,none⟩)] w fun e w'=>e=.returned (.string ⟨l.toArray⟩)∧Below B w w':=Any.Builder_String_any Tryz.Sf Tryz.sR B b l w h a
def Tryz.vr:Go.Shelf.Ren:=⟨fun|158=>155|165=>144|166=>139|167=>145|169=>142|230=>146|203=>197|240=>180|241=>185|197=>129|118=>186|168=>187|270=>188|262=>189|276=>226|277=>229|260=>167|242=>230|313=>231|278=>254|274=>255|275=>256|n=>n,fun|9=>9|4=>4|3=>3|5=>5|72=>206|0=>0|76=>171|75=>170|107=>210|70=>204|20=>20|37=>63|127=>247|21=>21|105=>195|164=>275|162=>284|203=>282|119=>263|46=>248|139=>268|138=>267|51=>271|160=>302|208=>325|206=>323|80=>178|n=>n,fun|13=>5|3=>2|4=>3|n=>n⟩
theorem Tryz.Sg:Go.Proofs.Lays.n158 Tryz.prog Tryz.vr:=by repeat' first|kernel_rfl|(intro _;kernel_rfl)|constructor
theorem Tryz.sS:Builder.Extra Tryz.prog Tryz.vr:=by repeat' first|kernel_rfl|(intro _;kernel_rfl)|decide|constructor
open Go.RowKit in
theorem Tryz.strings_ToUpper_ascii (s:ByteArray) (w:World) (c:s.size≤140737488355328) (a:∀(j:Nat) (b:UInt8),s.data.toList[j]? =some b→b.toNat<128):
 Calls Tryz.prog 155 #[.string s] w fun e w'=>e=.returned (.string ⟨(Lib.toUpperA s.data.toList).toArray⟩)∧Below w.heap.size w w':=Any.strings_ToUpper_ascii Tryz.Sg Tryz.sS s w c a
def Tryz.vt:Go.Shelf.Ren:=⟨fun|159=>103|165=>144|166=>139|167=>145|169=>142|230=>146|204=>147|240=>180|241=>185|197=>129|118=>186|168=>187|270=>188|262=>189|276=>226|277=>229|260=>167|242=>230|313=>231|278=>254|274=>255|275=>256|n=>n,fun|9=>9|4=>4|3=>3|5=>5|72=>206|0=>0|76=>171|75=>170|107=>210|70=>204|20=>20|37=>63|127=>247|21=>21|105=>195|164=>275|162=>284|203=>282|119=>263|46=>248|139=>268|138=>267|51=>271|160=>302|208=>325|206=>323|80=>178|n=>n,fun|13=>5|3=>2|4=>3|n=>n⟩
theorem Tryz.Sh:Go.Proofs.Lays.n159 Tryz.prog Tryz.vt:=by repeat' first|kernel_rfl|(intro _;kernel_rfl)|constructor
theorem Tryz.sT:Builder.Extra Tryz.prog Tryz.vt:=by repeat' first|kernel_rfl|(intro _;kernel_rfl)|decide|constructor
open Go.RowKit in
theorem Tryz.strings_ToLower_ascii (s:ByteArray) (w:World) (c:s.size≤140737488355328) (a:∀(j:Nat) (b:UInt8),s.data.toList[j]? =some b→b.toNat<128):
 Calls Tryz.prog 103 #[.string s] w fun e w'=>e=.returned (.string ⟨(Lib.toLowerA s.data.toList).toArray⟩)∧Below w.heap.size w w':=Any.strings_ToLower_ascii Tryz.Sh Tryz.sT s w c a
def Tryz.vv:Go.Shelf.Ren:=⟨fun|156=>152|165=>144|166=>139|169=>142|240=>180|241=>185|276=>226|277=>229|n=>n,fun|31=>28|9=>9|3=>3|4=>4|0=>0|20=>20|72=>206|76=>171|70=>204|37=>63|75=>170|127=>247|164=>275|5=>5|80=>178|n=>n,fun|n=>n⟩
theorem Tryz.JW:Go.Proofs.Lays.n156 Tryz.prog Tryz.vv:=by repeat' first|kernel_rfl|(intro _;kernel_rfl)|constructor
theorem Tryz.mc:Builder.Extra Tryz.prog Tryz.vv:=by repeat' first|kernel_rfl|(intro _;kernel_rfl)|decide|constructor
open Go.RowKit in
theorem Tryz.strings_Join_none (a:Option Addr) (c:Nat) (b:ByteArray) (w:World):
 Calls Tryz.prog 152 #[.slice a 0 c,.string b] w fun e w'=>e=.returned (.string ⟨#[]⟩)∧w'=w:=Any.strings_Join_none Tryz.JW Tryz.mc a c b w
open Go.RowKit in
theorem Tryz.strings_Join (a o c:Nat) (xs:List ByteArray) (b:ByteArray) (w:World) (k:∀(j:Nat) x,xs[j]? =some x→w.cell? ⟨a,o+j,none⟩=some (.string x)) (h:a<w.heap.size) (d:xs.length≤140737488355328) (i:xs.length≤c) (l:(Lib.join (xs.map (·.data.toList)) b.data.toList).length≤140737488355328):
 Calls Tryz.prog 152 #[.slice (some ⟨a,o,none⟩) xs.length c,.string b] w fun e w'=>e=.returned (.string ⟨(Lib.join (xs.map (·.data.toList)) b.data.toList).toArray⟩)∧Below w.heap.size w w':=Any.strings_Join Tryz.JW Tryz.mc a o c xs b w k h d i l
def Tryz.EJ:Go.Shelf.Ren:=⟨fun|161=>76|231=>82|227=>84|233=>85|235=>87|228=>128|197=>129|151=>130|260=>167|152=>168|137=>47|119=>215|224=>183|225=>182|217=>93|266=>133|n=>n,fun|9=>9|4=>4|3=>3|5=>5|117=>156|116=>155|0=>0|124=>159|105=>195|21=>21|119=>263|46=>248|139=>268|138=>267|n=>n,fun|3=>2|4=>3|n=>n⟩
theorem Tryz.RV:Go.Proofs.Lays.n161 Tryz.prog Tryz.EJ:=by repeat' first|kernel_rfl|(intro _;kernel_rfl)|constructor
def Tryz.EK:Go.Shelf.Ren:=⟨fun|160=>44|232=>83|231=>82|227=>84|234=>86|233=>85|236=>88|235=>87|228=>128|271=>131|151=>130|197=>129|120=>169|152=>168|260=>167|137=>47|119=>215|224=>183|225=>182|217=>93|266=>133|n=>n,fun|9=>9|4=>4|3=>3|5=>5|117=>156|116=>155|0=>0|124=>159|21=>21|105=>195|46=>248|119=>263|139=>268|138=>267|n=>n,fun|3=>2|4=>3|n=>n⟩
theorem Tryz.JL:Go.Proofs.Lays.n160 Tryz.prog Tryz.EK:=by repeat' first|kernel_rfl|(intro _;kernel_rfl)|constructor
def Tryz.EL:Go.Shelf.Ren:=⟨fun|137=>47|217=>93|266=>133|n=>n,fun|9=>9|5=>5|3=>3|n=>n,fun|n=>n⟩
theorem Tryz.Si:Go.Proofs.Lays.n137 Tryz.prog Tryz.EL:=by repeat' first|kernel_rfl|(intro _;kernel_rfl)|constructor
open Go.RowKit in
theorem Tryz.strings_IndexByte (s:ByteArray) (c:Int) (w:World):
 Calls Tryz.prog 47 #[.string s,.int .u8 c] w fun e w'=>e=.returned (.int .i64 (Lib.indexByte s.data.toList c.toNat.toUInt8))∧w'=w:=Any.strings_IndexByte Tryz.Si s c w
def Tryz.EM:Go.Shelf.Ren:=⟨fun|103=>223|210=>253|206=>89|n=>n,fun|9=>9|4=>4|24=>91|3=>3|n=>n,fun|n=>n⟩
theorem Tryz.Sj:Go.Proofs.Lays.n103 Tryz.prog Tryz.EM:=by repeat' first|kernel_rfl|(intro _;kernel_rfl)|constructor
open Go.RowKit in
theorem Tryz.strings_CutPrefix (s p:ByteArray) (w:World):
 Calls Tryz.prog 223 #[.string s,.string p] w fun e w'=>e=.returned (.tuple #[.string ⟨(Lib.trimPrefix s.data.toList p.data.toList).toArray⟩,.bool (Lib.hasPrefix s.data.toList p.data.toList)])∧w'=w:=Any.strings_CutPrefix Tryz.Sj s p w
def Tryz.EN:Go.Shelf.Ren:=⟨fun|122=>248|215=>258|n=>n,fun|3=>3|4=>4|n=>n,fun|n=>n⟩
theorem Tryz.Sk:Go.Proofs.Lays.n122 Tryz.prog Tryz.EN:=by repeat' first|kernel_rfl|(intro _;kernel_rfl)|constructor
open Go.RowKit in
theorem Tryz.cmp_Compare_int (x y:Int) (w:World):
 Calls Tryz.prog 248 #[.int .i64 x,.int .i64 y] w fun e w'=>e=.returned (.int .i64 (Lib.compareInt x y))∧w'=w:=Any.cmp_Compare_int Tryz.Sk x y w
def Tryz.EO:Go.Shelf.Ren:=⟨fun|172=>104|244=>148|245=>149|247=>190|279=>191|280=>192|281=>193|282=>194|287=>196|316=>232|171=>48|205=>233|321=>235|322=>236|243=>94|246=>134|283=>170|284=>171|285=>172|286=>173|129=>217|317=>216|318=>218|319=>219|320=>220|337=>251|338=>252|n=>n,fun|9=>9|3=>3|75=>170|76=>171|4=>4|5=>5|167=>252|37=>63|0=>0|85=>253|2=>2|168=>255|53=>216|175=>217|46=>248|210=>286|127=>247|145=>307|143=>305|21=>21|171=>235|173=>238|212=>270|51=>271|20=>20|213=>272|232=>320|233=>321|80=>178|n=>n,fun|15=>6|16=>7|17=>4|18=>9|19=>10|n=>n⟩
theorem Tryz.Sl:Go.Proofs.Lays.n172 Tryz.prog Tryz.EO:=by repeat' first|kernel_rfl|(intro _;kernel_rfl)|constructor
open Go.RowKit in
theorem Tryz.strconv_Atoi (s:ByteArray) (n:Int) (a:s.size≤18) (h:Lib.atoi s.data.toList=some n) (w:World):
 Calls Tryz.prog 104 #[.string s] w fun e w'=>e=.returned (.tuple #[.int .i64 n,.nilIface])∧∃t,w'=Lib.bytesWorld w 5 t:=Any.strconv_Atoi Tryz.Sl s n a h w
def Tryz.Ci:Go.Shelf.Ren:=⟨fun|171=>48|243=>94|246=>134|283=>170|284=>171|285=>172|286=>173|129=>217|317=>216|318=>218|319=>219|320=>220|337=>251|338=>252|n=>n,fun|3=>3|9=>9|2=>2|4=>4|171=>235|0=>0|53=>216|37=>63|5=>5|173=>238|212=>270|51=>271|20=>20|213=>272|46=>248|232=>320|233=>321|n=>n,fun|17=>4|18=>9|19=>10|n=>n⟩
theorem Tryz.O5:Go.Proofs.LaysM.n171 Tryz.prog Tryz.Ci:=by repeat' first|kernel_rfl|(intro _;kernel_rfl)|constructor
open Go.RowKit Go.Sort Go.Lib in
theorem Tryz.strconv_Itoa (n:Int) (a:-9223372036854775808≤n) (b:n≤9223372036854775807) (w:World) (c:Lib.TabIs Tryz.prog w "internal/strconv.uint64pow10" .u64 Lib.pow10Tab):
 Calls Tryz.prog 48 #[.int .i64 n] w fun e w'=>e=.returned (.string ⟨(Lib.itoa n).toArray⟩)∧∃k os,w'=grow (w.drewN k) os:=Any.strconv_Itoa Tryz.O5 n a b w c
def Tryz.Cj:Go.Shelf.Ren:=⟨fun|172=>104|244=>148|245=>149|247=>190|279=>191|280=>192|281=>193|282=>194|287=>196|316=>232|171=>48|205=>233|321=>235|322=>236|243=>94|246=>134|283=>170|284=>171|285=>172|286=>173|129=>217|317=>216|318=>218|319=>219|320=>220|337=>251|338=>252|n=>n,fun|9=>9|3=>3|75=>170|76=>171|4=>4|5=>5|167=>252|37=>63|0=>0|85=>253|2=>2|168=>255|53=>216|175=>217|46=>248|210=>286|127=>247|145=>307|143=>305|21=>21|171=>235|173=>238|212=>270|51=>271|20=>20|213=>272|232=>320|233=>321|80=>178|n=>n,fun|15=>6|16=>7|17=>4|18=>9|19=>10|n=>n⟩
theorem Tryz.yh:Go.Proofs.LaysC.n172 Tryz.prog Tryz.Cj:=by repeat' first|kernel_rfl|(intro _;kernel_rfl)|constructor
open Go.RowKit in
theorem Tryz.strconv_Atoi_ok (s:ByteArray) (a:s.size≤9223372036854775806) (v:Int) (h:Lib.atoiAll s.data.toList=.ok v) (w:World):
 Calls Tryz.prog 104 #[.string s] w fun e w'=>e=.returned (.tuple #[.int .i64 v,.nilIface])∧(w'=w∨∃t,w'=Lib.bytesWorld w 5 t):=Any.strconv_Atoi_ok Tryz.yh s a v h w
open Go.RowKit in
theorem Tryz.strconv_Atoi_syntax_var (s:ByteArray) (b:s.size≤281474976710656) (h:Lib.atoiAll s.data.toList=.«syntax») (a:TypeId) (p:Value) (w:World) (c:w.var? Tryz.prog "strconv.ErrSyntax" =some #[.iface a p]):
 Calls Tryz.prog 104 #[.string s] w fun e w'=>∃N,e=.returned (.tuple #[.int .i64 0,.iface 255 (.pointer (some ⟨N,0,none⟩))])∧w.heap.size≤N∧w'.heap[N]? =some (.cells #[.string ⟨#[65,116,111,105]⟩,.string s,.iface a p] 286 (0,0))∧Below w.heap.size w w':=Any.strconv_Atoi_syntax_var Tryz.yh s b h a p w c
open Go.RowKit in
theorem Tryz.strconv_Atoi_range_var (s:ByteArray) (b:s.size≤281474976710656) (h:Lib.atoiAll s.data.toList=.range) (a:TypeId) (p:Value) (w:World) (c:w.var? Tryz.prog "strconv.ErrRange" =some #[.iface a p]):
 Calls Tryz.prog 104 #[.string s] w fun e w'=>∃N,e=.returned (.tuple #[.int .i64 (Lib.atoiSat s.data.toList),.iface 255 (.pointer (some ⟨N,0,none⟩))])∧w.heap.size≤N∧w'.heap[N]? =some (.cells #[.string ⟨#[65,116,111,105]⟩,.string s,.iface a p] 286 (0,0))∧Below w.heap.size w w':=Any.strconv_Atoi_range_var Tryz.yh s b h a p w c
def Tryz.EP:Go.Shelf.Ren:=⟨fun|143=>132|219=>143|217=>93|225=>182|224=>183|267=>184|266=>133|314=>228|n=>n,fun|9=>9|3=>3|4=>4|5=>5|46=>248|146=>278|51=>271|n=>n,fun|1=>0|n=>n⟩
theorem Tryz.So:Go.Proofs.Lays.n143 Tryz.prog Tryz.EP:=by repeat' first|kernel_rfl|(intro _;kernel_rfl)|constructor
open Go.RowKit Go.Lib in
theorem Tryz.strings_Index (s sub:ByteArray) (m:Int) (w:World) (b:s.size<4294967281) (a:w.cell? ⟨0,0,none⟩=some (.int .i64 m)):
 Calls Tryz.prog 132 #[.string s,.string sub] w fun e w'=>e=.returned (.int .i64 (Lib.index s.data.toList sub.data.toList))∧w'=w:=Any.strings_Index Tryz.So s sub m w b a
def Tryz.ER:Go.Shelf.Ren:=⟨fun|144=>92|143=>132|219=>143|217=>93|225=>182|224=>183|267=>184|266=>133|314=>228|n=>n,fun|9=>9|4=>4|3=>3|5=>5|46=>248|146=>278|51=>271|n=>n,fun|1=>0|n=>n⟩
theorem Tryz.Sp:Go.Proofs.Lays.n144 Tryz.prog Tryz.ER:=by repeat' first|kernel_rfl|(intro _;kernel_rfl)|constructor
open Go.RowKit Go.Lib in
theorem Tryz.strings_Contains (s sub:ByteArray) (m:Int) (w:World) (b:s.size<4294967281) (a:w.cell? ⟨0,0,none⟩=some (.int .i64 m)):
 Calls Tryz.prog 92 #[.string s,.string sub] w fun e w'=>e=.returned (.bool (Lib.contains s.data.toList sub.data.toList))∧w'=w:=Any.strings_Contains Tryz.Sp s sub m w b a
def Tryz.ES:Go.Shelf.Ren:=⟨fun|145=>58|220=>102|219=>143|217=>93|225=>182|224=>183|267=>184|266=>133|314=>228|n=>n,fun|9=>9|4=>4|59=>126|3=>3|5=>5|46=>248|146=>278|51=>271|n=>n,fun|1=>0|n=>n⟩
theorem Tryz.Sq:Go.Proofs.Lays.n145 Tryz.prog Tryz.ES:=by repeat' first|kernel_rfl|(intro _;kernel_rfl)|constructor
open Go.RowKit Go.Lib in
theorem Tryz.strings_Cut (s a:ByteArray) (m:Int) (w:World) (c:s.size<4294967281) (b:w.cell? ⟨0,0,none⟩=some (.int .i64 m)):
 Calls Tryz.prog 58 #[.string s,.string a] w fun e w'=>e=.returned (.tuple #[.string ⟨(Lib.cut s.data.toList a.data.toList).1.toArray⟩,.string ⟨(Lib.cut s.data.toList a.data.toList).2.1.toArray⟩,.bool (Lib.cut s.data.toList a.data.toList).2.2])∧∃n,w'=w.drewN n:=Any.strings_Cut Tryz.Sq s a m w c b
def Tryz.ET:Go.Shelf.Ren:=⟨fun|149=>105|222=>150|n=>n,fun|9=>9|5=>5|3=>3|4=>4|n=>n,fun|n=>n⟩
theorem Tryz.Sr:Go.Proofs.Lays.n149 Tryz.prog Tryz.ET:=by repeat' first|kernel_rfl|(intro _;kernel_rfl)|constructor
open Go.RowKit Go.Lib in
theorem Tryz.strings_LastIndexByte (s:ByteArray) (c:Int) (a:s.size<4611686018427387904) (w:World):
 Calls Tryz.prog 105 #[.string s,.int .u8 c] w fun e w'=>e=.returned (.int .i64 (Lib.lastIndexByte s c))∧w'=w:=Any.strings_LastIndexByte Tryz.Sr s c a w
def Tryz.H9:Go.Shelf.Ren:=⟨fun|99=>45|206=>89|n=>n,fun|9=>9|4=>4|3=>3|n=>n,fun|n=>n⟩
theorem Tryz.UA:Go.Proofs.Lays.n99 Tryz.prog Tryz.H9:=by repeat' first|kernel_rfl|(intro _;kernel_rfl)|constructor
open Go.RowKit Go.Lib in
theorem Tryz.strings_HasPrefix (s p:ByteArray) (w:World):
 Calls Tryz.prog 45 #[.string s,.string p] w fun e w'=>e=.returned (.bool (Lib.hasPrefix s.data.toList p.data.toList))∧w'=w:=Any.strings_HasPrefix Tryz.UA s p w
def Tryz.EU:Go.Shelf.Ren:=⟨fun|146=>257|221=>262|268=>263|138=>264|143=>132|195=>265|197=>129|218=>266|219=>143|260=>167|217=>93|225=>182|224=>183|267=>184|266=>133|314=>228|n=>n,fun|9=>9|31=>28|3=>3|4=>4|0=>0|105=>195|21=>21|5=>5|46=>248|119=>263|139=>268|138=>267|146=>278|51=>271|n=>n,fun|1=>0|3=>2|4=>3|n=>n⟩
theorem Tryz.Ss:Go.Proofs.Lays.n146 Tryz.prog Tryz.EU:=by repeat' first|kernel_rfl|(intro _;kernel_rfl)|constructor
open Go.RowKit Go.Lib in
theorem Tryz.strings_Split (s a:ByteArray) (m:Int) (w:World) (d:s.size<4294967281) (c:w.cell? ⟨0,0,none⟩=some (.int .i64 m)) (b:1≤a.size):
 Calls Tryz.prog 257 #[.string s,.string a] w fun e w'=>e=.returned (.slice (some ⟨w.heap.size,0,none⟩) (Lib.countB s a+1) (Lib.countB s a+1))∧w'=w.alloc (.cells ((Lib.splitB a 0 (Lib.countB s a) s).map Value.string).toArray 9):=Any.strings_Split Tryz.Ss (by kernel_rfl) s a m w d c b
def Tryz.EV:Go.Shelf.Ren:=⟨fun|157=>163|229=>213|199=>214|261=>250|311=>260|312=>261|n=>n,fun|9=>9|31=>28|3=>3|5=>5|4=>4|119=>263|0=>0|40=>265|152=>296|21=>21|154=>298|51=>271|141=>300|196=>312|193=>309|198=>315|49=>313|194=>310|201=>318|226=>327|46=>248|227=>328|n=>n,fun|0=>1|6=>8|n=>n⟩
theorem Tryz.St:Go.Proofs.Lays.n157 Tryz.prog Tryz.EV:=by repeat' first|kernel_rfl|(intro _;kernel_rfl)|constructor
open Go.RowKit Go.Lib in
theorem Tryz.strings_Fields (s:ByteArray) (w:World) (c:s.size<4294967281) (a:∀(j:Nat) b,s.data.toList[j]? =some b→b.toNat<128) (d:Lib.TabIs Tryz.prog w "strings.asciiSpace" .u8 Lib.asciiSpaceTab):
 Calls Tryz.prog 163 #[.string s] w fun e w'=>e=.returned (.slice (some ⟨w.heap.size,0,none⟩) (Lib.fields s.data.toList).length (Lib.fields s.data.toList).length)∧w'=w.alloc (.cells ((Lib.fields s.data.toList).map fun l=>Value.string ⟨l.toArray⟩).toArray 9):=Any.strings_Fields Tryz.St (by kernel_rfl) (by kernel_rfl) s w c a d
def Tryz.EW:Go.Shelf.Ren:=⟨fun|110=>115|109=>159|n=>n,fun|31=>28|9=>9|4=>4|3=>3|0=>0|n=>n,fun|n=>n⟩
theorem Tryz.JX:Go.Proofs.Lays.n110 Tryz.prog Tryz.EW:=by repeat' first|kernel_rfl|(intro _;kernel_rfl)|constructor
open Go.Lib in
theorem Tryz.slices_Contains_string (b off n c:Nat) (a:List ByteArray) (x:ByteArray) (w:World) (i:n≤a.length) (d:n≤9223372036854775807) (h:∀j,j<a.length→w.cell? ⟨b,off+j,none⟩=some (.string (a.getD j ByteArray.empty))):
 Calls Tryz.prog 115 #[.slice (some ⟨b,off,none⟩) n c,.string x] w fun e w'=>e=.returned (.bool (Lib.containsS (a.take n) x))∧w'=w:=Any.slices_Contains_string Tryz.JX b off n c a x w i d h
open Go.Lib in
theorem Tryz.slices_Contains_string_empty (a:Option Addr) (c:Nat) (x:ByteArray) (w:World):
 Calls Tryz.prog 115 #[.slice a 0 c,.string x] w fun e w'=>e=.returned (.bool false)∧w'=w:=Any.slices_Contains_string_empty Tryz.JX a c x w
end Go.Proofs
namespace Go.Proofs.YtogchgjfialleaaGreatDoor
open Go.RowKit
def pM(w:World)(b:Nat)(s:ByteArray)(k:Nat):Prop:=
 ∃(C:Array Value) (m:Nat),w.heap[b]? =some (.cells C 5 (m,m+1))∧C.size=m∧s.size≤m∧
  ∀j (h:j<s.size),C[j]? =some (.int .u8 ((if j<k then ui s[j] else s[j]).toNat:Int))
theorem Cz(w:World)(s:ByteArray)(n:Nat):
 pM (w.drew.alloc (.cells (bytesRow s n) 5 ((bytesRow s n).size,(bytesRow s n).size+1))) w.heap.size s 0:=by
 refine⟨bytesRow s n,_,heap_alloc_new w.drew _,rfl, ?_, ?_⟩
 ·unfold bytesRow;rw[Array.size_append,Array.size_map];show s.data.size≤_;omega
 ·intro j h;rw[ae (by omega)];unfold bytesRow;rw[Array.getElem?_append_left (by simpa using h)];simp only[Array.getElem?_map];have:s.data[j]? =some s[j]:=by have:=OJ s j h;simpa using this
  rw[this];rfl
theorem Fq{w:World}{b:Nat}{s:ByteArray}{k:Nat}(h:pM w b s k)(d:k<s.size):
 w.cell? ⟨b,k,none⟩=some (.int .u8 (s[k].toNat:Int))∧w.frozen? ⟨b,k,none⟩=false:=by
 obtain⟨C,m,a,e,i,c⟩:=h;have:=c k d;rw[ae (by omega)] at this;constructor
 ·unfold World.cell?;rw[show w.heap[(⟨b,k,none⟩:Addr).block]? =_ from a];simpa using this
 ·unfold World.frozen?;rw[show w.heap[(⟨b,k,none⟩:Addr).block]? =_ from a];simp;omega
theorem IN{w:World}{b:Nat}{s:ByteArray}{k:Nat}(h:pM w b s k)(p:k<s.size)(v:Int)(o:((ui s[k]).toNat:Int)=v):
 pM (w.setCell ⟨b,k,none⟩ (.int .u8 v)) b s (k+1):=by
 obtain⟨C,m,d,c,n,i⟩:=h;refine⟨C.setIfInBounds k (.int .u8 v),m,Lib.heap_setCell_same d _,by simpa using c,n, ?_⟩;intro j l;rw[Array.getElem?_setIfInBounds];by_cases e:k=j
 ·subst e;rw[ah rfl,ah (by omega),ah (by omega),o]
 ·rw[ae e,i j l];by_cases a:j<k
  ·rw[ah a,ah (by omega)]
  ·rw[ae a,ae (by omega)]
theorem Fs{w:World}{b:Nat}{s:ByteArray}{k:Nat}(h:pM w b s k)(p:k<s.size)(o:ui s[k]=s[k]):pM w b s (k+1):=by
 obtain⟨C,m,d,c,n,i⟩:=h;refine⟨C,m,d,c,n, ?_⟩;intro j l;rw[i j l];by_cases e:j=k
 ·subst e;rw[ae (by omega),ah (by omega),o]
 ·by_cases a:j<k
  ·rw[ah a,ah (by omega)]
  ·rw[ae a,ae (by omega)]
theorem Ft{w:World}{b:Nat}{s:ByteArray}{k:Nat}(h:pM w b s k)(r:s.size≤k)(cap:Nat):
 (convert 63 9 (.slice (some ⟨b,0,none⟩) s.size cap)).run Tryz.prog w=.ok (.string ⟨(lower s.data.toList).toArray⟩) w:=by
 obtain⟨C,m,o,q,t,p⟩:=h;have:=run_convert_bytes_back (P:=Tryz.prog) w 63 9 5 ⟨b,0,none⟩ cap (lower s.data.toList) u63 u5 u9 (fun j a=>by
  have l:j<s.size:=by rw[jf,bj] at a;exact a
  have e:((⟨b,0,none⟩:Addr).add j)=⟨b,j,none⟩:=by
   unfold Addr.add;by_cases c:j=0
   ·subst c;rfl
   ·rw[ae c];simp
  rw[e];unfold World.cell?;rw[show w.heap[(⟨b,j,none⟩:Addr).block]? =_ from o];have d:=p j l;rw[ah (by omega)] at d;have n:(lower s.data.toList)[j]=ui s[j]:=by
   have:=OJ s j l;have i:(lower s.data.toList)[j]? =some (ui s[j]):=by rw[lower,uI,this];rfl
   rw[cA a] at i;exact iS i
  rw[n];simpa using d)
 rw[jf,bj] at this;exact this
theorem nU(s:ByteArray)(w:World)(t:s.size≤140737488351232):
 Calls Tryz.prog 106 #[.string s] w (cN w (.string ⟨(lower s.data.toList).toArray⟩)):=by
 have m:=fun(w:World)=>run_bytes_of_string (P:=Tryz.prog) w 9 63 5 s u9 u63 u5;go_enter Tryz.func106,Tryz.ntmps106;go_wp2;have e:=Cz w s (grownCap w s.size 0 5)
 go_loopw [9] (fun i wr=>∃k:Nat,k≤s.size∧i=.int .i64 k∧pM wr w.heap.size s k∧Below w.heap.size w wr) (fun i _=>s.size-(intOf i).toNat)
 case atStart=>exact⟨0,aH _,rfl,e,((Below.refl _ _).alloc (ag _) _).drew⟩
 case round=>
  clear e m;obtain⟨k,r,rfl,a,c⟩:=hrel;by_cases d:k<s.size
  ·obtain⟨n,q⟩:=Fq a d;by_cases h:(65:Int)≤↑s[k].toNat∧(↑s[k].toNat:Int)≤90
   ·obtain⟨j,l⟩:=h;have b:=Lib.hid (JP s[k] j l);go_wp2
    go_roundw
    case rel=>exact⟨k+1,by omega,by go_num,IN a d _ b.out,c.setCell (p:=⟨_,_,none⟩) (ag _) _⟩
    case measure=>simp[intOf];omega
   ·have b:=Lib.hid (xM s[k] h);go_wp2;all_goals
     go_roundw
     case rel=>exact⟨k+1,by omega,by go_num,Fs a d b.out,c⟩
     case measure=>simp[intOf];omega
  ·have o:=Ft a (by omega);go_wp2;go_ret;exact⟨rfl,c⟩
theorem qg(a b:ByteArray)(w:World)(d:a.size≤140737488351232)(h:b.size≤140737488351232):
 Calls Tryz.prog 245 #[.string a,.string b] w (cN w (.bool (same a.data.toList b.data.toList))):=by
 go_enter Tryz.func245,Tryz.ntmps245;go_wp2_with fail;refine(nU a _ d).mono ?_;rintro e j⟨rfl,c⟩;go_wp2_with fail;refine(nU b _ h).mono ?_;rintro e k⟨rfl,i⟩;go_wp2_with fail;go_ret;exact⟨cq (by simp[same]),c.trans (i.mono c.size)⟩
theorem Ef{w w':World}(h:∃n,w'=w.drewN n):Below w.heap.size w w':=by obtain⟨n,rfl⟩:=h;exact⟨rfl,rfl,rfl,ag _,fun _ _=>rfl⟩
theorem Ec(v:Value)(ls:List Bs)(d:ByteArray)(w:World)(h:cg w v ls)(k:Uq ls)(q:d.size≤2):
 Calls Tryz.prog 152 #[v,.string d] w (cN w (.string ⟨(Lib.join ls d.data.toList).toArray⟩)):=by
 have s:=k.many;rcases h with⟨a,c,rfl,rfl⟩|⟨b,o,c,rfl,m,p,n⟩
 ·refine(Tryz.strings_Join_none a c d w).mono ?_;rintro e w'⟨rfl,rfl⟩;exact⟨rfl,Below.refl _ _⟩
 ·have i:((ls.map fun l=>(⟨l.toArray⟩:ByteArray)).map (·.data.toList))=ls:=by rw[List.map_map];exact List.map_id' ls
  have r:=oX k d.data.toList (by rw[bj];exact q);have:=Tryz.strings_Join b o c (ls.map fun l=>(⟨l.toArray⟩:ByteArray)) d w (fun j x i=>by rw[uI] at i;obtain⟨l,k,rfl⟩:=qG.1 i;exact n j l k) p (by rw[jo];omega) (by rw[jo];exact m) (by rw[i];omega)
  rw[i,jo] at this;exact this
theorem fI(s:ByteArray)(c:UInt8)(w:World)(a:Good w)(d:s.size<4294967281):
 Calls Tryz.prog 58 #[.string s,.string ⟨#[c]⟩] w (cN w (.tuple #[.string ⟨(upto c s.data.toList).toArray⟩,.string ⟨(past c s.data.toList).toArray⟩,.bool (hasB c s.data.toList)])):=by
 obtain⟨m,b⟩:=a;refine(Tryz.strings_Cut s ⟨#[c]⟩ m w d b).mono ?_;rintro e w'⟨rfl,h⟩;have:(⟨#[c]⟩:ByteArray).data.toList=[c]:=rfl;rw[this,Eg];exact⟨rfl,Ef h⟩
theorem JK(s a:ByteArray)(w:World)(b:Good w)(d:s.size<4294967281):
 Calls Tryz.prog 58 #[.string s,.string a] w (cN w (.tuple #[.string ⟨(Lib.cut s.data.toList a.data.toList).1.toArray⟩,.string ⟨(Lib.cut s.data.toList a.data.toList).2.1.toArray⟩,.bool (Lib.cut s.data.toList a.data.toList).2.2])):=by
 obtain⟨m,c⟩:=b;refine(Tryz.strings_Cut s a m w d c).mono ?_;rintro e w'⟨rfl,h⟩;exact⟨rfl,Ef h⟩
theorem nn(s sub:ByteArray)(w:World)(a:Good w)(c:s.size<4294967281):
 Calls Tryz.prog 92 #[.string s,.string sub] w fun e w'=>e=.returned (.bool (Lib.contains s.data.toList sub.data.toList))∧w=w':=by
 obtain⟨m,b⟩:=a;refine(Tryz.strings_Contains s sub m w c b).mono ?_;rintro e w'⟨rfl,rfl⟩;exact⟨rfl,rfl⟩
theorem mN(s sub:ByteArray)(w:World)(a:Good w)(c:s.size<4294967281):
 Calls Tryz.prog 132 #[.string s,.string sub] w fun e w'=>e=.returned (.int .i64 (Lib.index s.data.toList sub.data.toList))∧w=w':=by
 obtain⟨m,b⟩:=a;refine(Tryz.strings_Index s sub m w c b).mono ?_;rintro e w'⟨rfl,rfl⟩;exact⟨rfl,rfl⟩
theorem cj(s p:ByteArray)(w:World):
 Calls Tryz.prog 45 #[.string s,.string p] w fun e w'=>e=.returned (.bool (Lib.hasPrefix s.data.toList p.data.toList))∧w=w':=by
 refine(Tryz.strings_HasPrefix s p w).mono ?_;rintro e w'⟨rfl,rfl⟩;exact⟨rfl,rfl⟩
theorem o9(s a:ByteArray)(w:World)(e:s.size≤9223372036854775807)(d:a.size<4294967281)(c:∀(j:Nat) b,a.data.toList[j]? =some b→b.toNat<128):
 Calls Tryz.prog 44 #[.string s,.string a] w (cN w (.string ⟨(Lib.trimS s.data.toList a.data.toList).toArray⟩)):=
 Any.strings_Trim_laid Tryz.JL (by kernel_rfl) s a w e d c
theorem rU(a:Option Addr)(c:Nat)(name:ByteArray)(w:World):
 Calls Tryz.prog 243 #[.slice a 0 c,.string name] w (vU w []):=by
 go_enter Tryz.func243,Tryz.ntmps243;go_wp2;refine wp_loop_rounds 1 ?_;rw[rounds_succ];go_wp2;go_ret;exact⟨_,rfl,World.ownsRow_nil _ _ _ _,Below.refl _ _⟩
theorem rV(fs:List dQ)(b o c:Nat)(name:ByteArray)(w:World)(E:fs.length≤c)(y:b<w.heap.size)(hF:tI w b o fs)(q:rX fs)(B:name.size≤140737488351232):
 Calls Tryz.prog 243 #[.slice (some ⟨b,o,none⟩) fs.length c,.string name] w (vU w (values fs name.data.toList)):=by
 have I:=q.many;go_enter Tryz.func243,Tryz.ntmps243;go_wp2
 go_loopw [4,9] (fun v i wr=>∃k:Nat,k≤fs.length∧i=.int .i64 k∧wr.ownsRow w.heap.size 9 1 v (values (fs.take k) name.data.toList).length (cM (values (fs.take k) name.data.toList))∧Below w.heap.size w wr) (fun _ i _=>fs.length-(intOf i).toNat)
 case atStart=>exact⟨0,aH _,rfl,World.ownsRow_nil _ _ _ _,Below.refl _ _⟩
 case round=>
  obtain⟨k,H,rfl,j,a⟩:=hrel;have t:=a.size;by_cases A:k<fs.length
  ·obtain⟨f,h⟩:∃f,fs[k]? =some f:=⟨fs[k],cA A⟩;obtain⟨u,x⟩:=(hF.below a y) k f h;have G:=q.get h;have n:=Lib.hid h;clear h;have L:=vR fs name.data.toList k;go_wp2_with fail;refine(qg _ _ _ (by simp[ByteArray.size];omega) B).mono ?_;rintro e D⟨rfl,m⟩;have F:D.cell? ⟨wr.heap.size,1,none⟩=some (.string ⟨f.2.toArray⟩):=(m.cell (p:=⟨wr.heap.size,1,none⟩) (by simp)).trans (bH wr _ _ 1 _ rfl);have d:=eG m;have J:=d.size;have r:=cp j d;clear u x j m;rcases s:same f.1 name.data.toList with _|_
   ·have l:=Lib.hid s;go_wp2
    go_roundw
    case rel=>refine⟨k+1,by omega,by go_num, ?_,a.trans (d.mono t)⟩;rw[Lo fs _ k f n.out l.out];exact r
    case measure=>simp[intOf];omega
   ·have l:=Lib.hid s;go_wp2_with (at_builtin;refine CZ rfl _ _ 28 rfl 9 (.string ⟨#[]⟩) 1 16 u28 MO rfl (by decide) w.heap.size _ _ _ _ rfl r [.string ⟨f.2.toArray⟩] rfl rfl rfl (by simp[Value.oneCell']) (by omega) (by omega) (by omega) ?_;intro g cap M C z K)
    go_roundw
    case rel=>refine⟨k+1,by omega,by go_num, ?_,a.trans ((d.mono t).trans z)⟩;rw[G6 fs _ k f n.out l.out,oG,bB];exact C
    case measure=>simp[intOf];omega
  ·go_wp2;go_ret;refine⟨_,rfl, ?_,a⟩;rw[oe (by omega)] at j;exact j
theorem qM(fs:List dQ)(v:Value)(name:ByteArray)(w:World)(hF:aZ w v fs)(h:rX fs)(j:name.size≤140737488351232):
 Calls Tryz.prog 243 #[v,.string name] w (vU w (values fs name.data.toList)):=by
 rcases hF with⟨a,c,rfl,rfl⟩|⟨b,o,c,rfl,d,i,e⟩
 ·exact rU a c name w
 ·exact rV fs b o c name w d i e h j
theorem il(s p:ByteArray)(w:World):
 Calls Tryz.prog 223 #[.string s,.string p] w fun e w'=>e=.returned (.tuple #[.string ⟨(Lib.trimPrefix s.data.toList p.data.toList).toArray⟩,.bool (Lib.hasPrefix s.data.toList p.data.toList)])∧w=w':=by
 refine(Tryz.strings_CutPrefix s p w).mono ?_;rintro e w'⟨rfl,rfl⟩;exact⟨rfl,rfl⟩
theorem fw(s a:ByteArray)(w:World)(d:a.size<4294967281)(c:∀(j:Nat) b,a.data.toList[j]? =some b→b.toNat<128):
 Calls Tryz.prog 76 #[.string s,.string a] w (cN w (.string ⟨(Lib.trimLeftS s.data.toList a.data.toList).toArray⟩)):=
 Any.strings_TrimLeft_laid Tryz.RV (by kernel_rfl) s a w d c
theorem G2(s:ByteArray)(c:UInt8)(w:World)(h:Good w)(j:s.size<4294967281):
 Calls Tryz.prog 257 #[.string s,.string ⟨#[c]⟩] w (vU w (pieces c s.data.toList)):=by
 obtain⟨m,i⟩:=h;refine(Tryz.strings_Split s ⟨#[c]⟩ m w j i (ag 1)).mono ?_;rintro e w'⟨rfl,rfl⟩;have b:(Lib.splitB ⟨#[c]⟩ 0 (Lib.countB s ⟨#[c]⟩) s).map (·.data.toList)=pieces c s.data.toList:=by rw[Lib.splitB_data];exact Cc c _ _ (ag _)
 have a:(pieces c s.data.toList).length=Lib.countB s ⟨#[c]⟩+1:=by rw[←b,jo];exact Lib.splitB_all ⟨#[c]⟩ (ag 1) 0 _ s rfl
 have d:(Lib.splitB ⟨#[c]⟩ 0 (Lib.countB s ⟨#[c]⟩) s).map Value.string=cM (pieces c s.data.toList):=by rw[←b];unfold cM;rw[List.map_map];rfl
 have k:Lib.countB s ⟨#[c]⟩≤s.size:=Lib.countB_le ⟨#[c]⟩ (ag 1) s.size s (ag _);refine⟨_,rfl, ?_,(Below.refl _ _).alloc (ag _) _⟩;rw[d,a];refine⟨by rw[nk,a];omega,.inr ⟨w.heap.size,_,_,rfl,ag _,heap_alloc_new w _,ag _,by unfold maxLen;omega, ?_, ?_⟩⟩
 ·simp[nk,a]
 ·simp only[Nat.mul_one];rw[oe (by rw[List.toList_toArray,nk,a];omega)]
theorem rA(fs:List dQ)(v:Value)(name:ByteArray)(w:World)(hF:aZ w v fs)(d:rX fs)(l:name.size≤140737488351232):
 Calls Tryz.prog 240 #[v,.string name] w (cN w (.tuple #[.string ⟨(jz fs name.data.toList).1.toArray⟩,.bool (jz fs name.data.toList).2])):=by
 have i:=d.values name.data.toList;go_enter Tryz.func240,Tryz.ntmps240;go_wp2_with fail;refine(qM fs v name _ hF d l).mono ?_;rintro e m⟨u,rfl,h,b⟩;have j:=cg.wO h;obtain⟨a,c,rfl⟩:=aX h;go_wp2_with fail;refine(Ec _ _ ⟨#[44,32]⟩ _ j i (by decide)).mono ?_;rintro e n⟨rfl,k⟩;go_wp2_with fail;go_ret2;exact⟨by simp[jz],b.trans (k.mono b.size)⟩
theorem Ed{fs:List dQ}(h:rX fs)(name:Bs):(jz fs name).1.length≤100002000:=oX (h.values name) [44,32] (by decide)
theorem Ty(l:Bs)(n:Nat)(h:l.length≤n):(⟨l.toArray⟩:ByteArray).size≤n:=by show l.toArray.size≤n;simpa using h
theorem GV(l:Bs)(n:Nat)(h:l.length<n):(⟨l.toArray⟩:ByteArray).size<n:=by show l.toArray.size<n;simpa using h
theorem B9{fs:List dQ}(h:rX fs):(fe fs).1.length≤100002000:=oX (h.values bA) [59,32] (by decide)
theorem mR(s:ByteArray)(w:World)(b:s.size≤9223372036854775807):
 Calls Tryz.prog 244 #[.string s] w (cN w (.string ⟨(trim s.data.toList).toArray⟩)):=by
 go_enter Tryz.func244,Tryz.ntmps244;go_wp2_with fail;refine(Any.strings_Trim_laid Tryz.JL (by kernel_rfl) s ⟨#[32,9]⟩ _ b (by decide) (ascii_of_all (by decide))).mono ?_;rintro e c⟨rfl,a⟩;go_wp2_with fail;go_ret;exact⟨rfl,a⟩
