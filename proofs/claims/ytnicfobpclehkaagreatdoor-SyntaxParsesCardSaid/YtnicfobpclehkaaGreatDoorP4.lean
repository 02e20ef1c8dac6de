import Derived.Shelf.Strings.Builder1
import Derived.Shelf.Strings.Builder2
import Derived.Shelf.Strings.OnBuilder
import Derived.Shelf.Small.Wraps
import Derived.Shelf.Utf8.RuneCount
import Derived.Shelf.Strconv.Itoa0
import Derived.Shelf.Strconv.Itoa1
import Derived.Shelf.LaysM
import Derived.Shelf.Strconv.Itoa2
import Derived.Shelf.Strconv.Itoa3
import Derived.Shelf.Strconv.Itoa4
import Derived.Shelf.Strconv.ParseIntEmpty
import Derived.Shelf.Strconv.Clone
import Derived.Shelf.Strconv.SyntaxError
import Derived.Shelf.LaysC
import Derived.Shelf.Strconv.ToError
import Derived.Shelf.Strconv.Lower
import Derived.Shelf.Strconv.ParseUint10
import Derived.Shelf.Strconv.ParseUint10Empty
import Derived.Shelf.Strconv.ParseUint10Any
import Derived.Shelf.Strconv.ParseInt10
import Derived.Shelf.Strconv.RangeError
import Derived.Shelf.Strconv.ToErrorRange
import Derived.Shelf.Strconv.ParseUintEmpty
import Derived.Shelf.Strconv.ParseUint10b64
import Derived.Shelf.Strconv.ParseUint10b32
import Derived.Shelf.Strconv.ParseUint10b16
import Derived.Shelf.Strconv.ParseUint10b8
import Derived.Shelf.Strconv.ParseUint10At
import Derived.Shelf.Strconv.ParseInt10At64
import Derived.Shelf.Strconv.ParseInt10At32
import Derived.Shelf.Strconv.ParseInt10At16
import Derived.Shelf.Strconv.ParseInt10At8
import Derived.Shelf.Strconv.ParseInt10All
import Derived.Shelf.Strconv.ParseIntPublic10
import Derived.Shelf.Strconv.ErrVarParseInt
import Derived.Shelf.Strings.Search1
import Derived.Shelf.Strings.Search2
import Derived.Shelf.Strings.Search3
import Derived.Shelf.Strings.Cut
import Derived.Shelf.Strings.Count
import Derived.Shelf.Strings.Shaped
import Derived.Shelf.Strings.Split
import Derived.Shelf.Strings.Replace
import Derived.Shelf.Strings.SplitShaped
import Derived.Shelf.Unicode.Decode
import Derived.Shelf.Strings.RuneCount
import Derived.Shelf.Strings.Explode
import Derived.Shelf.Unicode.DecodeSlow
import Derived.Shelf.Unicode.DecodeAny
import Derived.Test.YtnicfobpclehkaaGreatDoorProg
set_option maxHeartbeats 200000
set_option linter.unusedVariables false
set_option linter.unusedSimpArgs false
namespace Go.Proofs
open Go.Shelf
def Tryz.mO:Go.Shelf.Ren:=⟨fun|156=>21|165=>46|166=>47|169=>48|240=>112|241=>113|276=>191|277=>192|n=>n,fun|31=>62|9=>9|3=>3|4=>4|0=>0|20=>20|72=>103|76=>107|70=>100|37=>101|75=>106|127=>161|164=>210|5=>5|80=>109|n=>n,fun|n=>n⟩
theorem Tryz.xD:Go.Proofs.Lays.n156 Tryz.prog Tryz.mO:=by repeat' first|kernel_rfl|(intros;kernel_rfl)|decide|constructor
theorem Tryz.iv:Builder.Extra Tryz.prog Tryz.mO:=by repeat' first|kernel_rfl|(intros;kernel_rfl)|decide|constructor
open Go.RowKit in
theorem Tryz.strings_Join_none(a:Option Addr)(c:Nat)(sep:ByteArray)(w:World):
 Calls Tryz.prog 21 #[.slice a 0 c,.string sep] w fun e w'=>e=.returned (.string ⟨#[]⟩)∧w'=w:=Any.strings_Join_none Tryz.xD Tryz.iv a c sep w
open Go.RowKit in
theorem Tryz.strings_Join(bk o c:Nat)(xs:List ByteArray)(sep:ByteArray)(w:World)(hcells:∀(j:Nat) x,xs[j]?=some x→w.cell? ⟨bk,o+j,none⟩=some (.string x))(hbk:bk<w.heap.size)(hN:xs.length≤140737488355328)(hcap:xs.length≤c)(hlen:(Lib.join (xs.map (·.data.toList)) sep.data.toList).length≤140737488355328):
 Calls Tryz.prog 21 #[.slice (some ⟨bk,o,none⟩) xs.length c,.string sep] w fun e w'=>e=.returned (.string ⟨(Lib.join (xs.map (·.data.toList)) sep.data.toList).toArray⟩)∧Below w.heap.size w w':=Any.strings_Join Tryz.xD Tryz.iv bk o c xs sep w hcells hbk hN hcap hlen
def Tryz.sc:Go.Shelf.Ren:=⟨fun|171=>169|243=>228|246=>243|283=>251|284=>252|285=>253|286=>254|129=>262|317=>261|318=>263|319=>264|320=>265|337=>273|338=>274|n=>n,fun|3=>3|9=>9|2=>2|4=>4|171=>258|0=>0|53=>236|37=>101|5=>5|173=>261|212=>266|51=>238|20=>20|213=>267|46=>208|232=>280|233=>281|n=>n,fun|17=>3|18=>6|19=>7|n=>n⟩
theorem Tryz.Cw:Go.Proofs.LaysM.n171 Tryz.prog Tryz.sc:=by repeat' first|kernel_rfl|(intros;kernel_rfl)|decide|constructor
open Go.RowKit Go.Sort Go.Lib in
theorem Tryz.strconv_Itoa(n:Int)(h0: -9223372036854775808≤n)(h1:n≤9223372036854775807)(w:World)(htab:Lib.TabIs Tryz.prog w "internal/strconv.uint64pow10" .u64 Lib.pow10Tab):
 Calls Tryz.prog 169 #[.int .i64 n] w fun e w'=>e=.returned (.string ⟨(Lib.itoa n).toArray⟩)∧∃k os,w'=grow (w.drewN k) os:=Any.strconv_Itoa Tryz.Cw n h0 h1 w htab
def Tryz.qV:Go.Shelf.Ren:=⟨fun|173=>221|246=>243|283=>251|284=>252|285=>253|286=>254|129=>262|317=>261|318=>263|319=>264|320=>265|337=>273|338=>274|n=>n,fun|2=>2|3=>3|9=>9|4=>4|171=>258|0=>0|53=>236|37=>101|5=>5|173=>261|212=>266|51=>238|20=>20|213=>267|46=>208|232=>280|233=>281|n=>n,fun|17=>3|18=>6|19=>7|n=>n⟩
theorem Tryz.Dh:Go.Proofs.LaysM.n173 Tryz.prog Tryz.qV:=by repeat' first|kernel_rfl|(intros;kernel_rfl)|decide|constructor
open Go.RowKit Go.Sort Go.Lib in
theorem Tryz.strconv_FormatInt_10(n:Int)(h0: -9223372036854775808≤n)(h1:n≤9223372036854775807)(w:World)(htab:Lib.TabIs Tryz.prog w "internal/strconv.uint64pow10" .u64 Lib.pow10Tab):
 Calls Tryz.prog 221 #[.int .i64 n,.int .i64 10] w fun e w'=>e=.returned (.string ⟨(Lib.itoa n).toArray⟩)∧∃k os,w'=grow (w.drewN k) os:=Any.strconv_FormatInt_10 Tryz.Dh n h0 h1 w htab
def Tryz.rh:Go.Shelf.Ren:=⟨fun|174=>249|247=>257|245=>258|287=>267|279=>268|280=>269|281=>270|282=>271|321=>276|322=>277|316=>278|171=>169|205=>279|243=>228|246=>243|283=>251|284=>252|285=>253|286=>254|129=>262|317=>261|318=>263|319=>264|320=>265|337=>273|338=>274|n=>n,fun|9=>9|3=>3|2=>2|75=>106|85=>256|4=>4|167=>270|5=>5|53=>236|175=>271|46=>208|168=>273|37=>101|0=>0|210=>278|21=>21|127=>161|145=>284|143=>282|171=>258|173=>261|212=>266|51=>238|20=>20|213=>267|232=>280|233=>281|80=>109|n=>n,fun|15=>4|16=>5|17=>3|18=>6|19=>7|n=>n⟩
theorem Tryz.nK:Go.Proofs.LaysC.n174 Tryz.prog Tryz.rh:=by repeat' first|kernel_rfl|(intros;kernel_rfl)|decide|constructor
open Go.RowKit in
theorem Tryz.strconv_ParseInt_10_at64_ok(s:ByteArray)(hmax:s.size≤9223372036854775806)(v:Int)(h:Lib.parseIntB 64 s.data.toList=.ok v)(w:World):
 Calls Tryz.prog 249 #[.string s,.int .i64 10,.int .i64 64] w fun e w'=>e=.returned (.tuple #[.int .i64 v,.nilIface])∧(w'=w∨∃t,w'=Lib.bytesWorld w 5 t):=Any.strconv_ParseInt_10_at64_ok Tryz.nK s hmax v h w
open Go.RowKit in
theorem Tryz.strconv_ParseInt_10_at64_syntax(s:ByteArray)(hlim:s.size≤281474976710656)(h:Lib.parseIntB 64 s.data.toList=Lib.NumEnd.syntax)(ev:Value)(w:World)(hv:w.cell? ⟨4,0,none⟩=some ev)(hev:ev=.nilIface∨∃te pe,ev=.iface te pe):
 Calls Tryz.prog 249 #[.string s,.int .i64 10,.int .i64 64] w fun e w'=>∃N,e=.returned (.tuple #[.int .i64 (0),.iface 273 (.pointer (some ⟨N,0,none⟩))])∧w.heap.size≤N∧w'.heap[N]?=some (.cells #[.string ⟨#[80,97,114,115,101,73,110,116]⟩,.string s,ev] 278 (0,0))∧Below w.heap.size w w':=Any.strconv_ParseInt_10_at64_syntax Tryz.nK s hlim h ev w hv hev
open Go.RowKit in
theorem Tryz.strconv_ParseInt_10_at64_range(s:ByteArray)(hlim:s.size≤281474976710656)(h:Lib.parseIntB 64 s.data.toList=.range)(ev:Value)(w:World)(hv:w.cell? ⟨5,0,none⟩=some ev)(hev:ev=.nilIface∨∃te pe,ev=.iface te pe):
 Calls Tryz.prog 249 #[.string s,.int .i64 10,.int .i64 64] w fun e w'=>∃N,e=.returned (.tuple #[.int .i64 (Lib.intSat 64 s.data.toList),.iface 273 (.pointer (some ⟨N,0,none⟩))])∧w.heap.size≤N∧w'.heap[N]?=some (.cells #[.string ⟨#[80,97,114,115,101,73,110,116]⟩,.string s,ev] 278 (0,0))∧Below w.heap.size w w':=Any.strconv_ParseInt_10_at64_range Tryz.nK s hlim h ev w hv hev
def Tryz.tp:Go.Shelf.Ren:=⟨fun|144=>17|143=>43|219=>108|217=>184|225=>185|224=>186|267=>187|266=>232|314=>233|n=>n,fun|9=>9|4=>4|3=>3|5=>5|46=>208|146=>239|51=>238|n=>n,fun|1=>0|n=>n⟩
theorem Tryz.xy:Go.Proofs.Lays.n144 Tryz.prog Tryz.tp:=by repeat' first|kernel_rfl|(intros;kernel_rfl)|decide|constructor
open Go.RowKit Go.Lib in
theorem Tryz.strings_Contains_one(s:ByteArray)(c:UInt8)(w:World):
 Calls Tryz.prog 17 #[.string s,.string ⟨#[c]⟩] w fun e w'=>e=.returned (.bool (decide (0≤Lib.indexByte s.data.toList c)))∧w'=w:=Any.strings_Contains_one Tryz.xy s c w
open Go.RowKit Go.Lib in
theorem Tryz.strings_Contains(s sub:ByteArray)(m:Int)(w:World)(hs:s.size<4294967281)(hm:w.cell? ⟨0,0,none⟩=some (.int .i64 m)):
 Calls Tryz.prog 17 #[.string s,.string sub] w fun e w'=>e=.returned (.bool (Lib.contains s.data.toList sub.data.toList))∧w'=w:=Any.strings_Contains Tryz.xy s sub m w hs hm
def Tryz.uC:Go.Shelf.Ren:=⟨fun|145=>289|220=>291|219=>108|217=>184|225=>185|224=>186|267=>187|266=>232|314=>233|n=>n,fun|9=>9|4=>4|59=>288|3=>3|5=>5|46=>208|146=>239|51=>238|n=>n,fun|1=>0|n=>n⟩
theorem Tryz.FJ:Go.Proofs.Lays.n145 Tryz.prog Tryz.uC:=by repeat' first|kernel_rfl|(intros;kernel_rfl)|decide|constructor
open Go.RowKit Go.Lib in
theorem Tryz.strings_Cut(s sep:ByteArray)(m:Int)(w:World)(hs:s.size<4294967281)(hm:w.cell? ⟨0,0,none⟩=some (.int .i64 m)):
 Calls Tryz.prog 289 #[.string s,.string sep] w fun e w'=>e=.returned (.tuple #[.string ⟨(Lib.cut s.data.toList sep.data.toList).1.toArray⟩,.string ⟨(Lib.cut s.data.toList sep.data.toList).2.1.toArray⟩,.bool (Lib.cut s.data.toList sep.data.toList).2.2])∧∃n,w'=w.drewN n:=Any.strings_Cut Tryz.FJ s sep m w hs hm
def Tryz.sj:Go.Shelf.Ren:=⟨fun|219=>108|217=>184|225=>185|224=>186|267=>187|266=>232|314=>233|n=>n,fun|9=>9|3=>3|4=>4|5=>5|46=>208|146=>239|51=>238|n=>n,fun|1=>0|n=>n⟩
theorem Tryz.BU:Go.Proofs.LaysM.n219 Tryz.prog Tryz.sj:=by repeat' first|kernel_rfl|(intros;kernel_rfl)|decide|exact fun w h=>Go.Proofs.cell_of_shapedOpen_int (zero:=#[.int .i64 0]) (t:=3) h (of_decide_eq_true (by kernel_rfl)) (by kernel_rfl) rfl (by kernel_rfl) (by kernel_rfl) Tryz.underlying3|constructor
end Go.Proofs
