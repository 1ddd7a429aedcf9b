import Derived.Shelf.Small.Utf8
import Derived.Shelf.LaysM
import Derived.Shelf.Strconv.Itoa4
import Derived.Shelf.LaysC
import Derived.Shelf.Strconv.ParseIntPublic10
import Derived.Shelf.Strconv.ErrVarParseInt
import Derived.Shelf.Unicode.DecodeAny
import Derived.Test.YtocjejladeeckaaDoorProg
set_option linter.all false
/-
 DERIVED: THE SHELF's CONTRACTS AT THIS DUMP,IN PLAIN WORDS (tools/lay-plain.mjs out of 'TrydShelf.lean',which tools/lay-shelf.mjs wrote): THE SAME DECLARATIONS UNDER THE SAME NAMES: 'import','namespace','open','def','theorem' AND NOTHING ELSE: no command of the shelf's: FOR A HAND-IN. Each laying: the table of numbers ('.._ren') and one theorem,a field a fact of the dump's own or the kernel's comparison; each contract: ONE APPLICATION.
-/
namespace Go.Proofs
open Go.Shelf
def Tryd.lays118_ren:Go.Shelf.Ren:=⟨fun | 118=>72 | n=>n,fun | 21=>21 | 3=>3 | 4=>4 | n=>n,fun | n=>n⟩
theorem Tryd.lays118:Go.Proofs.Lays.n118 Tryd.prog Tryd.lays118_ren:={
 mixed:=by kernel_rfl
 f118:=Tryd.func72.trans (congrArg some (by kernel_rfl))
 t3:=Tryd.underlying3
 a3:=Tryd.isAgg3
 z3:=Tryd.sizeOf3
 v3:=Tryd.zeroValue3
 t4:=Tryd.underlying4
 a4:=Tryd.isAgg4
 z4:=Tryd.sizeOf4
 v4:=Tryd.zeroValue4
 t21:=Tryd.underlying21
 a21:=Tryd.isAgg21
 z21:=Tryd.sizeOf21
 v21:=Tryd.zeroValue21 }
theorem Tryd.utf8_RuneLen(r:Int)(w:World) :
  Calls Tryd.prog 72 #[.int .i32 r] w fun e w'=>e=.returned (.int .i64 (Lib.runeLen r))/\w'=w:=Any.utf8_RuneLen Tryd.lays118 r w
def Tryd.laysM173_ren:Go.Shelf.Ren:=⟨fun | 173=>82 | 246=>108 | 283=>124 | 284=>125 | 285=>126 | 286=>127 | 129=>138 | 317=>137 | 318=>139 | 319=>140 | 320=>141 | 337=>148 | 338=>149 | n=>n,fun | 2=>2 | 3=>3 | 9=>9 | 4=>4 | 171=>167 | 0=>0 | 53=>116 | 37=>33 | 5=>5 | 173=>170 | 212=>183 | 51=>184 | 20=>20 | 213=>185 | 46=>160 | 232=>201 | 233=>202 | n=>n,fun | 17=>2 | 18=>5 | 19=>6 | n=>n⟩
theorem Tryd.laysM173:Go.Proofs.LaysM.n173 Tryd.prog Tryd.laysM173_ren:={
 mixed:=by kernel_rfl
 f129:=Tryd.func138.trans (congrArg some (by kernel_rfl))
 f173:=Tryd.func82.trans (congrArg some (by kernel_rfl))
 f246:=Tryd.func108.trans (congrArg some (by kernel_rfl))
 f283:=Tryd.func124.trans (congrArg some (by kernel_rfl))
 f284:=Tryd.func125.trans (congrArg some (by kernel_rfl))
 f285:=Tryd.func126.trans (congrArg some (by kernel_rfl))
 f286:=Tryd.func127.trans (congrArg some (by kernel_rfl))
 f317:=Tryd.func137.trans (congrArg some (by kernel_rfl))
 f318:=Tryd.func139.trans (congrArg some (by kernel_rfl))
 f319:=Tryd.func140.trans (congrArg some (by kernel_rfl))
 f320:=Tryd.func141.trans (congrArg some (by kernel_rfl))
 f337:=Tryd.func148.trans (congrArg some (by kernel_rfl))
 f338:=Tryd.func149.trans (congrArg some (by kernel_rfl))
 t0:=Tryd.underlying0
 a0:=Tryd.isAgg0
 z0:=Tryd.sizeOf0
 v0:=Tryd.zeroValue0
 t2:=Tryd.underlying2
 a2:=Tryd.isAgg2
 z2:=Tryd.sizeOf2
 v2:=Tryd.zeroValue2
 t3:=Tryd.underlying3
 a3:=Tryd.isAgg3
 z3:=Tryd.sizeOf3
 v3:=Tryd.zeroValue3
 t4:=Tryd.underlying4
 a4:=Tryd.isAgg4
 z4:=Tryd.sizeOf4
 v4:=Tryd.zeroValue4
 t5:=Tryd.underlying5
 a5:=Tryd.isAgg5
 z5:=Tryd.sizeOf5
 v5:=Tryd.zeroValue5
 t9:=Tryd.underlying9
 a9:=Tryd.isAgg9
 z9:=Tryd.sizeOf9
 v9:=Tryd.zeroValue9
 t20:=Tryd.underlying20
 a20:=Tryd.isAgg20
 z20:=Tryd.sizeOf20
 v20:=Tryd.zeroValue20
 t37:=Tryd.underlying33
 a37:=Tryd.isAgg33
 z37:=Tryd.sizeOf33
 v37:=Tryd.zeroValue33
 t46:=Tryd.underlying160
 a46:=Tryd.isAgg160
 z46:=Tryd.sizeOf160
 v46:=Tryd.zeroValue160
 t51:=Tryd.underlying184
 a51:=Tryd.isAgg184
 z51:=Tryd.sizeOf184
 v51:=Tryd.zeroValue184
 t53:=Tryd.underlying116
 a53:=Tryd.isAgg116
 z53:=Tryd.sizeOf116
 v53:=Tryd.zeroValue116
 t171:=Tryd.underlying167
 a171:=Tryd.isAgg167
 z171:=Tryd.sizeOf167
 v171:=Tryd.zeroValue167
 t173:=Tryd.underlying170
 a173:=Tryd.isAgg170
 z173:=Tryd.sizeOf170
 v173:=Tryd.zeroValue170
 t212:=Tryd.underlying183
 a212:=Tryd.isAgg183
 z212:=Tryd.sizeOf183
 v212:=Tryd.zeroValue183
 t213:=Tryd.underlying185
 a213:=Tryd.isAgg185
 z213:=Tryd.sizeOf185
 t232:=Tryd.underlying201
 a232:=Tryd.isAgg201
 z232:=Tryd.sizeOf201
 v232:=Tryd.zeroValue201
 t233:=Tryd.underlying202
 a233:=Tryd.isAgg202
 z233:=Tryd.sizeOf202
 v233:=Tryd.zeroValue202
 g17:=by kernel_rfl
 g18:=by kernel_rfl
 g19:=by kernel_rfl
 i0:=by kernel_rfl
 i2:=by kernel_rfl
 i3:=by kernel_rfl
 i4:=by kernel_rfl
 i5:=by kernel_rfl
 i9:=by kernel_rfl
 i20:=by kernel_rfl
 i37:=by kernel_rfl
 i46:=by kernel_rfl
 i51:=by kernel_rfl
 i53:=by kernel_rfl
 i171:=by kernel_rfl
 i173:=by kernel_rfl
 i212:=by kernel_rfl
 i232:=by kernel_rfl
 i233:=by kernel_rfl
 m17:=by kernel_rfl
 m18:=by kernel_rfl
 m19:=by kernel_rfl }
open Go.RowKit Go.Sort Go.Lib in
theorem Tryd.strconv_FormatInt_10(n:Int)(h0:-9223372036854775808<=n)(h1:n<=9223372036854775807)(w:World)(htab:Lib.TabIs Tryd.prog w "internal/strconv.uint64pow10" .u64 Lib.pow10Tab) :
  Calls Tryd.prog 82 #[.int .i64 n,.int .i64 10] w fun e w'=>e=.returned (.string ⟨(Lib.itoa n).toArray⟩)/\∃k os,w'=grow (w.drewN k) os:=Any.strconv_FormatInt_10 Tryd.laysM173 n h0 h1 w htab
open Go.RowKit Go.Sort Go.Lib in
def Tryd.laysC174_ren:Go.Shelf.Ren:=⟨fun | 174=>98 | 247=>120 | 245=>121 | 287=>131 | 279=>132 | 280=>133 | 281=>134 | 282=>135 | 321=>143 | 322=>144 | 316=>145 | 171=>147 | 205=>146 | 243=>151 | 246=>108 | 283=>124 | 284=>125 | 285=>126 | 286=>127 | 129=>138 | 317=>137 | 318=>139 | 319=>140 | 320=>141 | 337=>148 | 338=>149 | n=>n,fun | 9=>9 | 3=>3 | 2=>2 | 75=>95 | 85=>136 | 4=>4 | 167=>175 | 5=>5 | 53=>116 | 175=>176 | 46=>160 | 168=>178 | 37=>33 | 0=>0 | 210=>194 | 21=>21 | 127=>124 | 145=>200 | 143=>198 | 171=>167 | 173=>170 | 212=>183 | 51=>184 | 20=>20 | 213=>185 | 232=>201 | 233=>202 | 80=>98 | n=>n,fun | 15=>3 | 16=>4 | 17=>2 | 18=>5 | 19=>6 | n=>n⟩
theorem Tryd.laysC174:Go.Proofs.LaysC.n174 Tryd.prog Tryd.laysC174_ren:={
 mixed:=by kernel_rfl
 f129:=Tryd.func138.trans (congrArg some (by kernel_rfl))
 f171:=Tryd.func147.trans (congrArg some (by kernel_rfl))
 f174:=Tryd.func98.trans (congrArg some (by kernel_rfl))
 f205:=Tryd.func146.trans (congrArg some (by kernel_rfl))
 f243:=Tryd.func151.trans (congrArg some (by kernel_rfl))
 f245:=Tryd.func121.trans (congrArg some (by kernel_rfl))
 f246:=Tryd.func108.trans (congrArg some (by kernel_rfl))
 f247:=Tryd.func120.trans (congrArg some (by kernel_rfl))
 f279:=Tryd.func132.trans (congrArg some (by kernel_rfl))
 f280:=Tryd.func133.trans (congrArg some (by kernel_rfl))
 f281:=Tryd.func134.trans (congrArg some (by kernel_rfl))
 f282:=Tryd.func135.trans (congrArg some (by kernel_rfl))
 f283:=Tryd.func124.trans (congrArg some (by kernel_rfl))
 f284:=Tryd.func125.trans (congrArg some (by kernel_rfl))
 f285:=Tryd.func126.trans (congrArg some (by kernel_rfl))
 f286:=Tryd.func127.trans (congrArg some (by kernel_rfl))
 f287:=Tryd.func131.trans (congrArg some (by kernel_rfl))
 f316:=Tryd.func145.trans (congrArg some (by kernel_rfl))
 f317:=Tryd.func137.trans (congrArg some (by kernel_rfl))
 f318:=Tryd.func139.trans (congrArg some (by kernel_rfl))
 f319:=Tryd.func140.trans (congrArg some (by kernel_rfl))
 f320:=Tryd.func141.trans (congrArg some (by kernel_rfl))
 f321:=Tryd.func143.trans (congrArg some (by kernel_rfl))
 f322:=Tryd.func144.trans (congrArg some (by kernel_rfl))
 f337:=Tryd.func148.trans (congrArg some (by kernel_rfl))
 f338:=Tryd.func149.trans (congrArg some (by kernel_rfl))
 t0:=Tryd.underlying0
 a0:=Tryd.isAgg0
 z0:=Tryd.sizeOf0
 v0:=Tryd.zeroValue0
 t2:=Tryd.underlying2
 a2:=Tryd.isAgg2
 z2:=Tryd.sizeOf2
 v2:=Tryd.zeroValue2
 t3:=Tryd.underlying3
 a3:=Tryd.isAgg3
 z3:=Tryd.sizeOf3
 v3:=Tryd.zeroValue3
 t4:=Tryd.underlying4
 a4:=Tryd.isAgg4
 z4:=Tryd.sizeOf4
 v4:=Tryd.zeroValue4
 t5:=Tryd.underlying5
 a5:=Tryd.isAgg5
 z5:=Tryd.sizeOf5
 v5:=Tryd.zeroValue5
 t9:=Tryd.underlying9
 a9:=Tryd.isAgg9
 z9:=Tryd.sizeOf9
 v9:=Tryd.zeroValue9
 t20:=Tryd.underlying20
 a20:=Tryd.isAgg20
 z20:=Tryd.sizeOf20
 v20:=Tryd.zeroValue20
 t21:=Tryd.underlying21
 a21:=Tryd.isAgg21
 z21:=Tryd.sizeOf21
 v21:=Tryd.zeroValue21
 t37:=Tryd.underlying33
 a37:=Tryd.isAgg33
 z37:=Tryd.sizeOf33
 v37:=Tryd.zeroValue33
 t46:=Tryd.underlying160
 a46:=Tryd.isAgg160
 z46:=Tryd.sizeOf160
 v46:=Tryd.zeroValue160
 t51:=Tryd.underlying184
 a51:=Tryd.isAgg184
 z51:=Tryd.sizeOf184
 v51:=Tryd.zeroValue184
 t53:=Tryd.underlying116
 a53:=Tryd.isAgg116
 z53:=Tryd.sizeOf116
 v53:=Tryd.zeroValue116
 t75:=Tryd.underlying95
 a75:=Tryd.isAgg95
 z75:=Tryd.sizeOf95
 v75:=Tryd.zeroValue95
 t85:=Tryd.underlying136
 a85:=Tryd.isAgg136
 z85:=Tryd.sizeOf136
 v85:=Tryd.zeroValue136
 t127:=Tryd.underlying124
 a127:=Tryd.isAgg124
 z127:=Tryd.sizeOf124
 v127:=Tryd.zeroValue124
 t143:=Tryd.underlying198
 a143:=Tryd.isAgg198
 z143:=Tryd.sizeOf198
 v143:=Tryd.zeroValue198
 t145:=Tryd.underlying200
 a145:=Tryd.isAgg200
 z145:=Tryd.sizeOf200
 v145:=Tryd.zeroValue200
 t167:=Tryd.underlying175
 a167:=Tryd.isAgg175
 z167:=Tryd.sizeOf175
 v167:=Tryd.zeroValue175
 t168:=Tryd.underlying178
 a168:=Tryd.isAgg178
 z168:=Tryd.sizeOf178
 v168:=Tryd.zeroValue178
 t171:=Tryd.underlying167
 a171:=Tryd.isAgg167
 z171:=Tryd.sizeOf167
 v171:=Tryd.zeroValue167
 t173:=Tryd.underlying170
 a173:=Tryd.isAgg170
 z173:=Tryd.sizeOf170
 v173:=Tryd.zeroValue170
 t175:=Tryd.underlying176
 a175:=Tryd.isAgg176
 z175:=Tryd.sizeOf176
 v175:=Tryd.zeroValue176
 t210:=Tryd.underlying194
 a210:=Tryd.isAgg194
 z210:=Tryd.sizeOf194
 v210:=Tryd.zeroValue194
 t212:=Tryd.underlying183
 a212:=Tryd.isAgg183
 z212:=Tryd.sizeOf183
 v212:=Tryd.zeroValue183
 t213:=Tryd.underlying185
 a213:=Tryd.isAgg185
 z213:=Tryd.sizeOf185
 t232:=Tryd.underlying201
 a232:=Tryd.isAgg201
 z232:=Tryd.sizeOf201
 v232:=Tryd.zeroValue201
 t233:=Tryd.underlying202
 a233:=Tryd.isAgg202
 z233:=Tryd.sizeOf202
 v233:=Tryd.zeroValue202
 g15:=by kernel_rfl
 g16:=by kernel_rfl
 g17:=by kernel_rfl
 g18:=by kernel_rfl
 g19:=by kernel_rfl
 t80:=Tryd.underlying98
 a80:=Tryd.isAgg98
 z80:=Tryd.sizeOf98
 v80:=Tryd.zeroValue98
 i0:=by kernel_rfl
 i2:=by kernel_rfl
 i3:=by kernel_rfl
 i4:=by kernel_rfl
 i5:=by kernel_rfl
 i9:=by kernel_rfl
 i20:=by kernel_rfl
 i21:=by kernel_rfl
 i37:=by kernel_rfl
 i46:=by kernel_rfl
 i51:=by kernel_rfl
 i53:=by kernel_rfl
 i75:=by kernel_rfl
 i80:=by kernel_rfl
 i85:=by kernel_rfl
 i127:=by kernel_rfl
 i143:=by kernel_rfl
 i145:=by kernel_rfl
 i167:=by kernel_rfl
 i168:=by kernel_rfl
 i171:=by kernel_rfl
 i173:=by kernel_rfl
 i175:=by kernel_rfl
 i210:=by kernel_rfl
 i212:=by kernel_rfl
 i232:=by kernel_rfl
 i233:=by kernel_rfl
 m15:=by kernel_rfl
 m16:=by kernel_rfl
 m17:=by kernel_rfl
 m18:=by kernel_rfl
 m19:=by kernel_rfl
 c0:=by kernel_rfl
 c2:=by kernel_rfl
 c3:=by kernel_rfl
 c4:=by kernel_rfl
 c5:=by kernel_rfl
 c9:=by kernel_rfl
 c20:=by kernel_rfl
 c21:=by kernel_rfl
 c37:=by kernel_rfl
 c46:=by kernel_rfl
 c51:=by kernel_rfl
 c53:=by kernel_rfl
 c75:=by kernel_rfl
 c80:=by kernel_rfl
 c85:=by kernel_rfl
 c127:=by kernel_rfl
 c143:=by kernel_rfl
 c145:=by kernel_rfl
 c167:=by kernel_rfl
 c168:=by kernel_rfl
 c171:=by kernel_rfl
 c173:=by kernel_rfl
 c175:=by kernel_rfl
 c210:=by kernel_rfl
 c212:=by kernel_rfl
 c213:=by kernel_rfl
 c232:=by kernel_rfl
 c233:=by kernel_rfl }
open Go.RowKit in
open Go.RowKit in
open Go.RowKit in
open Go.RowKit in
theorem Tryd.strconv_ParseInt_10_at64_ok(s:ByteArray)(hmax:s.size<=9223372036854775806)(v:Int)(h:Lib.parseIntB 64 s.data.toList=.ok v)(w:World) :
  Calls Tryd.prog 98 #[.string s,.int .i64 10,.int .i64 64] w fun e w'=>e=.returned (.tuple #[.int .i64 v,.nilIface])/\(w'=w\/∃t,w'=Lib.bytesWorld w 5 t):=Any.strconv_ParseInt_10_at64_ok Tryd.laysC174 s hmax v h w
open Go.RowKit in
theorem Tryd.strconv_ParseInt_10_at64_syntax(s:ByteArray)(hlim:s.size<=281474976710656)(h:Lib.parseIntB 64 s.data.toList=.«syntax»)(ev:Value)(w:World)(hv:w.cell? ⟨3,0,none⟩=some ev)(hev:ev=.nilIface\/∃te pe,ev=.iface te pe) :
  Calls Tryd.prog 98 #[.string s,.int .i64 10,.int .i64 64] w fun e w'=>∃N,e=.returned (.tuple #[.int .i64 (0),.iface 178 (.pointer (some ⟨N,0,none⟩))])/\w.heap.size<=N/\w'.heap[N]?=some (.cells #[.string ⟨#[80,97,114,115,101,73,110,116]⟩,.string s,ev] 194 (0,0))/\Below w.heap.size w w':=Any.strconv_ParseInt_10_at64_syntax Tryd.laysC174 s hlim h ev w hv hev
open Go.RowKit in
theorem Tryd.strconv_ParseInt_10_at64_range(s:ByteArray)(hlim:s.size<=281474976710656)(h:Lib.parseIntB 64 s.data.toList=.range)(ev:Value)(w:World)(hv:w.cell? ⟨4,0,none⟩=some ev)(hev:ev=.nilIface\/∃te pe,ev=.iface te pe) :
  Calls Tryd.prog 98 #[.string s,.int .i64 10,.int .i64 64] w fun e w'=>∃N,e=.returned (.tuple #[.int .i64 (Lib.intSat 64 s.data.toList),.iface 178 (.pointer (some ⟨N,0,none⟩))])/\w.heap.size<=N/\w'.heap[N]?=some (.cells #[.string ⟨#[80,97,114,115,101,73,110,116]⟩,.string s,ev] 194 (0,0))/\Below w.heap.size w w':=Any.strconv_ParseInt_10_at64_range Tryd.laysC174 s hlim h ev w hv hev
open Go.RowKit in
open Go.RowKit in
open Go.RowKit in
open Go.RowKit in
open Go.RowKit in
open Go.RowKit in
open Go.RowKit in
open Go.RowKit in
open Go.RowKit in
open Go.RowKit in
open Go.RowKit in
open Go.RowKit in
open Go.RowKit in
open Go.RowKit in
open Go.RowKit in
open Go.RowKit in
open Go.RowKit in
open Go.RowKit in
open Go.RowKit in
def Tryd.lays197_ren:Go.Shelf.Ren:=⟨fun | 197=>71 | 260=>97 | n=>n,fun | 9=>9 | 21=>21 | 3=>3 | 4=>4 | 5=>5 | 105=>117 | 119=>159 | 0=>0 | 46=>160 | 139=>163 | 138=>162 | n=>n,fun | 3=>0 | 4=>1 | n=>n⟩
theorem Tryd.lays197:Go.Proofs.Lays.n197 Tryd.prog Tryd.lays197_ren:={
 mixed:=by kernel_rfl
 f197:=Tryd.func71.trans (congrArg some (by kernel_rfl))
 f260:=Tryd.func97.trans (congrArg some (by kernel_rfl))
 t0:=Tryd.underlying0
 a0:=Tryd.isAgg0
 z0:=Tryd.sizeOf0
 v0:=Tryd.zeroValue0
 t3:=Tryd.underlying3
 a3:=Tryd.isAgg3
 z3:=Tryd.sizeOf3
 v3:=Tryd.zeroValue3
 t4:=Tryd.underlying4
 a4:=Tryd.isAgg4
 z4:=Tryd.sizeOf4
 v4:=Tryd.zeroValue4
 t5:=Tryd.underlying5
 a5:=Tryd.isAgg5
 z5:=Tryd.sizeOf5
 v5:=Tryd.zeroValue5
 t9:=Tryd.underlying9
 a9:=Tryd.isAgg9
 z9:=Tryd.sizeOf9
 v9:=Tryd.zeroValue9
 t21:=Tryd.underlying21
 a21:=Tryd.isAgg21
 z21:=Tryd.sizeOf21
 v21:=Tryd.zeroValue21
 t46:=Tryd.underlying160
 a46:=Tryd.isAgg160
 z46:=Tryd.sizeOf160
 v46:=Tryd.zeroValue160
 t105:=Tryd.underlying117
 a105:=Tryd.isAgg117
 z105:=Tryd.sizeOf117
 v105:=Tryd.zeroValue117
 t119:=Tryd.underlying159
 a119:=Tryd.isAgg159
 z119:=Tryd.sizeOf159
 t138:=Tryd.underlying162
 a138:=Tryd.isAgg162
 z138:=Tryd.sizeOf162
 v138:=Tryd.zeroValue162
 t139:=Tryd.underlying163
 a139:=Tryd.isAgg163
 z139:=Tryd.sizeOf163
 v139:=Tryd.zeroValue163
 g3:=by kernel_rfl
 g4:=by kernel_rfl }
open Go.RowKit Go.Lib in
theorem Tryd.utf8_DecodeRuneInString(s:ByteArray)(w:World)(hT:Lib.Utf8Tabs 0 1 w) :
  Calls Tryd.prog 71 #[.string s] w fun e w'=>e=.returned (.tuple #[.int .i32 (Lib.decodeGo s).1,.int .i64 (Lib.decodeGo s).2])/\Below w.heap.size w w':=Any.utf8_DecodeRuneInString Tryd.lays197 s w hT
end Go.Proofs
