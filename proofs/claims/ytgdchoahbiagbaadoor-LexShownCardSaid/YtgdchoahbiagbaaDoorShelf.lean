import Derived.Shelf.Small.Utf8
import Derived.Shelf.Strconv.Itoa0
import Derived.Shelf.Strconv.Itoa1
import Derived.Shelf.LaysM
import Derived.Shelf.Strconv.Itoa2
import Derived.Shelf.Strconv.Itoa3
import Derived.Shelf.Strconv.Itoa4
import Derived.Shelf.Strconv.ParseIntEmpty
import Derived.Shelf.Strconv.Clone
import Derived.Shelf.Strconv.SyntaxError
import Derived.Shelf.LaysC
import Derived.Shelf.Strconv.ToError
import Derived.Shelf.Strconv.Lower
import Derived.Shelf.Strconv.ParseUint10
import Derived.Shelf.Strconv.ParseUint10Empty
import Derived.Shelf.Strconv.ParseUint10Any
import Derived.Shelf.Strconv.ParseInt10
import Derived.Shelf.Strconv.RangeError
import Derived.Shelf.Strconv.ToErrorRange
import Derived.Shelf.Strconv.ParseUintEmpty
import Derived.Shelf.Strconv.ParseUint10b64
import Derived.Shelf.Strconv.ParseUint10b32
import Derived.Shelf.Strconv.ParseUint10b16
import Derived.Shelf.Strconv.ParseUint10b8
import Derived.Shelf.Strconv.ParseUint10At
import Derived.Shelf.Strconv.ParseInt10At64
import Derived.Shelf.Strconv.ParseInt10At32
import Derived.Shelf.Strconv.ParseInt10At16
import Derived.Shelf.Strconv.ParseInt10At8
import Derived.Shelf.Strconv.ParseInt10All
import Derived.Shelf.Strconv.ParseIntPublic10
import Derived.Shelf.Strconv.ErrVarParseInt
import Derived.Shelf.Unicode.Decode
import Derived.Shelf.Unicode.DecodeSlow
import Derived.Shelf.Unicode.DecodeAny
import Derived.Test.YtgdchoahbiagbaaDoorProg
/-
  DERIVED: THE SHELF's CONTRACTS AT THIS DUMP,IN PLAIN WORDS (tools/lay-plain.mjs out of 'TrydShelf.lean',which tools/lay-shelf.mjs wrote): THE SAME DECLARATIONS UNDER THE SAME NAMES: 'import','namespace','open','def','theorem' AND NOTHING ELSE: no command of the shelf's: FOR A HAND-IN. Each laying: the table of numbers ('.._ren') and one theorem,a field a fact of the dump's own or the kernel's comparison; each contract: ONE APPLICATION.
-/
namespace Go.Proofs
open Go.Shelf
def Tryd.lays118_ren:Go.Shelf.Ren:=⟨fun | 118=>40 | n=>n,fun | 21=>21 | 3=>3 | 4=>4 | n=>n,fun | n=>n⟩
theorem Tryd.lays118:Go.Proofs.Lays.n118 Tryd.prog Tryd.lays118_ren:={
  mixed:=by kernel_rfl
  f118:=Tryd.func40.trans (congrArg some (by kernel_rfl))
  t3:=Tryd.underlying3
  a3:=Tryd.isAgg3
  z3:=Tryd.sizeOf3
  v3:=Tryd.zeroValue3
  t4:=Tryd.underlying4
  a4:=Tryd.isAgg4
  z4:=Tryd.sizeOf4
  v4:=Tryd.zeroValue4
  t21:=Tryd.underlying21
  a21:=Tryd.isAgg21
  z21:=Tryd.sizeOf21
  v21:=Tryd.zeroValue21 }
theorem Tryd.utf8_RuneLen(r:Int)(w:World) :
    Calls Tryd.prog 40 #[.int .i32 r] w fun e w'=>e=.returned (.int .i64 (Lib.runeLen r)) ∧ w'=w:=Any.utf8_RuneLen Tryd.lays118 r w
open Go.Lib in
open Go.Lib in
open Go.Lib in
open Go.Lib in
open Go.RowKit Go.Sort Go.Lib in
open Go.RowKit Go.Sort Go.Lib in
open Go.RowKit Go.Sort Go.Lib in
open Go.RowKit Go.Sort Go.Lib in
open Go.RowKit Go.Sort Go.Lib in
open Go.RowKit Go.Sort Go.Lib in
open Go.RowKit Go.Sort Go.Lib in
def Tryd.laysM173_ren:Go.Shelf.Ren:=⟨fun | 173=>63 | 246=>69 | 283=>75 | 284=>76 | 285=>77 | 286=>78 | 129=>81 | 317=>80 | 318=>82 | 319=>83 | 320=>84 | 337=>85 | 338=>86 | n=>n,fun | 2=>2 | 3=>3 | 9=>9 | 4=>4 | 171=>119 | 0=>0 | 53=>79 | 37=>23 | 5=>5 | 173=>122 | 212=>130 | 51=>131 | 20=>20 | 213=>132 | 46=>102 | 232=>135 | 233=>136 | n=>n,fun | 17=>4 | 18=>5 | 19=>6 | n=>n⟩
theorem Tryd.laysM173:Go.Proofs.LaysM.n173 Tryd.prog Tryd.laysM173_ren:={
  mixed:=by kernel_rfl
  f129:=Tryd.func81.trans (congrArg some (by kernel_rfl))
  f173:=Tryd.func63.trans (congrArg some (by kernel_rfl))
  f246:=Tryd.func69.trans (congrArg some (by kernel_rfl))
  f283:=Tryd.func75.trans (congrArg some (by kernel_rfl))
  f284:=Tryd.func76.trans (congrArg some (by kernel_rfl))
  f285:=Tryd.func77.trans (congrArg some (by kernel_rfl))
  f286:=Tryd.func78.trans (congrArg some (by kernel_rfl))
  f317:=Tryd.func80.trans (congrArg some (by kernel_rfl))
  f318:=Tryd.func82.trans (congrArg some (by kernel_rfl))
  f319:=Tryd.func83.trans (congrArg some (by kernel_rfl))
  f320:=Tryd.func84.trans (congrArg some (by kernel_rfl))
  f337:=Tryd.func85.trans (congrArg some (by kernel_rfl))
  f338:=Tryd.func86.trans (congrArg some (by kernel_rfl))
  t0:=Tryd.underlying0
  a0:=Tryd.isAgg0
  z0:=Tryd.sizeOf0
  v0:=Tryd.zeroValue0
  t2:=Tryd.underlying2
  a2:=Tryd.isAgg2
  z2:=Tryd.sizeOf2
  v2:=Tryd.zeroValue2
  t3:=Tryd.underlying3
  a3:=Tryd.isAgg3
  z3:=Tryd.sizeOf3
  v3:=Tryd.zeroValue3
  t4:=Tryd.underlying4
  a4:=Tryd.isAgg4
  z4:=Tryd.sizeOf4
  v4:=Tryd.zeroValue4
  t5:=Tryd.underlying5
  a5:=Tryd.isAgg5
  z5:=Tryd.sizeOf5
  v5:=Tryd.zeroValue5
  t9:=Tryd.underlying9
  a9:=Tryd.isAgg9
  z9:=Tryd.sizeOf9
  v9:=Tryd.zeroValue9
  t20:=Tryd.underlying20
  a20:=Tryd.isAgg20
  z20:=Tryd.sizeOf20
  v20:=Tryd.zeroValue20
  t37:=Tryd.underlying23
  a37:=Tryd.isAgg23
  z37:=Tryd.sizeOf23
  v37:=Tryd.zeroValue23
  t46:=Tryd.underlying102
  a46:=Tryd.isAgg102
  z46:=Tryd.sizeOf102
  v46:=Tryd.zeroValue102
  t51:=Tryd.underlying131
  a51:=Tryd.isAgg131
  z51:=Tryd.sizeOf131
  v51:=Tryd.zeroValue131
  t53:=Tryd.underlying79
  a53:=Tryd.isAgg79
  z53:=Tryd.sizeOf79
  v53:=Tryd.zeroValue79
  t171:=Tryd.underlying119
  a171:=Tryd.isAgg119
  z171:=Tryd.sizeOf119
  v171:=Tryd.zeroValue119
  t173:=Tryd.underlying122
  a173:=Tryd.isAgg122
  z173:=Tryd.sizeOf122
  v173:=Tryd.zeroValue122
  t212:=Tryd.underlying130
  a212:=Tryd.isAgg130
  z212:=Tryd.sizeOf130
  v212:=Tryd.zeroValue130
  t213:=Tryd.underlying132
  a213:=Tryd.isAgg132
  z213:=Tryd.sizeOf132
  t232:=Tryd.underlying135
  a232:=Tryd.isAgg135
  z232:=Tryd.sizeOf135
  v232:=Tryd.zeroValue135
  t233:=Tryd.underlying136
  a233:=Tryd.isAgg136
  z233:=Tryd.sizeOf136
  v233:=Tryd.zeroValue136
  g17:=by kernel_rfl
  g18:=by kernel_rfl
  g19:=by kernel_rfl
  i0:=by kernel_rfl
  i2:=by kernel_rfl
  i3:=by kernel_rfl
  i4:=by kernel_rfl
  i5:=by kernel_rfl
  i9:=by kernel_rfl
  i20:=by kernel_rfl
  i37:=by kernel_rfl
  i46:=by kernel_rfl
  i51:=by kernel_rfl
  i53:=by kernel_rfl
  i171:=by kernel_rfl
  i173:=by kernel_rfl
  i212:=by kernel_rfl
  i232:=by kernel_rfl
  i233:=by kernel_rfl
  m17:=by kernel_rfl
  m18:=by kernel_rfl
  m19:=by kernel_rfl }
open Go.RowKit Go.Sort Go.Lib in
theorem Tryd.strconv_FormatInt_10(n:Int)(h0:-9223372036854775808 ≤ n)(h1:n ≤ 9223372036854775807)(w:World)(htab:Lib.TabIs Tryd.prog w "internal/strconv.uint64pow10" .u64 Lib.pow10Tab) :
    Calls Tryd.prog 63 #[.int .i64 n,.int .i64 10] w fun e w'=>e=.returned (.string ⟨(Lib.itoa n).toArray⟩) ∧ ∃k os,w'=grow (w.drewN k) os:=Any.strconv_FormatInt_10 Tryd.laysM173 n h0 h1 w htab
open Go.RowKit Go.Sort Go.Lib in
open Go.RowKit in
open Go.RowKit in
open Go.RowKit in
open Go.RowKit in
open Go.RowKit in
open Go.RowKit in
open Go.RowKit in
open Go.RowKit in
open Go.RowKit in
open Go.RowKit in
open Go.RowKit in
open Go.RowKit in
open Go.RowKit in
open Go.RowKit in
open Go.RowKit in
open Go.RowKit in
open Go.RowKit in
open Go.RowKit in
open Go.RowKit in
open Go.RowKit in
open Go.RowKit in
open Go.RowKit in
open Go.RowKit in
open Go.RowKit in
open Go.RowKit in
open Go.RowKit in
open Go.RowKit in
open Go.RowKit in
open Go.RowKit in
open Go.RowKit in
def Tryd.laysC174_ren:Go.Shelf.Ren:=⟨fun | 174=>56 | 247=>61 | 245=>62 | 287=>64 | 279=>65 | 280=>66 | 281=>67 | 282=>68 | 321=>70 | 322=>71 | 316=>72 | 171=>74 | 205=>73 | 243=>79 | 246=>69 | 283=>75 | 284=>76 | 285=>77 | 286=>78 | 129=>81 | 317=>80 | 318=>82 | 319=>83 | 320=>84 | 337=>85 | 338=>86 | n=>n,fun | 9=>9 | 3=>3 | 2=>2 | 75=>98 | 85=>99 | 4=>4 | 167=>108 | 5=>5 | 53=>79 | 175=>109 | 46=>102 | 168=>111 | 37=>23 | 0=>0 | 210=>117 | 21=>21 | 127=>124 | 145=>127 | 143=>125 | 171=>119 | 173=>122 | 212=>130 | 51=>131 | 20=>20 | 213=>132 | 232=>135 | 233=>136 | 80=>137 | n=>n,fun | 15=>2 | 16=>3 | 17=>4 | 18=>5 | 19=>6 | n=>n⟩
theorem Tryd.laysC174:Go.Proofs.LaysC.n174 Tryd.prog Tryd.laysC174_ren:={
  mixed:=by kernel_rfl
  f129:=Tryd.func81.trans (congrArg some (by kernel_rfl))
  f171:=Tryd.func74.trans (congrArg some (by kernel_rfl))
  f174:=Tryd.func56.trans (congrArg some (by kernel_rfl))
  f205:=Tryd.func73.trans (congrArg some (by kernel_rfl))
  f243:=Tryd.func79.trans (congrArg some (by kernel_rfl))
  f245:=Tryd.func62.trans (congrArg some (by kernel_rfl))
  f246:=Tryd.func69.trans (congrArg some (by kernel_rfl))
  f247:=Tryd.func61.trans (congrArg some (by kernel_rfl))
  f279:=Tryd.func65.trans (congrArg some (by kernel_rfl))
  f280:=Tryd.func66.trans (congrArg some (by kernel_rfl))
  f281:=Tryd.func67.trans (congrArg some (by kernel_rfl))
  f282:=Tryd.func68.trans (congrArg some (by kernel_rfl))
  f283:=Tryd.func75.trans (congrArg some (by kernel_rfl))
  f284:=Tryd.func76.trans (congrArg some (by kernel_rfl))
  f285:=Tryd.func77.trans (congrArg some (by kernel_rfl))
  f286:=Tryd.func78.trans (congrArg some (by kernel_rfl))
  f287:=Tryd.func64.trans (congrArg some (by kernel_rfl))
  f316:=Tryd.func72.trans (congrArg some (by kernel_rfl))
  f317:=Tryd.func80.trans (congrArg some (by kernel_rfl))
  f318:=Tryd.func82.trans (congrArg some (by kernel_rfl))
  f319:=Tryd.func83.trans (congrArg some (by kernel_rfl))
  f320:=Tryd.func84.trans (congrArg some (by kernel_rfl))
  f321:=Tryd.func70.trans (congrArg some (by kernel_rfl))
  f322:=Tryd.func71.trans (congrArg some (by kernel_rfl))
  f337:=Tryd.func85.trans (congrArg some (by kernel_rfl))
  f338:=Tryd.func86.trans (congrArg some (by kernel_rfl))
  t0:=Tryd.underlying0
  a0:=Tryd.isAgg0
  z0:=Tryd.sizeOf0
  v0:=Tryd.zeroValue0
  t2:=Tryd.underlying2
  a2:=Tryd.isAgg2
  z2:=Tryd.sizeOf2
  v2:=Tryd.zeroValue2
  t3:=Tryd.underlying3
  a3:=Tryd.isAgg3
  z3:=Tryd.sizeOf3
  v3:=Tryd.zeroValue3
  t4:=Tryd.underlying4
  a4:=Tryd.isAgg4
  z4:=Tryd.sizeOf4
  v4:=Tryd.zeroValue4
  t5:=Tryd.underlying5
  a5:=Tryd.isAgg5
  z5:=Tryd.sizeOf5
  v5:=Tryd.zeroValue5
  t9:=Tryd.underlying9
  a9:=Tryd.isAgg9
  z9:=Tryd.sizeOf9
  v9:=Tryd.zeroValue9
  t20:=Tryd.underlying20
  a20:=Tryd.isAgg20
  z20:=Tryd.sizeOf20
  v20:=Tryd.zeroValue20
  t21:=Tryd.underlying21
  a21:=Tryd.isAgg21
  z21:=Tryd.sizeOf21
  v21:=Tryd.zeroValue21
  t37:=Tryd.underlying23
  a37:=Tryd.isAgg23
  z37:=Tryd.sizeOf23
  v37:=Tryd.zeroValue23
  t46:=Tryd.underlying102
  a46:=Tryd.isAgg102
  z46:=Tryd.sizeOf102
  v46:=Tryd.zeroValue102
  t51:=Tryd.underlying131
  a51:=Tryd.isAgg131
  z51:=Tryd.sizeOf131
  v51:=Tryd.zeroValue131
  t53:=Tryd.underlying79
  a53:=Tryd.isAgg79
  z53:=Tryd.sizeOf79
  v53:=Tryd.zeroValue79
  t75:=Tryd.underlying98
  a75:=Tryd.isAgg98
  z75:=Tryd.sizeOf98
  v75:=Tryd.zeroValue98
  t85:=Tryd.underlying99
  a85:=Tryd.isAgg99
  z85:=Tryd.sizeOf99
  v85:=Tryd.zeroValue99
  t127:=Tryd.underlying124
  a127:=Tryd.isAgg124
  z127:=Tryd.sizeOf124
  v127:=Tryd.zeroValue124
  t143:=Tryd.underlying125
  a143:=Tryd.isAgg125
  z143:=Tryd.sizeOf125
  v143:=Tryd.zeroValue125
  t145:=Tryd.underlying127
  a145:=Tryd.isAgg127
  z145:=Tryd.sizeOf127
  v145:=Tryd.zeroValue127
  t167:=Tryd.underlying108
  a167:=Tryd.isAgg108
  z167:=Tryd.sizeOf108
  v167:=Tryd.zeroValue108
  t168:=Tryd.underlying111
  a168:=Tryd.isAgg111
  z168:=Tryd.sizeOf111
  v168:=Tryd.zeroValue111
  t171:=Tryd.underlying119
  a171:=Tryd.isAgg119
  z171:=Tryd.sizeOf119
  v171:=Tryd.zeroValue119
  t173:=Tryd.underlying122
  a173:=Tryd.isAgg122
  z173:=Tryd.sizeOf122
  v173:=Tryd.zeroValue122
  t175:=Tryd.underlying109
  a175:=Tryd.isAgg109
  z175:=Tryd.sizeOf109
  v175:=Tryd.zeroValue109
  t210:=Tryd.underlying117
  a210:=Tryd.isAgg117
  z210:=Tryd.sizeOf117
  v210:=Tryd.zeroValue117
  t212:=Tryd.underlying130
  a212:=Tryd.isAgg130
  z212:=Tryd.sizeOf130
  v212:=Tryd.zeroValue130
  t213:=Tryd.underlying132
  a213:=Tryd.isAgg132
  z213:=Tryd.sizeOf132
  t232:=Tryd.underlying135
  a232:=Tryd.isAgg135
  z232:=Tryd.sizeOf135
  v232:=Tryd.zeroValue135
  t233:=Tryd.underlying136
  a233:=Tryd.isAgg136
  z233:=Tryd.sizeOf136
  v233:=Tryd.zeroValue136
  g15:=by kernel_rfl
  g16:=by kernel_rfl
  g17:=by kernel_rfl
  g18:=by kernel_rfl
  g19:=by kernel_rfl
  t80:=Tryd.underlying137
  a80:=Tryd.isAgg137
  z80:=Tryd.sizeOf137
  v80:=Tryd.zeroValue137
  i0:=by kernel_rfl
  i2:=by kernel_rfl
  i3:=by kernel_rfl
  i4:=by kernel_rfl
  i5:=by kernel_rfl
  i9:=by kernel_rfl
  i20:=by kernel_rfl
  i21:=by kernel_rfl
  i37:=by kernel_rfl
  i46:=by kernel_rfl
  i51:=by kernel_rfl
  i53:=by kernel_rfl
  i75:=by kernel_rfl
  i80:=by kernel_rfl
  i85:=by kernel_rfl
  i127:=by kernel_rfl
  i143:=by kernel_rfl
  i145:=by kernel_rfl
  i167:=by kernel_rfl
  i168:=by kernel_rfl
  i171:=by kernel_rfl
  i173:=by kernel_rfl
  i175:=by kernel_rfl
  i210:=by kernel_rfl
  i212:=by kernel_rfl
  i232:=by kernel_rfl
  i233:=by kernel_rfl
  m15:=by kernel_rfl
  m16:=by kernel_rfl
  m17:=by kernel_rfl
  m18:=by kernel_rfl
  m19:=by kernel_rfl
  c0:=by kernel_rfl
  c2:=by kernel_rfl
  c3:=by kernel_rfl
  c4:=by kernel_rfl
  c5:=by kernel_rfl
  c9:=by kernel_rfl
  c20:=by kernel_rfl
  c21:=by kernel_rfl
  c37:=by kernel_rfl
  c46:=by kernel_rfl
  c51:=by kernel_rfl
  c53:=by kernel_rfl
  c75:=by kernel_rfl
  c80:=by kernel_rfl
  c85:=by kernel_rfl
  c127:=by kernel_rfl
  c143:=by kernel_rfl
  c145:=by kernel_rfl
  c167:=by kernel_rfl
  c168:=by kernel_rfl
  c171:=by kernel_rfl
  c173:=by kernel_rfl
  c175:=by kernel_rfl
  c210:=by kernel_rfl
  c212:=by kernel_rfl
  c213:=by kernel_rfl
  c232:=by kernel_rfl
  c233:=by kernel_rfl }
open Go.RowKit in
open Go.RowKit in
open Go.RowKit in
open Go.RowKit in
theorem Tryd.strconv_ParseInt_10_at64_ok(s:ByteArray)(hmax:s.size ≤ 9223372036854775806)(v:Int)(h:Lib.parseIntB 64 s.data.toList=.ok v)(w:World) :
    Calls Tryd.prog 56 #[.string s,.int .i64 10,.int .i64 64] w fun e w'=>e=.returned (.tuple #[.int .i64 v,.nilIface]) ∧ (w'=w ∨ ∃t,w'=Lib.bytesWorld w 5 t):=Any.strconv_ParseInt_10_at64_ok Tryd.laysC174 s hmax v h w
open Go.RowKit in
theorem Tryd.strconv_ParseInt_10_at64_syntax(s:ByteArray)(hlim:s.size ≤ 281474976710656)(h:Lib.parseIntB 64 s.data.toList=.«syntax»)(ev:Value)(w:World)(hv:w.cell? ⟨2,0,none⟩=some ev)(hev:ev=.nilIface ∨ ∃te pe,ev=.iface te pe) :
    Calls Tryd.prog 56 #[.string s,.int .i64 10,.int .i64 64] w fun e w'=>∃N,e=.returned (.tuple #[.int .i64 (0),.iface 111 (.pointer (some ⟨N,0,none⟩))]) ∧ w.heap.size ≤ N ∧ w'.heap[N]?=some (.cells #[.string ⟨#[80,97,114,115,101,73,110,116]⟩,.string s,ev] 117 (0,0)) ∧ Below w.heap.size w w':=Any.strconv_ParseInt_10_at64_syntax Tryd.laysC174 s hlim h ev w hv hev
open Go.RowKit in
theorem Tryd.strconv_ParseInt_10_at64_range(s:ByteArray)(hlim:s.size ≤ 281474976710656)(h:Lib.parseIntB 64 s.data.toList=.range)(ev:Value)(w:World)(hv:w.cell? ⟨3,0,none⟩=some ev)(hev:ev=.nilIface ∨ ∃te pe,ev=.iface te pe) :
    Calls Tryd.prog 56 #[.string s,.int .i64 10,.int .i64 64] w fun e w'=>∃N,e=.returned (.tuple #[.int .i64 (Lib.intSat 64 s.data.toList),.iface 111 (.pointer (some ⟨N,0,none⟩))]) ∧ w.heap.size ≤ N ∧ w'.heap[N]?=some (.cells #[.string ⟨#[80,97,114,115,101,73,110,116]⟩,.string s,ev] 117 (0,0)) ∧ Below w.heap.size w w':=Any.strconv_ParseInt_10_at64_range Tryd.laysC174 s hlim h ev w hv hev
open Go.RowKit in
open Go.RowKit in
open Go.RowKit in
open Go.RowKit in
open Go.RowKit in
open Go.RowKit in
open Go.RowKit in
open Go.RowKit in
open Go.RowKit in
open Go.RowKit in
open Go.RowKit in
open Go.RowKit in
open Go.RowKit in
open Go.RowKit in
open Go.RowKit in
open Go.RowKit in
open Go.RowKit in
open Go.RowKit in
open Go.RowKit in
def Tryd.lays197_ren:Go.Shelf.Ren:=⟨fun | 197=>39 | 260=>55 | n=>n,fun | 9=>9 | 21=>21 | 3=>3 | 4=>4 | 5=>5 | 105=>87 | 119=>101 | 0=>0 | 46=>102 | 139=>105 | 138=>104 | n=>n,fun | 3=>0 | 4=>1 | n=>n⟩
theorem Tryd.lays197:Go.Proofs.Lays.n197 Tryd.prog Tryd.lays197_ren:={
  mixed:=by kernel_rfl
  f197:=Tryd.func39.trans (congrArg some (by kernel_rfl))
  f260:=Tryd.func55.trans (congrArg some (by kernel_rfl))
  t0:=Tryd.underlying0
  a0:=Tryd.isAgg0
  z0:=Tryd.sizeOf0
  v0:=Tryd.zeroValue0
  t3:=Tryd.underlying3
  a3:=Tryd.isAgg3
  z3:=Tryd.sizeOf3
  v3:=Tryd.zeroValue3
  t4:=Tryd.underlying4
  a4:=Tryd.isAgg4
  z4:=Tryd.sizeOf4
  v4:=Tryd.zeroValue4
  t5:=Tryd.underlying5
  a5:=Tryd.isAgg5
  z5:=Tryd.sizeOf5
  v5:=Tryd.zeroValue5
  t9:=Tryd.underlying9
  a9:=Tryd.isAgg9
  z9:=Tryd.sizeOf9
  v9:=Tryd.zeroValue9
  t21:=Tryd.underlying21
  a21:=Tryd.isAgg21
  z21:=Tryd.sizeOf21
  v21:=Tryd.zeroValue21
  t46:=Tryd.underlying102
  a46:=Tryd.isAgg102
  z46:=Tryd.sizeOf102
  v46:=Tryd.zeroValue102
  t105:=Tryd.underlying87
  a105:=Tryd.isAgg87
  z105:=Tryd.sizeOf87
  v105:=Tryd.zeroValue87
  t119:=Tryd.underlying101
  a119:=Tryd.isAgg101
  z119:=Tryd.sizeOf101
  t138:=Tryd.underlying104
  a138:=Tryd.isAgg104
  z138:=Tryd.sizeOf104
  v138:=Tryd.zeroValue104
  t139:=Tryd.underlying105
  a139:=Tryd.isAgg105
  z139:=Tryd.sizeOf105
  v139:=Tryd.zeroValue105
  g3:=by kernel_rfl
  g4:=by kernel_rfl }
open Go.RowKit Go.Lib in
open Go.RowKit Go.Lib in
open Go.RowKit Go.Lib in
theorem Tryd.utf8_DecodeRuneInString(s:ByteArray)(w:World)(hT:Lib.Utf8Tabs 0 1 w) :
    Calls Tryd.prog 39 #[.string s] w fun e w'=>e=.returned (.tuple #[.int .i32 (Lib.decodeGo s).1,.int .i64 (Lib.decodeGo s).2]) ∧ Below w.heap.size w w':=Any.utf8_DecodeRuneInString Tryd.lays197 s w hT
end Go.Proofs
