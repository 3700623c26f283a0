/- Contracts, proved. Conditions: theirs. -/
import Derived.Shelf.Strings.OnBuilder
import Derived.Shelf.Small.Strs
import Derived.Shelf.Small.Wraps
import Derived.Shelf.Strings.BuilderK
import Derived.Shelf.Utf8.RuneCount
import Derived.Shelf.Strings.Builder2Cap
import Derived.Shelf.Strings.Shaped
import Derived.Shelf.Strings.SplitShaped
import Derived.Shelf.Strings.Explode
import Derived.Shelf.Unicode.DecodeAny
import Derived.Test.YtakedkcjplfgeaaGreatDoorProg
namespace Go.Proofs
open Go.Shelf
def Tryz.lays169_ren:Go.Shelf.Ren:=⟨fun|169=>82|n=>n,fun|70=>139|9=>9|0=>0|72=>142|37=>140|127=>196|3=>3|5=>5|n=>n,fun|n=>n⟩
theorem Tryz.lays169:Go.Proofs.Lays.n169 Tryz.prog Tryz.lays169_ren:={
  mixed:=by kernel_rfl
  f169:=Tryz.func82.trans (congrArg some (by kernel_rfl))
  t0:=Tryz.underlying0
  a0:=Tryz.isAgg0
  z0:=Tryz.sizeOf0
  v0:=Tryz.zeroValue0
  t3:=Tryz.underlying3
  a3:=Tryz.isAgg3
  z3:=Tryz.sizeOf3
  v3:=Tryz.zeroValue3
  t9:=Tryz.underlying9
  a9:=Tryz.isAgg9
  z9:=Tryz.sizeOf9
  v9:=Tryz.zeroValue9
  t37:=Tryz.underlying140
  a37:=Tryz.isAgg140
  z37:=Tryz.sizeOf140
  v37:=Tryz.zeroValue140
  t70:=Tryz.underlying139
  a70:=Tryz.isAgg139
  z70:=Tryz.sizeOf139
  v70:=Tryz.zeroValue139
  t72:=Tryz.underlying142
  a72:=Tryz.isAgg142
  z72:=Tryz.sizeOf142
  v72:=Tryz.zeroValue142
  t127:=Tryz.underlying196
  a127:=Tryz.isAgg196
  z127:=Tryz.sizeOf196
  v127:=Tryz.zeroValue196 }
theorem Tryz.Builder_Extra_169:Builder.Extra Tryz.prog Tryz.lays169_ren:={
  sizeBuilder:=by kernel_rfl
  liesBuilder:=by kernel_rfl
  t5:=Tryz.underlying5
  a5:=Tryz.isAgg5
  z5:=Tryz.sizeOf5
  v5:=Tryz.zeroValue5
  infoByte:=by kernel_rfl
  cellsByte:=by kernel_rfl
  sizeByte:=by kernel_rfl
  neB5:=by decide }
open Go.RowKit in
theorem Tryz.Builder_String_any (B b:Nat) (l:List UInt8) (w:World) (h:Lib.IsBuilder 142 5 B b (Lib.byteCells l) w) (hBw:B<=w.heap.size):
    Calls Tryz.prog 82 #[.pointer (some ⟨b,0,none⟩)] w fun e w'=>e= .returned (.string ⟨l.toArray⟩)/\Below B w w':=Any.Builder_String_any Tryz.lays169 Tryz.Builder_Extra_169 B b l w h hBw
def Tryz.lays156_ren:Go.Shelf.Ren:=⟨fun|156=>263|165=>283|166=>80|169=>82|240=>155|241=>289|276=>220|277=>291|n=>n,fun|31=>66|9=>9|3=>3|4=>4|0=>0|20=>20|72=>142|76=>145|70=>139|37=>140|75=>144|127=>196|164=>229|5=>5|80=>53|n=>n,fun|n=>n⟩
theorem Tryz.lays156:Go.Proofs.Lays.n156 Tryz.prog Tryz.lays156_ren:={
  mixed:=by kernel_rfl
  f156:=Tryz.func263.trans (congrArg some (by kernel_rfl))
  f165:=Tryz.func283.trans (congrArg some (by kernel_rfl))
  f166:=Tryz.func80.trans (congrArg some (by kernel_rfl))
  f169:=Tryz.func82.trans (congrArg some (by kernel_rfl))
  f240:=Tryz.func155.trans (congrArg some (by kernel_rfl))
  f241:=Tryz.func289.trans (congrArg some (by kernel_rfl))
  f276:=Tryz.func220.trans (congrArg some (by kernel_rfl))
  f277:=Tryz.func291.trans (congrArg some (by kernel_rfl))
  t0:=Tryz.underlying0
  a0:=Tryz.isAgg0
  z0:=Tryz.sizeOf0
  v0:=Tryz.zeroValue0
  t3:=Tryz.underlying3
  a3:=Tryz.isAgg3
  z3:=Tryz.sizeOf3
  v3:=Tryz.zeroValue3
  t4:=Tryz.underlying4
  a4:=Tryz.isAgg4
  z4:=Tryz.sizeOf4
  v4:=Tryz.zeroValue4
  t9:=Tryz.underlying9
  a9:=Tryz.isAgg9
  z9:=Tryz.sizeOf9
  v9:=Tryz.zeroValue9
  t20:=Tryz.underlying20
  a20:=Tryz.isAgg20
  z20:=Tryz.sizeOf20
  v20:=Tryz.zeroValue20
  t31:=Tryz.underlying66
  a31:=Tryz.isAgg66
  z31:=Tryz.sizeOf66
  v31:=Tryz.zeroValue66
  t37:=Tryz.underlying140
  a37:=Tryz.isAgg140
  z37:=Tryz.sizeOf140
  v37:=Tryz.zeroValue140
  t70:=Tryz.underlying139
  a70:=Tryz.isAgg139
  z70:=Tryz.sizeOf139
  v70:=Tryz.zeroValue139
  t72:=Tryz.underlying142
  a72:=Tryz.isAgg142
  z72:=Tryz.sizeOf142
  v72:=Tryz.zeroValue142
  t75:=Tryz.underlying144
  a75:=Tryz.isAgg144
  z75:=Tryz.sizeOf144
  v75:=Tryz.zeroValue144
  t76:=Tryz.underlying145
  a76:=Tryz.isAgg145
  z76:=Tryz.sizeOf145
  v76:=Tryz.zeroValue145
  t127:=Tryz.underlying196
  a127:=Tryz.isAgg196
  z127:=Tryz.sizeOf196
  v127:=Tryz.zeroValue196
  t164:=Tryz.underlying229
  a164:=Tryz.isAgg229
  z164:=Tryz.sizeOf229
  v164:=Tryz.zeroValue229 }
theorem Tryz.Builder_Extra_156:Builder.Extra Tryz.prog Tryz.lays156_ren:={
  sizeBuilder:=by kernel_rfl
  liesBuilder:=by kernel_rfl
  t5:=Tryz.underlying5
  a5:=Tryz.isAgg5
  z5:=Tryz.sizeOf5
  v5:=Tryz.zeroValue5
  infoByte:=by kernel_rfl
  cellsByte:=by kernel_rfl
  sizeByte:=by kernel_rfl
  neB5:=by decide }
open Go.RowKit in
theorem Tryz.strings_Join (bk o c:Nat) (xs:List ByteArray) (sep:ByteArray) (w:World) (hcells: ∀ (j:Nat) x,xs[j]? =some x->w.cell? ⟨bk,o+j,none⟩=some (.string x)) (hbk:bk<w.heap.size) (hN:xs.length<=140737488355328) (hcap:xs.length<=c) (hlen:(Lib.join (xs.map (·.data.toList)) sep.data.toList).length<=140737488355328):
    Calls Tryz.prog 263 #[.slice (some ⟨bk,o,none⟩) xs.length c, .string sep] w fun e w'=>e= .returned (.string ⟨(Lib.join (xs.map (·.data.toList)) sep.data.toList).toArray⟩)/\Below w.heap.size w w':=Any.strings_Join Tryz.lays156 Tryz.Builder_Extra_156 bk o c xs sep w hcells hbk hN hcap hlen
def Tryz.lays137_ren:Go.Shelf.Ren:=⟨fun|137=>79|217=>154|266=>219|n=>n,fun|9=>9|5=>5|3=>3|n=>n,fun|n=>n⟩
theorem Tryz.lays137:Go.Proofs.Lays.n137 Tryz.prog Tryz.lays137_ren:={
  mixed:=by kernel_rfl
  f137:=Tryz.func79.trans (congrArg some (by kernel_rfl))
  f217:=Tryz.func154.trans (congrArg some (by kernel_rfl))
  f266:=Tryz.func219.trans (congrArg some (by kernel_rfl))
  t3:=Tryz.underlying3
  a3:=Tryz.isAgg3
  z3:=Tryz.sizeOf3
  v3:=Tryz.zeroValue3
  t5:=Tryz.underlying5
  a5:=Tryz.isAgg5
  z5:=Tryz.sizeOf5
  v5:=Tryz.zeroValue5
  t9:=Tryz.underlying9
  a9:=Tryz.isAgg9
  z9:=Tryz.sizeOf9
  v9:=Tryz.zeroValue9 }
open Go.RowKit in
theorem Tryz.strings_IndexByte (s:ByteArray) (c:Int) (w:World):
    Calls Tryz.prog 79 #[.string s, .int .u8 c] w fun e w'=>e= .returned (.int .i64 (Lib.indexByte s.data.toList c.toNat.toUInt8))/\w'=w:=Any.strings_IndexByte Tryz.lays137 s c w
def Tryz.lays104_ren:Go.Shelf.Ren:=⟨fun|104=>37|211=>103|207=>178|n=>n,fun|9=>9|4=>4|24=>96|3=>3|n=>n,fun|n=>n⟩
theorem Tryz.lays104:Go.Proofs.Lays.n104 Tryz.prog Tryz.lays104_ren:={
  mixed:=by kernel_rfl
  f104:=Tryz.func37.trans (congrArg some (by kernel_rfl))
  f207:=Tryz.func178.trans (congrArg some (by kernel_rfl))
  f211:=Tryz.func103.trans (congrArg some (by kernel_rfl))
  t3:=Tryz.underlying3
  a3:=Tryz.isAgg3
  z3:=Tryz.sizeOf3
  v3:=Tryz.zeroValue3
  t4:=Tryz.underlying4
  a4:=Tryz.isAgg4
  z4:=Tryz.sizeOf4
  v4:=Tryz.zeroValue4
  t9:=Tryz.underlying9
  a9:=Tryz.isAgg9
  z9:=Tryz.sizeOf9
  v9:=Tryz.zeroValue9
  t24:=Tryz.underlying96
  a24:=Tryz.isAgg96
  z24:=Tryz.sizeOf96
  v24:=Tryz.zeroValue96 }
open Go.RowKit in
theorem Tryz.strings_CutSuffix (s p:ByteArray) (w:World) (hs:s.size<=9223372036854775807):
    Calls Tryz.prog 37 #[.string s, .string p] w fun e w'=>e= .returned (.tuple #[.string ⟨(Lib.trimSuffix s.data.toList p.data.toList).toArray⟩, .bool (Lib.hasSuffix s.data.toList p.data.toList)])/\w'=w:=Any.strings_CutSuffix Tryz.lays104 s p w hs
def Tryz.lays145_ren:Go.Shelf.Ren:=⟨fun|145=>288|220=>290|219=>238|217=>154|225=>271|224=>272|267=>273|266=>219|314=>286|n=>n,fun|9=>9|4=>4|59=>259|3=>3|5=>5|46=>232|146=>257|51=>256|n=>n,fun|1=>1|n=>n⟩
theorem Tryz.lays145:Go.Proofs.Lays.n145 Tryz.prog Tryz.lays145_ren:={
  mixed:=by kernel_rfl
  f145:=Tryz.func288.trans (congrArg some (by kernel_rfl))
  f217:=Tryz.func154.trans (congrArg some (by kernel_rfl))
  f219:=Tryz.func238.trans (congrArg some (by kernel_rfl))
  f220:=Tryz.func290.trans (congrArg some (by kernel_rfl))
  f224:=Tryz.func272.trans (congrArg some (by kernel_rfl))
  f225:=Tryz.func271.trans (congrArg some (by kernel_rfl))
  f266:=Tryz.func219.trans (congrArg some (by kernel_rfl))
  f267:=Tryz.func273.trans (congrArg some (by kernel_rfl))
  f314:=Tryz.func286.trans (congrArg some (by kernel_rfl))
  t3:=Tryz.underlying3
  a3:=Tryz.isAgg3
  z3:=Tryz.sizeOf3
  v3:=Tryz.zeroValue3
  t4:=Tryz.underlying4
  a4:=Tryz.isAgg4
  z4:=Tryz.sizeOf4
  v4:=Tryz.zeroValue4
  t5:=Tryz.underlying5
  a5:=Tryz.isAgg5
  z5:=Tryz.sizeOf5
  v5:=Tryz.zeroValue5
  t9:=Tryz.underlying9
  a9:=Tryz.isAgg9
  z9:=Tryz.sizeOf9
  v9:=Tryz.zeroValue9
  t46:=Tryz.underlying232
  a46:=Tryz.isAgg232
  z46:=Tryz.sizeOf232
  v46:=Tryz.zeroValue232
  t51:=Tryz.underlying256
  a51:=Tryz.isAgg256
  z51:=Tryz.sizeOf256
  v51:=Tryz.zeroValue256
  t59:=Tryz.underlying259
  a59:=Tryz.isAgg259
  z59:=Tryz.sizeOf259
  v59:=Tryz.zeroValue259
  t146:=Tryz.underlying257
  a146:=Tryz.isAgg257
  z146:=Tryz.sizeOf257
  v146:=Tryz.zeroValue257
  g1:=by kernel_rfl }
open Go.RowKit Go.Lib in
theorem Tryz.strings_Cut (s sep:ByteArray) (m:Int) (w:World) (hs:s.size<4294967281) (hm:w.cell? ⟨1,0,none⟩=some (.int .i64 m)):
    Calls Tryz.prog 288 #[.string s, .string sep] w fun e w'=>e= .returned (.tuple #[.string ⟨(Lib.cut s.data.toList sep.data.toList).1.toArray⟩, .string ⟨(Lib.cut s.data.toList sep.data.toList).2.1.toArray⟩, .bool (Lib.cut s.data.toList sep.data.toList).2.2])/\ ∃ n,w'=w.drewN n:=Any.strings_Cut Tryz.lays145 s sep m w hs hm
def Tryz.lays146_ren:Go.Shelf.Ren:=⟨fun|146=>38|221=>104|268=>179|138=>180|143=>181|195=>235|197=>236|218=>237|219=>238|260=>270|217=>154|225=>271|224=>272|267=>273|266=>219|314=>286|n=>n,fun|9=>9|31=>66|3=>3|4=>4|0=>0|105=>236|21=>21|5=>5|46=>232|119=>252|139=>255|138=>254|146=>257|51=>256|n=>n,fun|1=>1|3=>2|4=>3|n=>n⟩
theorem Tryz.lays146:Go.Proofs.Lays.n146 Tryz.prog Tryz.lays146_ren:={
  mixed:=by kernel_rfl
  f138:=Tryz.func180.trans (congrArg some (by kernel_rfl))
  f143:=Tryz.func181.trans (congrArg some (by kernel_rfl))
  f146:=Tryz.func38.trans (congrArg some (by kernel_rfl))
  f195:=Tryz.func235.trans (congrArg some (by kernel_rfl))
  f197:=Tryz.func236.trans (congrArg some (by kernel_rfl))
  f217:=Tryz.func154.trans (congrArg some (by kernel_rfl))
  f218:=Tryz.func237.trans (congrArg some (by kernel_rfl))
  f219:=Tryz.func238.trans (congrArg some (by kernel_rfl))
  f221:=Tryz.func104.trans (congrArg some (by kernel_rfl))
  f224:=Tryz.func272.trans (congrArg some (by kernel_rfl))
  f225:=Tryz.func271.trans (congrArg some (by kernel_rfl))
  f260:=Tryz.func270.trans (congrArg some (by kernel_rfl))
  f266:=Tryz.func219.trans (congrArg some (by kernel_rfl))
  f267:=Tryz.func273.trans (congrArg some (by kernel_rfl))
  f268:=Tryz.func179.trans (congrArg some (by kernel_rfl))
  f314:=Tryz.func286.trans (congrArg some (by kernel_rfl))
  t0:=Tryz.underlying0
  a0:=Tryz.isAgg0
  z0:=Tryz.sizeOf0
  v0:=Tryz.zeroValue0
  t3:=Tryz.underlying3
  a3:=Tryz.isAgg3
  z3:=Tryz.sizeOf3
  v3:=Tryz.zeroValue3
  t4:=Tryz.underlying4
  a4:=Tryz.isAgg4
  z4:=Tryz.sizeOf4
  v4:=Tryz.zeroValue4
  t5:=Tryz.underlying5
  a5:=Tryz.isAgg5
  z5:=Tryz.sizeOf5
  v5:=Tryz.zeroValue5
  t9:=Tryz.underlying9
  a9:=Tryz.isAgg9
  z9:=Tryz.sizeOf9
  v9:=Tryz.zeroValue9
  t21:=Tryz.underlying21
  a21:=Tryz.isAgg21
  z21:=Tryz.sizeOf21
  v21:=Tryz.zeroValue21
  t31:=Tryz.underlying66
  a31:=Tryz.isAgg66
  z31:=Tryz.sizeOf66
  v31:=Tryz.zeroValue66
  t46:=Tryz.underlying232
  a46:=Tryz.isAgg232
  z46:=Tryz.sizeOf232
  v46:=Tryz.zeroValue232
  t51:=Tryz.underlying256
  a51:=Tryz.isAgg256
  z51:=Tryz.sizeOf256
  v51:=Tryz.zeroValue256
  t105:=Tryz.underlying236
  a105:=Tryz.isAgg236
  z105:=Tryz.sizeOf236
  v105:=Tryz.zeroValue236
  t119:=Tryz.underlying252
  a119:=Tryz.isAgg252
  z119:=Tryz.sizeOf252
  t138:=Tryz.underlying254
  a138:=Tryz.isAgg254
  z138:=Tryz.sizeOf254
  v138:=Tryz.zeroValue254
  t139:=Tryz.underlying255
  a139:=Tryz.isAgg255
  z139:=Tryz.sizeOf255
  v139:=Tryz.zeroValue255
  t146:=Tryz.underlying257
  a146:=Tryz.isAgg257
  z146:=Tryz.sizeOf257
  v146:=Tryz.zeroValue257
  g1:=by kernel_rfl
  g3:=by kernel_rfl
  g4:=by kernel_rfl }
open Go.RowKit Go.Lib in
theorem Tryz.strings_Split (s sep:ByteArray) (m:Int) (w:World) (hs:s.size<4294967281) (hm:w.cell? ⟨1,0,none⟩=some (.int .i64 m)) (h1:1<=sep.size):
    Calls Tryz.prog 38 #[.string s, .string sep] w fun e w'=>
      e= .returned (.slice (some ⟨w.heap.size,0,none⟩) (Lib.countB s sep+1) (Lib.countB s sep+1))/\w'=w.alloc (.cells ((Lib.splitB sep 0 (Lib.countB s sep) s).map Value.string).toArray 9):=Any.strings_Split Tryz.lays146 (by kernel_rfl) s sep m w hs hm h1
