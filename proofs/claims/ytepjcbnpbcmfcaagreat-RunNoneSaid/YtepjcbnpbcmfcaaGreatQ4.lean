/-
  Parts Base, CodeK1, CodeK2, CodeK3, CodeK4, CodeK5, CodeK6, CodeK7, CodeK8, Codes, Ref6, Ref11, one behind the other: a program logic of our own, contracts of functions.
-/
import Derived.Test.YtepjcbnpbcmfcaaGreatQ3
import Derived.Test.YtepjcbnpbcmfcaaGreatProg

set_option linter.unusedVariables false
set_option linter.unusedSimpArgs false
set_option maxRecDepth 100000
set_option maxHeartbeats 8000000
section
namespace Go.Proofs.YtepjcbnpbcmfcaaGreat
open Go.Bv
noncomputable def y1:=zT .nilFunc 1 8
noncomputable def y2:Ty:={ z:=(.int .i64 0),size:=1,bytes:=8,agg:=false,sl:=none,arr:=none,fs:=[],ik:=some .i64 }
noncomputable def y3:Ty:={ z:=(.int .i64 0),size:=1,bytes:=8,agg:=false,sl:=none,arr:=none,fs:=[],ik:=some .i64 }
noncomputable def y4:Ty:={ z:=(.bool false),size:=1,bytes:=1,agg:=false,sl:=none,arr:=none,fs:=[],bl:=true }
noncomputable def y5:Ty:={ z:=(.int .u8 0),size:=1,bytes:=1,agg:=false,sl:=none,arr:=none,fs:=[],ik:=some .u8 }
noncomputable def y6:Ty:={ z:=(.int .u8 0),size:=1,bytes:=1,agg:=false,sl:=none,arr:=none,fs:=[],ik:=some .u8 }
noncomputable def y7:Ty:={ z:=(.agg #[(.int .i64 0),(.int .i64 0),(.bool false),(.int .u8 0)]),size:=4,bytes:=24,agg:=true,sl:=none,arr:=none,fs:=[(0,2),(1,3),(2,4),(3,6)] }
noncomputable def y8:Ty:={ z:=(.agg #[(.int .i64 0),(.int .i64 0),(.bool false),(.int .u8 0)]),size:=4,bytes:=24,agg:=true,sl:=none,arr:=none,fs:=[(0,2),(1,3),(2,4),(3,6)] }
noncomputable def y9:Ty:={ z:=(.string ⟨#[]⟩),size:=1,bytes:=16,agg:=false,sl:=none,arr:=none,fs:=[],str:=true }
noncomputable def y10:Ty:={ z:=(.string ⟨#[]⟩),size:=1,bytes:=16,agg:=false,sl:=none,arr:=none,fs:=[],str:=true }
noncomputable def y11:Ty:={ z:=(.string ⟨#[]⟩),size:=1,bytes:=16,agg:=false,sl:=none,arr:=none,fs:=[],str:=true }
noncomputable def y12:Ty:={ z:=(.int .u64 0),size:=1,bytes:=8,agg:=false,sl:=none,arr:=none,fs:=[],ik:=some .u64 }
noncomputable def y13:Ty:={ z:=(.agg #[(.string ⟨#[]⟩),(.int .u64 0)]),size:=2,bytes:=24,agg:=true,sl:=none,arr:=none,fs:=[(0,9),(1,12)] }
noncomputable def y14:Ty:={ z:=(.agg #[(.string ⟨#[]⟩),(.int .u64 0)]),size:=2,bytes:=24,agg:=true,sl:=none,arr:=none,fs:=[(0,9),(1,12)] }
noncomputable def y15:=zT (.pointer none) 1 8
noncomputable def y16:=zT (.pointer none) 1 8
noncomputable def y17:=zT (.pointer none) 1 8
noncomputable def y18:Ty:={ z:=(.agg #[(.pointer none)]),size:=1,bytes:=8,agg:=true,sl:=none,arr:=none,fs:=[(0,17)] }
noncomputable def y19:Ty:={ z:=(.agg #[(.pointer none)]),size:=1,bytes:=8,agg:=true,sl:=none,arr:=none,fs:=[(0,17)] }
noncomputable def y21:Ty:={ z:=(.int .i32 0),size:=1,bytes:=4,agg:=false,sl:=none,arr:=none,fs:=[],ik:=some .i32 }
noncomputable def y22:Ty:={ z:=(.int .i64 0),size:=1,bytes:=8,agg:=false,sl:=none,arr:=none,fs:=[],ik:=some .i64 }
noncomputable def y23:Ty:={ z:=(.slice none 0 0),size:=1,bytes:=24,agg:=false,sl:=some 3,arr:=none,fs:=[] }
noncomputable def y24:Ty:={ z:=(.agg #[(.int .i64 0),(.slice none 0 0),(.slice none 0 0)]),size:=3,bytes:=56,agg:=true,sl:=none,arr:=none,fs:=[(0,22),(1,23),(2,23)] }
noncomputable def y25:Ty:={ z:=(.agg #[(.int .i64 0),(.slice none 0 0),(.slice none 0 0)]),size:=3,bytes:=56,agg:=true,sl:=none,arr:=none,fs:=[(0,22),(1,23),(2,23)] }
noncomputable def y26:Ty:={ z:=(.slice none 0 0),size:=1,bytes:=24,agg:=false,sl:=some 42,arr:=none,fs:=[] }
noncomputable def y27:=zT .nilFunc 1 8
noncomputable def y28:=zT .nilFunc 1 8
noncomputable def y29:=zT .nilFunc 1 8
noncomputable def y30:Ty:={ z:=(.slice none 0 0),size:=1,bytes:=24,agg:=false,sl:=some 104,arr:=none,fs:=[] }
noncomputable def y31:Ty:={ z:=(.agg #[(.slice none 0 0),(.slice none 0 0)]),size:=2,bytes:=48,agg:=true,sl:=none,arr:=none,fs:=[(0,23),(1,30)] }
noncomputable def y32:Ty:={ z:=(.agg #[(.slice none 0 0),(.slice none 0 0)]),size:=2,bytes:=48,agg:=true,sl:=none,arr:=none,fs:=[(0,23),(1,30)] }
noncomputable def y33:Ty:={ z:=(.agg #[(.int .i64 0),(.slice none 0 0),(.slice none 0 0)]),size:=3,bytes:=56,agg:=true,sl:=none,arr:=none,fs:=[(0,3),(1,32)] }
noncomputable def y34:Ty:={ z:=(.agg #[(.int .i64 0),(.slice none 0 0),(.slice none 0 0)]),size:=3,bytes:=56,agg:=true,sl:=none,arr:=none,fs:=[(0,3),(1,32)] }
noncomputable def y35:=zT .nilFunc 1 8
noncomputable def y36:Ty:={ z:=(.int .i64 0),size:=1,bytes:=8,agg:=false,sl:=none,arr:=none,fs:=[],ik:=some .i64 }
noncomputable def y37:Ty:={ z:=(.slice none 0 0),size:=1,bytes:=24,agg:=false,sl:=some 3,arr:=none,fs:=[] }
noncomputable def y38:Ty:={ z:=(.slice none 0 0),size:=1,bytes:=24,agg:=false,sl:=some 67,arr:=none,fs:=[] }
noncomputable def y39:Ty:={ z:=(.agg #[(.slice none 0 0),(.slice none 0 0)]),size:=2,bytes:=48,agg:=true,sl:=none,arr:=none,fs:=[(0,37),(1,38)] }
noncomputable def y40:Ty:={ z:=(.agg #[(.slice none 0 0),(.slice none 0 0)]),size:=2,bytes:=48,agg:=true,sl:=none,arr:=none,fs:=[(0,37),(1,38)] }
noncomputable def y41:Ty:={ z:=(.agg #[(.int .i64 0),(.slice none 0 0),(.slice none 0 0)]),size:=3,bytes:=56,agg:=true,sl:=none,arr:=none,fs:=[(0,36),(1,40)] }
noncomputable def y42:Ty:={ z:=(.agg #[(.int .i64 0),(.slice none 0 0),(.slice none 0 0)]),size:=3,bytes:=56,agg:=true,sl:=none,arr:=none,fs:=[(0,36),(1,40)] }
noncomputable def y43:=zT .nilFunc 1 8
noncomputable def y44:=zT .nilFunc 1 8
noncomputable def y45:=zT .nilFunc 1 8
noncomputable def y46:=zT .nilFunc 1 8
noncomputable def y47:Ty:={ z:=(.slice none 0 0),size:=1,bytes:=24,agg:=false,sl:=some 23,arr:=none,fs:=[] }
noncomputable def y49:=zT .nilFunc 1 8
noncomputable def y50:=zT .nilFunc 1 8
noncomputable def y51:=zT .nilFunc 1 8
noncomputable def y52:=zT .nilFunc 1 8
noncomputable def y53:=zT .nilFunc 1 8
noncomputable def y54:=zT .nilFunc 1 8
noncomputable def y55:=zT .nilFunc 1 8
noncomputable def y56:=zT .nilFunc 1 8
noncomputable def y57:=zT .nilFunc 1 8
noncomputable def y58:Ty:={ z:=(.int .u64 0),size:=1,bytes:=8,agg:=false,sl:=none,arr:=none,fs:=[],ik:=some .u64 }
noncomputable def y59:=zT .nilFunc 1 8
noncomputable def y60:=zT .nilFunc 1 8
noncomputable def y61:=zT .nilFunc 1 8
noncomputable def y62:=zT .nilFunc 1 8
noncomputable def y63:=zT .nilFunc 1 8
noncomputable def y64:Ty:={ z:=(.slice none 0 0),size:=1,bytes:=24,agg:=false,sl:=some 106,arr:=none,fs:=[] }
noncomputable def y65:Ty:={ z:=(.slice none 0 0),size:=1,bytes:=24,agg:=false,sl:=some 106,arr:=none,fs:=[] }
noncomputable def y66:Ty:={ z:=(.agg #[(.bool false),(.slice none 0 0),(.slice none 0 0)]),size:=3,bytes:=56,agg:=true,sl:=none,arr:=none,fs:=[(0,4),(1,65),(2,65)] }
noncomputable def y67:Ty:={ z:=(.agg #[(.bool false),(.slice none 0 0),(.slice none 0 0)]),size:=3,bytes:=56,agg:=true,sl:=none,arr:=none,fs:=[(0,4),(1,65),(2,65)] }
noncomputable def y68:=zT .nilFunc 1 8
noncomputable def y69:=zT .nilFunc 1 8
noncomputable def y70:Ty:={ z:=(.slice none 0 0),size:=1,bytes:=24,agg:=false,sl:=some 34,arr:=none,fs:=[] }
noncomputable def y73:Ty:={ z:=(.int .i64 0),size:=1,bytes:=8,agg:=false,sl:=none,arr:=none,fs:=[],ik:=some .i64 }
noncomputable def y75:Ty:={ z:=(.slice none 0 0),size:=1,bytes:=24,agg:=false,sl:=some 37,arr:=none,fs:=[] }
noncomputable def y76:Ty:={ z:=(.slice none 0 0),size:=1,bytes:=24,agg:=false,sl:=some 40,arr:=none,fs:=[] }
noncomputable def y78:=zT .nilFunc 1 8
noncomputable def y80:=zT .nilFunc 1 8
noncomputable def y81:=zT .nilFunc 1 8
noncomputable def y82:Ty:={ z:=(.map none),size:=1,bytes:=8,agg:=false,sl:=none,arr:=none,fs:=[],mpk:=some .i64 }
theorem y82_ok:OKt Tryz.prog 82 y82:=⟨by kernel_rfl,⟨_,Tryz.underlying82,rfl,rfl,rfl,rfl,rfl,rfl,rfl⟩,fun _=>rfl,rfl,fun k h=>by injection h with h;subst h;exact ⟨_,_,Tryz.underlying82,Tryz.underlying22⟩⟩
noncomputable def y83:=zT .nilFunc 1 8
noncomputable def y84:Ty:={ z:=(.int .i64 0),size:=1,bytes:=8,agg:=false,sl:=none,arr:=none,fs:=[],ik:=some .i64 }
noncomputable def y85:=zT .nilFunc 1 8
noncomputable def y86:=zT .nilFunc 1 8
noncomputable def y87:=zT .nilFunc 1 8
noncomputable def y95:=zT .nilFunc 1 8
noncomputable def y97:Ty:={ z:=(.agg #[(.int .i64 0),(.string ⟨#[]⟩),(.int .i64 0),(.int .i64 0),(.int .i64 0),(.int .i64 0),.nilFunc,(.int .i64 0)]),size:=8,bytes:=72,agg:=true,sl:=none,arr:=none,fs:=[(0,22),(1,9),(2,3),(3,3),(4,3),(5,3),(6,95),(7,3)] }
noncomputable def y99:=zT .nilFunc 1 8
noncomputable def y100:=zT .nilFunc 1 8
noncomputable def y101:=zT .nilFunc 1 8
noncomputable def y102:Ty:={ z:=(.slice none 0 0),size:=1,bytes:=24,agg:=false,sl:=some 3,arr:=none,fs:=[] }
noncomputable def y103:Ty:={ z:=(.agg #[(.bool false),(.slice none 0 0),(.slice none 0 0)]),size:=3,bytes:=56,agg:=true,sl:=none,arr:=none,fs:=[(0,4),(1,102),(2,102)] }
noncomputable def y104:Ty:={ z:=(.agg #[(.bool false),(.slice none 0 0),(.slice none 0 0)]),size:=3,bytes:=56,agg:=true,sl:=none,arr:=none,fs:=[(0,4),(1,102),(2,102)] }
noncomputable def y105:=zT .nilFunc 1 8
noncomputable def y106:Ty:={ z:=(.int .u32 0),size:=1,bytes:=4,agg:=false,sl:=none,arr:=none,fs:=[],ik:=some .u32 }
noncomputable def y108:=zT .nilFunc 1 8
noncomputable def y109:=zT .nilFunc 1 8
noncomputable def y110:=zT .nilFunc 1 8
noncomputable def y111:Ty:={ z:=(.slice none 0 0),size:=1,bytes:=24,agg:=false,sl:=some 32,arr:=none,fs:=[] }
noncomputable def y113:=zT .nilFunc 1 8
noncomputable def y114:=zT .nilFunc 1 8
noncomputable def y115:=zT .nilFunc 1 8
noncomputable def y116:=zT .nilFunc 1 8
noncomputable def y117:=zT .nilFunc 1 8
noncomputable def y118:=zT .nilFunc 1 8
noncomputable def y119:=zT .nilFunc 1 8
noncomputable def y121:=zT .nilFunc 1 8
noncomputable def y126:=zT .nilFunc 1 8
noncomputable def y127:=zT .nilFunc 1 8
noncomputable def y128:=zT .nilFunc 1 8
noncomputable def y129:=zT .nilFunc 1 8
noncomputable def y130:=zT .nilFunc 1 8
noncomputable def y131:=zT .nilFunc 1 8
noncomputable def y132:=zT .nilFunc 1 8
noncomputable def y134:=zT .nilFunc 1 8
noncomputable def y135:=zT .nilFunc 1 8
noncomputable def y136:=zT .nilFunc 1 8
noncomputable def y137:=zT .nilFunc 1 8
noncomputable def y138:=zT .nilFunc 1 8
noncomputable def y139:=zT .nilFunc 1 8
noncomputable def y140:=zT .nilFunc 1 8
noncomputable def y141:=zT .nilFunc 1 8
noncomputable def y142:=zT .nilFunc 1 8
noncomputable def y143:=zT .nilFunc 1 8
noncomputable def y144:=zT .nilFunc 1 8
noncomputable def y145:Ty:={ z:=(.agg #[(.slice none 0 0),(.slice none 0 0)]),size:=2,bytes:=48,agg:=true,sl:=none,arr:=none,fs:=[(0,37),(1,38)] }
noncomputable def y146:Ty:={ z:=(.agg #[(.slice none 0 0),(.slice none 0 0)]),size:=2,bytes:=48,agg:=true,sl:=none,arr:=none,fs:=[(0,37),(1,38)] }
noncomputable def y147:=zT .nilFunc 1 8
noncomputable def y157:=zT .nilFunc 1 8
noncomputable def y158:=zT .nilFunc 1 8
noncomputable def y159:=zT .nilFunc 1 8
noncomputable def y163:=zT .nilFunc 1 8
noncomputable def y173:=zT .nilFunc 1 8
noncomputable def y174:=zT .nilFunc 1 8
noncomputable def y175:=zT .nilFunc 1 8
noncomputable def y176:=zT .nilFunc 1 8
noncomputable def y177:=zT .nilFunc 1 8
noncomputable def y178:=zT .nilFunc 1 8
noncomputable def y181:=zT .nilFunc 1 8
noncomputable def y182:=zT .nilFunc 1 8
noncomputable def y184:=zT .nilFunc 1 8
noncomputable def y185:=zT .nilFunc 1 8
noncomputable def y186:=zT .nilFunc 1 8
noncomputable def y187:=zT .nilFunc 1 8
noncomputable def y188:=zT .nilFunc 1 8
noncomputable def y189:=zT .nilFunc 1 8
noncomputable def y190:=zT .nilFunc 1 8
noncomputable def y191:Ty:={ z:=(.agg #[(.int .i64 0),(.int .i64 0)]),size:=2,bytes:=16,agg:=true,sl:=none,arr:=some (2,3),fs:=[] }
noncomputable def y192:=zT .nilFunc 1 8
noncomputable def y194:=zT .nilFunc 1 8
noncomputable def y202:=zT .nilFunc 1 8
noncomputable def y203:=zT .nilFunc 1 8
noncomputable def y204:=zT .nilFunc 1 8
noncomputable def y205:=zT .nilFunc 1 8
noncomputable def y208:=zT .nilFunc 1 8
noncomputable def y209:=zT .nilFunc 1 8
noncomputable def y210:Ty:={ z:=(.slice none 0 0),size:=1,bytes:=24,agg:=false,sl:=some 97,arr:=none,fs:=[] }
noncomputable def y211:=zT .nilFunc 1 8
noncomputable def y247:=zT .nilFunc 1 8
noncomputable def y271:Ty:={ z:=(.int .u64 0),size:=1,bytes:=8,agg:=false,sl:=none,arr:=none,fs:=[],ik:=some .u64 }
noncomputable def y278:=zT .nilFunc 1 8
noncomputable def y297:Ty:={ z:=(.int .i64 0),size:=1,bytes:=8,agg:=false,sl:=none,arr:=none,fs:=[],ik:=some .i64 }
noncomputable def y304:Ty:={ z:=(.slice none 0 0),size:=1,bytes:=24,agg:=false,sl:=some 65,arr:=none,fs:=[] }
noncomputable def ty:TypeId→Ty
 | 1=>y1
 | 2=>y2
 | 3=>y3
 | 4=>y4
 | 5=>y5
 | 6=>y6
 | 7=>y7
 | 8=>y8
 | 9=>y9
 | 10=>y10
 | 11=>y11
 | 12=>y12
 | 13=>y13
 | 14=>y14
 | 15=>y15
 | 16=>y16
 | 17=>y17
 | 18=>y18
 | 19=>y19
 | 21=>y21
 | 22=>y22
 | 23=>y23
 | 24=>y24
 | 25=>y25
 | 26=>y26
 | 27=>y27
 | 28=>y28
 | 29=>y29
 | 30=>y30
 | 31=>y31
 | 32=>y32
 | 33=>y33
 | 34=>y34
 | 35=>y35
 | 36=>y36
 | 37=>y37
 | 38=>y38
 | 39=>y39
 | 40=>y40
 | 41=>y41
 | 42=>y42
 | 43=>y43
 | 44=>y44
 | 45=>y45
 | 46=>y46
 | 47=>y47
 | 49=>y49
 | 50=>y50
 | 51=>y51
 | 52=>y52
 | 53=>y53
 | 54=>y54
 | 55=>y55
 | 56=>y56
 | 57=>y57
 | 58=>y58
 | 59=>y59
 | 60=>y60
 | 61=>y61
 | 62=>y62
 | 63=>y63
 | 64=>y64
 | 65=>y65
 | 66=>y66
 | 67=>y67
 | 68=>y68
 | 69=>y69
 | 70=>y70
 | 73=>y73
 | 75=>y75
 | 76=>y76
 | 78=>y78
 | 80=>y80
 | 81=>y81
 | 82=>y82
 | 83=>y83
 | 84=>y84
 | 85=>y85
 | 86=>y86
 | 87=>y87
 | 95=>y95
 | 97=>y97
 | 99=>y99
 | 100=>y100
 | 101=>y101
 | 102=>y102
 | 103=>y103
 | 104=>y104
 | 105=>y105
 | 106=>y106
 | 108=>y108
 | 109=>y109
 | 110=>y110
 | 111=>y111
 | 113=>y113
 | 114=>y114
 | 115=>y115
 | 116=>y116
 | 117=>y117
 | 118=>y118
 | 119=>y119
 | 121=>y121
 | 126=>y126
 | 127=>y127
 | 128=>y128
 | 129=>y129
 | 130=>y130
 | 131=>y131
 | 132=>y132
 | 134=>y134
 | 135=>y135
 | 136=>y136
 | 137=>y137
 | 138=>y138
 | 139=>y139
 | 140=>y140
 | 141=>y141
 | 142=>y142
 | 143=>y143
 | 144=>y144
 | 145=>y145
 | 146=>y146
 | 147=>y147
 | 157=>y157
 | 158=>y158
 | 159=>y159
 | 163=>y163
 | 173=>y173
 | 174=>y174
 | 175=>y175
 | 176=>y176
 | 177=>y177
 | 178=>y178
 | 181=>y181
 | 182=>y182
 | 184=>y184
 | 185=>y185
 | 186=>y186
 | 187=>y187
 | 188=>y188
 | 189=>y189
 | 190=>y190
 | 191=>y191
 | 192=>y192
 | 194=>y194
 | 202=>y202
 | 203=>y203
 | 204=>y204
 | 205=>y205
 | 208=>y208
 | 209=>y209
 | 210=>y210
 | 211=>y211
 | 247=>y247
 | 271=>y271
 | 278=>y278
 | 297=>y297
 | 304=>y304
 | _=>Ty.none
theorem Xoy:∀ t,(ty t).ok=true→OKt Tryz.prog t (ty t):=by
 intro t h;unfold ty at h ⊢;split at h
 ·exact zY Tryz.underlying1
 ·exact zY Tryz.underlying2
 ·exact zY Tryz.underlying3
 ·exact zY Tryz.underlying4
 ·exact zY Tryz.underlying5
 ·exact zY Tryz.underlying6
 ·exact zY Tryz.underlying7
 ·exact zY Tryz.underlying8
 ·exact zY Tryz.underlying9
 ·exact zY Tryz.underlying10
 ·exact zY Tryz.underlying11
 ·exact zY Tryz.underlying12
 ·exact zY Tryz.underlying13
 ·exact zY Tryz.underlying14
 ·exact zY Tryz.underlying15
 ·exact zY Tryz.underlying16
 ·exact zY Tryz.underlying17
 ·exact zY Tryz.underlying18
 ·exact zY Tryz.underlying19
 ·exact zY Tryz.underlying21
 ·exact zY Tryz.underlying22
 ·exact zY Tryz.underlying23
 ·exact zY Tryz.underlying24
 ·exact zY Tryz.underlying25
 ·exact zY Tryz.underlying26
 ·exact zY Tryz.underlying27
 ·exact zY Tryz.underlying28
 ·exact zY Tryz.underlying29
 ·exact zY Tryz.underlying30
 ·exact zY Tryz.underlying31
 ·exact zY Tryz.underlying32
 ·exact zY Tryz.underlying33
 ·exact zY Tryz.underlying34
 ·exact zY Tryz.underlying35
 ·exact zY Tryz.underlying36
 ·exact zY Tryz.underlying37
 ·exact zY Tryz.underlying38
 ·exact zY Tryz.underlying39
 ·exact zY Tryz.underlying40
 ·exact zY Tryz.underlying41
 ·exact zY Tryz.underlying42
 ·exact zY Tryz.underlying43
 ·exact zY Tryz.underlying44
 ·exact zY Tryz.underlying45
 ·exact zY Tryz.underlying46
 ·exact zY Tryz.underlying47
 ·exact zY Tryz.underlying49
 ·exact zY Tryz.underlying50
 ·exact zY Tryz.underlying51
 ·exact zY Tryz.underlying52
 ·exact zY Tryz.underlying53
 ·exact zY Tryz.underlying54
 ·exact zY Tryz.underlying55
 ·exact zY Tryz.underlying56
 ·exact zY Tryz.underlying57
 ·exact zY Tryz.underlying58
 ·exact zY Tryz.underlying59
 ·exact zY Tryz.underlying60
 ·exact zY Tryz.underlying61
 ·exact zY Tryz.underlying62
 ·exact zY Tryz.underlying63
 ·exact zY Tryz.underlying64
 ·exact zY Tryz.underlying65
 ·exact zY Tryz.underlying66
 ·exact zY Tryz.underlying67
 ·exact zY Tryz.underlying68
 ·exact zY Tryz.underlying69
 ·exact zY Tryz.underlying70
 ·exact zY Tryz.underlying73
 ·exact zY Tryz.underlying75
 ·exact zY Tryz.underlying76
 ·exact zY Tryz.underlying78
 ·exact zY Tryz.underlying80
 ·exact zY Tryz.underlying81
 ·exact y82_ok
 ·exact zY Tryz.underlying83
 ·exact zY Tryz.underlying84
 ·exact zY Tryz.underlying85
 ·exact zY Tryz.underlying86
 ·exact zY Tryz.underlying87
 ·exact zY Tryz.underlying95
 ·exact zY Tryz.underlying97
 ·exact zY Tryz.underlying99
 ·exact zY Tryz.underlying100
 ·exact zY Tryz.underlying101
 ·exact zY Tryz.underlying102
 ·exact zY Tryz.underlying103
 ·exact zY Tryz.underlying104
 ·exact zY Tryz.underlying105
 ·exact zY Tryz.underlying106
 ·exact zY Tryz.underlying108
 ·exact zY Tryz.underlying109
 ·exact zY Tryz.underlying110
 ·exact zY Tryz.underlying111
 ·exact zY Tryz.underlying113
 ·exact zY Tryz.underlying114
 ·exact zY Tryz.underlying115
 ·exact zY Tryz.underlying116
 ·exact zY Tryz.underlying117
 ·exact zY Tryz.underlying118
 ·exact zY Tryz.underlying119
 ·exact zY Tryz.underlying121
 ·exact zY Tryz.underlying126
 ·exact zY Tryz.underlying127
 ·exact zY Tryz.underlying128
 ·exact zY Tryz.underlying129
 ·exact zY Tryz.underlying130
 ·exact zY Tryz.underlying131
 ·exact zY Tryz.underlying132
 ·exact zY Tryz.underlying134
 ·exact zY Tryz.underlying135
 ·exact zY Tryz.underlying136
 ·exact zY Tryz.underlying137
 ·exact zY Tryz.underlying138
 ·exact zY Tryz.underlying139
 ·exact zY Tryz.underlying140
 ·exact zY Tryz.underlying141
 ·exact zY Tryz.underlying142
 ·exact zY Tryz.underlying143
 ·exact zY Tryz.underlying144
 ·exact zY Tryz.underlying145
 ·exact zY Tryz.underlying146
 ·exact zY Tryz.underlying147
 ·exact zY Tryz.underlying157
 ·exact zY Tryz.underlying158
 ·exact zY Tryz.underlying159
 ·exact zY Tryz.underlying163
 ·exact zY Tryz.underlying173
 ·exact zY Tryz.underlying174
 ·exact zY Tryz.underlying175
 ·exact zY Tryz.underlying176
 ·exact zY Tryz.underlying177
 ·exact zY Tryz.underlying178
 ·exact zY Tryz.underlying181
 ·exact zY Tryz.underlying182
 ·exact zY Tryz.underlying184
 ·exact zY Tryz.underlying185
 ·exact zY Tryz.underlying186
 ·exact zY Tryz.underlying187
 ·exact zY Tryz.underlying188
 ·exact zY Tryz.underlying189
 ·exact zY Tryz.underlying190
 ·exact zY Tryz.underlying191
 ·exact zY Tryz.underlying192
 ·exact zY Tryz.underlying194
 ·exact zY Tryz.underlying202
 ·exact zY Tryz.underlying203
 ·exact zY Tryz.underlying204
 ·exact zY Tryz.underlying205
 ·exact zY Tryz.underlying208
 ·exact zY Tryz.underlying209
 ·exact zY Tryz.underlying210
 ·exact zY Tryz.underlying211
 ·exact zY Tryz.underlying247
 ·exact zY Tryz.underlying271
 ·exact zY Tryz.underlying278
 ·exact zY Tryz.underlying297
 ·exact zY Tryz.underlying304
 ·cases h
noncomputable def C:Ctx:=⟨Tryz.prog,ty,Xoy⟩
theorem Qd:C.P.follows .mixedOrders=true:=by kernel_rfl
@[go_sem] theorem t1ok:(C.ty 1).ok=true:=rfl
@[go_sem] theorem t1size:(C.ty 1).size=1:=rfl
@[go_sem] theorem t1bytes:(C.ty 1).bytes=8:=rfl
@[go_sem] theorem t1agg:(C.ty 1).agg=false:=rfl
@[go_sem] theorem t2ok:(C.ty 2).ok=true:=rfl
@[go_sem] theorem t2size:(C.ty 2).size=1:=rfl
@[go_sem] theorem t2bytes:(C.ty 2).bytes=8:=rfl
@[go_sem] theorem t2agg:(C.ty 2).agg=false:=rfl
@[go_sem] theorem t2ik:(C.ty 2).ik=some .i64:=rfl
@[go_sem] theorem t2z:Xb (C.ty 2)=((.int .i64 0):Value).cells.toList.map cv1:=rfl
@[go_sem] theorem t3ok:(C.ty 3).ok=true:=rfl
@[go_sem] theorem t3size:(C.ty 3).size=1:=rfl
@[go_sem] theorem t3bytes:(C.ty 3).bytes=8:=rfl
@[go_sem] theorem t3agg:(C.ty 3).agg=false:=rfl
@[go_sem] theorem t3ik:(C.ty 3).ik=some .i64:=rfl
@[go_sem] theorem t3z:Xb (C.ty 3)=((.int .i64 0):Value).cells.toList.map cv1:=rfl
@[go_sem] theorem t4ok:(C.ty 4).ok=true:=rfl
@[go_sem] theorem t4size:(C.ty 4).size=1:=rfl
@[go_sem] theorem t4bytes:(C.ty 4).bytes=1:=rfl
@[go_sem] theorem t4agg:(C.ty 4).agg=false:=rfl
@[go_sem] theorem t4bl:(C.ty 4).bl=true:=rfl
@[go_sem] theorem t4z:Xb (C.ty 4)=((.bool false):Value).cells.toList.map cv1:=rfl
@[go_sem] theorem t5ok:(C.ty 5).ok=true:=rfl
@[go_sem] theorem t5size:(C.ty 5).size=1:=rfl
@[go_sem] theorem t5bytes:(C.ty 5).bytes=1:=rfl
@[go_sem] theorem t5agg:(C.ty 5).agg=false:=rfl
@[go_sem] theorem t5ik:(C.ty 5).ik=some .u8:=rfl
@[go_sem] theorem t5z:Xb (C.ty 5)=((.int .u8 0):Value).cells.toList.map cv1:=rfl
@[go_sem] theorem t6ok:(C.ty 6).ok=true:=rfl
@[go_sem] theorem t6size:(C.ty 6).size=1:=rfl
@[go_sem] theorem t6bytes:(C.ty 6).bytes=1:=rfl
@[go_sem] theorem t6agg:(C.ty 6).agg=false:=rfl
@[go_sem] theorem t6ik:(C.ty 6).ik=some .u8:=rfl
@[go_sem] theorem t6z:Xb (C.ty 6)=((.int .u8 0):Value).cells.toList.map cv1:=rfl
@[go_sem] theorem t7ok:(C.ty 7).ok=true:=rfl
@[go_sem] theorem t7size:(C.ty 7).size=4:=rfl
@[go_sem] theorem t7bytes:(C.ty 7).bytes=24:=rfl
@[go_sem] theorem t7agg:(C.ty 7).agg=true:=rfl
@[go_sem] theorem t7fs:(C.ty 7).fs=[(0,2),(1,3),(2,4),(3,6)]:=rfl
@[go_sem] theorem t7arr:(C.ty 7).arr=none:=rfl
@[go_sem] theorem t7z:Xb (C.ty 7)=((.agg #[(.int .i64 0),(.int .i64 0),(.bool false),(.int .u8 0)]):Value).cells.toList.map cv1:=rfl
@[go_sem] theorem t8ok:(C.ty 8).ok=true:=rfl
@[go_sem] theorem t8size:(C.ty 8).size=4:=rfl
@[go_sem] theorem t8bytes:(C.ty 8).bytes=24:=rfl
@[go_sem] theorem t8agg:(C.ty 8).agg=true:=rfl
@[go_sem] theorem t8fs:(C.ty 8).fs=[(0,2),(1,3),(2,4),(3,6)]:=rfl
@[go_sem] theorem t8arr:(C.ty 8).arr=none:=rfl
@[go_sem] theorem t8z:Xb (C.ty 8)=((.agg #[(.int .i64 0),(.int .i64 0),(.bool false),(.int .u8 0)]):Value).cells.toList.map cv1:=rfl
@[go_sem] theorem t9ok:(C.ty 9).ok=true:=rfl
@[go_sem] theorem t9size:(C.ty 9).size=1:=rfl
@[go_sem] theorem t9bytes:(C.ty 9).bytes=16:=rfl
@[go_sem] theorem t9agg:(C.ty 9).agg=false:=rfl
@[go_sem] theorem t9str:(C.ty 9).str=true:=rfl
@[go_sem] theorem t9arr:(C.ty 9).arr=none:=rfl
@[go_sem] theorem t9z:Xb (C.ty 9)=((.string ⟨#[]⟩):Value).cells.toList.map cv1:=rfl
@[go_sem] theorem t10ok:(C.ty 10).ok=true:=rfl
@[go_sem] theorem t10size:(C.ty 10).size=1:=rfl
@[go_sem] theorem t10bytes:(C.ty 10).bytes=16:=rfl
@[go_sem] theorem t10agg:(C.ty 10).agg=false:=rfl
@[go_sem] theorem t10str:(C.ty 10).str=true:=rfl
@[go_sem] theorem t10arr:(C.ty 10).arr=none:=rfl
@[go_sem] theorem t10z:Xb (C.ty 10)=((.string ⟨#[]⟩):Value).cells.toList.map cv1:=rfl
@[go_sem] theorem t11ok:(C.ty 11).ok=true:=rfl
@[go_sem] theorem t11size:(C.ty 11).size=1:=rfl
@[go_sem] theorem t11bytes:(C.ty 11).bytes=16:=rfl
@[go_sem] theorem t11agg:(C.ty 11).agg=false:=rfl
@[go_sem] theorem t11str:(C.ty 11).str=true:=rfl
@[go_sem] theorem t11arr:(C.ty 11).arr=none:=rfl
@[go_sem] theorem t11z:Xb (C.ty 11)=((.string ⟨#[]⟩):Value).cells.toList.map cv1:=rfl
@[go_sem] theorem t12ok:(C.ty 12).ok=true:=rfl
@[go_sem] theorem t12size:(C.ty 12).size=1:=rfl
@[go_sem] theorem t12bytes:(C.ty 12).bytes=8:=rfl
@[go_sem] theorem t12agg:(C.ty 12).agg=false:=rfl
@[go_sem] theorem t12ik:(C.ty 12).ik=some .u64:=rfl
@[go_sem] theorem t12z:Xb (C.ty 12)=((.int .u64 0):Value).cells.toList.map cv1:=rfl
@[go_sem] theorem t13ok:(C.ty 13).ok=true:=rfl
@[go_sem] theorem t13size:(C.ty 13).size=2:=rfl
@[go_sem] theorem t13bytes:(C.ty 13).bytes=24:=rfl
@[go_sem] theorem t13agg:(C.ty 13).agg=true:=rfl
@[go_sem] theorem t13fs:(C.ty 13).fs=[(0,9),(1,12)]:=rfl
@[go_sem] theorem t13arr:(C.ty 13).arr=none:=rfl
@[go_sem] theorem t13z:Xb (C.ty 13)=((.agg #[(.string ⟨#[]⟩),(.int .u64 0)]):Value).cells.toList.map cv1:=rfl
@[go_sem] theorem t14ok:(C.ty 14).ok=true:=rfl
@[go_sem] theorem t14size:(C.ty 14).size=2:=rfl
@[go_sem] theorem t14bytes:(C.ty 14).bytes=24:=rfl
@[go_sem] theorem t14agg:(C.ty 14).agg=true:=rfl
@[go_sem] theorem t14fs:(C.ty 14).fs=[(0,9),(1,12)]:=rfl
@[go_sem] theorem t14arr:(C.ty 14).arr=none:=rfl
@[go_sem] theorem t14z:Xb (C.ty 14)=((.agg #[(.string ⟨#[]⟩),(.int .u64 0)]):Value).cells.toList.map cv1:=rfl
@[go_sem] theorem t15ok:(C.ty 15).ok=true:=rfl
@[go_sem] theorem t15size:(C.ty 15).size=1:=rfl
@[go_sem] theorem t15bytes:(C.ty 15).bytes=8:=rfl
@[go_sem] theorem t15agg:(C.ty 15).agg=false:=rfl
@[go_sem] theorem t15z:Xb (C.ty 15)=((.pointer none):Value).cells.toList.map cv1:=rfl
@[go_sem] theorem t16ok:(C.ty 16).ok=true:=rfl
@[go_sem] theorem t16size:(C.ty 16).size=1:=rfl
@[go_sem] theorem t16bytes:(C.ty 16).bytes=8:=rfl
@[go_sem] theorem t16agg:(C.ty 16).agg=false:=rfl
@[go_sem] theorem t16z:Xb (C.ty 16)=((.pointer none):Value).cells.toList.map cv1:=rfl
@[go_sem] theorem t17ok:(C.ty 17).ok=true:=rfl
@[go_sem] theorem t17size:(C.ty 17).size=1:=rfl
@[go_sem] theorem t17bytes:(C.ty 17).bytes=8:=rfl
@[go_sem] theorem t17agg:(C.ty 17).agg=false:=rfl
@[go_sem] theorem t17z:Xb (C.ty 17)=((.pointer none):Value).cells.toList.map cv1:=rfl
@[go_sem] theorem t18ok:(C.ty 18).ok=true:=rfl
@[go_sem] theorem t18size:(C.ty 18).size=1:=rfl
@[go_sem] theorem t18bytes:(C.ty 18).bytes=8:=rfl
@[go_sem] theorem t18agg:(C.ty 18).agg=true:=rfl
@[go_sem] theorem t18fs:(C.ty 18).fs=[(0,17)]:=rfl
@[go_sem] theorem t18arr:(C.ty 18).arr=none:=rfl
@[go_sem] theorem t18z:Xb (C.ty 18)=((.agg #[(.pointer none)]):Value).cells.toList.map cv1:=rfl
@[go_sem] theorem t19ok:(C.ty 19).ok=true:=rfl
@[go_sem] theorem t19size:(C.ty 19).size=1:=rfl
@[go_sem] theorem t19bytes:(C.ty 19).bytes=8:=rfl
@[go_sem] theorem t19agg:(C.ty 19).agg=true:=rfl
@[go_sem] theorem t19fs:(C.ty 19).fs=[(0,17)]:=rfl
@[go_sem] theorem t19arr:(C.ty 19).arr=none:=rfl
@[go_sem] theorem t19z:Xb (C.ty 19)=((.agg #[(.pointer none)]):Value).cells.toList.map cv1:=rfl
@[go_sem] theorem t21ok:(C.ty 21).ok=true:=rfl
@[go_sem] theorem t21size:(C.ty 21).size=1:=rfl
@[go_sem] theorem t21bytes:(C.ty 21).bytes=4:=rfl
@[go_sem] theorem t21agg:(C.ty 21).agg=false:=rfl
@[go_sem] theorem t21ik:(C.ty 21).ik=some .i32:=rfl
@[go_sem] theorem t21z:Xb (C.ty 21)=((.int .i32 0):Value).cells.toList.map cv1:=rfl
@[go_sem] theorem t22ok:(C.ty 22).ok=true:=rfl
@[go_sem] theorem t22size:(C.ty 22).size=1:=rfl
@[go_sem] theorem t22bytes:(C.ty 22).bytes=8:=rfl
@[go_sem] theorem t22agg:(C.ty 22).agg=false:=rfl
@[go_sem] theorem t22ik:(C.ty 22).ik=some .i64:=rfl
@[go_sem] theorem t22z:Xb (C.ty 22)=((.int .i64 0):Value).cells.toList.map cv1:=rfl
@[go_sem] theorem t23ok:(C.ty 23).ok=true:=rfl
@[go_sem] theorem t23size:(C.ty 23).size=1:=rfl
@[go_sem] theorem t23bytes:(C.ty 23).bytes=24:=rfl
@[go_sem] theorem t23agg:(C.ty 23).agg=false:=rfl
@[go_sem] theorem t23sl:(C.ty 23).sl=some 3:=rfl
@[go_sem] theorem t23z:Xb (C.ty 23)=((.slice none 0 0):Value).cells.toList.map cv1:=rfl
@[go_sem] theorem t24ok:(C.ty 24).ok=true:=rfl
@[go_sem] theorem t24size:(C.ty 24).size=3:=rfl
@[go_sem] theorem t24bytes:(C.ty 24).bytes=56:=rfl
@[go_sem] theorem t24agg:(C.ty 24).agg=true:=rfl
@[go_sem] theorem t24fs:(C.ty 24).fs=[(0,22),(1,23),(2,23)]:=rfl
@[go_sem] theorem t24arr:(C.ty 24).arr=none:=rfl
@[go_sem] theorem t24z:Xb (C.ty 24)=((.agg #[(.int .i64 0),(.slice none 0 0),(.slice none 0 0)]):Value).cells.toList.map cv1:=rfl
@[go_sem] theorem t25ok:(C.ty 25).ok=true:=rfl
@[go_sem] theorem t25size:(C.ty 25).size=3:=rfl
@[go_sem] theorem t25bytes:(C.ty 25).bytes=56:=rfl
@[go_sem] theorem t25agg:(C.ty 25).agg=true:=rfl
@[go_sem] theorem t25fs:(C.ty 25).fs=[(0,22),(1,23),(2,23)]:=rfl
@[go_sem] theorem t25arr:(C.ty 25).arr=none:=rfl
@[go_sem] theorem t25z:Xb (C.ty 25)=((.agg #[(.int .i64 0),(.slice none 0 0),(.slice none 0 0)]):Value).cells.toList.map cv1:=rfl
@[go_sem] theorem t26ok:(C.ty 26).ok=true:=rfl
@[go_sem] theorem t26size:(C.ty 26).size=1:=rfl
@[go_sem] theorem t26bytes:(C.ty 26).bytes=24:=rfl
@[go_sem] theorem t26agg:(C.ty 26).agg=false:=rfl
@[go_sem] theorem t26sl:(C.ty 26).sl=some 42:=rfl
@[go_sem] theorem t26z:Xb (C.ty 26)=((.slice none 0 0):Value).cells.toList.map cv1:=rfl
@[go_sem] theorem t27ok:(C.ty 27).ok=true:=rfl
@[go_sem] theorem t27size:(C.ty 27).size=1:=rfl
@[go_sem] theorem t27bytes:(C.ty 27).bytes=8:=rfl
@[go_sem] theorem t27agg:(C.ty 27).agg=false:=rfl
@[go_sem] theorem t28ok:(C.ty 28).ok=true:=rfl
@[go_sem] theorem t28size:(C.ty 28).size=1:=rfl
@[go_sem] theorem t28bytes:(C.ty 28).bytes=8:=rfl
@[go_sem] theorem t28agg:(C.ty 28).agg=false:=rfl
@[go_sem] theorem t29ok:(C.ty 29).ok=true:=rfl
@[go_sem] theorem t29size:(C.ty 29).size=1:=rfl
@[go_sem] theorem t29bytes:(C.ty 29).bytes=8:=rfl
@[go_sem] theorem t29agg:(C.ty 29).agg=false:=rfl
@[go_sem] theorem t30ok:(C.ty 30).ok=true:=rfl
@[go_sem] theorem t30size:(C.ty 30).size=1:=rfl
@[go_sem] theorem t30bytes:(C.ty 30).bytes=24:=rfl
@[go_sem] theorem t30agg:(C.ty 30).agg=false:=rfl
@[go_sem] theorem t30sl:(C.ty 30).sl=some 104:=rfl
@[go_sem] theorem t30z:Xb (C.ty 30)=((.slice none 0 0):Value).cells.toList.map cv1:=rfl
@[go_sem] theorem t31ok:(C.ty 31).ok=true:=rfl
@[go_sem] theorem t31size:(C.ty 31).size=2:=rfl
@[go_sem] theorem t31bytes:(C.ty 31).bytes=48:=rfl
@[go_sem] theorem t31agg:(C.ty 31).agg=true:=rfl
@[go_sem] theorem t31fs:(C.ty 31).fs=[(0,23),(1,30)]:=rfl
@[go_sem] theorem t31arr:(C.ty 31).arr=none:=rfl
@[go_sem] theorem t31z:Xb (C.ty 31)=((.agg #[(.slice none 0 0),(.slice none 0 0)]):Value).cells.toList.map cv1:=rfl
@[go_sem] theorem t32ok:(C.ty 32).ok=true:=rfl
@[go_sem] theorem t32size:(C.ty 32).size=2:=rfl
@[go_sem] theorem t32bytes:(C.ty 32).bytes=48:=rfl
@[go_sem] theorem t32agg:(C.ty 32).agg=true:=rfl
@[go_sem] theorem t32fs:(C.ty 32).fs=[(0,23),(1,30)]:=rfl
@[go_sem] theorem t32arr:(C.ty 32).arr=none:=rfl
@[go_sem] theorem t32z:Xb (C.ty 32)=((.agg #[(.slice none 0 0),(.slice none 0 0)]):Value).cells.toList.map cv1:=rfl
@[go_sem] theorem t33ok:(C.ty 33).ok=true:=rfl
@[go_sem] theorem t33size:(C.ty 33).size=3:=rfl
@[go_sem] theorem t33bytes:(C.ty 33).bytes=56:=rfl
@[go_sem] theorem t33agg:(C.ty 33).agg=true:=rfl
@[go_sem] theorem t33fs:(C.ty 33).fs=[(0,3),(1,32)]:=rfl
@[go_sem] theorem t33arr:(C.ty 33).arr=none:=rfl
@[go_sem] theorem t33z:Xb (C.ty 33)=((.agg #[(.int .i64 0),(.slice none 0 0),(.slice none 0 0)]):Value).cells.toList.map cv1:=rfl
@[go_sem] theorem t34ok:(C.ty 34).ok=true:=rfl
@[go_sem] theorem t34size:(C.ty 34).size=3:=rfl
@[go_sem] theorem t34bytes:(C.ty 34).bytes=56:=rfl
@[go_sem] theorem t34agg:(C.ty 34).agg=true:=rfl
@[go_sem] theorem t34fs:(C.ty 34).fs=[(0,3),(1,32)]:=rfl
@[go_sem] theorem t34arr:(C.ty 34).arr=none:=rfl
@[go_sem] theorem t34z:Xb (C.ty 34)=((.agg #[(.int .i64 0),(.slice none 0 0),(.slice none 0 0)]):Value).cells.toList.map cv1:=rfl
@[go_sem] theorem t35ok:(C.ty 35).ok=true:=rfl
@[go_sem] theorem t35size:(C.ty 35).size=1:=rfl
@[go_sem] theorem t35bytes:(C.ty 35).bytes=8:=rfl
@[go_sem] theorem t35agg:(C.ty 35).agg=false:=rfl
@[go_sem] theorem t36ok:(C.ty 36).ok=true:=rfl
@[go_sem] theorem t36size:(C.ty 36).size=1:=rfl
@[go_sem] theorem t36bytes:(C.ty 36).bytes=8:=rfl
@[go_sem] theorem t36agg:(C.ty 36).agg=false:=rfl
@[go_sem] theorem t36ik:(C.ty 36).ik=some .i64:=rfl
@[go_sem] theorem t36z:Xb (C.ty 36)=((.int .i64 0):Value).cells.toList.map cv1:=rfl
@[go_sem] theorem t37ok:(C.ty 37).ok=true:=rfl
@[go_sem] theorem t37size:(C.ty 37).size=1:=rfl
@[go_sem] theorem t37bytes:(C.ty 37).bytes=24:=rfl
@[go_sem] theorem t37agg:(C.ty 37).agg=false:=rfl
@[go_sem] theorem t37sl:(C.ty 37).sl=some 3:=rfl
@[go_sem] theorem t37z:Xb (C.ty 37)=((.slice none 0 0):Value).cells.toList.map cv1:=rfl
@[go_sem] theorem t38ok:(C.ty 38).ok=true:=rfl
@[go_sem] theorem t38size:(C.ty 38).size=1:=rfl
@[go_sem] theorem t38bytes:(C.ty 38).bytes=24:=rfl
@[go_sem] theorem t38agg:(C.ty 38).agg=false:=rfl
@[go_sem] theorem t38sl:(C.ty 38).sl=some 67:=rfl
@[go_sem] theorem t38z:Xb (C.ty 38)=((.slice none 0 0):Value).cells.toList.map cv1:=rfl
@[go_sem] theorem t39ok:(C.ty 39).ok=true:=rfl
@[go_sem] theorem t39size:(C.ty 39).size=2:=rfl
@[go_sem] theorem t39bytes:(C.ty 39).bytes=48:=rfl
@[go_sem] theorem t39agg:(C.ty 39).agg=true:=rfl
@[go_sem] theorem t39fs:(C.ty 39).fs=[(0,37),(1,38)]:=rfl
@[go_sem] theorem t39arr:(C.ty 39).arr=none:=rfl
@[go_sem] theorem t39z:Xb (C.ty 39)=((.agg #[(.slice none 0 0),(.slice none 0 0)]):Value).cells.toList.map cv1:=rfl
@[go_sem] theorem t40ok:(C.ty 40).ok=true:=rfl
@[go_sem] theorem t40size:(C.ty 40).size=2:=rfl
@[go_sem] theorem t40bytes:(C.ty 40).bytes=48:=rfl
@[go_sem] theorem t40agg:(C.ty 40).agg=true:=rfl
@[go_sem] theorem t40fs:(C.ty 40).fs=[(0,37),(1,38)]:=rfl
@[go_sem] theorem t40arr:(C.ty 40).arr=none:=rfl
@[go_sem] theorem t40z:Xb (C.ty 40)=((.agg #[(.slice none 0 0),(.slice none 0 0)]):Value).cells.toList.map cv1:=rfl
@[go_sem] theorem t41ok:(C.ty 41).ok=true:=rfl
@[go_sem] theorem t41size:(C.ty 41).size=3:=rfl
@[go_sem] theorem t41bytes:(C.ty 41).bytes=56:=rfl
@[go_sem] theorem t41agg:(C.ty 41).agg=true:=rfl
@[go_sem] theorem t41fs:(C.ty 41).fs=[(0,36),(1,40)]:=rfl
@[go_sem] theorem t41arr:(C.ty 41).arr=none:=rfl
@[go_sem] theorem t41z:Xb (C.ty 41)=((.agg #[(.int .i64 0),(.slice none 0 0),(.slice none 0 0)]):Value).cells.toList.map cv1:=rfl
@[go_sem] theorem t42ok:(C.ty 42).ok=true:=rfl
@[go_sem] theorem t42size:(C.ty 42).size=3:=rfl
@[go_sem] theorem t42bytes:(C.ty 42).bytes=56:=rfl
@[go_sem] theorem t42agg:(C.ty 42).agg=true:=rfl
@[go_sem] theorem t42fs:(C.ty 42).fs=[(0,36),(1,40)]:=rfl
@[go_sem] theorem t42arr:(C.ty 42).arr=none:=rfl
@[go_sem] theorem t42z:Xb (C.ty 42)=((.agg #[(.int .i64 0),(.slice none 0 0),(.slice none 0 0)]):Value).cells.toList.map cv1:=rfl
@[go_sem] theorem t43ok:(C.ty 43).ok=true:=rfl
@[go_sem] theorem t43size:(C.ty 43).size=1:=rfl
@[go_sem] theorem t43bytes:(C.ty 43).bytes=8:=rfl
@[go_sem] theorem t43agg:(C.ty 43).agg=false:=rfl
@[go_sem] theorem t44ok:(C.ty 44).ok=true:=rfl
@[go_sem] theorem t44size:(C.ty 44).size=1:=rfl
@[go_sem] theorem t44bytes:(C.ty 44).bytes=8:=rfl
@[go_sem] theorem t44agg:(C.ty 44).agg=false:=rfl
@[go_sem] theorem t45ok:(C.ty 45).ok=true:=rfl
@[go_sem] theorem t45size:(C.ty 45).size=1:=rfl
@[go_sem] theorem t45bytes:(C.ty 45).bytes=8:=rfl
@[go_sem] theorem t45agg:(C.ty 45).agg=false:=rfl
@[go_sem] theorem t46ok:(C.ty 46).ok=true:=rfl
@[go_sem] theorem t46size:(C.ty 46).size=1:=rfl
@[go_sem] theorem t46bytes:(C.ty 46).bytes=8:=rfl
@[go_sem] theorem t46agg:(C.ty 46).agg=false:=rfl
@[go_sem] theorem t47ok:(C.ty 47).ok=true:=rfl
@[go_sem] theorem t47size:(C.ty 47).size=1:=rfl
@[go_sem] theorem t47bytes:(C.ty 47).bytes=24:=rfl
@[go_sem] theorem t47agg:(C.ty 47).agg=false:=rfl
@[go_sem] theorem t47sl:(C.ty 47).sl=some 23:=rfl
@[go_sem] theorem t47z:Xb (C.ty 47)=((.slice none 0 0):Value).cells.toList.map cv1:=rfl
@[go_sem] theorem t49ok:(C.ty 49).ok=true:=rfl
@[go_sem] theorem t49size:(C.ty 49).size=1:=rfl
@[go_sem] theorem t49bytes:(C.ty 49).bytes=8:=rfl
@[go_sem] theorem t49agg:(C.ty 49).agg=false:=rfl
@[go_sem] theorem t50ok:(C.ty 50).ok=true:=rfl
@[go_sem] theorem t50size:(C.ty 50).size=1:=rfl
@[go_sem] theorem t50bytes:(C.ty 50).bytes=8:=rfl
@[go_sem] theorem t50agg:(C.ty 50).agg=false:=rfl
@[go_sem] theorem t51ok:(C.ty 51).ok=true:=rfl
@[go_sem] theorem t51size:(C.ty 51).size=1:=rfl
@[go_sem] theorem t51bytes:(C.ty 51).bytes=8:=rfl
@[go_sem] theorem t51agg:(C.ty 51).agg=false:=rfl
@[go_sem] theorem t52ok:(C.ty 52).ok=true:=rfl
@[go_sem] theorem t52size:(C.ty 52).size=1:=rfl
@[go_sem] theorem t52bytes:(C.ty 52).bytes=8:=rfl
@[go_sem] theorem t52agg:(C.ty 52).agg=false:=rfl
@[go_sem] theorem t53ok:(C.ty 53).ok=true:=rfl
@[go_sem] theorem t53size:(C.ty 53).size=1:=rfl
@[go_sem] theorem t53bytes:(C.ty 53).bytes=8:=rfl
@[go_sem] theorem t53agg:(C.ty 53).agg=false:=rfl
@[go_sem] theorem t54ok:(C.ty 54).ok=true:=rfl
@[go_sem] theorem t54size:(C.ty 54).size=1:=rfl
@[go_sem] theorem t54bytes:(C.ty 54).bytes=8:=rfl
@[go_sem] theorem t54agg:(C.ty 54).agg=false:=rfl
@[go_sem] theorem t55ok:(C.ty 55).ok=true:=rfl
@[go_sem] theorem t55size:(C.ty 55).size=1:=rfl
@[go_sem] theorem t55bytes:(C.ty 55).bytes=8:=rfl
@[go_sem] theorem t55agg:(C.ty 55).agg=false:=rfl
@[go_sem] theorem t56ok:(C.ty 56).ok=true:=rfl
@[go_sem] theorem t56size:(C.ty 56).size=1:=rfl
@[go_sem] theorem t56bytes:(C.ty 56).bytes=8:=rfl
@[go_sem] theorem t56agg:(C.ty 56).agg=false:=rfl
@[go_sem] theorem t57ok:(C.ty 57).ok=true:=rfl
@[go_sem] theorem t57size:(C.ty 57).size=1:=rfl
@[go_sem] theorem t57bytes:(C.ty 57).bytes=8:=rfl
@[go_sem] theorem t57agg:(C.ty 57).agg=false:=rfl
@[go_sem] theorem t58ok:(C.ty 58).ok=true:=rfl
@[go_sem] theorem t58size:(C.ty 58).size=1:=rfl
@[go_sem] theorem t58bytes:(C.ty 58).bytes=8:=rfl
@[go_sem] theorem t58agg:(C.ty 58).agg=false:=rfl
@[go_sem] theorem t58ik:(C.ty 58).ik=some .u64:=rfl
@[go_sem] theorem t58z:Xb (C.ty 58)=((.int .u64 0):Value).cells.toList.map cv1:=rfl
@[go_sem] theorem t59ok:(C.ty 59).ok=true:=rfl
@[go_sem] theorem t59size:(C.ty 59).size=1:=rfl
@[go_sem] theorem t59bytes:(C.ty 59).bytes=8:=rfl
@[go_sem] theorem t59agg:(C.ty 59).agg=false:=rfl
@[go_sem] theorem t60ok:(C.ty 60).ok=true:=rfl
@[go_sem] theorem t60size:(C.ty 60).size=1:=rfl
@[go_sem] theorem t60bytes:(C.ty 60).bytes=8:=rfl
@[go_sem] theorem t60agg:(C.ty 60).agg=false:=rfl
@[go_sem] theorem t61ok:(C.ty 61).ok=true:=rfl
@[go_sem] theorem t61size:(C.ty 61).size=1:=rfl
@[go_sem] theorem t61bytes:(C.ty 61).bytes=8:=rfl
@[go_sem] theorem t61agg:(C.ty 61).agg=false:=rfl
@[go_sem] theorem t62ok:(C.ty 62).ok=true:=rfl
@[go_sem] theorem t62size:(C.ty 62).size=1:=rfl
@[go_sem] theorem t62bytes:(C.ty 62).bytes=8:=rfl
@[go_sem] theorem t62agg:(C.ty 62).agg=false:=rfl
@[go_sem] theorem t63ok:(C.ty 63).ok=true:=rfl
@[go_sem] theorem t63size:(C.ty 63).size=1:=rfl
@[go_sem] theorem t63bytes:(C.ty 63).bytes=8:=rfl
@[go_sem] theorem t63agg:(C.ty 63).agg=false:=rfl
@[go_sem] theorem t64ok:(C.ty 64).ok=true:=rfl
@[go_sem] theorem t64size:(C.ty 64).size=1:=rfl
@[go_sem] theorem t64bytes:(C.ty 64).bytes=24:=rfl
@[go_sem] theorem t64agg:(C.ty 64).agg=false:=rfl
@[go_sem] theorem t64sl:(C.ty 64).sl=some 106:=rfl
@[go_sem] theorem t64z:Xb (C.ty 64)=((.slice none 0 0):Value).cells.toList.map cv1:=rfl
@[go_sem] theorem t65ok:(C.ty 65).ok=true:=rfl
@[go_sem] theorem t65size:(C.ty 65).size=1:=rfl
@[go_sem] theorem t65bytes:(C.ty 65).bytes=24:=rfl
@[go_sem] theorem t65agg:(C.ty 65).agg=false:=rfl
@[go_sem] theorem t65sl:(C.ty 65).sl=some 106:=rfl
@[go_sem] theorem t65z:Xb (C.ty 65)=((.slice none 0 0):Value).cells.toList.map cv1:=rfl
@[go_sem] theorem t66ok:(C.ty 66).ok=true:=rfl
@[go_sem] theorem t66size:(C.ty 66).size=3:=rfl
@[go_sem] theorem t66bytes:(C.ty 66).bytes=56:=rfl
@[go_sem] theorem t66agg:(C.ty 66).agg=true:=rfl
@[go_sem] theorem t66fs:(C.ty 66).fs=[(0,4),(1,65),(2,65)]:=rfl
@[go_sem] theorem t66arr:(C.ty 66).arr=none:=rfl
@[go_sem] theorem t66z:Xb (C.ty 66)=((.agg #[(.bool false),(.slice none 0 0),(.slice none 0 0)]):Value).cells.toList.map cv1:=rfl
@[go_sem] theorem t67ok:(C.ty 67).ok=true:=rfl
@[go_sem] theorem t67size:(C.ty 67).size=3:=rfl
@[go_sem] theorem t67bytes:(C.ty 67).bytes=56:=rfl
@[go_sem] theorem t67agg:(C.ty 67).agg=true:=rfl
@[go_sem] theorem t67fs:(C.ty 67).fs=[(0,4),(1,65),(2,65)]:=rfl
@[go_sem] theorem t67arr:(C.ty 67).arr=none:=rfl
@[go_sem] theorem t67z:Xb (C.ty 67)=((.agg #[(.bool false),(.slice none 0 0),(.slice none 0 0)]):Value).cells.toList.map cv1:=rfl
@[go_sem] theorem t68ok:(C.ty 68).ok=true:=rfl
@[go_sem] theorem t68size:(C.ty 68).size=1:=rfl
@[go_sem] theorem t68bytes:(C.ty 68).bytes=8:=rfl
@[go_sem] theorem t68agg:(C.ty 68).agg=false:=rfl
@[go_sem] theorem t69ok:(C.ty 69).ok=true:=rfl
@[go_sem] theorem t69size:(C.ty 69).size=1:=rfl
@[go_sem] theorem t69bytes:(C.ty 69).bytes=8:=rfl
@[go_sem] theorem t69agg:(C.ty 69).agg=false:=rfl
@[go_sem] theorem t70ok:(C.ty 70).ok=true:=rfl
@[go_sem] theorem t70size:(C.ty 70).size=1:=rfl
@[go_sem] theorem t70bytes:(C.ty 70).bytes=24:=rfl
@[go_sem] theorem t70agg:(C.ty 70).agg=false:=rfl
@[go_sem] theorem t70sl:(C.ty 70).sl=some 34:=rfl
@[go_sem] theorem t70z:Xb (C.ty 70)=((.slice none 0 0):Value).cells.toList.map cv1:=rfl
@[go_sem] theorem t73ok:(C.ty 73).ok=true:=rfl
@[go_sem] theorem t73size:(C.ty 73).size=1:=rfl
@[go_sem] theorem t73bytes:(C.ty 73).bytes=8:=rfl
@[go_sem] theorem t73agg:(C.ty 73).agg=false:=rfl
@[go_sem] theorem t73ik:(C.ty 73).ik=some .i64:=rfl
@[go_sem] theorem t73z:Xb (C.ty 73)=((.int .i64 0):Value).cells.toList.map cv1:=rfl
@[go_sem] theorem t75ok:(C.ty 75).ok=true:=rfl
@[go_sem] theorem t75size:(C.ty 75).size=1:=rfl
@[go_sem] theorem t75bytes:(C.ty 75).bytes=24:=rfl
@[go_sem] theorem t75agg:(C.ty 75).agg=false:=rfl
@[go_sem] theorem t75sl:(C.ty 75).sl=some 37:=rfl
@[go_sem] theorem t75z:Xb (C.ty 75)=((.slice none 0 0):Value).cells.toList.map cv1:=rfl
@[go_sem] theorem t76ok:(C.ty 76).ok=true:=rfl
@[go_sem] theorem t76size:(C.ty 76).size=1:=rfl
@[go_sem] theorem t76bytes:(C.ty 76).bytes=24:=rfl
@[go_sem] theorem t76agg:(C.ty 76).agg=false:=rfl
@[go_sem] theorem t76sl:(C.ty 76).sl=some 40:=rfl
@[go_sem] theorem t76z:Xb (C.ty 76)=((.slice none 0 0):Value).cells.toList.map cv1:=rfl
@[go_sem] theorem t78ok:(C.ty 78).ok=true:=rfl
@[go_sem] theorem t78size:(C.ty 78).size=1:=rfl
@[go_sem] theorem t78bytes:(C.ty 78).bytes=8:=rfl
@[go_sem] theorem t78agg:(C.ty 78).agg=false:=rfl
@[go_sem] theorem t80ok:(C.ty 80).ok=true:=rfl
@[go_sem] theorem t80size:(C.ty 80).size=1:=rfl
@[go_sem] theorem t80bytes:(C.ty 80).bytes=8:=rfl
@[go_sem] theorem t80agg:(C.ty 80).agg=false:=rfl
@[go_sem] theorem t81ok:(C.ty 81).ok=true:=rfl
@[go_sem] theorem t81size:(C.ty 81).size=1:=rfl
@[go_sem] theorem t81bytes:(C.ty 81).bytes=8:=rfl
@[go_sem] theorem t81agg:(C.ty 81).agg=false:=rfl
@[go_sem] theorem t82ok:(C.ty 82).ok=true:=rfl
@[go_sem] theorem t82size:(C.ty 82).size=1:=rfl
@[go_sem] theorem t82bytes:(C.ty 82).bytes=8:=rfl
@[go_sem] theorem t82agg:(C.ty 82).agg=false:=rfl
@[go_sem] theorem t82mpk:(C.ty 82).mpk=some .i64:=rfl
@[go_sem] theorem t82z:Xb (C.ty 82)=((.map none):Value).cells.toList.map cv1:=rfl
@[go_sem] theorem t83ok:(C.ty 83).ok=true:=rfl
@[go_sem] theorem t83size:(C.ty 83).size=1:=rfl
@[go_sem] theorem t83bytes:(C.ty 83).bytes=8:=rfl
@[go_sem] theorem t83agg:(C.ty 83).agg=false:=rfl
@[go_sem] theorem t84ok:(C.ty 84).ok=true:=rfl
@[go_sem] theorem t84size:(C.ty 84).size=1:=rfl
@[go_sem] theorem t84bytes:(C.ty 84).bytes=8:=rfl
@[go_sem] theorem t84agg:(C.ty 84).agg=false:=rfl
@[go_sem] theorem t84ik:(C.ty 84).ik=some .i64:=rfl
@[go_sem] theorem t84z:Xb (C.ty 84)=((.int .i64 0):Value).cells.toList.map cv1:=rfl
@[go_sem] theorem t85ok:(C.ty 85).ok=true:=rfl
@[go_sem] theorem t85size:(C.ty 85).size=1:=rfl
@[go_sem] theorem t85bytes:(C.ty 85).bytes=8:=rfl
@[go_sem] theorem t85agg:(C.ty 85).agg=false:=rfl
@[go_sem] theorem t86ok:(C.ty 86).ok=true:=rfl
@[go_sem] theorem t86size:(C.ty 86).size=1:=rfl
@[go_sem] theorem t86bytes:(C.ty 86).bytes=8:=rfl
@[go_sem] theorem t86agg:(C.ty 86).agg=false:=rfl
@[go_sem] theorem t87ok:(C.ty 87).ok=true:=rfl
@[go_sem] theorem t87size:(C.ty 87).size=1:=rfl
@[go_sem] theorem t87bytes:(C.ty 87).bytes=8:=rfl
@[go_sem] theorem t87agg:(C.ty 87).agg=false:=rfl
@[go_sem] theorem t95ok:(C.ty 95).ok=true:=rfl
@[go_sem] theorem t95size:(C.ty 95).size=1:=rfl
@[go_sem] theorem t95bytes:(C.ty 95).bytes=8:=rfl
@[go_sem] theorem t95agg:(C.ty 95).agg=false:=rfl
@[go_sem] theorem t97ok:(C.ty 97).ok=true:=rfl
@[go_sem] theorem t97size:(C.ty 97).size=8:=rfl
@[go_sem] theorem t97bytes:(C.ty 97).bytes=72:=rfl
@[go_sem] theorem t97agg:(C.ty 97).agg=true:=rfl
@[go_sem] theorem t97fs:(C.ty 97).fs=[(0,22),(1,9),(2,3),(3,3),(4,3),(5,3),(6,95),(7,3)]:=rfl
@[go_sem] theorem t97arr:(C.ty 97).arr=none:=rfl
@[go_sem] theorem t97z:Xb (C.ty 97)=((.agg #[(.int .i64 0),(.string ⟨#[]⟩),(.int .i64 0),(.int .i64 0),(.int .i64 0),(.int .i64 0),.nilFunc,(.int .i64 0)]):Value).cells.toList.map cv1:=rfl
@[go_sem] theorem t99ok:(C.ty 99).ok=true:=rfl
@[go_sem] theorem t99size:(C.ty 99).size=1:=rfl
@[go_sem] theorem t99bytes:(C.ty 99).bytes=8:=rfl
@[go_sem] theorem t99agg:(C.ty 99).agg=false:=rfl
@[go_sem] theorem t100ok:(C.ty 100).ok=true:=rfl
@[go_sem] theorem t100size:(C.ty 100).size=1:=rfl
@[go_sem] theorem t100bytes:(C.ty 100).bytes=8:=rfl
@[go_sem] theorem t100agg:(C.ty 100).agg=false:=rfl
@[go_sem] theorem t101ok:(C.ty 101).ok=true:=rfl
@[go_sem] theorem t101size:(C.ty 101).size=1:=rfl
@[go_sem] theorem t101bytes:(C.ty 101).bytes=8:=rfl
@[go_sem] theorem t101agg:(C.ty 101).agg=false:=rfl
@[go_sem] theorem t102ok:(C.ty 102).ok=true:=rfl
@[go_sem] theorem t102size:(C.ty 102).size=1:=rfl
@[go_sem] theorem t102bytes:(C.ty 102).bytes=24:=rfl
@[go_sem] theorem t102agg:(C.ty 102).agg=false:=rfl
@[go_sem] theorem t102sl:(C.ty 102).sl=some 3:=rfl
@[go_sem] theorem t102z:Xb (C.ty 102)=((.slice none 0 0):Value).cells.toList.map cv1:=rfl
@[go_sem] theorem t103ok:(C.ty 103).ok=true:=rfl
@[go_sem] theorem t103size:(C.ty 103).size=3:=rfl
@[go_sem] theorem t103bytes:(C.ty 103).bytes=56:=rfl
@[go_sem] theorem t103agg:(C.ty 103).agg=true:=rfl
@[go_sem] theorem t103fs:(C.ty 103).fs=[(0,4),(1,102),(2,102)]:=rfl
@[go_sem] theorem t103arr:(C.ty 103).arr=none:=rfl
@[go_sem] theorem t103z:Xb (C.ty 103)=((.agg #[(.bool false),(.slice none 0 0),(.slice none 0 0)]):Value).cells.toList.map cv1:=rfl
@[go_sem] theorem t104ok:(C.ty 104).ok=true:=rfl
@[go_sem] theorem t104size:(C.ty 104).size=3:=rfl
@[go_sem] theorem t104bytes:(C.ty 104).bytes=56:=rfl
@[go_sem] theorem t104agg:(C.ty 104).agg=true:=rfl
@[go_sem] theorem t104fs:(C.ty 104).fs=[(0,4),(1,102),(2,102)]:=rfl
@[go_sem] theorem t104arr:(C.ty 104).arr=none:=rfl
@[go_sem] theorem t104z:Xb (C.ty 104)=((.agg #[(.bool false),(.slice none 0 0),(.slice none 0 0)]):Value).cells.toList.map cv1:=rfl
@[go_sem] theorem t105ok:(C.ty 105).ok=true:=rfl
@[go_sem] theorem t105size:(C.ty 105).size=1:=rfl
@[go_sem] theorem t105bytes:(C.ty 105).bytes=8:=rfl
@[go_sem] theorem t105agg:(C.ty 105).agg=false:=rfl
@[go_sem] theorem t106ok:(C.ty 106).ok=true:=rfl
@[go_sem] theorem t106size:(C.ty 106).size=1:=rfl
@[go_sem] theorem t106bytes:(C.ty 106).bytes=4:=rfl
@[go_sem] theorem t106agg:(C.ty 106).agg=false:=rfl
@[go_sem] theorem t106ik:(C.ty 106).ik=some .u32:=rfl
@[go_sem] theorem t106z:Xb (C.ty 106)=((.int .u32 0):Value).cells.toList.map cv1:=rfl
@[go_sem] theorem t108ok:(C.ty 108).ok=true:=rfl
@[go_sem] theorem t108size:(C.ty 108).size=1:=rfl
@[go_sem] theorem t108bytes:(C.ty 108).bytes=8:=rfl
@[go_sem] theorem t108agg:(C.ty 108).agg=false:=rfl
@[go_sem] theorem t109ok:(C.ty 109).ok=true:=rfl
@[go_sem] theorem t109size:(C.ty 109).size=1:=rfl
@[go_sem] theorem t109bytes:(C.ty 109).bytes=8:=rfl
@[go_sem] theorem t109agg:(C.ty 109).agg=false:=rfl
@[go_sem] theorem t110ok:(C.ty 110).ok=true:=rfl
@[go_sem] theorem t110size:(C.ty 110).size=1:=rfl
@[go_sem] theorem t110bytes:(C.ty 110).bytes=8:=rfl
@[go_sem] theorem t110agg:(C.ty 110).agg=false:=rfl
@[go_sem] theorem t111ok:(C.ty 111).ok=true:=rfl
@[go_sem] theorem t111size:(C.ty 111).size=1:=rfl
@[go_sem] theorem t111bytes:(C.ty 111).bytes=24:=rfl
@[go_sem] theorem t111agg:(C.ty 111).agg=false:=rfl
@[go_sem] theorem t111sl:(C.ty 111).sl=some 32:=rfl
@[go_sem] theorem t111z:Xb (C.ty 111)=((.slice none 0 0):Value).cells.toList.map cv1:=rfl
@[go_sem] theorem t113ok:(C.ty 113).ok=true:=rfl
@[go_sem] theorem t113size:(C.ty 113).size=1:=rfl
@[go_sem] theorem t113bytes:(C.ty 113).bytes=8:=rfl
@[go_sem] theorem t113agg:(C.ty 113).agg=false:=rfl
@[go_sem] theorem t114ok:(C.ty 114).ok=true:=rfl
@[go_sem] theorem t114size:(C.ty 114).size=1:=rfl
@[go_sem] theorem t114bytes:(C.ty 114).bytes=8:=rfl
@[go_sem] theorem t114agg:(C.ty 114).agg=false:=rfl
@[go_sem] theorem t115ok:(C.ty 115).ok=true:=rfl
@[go_sem] theorem t115size:(C.ty 115).size=1:=rfl
@[go_sem] theorem t115bytes:(C.ty 115).bytes=8:=rfl
@[go_sem] theorem t115agg:(C.ty 115).agg=false:=rfl
@[go_sem] theorem t116ok:(C.ty 116).ok=true:=rfl
@[go_sem] theorem t116size:(C.ty 116).size=1:=rfl
@[go_sem] theorem t116bytes:(C.ty 116).bytes=8:=rfl
@[go_sem] theorem t116agg:(C.ty 116).agg=false:=rfl
@[go_sem] theorem t117ok:(C.ty 117).ok=true:=rfl
@[go_sem] theorem t117size:(C.ty 117).size=1:=rfl
@[go_sem] theorem t117bytes:(C.ty 117).bytes=8:=rfl
@[go_sem] theorem t117agg:(C.ty 117).agg=false:=rfl
@[go_sem] theorem t118ok:(C.ty 118).ok=true:=rfl
@[go_sem] theorem t118size:(C.ty 118).size=1:=rfl
@[go_sem] theorem t118bytes:(C.ty 118).bytes=8:=rfl
@[go_sem] theorem t118agg:(C.ty 118).agg=false:=rfl
@[go_sem] theorem t119ok:(C.ty 119).ok=true:=rfl
@[go_sem] theorem t119size:(C.ty 119).size=1:=rfl
@[go_sem] theorem t119bytes:(C.ty 119).bytes=8:=rfl
@[go_sem] theorem t119agg:(C.ty 119).agg=false:=rfl
@[go_sem] theorem t121ok:(C.ty 121).ok=true:=rfl
@[go_sem] theorem t121size:(C.ty 121).size=1:=rfl
@[go_sem] theorem t121bytes:(C.ty 121).bytes=8:=rfl
@[go_sem] theorem t121agg:(C.ty 121).agg=false:=rfl
@[go_sem] theorem t126ok:(C.ty 126).ok=true:=rfl
@[go_sem] theorem t126size:(C.ty 126).size=1:=rfl
@[go_sem] theorem t126bytes:(C.ty 126).bytes=8:=rfl
@[go_sem] theorem t126agg:(C.ty 126).agg=false:=rfl
@[go_sem] theorem t127ok:(C.ty 127).ok=true:=rfl
@[go_sem] theorem t127size:(C.ty 127).size=1:=rfl
@[go_sem] theorem t127bytes:(C.ty 127).bytes=8:=rfl
@[go_sem] theorem t127agg:(C.ty 127).agg=false:=rfl
@[go_sem] theorem t128ok:(C.ty 128).ok=true:=rfl
@[go_sem] theorem t128size:(C.ty 128).size=1:=rfl
@[go_sem] theorem t128bytes:(C.ty 128).bytes=8:=rfl
@[go_sem] theorem t128agg:(C.ty 128).agg=false:=rfl
@[go_sem] theorem t129ok:(C.ty 129).ok=true:=rfl
@[go_sem] theorem t129size:(C.ty 129).size=1:=rfl
@[go_sem] theorem t129bytes:(C.ty 129).bytes=8:=rfl
@[go_sem] theorem t129agg:(C.ty 129).agg=false:=rfl
@[go_sem] theorem t130ok:(C.ty 130).ok=true:=rfl
@[go_sem] theorem t130size:(C.ty 130).size=1:=rfl
@[go_sem] theorem t130bytes:(C.ty 130).bytes=8:=rfl
@[go_sem] theorem t130agg:(C.ty 130).agg=false:=rfl
@[go_sem] theorem t131ok:(C.ty 131).ok=true:=rfl
@[go_sem] theorem t131size:(C.ty 131).size=1:=rfl
@[go_sem] theorem t131bytes:(C.ty 131).bytes=8:=rfl
@[go_sem] theorem t131agg:(C.ty 131).agg=false:=rfl
@[go_sem] theorem t132ok:(C.ty 132).ok=true:=rfl
@[go_sem] theorem t132size:(C.ty 132).size=1:=rfl
@[go_sem] theorem t132bytes:(C.ty 132).bytes=8:=rfl
@[go_sem] theorem t132agg:(C.ty 132).agg=false:=rfl
@[go_sem] theorem t134ok:(C.ty 134).ok=true:=rfl
@[go_sem] theorem t134size:(C.ty 134).size=1:=rfl
@[go_sem] theorem t134bytes:(C.ty 134).bytes=8:=rfl
@[go_sem] theorem t134agg:(C.ty 134).agg=false:=rfl
@[go_sem] theorem t135ok:(C.ty 135).ok=true:=rfl
@[go_sem] theorem t135size:(C.ty 135).size=1:=rfl
@[go_sem] theorem t135bytes:(C.ty 135).bytes=8:=rfl
@[go_sem] theorem t135agg:(C.ty 135).agg=false:=rfl
@[go_sem] theorem t136ok:(C.ty 136).ok=true:=rfl
@[go_sem] theorem t136size:(C.ty 136).size=1:=rfl
@[go_sem] theorem t136bytes:(C.ty 136).bytes=8:=rfl
@[go_sem] theorem t136agg:(C.ty 136).agg=false:=rfl
@[go_sem] theorem t137ok:(C.ty 137).ok=true:=rfl
@[go_sem] theorem t137size:(C.ty 137).size=1:=rfl
@[go_sem] theorem t137bytes:(C.ty 137).bytes=8:=rfl
@[go_sem] theorem t137agg:(C.ty 137).agg=false:=rfl
@[go_sem] theorem t138ok:(C.ty 138).ok=true:=rfl
@[go_sem] theorem t138size:(C.ty 138).size=1:=rfl
@[go_sem] theorem t138bytes:(C.ty 138).bytes=8:=rfl
@[go_sem] theorem t138agg:(C.ty 138).agg=false:=rfl
@[go_sem] theorem t139ok:(C.ty 139).ok=true:=rfl
@[go_sem] theorem t139size:(C.ty 139).size=1:=rfl
@[go_sem] theorem t139bytes:(C.ty 139).bytes=8:=rfl
@[go_sem] theorem t139agg:(C.ty 139).agg=false:=rfl
@[go_sem] theorem t140ok:(C.ty 140).ok=true:=rfl
@[go_sem] theorem t140size:(C.ty 140).size=1:=rfl
@[go_sem] theorem t140bytes:(C.ty 140).bytes=8:=rfl
@[go_sem] theorem t140agg:(C.ty 140).agg=false:=rfl
@[go_sem] theorem t141ok:(C.ty 141).ok=true:=rfl
@[go_sem] theorem t141size:(C.ty 141).size=1:=rfl
@[go_sem] theorem t141bytes:(C.ty 141).bytes=8:=rfl
@[go_sem] theorem t141agg:(C.ty 141).agg=false:=rfl
@[go_sem] theorem t142ok:(C.ty 142).ok=true:=rfl
@[go_sem] theorem t142size:(C.ty 142).size=1:=rfl
@[go_sem] theorem t142bytes:(C.ty 142).bytes=8:=rfl
@[go_sem] theorem t142agg:(C.ty 142).agg=false:=rfl
@[go_sem] theorem t143ok:(C.ty 143).ok=true:=rfl
@[go_sem] theorem t143size:(C.ty 143).size=1:=rfl
@[go_sem] theorem t143bytes:(C.ty 143).bytes=8:=rfl
@[go_sem] theorem t143agg:(C.ty 143).agg=false:=rfl
@[go_sem] theorem t144ok:(C.ty 144).ok=true:=rfl
@[go_sem] theorem t144size:(C.ty 144).size=1:=rfl
@[go_sem] theorem t144bytes:(C.ty 144).bytes=8:=rfl
@[go_sem] theorem t144agg:(C.ty 144).agg=false:=rfl
@[go_sem] theorem t145ok:(C.ty 145).ok=true:=rfl
@[go_sem] theorem t145size:(C.ty 145).size=2:=rfl
@[go_sem] theorem t145bytes:(C.ty 145).bytes=48:=rfl
@[go_sem] theorem t145agg:(C.ty 145).agg=true:=rfl
@[go_sem] theorem t145fs:(C.ty 145).fs=[(0,37),(1,38)]:=rfl
@[go_sem] theorem t145arr:(C.ty 145).arr=none:=rfl
@[go_sem] theorem t145z:Xb (C.ty 145)=((.agg #[(.slice none 0 0),(.slice none 0 0)]):Value).cells.toList.map cv1:=rfl
@[go_sem] theorem t146ok:(C.ty 146).ok=true:=rfl
@[go_sem] theorem t146size:(C.ty 146).size=2:=rfl
@[go_sem] theorem t146bytes:(C.ty 146).bytes=48:=rfl
@[go_sem] theorem t146agg:(C.ty 146).agg=true:=rfl
@[go_sem] theorem t146fs:(C.ty 146).fs=[(0,37),(1,38)]:=rfl
@[go_sem] theorem t146arr:(C.ty 146).arr=none:=rfl
@[go_sem] theorem t146z:Xb (C.ty 146)=((.agg #[(.slice none 0 0),(.slice none 0 0)]):Value).cells.toList.map cv1:=rfl
@[go_sem] theorem t147ok:(C.ty 147).ok=true:=rfl
@[go_sem] theorem t147size:(C.ty 147).size=1:=rfl
@[go_sem] theorem t147bytes:(C.ty 147).bytes=8:=rfl
@[go_sem] theorem t147agg:(C.ty 147).agg=false:=rfl
@[go_sem] theorem t157ok:(C.ty 157).ok=true:=rfl
@[go_sem] theorem t157size:(C.ty 157).size=1:=rfl
@[go_sem] theorem t157bytes:(C.ty 157).bytes=8:=rfl
@[go_sem] theorem t157agg:(C.ty 157).agg=false:=rfl
@[go_sem] theorem t158ok:(C.ty 158).ok=true:=rfl
@[go_sem] theorem t158size:(C.ty 158).size=1:=rfl
@[go_sem] theorem t158bytes:(C.ty 158).bytes=8:=rfl
@[go_sem] theorem t158agg:(C.ty 158).agg=false:=rfl
@[go_sem] theorem t159ok:(C.ty 159).ok=true:=rfl
@[go_sem] theorem t159size:(C.ty 159).size=1:=rfl
@[go_sem] theorem t159bytes:(C.ty 159).bytes=8:=rfl
@[go_sem] theorem t159agg:(C.ty 159).agg=false:=rfl
@[go_sem] theorem t163ok:(C.ty 163).ok=true:=rfl
@[go_sem] theorem t163size:(C.ty 163).size=1:=rfl
@[go_sem] theorem t163bytes:(C.ty 163).bytes=8:=rfl
@[go_sem] theorem t163agg:(C.ty 163).agg=false:=rfl
@[go_sem] theorem t173ok:(C.ty 173).ok=true:=rfl
@[go_sem] theorem t173size:(C.ty 173).size=1:=rfl
@[go_sem] theorem t173bytes:(C.ty 173).bytes=8:=rfl
@[go_sem] theorem t173agg:(C.ty 173).agg=false:=rfl
@[go_sem] theorem t174ok:(C.ty 174).ok=true:=rfl
@[go_sem] theorem t174size:(C.ty 174).size=1:=rfl
@[go_sem] theorem t174bytes:(C.ty 174).bytes=8:=rfl
@[go_sem] theorem t174agg:(C.ty 174).agg=false:=rfl
@[go_sem] theorem t175ok:(C.ty 175).ok=true:=rfl
@[go_sem] theorem t175size:(C.ty 175).size=1:=rfl
@[go_sem] theorem t175bytes:(C.ty 175).bytes=8:=rfl
@[go_sem] theorem t175agg:(C.ty 175).agg=false:=rfl
@[go_sem] theorem t176ok:(C.ty 176).ok=true:=rfl
@[go_sem] theorem t176size:(C.ty 176).size=1:=rfl
@[go_sem] theorem t176bytes:(C.ty 176).bytes=8:=rfl
@[go_sem] theorem t176agg:(C.ty 176).agg=false:=rfl
@[go_sem] theorem t177ok:(C.ty 177).ok=true:=rfl
@[go_sem] theorem t177size:(C.ty 177).size=1:=rfl
@[go_sem] theorem t177bytes:(C.ty 177).bytes=8:=rfl
@[go_sem] theorem t177agg:(C.ty 177).agg=false:=rfl
@[go_sem] theorem t178ok:(C.ty 178).ok=true:=rfl
@[go_sem] theorem t178size:(C.ty 178).size=1:=rfl
@[go_sem] theorem t178bytes:(C.ty 178).bytes=8:=rfl
@[go_sem] theorem t178agg:(C.ty 178).agg=false:=rfl
@[go_sem] theorem t181ok:(C.ty 181).ok=true:=rfl
@[go_sem] theorem t181size:(C.ty 181).size=1:=rfl
@[go_sem] theorem t181bytes:(C.ty 181).bytes=8:=rfl
@[go_sem] theorem t181agg:(C.ty 181).agg=false:=rfl
@[go_sem] theorem t182ok:(C.ty 182).ok=true:=rfl
@[go_sem] theorem t182size:(C.ty 182).size=1:=rfl
@[go_sem] theorem t182bytes:(C.ty 182).bytes=8:=rfl
@[go_sem] theorem t182agg:(C.ty 182).agg=false:=rfl
@[go_sem] theorem t184ok:(C.ty 184).ok=true:=rfl
@[go_sem] theorem t184size:(C.ty 184).size=1:=rfl
@[go_sem] theorem t184bytes:(C.ty 184).bytes=8:=rfl
@[go_sem] theorem t184agg:(C.ty 184).agg=false:=rfl
@[go_sem] theorem t185ok:(C.ty 185).ok=true:=rfl
@[go_sem] theorem t185size:(C.ty 185).size=1:=rfl
@[go_sem] theorem t185bytes:(C.ty 185).bytes=8:=rfl
@[go_sem] theorem t185agg:(C.ty 185).agg=false:=rfl
@[go_sem] theorem t186ok:(C.ty 186).ok=true:=rfl
@[go_sem] theorem t186size:(C.ty 186).size=1:=rfl
@[go_sem] theorem t186bytes:(C.ty 186).bytes=8:=rfl
@[go_sem] theorem t186agg:(C.ty 186).agg=false:=rfl
@[go_sem] theorem t187ok:(C.ty 187).ok=true:=rfl
@[go_sem] theorem t187size:(C.ty 187).size=1:=rfl
@[go_sem] theorem t187bytes:(C.ty 187).bytes=8:=rfl
@[go_sem] theorem t187agg:(C.ty 187).agg=false:=rfl
@[go_sem] theorem t188ok:(C.ty 188).ok=true:=rfl
@[go_sem] theorem t188size:(C.ty 188).size=1:=rfl
@[go_sem] theorem t188bytes:(C.ty 188).bytes=8:=rfl
@[go_sem] theorem t188agg:(C.ty 188).agg=false:=rfl
@[go_sem] theorem t189ok:(C.ty 189).ok=true:=rfl
@[go_sem] theorem t189size:(C.ty 189).size=1:=rfl
@[go_sem] theorem t189bytes:(C.ty 189).bytes=8:=rfl
@[go_sem] theorem t189agg:(C.ty 189).agg=false:=rfl
@[go_sem] theorem t190ok:(C.ty 190).ok=true:=rfl
@[go_sem] theorem t190size:(C.ty 190).size=1:=rfl
@[go_sem] theorem t190bytes:(C.ty 190).bytes=8:=rfl
@[go_sem] theorem t190agg:(C.ty 190).agg=false:=rfl
@[go_sem] theorem t191ok:(C.ty 191).ok=true:=rfl
@[go_sem] theorem t191size:(C.ty 191).size=2:=rfl
@[go_sem] theorem t191bytes:(C.ty 191).bytes=16:=rfl
@[go_sem] theorem t191agg:(C.ty 191).agg=true:=rfl
@[go_sem] theorem t191arr:(C.ty 191).arr=some (2,3):=rfl
@[go_sem] theorem t191z:Xb (C.ty 191)=((.agg #[(.int .i64 0),(.int .i64 0)]):Value).cells.toList.map cv1:=rfl
@[go_sem] theorem t192ok:(C.ty 192).ok=true:=rfl
@[go_sem] theorem t192size:(C.ty 192).size=1:=rfl
@[go_sem] theorem t192bytes:(C.ty 192).bytes=8:=rfl
@[go_sem] theorem t192agg:(C.ty 192).agg=false:=rfl
@[go_sem] theorem t194ok:(C.ty 194).ok=true:=rfl
@[go_sem] theorem t194size:(C.ty 194).size=1:=rfl
@[go_sem] theorem t194bytes:(C.ty 194).bytes=8:=rfl
@[go_sem] theorem t194agg:(C.ty 194).agg=false:=rfl
@[go_sem] theorem t202ok:(C.ty 202).ok=true:=rfl
@[go_sem] theorem t202size:(C.ty 202).size=1:=rfl
@[go_sem] theorem t202bytes:(C.ty 202).bytes=8:=rfl
@[go_sem] theorem t202agg:(C.ty 202).agg=false:=rfl
@[go_sem] theorem t203ok:(C.ty 203).ok=true:=rfl
@[go_sem] theorem t203size:(C.ty 203).size=1:=rfl
@[go_sem] theorem t203bytes:(C.ty 203).bytes=8:=rfl
@[go_sem] theorem t203agg:(C.ty 203).agg=false:=rfl
@[go_sem] theorem t204ok:(C.ty 204).ok=true:=rfl
@[go_sem] theorem t204size:(C.ty 204).size=1:=rfl
@[go_sem] theorem t204bytes:(C.ty 204).bytes=8:=rfl
@[go_sem] theorem t204agg:(C.ty 204).agg=false:=rfl
@[go_sem] theorem t205ok:(C.ty 205).ok=true:=rfl
@[go_sem] theorem t205size:(C.ty 205).size=1:=rfl
@[go_sem] theorem t205bytes:(C.ty 205).bytes=8:=rfl
@[go_sem] theorem t205agg:(C.ty 205).agg=false:=rfl
@[go_sem] theorem t208ok:(C.ty 208).ok=true:=rfl
@[go_sem] theorem t208size:(C.ty 208).size=1:=rfl
@[go_sem] theorem t208bytes:(C.ty 208).bytes=8:=rfl
@[go_sem] theorem t208agg:(C.ty 208).agg=false:=rfl
@[go_sem] theorem t209ok:(C.ty 209).ok=true:=rfl
@[go_sem] theorem t209size:(C.ty 209).size=1:=rfl
@[go_sem] theorem t209bytes:(C.ty 209).bytes=8:=rfl
@[go_sem] theorem t209agg:(C.ty 209).agg=false:=rfl
@[go_sem] theorem t210ok:(C.ty 210).ok=true:=rfl
@[go_sem] theorem t210size:(C.ty 210).size=1:=rfl
@[go_sem] theorem t210bytes:(C.ty 210).bytes=24:=rfl
@[go_sem] theorem t210agg:(C.ty 210).agg=false:=rfl
@[go_sem] theorem t210sl:(C.ty 210).sl=some 97:=rfl
@[go_sem] theorem t210z:Xb (C.ty 210)=((.slice none 0 0):Value).cells.toList.map cv1:=rfl
@[go_sem] theorem t211ok:(C.ty 211).ok=true:=rfl
@[go_sem] theorem t211size:(C.ty 211).size=1:=rfl
@[go_sem] theorem t211bytes:(C.ty 211).bytes=8:=rfl
@[go_sem] theorem t211agg:(C.ty 211).agg=false:=rfl
@[go_sem] theorem t247ok:(C.ty 247).ok=true:=rfl
@[go_sem] theorem t247size:(C.ty 247).size=1:=rfl
@[go_sem] theorem t247bytes:(C.ty 247).bytes=8:=rfl
@[go_sem] theorem t247agg:(C.ty 247).agg=false:=rfl
@[go_sem] theorem t271ok:(C.ty 271).ok=true:=rfl
@[go_sem] theorem t271size:(C.ty 271).size=1:=rfl
@[go_sem] theorem t271bytes:(C.ty 271).bytes=8:=rfl
@[go_sem] theorem t271agg:(C.ty 271).agg=false:=rfl
@[go_sem] theorem t271ik:(C.ty 271).ik=some .u64:=rfl
@[go_sem] theorem t271z:Xb (C.ty 271)=((.int .u64 0):Value).cells.toList.map cv1:=rfl
@[go_sem] theorem t278ok:(C.ty 278).ok=true:=rfl
@[go_sem] theorem t278size:(C.ty 278).size=1:=rfl
@[go_sem] theorem t278bytes:(C.ty 278).bytes=8:=rfl
@[go_sem] theorem t278agg:(C.ty 278).agg=false:=rfl
@[go_sem] theorem t297ok:(C.ty 297).ok=true:=rfl
@[go_sem] theorem t297size:(C.ty 297).size=1:=rfl
@[go_sem] theorem t297bytes:(C.ty 297).bytes=8:=rfl
@[go_sem] theorem t297agg:(C.ty 297).agg=false:=rfl
@[go_sem] theorem t297ik:(C.ty 297).ik=some .i64:=rfl
@[go_sem] theorem t297z:Xb (C.ty 297)=((.int .i64 0):Value).cells.toList.map cv1:=rfl
@[go_sem] theorem t304ok:(C.ty 304).ok=true:=rfl
@[go_sem] theorem t304size:(C.ty 304).size=1:=rfl
@[go_sem] theorem t304bytes:(C.ty 304).bytes=24:=rfl
@[go_sem] theorem t304agg:(C.ty 304).agg=false:=rfl
@[go_sem] theorem t304sl:(C.ty 304).sl=some 65:=rfl
@[go_sem] theorem t304z:Xb (C.ty 304)=((.slice none 0 0):Value).cells.toList.map cv1:=rfl
abbrev t0:Go.Operand:=.tmp 0
abbrev t1:Go.Operand:=.tmp 1
abbrev t2:Go.Operand:=.tmp 2
abbrev t3:Go.Operand:=.tmp 3
abbrev t4:Go.Operand:=.tmp 4
abbrev t5:Go.Operand:=.tmp 5
abbrev t6:Go.Operand:=.tmp 6
abbrev t7:Go.Operand:=.tmp 7
abbrev t8:Go.Operand:=.tmp 8
abbrev t9:Go.Operand:=.tmp 9
abbrev t10:Go.Operand:=.tmp 10
abbrev t11:Go.Operand:=.tmp 11
abbrev t12:Go.Operand:=.tmp 12
abbrev t13:Go.Operand:=.tmp 13
abbrev t14:Go.Operand:=.tmp 14
abbrev t15:Go.Operand:=.tmp 15
abbrev t16:Go.Operand:=.tmp 16
abbrev t17:Go.Operand:=.tmp 17
abbrev t18:Go.Operand:=.tmp 18
abbrev t19:Go.Operand:=.tmp 19
abbrev t20:Go.Operand:=.tmp 20
abbrev t21:Go.Operand:=.tmp 21
abbrev t22:Go.Operand:=.tmp 22
abbrev t23:Go.Operand:=.tmp 23
abbrev t24:Go.Operand:=.tmp 24
abbrev t25:Go.Operand:=.tmp 25
abbrev t26:Go.Operand:=.tmp 26
abbrev t27:Go.Operand:=.tmp 27
abbrev t28:Go.Operand:=.tmp 28
abbrev t29:Go.Operand:=.tmp 29
abbrev t30:Go.Operand:=.tmp 30
abbrev t31:Go.Operand:=.tmp 31
abbrev t32:Go.Operand:=.tmp 32
abbrev t33:Go.Operand:=.tmp 33
abbrev t34:Go.Operand:=.tmp 34
abbrev t35:Go.Operand:=.tmp 35
abbrev t36:Go.Operand:=.tmp 36
abbrev t37:Go.Operand:=.tmp 37
abbrev t38:Go.Operand:=.tmp 38
abbrev t39:Go.Operand:=.tmp 39
abbrev t40:Go.Operand:=.tmp 40
abbrev t41:Go.Operand:=.tmp 41
abbrev t42:Go.Operand:=.tmp 42
abbrev t43:Go.Operand:=.tmp 43
abbrev t44:Go.Operand:=.tmp 44
abbrev t45:Go.Operand:=.tmp 45
abbrev t46:Go.Operand:=.tmp 46
abbrev t47:Go.Operand:=.tmp 47
abbrev t48:Go.Operand:=.tmp 48
abbrev t49:Go.Operand:=.tmp 49
abbrev t50:Go.Operand:=.tmp 50
abbrev t51:Go.Operand:=.tmp 51
abbrev t52:Go.Operand:=.tmp 52
abbrev t53:Go.Operand:=.tmp 53
abbrev t54:Go.Operand:=.tmp 54
abbrev t55:Go.Operand:=.tmp 55
abbrev t56:Go.Operand:=.tmp 56
abbrev t57:Go.Operand:=.tmp 57
abbrev t58:Go.Operand:=.tmp 58
abbrev t59:Go.Operand:=.tmp 59
abbrev t60:Go.Operand:=.tmp 60
abbrev t61:Go.Operand:=.tmp 61
abbrev t62:Go.Operand:=.tmp 62
abbrev t63:Go.Operand:=.tmp 63
abbrev t64:Go.Operand:=.tmp 64
abbrev t65:Go.Operand:=.tmp 65
abbrev t66:Go.Operand:=.tmp 66
abbrev t67:Go.Operand:=.tmp 67
abbrev t68:Go.Operand:=.tmp 68
abbrev t69:Go.Operand:=.tmp 69
abbrev t70:Go.Operand:=.tmp 70
abbrev t71:Go.Operand:=.tmp 71
abbrev t72:Go.Operand:=.tmp 72
abbrev t73:Go.Operand:=.tmp 73
abbrev t74:Go.Operand:=.tmp 74
abbrev t75:Go.Operand:=.tmp 75
abbrev t76:Go.Operand:=.tmp 76
abbrev t77:Go.Operand:=.tmp 77
abbrev t78:Go.Operand:=.tmp 78
abbrev t79:Go.Operand:=.tmp 79
abbrev t80:Go.Operand:=.tmp 80
abbrev t81:Go.Operand:=.tmp 81
abbrev t82:Go.Operand:=.tmp 82
abbrev t83:Go.Operand:=.tmp 83
abbrev t84:Go.Operand:=.tmp 84
abbrev t85:Go.Operand:=.tmp 85
abbrev t86:Go.Operand:=.tmp 86
abbrev t87:Go.Operand:=.tmp 87
abbrev t88:Go.Operand:=.tmp 88
abbrev t89:Go.Operand:=.tmp 89
abbrev t90:Go.Operand:=.tmp 90
abbrev t91:Go.Operand:=.tmp 91
abbrev t92:Go.Operand:=.tmp 92
abbrev t93:Go.Operand:=.tmp 93
abbrev t94:Go.Operand:=.tmp 94
abbrev t95:Go.Operand:=.tmp 95
abbrev t96:Go.Operand:=.tmp 96
abbrev t97:Go.Operand:=.tmp 97
abbrev t98:Go.Operand:=.tmp 98
abbrev t99:Go.Operand:=.tmp 99
abbrev t100:Go.Operand:=.tmp 100
abbrev t101:Go.Operand:=.tmp 101
abbrev t102:Go.Operand:=.tmp 102
abbrev t103:Go.Operand:=.tmp 103
abbrev t104:Go.Operand:=.tmp 104
abbrev t105:Go.Operand:=.tmp 105
abbrev t106:Go.Operand:=.tmp 106
abbrev t107:Go.Operand:=.tmp 107
abbrev t108:Go.Operand:=.tmp 108
abbrev t109:Go.Operand:=.tmp 109
abbrev t110:Go.Operand:=.tmp 110
abbrev t111:Go.Operand:=.tmp 111
abbrev t112:Go.Operand:=.tmp 112
abbrev t113:Go.Operand:=.tmp 113
abbrev t114:Go.Operand:=.tmp 114
abbrev t115:Go.Operand:=.tmp 115
abbrev t116:Go.Operand:=.tmp 116
abbrev t117:Go.Operand:=.tmp 117
abbrev t118:Go.Operand:=.tmp 118
abbrev t119:Go.Operand:=.tmp 119
abbrev t120:Go.Operand:=.tmp 120
abbrev t121:Go.Operand:=.tmp 121
abbrev t122:Go.Operand:=.tmp 122
abbrev t123:Go.Operand:=.tmp 123
abbrev t124:Go.Operand:=.tmp 124
abbrev t125:Go.Operand:=.tmp 125
abbrev t126:Go.Operand:=.tmp 126
abbrev t127:Go.Operand:=.tmp 127
abbrev t128:Go.Operand:=.tmp 128
abbrev t129:Go.Operand:=.tmp 129
abbrev t130:Go.Operand:=.tmp 130
abbrev t131:Go.Operand:=.tmp 131
abbrev t132:Go.Operand:=.tmp 132
abbrev t133:Go.Operand:=.tmp 133
abbrev t134:Go.Operand:=.tmp 134
abbrev t135:Go.Operand:=.tmp 135
abbrev t136:Go.Operand:=.tmp 136
abbrev t137:Go.Operand:=.tmp 137
abbrev t138:Go.Operand:=.tmp 138
abbrev t139:Go.Operand:=.tmp 139
abbrev t140:Go.Operand:=.tmp 140
abbrev t141:Go.Operand:=.tmp 141
abbrev t142:Go.Operand:=.tmp 142
abbrev t143:Go.Operand:=.tmp 143
abbrev t144:Go.Operand:=.tmp 144
abbrev t145:Go.Operand:=.tmp 145
abbrev t146:Go.Operand:=.tmp 146
abbrev t147:Go.Operand:=.tmp 147
abbrev t148:Go.Operand:=.tmp 148
abbrev t149:Go.Operand:=.tmp 149
abbrev t150:Go.Operand:=.tmp 150
abbrev t151:Go.Operand:=.tmp 151
abbrev t152:Go.Operand:=.tmp 152
abbrev t153:Go.Operand:=.tmp 153
abbrev t154:Go.Operand:=.tmp 154
abbrev t155:Go.Operand:=.tmp 155
abbrev t156:Go.Operand:=.tmp 156
abbrev t157:Go.Operand:=.tmp 157
abbrev t158:Go.Operand:=.tmp 158
abbrev t159:Go.Operand:=.tmp 159
abbrev t160:Go.Operand:=.tmp 160
abbrev t161:Go.Operand:=.tmp 161
abbrev t162:Go.Operand:=.tmp 162
abbrev t163:Go.Operand:=.tmp 163
abbrev t164:Go.Operand:=.tmp 164
abbrev t165:Go.Operand:=.tmp 165
abbrev t166:Go.Operand:=.tmp 166
abbrev t167:Go.Operand:=.tmp 167
abbrev t168:Go.Operand:=.tmp 168
abbrev t169:Go.Operand:=.tmp 169
abbrev t170:Go.Operand:=.tmp 170
abbrev t171:Go.Operand:=.tmp 171
abbrev t172:Go.Operand:=.tmp 172
abbrev t173:Go.Operand:=.tmp 173
abbrev t174:Go.Operand:=.tmp 174
abbrev t175:Go.Operand:=.tmp 175
abbrev t176:Go.Operand:=.tmp 176
abbrev t177:Go.Operand:=.tmp 177
abbrev t178:Go.Operand:=.tmp 178
abbrev t179:Go.Operand:=.tmp 179
abbrev t180:Go.Operand:=.tmp 180
abbrev t181:Go.Operand:=.tmp 181
abbrev t182:Go.Operand:=.tmp 182
abbrev t183:Go.Operand:=.tmp 183
abbrev t184:Go.Operand:=.tmp 184
abbrev t185:Go.Operand:=.tmp 185
abbrev t186:Go.Operand:=.tmp 186
abbrev t187:Go.Operand:=.tmp 187
abbrev t188:Go.Operand:=.tmp 188
abbrev t189:Go.Operand:=.tmp 189
abbrev t190:Go.Operand:=.tmp 190
abbrev t191:Go.Operand:=.tmp 191
abbrev t192:Go.Operand:=.tmp 192
abbrev t193:Go.Operand:=.tmp 193
abbrev t194:Go.Operand:=.tmp 194
abbrev t195:Go.Operand:=.tmp 195
abbrev t196:Go.Operand:=.tmp 196
abbrev t197:Go.Operand:=.tmp 197
abbrev t198:Go.Operand:=.tmp 198
abbrev t199:Go.Operand:=.tmp 199
abbrev t200:Go.Operand:=.tmp 200
abbrev t201:Go.Operand:=.tmp 201
abbrev t202:Go.Operand:=.tmp 202
abbrev t203:Go.Operand:=.tmp 203
abbrev t204:Go.Operand:=.tmp 204
abbrev t205:Go.Operand:=.tmp 205
abbrev t206:Go.Operand:=.tmp 206
abbrev t207:Go.Operand:=.tmp 207
abbrev t208:Go.Operand:=.tmp 208
abbrev t209:Go.Operand:=.tmp 209
abbrev t210:Go.Operand:=.tmp 210
abbrev t211:Go.Operand:=.tmp 211
abbrev t212:Go.Operand:=.tmp 212
abbrev t213:Go.Operand:=.tmp 213
abbrev t214:Go.Operand:=.tmp 214
abbrev t215:Go.Operand:=.tmp 215
theorem w3:Tryz.f3.body.map (Qo C)=some (.q (.R [.n 5 (.box 25 t1),Wa 8 Wo]) (.q (.q (.R [Wm 9 t3,Wc 10 9 #[t9] #[26],.n 11 (.unOp .not 4 t10)]) (.c t11 (.q (.R [Wc 12 10 #[] #[],Wa 8 t12]) .r) .s)) (.q (.D true [Wm 13 t0,Wl 14 25 t5,Wm 15 t2,Wm 16 t3,Wc 17 12 #[t13,t14,t15,t16] #[3,25,3,26],Wm 18 t0,Wl 19 25 t5,Wm 20 t2,Wm 21 t3,Wc 22 14 #[t21] #[26],Wc 23 13 #[t18,t19,t20,t22] #[3,25,3,26],Wc 24 11 #[t17,t23] #[34,42],Wm 25 t24,.g (some 26) (.call ⟨.value (.func 10),#[],#[]⟩) 25 true,.n 27 (.pick t25 t26 Wo),Wa 8 t27]) .r))):=by kernel_rfl
theorem w19:Tryz.f19.body.map (Qo C)=some (.q (.R [.n 3 (.box 25 t1),Wa 4 (Wk 0)]) (.q (.q (.R [Wm 7 t0,Wb 8 .lss 3 t7 (Wk 1),Wm 9 t8,.g (some 10) (.move t0) 9 false,.g (some 11) (.binOp .gtr 3 t10 (Wk 3) 3) 9 false,.n 12 (.pick t9 Wt t11)]) (.c t12 (.q (.R [Wa 4 (Wk 8)]) .r) .s)) (.q (.q (.R [Wf 13 25 t3 0,Wl 14 22 t13,Wm 15 t0,Wc 16 21 #[t14,t15] #[22,3],.n 17 (.unOp .not 4 t16)]) (.c t17 (.q (.R [Wa 4 (Wk 9)]) .r) .s)) (.q (.R [Wf 19 25 t3 0,Wl 20 22 t19,Wc 21 42 #[t20] #[22],Wm 18 t21,We 22 t18 0,We 23 t18 1,Wa 5 t22,Wa 6 t23]) (.q (.q (.R [Wf 24 25 t3 1,Wl 25 23 t24,Wn 26 t25 23,Wm 27 t5,Wb 28 .lss 3 t26 t27,Wm 29 t28,.g (some 30) (.fieldAddr 25 t3 1) 29 false,.g (some 31) (.load 23 t30) 29 false,.g (some 32) (.call ⟨.builtin .len,#[t31],#[23]⟩) 29 false,.g (some 33) (.move t6) 29 false,.g (some 34) (.binOp .gtr 3 t32 t33 3) 29 false,.n 35 (.pick t29 Wt t34)]) (.c t35 (.q (.R [Wa 4 (Wk 10)]) .r) .s)) (.q (.q (.R [Wf 36 25 t3 2,Wl 37 23 t36,Wn 38 t37 23,Wb 39 .eql 3 t38 (Wk 0),Wm 40 t39,.g (some 41) (.move t0) 40 true,.g (some 42) (.fieldAddr 25 t3 0) 40 true,.g (some 43) (.load 22 t42) 40 true,.g (some 44) (.call ⟨.value (.func 43),#[t41,t43],#[3,22]⟩) 40 true,.n 45 (.pick t40 t44 Wo)]) (.c t45 (.q (.R [Wa 4 (Wk 0)]) .r) .s)) (.q (.q (.R [Wf 46 25 t3 0,Wl 47 22 t46,Wf 48 25 t3 2,Wl 49 23 t48,Wc 50 44 #[t47,t49] #[22,23],.n 51 (.unOp .not 4 t50)]) (.c t51 (.q (.R [Wa 4 (Wk 11)]) .r) .s)) (.q (.R [Wa 4 (Wk 0)]) .r)))))))):=by kernel_rfl
theorem w27:Tryz.f27.body.map (Qo C)=some (.q (.R [.n 2 (.box 40 t0),.n 3 (.box 40 t1),Wa 4 Wo]) (.q (.q (.R [Wf 6 40 t2 0,Wl 7 37 t6,Wf 8 40 t3 0,Wl 9 37 t8,Wc 10 17 #[t7,t9] #[23,23],.n 11 (.unOp .not 4 t10),Wm 12 t11,.g (some 13) (.fieldAddr 40 t2 1) 12 false,.g (some 14) (.load 38 t13) 12 false,.g (some 15) (.call ⟨.builtin .len,#[t14],#[38]⟩) 12 false,.g (some 16) (.fieldAddr 40 t3 1) 12 false,.g (some 17) (.load 38 t16) 12 false,.g (some 18) (.call ⟨.builtin .len,#[t17],#[38]⟩) 12 false,.g (some 19) (.binOp .neq 3 t15 t18 3) 12 false,.n 20 (.pick t12 Wt t19)]) (.c t20 (.q (.R [Wa 4 Wo]) .r) .s)) (.q (.q (.R [Wa 5 (Wk 0)]) (.b 0 (.l (.q (.q (.R [Wm 21 t5,Wf 22 40 t2 1,Wl 23 38 t22,Wn 24 t23 38,Wb 25 .lss 3 t21 t24]) (.c t25 .s (.x 0))) (.q (.b 1 (.q (.D true [Wf 28 40 t2 1,Wl 29 38 t28,Wm 30 t5,Wi 31 38 t29 t30,Wl 32 67 t31,Wf 33 40 t3 1,Wl 34 38 t33,Wm 35 t5,Wi 36 38 t34 t35,Wl 37 67 t36,Wc 38 51 #[t32,t37] #[67,67],.n 39 (.unOp .not 4 t38)]) (.c t39 (.q (.R [Wa 4 Wo]) .r) .s))) (.R [Wm 26 t5,Wb 27 .add 3 t26 (Wk 1),Wa 5 t27])))))) (.q (.R [Wa 4 Wt]) .r)))):=by kernel_rfl
theorem w35:Tryz.f35.body.map (Qo C)=some (.q (.R [.n 3 (.box 40 t1),Wa 4 Wo]) (.q (.R [Wm 5 t0,Wb 6 .leq 84 t5 (Wk 0),Wm 7 t6,.g (some 8) (.load 40 t3) 7 false,.g (some 9) (.call ⟨.value (.func 93),#[t8],#[40]⟩) 7 false,.g (some 10) (.move t0) 7 false,.g (some 11) (.binOp .leq 3 t9 t10 3) 7 false,.n 12 (.pick t7 Wt t11),Wa 4 t12]) .r)):=by kernel_rfl
theorem w43:Tryz.f43.body.map (Qo C)=some (.q (.R [Wa 4 Wo]) (.q (.q (.R [Wm 5 t1]) (.b 0 (.q (.q (.R [Wb 7 .eql 22 t5 (Wk 6),Wa 6 t7]) (.c t6 .s (.q (.R [Wb 8 .eql 22 t5 (Wk 11),Wa 6 t8]) (.c t6 .s (.R [Wb 9 .eql 22 t5 (Wk 17),Wa 6 t9]))))) (.c t6 (.q (.R [Wm 10 t0,Wb 11 .eql 3 t10 (Wk 1),Wa 4 t11]) .r) (.q (.q (.R [Wb 13 .eql 22 t5 (Wk 14),Wa 12 t13]) (.c t12 .s (.R [Wb 14 .eql 22 t5 (Wk 20),Wa 12 t14]))) (.c t12 (.q (.R [Wm 15 t0,Wb 16 .lss 3 t15 (Wk 3),Wa 4 t16]) .r) .s)))))) (.q (.R [Wa 4 Wo]) .r))):=by kernel_rfl
theorem w51:Tryz.f51.body.map (Qo C)=some (.q (.R [.n 2 (.box 67 t0),.n 3 (.box 67 t1),Wa 4 Wo]) (.q (.D true [Wl 7 67 t2,Wc 8 49 #[t7] #[67],Wl 9 67 t3,Wc 10 49 #[t9] #[67],Wv 5 104,Wv 6 104,Ws 104 t5 t8,Ws 104 t6 t10]) (.q (.R [Wf 11 104 t5 0,Wl 12 4 t11,Wf 13 104 t6 0,Wl 14 4 t13,Wb 15 .eql 4 t12 t14,Wm 16 t15,.g (some 17) (.fieldAddr 104 t5 1) 16 true,.g (some 18) (.load 102 t17) 16 true,.g (some 19) (.fieldAddr 104 t6 1) 16 true,.g (some 20) (.load 102 t19) 16 true,.g (some 21) (.call ⟨.value (.func 113),#[t18,t20],#[102,102]⟩) 16 true,.g (some 22) (.binOp .eql 3 t21 (Wk 0) 3) 16 true,.n 23 (.pick t16 t22 Wo),Wm 24 t23,.g (some 25) (.fieldAddr 104 t5 2) 24 true,.g (some 26) (.load 102 t25) 24 true,.g (some 27) (.fieldAddr 104 t6 2) 24 true,.g (some 28) (.load 102 t27) 24 true,.g (some 29) (.call ⟨.value (.func 113),#[t26,t28],#[102,102]⟩) 24 true,.g (some 30) (.binOp .eql 3 t29 (Wk 0) 3) 24 true,.n 31 (.pick t24 t30 Wo),Wa 4 t31]) .r))):=by kernel_rfl
theorem w59:Tryz.f59.body.map (Qo C)=some (.q (.R [Wa 2 (Wk 0)]) (.q (.q (.R [Wm 5 t0,Wn 6 t5 37,Wb 7 .gtr 3 t6 (Wk 4)]) (.c t7 (.q (.R [Wa 2 (Wk 14)]) .r) .s)) (.q (.q (.R [Wm 8 t0,Wn 9 t8 37,Wm 10 (Wk 0)]) (.b 0 (.l (.q (.R [Wb 11 .lss 3 t10 t9]) (.q (.c t11 .s (.x 0)) (.q (.b 1 (.q (.R [Wi 12 37 t8 t10,Wl 13 3 t12,Wa 4 t13]) (.q (.R [Wm 14 t4,Wb 15 .lss 3 t14 (Wk 1)]) (.c t15 (.q (.R [Wa 2 (Wk 13)]) .r) .s)))) (.R [Wb 16 .add 3 t10 (Wk 1),Wm 10 t16]))))))) (.q (.q (.R [Wm 17 t0,Wc 18 138 #[t17] #[23],Wb 19 .gtr 3 t18 (Wk 1024)]) (.c t19 (.q (.R [Wa 2 (Wk 14)]) .r) .s)) (.q (.R [Wa 2 (Wk 0)]) .r))))):=by kernel_rfl
theorem w91:Tryz.f91.body.map (Qo C)=some (.q (.R [.n 1 (.box 132 t0),Wa 2 (.const .nilFunc)]) (.q (.R [.n 3 (.makeFunc (.func 192) #[] #[t1]),Wa 2 t3]) .r)):=by kernel_rfl
theorem w107:Tryz.f107.body.map (Qo C)=some (.q (.R [Wa 2 (.const (.slice none 0 0))]) (.q (.R [Wa 3 (.const (.slice none 0 0))]) (.q (.q (.R [Wm 5 t0,Wn 6 t5 65,Wb 7 .sub 3 t6 (Wk 1),Wa 4 t7]) (.b 0 (.l (.q (.q (.R [Wm 8 t4,Wb 9 .geq 3 t8 (Wk 0)]) (.c t9 .s (.x 0))) (.q (.b 1 (.D true [Wm 12 t3,Wc 13 205 #[t12,Wk 65536] #[102,3],Wc 14 205 #[t13,Wk 65536] #[102,3],Wm 15 t0,Wm 16 t4,Wi 17 65 t15 t16,Wl 18 106 t17,.n 19 (.convert 106 3 t18),Wc 20 206 #[t19] #[3],Wc 21 204 #[t14,t20] #[102,102],Wa 3 t21])) (.R [Wm 10 t4,Wb 11 .sub 3 t10 (Wk 1),Wa 4 t11])))))) (.q (.R [Wm 22 t3,Wa 2 t22]) .r)))):=by kernel_rfl
theorem w115:Tryz.f115.body.map (Qo C)=some (.q (.R [.n 1 (.box 104 t0),Wv 2 67]) (.q (.D true [Wf 3 104 t1 0,Wl 4 4 t3,Wf 5 104 t1 1,Wl 6 102 t5,Wc 7 207 #[t6] #[102],Wf 8 104 t1 2,Wl 9 102 t8,Wc 10 207 #[t9] #[102],.n 11 (.build 67 #[(0,t4),(1,t7),(2,t10)]),Ws 67 t2 t11]) .r)):=by kernel_rfl
theorem w139:Tryz.f139.body.map (Qo C)=some (.q (.R [Wa 2 (.const (.slice none 0 0))]) (.q (.q (.R [Wm 3 t0,Wb 4 .eql 37 t3 (.const (.slice none 0 0))]) (.c t4 (.q (.R [Wa 2 (.const (.slice none 0 0))]) .r) .s)) (.q (.R [.n 5 (.buildSlice 37 0 #[]),Wm 6 t0,.n 7 (.call ⟨.builtin .append,#[t5,t6],#[37,37]⟩),Wa 2 t7]) .r))):=by kernel_rfl
theorem w147:Tryz.f147.body.map (Qo C)=some (.q (.R [Wa 4 (.const (.slice none 0 0))]) (.q (.R [Wm 5 t0,Wm 6 t1,Wc 7 225 #[t5,t6,.func 226] #[37,23,163],Wa 4 t7]) .r)):=by kernel_rfl
theorem w195:Tryz.f195.body.map (Qo C)=some (.q (.R [.n 1 (.box 67 t0),Wa 2 (Wk 0)]) (.q (.R [Wl 3 67 t1,Wc 4 168 #[t3] #[67],Ws 67 t1 t4]) (.q (.D true [Wf 5 67 t1 1,Wl 6 65 t5,Wc 7 248 #[t6] #[65],Wf 8 67 t1 2,Wl 9 65 t8,Wc 10 248 #[t9] #[65],.n 11 (.call ⟨.builtin .max,#[t7,t10],#[3,3]⟩),Wa 2 t11]) .r))):=by kernel_rfl
theorem w203:Tryz.f203.body.map (Qo C)=some (.q (.R [Wa 4 (.const (.slice none 0 0)),Wa 5 (.const (.slice none 0 0))]) (.q (.R [Wm 12 t0,Wn 13 t12 102,.n 14 (.makeSlice 102 t13 t13),Wa 6 t14]) (.q (.R [Wa 7 (.const (.slice none 0 0))]) (.q (.q (.R [Wm 15 t0,Wn 16 t15 102,Wb 17 .sub 3 t16 (Wk 1),Wa 8 t17]) (.b 0 (.l (.q (.q (.R [Wm 18 t8,Wb 19 .geq 3 t18 (Wk 0)]) (.c t19 .s (.x 0))) (.q (.b 1 (.q (.R [Wm 22 t0,Wm 23 t8,Wi 24 102 t22 t23,Wl 25 3 t24,.n 26 (.buildSlice 102 1 #[(0,t25)]),Wm 27 t7,.n 28 (.call ⟨.builtin .append,#[t26,t27],#[102,102]⟩),Wc 29 259 #[t28] #[102],Wa 7 t29]) (.q (.R [Wm 30 t7,Wm 31 t1,Wc 32 260 #[t30,t31] #[102,102],Wa 9 t32]) (.q (.R [Wm 33 t6,Wm 34 t8,Wm 35 t9,Wi 36 102 t33 t34,Ws 3 t36 t35]) (.q (.R [Wm 38 t7,Wm 39 t1,Wm 40 t9,Wc 41 205 #[t39,t40] #[102,3],Wc 42 261 #[t38,t41] #[102,102],Wm 37 t42,We 43 t37 0,We 44 t37 1,Wa 10 t43,Wa 11 t44]) (.R [Wm 45 t10,Wa 7 t45])))))) (.R [Wm 20 t8,Wb 21 .sub 3 t20 (Wk 1),Wa 8 t21])))))) (.q (.R [Wm 46 t6,Wc 47 259 #[t46] #[102],Wm 48 t7,Wa 4 t47,Wa 5 t48]) .r))))):=by kernel_rfl
theorem w227:Tryz.f227.body.map (Qo C)=some (.q (.R [.n 1 (.box 23 t0),Wa 2 (.const .nilFunc)]) (.q (.R [.n 3 (.makeFunc (.func 267) #[] #[t1]),Wa 2 t3]) .r)):=by kernel_rfl
theorem w251:Tryz.f251.body.map (Qo C)=some (.q (.R [Wa 2 Wo]) (.q (.q (.R [Wm 5 t0,Wn 6 t5 23,Wb 7 .neq 3 t6 (Wk 2),Wm 8 t7,.g (some 9) (.move t0) 8 false,.g (some 10) (.indexAddr 23 t9 (Wk 1)) 8 false,.g (some 11) (.load 3 t10) 8 false,.g (some 12) (.binOp .lss 3 t11 (Wk 1) 3) 8 false,.n 13 (.pick t8 Wt t12)]) (.c t13 (.q (.R [Wa 2 Wo]) .r) .s)) (.q (.D true [Wm 14 t0,Wi 15 23 t14 (Wk 0),Wl 16 3 t15,Wm 17 t0,Wi 18 23 t17 (Wk 0),Wl 19 3 t18,.n 20 (.unOp .neg 3 t19),.n 21 (.call ⟨.builtin .max,#[t16,t20],#[3,3]⟩),Wm 22 t0,Wi 23 23 t22 (Wk 1),Wl 24 3 t23,Wa 3 t21,Wa 4 t24]) (.q (.b 0 (.l (.q (.q (.R [Wm 25 t4,Wb 26 .gtr 3 t25 (Wk 0)]) (.c t26 .s (.x 0))) (.b 1 (.D true [Wm 27 t4,Wm 28 t3,Wm 29 t4,Wb 30 .rem 3 t28 t29,Wa 3 t27,Wa 4 t30]))))) (.q (.R [Wm 31 t3,Wb 32 .eql 3 t31 (Wk 1),Wa 2 t32]) .r))))):=by kernel_rfl
theorem w259:Tryz.f259.body.map (Qo C)=some (.q (.R [Wa 2 (.const (.slice none 0 0))]) (.q (.R [Wm 4 t0,Wn 5 t4 102,Wa 3 t5]) (.q (.b 0 (.l (.q (.q (.R [Wm 6 t3,Wb 7 .gtr 3 t6 (Wk 0),Wm 8 t7,.g (some 9) (.move t0) 8 true,.g (some 10) (.move t3) 8 true,.g (some 11) (.binOp .sub 3 t10 (Wk 1) 3) 8 true,.g (some 12) (.indexAddr 102 t9 t11) 8 true,.g (some 13) (.load 3 t12) 8 true,.g (some 14) (.binOp .eql 3 t13 (Wk 0) 3) 8 true,.n 15 (.pick t8 t14 Wo)]) (.c t15 .s (.x 0))) (.b 1 (.R [Wm 16 t3,Wb 17 .sub 3 t16 (Wk 1),Wa 3 t17]))))) (.q (.R [Wm 18 t0,Wm 19 t3,.n 20 (.slice 102 t18 none (some t19) none),Wa 2 t20]) .r)))):=by kernel_rfl
theorem w267:Tryz.f267.body.map (Qo C)=some (.q (.R [Wa 3 (Wk 0)]) (.b 0 (.l (.q (.q (.R [Wm 4 t3,Wb 5 .add 3 t4 (Wk 1),Wl 6 23 t1,Wn 7 t6 23,Wb 8 .lss 3 t5 t7]) (.c t8 .s (.x 0))) (.q (.b 1 (.q (.U [Wm 11 t0,Wl 12 23 t1,Wm 13 t3,Wi 14 23 t12 t13,Wl 15 3 t14,Wl 16 23 t1,Wm 17 t3,Wb 18 .add 3 t17 (Wk 1),Wi 19 23 t16 t18,Wl 20 3 t19,.n 21 (.call ⟨.value t11,#[t15,t20],#[3,3]⟩),.n 22 (.unOp .not 4 t21)]) (.c t22 .r .s))) (.R [Wm 9 t3,Wb 10 .add 3 t9 (Wk 2),Wa 3 t10])))))):=by kernel_rfl
theorem w275:Tryz.f275.body.map (Qo C)=some (.q (.R [Wa 2 (.const (.slice none 0 0))]) (.q (.R [Wm 3 t0,Wm 4 t0,Wc 5 284 #[t4] #[65],.n 6 (.slice 65 t3 none (some t5) none),Wc 7 112 #[t6] #[65],Wa 2 t7]) .r)):=by kernel_rfl
theorem w291:Tryz.f291.body.map (Qo C)=some (.q (.R [Wa 4 (.const (.int .u64 0))]) (.q (.D true [Wl 5 65 t1,Wm 6 t0,Wc 7 292 #[t5,t6] #[65,3],Wl 8 65 t2,Wm 9 t0,Wc 10 292 #[t8,t9] #[65,3],Wb 11 .add 271 t7 t10,Wa 4 t11]) .r)):=by kernel_rfl
theorem w299:Tryz.f299.body.map (Qo C)=some (.q (.R [Wa 2 (Wk 0)]) (.q (.c Wo (.q (.R [Wm 3 t0,.n 4 (.convert 58 106 t3),Wc 5 285 #[t4] #[106],Wa 2 t5]) .r) .s) (.q (.R [Wm 6 t0,Wc 7 321 #[t6] #[271],Wa 2 t7]) .r))):=by kernel_rfl
theorem w307:Tryz.f307.body.map (Qo C)=some (.q (.R [.n 2 (.box 65 t0),.n 3 (.box 3 t1),Wa 4 (.const (.slice none 0 0))]) (.q (.R [Wl 5 3 t3,.n 6 (.call ⟨.builtin .max,#[t5,Wk 0],#[3,3]⟩),Ws 3 t3 t6]) (.q (.q (.R [Wl 7 65 t2,Wc 8 284 #[t7] #[65],Wb 9 .eql 3 t8 (Wk 0)]) (.c t9 (.q (.R [Wa 4 (.const (.slice none 0 0))]) .r) .s)) (.q (.R [Wl 10 65 t2,Wn 11 t10 65,Wl 12 3 t3,Wb 13 .quo 3 t12 (Wk 32),Wb 14 .add 3 t11 t13,Wb 15 .add 3 t14 (Wk 1),.n 16 (.makeFunc (.func 323) #[] #[t3,t2]),Wc 17 290 #[t15,t16] #[3,278],Wa 4 t17]) .r)))):=by kernel_rfl
theorem w322:Tryz.f322.body.map (Qo C)=some (.q (.R [Wl 4 3 t1,Wb 5 .sub 3 t4 (Wk 1),Wa 3 t5]) (.b 0 (.l (.q (.q (.R [Wm 6 t3,Wb 7 .geq 3 t6 (Wk 0)]) (.c t7 .s (.x 0))) (.q (.b 1 (.q (.R [Wm 10 t0,Wm 11 t3,.n 12 (.call ⟨.value t10,#[t11],#[3]⟩),.n 13 (.unOp .not 4 t12)]) (.c t13 .r .s))) (.R [Wm 8 t3,Wb 9 .sub 3 t8 (Wk 1),Wa 3 t9])))))):=by kernel_rfl
theorem w20:Tryz.f20.body.map (Qo C)=some (.q (.R [.n 4 (.box 25 t1),Wa 6 (.const (.slice none 0 0))]) (.q (.R [Wf 12 25 t4 2,Wl 13 23 t12,Wc 14 45 #[t13] #[23],Wa 7 t14]) (.q (.R [Wf 16 25 t4 0,Wl 17 22 t16,Wc 18 46 #[t17] #[22],Wm 15 t18,We 19 t15 0,We 20 t15 1,Wv 8 97,Ws 97 t8 t19,Wa 9 t20]) (.q (.q (.R [Wm 21 t0,Wl 22 25 t4,Wc 23 32 #[t21,t22] #[3,25],Wb 24 .neq 73 t23 (Wk 0),Wm 25 t24,.g (some 26) (.move t7) 25 false,.g (some 27) (.call ⟨.builtin .len,#[t26],#[23]⟩) 25 false,.g (some 28) (.binOp .gtr 3 t27 (Wk 0) 3) 25 false,.n 29 (.pick t25 Wt t28),Wm 30 t29,.g (some 31) (.move t0) 30 false,.g (some 32) (.fieldAddr 97 t8 7) 30 false,.g (some 33) (.load 3 t32) 30 false,.g (some 34) (.binOp .gtr 3 t31 t33 3) 30 false,.n 35 (.pick t30 Wt t34)]) (.c t35 (.q (.R [Wm 36 t7,Wa 6 t36]) .r) .s)) (.q (.R [Wa 10 (Wk 0)]) (.q (.q (.R [Wm 37 t2,Wn 38 t37 23,Wb 39 .gtr 3 t38 (Wk 0),Wm 40 t39,.g (some 41) (.move t2) 40 true,.g (some 42) (.indexAddr 23 t41 (Wk 0)) 40 true,.g (some 43) (.load 3 t42) 40 true,.g (some 44) (.binOp .geq 3 t43 (Wk 0) 3) 40 true,.n 45 (.pick t40 t44 Wo),Wm 46 t45,.g (some 47) (.move t2) 46 true,.g (some 48) (.indexAddr 23 t47 (Wk 0)) 46 true,.g (some 49) (.load 3 t48) 46 true,.g (some 50) (.binOp .leq 3 t49 (Wk 4) 3) 46 true,.n 51 (.pick t46 t50 Wo)]) (.c t51 (.R [Wm 52 t2,Wi 53 23 t52 (Wk 0),Wl 54 3 t53,Wa 10 t54]) .s)) (.q (.q (.R [Wf 55 25 t4 0,Wl 56 22 t55]) (.b 0 (.q (.R [Wb 67 .eql 22 t56 (Wk 6),Wa 66 t67]) (.c t66 (.R [Wm 68 t7,.n 69 (.buildSlice 23 1 #[(0,Wk 2)]),.n 70 (.call ⟨.builtin .append,#[t68,t69],#[23,23]⟩),Wa 7 t70]) (.q (.R [Wb 72 .eql 22 t56 (Wk 17),Wa 71 t72]) (.c t71 (.R [Wm 73 t7,.n 74 (.buildSlice 23 1 #[(0,Wk 0)]),.n 75 (.call ⟨.builtin .append,#[t73,t74],#[23,23]⟩),Wa 7 t75]) (.q (.R [Wm 57 t10,Wm 58 (Wk 0)]) (.b 1 (.l (.q (.R [Wb 59 .lss 3 t58 t57]) (.q (.c t59 .s (.x 1)) (.q (.b 2 (.q (.R [Wm 60 t58,Wa 11 t60]) (.R [Wm 61 t7,Wm 62 t11,.n 63 (.buildSlice 23 1 #[(0,t62)]),.n 64 (.call ⟨.builtin .append,#[t61,t63],#[23,23]⟩),Wa 7 t64]))) (.R [Wb 65 .add 3 t58 (Wk 1),Wm 58 t65]))))))))))))) (.q (.q (.R [Wf 76 25 t4 0,Wl 77 22 t76,Wb 78 .eql 22 t77 (Wk 11)]) (.c t78 (.R [Wm 79 t7,Wc 80 47 #[t79] #[23]]) .s)) (.q (.R [Wm 81 t7,Wa 6 t81]) .r))))))))):=by kernel_rfl
theorem w28:Tryz.f28.body.map (Qo C)=some (.q (.R [Wv 2 42]) (.q (.R [Wm 5 t0,Wn 6 t5 23,.n 7 (.buildSlice 23 1 #[(0,t6)]),.n 8 (.build 32 #[(0,t7)]),Wv 3 32,Ws 32 t3 t8]) (.q (.q (.R [Wa 4 (Wk 0)]) (.b 0 (.l (.q (.q (.R [Wm 9 t4,Wm 10 t0,Wn 11 t10 23,Wb 12 .lss 3 t9 t11]) (.c t12 .s (.x 0))) (.q (.b 1 (.D true [Wf 15 32 t3 1,Wl 16 30 t15,Wm 17 t0,Wm 18 t4,Wi 19 23 t17 t18,Wl 20 3 t19,Wc 21 52 #[t20] #[3],.n 22 (.buildSlice 30 1 #[(0,t21)]),.n 23 (.call ⟨.builtin .append,#[t16,t22],#[30,30]⟩),Wf 24 32 t3 1,Ws 30 t24 t23])) (.R [Wm 13 t4,Wb 14 .add 3 t13 (Wk 1),Wa 4 t14])))))) (.q (.R [Wl 25 32 t3,Wc 26 53 #[t25] #[32],.n 27 (.build 42 #[(0,Wk 1),(1,t26)]),Ws 42 t2 t27]) .r)))):=by kernel_rfl
theorem w36:Tryz.f36.body.map (Qo C)=some (.q (.R [.n 1 (.box 40 t0),Wv 2 40]) (.q (.R [Wf 5 40 t1 0,Wl 6 37 t5,.n 7 (.call ⟨.builtin .append,#[.const (.slice none 0 0),t6],#[37,37]⟩),.n 8 (.build 40 #[(0,t7)]),Wv 3 40,Ws 40 t3 t8]) (.q (.q (.R [Wa 4 (Wk 0)]) (.b 0 (.l (.q (.q (.R [Wm 9 t4,Wf 10 40 t1 1,Wl 11 38 t10,Wn 12 t11 38,Wb 13 .lss 3 t9 t12]) (.c t13 .s (.x 0))) (.q (.b 1 (.D true [Wf 16 40 t3 1,Wl 17 38 t16,Wf 18 40 t1 1,Wl 19 38 t18,Wm 20 t4,Wi 21 38 t19 t20,Wl 22 67 t21,Wc 23 94 #[t22] #[67],.n 24 (.buildSlice 38 1 #[(0,t23)]),.n 25 (.call ⟨.builtin .append,#[t17,t24],#[38,38]⟩),Wf 26 40 t3 1,Ws 38 t26 t25])) (.R [Wm 14 t4,Wb 15 .add 3 t14 (Wk 1),Wa 4 t15])))))) (.q (.R [Wl 27 40 t3,Ws 40 t2 t27]) .r)))):=by kernel_rfl
theorem w44:Tryz.f44.body.map (Qo C)=some (.q (.R [Wa 4 Wo]) (.q (.q (.R [Wa 5 (Wk 0)]) (.b 0 (.l (.q (.q (.R [Wm 10 t5,Wm 11 t1,Wn 12 t11 23,Wb 13 .lss 3 t10 t12]) (.c t13 .s (.x 0))) (.q (.b 1 (.q (.R [Wm 16 t1,Wm 17 t5,Wi 18 23 t16 t17,Wl 19 3 t18,Wb 20 .gtr 3 t19 (Wk 2147483647),Wm 21 t20,.g (some 22) (.move t1) 21 false,.g (some 23) (.move t5) 21 false,.g (some 24) (.indexAddr 23 t22 t23) 21 false,.g (some 25) (.load 3 t24) 21 false,.g (some 26) (.binOp .lss 3 t25 (.const (.int .i64 (-2147483647))) 3) 21 false,.n 27 (.pick t21 Wt t26)]) (.c t27 (.q (.R [Wa 4 Wo]) .r) .s))) (.R [Wm 14 t5,Wb 15 .add 3 t14 (Wk 1),Wa 5 t15])))))) (.q (.q (.R [Wm 28 t0]) (.b 2 (.q (.R [Wb 30 .eql 22 t28 (Wk 6),Wa 29 t30]) (.c t29 (.q (.R [Wm 31 t1,Wn 32 t31 23,Wb 33 .eql 3 t32 (Wk 1),Wm 34 t33,.g (some 35) (.move t1) 34 true,.g (some 36) (.indexAddr 23 t35 (Wk 0)) 34 true,.g (some 37) (.load 3 t36) 34 true,.g (some 38) (.binOp .geq 3 t37 (Wk 0) 3) 34 true,.n 39 (.pick t34 t38 Wo),Wm 40 t39,.g (some 41) (.move t1) 40 true,.g (some 42) (.indexAddr 23 t41 (Wk 0)) 40 true,.g (some 43) (.load 3 t42) 40 true,.g (some 44) (.binOp .leq 3 t43 (Wk 16) 3) 40 true,.n 45 (.pick t40 t44 Wo),Wa 4 t45]) .r) (.q (.R [Wb 47 .eql 22 t28 (Wk 9),Wa 46 t47]) (.c t46 (.q (.D true [Wm 48 t1,Wn 49 t48 23,Wb 50 .eql 3 t49 (Wk 2),Wm 51 t50,.g (some 52) (.move t1) 51 true,.g (some 53) (.indexAddr 23 t52 (Wk 1)) 51 true,.g (some 54) (.load 3 t53) 51 true,.g (some 55) (.binOp .geq 3 t54 (Wk 1) 3) 51 true,.n 56 (.pick t51 t55 Wo),Wm 57 t56,.g (some 58) (.move t1) 57 true,.g (some 59) (.indexAddr 23 t58 (Wk 0)) 57 true,.g (some 60) (.load 3 t59) 57 true,.g (some 61) (.move t1) 57 true,.g (some 62) (.indexAddr 23 t61 (Wk 1)) 57 true,.g (some 63) (.load 3 t62) 57 true,.g (some 64) (.call ⟨.value (.func 102),#[t60,t63],#[3,3]⟩) 57 true,.g (some 65) (.unOp .not 4 t64) 57 true,.n 66 (.pick t57 t65 Wo),Wa 4 t66]) .r) (.q (.R [Wb 68 .eql 22 t28 (Wk 11),Wa 67 t68]) (.c t67 (.q (.q (.R [Wa 6 (Wk 0)]) (.b 3 (.l (.q (.q (.R [Wm 69 t6,Wm 70 t1,Wn 71 t70 23,Wb 72 .lss 3 t69 t71]) (.c t72 .s (.x 3))) (.q (.b 4 (.q (.q (.R [Wm 75 t1,Wm 76 t6,Wi 77 23 t75 t76,Wl 78 3 t77,Wb 79 .lss 3 t78 (Wk 0),Wm 80 t79,.g (some 81) (.move t1) 80 false,.g (some 82) (.move t6) 80 false,.g (some 83) (.indexAddr 23 t81 t82) 80 false,.g (some 84) (.load 3 t83) 80 false,.g (some 85) (.move t1) 80 false,.g (some 86) (.call ⟨.builtin .len,#[t85],#[23]⟩) 80 false,.g (some 87) (.binOp .geq 3 t84 t86 3) 80 false,.n 88 (.pick t80 Wt t87)]) (.c t88 (.q (.R [Wa 4 Wo]) .r) .s)) (.q (.R [Wa 7 (Wk 0)]) (.b 5 (.l (.q (.q (.R [Wm 89 t7,Wm 90 t6,Wb 91 .lss 3 t89 t90]) (.c t91 .s (.x 5))) (.q (.b 6 (.q (.D true [Wm 94 t1,Wm 95 t7,Wi 96 23 t94 t95,Wl 97 3 t96,Wm 98 t1,Wm 99 t6,Wi 100 23 t98 t99,Wl 101 3 t100,Wb 102 .eql 3 t97 t101]) (.c t102 (.q (.R [Wa 4 Wo]) .r) .s))) (.R [Wm 92 t7,Wb 93 .add 3 t92 (Wk 1),Wa 7 t93])))))))) (.R [Wm 73 t6,Wb 74 .add 3 t73 (Wk 1),Wa 6 t74])))))) (.q (.R [Wm 103 t1,Wn 104 t103 23,Wb 105 .leq 3 t104 (Wk 4),Wa 4 t105]) .r)) (.q (.q (.R [Wb 107 .eql 22 t28 (Wk 12),Wa 106 t107]) (.c t106 .s (.R [Wb 108 .eql 22 t28 (Wk 13),Wa 106 t108]))) (.c t106 (.q (.R [Wm 109 t1,Wc 110 37 #[t109] #[23],Wb 111 .eql 3 t110 (Wk 0),Wa 4 t111]) .r) (.q (.q (.R [Wb 113 .eql 22 t28 (Wk 14),Wa 112 t113]) (.c t112 .s (.R [Wb 114 .eql 22 t28 (Wk 20),Wa 112 t114]))) (.c t112 (.q (.q (.R [Wa 8 (Wk 0)]) (.b 7 (.l (.q (.q (.R [Wm 115 t8,Wm 116 t1,Wn 117 t116 23,Wb 118 .lss 3 t115 t117]) (.c t118 .s (.x 7))) (.q (.b 8 (.q (.D true [Wm 121 t1,Wm 122 t8,Wi 123 23 t121 t122,Wl 124 3 t123,Wb 125 .lss 3 t124 (Wk 0),Wm 126 t125,.g (some 127) (.move t1) 126 false,.g (some 128) (.move t8) 126 false,.g (some 129) (.indexAddr 23 t127 t128) 126 false,.g (some 130) (.load 3 t129) 126 false,.g (some 131) (.binOp .gtr 3 t130 (Wk 3) 3) 126 false,.n 132 (.pick t126 Wt t131),Wm 133 t132,.g (some 134) (.move t8) 133 false,.g (some 135) (.binOp .gtr 3 t134 (Wk 0) 3) 133 false,.g (some 136) (.move t135) 133 false,.g (some 137) (.move t1) 136 true,.g (some 138) (.move t8) 136 true,.g (some 139) (.indexAddr 23 t137 t138) 136 true,.g (some 140) (.load 3 t139) 136 true,.g (some 141) (.move t1) 136 true,.g (some 142) (.move t8) 136 true,.g (some 143) (.binOp .sub 3 t142 (Wk 1) 3) 136 true,.g (some 144) (.indexAddr 23 t141 t143) 136 true,.g (some 145) (.load 3 t144) 136 true,.g (some 146) (.binOp .leq 3 t140 t145 3) 136 true,.g (some 147) (.pick t136 t146 Wo) 133 false,.n 148 (.pick t133 Wt t147)]) (.c t148 (.q (.R [Wa 4 Wo]) .r) .s))) (.R [Wm 119 t8,Wb 120 .add 3 t119 (Wk 1),Wa 8 t120])))))) (.q (.R [Wa 4 Wt]) .r)) (.q (.q (.R [Wb 150 .eql 22 t28 (Wk 15),Wa 149 t150]) (.c t149 .s (.R [Wb 151 .eql 22 t28 (Wk 16),Wa 149 t151]))) (.c t149 (.q (.q (.R [Wm 152 t1,Wn 153 t152 23,Wb 154 .rem 3 t153 (Wk 2),Wb 155 .eql 3 t154 (Wk 1),Wm 156 t155,.g (some 157) (.move t1) 156 false,.g (some 158) (.call ⟨.builtin .len,#[t157],#[23]⟩) 156 false,.g (some 159) (.binOp .gtr 3 t158 (Wk 8) 3) 156 false,.n 160 (.pick t156 Wt t159)]) (.c t160 (.q (.R [Wa 4 Wo]) .r) .s)) (.q (.q (.R [Wa 9 (Wk 0)]) (.b 9 (.l (.q (.q (.R [Wm 161 t9,Wm 162 t1,Wn 163 t162 23,Wb 164 .lss 3 t161 t163]) (.c t164 .s (.x 9))) (.q (.b 10 (.q (.D true [Wm 167 t1,Wm 168 t9,Wi 169 23 t167 t168,Wl 170 3 t169,Wb 171 .lss 3 t170 (Wk 0),Wm 172 t171,.g (some 173) (.move t1) 172 false,.g (some 174) (.move t9) 172 false,.g (some 175) (.binOp .add 3 t174 (Wk 1) 3) 172 false,.g (some 176) (.indexAddr 23 t173 t175) 172 false,.g (some 177) (.load 3 t176) 172 false,.g (some 178) (.binOp .lss 3 t177 (Wk 0) 3) 172 false,.n 179 (.pick t172 Wt t178),Wm 180 t179,.g (some 181) (.move t0) 180 false,.g (some 182) (.binOp .eql 22 t181 (Wk 15) 22) 180 false,.g (some 183) (.move t182) 180 false,.g (some 184) (.move t1) 183 true,.g (some 185) (.move t9) 183 true,.g (some 186) (.binOp .add 3 t185 (Wk 1) 3) 183 true,.g (some 187) (.indexAddr 23 t184 t186) 183 true,.g (some 188) (.load 3 t187) 183 true,.g (some 189) (.move t1) 183 true,.g (some 190) (.move t9) 183 true,.g (some 191) (.indexAddr 23 t189 t190) 183 true,.g (some 192) (.load 3 t191) 183 true,.g (some 193) (.binOp .leq 3 t188 t192 3) 183 true,.g (some 194) (.pick t183 t193 Wo) 180 false,.n 195 (.pick t180 Wt t194)]) (.c t195 (.q (.R [Wa 4 Wo]) .r) .s))) (.R [Wm 165 t9,Wb 166 .add 3 t165 (Wk 2),Wa 9 t166])))))) (.q (.R [Wa 4 Wt]) .r))) (.q (.R [Wb 197 .eql 22 t28 (Wk 17),Wa 196 t197]) (.c t196 (.q (.R [Wm 198 t1,Wn 199 t198 23,Wb 200 .eql 3 t199 (Wk 1),Wm 201 t200,.g (some 202) (.move t1) 201 true,.g (some 203) (.indexAddr 23 t202 (Wk 0)) 201 true,.g (some 204) (.load 3 t203) 201 true,.g (some 205) (.binOp .geq 3 t204 (Wk 0) 3) 201 true,.n 206 (.pick t201 t205 Wo),Wm 207 t206,.g (some 208) (.move t1) 207 true,.g (some 209) (.indexAddr 23 t208 (Wk 0)) 207 true,.g (some 210) (.load 3 t209) 207 true,.g (some 211) (.binOp .leq 3 t210 (Wk 3) 3) 207 true,.n 212 (.pick t207 t211 Wo),Wa 4 t212]) .r) .s)))))))))))))))) (.q (.R [Wm 213 t1,Wn 214 t213 23,Wb 215 .eql 3 t214 (Wk 0),Wa 4 t215]) .r)))):=by kernel_rfl
theorem w52:Tryz.f52.body.map (Qo C)=some (.q (.R [Wv 2 104]) (.q (.R [Wm 3 t0,Wb 4 .lss 3 t3 (Wk 0),Wm 5 t0,Wc 6 114 #[t5] #[3],.n 7 (.buildSlice 102 1 #[(0,Wk 1)]),.n 8 (.build 104 #[(0,t4),(1,t6),(2,t7)]),Ws 104 t2 t8]) .r)):=by kernel_rfl
theorem w60:Tryz.f60.body.map (Qo C)=some (.q (.R [Wa 6 (.const (.slice none 0 0)),Wa 7 (Wk 0)]) (.q (.R [Wm 13 t2,Wi 14 75 t13 (Wk 0),Wl 15 37 t14,Wc 16 139 #[t15] #[37],Wa 8 t16]) (.q (.R [Wm 17 t1,Wc 18 45 #[t17] #[23],Wa 9 t18]) (.q (.R [Wa 10 (.func 140)]) (.q (.q (.R [Wm 19 t0]) (.b 0 (.q (.b 10 (.q (.b 9 (.q (.b 8 (.q (.b 7 (.q (.b 6 (.q (.b 5 (.q (.b 4 (.q (.b 3 (.q (.b 2 (.q (.b 1 (.q (.q (.q (.q (.R [Wb 21 .eql 22 t19 (Wk 1),Wa 20 t21]) (.c t20 .s (.q (.R [Wb 22 .eql 22 t19 (Wk 2),Wa 20 t22]) (.c t20 .s (.q (.R [Wb 23 .eql 22 t19 (Wk 3),Wa 20 t23]) (.c t20 .s (.R [Wb 24 .eql 22 t19 (Wk 4),Wa 20 t24]))))))) (.c t20 (.x 1) .s)) (.q (.q (.R [Wb 26 .eql 22 t19 (Wk 19),Wa 25 t26]) (.c t25 (.x 2) .s)) (.q (.q (.R [Wb 28 .eql 22 t19 (Wk 10),Wa 27 t28]) (.c t27 (.x 3) .s)) (.q (.q (.R [Wb 30 .eql 22 t19 (Wk 11),Wa 29 t30]) (.c t29 (.x 4) .s)) (.q (.q (.R [Wb 32 .eql 22 t19 (Wk 12),Wa 31 t32]) (.c t31 (.x 5) .s)) (.q (.q (.R [Wb 34 .eql 22 t19 (Wk 13),Wa 33 t34]) (.c t33 (.x 6) .s)) (.q (.q (.q (.R [Wb 36 .eql 22 t19 (Wk 14),Wa 35 t36]) (.c t35 .s (.R [Wb 37 .eql 22 t19 (Wk 20),Wa 35 t37]))) (.c t35 (.x 7) .s)) (.q (.q (.R [Wb 39 .eql 22 t19 (Wk 15),Wa 38 t39]) (.c t38 (.x 8) .s)) (.q (.q (.R [Wb 41 .eql 22 t19 (Wk 16),Wa 40 t41]) (.c t40 (.x 9) .s)) (.q (.R [Wb 43 .eql 22 t19 (Wk 17),Wa 42 t43]) (.c t42 (.x 10) .s))))))))))) (.x 0))) (.q (.q (.R [Wm 44 t10,Wm 45 t8,Wm 46 t2,Wi 47 75 t46 (Wk 1),Wl 48 37 t47,Wc 49 141 #[t45,t48] #[37,37],Wm 50 t8,.n 51 (.call ⟨.value t44,#[t49,t50],#[4,37]⟩),We 52 t51 0,We 53 t51 1,Wa 6 t52,Wa 7 t53]) .r) (.x 0)))) (.q (.R [Wm 55 t8,Wm 56 t2,Wi 57 75 t56 (Wk 1),Wl 58 37 t57,Wc 59 142 #[t55,t58] #[37,37],Wm 54 t59,We 60 t54 0,We 61 t54 1,Wa 11 t60,Wa 12 t61]) (.q (.q (.R [Wm 62 t12,Wb 63 .eql 73 t62 (Wk 0),Wm 64 t63,.g (some 65) (.move t2) 64 true,.g (some 66) (.indexAddr 75 t65 (Wk 2)) 64 true,.g (some 67) (.load 37 t66) 64 true,.g (some 68) (.move t11) 64 true,.g (some 69) (.call ⟨.value (.func 143),#[t67,t68],#[37,37]⟩) 64 true,.g (some 70) (.binOp .neq 73 t69 (Wk 0) 73) 64 true,.n 71 (.pick t64 t70 Wo)]) (.c t71 (.q (.R [Wa 6 (.const (.slice none 0 0)),Wa 7 (Wk 13)]) .r) .s)) (.q (.R [Wm 72 t12,Wb 73 .neq 73 t72 (Wk 0)]) (.c t73 (.q (.R [Wm 74 t12,Wa 6 (.const (.slice none 0 0)),Wa 7 t74]) .r) .s)))))) (.q (.q (.R [Wm 75 t8,Wm 76 t2,Wi 77 75 t76 (Wk 1),Wl 78 37 t77,Wc 79 142 #[t75,t78] #[37,37],We 80 t79 0,We 81 t79 1,Wa 6 t80,Wa 7 t81]) .r) (.x 0)))) (.q (.q (.R [Wm 82 t8,Wm 83 t1,Wc 84 144 #[t82,t83] #[37,23],We 85 t84 0,We 86 t84 1,Wa 6 t85,Wa 7 t86]) .r) (.x 0)))) (.q (.q (.R [Wm 87 t10,Wm 88 t8,Wc 89 145 #[t88] #[37],Wm 90 t9,Wc 91 145 #[t90] #[37],Wb 92 .eql 3 t89 t91,Wm 93 t9,.n 94 (.call ⟨.value t87,#[t92,t93],#[4,37]⟩),We 95 t94 0,We 96 t94 1,Wa 6 t95,Wa 7 t96]) .r) (.x 0)))) (.q (.q (.R [Wm 97 t10,Wm 98 t8,Wm 99 t9,Wc 100 143 #[t98,t99] #[37,37],Wb 101 .eql 73 t100 (Wk 0),Wm 102 t9,.n 103 (.call ⟨.value t97,#[t101,t102],#[4,37]⟩),We 104 t103 0,We 105 t103 1,Wa 6 t104,Wa 7 t105]) .r) (.x 0)))) (.q (.q (.R [Wm 106 t10,Wm 107 t1,Wm 108 t8,Wn 109 t108 37,Wc 110 146 #[t107,t109] #[23,3],Wb 111 .eql 73 t110 (Wk 0),Wm 112 t8,Wm 113 t1,Wc 114 147 #[t112,t113] #[37,23],.n 115 (.call ⟨.value t106,#[t111,t114],#[4,37]⟩),We 116 t115 0,We 117 t115 1,Wa 6 t116,Wa 7 t117]) .r) (.x 0)))) (.q (.q (.R [Wm 118 t8,Wm 119 t1,Wc 120 148 #[t118,t119,.func 149] #[37,23,173],We 121 t120 0,We 122 t120 1,Wa 6 t121,Wa 7 t122]) .r) (.x 0)))) (.q (.q (.R [Wm 123 t8,Wm 124 t1,Wc 125 148 #[t123,t124,.func 150] #[37,23,173],We 126 t125 0,We 127 t125 1,Wa 6 t126,Wa 7 t127]) .r) (.x 0)))) (.q (.q (.R [Wm 128 t1,Wi 129 23 t128 (Wk 0),Wl 130 3 t129,Wm 131 t2,Wc 132 151 #[t130,t131] #[3,75],We 133 t132 0,We 134 t132 1,Wa 6 t133,Wa 7 t134]) .r) (.x 0))))) (.q (.R [Wm 135 t8,Wa 6 t135,Wa 7 (Wk 0)]) .r)))))):=by kernel_rfl
theorem w140:Tryz.f140.body.map (Qo C)=some (.q (.R [Wa 4 (.const (.slice none 0 0)),Wa 5 (Wk 0)]) (.q (.q (.R [Wm 6 t0,.n 7 (.unOp .not 4 t6)]) (.c t7 (.q (.R [Wa 4 (.const (.slice none 0 0)),Wa 5 (Wk 13)]) .r) .s)) (.q (.R [Wm 8 t1,Wa 4 t8,Wa 5 (Wk 0)]) .r))):=by kernel_rfl
theorem w148:Tryz.f148.body.map (Qo C)=some (.q (.R [.n 3 (.box 37 t0),.n 5 (.box 173 t2),Wv 6 37,Wv 7 73]) (.q (.q (.R [Wm 13 t1,Wn 14 t13 23,Wl 15 37 t3,Wn 16 t15 37,Wb 17 .mul 3 (Wk 2) t16,Wb 18 .neq 3 t14 t17]) (.c t18 (.q (.R [Ws 37 t6 (.const (.slice none 0 0)),Ws 73 t7 (Wk 13)]) .r) .s)) (.q (.R [.n 19 (.buildSlice 37 0 #[]),Wv 8 37,Ws 37 t8 t19]) (.q (.q (.R [Wm 20 t1,Wc 21 227 #[t20] #[23]]) (.b 0 (.f t21 #[22,23] (.q (.R [Wa 9 t22]) (.R [Wa 10 t23])) (.b 1 (.q (.U [Wl 25 173 t5,Wl 26 37 t3,Wl 27 37 t8,Wn 28 t27 37,Wi 29 37 t26 t28,Wl 30 3 t29,Wm 31 t9,Wm 32 t10,.n 33 (.call ⟨.value t25,#[t30,t31,t32],#[3,3,3]⟩),Wm 24 t33,We 34 t24 0,We 35 t24 1,Wa 11 t34,Wa 12 t35]) (.q (.q (.R [Wm 36 t12,.n 37 (.unOp .not 4 t36)]) (.c t37 (.q (.R [Ws 37 t6 (.const (.slice none 0 0)),Ws 73 t7 (Wk 13)]) .r) .s)) (.R [Wl 38 37 t8,Wm 39 t11,.n 40 (.buildSlice 37 1 #[(0,t39)]),.n 41 (.call ⟨.builtin .append,#[t38,t40],#[37,37]⟩),Ws 37 t8 t41]))))))) (.q (.R [Wl 42 37 t8,Wc 43 224 #[t42] #[37],We 44 t43 0,We 45 t43 1,Ws 37 t6 t44,Ws 73 t7 t45]) .r))))):=by kernel_rfl
theorem w196:Tryz.f196.body.map (Qo C)=some (.q (.R [Wa 2 (.const (.slice none 0 0))]) (.q (.R [Wm 3 t0,.n 4 (.call ⟨.builtin .append,#[.const (.slice none 0 0),t3],#[65,65]⟩),Wa 2 t4]) .r)):=by kernel_rfl
theorem w204:Tryz.f204.body.map (Qo C)=some (.q (.R [Wa 4 (.const (.slice none 0 0))]) (.q (.R [Wa 5 (.const (.slice none 0 0))]) (.q (.R [Wa 6 (Wk 0)]) (.q (.q (.R [Wa 7 (Wk 0)]) (.b 0 (.l (.q (.q (.R [Wm 9 t7,Wm 10 t0,Wn 11 t10 102,Wb 12 .lss 3 t9 t11,Wm 13 t12,.g (some 14) (.move t7) 13 false,.g (some 15) (.move t1) 13 false,.g (some 16) (.call ⟨.builtin .len,#[t15],#[102]⟩) 13 false,.g (some 17) (.binOp .lss 3 t14 t16 3) 13 false,.n 18 (.pick t13 Wt t17),Wm 19 t18,.g (some 20) (.move t6) 19 false,.g (some 21) (.binOp .gtr 3 t20 (Wk 0) 3) 19 false,.n 22 (.pick t19 Wt t21)]) (.c t22 .s (.x 0))) (.q (.b 1 (.q (.R [Wm 25 t0,Wm 26 t7,Wc 27 262 #[t25,t26] #[102,3],Wm 28 t1,Wm 29 t7,Wc 30 262 #[t28,t29] #[102,3],Wb 31 .add 3 t27 t30,Wm 32 t6,Wb 33 .add 3 t31 t32,Wa 8 t33]) (.q (.R [Wm 34 t5,Wm 35 t8,Wb 36 .rem 3 t35 (Wk 10000),.n 37 (.buildSlice 102 1 #[(0,t36)]),.n 38 (.call ⟨.builtin .append,#[t34,t37],#[102,102]⟩),Wa 5 t38]) (.R [Wm 39 t8,Wb 40 .quo 3 t39 (Wk 10000),Wa 6 t40])))) (.R [Wm 23 t7,Wb 24 .add 3 t23 (Wk 1),Wa 7 t24])))))) (.q (.R [Wm 41 t5,Wa 4 t41]) .r))))):=by kernel_rfl
theorem w228:Tryz.f228.body.map (Qo C)=some (.q (.R [.n 2 (.box 38 t0),.n 3 (.box 38 t1),Wa 4 (.const .nilFunc)]) (.q (.R [.n 5 (.makeFunc (.func 268) #[] #[t2,t3]),Wa 4 t5]) .r)):=by kernel_rfl
theorem w236:Tryz.f236.body.map (Qo C)=some (.q (.R [Wa 2 (.const (.slice none 0 0))]) (.q (.q (.R [Wm 3 t0,Wb 4 .lss 2 t3 (Wk 0)]) (.c t4 (.q (.R [Wm 5 t0,Wb 6 .add 2 t5 (Wk 1),.n 7 (.unOp .neg 2 t6),.n 8 (.convert 2 271 t7),Wb 9 .add 271 t8 (.const (.int .u64 1)),Wc 10 274 #[t9] #[271],Wa 2 t10]) .r) .s)) (.q (.R [Wm 11 t0,.n 12 (.convert 2 271 t11),Wc 13 274 #[t12] #[271],Wa 2 t13]) .r))):=by kernel_rfl
theorem w252:Tryz.f252.body.map (Qo C)=some (.q (.R [Wa 2 Wo]) (.q (.R [Wm 3 t0,Wn 4 t3 23,Wb 5 .leq 3 t4 (Wk 4),Wm 6 t5,.g (some 7) (.move t0) 6 true,.g (some 8) (.move t0) 6 true,.g (some 9) (.call ⟨.builtin .len,#[t8],#[23]⟩) 6 true,.g (some 10) (.call ⟨.value (.func 173),#[t7,t9],#[23,3]⟩) 6 true,.g (some 11) (.binOp .eql 73 t10 (Wk 0) 73) 6 true,.n 12 (.pick t6 t11 Wo),Wa 2 t12]) .r)):=by kernel_rfl
theorem w260:Tryz.f260.body.map (Qo C)=some (.q (.R [Wa 4 (Wk 0)]) (.q (.R [Wa 5 (Wk 0),Wa 6 (Wk 10000)]) (.q (.b 0 (.l (.q (.q (.R [Wm 8 t6,Wm 9 t5,Wb 10 .sub 3 t8 t9,Wb 11 .gtr 3 t10 (Wk 1)]) (.c t11 .s (.x 0))) (.b 1 (.q (.R [Wm 12 t5,Wm 13 t6,Wb 14 .add 3 t12 t13,Wb 15 .quo 3 t14 (Wk 2),Wa 7 t15]) (.q (.R [Wm 16 t1,Wm 17 t7,Wc 18 205 #[t16,t17] #[102,3],Wm 19 t0,Wc 20 113 #[t18,t19] #[102,102],Wb 21 .leq 3 t20 (Wk 0)]) (.c t21 (.R [Wm 22 t7,Wa 5 t22]) (.R [Wm 23 t7,Wa 6 t23])))))))) (.q (.R [Wm 24 t5,Wa 4 t24]) .r)))):=by kernel_rfl
theorem w268:Tryz.f268.body.map (Qo C)=some (.q (.R [Wl 5 38 t1,Wn 6 t5 38,Wl 7 38 t2,Wn 8 t7 38,.n 9 (.call ⟨.builtin .min,#[t6,t8],#[3,3]⟩),Wm 10 (Wk 0)]) (.b 0 (.l (.q (.R [Wb 11 .lss 3 t10 t9]) (.q (.c t11 .s (.x 0)) (.q (.b 1 (.q (.R [Wm 12 t10,Wa 4 t12]) (.q (.U [Wm 13 t0,Wl 14 38 t1,Wm 15 t4,Wi 16 38 t14 t15,Wl 17 67 t16,Wl 18 38 t2,Wm 19 t4,Wi 20 38 t18 t19,Wl 21 67 t20,.n 22 (.call ⟨.value t13,#[t17,t21],#[67,67]⟩),.n 23 (.unOp .not 4 t22)]) (.c t23 .r .s)))) (.R [Wb 24 .add 3 t10 (Wk 1),Wm 10 t24]))))))):=by kernel_rfl
theorem w276:Tryz.f276.body.map (Qo C)=some (.q (.R [Wa 4 (.const (.slice none 0 0))]) (.q (.R [Wm 8 t0,Wc 9 275 #[t8] #[65],Wm 10 t1,Wc 11 275 #[t10] #[65],Wa 0 t9,Wa 1 t11]) (.q (.b 0 (.l (.q (.q (.R [Wm 12 t1,Wn 13 t12 65,Wb 14 .gtr 3 t13 (Wk 0)]) (.c t14 .s (.x 0))) (.b 1 (.q (.R [Wm 16 t0,Wm 17 t1,Wc 18 296 #[t16,t17] #[65,65],Wm 15 t18,We 19 t15 0,We 20 t15 1,We 21 t15 2,Wa 5 t19,Wa 6 t20,Wa 7 t21]) (.R [Wm 22 t1,Wm 23 t6,Wa 0 t22,Wa 1 t23])))))) (.q (.R [Wm 24 t0,Wa 4 t24]) .r)))):=by kernel_rfl
theorem w284:Tryz.f284.body.map (Qo C)=some (.q (.R [Wa 2 (Wk 0)]) (.q (.R [Wm 4 t0,Wn 5 t4 65,Wa 3 t5]) (.q (.b 0 (.l (.q (.q (.R [Wm 6 t3,Wb 7 .gtr 3 t6 (Wk 0),Wm 8 t7,.g (some 9) (.move t0) 8 true,.g (some 10) (.move t3) 8 true,.g (some 11) (.binOp .sub 3 t10 (Wk 1) 3) 8 true,.g (some 12) (.indexAddr 65 t9 t11) 8 true,.g (some 13) (.load 106 t12) 8 true,.g (some 14) (.binOp .eql 106 t13 (.const (.int .u32 0)) 106) 8 true,.n 15 (.pick t8 t14 Wo)]) (.c t15 .s (.x 0))) (.b 1 (.R [Wm 16 t3,Wb 17 .sub 3 t16 (Wk 1),Wa 3 t17]))))) (.q (.R [Wm 18 t3,Wa 2 t18]) .r)))):=by kernel_rfl
theorem w292:Tryz.f292.body.map (Qo C)=some (.q (.R [Wa 4 (.const (.int .u64 0))]) (.q (.q (.R [Wm 5 t1,Wb 6 .lss 3 t5 (Wk 0),Wm 7 t6,.g (some 8) (.move t1) 7 false,.g (some 9) (.move t0) 7 false,.g (some 10) (.call ⟨.builtin .len,#[t9],#[65]⟩) 7 false,.g (some 11) (.binOp .geq 3 t8 t10 3) 7 false,.n 12 (.pick t7 Wt t11)]) (.c t12 (.q (.R [Wa 4 (.const (.int .u64 0))]) .r) .s)) (.q (.R [Wm 13 t0,Wm 14 t1,Wi 15 65 t13 t14,Wl 16 106 t15,.n 17 (.convert 106 271 t16),Wa 4 t17]) .r))):=by kernel_rfl
theorem w308:Tryz.f308.body.map (Qo C)=some (.q (.R [Wa 4 (.const (.int .u64 0))]) (.sc (.q (.R [Wm 9 t1,Wn 10 t9 64,Wa 5 t10]) (.q (.D true [Wm 11 t0,Wm 12 t5,Wi 13 64 t11 t12,Wl 14 106 t13,.n 15 (.convert 106 271 t14),.n 16 (.binOp .shl 271 t15 (.const (.int .u64 32)) 58),Wm 17 t0,Wm 18 t5,Wb 19 .sub 3 t18 (Wk 1),Wi 20 64 t17 t19,Wl 21 106 t20,.n 22 (.convert 106 271 t21),Wb 23 .or 271 t16 t22,Wa 6 t23]) (.q (.D true [Wm 24 t6,Wm 25 t1,Wm 26 t5,Wb 27 .sub 3 t26 (Wk 1),Wi 28 64 t25 t27,Wl 29 106 t28,.n 30 (.convert 106 271 t29),Wb 31 .quo 271 t24 t30,Wm 32 t6,Wm 33 t1,Wm 34 t5,Wb 35 .sub 3 t34 (Wk 1),Wi 36 64 t33 t35,Wl 37 106 t36,.n 38 (.convert 106 271 t37),Wb 39 .rem 271 t32 t38,Wa 7 t31,Wa 8 t39]) (.q (.lb 0) (.q (.b 0 (.l (.q (.q (.D true [Wm 40 t7,.n 41 (.binOp .shr 271 t40 (.const (.int .u64 32)) 58),Wb 42 .gtr 271 t41 (.const (.int .u64 0)),Wm 43 t42,.g (some 44) (.move t7) 43 false,.g (some 45) (.move t1) 43 false,.g (some 46) (.move t5) 43 false,.g (some 47) (.binOp .sub 3 t46 (Wk 2) 3) 43 false,.g (some 48) (.indexAddr 64 t45 t47) 43 false,.g (some 49) (.load 106 t48) 43 false,.g (some 50) (.convert 106 271 t49) 43 false,.g (some 51) (.binOp .mul 271 t44 t50 271) 43 false,.g (some 52) (.move t8) 43 false,.g (some 53) (.binOp .shl 271 t52 (.const (.int .u64 32)) 58) 43 false,.g (some 54) (.move t0) 43 false,.g (some 55) (.move t5) 43 false,.g (some 56) (.binOp .sub 3 t55 (Wk 2) 3) 43 false,.g (some 57) (.indexAddr 64 t54 t56) 43 false,.g (some 58) (.load 106 t57) 43 false,.g (some 59) (.convert 106 271 t58) 43 false,.g (some 60) (.binOp .or 271 t53 t59 271) 43 false,.g (some 61) (.binOp .gtr 271 t51 t60 271) 43 false,.n 62 (.pick t43 Wt t61)]) (.c t62 .s (.x 0))) (.b 1 (.q (.R [Wm 63 t7,Wb 64 .sub 271 t63 (.const (.int .u64 1)),Wa 7 t64]) (.q (.R [Wm 65 t8,Wm 66 t1,Wm 67 t5,Wb 68 .sub 3 t67 (Wk 1),Wi 69 64 t66 t68,Wl 70 106 t69,.n 71 (.convert 106 271 t70),Wb 72 .add 271 t65 t71,Wa 8 t72]) (.q (.R [Wm 73 t8,.n 74 (.binOp .shr 271 t73 (.const (.int .u64 32)) 58),Wb 75 .gtr 271 t74 (.const (.int .u64 0))]) (.c t75 (.x 0) .s)))))))) (.q (.R [Wm 76 t7,Wa 4 t76]) .r)))))))):=by kernel_rfl
theorem w323:Tryz.f323.body.map (Qo C)=some (.q (.R [Wa 4 (.const (.int .u64 0))]) (.q (.R [Wm 5 t0,Wl 6 3 t1,Wb 7 .quo 3 t6 (Wk 32),Wb 8 .sub 3 t5 t7,Wa 0 t8]) (.q (.q (.R [Wm 9 t0,Wb 10 .lss 3 t9 (Wk 0)]) (.c t10 (.q (.R [Wa 4 (.const (.int .u64 0))]) .r) .s)) (.q (.D true [Wl 11 65 t2,Wm 12 t0,Wc 13 292 #[t11,t12] #[65,3],.n 14 (.binOp .shl 271 t13 (.const (.int .u64 32)) 58),Wl 15 65 t2,Wm 16 t0,Wb 17 .sub 3 t16 (Wk 1),Wc 18 292 #[t15,t17] #[65,3],Wb 19 .or 271 t14 t18,Wl 20 3 t1,Wb 21 .rem 3 t20 (Wk 32),.n 22 (.binOp .shl 271 t19 t21 3),.n 23 (.binOp .shr 271 t22 (.const (.int .u64 32)) 58),Wb 24 .and 271 t23 (.const (.int .u64 4294967295)),Wa 4 t24]) .r)))):=by kernel_rfl
theorem w13:Tryz.f13.body.map (Qo C)=some (.q (.R [.n 5 (.box 25 t1),Wv 8 42]) (.q (.q (.R [Wm 17 t0,Wl 18 25 t5,Wc 19 32 #[t17,t18] #[3,25],Wb 20 .neq 73 t19 (Wk 0),Wm 21 t20,.g (some 22) (.move t3) 21 false,.g (some 23) (.call ⟨.builtin .len,#[t22],#[26]⟩) 21 false,.g (some 24) (.fieldAddr 25 t5 1) 21 false,.g (some 25) (.load 23 t24) 21 false,.g (some 26) (.call ⟨.builtin .len,#[t25],#[23]⟩) 21 false,.g (some 27) (.binOp .neq 3 t23 t26 3) 21 false,.n 28 (.pick t21 Wt t27)]) (.c t28 (.q (.R [.n 29 (.build 42 #[]),Ws 42 t8 t29]) .r) .s)) (.q (.R [Wa 9 (.const (.slice none 0 0))]) (.q (.R [Wa 10 (.const (.slice none 0 0))]) (.q (.q (.R [Wm 30 t3,Wn 31 t30 26,Wm 32 (Wk 0)]) (.b 0 (.l (.q (.R [Wb 33 .lss 3 t32 t31]) (.q (.c t33 .s (.x 0)) (.q (.b 1 (.q (.R [Wi 34 26 t30 t32,Wl 35 42 t34,Wv 12 42,Ws 42 t12 t35]) (.q (.q (.R [Wf 36 42 t12 0,Wl 37 36 t36,Wb 38 .neq 36 t37 (Wk 1)]) (.c t38 (.q (.R [.n 39 (.build 42 #[(0,Wk 4)]),Ws 42 t8 t39]) .r) .s)) (.A [Wm 40 t9,Wf 41 42 t12 1,Wf 42 40 t41 0,Wl 43 37 t42,.z (.build 39 #[(0,t43)]),Wc 45 75 #[t40,t43] #[],Wm 46 t10,Wf 47 42 t12 1,Wl 48 40 t47,.z (.build 41 #[(1,t48)]),Wc 50 76 #[t46,t48] #[],Wa 9 t45,Wa 10 t50] [44,49])))) (.R [Wb 51 .add 3 t32 (Wk 1),Wm 32 t51]))))))) (.q (.q (.R [Wm 53 t0,Wl 54 25 t5,Wm 55 t9,Wc 56 33 #[t53,t54,t55] #[3,25,75],Wm 52 t56,We 57 t52 0,We 58 t52 1,Wa 13 t57,Wa 14 t58]) (.q (.R [Wm 59 t14,Wb 60 .neq 73 t59 (Wk 0)]) (.c t60 (.q (.R [.n 61 (.build 42 #[]),Ws 42 t8 t61]) .r) .s))) (.q (.U [Wm 63 t0,Wl 64 25 t5,Wm 65 t9,Wi 66 75 t65 (Wk 0),Wl 67 37 t66,Wn 68 t67 37,.n 69 (.buildSlice 23 1 #[(0,t68)]),Wc 70 20 #[t63,t64,t69] #[3,25,23],Wc 71 34 #[t70] #[23],Wf 72 25 t5 0,Wl 73 22 t72,.n 74 (.lookup 82 t71 t73 false),Wm 75 t10,.n 76 (.call ⟨.value t74,#[t75],#[76]⟩),Wm 62 t76,We 77 t62 0,We 78 t62 1,Wv 15 40,Ws 40 t15 t77,Wa 16 t78]) (.q (.b 2 (.q (.R [Wm 80 t16,Wb 81 .eql 73 t80 (Wk 17),Wa 79 t81]) (.c t79 (.q (.R [.n 82 (.build 42 #[(0,Wk 2)]),Ws 42 t8 t82]) .r) (.q (.R [Wm 84 t16,Wb 85 .neq 73 t84 (Wk 0),Wa 83 t85]) (.c t83 (.q (.R [.n 86 (.build 42 #[]),Ws 42 t8 t86]) .r) (.q (.R [Wm 88 t2,Wl 89 40 t15,Wc 90 35 #[t88,t89] #[84,40],.n 91 (.unOp .not 4 t90),Wa 87 t91]) (.c t87 (.q (.R [.n 92 (.build 42 #[(0,Wk 3)]),Ws 42 t8 t92]) .r) .s))))))) (.q (.R [Wl 93 40 t15,.n 94 (.build 42 #[(0,Wk 1),(1,t93)]),Ws 42 t8 t94]) .r))))))))):=by kernel_rfl
theorem w21:Tryz.f21.body.map (Qo C)=some (.q (.R [Wa 4 Wo]) (.q (.q (.R [Wm 5 t0,Wb 6 .lss 22 t5 (Wk 1),Wm 7 t6,.g (some 8) (.move t0) 7 false,.g (some 9) (.binOp .gtr 22 t8 (Wk 20) 22) 7 false,.n 10 (.pick t7 Wt t9),Wm 11 t10,.g (some 12) (.move t1) 11 false,.g (some 13) (.binOp .lss 3 t12 (Wk 1) 3) 11 false,.n 14 (.pick t11 Wt t13),Wm 15 t14,.g (some 16) (.move t1) 15 false,.g (some 17) (.binOp .gtr 3 t16 (Wk 3) 3) 15 false,.n 18 (.pick t15 Wt t17)]) (.c t18 (.q (.R [Wa 4 Wo]) .r) .s)) (.q (.q (.R [Wm 19 t0]) (.b 0 (.q (.R [Wb 21 .eql 22 t19 (Wk 18),Wa 20 t21]) (.c t20 (.q (.R [Wm 22 t1,Wb 23 .eql 3 t22 (Wk 1),Wa 4 t23]) .r) (.q (.q (.R [Wb 25 .eql 22 t19 (Wk 19),Wa 24 t25]) (.c t24 .s (.R [Wb 26 .eql 22 t19 (Wk 20),Wa 24 t26]))) (.c t24 (.q (.R [Wm 27 t1,Wb 28 .lss 3 t27 (Wk 3),Wa 4 t28]) .r) (.q (.q (.R [Wb 30 .eql 22 t19 (Wk 8),Wa 29 t30]) (.c t29 .s (.R [Wb 31 .eql 22 t19 (Wk 9),Wa 29 t31]))) (.c t29 (.q (.R [Wm 32 t1,Wb 33 .eql 3 t32 (Wk 3),Wa 4 t33]) .r) .s)))))))) (.q (.R [Wa 4 Wt]) .r)))):=by kernel_rfl
theorem w37:Tryz.f37.body.map (Qo C)=some (.q (.R [Wa 2 (Wk 0)]) (.q (.q (.R [Wm 6 t0,Wn 7 t6 23,Wb 8 .gtr 3 t7 (Wk 4)]) (.c t8 (.q (.R [Wa 2 (Wk 14)]) .r) .s)) (.q (.q (.R [Wa 3 (Wk 0)]) (.b 0 (.l (.q (.q (.R [Wm 9 t3,Wm 10 t0,Wn 11 t10 23,Wb 12 .lss 3 t9 t11]) (.c t12 .s (.x 0))) (.q (.b 1 (.q (.R [Wm 15 t0,Wm 16 t3,Wi 17 23 t15 t16,Wl 18 3 t17,Wb 19 .lss 3 t18 (Wk 1)]) (.c t19 (.q (.R [Wa 2 (Wk 13)]) .r) .s))) (.R [Wm 13 t3,Wb 14 .add 3 t13 (Wk 1),Wa 3 t14])))))) (.q (.R [Wa 4 (Wk 1)]) (.q (.q (.R [Wa 5 (Wk 0)]) (.b 2 (.l (.q (.q (.R [Wm 20 t5,Wm 21 t0,Wn 22 t21 23,Wb 23 .lss 3 t20 t22]) (.c t23 .s (.x 2))) (.q (.b 3 (.q (.q (.R [Wm 26 t0,Wm 27 t5,Wi 28 23 t26 t27,Wl 29 3 t28,Wb 30 .gtr 3 t29 (Wk 1024)]) (.c t30 (.q (.R [Wa 2 (Wk 14)]) .r) .s)) (.q (.R [Wm 31 t4,Wm 32 t0,Wm 33 t5,Wi 34 23 t32 t33,Wl 35 3 t34,Wb 36 .mul 3 t31 t35,Wa 4 t36]) (.q (.R [Wm 37 t4,Wb 38 .gtr 3 t37 (Wk 1024)]) (.c t38 (.q (.R [Wa 2 (Wk 14)]) .r) .s))))) (.R [Wm 24 t5,Wb 25 .add 3 t24 (Wk 1),Wa 5 t25])))))) (.q (.R [Wa 2 (Wk 0)]) .r)))))):=by kernel_rfl
theorem w45:Tryz.f45.body.map (Qo C)=some (.q (.R [Wa 2 (.const (.slice none 0 0))]) (.q (.q (.R [Wm 3 t0,Wb 4 .eql 23 t3 (.const (.slice none 0 0))]) (.c t4 (.q (.R [Wa 2 (.const (.slice none 0 0))]) .r) .s)) (.q (.R [.n 5 (.buildSlice 23 0 #[]),Wm 6 t0,.n 7 (.call ⟨.builtin .append,#[t5,t6],#[23,23]⟩),Wa 2 t7]) .r))):=by kernel_rfl
theorem w53:Tryz.f53.body.map (Qo C)=some (.q (.R [.n 1 (.box 32 t0),Wv 2 40]) (.q (.R [Wf 5 32 t1 0,Wl 6 23 t5,.n 7 (.call ⟨.builtin .append,#[.const (.slice none 0 0),t6],#[37,23]⟩),.n 8 (.build 40 #[(0,t7)]),Wv 3 40,Ws 40 t3 t8]) (.q (.q (.R [Wa 4 (Wk 0)]) (.b 0 (.l (.q (.q (.R [Wm 9 t4,Wf 10 32 t1 1,Wl 11 30 t10,Wn 12 t11 30,Wb 13 .lss 3 t9 t12]) (.c t13 .s (.x 0))) (.q (.b 1 (.D true [Wf 16 40 t3 1,Wl 17 38 t16,Wf 18 32 t1 1,Wl 19 30 t18,Wm 20 t4,Wi 21 30 t19 t20,Wl 22 104 t21,Wc 23 115 #[t22] #[104],.n 24 (.buildSlice 38 1 #[(0,t23)]),.n 25 (.call ⟨.builtin .append,#[t17,t24],#[38,38]⟩),Wf 26 40 t3 1,Ws 38 t26 t25])) (.R [Wm 14 t4,Wb 15 .add 3 t14 (Wk 1),Wa 4 t15])))))) (.q (.R [Wl 27 40 t3,Ws 40 t2 t27]) .r)))):=by kernel_rfl
theorem w61:Tryz.f61.body.map (Qo C)=some (.q (.R [.n 1 (.box 119 t0),Wa 2 (.const .nilFunc)]) (.q (.R [.n 3 (.makeFunc (.func 152) #[] #[t1]),Wa 2 t3]) .r)):=by kernel_rfl
theorem w77:Tryz.f77.body.map (Qo C)=some (.q (.R [.n 2 (.box 126 t0),.n 3 (.box 23 t1),Wa 4 (.const .nilFunc)]) (.q (.R [.n 5 (.makeFunc (.func 172) #[] #[t2,t3]),Wc 6 66 #[t5] #[121],Wa 4 t6]) .r)):=by kernel_rfl
theorem w93:Tryz.f93.body.map (Qo C)=some (.q (.R [.n 1 (.box 40 t0),Wv 2 3]) (.q (.q (.R [Wl 5 40 t1,Wc 6 109 #[t5] #[40],Wc 7 194 #[t6] #[146]]) (.b 0 (.f t7 #[8,9] (.R [Wv 4 67,Ws 67 t4 t9]) (.b 1 (.D true [Wl 10 3 t2,Wl 11 67 t4,Wc 12 195 #[t11] #[67],.n 13 (.call ⟨.builtin .max,#[t10,t12],#[3,3]⟩),Ws 3 t2 t13]))))) (.q (.R [Wl 14 3 t2,Ws 3 t2 t14]) .r))):=by kernel_rfl
theorem w109:Tryz.f109.body.map (Qo C)=some (.q (.R [.n 1 (.box 40 t0),Wv 2 146]) (.q (.R [Wf 3 40 t1 0,Wl 4 37 t3,Wf 5 40 t1 1,Wl 6 38 t5,.n 7 (.build 146 #[(0,t4),(1,t6)]),Ws 146 t2 t7]) .r)):=by kernel_rfl
theorem w141:Tryz.f141.body.map (Qo C)=some (.q (.R [Wa 4 Wo]) (.q (.R [Wm 5 t0,Wm 6 t1,Wc 7 223 #[t5,t6] #[37,37],Wa 4 t7]) .r)):=by kernel_rfl
theorem w149:Tryz.f149.body.map (Qo C)=some (.q (.R [Wa 6 (Wk 0),Wa 7 Wo]) (.q (.R [Wm 8 t2,Wm 9 t1,Wb 10 .sub 3 t8 t9,Wm 11 t2,Wm 12 t0,Wb 13 .leq 3 t11 t12,Wa 6 t10,Wa 7 t13]) .r)):=by kernel_rfl
theorem w157:Tryz.f157.body.map (Qo C)=some (.q (.R [.n 2 (.box 67 t0),.n 3 (.box 67 t1),Wv 4 67]) (.q (.R [Wl 5 67 t2,Wl 6 67 t3,.n 7 (.buildSlice 38 2 #[(0,t5),(1,t6)]),Wc 8 232 #[t7] #[38],Ws 67 t4 t8]) .r)):=by kernel_rfl
theorem w173:Tryz.f173.body.map (Qo C)=some (.q (.R [Wa 4 (Wk 0)]) (.q (.R [Wm 8 t0,Wc 9 240 #[t8] #[23],Wc 10 239 #[t9] #[247],Wa 5 t10]) (.q (.q (.R [Wm 11 t5,Wn 12 t11 23,Wm 13 (Wk 0)]) (.b 0 (.l (.q (.R [Wb 14 .lss 3 t13 t12]) (.q (.c t14 .s (.x 0)) (.q (.b 1 (.q (.R [Wm 15 t13,Wi 16 23 t11 t13,Wl 17 3 t16,Wa 6 t15,Wa 7 t17]) (.q (.R [Wm 18 t7,Wm 19 t6,Wb 20 .neq 3 t18 t19]) (.c t20 (.q (.R [Wa 4 (Wk 11)]) .r) .s)))) (.R [Wb 21 .add 3 t13 (Wk 1),Wm 13 t21]))))))) (.q (.q (.R [Wm 22 t5,Wn 23 t22 23,Wm 24 t1,.n 25 (.call ⟨.builtin .max,#[t24,Wk 0],#[3,3]⟩),Wb 26 .neq 3 t23 t25]) (.c t26 (.q (.R [Wa 4 (Wk 11)]) .r) .s)) (.q (.R [Wa 4 (Wk 0)]) .r))))):=by kernel_rfl
theorem w205:Tryz.f205.body.map (Qo C)=some (.q (.R [Wa 4 (.const (.slice none 0 0))]) (.q (.R [Wa 5 (.const (.slice none 0 0))]) (.q (.R [Wa 6 (Wk 0)]) (.q (.q (.R [Wa 7 (Wk 0)]) (.b 0 (.l (.q (.q (.R [Wm 9 t7,Wm 10 t0,Wn 11 t10 102,Wb 12 .lss 3 t9 t11,Wm 13 t12,.g (some 14) (.move t6) 13 false,.g (some 15) (.binOp .gtr 3 t14 (Wk 0) 3) 13 false,.n 16 (.pick t13 Wt t15)]) (.c t16 .s (.x 0))) (.q (.b 1 (.q (.R [Wm 19 t0,Wm 20 t7,Wc 21 262 #[t19,t20] #[102,3],Wm 22 t1,Wb 23 .mul 3 t21 t22,Wm 24 t6,Wb 25 .add 3 t23 t24,Wa 8 t25]) (.q (.R [Wm 26 t5,Wm 27 t8,Wb 28 .rem 3 t27 (Wk 10000),.n 29 (.buildSlice 102 1 #[(0,t28)]),.n 30 (.call ⟨.builtin .append,#[t26,t29],#[102,102]⟩),Wa 5 t30]) (.R [Wm 31 t8,Wb 32 .quo 3 t31 (Wk 10000),Wa 6 t32])))) (.R [Wm 17 t7,Wb 18 .add 3 t17 (Wk 1),Wa 7 t18])))))) (.q (.R [Wm 33 t5,Wc 34 258 #[t33] #[102],Wa 4 t34]) .r))))):=by kernel_rfl
theorem w229:Tryz.f229.body.map (Qo C)=some (.q (.R [.n 3 (.box 67 t0),.n 4 (.box 67 t1),Wv 5 67,Wa 6 (Wk 0)]) (.q (.R [Wl 7 178 t2,Wl 8 67 t3,Wl 9 67 t4,.n 10 (.call ⟨.value t7,#[t8,t9],#[67,67]⟩),Ws 67 t5 t10,Wa 6 (Wk 0)]) .r)):=by kernel_rfl
theorem w237:Tryz.f237.body.map (Qo C)=some (.q (.R [Wa 0 (.const (.slice none 0 0))]) (.q (.R [Wc 1 274 #[.const (.int .u64 1)] #[271],Wa 0 t1]) .r)):=by kernel_rfl
theorem w253:Tryz.f253.body.map (Qo C)=some (.q (.R [Wa 2 Wo]) (.q (.R [Wm 3 t0,Wc 4 59 #[t3] #[37],Wb 5 .eql 73 t4 (Wk 0),Wa 2 t5]) .r)):=by kernel_rfl
theorem w261:Tryz.f261.body.map (Qo C)=some (.q (.R [Wa 4 (.const (.slice none 0 0)),Wa 5 Wo]) (.q (.q (.R [Wm 10 t0,Wm 11 t1,Wc 12 113 #[t10,t11] #[102,102],Wb 13 .lss 3 t12 (Wk 0)]) (.c t13 (.q (.R [Wa 4 (.const (.slice none 0 0)),Wa 5 Wo]) .r) .s)) (.q (.R [Wa 6 (.const (.slice none 0 0))]) (.q (.R [Wa 7 (Wk 0)]) (.q (.q (.R [Wa 8 (Wk 0)]) (.b 0 (.l (.q (.q (.R [Wm 14 t8,Wm 15 t0,Wn 16 t15 102,Wb 17 .lss 3 t14 t16]) (.c t17 .s (.x 0))) (.q (.b 1 (.q (.D true [Wm 20 t0,Wm 21 t8,Wi 22 102 t20 t21,Wl 23 3 t22,Wm 24 t1,Wm 25 t8,Wc 26 262 #[t24,t25] #[102,3],Wb 27 .sub 3 t23 t26,Wm 28 t7,Wb 29 .sub 3 t27 t28,Wa 9 t29]) (.q (.R [Wa 7 (Wk 0)]) (.q (.q (.R [Wm 30 t9,Wb 31 .lss 3 t30 (Wk 0)]) (.c t31 (.q (.R [Wm 32 t9,Wb 33 .add 3 t32 (Wk 10000),Wa 9 t33]) (.R [Wa 7 (Wk 1)])) .s)) (.R [Wm 34 t6,Wm 35 t9,.n 36 (.buildSlice 102 1 #[(0,t35)]),.n 37 (.call ⟨.builtin .append,#[t34,t36],#[102,102]⟩),Wa 6 t37]))))) (.R [Wm 18 t8,Wb 19 .add 3 t18 (Wk 1),Wa 8 t19])))))) (.q (.R [Wm 38 t6,Wc 39 258 #[t38] #[102],Wa 4 t39,Wa 5 Wt]) .r)))))):=by kernel_rfl
theorem w269:Tryz.f269.body.map (Qo C)=some (.q (.R [Wa 4 (.const (.slice none 0 0))]) (.q (.R [Wa 5 (.const (.slice none 0 0))]) (.q (.q (.R [Wm 8 t1,Wn 9 t8 65,Wm 10 (Wk 0)]) (.b 0 (.l (.q (.R [Wb 11 .lss 3 t10 t9]) (.q (.c t11 .s (.x 0)) (.q (.b 1 (.q (.R [Wm 12 t10,Wi 13 65 t8 t10,Wl 14 106 t13,Wa 6 t12,Wa 7 t14]) (.R [Wm 15 t5,Wm 16 t0,Wm 17 t7,Wm 18 t6,Wc 19 289 #[t16,t17,t18] #[65,106,3],Wc 20 271 #[t15,t19] #[65,65],Wa 5 t20]))) (.R [Wb 21 .add 3 t10 (Wk 1),Wm 10 t21]))))))) (.q (.R [Wm 22 t5,Wa 4 t22]) .r)))):=by kernel_rfl
theorem w277:Tryz.f277.body.map (Qo C)=some (.q (.R [Wa 3 (.const (.slice none 0 0))]) (.q (.R [Wm 4 t0,Wl 5 65 t1,Wc 6 278 #[t4,t5] #[65,65],Wa 3 t6]) .r)):=by kernel_rfl
theorem w285:Tryz.f285.body.map (Qo C)=some (.q (.R [Wa 2 (Wk 0)]) (.q (.q (.R [Wm 3 t0,Wb 4 .geq 106 t3 (.const (.int .u32 65536))]) (.c t4 (.q (.R [Wm 5 t0,.n 6 (.binOp .shr 106 t5 (.const (.int .u64 16)) 58),Wa 0 t6]) (.R [Wa 2 (Wk 16)])) .s)) (.q (.q (.R [Wm 7 t0,Wb 8 .geq 106 t7 (.const (.int .u32 256))]) (.c t8 (.q (.R [Wm 9 t0,.n 10 (.binOp .shr 106 t9 (.const (.int .u64 8)) 58),Wa 0 t10]) (.R [Wm 11 t2,Wb 12 .add 3 t11 (Wk 8),Wa 2 t12])) .s)) (.q (.R [Wm 13 t2,Wm 14 t0,.n 15 (.convert 106 5 t14),.n 16 (.index 9 (.const (.string { data:=(([0,1,2,2,3,3,3,3,4,4,4,4,4,4,4,4,5,5,5,5,5,5,5,5,5,5,5,5,5,5,5,5,6,6,6,6,6,6,6,6,6,6,6,6,6,6,6,6,6,6,6,6,6,6,6,6,6,6,6,6,6,6,6,6].append [7,7,7,7,7,7,7,7,7,7,7,7,7,7,7,7,7,7,7,7,7,7,7,7,7,7,7,7,7,7,7,7,7,7,7,7,7,7,7,7,7,7,7,7,7,7,7,7,7,7,7,7,7,7,7,7,7,7,7,7,7,7,7,7]).append ([8,8,8,8,8,8,8,8,8,8,8,8,8,8,8,8,8,8,8,8,8,8,8,8,8,8,8,8,8,8,8,8,8,8,8,8,8,8,8,8,8,8,8,8,8,8,8,8,8,8,8,8,8,8,8,8,8,8,8,8,8,8,8,8].append [8,8,8,8,8,8,8,8,8,8,8,8,8,8,8,8,8,8,8,8,8,8,8,8,8,8,8,8,8,8,8,8,8,8,8,8,8,8,8,8,8,8,8,8,8,8,8,8,8,8,8,8,8,8,8,8,8,8,8,8,8,8,8,8])).toArray })) t15),.n 17 (.convert 5 3 t16),Wb 18 .add 3 t13 t17,Wa 2 t18]) .r)))):=by kernel_rfl
theorem w293:Tryz.f293.body.map (Qo C)=some (.q (.R [.n 2 (.box 65 t0),.n 3 (.box 65 t1),Wv 4 3]) (.q (.q (.R [Wl 8 65 t2,Wl 9 65 t3,.n 10 (.buildSlice 304 2 #[(0,t8),(1,t9)]),Wc 11 304 #[t10] #[304]]) (.b 0 (.f t11 #[12] (.R [Wa 5 t12]) (.b 1 (.q (.D true [Wl 13 65 t2,Wm 14 t5,Wc 15 292 #[t13,t14] #[65,3],Wl 16 65 t3,Wm 17 t5,Wc 18 292 #[t16,t17] #[65,3],Wa 6 t15,Wa 7 t18]) (.b 2 (.q (.R [Wm 20 t6,Wm 21 t7,Wb 22 .lss 271 t20 t21,Wa 19 t22]) (.c t19 (.q (.R [Ws 3 t4 (.const (.int .i64 (-1)))]) .r) (.q (.R [Wm 24 t6,Wm 25 t7,Wb 26 .gtr 271 t24 t25,Wa 23 t26]) (.c t23 (.q (.R [Ws 3 t4 (Wk 1)]) .r) .s)))))))))) (.q (.R [Ws 3 t4 (Wk 0)]) .r))):=by kernel_rfl
theorem w301:Tryz.f301.body.map (Qo C)=some (.q (.R [Wa 4 (.const (.int .u64 0)),Wa 5 (.const (.int .u64 0))]) (.q (.R [Wm 14 t0,Wb 15 .and 271 t14 (.const (.int .u64 4294967295)),Wa 6 t15]) (.q (.R [Wm 16 t0,.n 17 (.binOp .shr 271 t16 (.const (.int .u64 32)) 58),Wa 7 t17]) (.q (.R [Wm 18 t1,Wb 19 .and 271 t18 (.const (.int .u64 4294967295)),Wa 8 t19]) (.q (.R [Wm 20 t1,.n 21 (.binOp .shr 271 t20 (.const (.int .u64 32)) 58),Wa 9 t21]) (.q (.R [Wm 22 t6,Wm 23 t8,Wb 24 .mul 271 t22 t23,Wa 10 t24]) (.q (.R [Wm 25 t7,Wm 26 t8,Wb 27 .mul 271 t25 t26,Wm 28 t10,.n 29 (.binOp .shr 271 t28 (.const (.int .u64 32)) 58),Wb 30 .add 271 t27 t29,Wa 11 t30]) (.q (.R [Wm 31 t11,Wb 32 .and 271 t31 (.const (.int .u64 4294967295)),Wa 12 t32]) (.q (.R [Wm 33 t11,.n 34 (.binOp .shr 271 t33 (.const (.int .u64 32)) 58),Wa 13 t34]) (.q (.R [Wm 35 t12,Wm 36 t6,Wm 37 t9,Wb 38 .mul 271 t36 t37,Wb 39 .add 271 t35 t38,Wa 12 t39]) (.q (.R [Wm 40 t7,Wm 41 t9,Wb 42 .mul 271 t40 t41,Wm 43 t13,Wb 44 .add 271 t42 t43,Wm 45 t12,.n 46 (.binOp .shr 271 t45 (.const (.int .u64 32)) 58),Wb 47 .add 271 t44 t46,Wa 4 t47]) (.q (.R [Wm 48 t0,Wm 49 t1,Wb 50 .mul 271 t48 t49,Wa 5 t50]) .r)))))))))))):=by kernel_rfl
theorem w309:Tryz.f309.body.map (Qo C)=some (.q (.R [Wa 6 Wo]) (.q (.R [Wa 7 (.const (.int .u64 0)),Wa 8 (.const (.int .u32 0))]) (.q (.q (.R [Wm 12 t1,Wn 13 t12 64,Wm 14 (Wk 0)]) (.b 0 (.l (.q (.R [Wb 15 .lss 3 t14 t13]) (.q (.c t15 .s (.x 0)) (.q (.b 1 (.q (.R [Wm 16 t14,Wi 17 64 t12 t14,Wl 18 106 t17,Wa 9 t16,Wa 10 t18]) (.q (.R [Wm 19 t2,Wm 20 t10,.n 21 (.convert 106 271 t20),Wb 22 .mul 271 t19 t21,Wm 23 t7,Wb 24 .add 271 t22 t23,Wa 11 t24]) (.q (.R [Wm 25 t11,.n 26 (.binOp .shr 271 t25 (.const (.int .u64 32)) 58),Wa 7 t26]) (.R [Wm 28 t0,Wm 29 t9,Wm 30 t0,Wm 31 t9,Wi 32 64 t30 t31,Wl 33 106 t32,Wm 34 t11,.n 35 (.convert 271 106 t34),Wm 36 t8,Wc 37 324 #[t33,t35,t36] #[106,106,106],Wm 27 t37,We 38 t27 0,We 39 t27 1,Wi 40 64 t28 t29,Ws 106 t40 t38,Wa 8 t39]))))) (.R [Wb 41 .add 3 t14 (Wk 1),Wm 14 t41]))))))) (.q (.R [Wm 43 t0,Wm 44 t1,Wn 45 t44 64,Wm 46 t0,Wm 47 t1,Wn 48 t47 64,Wi 49 64 t46 t48,Wl 50 106 t49,Wm 51 t7,.n 52 (.convert 271 106 t51),Wm 53 t8,Wc 54 324 #[t50,t52,t53] #[106,106,106],Wm 42 t54,We 55 t42 0,We 56 t42 1,Wi 57 64 t43 t45,Ws 106 t57 t55,Wa 8 t56]) (.q (.R [Wm 58 t8,Wb 59 .eql 106 t58 (.const (.int .u32 1)),Wa 6 t59]) .r))))):=by kernel_rfl
theorem w324:Tryz.f324.body.map (Qo C)=some (.q (.R [Wa 6 (.const (.int .u32 0)),Wa 7 (.const (.int .u32 0))]) (.q (.R [Wm 8 t0,Wm 9 t1,Wb 10 .sub 106 t8 t9,Wm 11 t2,Wb 12 .sub 106 t10 t11,Wa 6 t12]) (.q (.R [Wm 13 t0,.n 14 (.unOp .xor 106 t13),Wm 15 t1,Wb 16 .and 106 t14 t15,Wm 17 t0,Wm 18 t1,Wb 19 .xor 106 t17 t18,.n 20 (.unOp .xor 106 t19),Wm 21 t6,Wb 22 .and 106 t20 t21,Wb 23 .or 106 t16 t22,.n 24 (.binOp .shr 106 t23 (.const (.int .u64 31)) 58),Wa 7 t24]) .r))):=by kernel_rfl
theorem w14:Tryz.f14.body.map (Qo C)=some (.q (.R [Wa 2 (.const (.slice none 0 0))]) (.q (.R [Wa 3 (.const (.slice none 0 0))]) (.q (.q (.R [Wa 4 (Wk 0)]) (.b 0 (.l (.q (.q (.R [Wm 5 t4,Wm 6 t0,Wn 7 t6 26,Wb 8 .lss 3 t5 t7]) (.c t8 .s (.x 0))) (.q (.b 1 (.D true [Wm 11 t3,Wm 12 t0,Wm 13 t4,Wi 14 26 t12 t13,Wf 15 42 t14 0,Wl 16 36 t15,Wm 17 t0,Wm 18 t4,Wi 19 26 t17 t18,Wf 20 42 t19 1,Wl 21 40 t20,Wc 22 36 #[t21] #[40],.n 23 (.build 42 #[(0,t16),(1,t22)]),.n 24 (.buildSlice 26 1 #[(0,t23)]),.n 25 (.call ⟨.builtin .append,#[t11,t24],#[26,26]⟩),Wa 3 t25])) (.R [Wm 9 t4,Wb 10 .add 3 t9 (Wk 1),Wa 4 t10])))))) (.q (.R [Wm 26 t3,Wa 2 t26]) .r)))):=by kernel_rfl
theorem w46:Tryz.f46.body.map (Qo C)=some (.q (.R [.n 1 (.box 22 t0),Wv 2 97,Wa 3 Wo]) (.q (.R [.n 4 (.makeFunc (.func 104) #[] #[t1]),Wc 5 103 #[t4] #[140],We 6 t5 0,We 7 t5 1,Ws 97 t2 t6,Wa 3 t7]) .r)):=by kernel_rfl
theorem w94:Tryz.f94.body.map (Qo C)=some (.q (.R [.n 1 (.box 67 t0),Wv 2 67]) (.q (.D true [Wf 3 67 t1 0,Wl 4 4 t3,Wf 5 67 t1 1,Wl 6 65 t5,Wc 7 196 #[t6] #[65],Wf 8 67 t1 2,Wl 9 65 t8,Wc 10 196 #[t9] #[65],.n 11 (.build 67 #[(0,t4),(1,t7),(2,t10)]),Ws 67 t2 t11]) .r)):=by kernel_rfl
theorem w102:Tryz.f102.body.map (Qo C)=some (.q (.R [Wa 4 Wo]) (.q (.q (.R [Wm 5 t0,Wb 6 .lss 3 t5 (Wk 0)]) (.c t6 (.R [Wm 7 t0,.n 8 (.unOp .neg 3 t7),Wa 0 t8]) .s)) (.q (.b 0 (.l (.q (.q (.R [Wm 9 t1,Wb 10 .gtr 3 t9 (Wk 0)]) (.c t10 .s (.x 0))) (.b 1 (.D true [Wm 11 t1,Wm 12 t0,Wm 13 t1,Wb 14 .rem 3 t12 t13,Wa 0 t11,Wa 1 t14]))))) (.q (.R [Wm 15 t0,Wb 16 .neq 3 t15 (Wk 1),Wa 4 t16]) .r)))):=by kernel_rfl
theorem w142:Tryz.f142.body.map (Qo C)=some (.q (.R [Wa 4 (.const (.slice none 0 0)),Wa 5 (Wk 0)]) (.q (.q (.D true [Wm 6 t0,Wn 7 t6 37,Wb 8 .neq 3 t7 (Wk 2),Wm 9 t8,.g (some 10) (.move t1) 9 false,.g (some 11) (.call ⟨.builtin .len,#[t10],#[37]⟩) 9 false,.g (some 12) (.binOp .neq 3 t11 (Wk 2) 3) 9 false,.n 13 (.pick t9 Wt t12),Wm 14 t13,.g (some 15) (.move t0) 14 false,.g (some 16) (.indexAddr 37 t15 (Wk 1)) 14 false,.g (some 17) (.load 3 t16) 14 false,.g (some 18) (.move t1) 14 false,.g (some 19) (.indexAddr 37 t18 (Wk 0)) 14 false,.g (some 20) (.load 3 t19) 14 false,.g (some 21) (.binOp .neq 3 t17 t20 3) 14 false,.n 22 (.pick t14 Wt t21)]) (.c t22 (.q (.R [Wa 4 (.const (.slice none 0 0)),Wa 5 (Wk 13)]) .r) .s)) (.q (.D true [Wm 23 t0,Wi 24 37 t23 (Wk 0),Wl 25 3 t24,Wm 26 t1,Wi 27 37 t26 (Wk 1),Wl 28 3 t27,.n 29 (.buildSlice 37 2 #[(0,t25),(1,t28)]),Wc 30 224 #[t29] #[37],We 31 t30 0,We 32 t30 1,Wa 4 t31,Wa 5 t32]) .r))):=by kernel_rfl
theorem w150:Tryz.f150.body.map (Qo C)=some (.q (.R [Wa 6 (Wk 0),Wa 7 Wo]) (.q (.R [Wm 8 t0,Wm 9 t1,Wb 10 .add 3 t8 t9,Wm 11 t2,Wb 12 .add 3 t10 t11,Wa 6 t12,Wa 7 Wt]) .r)):=by kernel_rfl
theorem w158:Tryz.f158.body.map (Qo C)=some (.q (.R [.n 2 (.box 67 t0),.n 3 (.box 67 t1),Wv 4 67,Wa 5 (Wk 0)]) (.q (.R [Wl 6 67 t3,Wc 7 168 #[t6] #[67],Ws 67 t3 t7]) (.q (.q (.R [Wf 8 67 t3 1,Wl 9 65 t8,Wn 10 t9 65,Wb 11 .eql 3 t10 (Wk 0)]) (.c t11 (.q (.R [.n 12 (.build 67 #[]),Ws 67 t4 t12,Wa 5 (Wk 17)]) .r) .s)) (.q (.R [Wl 13 67 t2,Wf 14 67 t3 0,Wl 15 4 t14,Wf 16 67 t3 2,Wl 17 65 t16,Wf 18 67 t3 1,Wl 19 65 t18,.n 20 (.build 67 #[(0,t15),(1,t17),(2,t19)]),.n 21 (.buildSlice 38 2 #[(0,t13),(1,t20)]),Wc 22 232 #[t21] #[38],Ws 67 t4 t22,Wa 5 (Wk 0)]) .r)))):=by kernel_rfl
theorem w206:Tryz.f206.body.map (Qo C)=some (.q (.R [Wa 2 (.const (.slice none 0 0))]) (.q (.R [Wa 3 (.const (.slice none 0 0))]) (.q (.b 0 (.l (.q (.q (.R [Wm 4 t0,Wb 5 .gtr 3 t4 (Wk 0)]) (.c t5 .s (.x 0))) (.b 1 (.q (.R [Wm 6 t3,Wm 7 t0,Wb 8 .rem 3 t7 (Wk 10000),.n 9 (.buildSlice 102 1 #[(0,t8)]),.n 10 (.call ⟨.builtin .append,#[t6,t9],#[102,102]⟩),Wa 3 t10]) (.R [Wm 11 t0,Wb 12 .quo 3 t11 (Wk 10000),Wa 0 t12])))))) (.q (.R [Wm 13 t3,Wa 2 t13]) .r)))):=by kernel_rfl
theorem w238:Tryz.f238.body.map (Qo C)=some (.q (.R [Wv 6 67,Wa 7 (Wk 0)]) (.q (.q (.R [Wm 10 t2,Wc 11 248 #[t10] #[65],Wb 12 .eql 3 t11 (Wk 0)]) (.c t12 (.q (.R [.n 13 (.build 67 #[]),Ws 67 t6 t13,Wa 7 (Wk 17)]) .r) .s)) (.q (.q (.R [Wm 14 t1,Wc 15 248 #[t14] #[65],Wb 16 .eql 3 t15 (Wk 0)]) (.c t16 (.q (.R [Wc 17 237 #[] #[],.n 18 (.build 67 #[(2,t17)]),Ws 67 t6 t18,Wa 7 (Wk 0)]) .r) .s)) (.q (.R [Wm 19 t1,Wm 20 t2,Wc 21 276 #[t19,t20] #[65,65],Wv 8 65,Ws 65 t8 t21]) (.q (.R [.n 22 (.makeFunc (.func 277) #[] #[t8]),Wa 9 t22]) (.q (.R [Wm 23 t0,Wm 24 t9,Wm 25 t1,.n 26 (.call ⟨.value t24,#[t25],#[65]⟩),Wm 27 t9,Wm 28 t2,.n 29 (.call ⟨.value t27,#[t28],#[65]⟩),.n 30 (.build 67 #[(0,t23),(1,t26),(2,t29)]),Ws 67 t6 t30,Wa 7 (Wk 0)]) .r)))))):=by kernel_rfl
theorem w254:Tryz.f254.body.map (Qo C)=some (.q (.R [Wa 2 Wo]) (.q (.R [Wm 3 t0,Wc 4 146 #[t3,Wk 4] #[23,3],Wb 5 .eql 73 t4 (Wk 0),Wa 2 t5]) .r)):=by kernel_rfl
theorem w262:Tryz.f262.body.map (Qo C)=some (.q (.R [Wa 4 (Wk 0)]) (.q (.q (.R [Wm 5 t1,Wm 6 t0,Wn 7 t6 102,Wb 8 .lss 3 t5 t7]) (.c t8 (.q (.R [Wm 9 t0,Wm 10 t1,Wi 11 102 t9 t10,Wl 12 3 t11,Wa 4 t12]) .r) .s)) (.q (.R [Wa 4 (Wk 0)]) .r))):=by kernel_rfl
theorem w278:Tryz.f278.body.map (Qo C)=some (.q (.R [Wa 4 (.const (.slice none 0 0))]) (.q (.R [Wm 9 t0,Wm 10 t1,Wc 11 296 #[t9,t10] #[65,65],Wm 8 t11,We 12 t8 0,We 13 t8 1,We 14 t8 2,Wa 5 t12,Wa 6 t13,Wa 7 t14]) (.q (.R [Wm 15 t5,Wa 4 t15]) .r))):=by kernel_rfl
theorem w286:Tryz.f286.body.map (Qo C)=some (.q (.R [Wa 3 Wo]) (.q (.D true [Wm 4 t0,Wn 5 t4 23,Wb 6 .eql 3 t5 (Wk 1),Wm 7 t6,.g (some 8) (.move t0) 7 true,.g (some 9) (.indexAddr 23 t8 (Wk 0)) 7 true,.g (some 10) (.load 3 t9) 7 true,.g (some 11) (.binOp .geq 3 t10 (Wk 0) 3) 7 true,.n 12 (.pick t7 t11 Wo),Wm 13 t12,.g (some 14) (.move t0) 13 true,.g (some 15) (.indexAddr 23 t14 (Wk 0)) 13 true,.g (some 16) (.load 3 t15) 13 true,.g (some 17) (.load 3 t1) 13 true,.g (some 18) (.binOp .leq 3 t16 t17 3) 13 true,.n 19 (.pick t13 t18 Wo),Wa 3 t19]) .r)):=by kernel_rfl
theorem w302:Tryz.f302.body.map (Qo C)=some (.q (.R [Wa 6 (.const (.int .u64 0))]) (.q (.q (.R [Wm 8 t0,Wl 9 3 t1,Wb 10 .lss 3 t8 t9]) (.c t10 (.q (.R [Wa 6 (.const (.int .u64 0))]) .r) .s)) (.q (.D true [Wl 11 65 t2,Wm 12 t0,Wl 13 3 t1,Wb 14 .sub 3 t12 t13,Wc 15 292 #[t11,t14] #[65,3],Wl 16 106 t3,.n 17 (.convert 106 271 t16),Wb 18 .mul 271 t15 t17,Wl 19 271 t4,Wb 20 .add 271 t18 t19,Wa 7 t20]) (.q (.R [Wm 21 t7,.n 22 (.binOp .shr 271 t21 (.const (.int .u64 32)) 58),Ws 271 t4 t22]) (.q (.R [Wm 23 t7,Wb 24 .and 271 t23 (.const (.int .u64 4294967295)),Wa 6 t24]) .r))))):=by kernel_rfl
theorem w310:Tryz.f310.body.map (Qo C)=some (.q (.R [Wa 4 (.const (.int .u32 0))]) (.q (.q (.R [Wm 7 t1,Wn 8 t7 64,Wm 9 (Wk 0)]) (.b 0 (.l (.q (.R [Wb 10 .lss 3 t9 t8]) (.q (.c t10 .s (.x 0)) (.q (.b 1 (.q (.R [Wm 11 t9,Wi 12 64 t7 t9,Wl 13 106 t12,Wa 5 t11,Wa 6 t13]) (.R [Wm 15 t0,Wm 16 t5,Wm 17 t0,Wm 18 t5,Wi 19 64 t17 t18,Wl 20 106 t19,Wm 21 t6,Wm 22 t4,Wc 23 325 #[t20,t21,t22] #[106,106,106],Wm 14 t23,We 24 t14 0,We 25 t14 1,Wi 26 64 t15 t16,Ws 106 t26 t24,Wa 4 t25]))) (.R [Wb 27 .add 3 t9 (Wk 1),Wm 9 t27]))))))) (.R [Wm 28 t0,Wm 29 t1,Wn 30 t29 64,Wi 31 64 t28 t30,Wl 32 106 t31,Wm 33 t4,Wb 34 .add 106 t32 t33,Wi 35 64 t28 t30,Ws 106 t35 t34]))):=by kernel_rfl
theorem w325:Tryz.f325.body.map (Qo C)=some (.q (.R [Wa 6 (.const (.int .u32 0)),Wa 7 (.const (.int .u32 0))]) (.q (.R [Wm 9 t0,.n 10 (.convert 106 271 t9),Wm 11 t1,.n 12 (.convert 106 271 t11),Wb 13 .add 271 t10 t12,Wm 14 t2,.n 15 (.convert 106 271 t14),Wb 16 .add 271 t13 t15,Wa 8 t16]) (.q (.R [Wm 17 t8,.n 18 (.convert 271 106 t17),Wa 6 t18]) (.q (.R [Wm 19 t8,.n 20 (.binOp .shr 271 t19 (.const (.int .u64 32)) 58),.n 21 (.convert 271 106 t20),Wa 7 t21]) .r)))):=by kernel_rfl
theorem w7:Tryz.f7.body.map (Qo C)=some (.q (.R [.n 6 (.box 25 t1),Wa 10 Wo]) (.q (.q (.R [Wm 13 t2,Wc 14 9 #[t13] #[26],.n 15 (.unOp .not 4 t14),Wm 16 t15,.g (some 17) (.move t2) 16 false,.g (some 18) (.call ⟨.builtin .len,#[t17],#[26]⟩) 16 false,.g (some 19) (.binOp .eql 3 t18 (Wk 0) 3) 16 false,.n 20 (.pick t16 Wt t19),Wm 21 t20,.g (some 22) (.move t4) 21 false,.g (some 23) (.binOp .eql 36 t22 (Wk 1) 36) 21 false,.n 24 (.pick t21 Wt t23),Wm 25 t24,.g (some 26) (.move t0) 25 false,.g (some 27) (.load 25 t6) 25 false,.g (some 28) (.call ⟨.value (.func 19),#[t26,t27],#[3,25]⟩) 25 false,.g (some 29) (.binOp .neq 3 t28 (Wk 0) 3) 25 false,.n 30 (.pick t25 Wt t29),Wm 31 t30,.g (some 32) (.move t2) 31 false,.g (some 33) (.call ⟨.builtin .len,#[t32],#[26]⟩) 31 false,.g (some 34) (.fieldAddr 25 t6 1) 31 false,.g (some 35) (.load 23 t34) 31 false,.g (some 36) (.call ⟨.builtin .len,#[t35],#[23]⟩) 31 false,.g (some 37) (.binOp .neq 3 t33 t36 3) 31 false,.n 38 (.pick t31 Wt t37)]) (.c t38 (.q (.R [Wc 39 10 #[] #[],Wa 10 t39]) .r) .s)) (.q (.R [Wm 40 t2,Wc 41 14 #[t40] #[26],Wa 11 t41]) (.q (.R [Wm 42 t11,Wm 43 t3,.n 44 (.convert 3 58 t43),Wm 45 t11,Wn 46 t45 26,.n 47 (.convert 3 58 t46),Wb 48 .rem 58 t44 t47,.n 49 (.convert 58 3 t48),Wm 50 t4,.n 51 (.build 42 #[(0,t50)]),Wi 52 26 t42 t49,Ws 42 t52 t51]) (.q (.R [Wm 53 t0,Wl 54 25 t6,Wm 55 t11,Wc 56 13 #[t53,t54,Wk 0,t55] #[3,25,3,26],Wv 12 42,Ws 42 t12 t56]) (.q (.R [Wf 57 42 t12 0,Wl 58 36 t57,Wb 59 .eql 36 t58 (Wk 4),Wm 60 t59,.g (some 61) (.fieldAddr 42 t12 1) 60 true,.g (some 62) (.load 40 t61) 60 true,.g (some 63) (.call ⟨.value (.func 15),#[t62],#[40]⟩) 60 true,.n 64 (.pick t60 t63 Wo),Wm 65 t64,.g (some 66) (.call ⟨.value (.func 10),#[],#[]⟩) 65 true,.n 67 (.pick t65 t66 Wo),Wa 10 t67]) .r)))))):=by kernel_rfl
theorem w15:Tryz.f15.body.map (Qo C)=some (.q (.R [.n 1 (.box 40 t0),Wa 2 Wo]) (.q (.R [Wf 3 40 t1 0,Wl 4 37 t3,Wn 5 t4 37,Wb 6 .eql 3 t5 (Wk 0),Wm 7 t6,.g (some 8) (.fieldAddr 40 t1 1) 7 true,.g (some 9) (.load 38 t8) 7 true,.g (some 10) (.call ⟨.builtin .len,#[t9],#[38]⟩) 7 true,.g (some 11) (.binOp .eql 3 t10 (Wk 0) 3) 7 true,.n 12 (.pick t7 t11 Wo),Wa 2 t12]) .r)):=by kernel_rfl
theorem w47:Tryz.f47.body.map (Qo C)=some (.q (.R [Wm 4 t0,Wn 5 t4 23,Wb 6 .sub 3 t5 (Wk 1),Wa 2 (Wk 0),Wa 3 t6]) (.b 0 (.l (.q (.q (.R [Wm 7 t2,Wm 8 t3,Wb 9 .lss 3 t7 t8]) (.c t9 .s (.x 0))) (.q (.b 1 (.D true [Wm 14 t0,Wm 15 t2,Wm 16 t0,Wm 17 t3,Wm 18 t0,Wm 19 t3,Wi 20 23 t18 t19,Wl 21 3 t20,Wm 22 t0,Wm 23 t2,Wi 24 23 t22 t23,Wl 25 3 t24,Wi 26 23 t14 t15,Ws 3 t26 t21,Wi 27 23 t16 t17,Ws 3 t27 t25])) (.R [Wm 10 t2,Wb 11 .add 3 t10 (Wk 1),Wm 12 t3,Wb 13 .sub 3 t12 (Wk 1),Wa 2 t11,Wa 3 t13])))))):=by kernel_rfl
theorem w79:Tryz.f79.body.map (Qo C)=some (.q (.R [.n 2 (.box 128 t0),.n 3 (.box 23 t1),Wa 4 (.const .nilFunc)]) (.q (.R [.n 5 (.makeFunc (.func 176) #[] #[t2,t3]),Wc 6 66 #[t5] #[121],Wa 4 t6]) .r)):=by kernel_rfl
theorem w103:Tryz.f103.body.map (Qo C)=some (.q (.R [Wv 2 97,Wa 3 Wo]) (.q (.R [Wc 6 199 #[] #[],Wa 4 t6]) (.q (.R [Wm 7 t4,Wm 8 t0,Wc 9 200 #[t7,t8] #[210,140],Wa 5 t9]) (.q (.q (.R [Wm 10 t5,Wb 11 .lss 3 t10 (Wk 0)]) (.c t11 (.q (.R [.n 12 (.build 97 #[]),Ws 97 t2 t12,Wa 3 Wo]) .r) .s)) (.q (.R [Wm 13 t4,Wm 14 t5,Wi 15 210 t13 t14,Wl 16 97 t15,Ws 97 t2 t16,Wa 3 Wt]) .r))))):=by kernel_rfl
theorem w143:Tryz.f143.body.map (Qo C)=some (.q (.R [Wa 4 (Wk 0)]) (.q (.q (.R [Wm 11 t0,Wm 12 t1,.n 13 (.buildSlice 75 2 #[(0,t11),(1,t12)]),Wn 14 t13 75,Wm 15 (Wk 0)]) (.b 0 (.l (.q (.R [Wb 16 .lss 3 t15 t14]) (.q (.c t16 .s (.x 0)) (.q (.b 1 (.q (.R [Wi 17 75 t13 t15,Wl 18 37 t17,Wa 6 t18]) (.q (.R [Wm 19 t6,Wc 20 59 #[t19] #[37],Wa 7 t20]) (.q (.R [Wm 21 t7,Wb 22 .neq 73 t21 (Wk 0)]) (.c t22 (.q (.R [Wm 23 t7,Wa 4 t23]) .r) .s))))) (.R [Wb 24 .add 3 t15 (Wk 1),Wm 15 t24]))))))) (.q (.R [Wm 25 t1,Wn 26 t25 37,Wm 27 t0,Wn 28 t27 37,Wb 29 .sub 3 t26 t28,Wa 8 t29]) (.q (.q (.R [Wm 30 t8,Wb 31 .lss 3 t30 (Wk 0)]) (.c t31 (.q (.R [Wa 4 (Wk 13)]) .r) .s)) (.q (.q (.R [Wm 32 t0,Wn 33 t32 37,Wm 34 (Wk 0)]) (.b 2 (.l (.q (.R [Wb 35 .lss 3 t34 t33]) (.q (.c t35 .s (.x 2)) (.q (.b 3 (.q (.R [Wm 36 t34,Wi 37 37 t32 t34,Wl 38 3 t37,Wa 9 t36,Wa 10 t38]) (.q (.R [Wm 39 t10,Wb 40 .neq 3 t39 (Wk 1),Wm 41 t40,.g (some 42) (.move t10) 41 true,.g (some 43) (.move t1) 41 true,.g (some 44) (.move t8) 41 true,.g (some 45) (.move t9) 41 true,.g (some 46) (.binOp .add 3 t44 t45 3) 41 true,.g (some 47) (.indexAddr 37 t43 t46) 41 true,.g (some 48) (.load 3 t47) 41 true,.g (some 49) (.binOp .neq 3 t42 t48 3) 41 true,.n 50 (.pick t41 t49 Wo)]) (.c t50 (.q (.R [Wa 4 (Wk 13)]) .r) .s)))) (.R [Wb 51 .add 3 t34 (Wk 1),Wm 34 t51]))))))) (.q (.R [Wa 4 (Wk 0)]) .r)))))):=by kernel_rfl
theorem w151:Tryz.f151.body.map (Qo C)=some (.q (.R [Wa 4 (.const (.slice none 0 0)),Wa 5 (Wk 0)]) (.q (.R [Wm 10 t1,Wi 11 75 t10 (Wk 0),Wl 12 37 t11,Wa 6 t12]) (.q (.q (.R [Wm 13 t0,Wm 14 t6,Wn 15 t14 37,Wb 16 .geq 3 t13 t15]) (.c t16 (.q (.R [Wa 4 (.const (.slice none 0 0)),Wa 5 (Wk 13)]) .r) .s)) (.q (.R [Wm 17 t6,Wc 18 139 #[t17] #[37],Wa 7 t18]) (.q (.q (.R [Wm 19 t1,.n 20 (.slice 75 t19 (some (Wk 1)) none none),Wn 21 t20 75,Wm 22 (Wk 0)]) (.b 0 (.l (.q (.R [Wb 23 .lss 3 t22 t21]) (.q (.c t23 .s (.x 0)) (.q (.b 1 (.q (.R [Wi 24 75 t20 t22,Wl 25 37 t24,Wa 9 t25]) (.q (.q (.R [Wm 26 t9,Wn 27 t26 37,Wm 28 t6,Wn 29 t28 37,Wb 30 .neq 3 t27 t29,Wm 31 t30,.g (some 32) (.move t9) 31 false,.g (some 33) (.move t0) 31 false,.g (some 34) (.buildSlice 23 1 #[(0,t33)]) 31 false,.g (some 35) (.call ⟨.value (.func 147),#[t32,t34],#[37,23]⟩) 31 false,.g (some 36) (.move t6) 31 false,.g (some 37) (.move t0) 31 false,.g (some 38) (.buildSlice 23 1 #[(0,t37)]) 31 false,.g (some 39) (.call ⟨.value (.func 147),#[t36,t38],#[37,23]⟩) 31 false,.g (some 40) (.call ⟨.value (.func 141),#[t35,t39],#[37,37]⟩) 31 false,.g (some 41) (.unOp .not 4 t40) 31 false,.n 42 (.pick t31 Wt t41)]) (.c t42 (.q (.R [Wa 4 (.const (.slice none 0 0)),Wa 5 (Wk 13)]) .r) .s)) (.D true [Wm 43 t7,Wm 44 t0,Wi 45 37 t43 t44,Wl 46 3 t45,Wm 47 t9,Wm 48 t0,Wi 49 37 t47 t48,Wl 50 3 t49,Wb 51 .add 3 t46 t50,Wi 52 37 t43 t44,Ws 3 t52 t51])))) (.R [Wb 53 .add 3 t22 (Wk 1),Wm 22 t53]))))))) (.q (.R [Wm 54 t7,Wc 55 224 #[t54] #[37],We 56 t55 0,We 57 t55 1,Wa 4 t56,Wa 5 t57]) .r)))))):=by kernel_rfl
theorem w167:Tryz.f167.body.map (Qo C)=some (.q (.R [Wv 2 67]) (.q (.R [Wm 3 t0,Wb 4 .lss 2 t3 (Wk 0),Wm 5 t0,Wc 6 236 #[t5] #[2],Wc 7 237 #[] #[],.n 8 (.build 67 #[(0,t4),(1,t6),(2,t7)]),Ws 67 t2 t8]) .r)):=by kernel_rfl
theorem w199:Tryz.f199.body.map (Qo C)=some (.q (.R [Wa 0 (.const (.slice none 0 0))]) (.q (.R [.n 1 (.build 97 #[(0,Wk 1),(1,.const (.string { data:=#[97,100,100] })),(2,Wk 1),(3,Wk 3),(4,Wk 2),(5,Wk 2),(6,.func 249),(7,Wk 0)]),.n 2 (.build 97 #[(0,Wk 2),(1,.const (.string { data:=#[115,117,98] })),(2,Wk 1),(3,Wk 3),(4,Wk 2),(5,Wk 2),(6,.func 249),(7,Wk 0)]),.n 3 (.build 97 #[(0,Wk 3),(1,.const (.string { data:=#[109,117,108] })),(2,Wk 1),(3,Wk 3),(4,Wk 2),(5,Wk 2),(6,.func 249),(7,Wk 0)]),.n 4 (.build 97 #[(0,Wk 4),(1,.const (.string { data:=#[100,105,118] })),(2,Wk 1),(3,Wk 3),(4,Wk 2),(5,Wk 2),(6,.func 249),(7,Wk 0)]),.n 5 (.build 97 #[(0,Wk 5),(1,.const (.string { data:=#[110,101,103] })),(2,Wk 1),(3,Wk 3),(4,Wk 1),(5,Wk 1),(6,.func 249),(7,Wk 0)]),Wc 6 250 #[Wk 16] #[3],.n 7 (.build 97 #[(0,Wk 6),(1,.const (.string { data:=#[112,111,119] })),(2,Wk 1),(3,Wk 3),(4,Wk 1),(5,Wk 1),(6,t6),(7,Wk 1)]),.n 8 (.build 97 #[(0,Wk 7),(1,.const (.string { data:=#[114,101,108,117] })),(2,Wk 1),(3,Wk 3),(4,Wk 1),(5,Wk 1),(6,.func 249),(7,Wk 0)]),.n 9 (.build 97 #[(0,Wk 8),(1,.const (.string { data:=#[115,116,101,112] })),(2,Wk 3),(3,Wk 3),(4,Wk 1),(5,Wk 1),(6,.func 249),(7,Wk 0)]),.n 10 (.build 97 #[(0,Wk 9),(1,.const (.string { data:=#[115,99,97,108,101] })),(2,Wk 3),(3,Wk 3),(4,Wk 1),(5,Wk 1),(6,.func 251),(7,Wk 0)]),.n 11 (.build 97 #[(0,Wk 10),(1,.const (.string { data:=#[109,97,116,109,117,108] })),(2,Wk 1),(3,Wk 3),(4,Wk 2),(5,Wk 2),(6,.func 249),(7,Wk 0)]),.n 12 (.build 97 #[(0,Wk 11),(1,.const (.string { data:=#[116,114,97,110,115,112,111,115,101] })),(2,Wk 1),(3,Wk 3),(4,Wk 1),(5,Wk 1),(6,.func 252),(7,Wk 1)]),.n 13 (.build 97 #[(0,Wk 12),(1,.const (.string { data:=#[114,101,115,104,97,112,101] })),(2,Wk 1),(3,Wk 3),(4,Wk 1),(5,Wk 1),(6,.func 253),(7,Wk 0)]),.n 14 (.build 97 #[(0,Wk 13),(1,.const (.string { data:=#[98,114,111,97,100,99,97,115,116] })),(2,Wk 1),(3,Wk 3),(4,Wk 1),(5,Wk 1),(6,.func 253),(7,Wk 0)]),.n 15 (.build 97 #[(0,Wk 14),(1,.const (.string { data:=#[115,117,109] })),(2,Wk 1),(3,Wk 3),(4,Wk 1),(5,Wk 1),(6,.func 254),(7,Wk 2)]),Wc 16 255 #[.func 256] #[138],.n 17 (.build 97 #[(0,Wk 15),(1,.const (.string { data:=#[115,108,105,99,101] })),(2,Wk 1),(3,Wk 3),(4,Wk 1),(5,Wk 1),(6,t16),(7,Wk 0)]),Wc 18 255 #[.func 257] #[138],.n 19 (.build 97 #[(0,Wk 16),(1,.const (.string { data:=#[112,97,100] })),(2,Wk 1),(3,Wk 3),(4,Wk 1),(5,Wk 1),(6,t18),(7,Wk 0)]),Wc 20 250 #[Wk 3] #[3],.n 21 (.build 97 #[(0,Wk 17),(1,.const (.string { data:=#[99,111,110,99,97,116] })),(2,Wk 1),(3,Wk 3),(4,Wk 1),(5,Wk 8),(6,t20),(7,Wk 1)]),.n 22 (.build 97 #[(0,Wk 18),(1,.const (.string { data:=#[115,113,117,97,114,101] })),(2,Wk 1),(3,Wk 1),(4,Wk 1),(5,Wk 1),(6,.func 249),(7,Wk 0)]),.n 23 (.build 97 #[(0,Wk 19),(1,.const (.string { data:=#[103,101,109,109] })),(2,Wk 1),(3,Wk 2),(4,Wk 3),(5,Wk 3),(6,.func 249),(7,Wk 0)]),.n 24 (.build 97 #[(0,Wk 20),(1,.const (.string { data:=#[109,101,97,110] })),(2,Wk 1),(3,Wk 2),(4,Wk 1),(5,Wk 1),(6,.func 254),(7,Wk 2)]),.n 25 (.buildSlice 210 20 #[(0,t1),(1,t2),(2,t3),(3,t4),(4,t5),(5,t7),(6,t8),(7,t9),(8,t10),(9,t11),(10,t12),(11,t13),(12,t14),(13,t15),(14,t17),(15,t19),(16,t21),(17,t22),(18,t23),(19,t24)]),Wa 0 t25]) .r)):=by kernel_rfl
theorem w207:Tryz.f207.body.map (Qo C)=some (.q (.R [Wa 2 (.const (.slice none 0 0))]) (.q (.R [Wa 3 (.const (.slice none 0 0))]) (.q (.b 0 (.l (.q (.q (.R [Wm 8 t0,Wn 9 t8 102,Wb 10 .gtr 3 t9 (Wk 0)]) (.c t10 .s (.x 0))) (.b 1 (.q (.R [Wm 12 t0,Wc 13 201 #[t12,Wk 65536] #[102,3],Wm 11 t13,We 14 t11 0,We 15 t11 1,Wa 4 t14,Wa 5 t15]) (.q (.R [Wm 17 t4,Wc 18 201 #[t17,Wk 65536] #[102,3],Wm 16 t18,We 19 t16 0,We 20 t16 1,Wa 6 t19,Wa 7 t20]) (.q (.R [Wm 21 t3,Wm 22 t7,.n 23 (.convert 3 106 t22),Wb 24 .mul 106 t23 (.const (.int .u32 65536)),Wm 25 t5,.n 26 (.convert 3 106 t25),Wb 27 .add 106 t24 t26,.n 28 (.buildSlice 65 1 #[(0,t27)]),.n 29 (.call ⟨.builtin .append,#[t21,t28],#[65,65]⟩),Wa 3 t29]) (.R [Wm 30 t6,Wa 0 t30])))))))) (.q (.R [Wm 31 t3,Wa 2 t31]) .r)))):=by kernel_rfl
theorem w223:Tryz.f223.body.map (Qo C)=some (.q (.R [Wa 4 Wo]) (.q (.q (.R [Wm 6 t0,Wn 7 t6 37,Wm 8 t1,Wn 9 t8 37,Wb 10 .neq 3 t7 t9]) (.c t10 (.q (.R [Wa 4 Wo]) .r) .s)) (.q (.q (.R [Wm 11 t0,Wn 12 t11 37,Wm 13 (Wk 0)]) (.b 0 (.l (.q (.R [Wb 14 .lss 3 t13 t12]) (.q (.c t14 .s (.x 0)) (.q (.b 1 (.q (.R [Wm 15 t13,Wa 5 t15]) (.q (.D true [Wm 16 t0,Wm 17 t5,Wi 18 37 t16 t17,Wl 19 3 t18,Wm 20 t1,Wm 21 t5,Wi 22 37 t20 t21,Wl 23 3 t22,Wb 24 .neq 3 t19 t23]) (.c t24 (.q (.R [Wa 4 Wo]) .r) .s)))) (.R [Wb 25 .add 3 t13 (Wk 1),Wm 13 t25]))))))) (.q (.R [Wa 4 Wt]) .r)))):=by kernel_rfl
theorem w239:Tryz.f239.body.map (Qo C)=some (.q (.R [Wa 2 (.const (.slice none 0 0))]) (.q (.R [Wm 4 t0,Wc 5 279 #[t4] #[247],Wa 3 t5]) (.q (.R [Wm 6 t3,Wc 7 280 #[t6] #[23]]) (.q (.R [Wm 8 t3,Wa 2 t8]) .r)))):=by kernel_rfl
theorem w247:Tryz.f247.body.map (Qo C)=some (.q (.R [Wf 5 146 t1 1,Wl 6 38 t5,Wn 7 t6 38,Wm 8 (Wk 0)]) (.b 0 (.l (.q (.R [Wb 9 .lss 3 t8 t7]) (.q (.c t9 .s (.x 0)) (.q (.b 1 (.q (.R [Wm 10 t8,Wi 11 38 t6 t8,Wl 12 67 t11,Wv 4 67,Wa 3 t10,Ws 67 t4 t12]) (.q (.R [Wm 13 t0,Wm 14 t3,Wl 15 67 t4,.n 16 (.call ⟨.value t13,#[t14,t15],#[3,67]⟩),.n 17 (.unOp .not 4 t16)]) (.c t17 .r .s)))) (.R [Wb 18 .add 3 t8 (Wk 1),Wm 8 t18]))))))):=by kernel_rfl
theorem w255:Tryz.f255.body.map (Qo C)=some (.q (.R [.n 1 (.box 138 t0),Wa 2 (.const .nilFunc)]) (.q (.R [.n 3 (.makeFunc (.func 287) #[] #[t1]),Wa 2 t3]) .r)):=by kernel_rfl
theorem w271:Tryz.f271.body.map (Qo C)=some (.q (.R [.n 2 (.box 65 t0),.n 3 (.box 65 t1),Wa 4 (.const (.slice none 0 0))]) (.q (.R [Wl 5 65 t2,Wn 6 t5 65,Wl 7 65 t3,Wn 8 t7 65,.n 9 (.call ⟨.builtin .max,#[t6,t8],#[3,3]⟩),.n 10 (.makeFunc (.func 291) #[] #[t2,t3]),Wc 11 290 #[t9,t10] #[3,278],Wa 4 t11]) .r)):=by kernel_rfl
theorem w279:Tryz.f279.body.map (Qo C)=some (.q (.R [Wa 2 (.const (.slice none 0 0))]) (.q (.R [Wm 3 t0,Wc 4 297 #[.const (.slice none 0 0),t3] #[23,247],Wa 2 t4]) .r)):=by kernel_rfl
theorem w287:Tryz.f287.body.map (Qo C)=some (.q (.R [Wa 3 Wo]) (.q (.q (.R [Wm 5 t0,Wn 6 t5 23,Wb 7 .rem 3 t6 (Wk 2),Wb 8 .neq 3 t7 (Wk 0),Wm 9 t8,.g (some 10) (.move t0) 9 false,.g (some 11) (.call ⟨.builtin .len,#[t10],#[23]⟩) 9 false,.g (some 12) (.binOp .gtr 3 t11 (Wk 8) 3) 9 false,.n 13 (.pick t9 Wt t12)]) (.c t13 (.q (.R [Wa 3 Wo]) .r) .s)) (.q (.q (.R [Wa 4 (Wk 0)]) (.b 0 (.l (.q (.q (.R [Wm 14 t4,Wm 15 t0,Wn 16 t15 23,Wb 17 .lss 3 t14 t16]) (.c t17 .s (.x 0))) (.q (.b 1 (.q (.U [Wl 20 138 t1,Wm 21 t0,Wm 22 t4,Wi 23 23 t21 t22,Wl 24 3 t23,Wm 25 t0,Wm 26 t4,Wb 27 .add 3 t26 (Wk 1),Wi 28 23 t25 t27,Wl 29 3 t28,.n 30 (.call ⟨.value t20,#[t24,t29],#[3,3]⟩),.n 31 (.unOp .not 4 t30)]) (.c t31 (.q (.R [Wa 3 Wo]) .r) .s))) (.R [Wm 18 t4,Wb 19 .add 3 t18 (Wk 2),Wa 4 t19])))))) (.q (.R [Wa 3 Wt]) .r)))):=by kernel_rfl
theorem w295:Tryz.f295.body.map (Qo C)=some (.q (.R [Wa 3 (.const (.int .u64 0))]) (.q (.R [Wl 4 271 t1,Wm 5 t0,Wb 6 .mul 3 (Wk 32) t5,.n 7 (.binOp .shr 271 t4 t6 3),Wb 8 .and 271 t7 (.const (.int .u64 4294967295)),Wa 3 t8]) .r)):=by kernel_rfl
theorem w303:Tryz.f303.body.map (Qo C)=some (.q (.R [Wl 4 65 t1,Wm 5 t0,.n 6 (.convert 271 106 t5),.n 7 (.buildSlice 65 1 #[(0,t6)]),.n 8 (.call ⟨.builtin .append,#[t4,t7],#[65,65]⟩),Ws 65 t1 t8]) (.R [Wm 9 t0,.n 10 (.binOp .shr 271 t9 (.const (.int .u64 32)) 58),Ws 271 t2 t10])):=by kernel_rfl
theorem w311:Tryz.f311.body.map (Qo C)=some (.q (.R [.n 2 (.box 65 t0),.n 3 (.box 3 t1),Wa 4 (.const (.slice none 0 0))]) (.q (.R [Wl 5 3 t3,.n 6 (.call ⟨.builtin .max,#[t5,Wk 0],#[3,3]⟩),Ws 3 t3 t6]) (.q (.q (.R [Wl 7 3 t3,Wb 8 .quo 3 t7 (Wk 32),Wl 9 65 t2,Wn 10 t9 65,Wb 11 .geq 3 t8 t10]) (.c t11 (.q (.R [Wa 4 (.const (.slice none 0 0))]) .r) .s)) (.q (.R [Wl 12 65 t2,Wn 13 t12 65,.n 14 (.makeFunc (.func 326) #[] #[t3,t2]),Wc 15 290 #[t13,t14] #[3,278],Wa 4 t15]) .r)))):=by kernel_rfl
theorem w326:Tryz.f326.body.map (Qo C)=some (.q (.R [Wa 4 (.const (.int .u64 0))]) (.q (.R [Wm 5 t0,Wl 6 3 t1,Wb 7 .quo 3 t6 (Wk 32),Wb 8 .add 3 t5 t7,Wa 0 t8]) (.q (.D true [Wl 9 65 t2,Wm 10 t0,Wb 11 .add 3 t10 (Wk 1),Wc 12 292 #[t9,t11] #[65,3],.n 13 (.binOp .shl 271 t12 (.const (.int .u64 32)) 58),Wl 14 65 t2,Wm 15 t0,Wc 16 292 #[t14,t15] #[65,3],Wb 17 .or 271 t13 t16,Wl 18 3 t1,Wb 19 .rem 3 t18 (Wk 32),.n 20 (.binOp .shr 271 t17 t19 3),Wb 21 .and 271 t20 (.const (.int .u64 4294967295)),Wa 4 t21]) .r))):=by kernel_rfl
theorem w32:Tryz.f32.body.map (Qo C)=some (.q (.R [.n 3 (.box 25 t1),Wa 4 (Wk 0)]) (.q (.R [Wf 9 25 t3 0,Wl 10 22 t9,Wc 11 46 #[t10] #[22],Wm 8 t11,We 12 t8 0,We 13 t8 1,Wv 5 97,Ws 97 t5 t12,Wa 6 t13]) (.q (.R [Wa 7 (.func 56)]) (.q (.b 0 (.q (.R [Wm 15 t0,Wb 16 .lss 3 t15 (Wk 1),Wm 17 t16,.g (some 18) (.move t0) 17 false,.g (some 19) (.binOp .gtr 3 t18 (Wk 3) 3) 17 false,.n 20 (.pick t17 Wt t19),Wa 14 t20]) (.c t14 (.q (.R [Wa 4 (Wk 8)]) .r) (.q (.R [Wm 22 t6,.n 23 (.unOp .not 4 t22),Wm 24 t23,.g (some 25) (.load 97 t5) 24 false,.g (some 26) (.move t0) 24 false,.g (some 27) (.call ⟨.value (.func 57),#[t25,t26],#[97,3]⟩) 24 false,.g (some 28) (.unOp .not 4 t27) 24 false,.n 29 (.pick t24 Wt t28),Wa 21 t29]) (.c t21 (.q (.R [Wa 4 (Wk 9)]) .r) (.q (.R [Wf 31 25 t3 1,Wl 32 23 t31,Wn 33 t32 23,Wf 34 97 t5 4,Wl 35 3 t34,Wb 36 .lss 3 t33 t35,Wm 37 t36,.g (some 38) (.fieldAddr 25 t3 1) 37 false,.g (some 39) (.load 23 t38) 37 false,.g (some 40) (.call ⟨.builtin .len,#[t39],#[23]⟩) 37 false,.g (some 41) (.fieldAddr 97 t5 5) 37 false,.g (some 42) (.load 3 t41) 37 false,.g (some 43) (.binOp .gtr 3 t40 t42 3) 37 false,.n 44 (.pick t37 Wt t43),Wa 30 t44]) (.c t30 (.q (.R [Wa 4 (Wk 10)]) .r) (.q (.R [Wf 46 25 t3 2,Wl 47 23 t46,Wn 48 t47 23,Wb 49 .eql 3 t48 (Wk 0),Wm 50 t49,.g (some 51) (.move t0) 50 true,.g (some 52) (.fieldAddr 97 t5 7) 50 true,.g (some 53) (.load 3 t52) 50 true,.g (some 54) (.binOp .leq 3 t51 t53 3) 50 true,.n 55 (.pick t50 t54 Wo),Wa 45 t55]) (.c t45 (.q (.R [Wa 4 (Wk 0)]) .r) (.q (.R [Wf 57 25 t3 2,Wl 58 23 t57,Wm 59 t7,Wc 60 58 #[t58,t59] #[23,114],Wm 61 t60,.g (some 62) (.fieldAddr 97 t5 6) 61 false,.g (some 63) (.load 95 t62) 61 false,.g (some 64) (.fieldAddr 25 t3 2) 61 false,.g (some 65) (.load 23 t64) 61 false,.g (some 66) (.call ⟨.value t63,#[t65],#[23]⟩) 61 false,.g (some 67) (.unOp .not 4 t66) 61 false,.n 68 (.pick t61 Wt t67),Wa 56 t68]) (.c t56 (.q (.R [Wa 4 (Wk 11)]) .r) .s))))))))))) (.q (.R [Wa 4 (Wk 0)]) .r))))):=by kernel_rfl
theorem w56:Tryz.f56.body.map (Qo C)=some (.q (.R [Wa 2 Wo]) (.q (.R [Wm 3 t0,Wb 4 .gtr 3 t3 (Wk 2147483647),Wm 5 t4,.g (some 6) (.move t0) 5 false,.g (some 7) (.binOp .lss 3 t6 (.const (.int .i64 (-2147483647))) 3) 5 false,.n 8 (.pick t5 Wt t7),Wa 2 t8]) .r)):=by kernel_rfl
theorem w64:Tryz.f64.body.map (Qo C)=some (.q (.R [.n 2 (.box 40 t0),.n 3 (.box 40 t1),Wv 4 40,Wa 5 (Wk 0)]) (.q (.D true [Wl 6 40 t2,Wl 7 40 t3,Wc 8 154 #[.func 157] #[178],Wc 9 153 #[t6,t7,t8] #[40,40,176],We 10 t9 0,We 11 t9 1,Ws 40 t4 t10,Wa 5 t11]) .r)):=by kernel_rfl
theorem w104:Tryz.f104.body.map (Qo C)=some (.q (.R [.n 2 (.box 97 t0),Wa 3 Wo]) (.q (.R [Wf 4 97 t2 0,Wl 5 22 t4,Wl 6 22 t1,Wb 7 .eql 22 t5 t6,Wa 3 t7]) .r)):=by kernel_rfl
theorem w112:Tryz.f112.body.map (Qo C)=some (.q (.R [Wa 2 (.const (.slice none 0 0))]) (.q (.q (.R [Wm 3 t0,Wb 4 .eql 65 t3 (.const (.slice none 0 0))]) (.c t4 (.q (.R [Wa 2 (.const (.slice none 0 0))]) .r) .s)) (.q (.R [.n 5 (.buildSlice 65 0 #[]),Wm 6 t0,.n 7 (.call ⟨.builtin .append,#[t5,t6],#[65,65]⟩),Wa 2 t7]) .r))):=by kernel_rfl
theorem w144:Tryz.f144.body.map (Qo C)=some (.q (.R [Wa 4 (.const (.slice none 0 0)),Wa 5 (Wk 0)]) (.q (.q (.R [Wm 8 t1,Wn 9 t8 23,Wm 10 t0,Wn 11 t10 37,Wb 12 .neq 3 t9 t11]) (.c t12 (.q (.R [Wa 4 (.const (.slice none 0 0)),Wa 5 (Wk 13)]) .r) .s)) (.q (.q (.R [Wm 13 t1,Wn 14 t13 23,Wm 15 (Wk 0)]) (.b 0 (.l (.q (.R [Wb 16 .lss 3 t15 t14]) (.q (.c t16 .s (.x 0)) (.q (.b 1 (.q (.R [Wi 17 23 t13 t15,Wl 18 3 t17,Wa 7 t18]) (.R [Wm 19 t4,Wm 20 t0,Wm 21 t7,Wi 22 37 t20 t21,Wl 23 3 t22,.n 24 (.buildSlice 37 1 #[(0,t23)]),.n 25 (.call ⟨.builtin .append,#[t19,t24],#[37,37]⟩),Wa 4 t25]))) (.R [Wb 26 .add 3 t15 (Wk 1),Wm 15 t26]))))))) (.q (.R [Wm 27 t4,Wa 4 t27,Wa 5 (Wk 0)]) .r)))):=by kernel_rfl
theorem w152:Tryz.f152.body.map (Qo C)=some (.q (.R [Wv 3 40,Wa 4 (Wk 0)]) (.q (.U [Wl 5 119 t1,Wm 6 t0,Wi 7 76 t6 (Wk 0),Wl 8 40 t7,Wm 9 t0,Wi 10 76 t9 (Wk 1),Wl 11 40 t10,.n 12 (.call ⟨.value t5,#[t8,t11],#[40,40]⟩),We 13 t12 0,We 14 t12 1,Ws 40 t3 t13,Wa 4 t14]) .r)):=by kernel_rfl
theorem w168:Tryz.f168.body.map (Qo C)=some (.q (.R [.n 1 (.box 67 t0),Wv 2 67]) (.q (.R [Wf 6 67 t1 0,Wl 7 4 t6,Wf 8 67 t1 1,Wl 9 65 t8,Wf 10 67 t1 2,Wl 11 65 t10,Wc 12 238 #[t7,t9,t11] #[4,65,65],Wm 5 t12,We 13 t5 0,We 14 t5 1,Wv 3 67,Ws 67 t3 t13,Wa 4 t14]) (.q (.q (.R [Wm 15 t4,Wb 16 .neq 73 t15 (Wk 0)]) (.c t16 (.q (.R [Wc 17 237 #[] #[],.n 18 (.build 67 #[(2,t17)]),Ws 67 t2 t18]) .r) .s)) (.q (.R [Wl 19 67 t3,Ws 67 t2 t19]) .r)))):=by kernel_rfl
theorem w200:Tryz.f200.body.map (Qo C)=some (.q (.R [Wa 4 (Wk 0)]) (.q (.q (.R [Wm 6 t0,Wn 7 t6 210,Wm 8 (Wk 0)]) (.b 0 (.l (.q (.R [Wb 9 .lss 3 t8 t7]) (.q (.c t9 .s (.x 0)) (.q (.b 1 (.q (.R [Wm 10 t8,Wa 5 t10]) (.q (.R [Wm 11 t1,Wm 12 t0,Wm 13 t5,Wi 14 210 t12 t13,Wl 15 97 t14,.n 16 (.call ⟨.value t11,#[t15],#[97]⟩)]) (.c t16 (.q (.R [Wm 17 t5,Wa 4 t17]) .r) .s)))) (.R [Wb 18 .add 3 t8 (Wk 1),Wm 8 t18]))))))) (.q (.R [Wa 4 (.const (.int .i64 (-1)))]) .r))):=by kernel_rfl
theorem w224:Tryz.f224.body.map (Qo C)=some (.q (.R [Wa 2 (.const (.slice none 0 0)),Wa 3 (Wk 0)]) (.q (.q (.R [Wm 5 t0,Wc 6 59 #[t5] #[37],Wa 4 t6]) (.q (.R [Wm 7 t4,Wb 8 .neq 73 t7 (Wk 0)]) (.c t8 (.q (.R [Wm 9 t4,Wa 2 (.const (.slice none 0 0)),Wa 3 t9]) .r) .s))) (.q (.R [Wm 10 t0,Wa 2 t10,Wa 3 (Wk 0)]) .r))):=by kernel_rfl
theorem w232:Tryz.f232.body.map (Qo C)=some (.q (.R [Wv 2 67]) (.q (.R [Wc 6 167 #[Wk 1] #[2],Wv 3 67,Ws 67 t3 t6]) (.q (.q (.R [Wm 7 t0,Wn 8 t7 38,Wm 9 (Wk 0)]) (.b 0 (.l (.q (.R [Wb 10 .lss 3 t9 t8]) (.q (.c t10 .s (.x 0)) (.q (.b 1 (.q (.R [Wi 11 38 t7 t9,Wl 12 67 t11,Wv 5 67,Ws 67 t5 t12]) (.q (.R [Wl 13 67 t5,Wc 14 168 #[t13] #[67],Ws 67 t5 t14]) (.D true [Wf 16 67 t3 0,Wl 17 4 t16,Wf 18 67 t5 0,Wl 19 4 t18,Wb 20 .neq 4 t17 t19,Wf 21 67 t3 1,Wl 22 65 t21,Wf 23 67 t5 1,Wl 24 65 t23,Wc 25 269 #[t22,t24] #[65,65],Wf 26 67 t3 2,Wl 27 65 t26,Wf 28 67 t5 2,Wl 29 65 t28,Wc 30 269 #[t27,t29] #[65,65],Wc 31 238 #[t20,t25,t30] #[4,65,65],Wm 15 t31,We 32 t15 0,We 33 t15 1,Ws 67 t3 t32])))) (.R [Wb 34 .add 3 t9 (Wk 1),Wm 9 t34]))))))) (.q (.R [Wl 35 67 t3,Ws 67 t2 t35]) .r)))):=by kernel_rfl
theorem w240:Tryz.f240.body.map (Qo C)=some (.q (.R [.n 1 (.box 23 t0),Wa 2 (.const .nilFunc)]) (.q (.R [.n 3 (.makeFunc (.func 281) #[] #[t1]),Wa 2 t3]) .r)):=by kernel_rfl
theorem w248:Tryz.f248.body.map (Qo C)=some (.q (.R [Wa 2 (Wk 0)]) (.q (.R [Wm 4 t0,Wc 5 284 #[t4] #[65],Wa 3 t5]) (.q (.q (.R [Wm 6 t3,Wb 7 .eql 3 t6 (Wk 0)]) (.c t7 (.q (.R [Wa 2 (Wk 0)]) .r) .s)) (.q (.R [Wm 8 t3,Wb 9 .sub 3 t8 (Wk 1),Wb 10 .mul 3 (Wk 32) t9,Wm 11 t0,Wm 12 t3,Wb 13 .sub 3 t12 (Wk 1),Wi 14 65 t11 t13,Wl 15 106 t14,Wc 16 285 #[t15] #[106],Wb 17 .add 3 t10 t16,Wa 2 t17]) .r)))):=by kernel_rfl
theorem w256:Tryz.f256.body.map (Qo C)=some (.q (.R [Wa 4 Wo]) (.q (.R [Wm 5 t0,Wb 6 .geq 3 t5 (Wk 0),Wm 7 t6,.g (some 8) (.move t1) 7 true,.g (some 9) (.move t0) 7 true,.g (some 10) (.binOp .gtr 3 t8 t9 3) 7 true,.n 11 (.pick t7 t10 Wo),Wa 4 t11]) .r)):=by kernel_rfl
theorem w280:Tryz.f280.body.map (Qo C)=some (.q (.R [Wm 3 t0,Wn 4 t3 23,Wa 2 t4]) (.R [Wm 5 t0,Wm 6 t2,Wm 7 t2,.n 8 (.convert 3 58 t7),Wc 9 299 #[t8] #[58],Wc 10 298 #[t5,Wk 0,t6,t9] #[23,3,3,3]])):=by kernel_rfl
theorem w288:Tryz.f288.body.map (Qo C)=some (.q (.R [Wa 4 (Wk 0)]) (.q (.q (.R [Wm 6 t0,Wn 7 t6 23,Wm 8 (Wk 0)]) (.b 0 (.l (.q (.R [Wb 9 .lss 3 t8 t7]) (.q (.c t9 .s (.x 0)) (.q (.b 1 (.q (.R [Wm 10 t8,Wa 5 t10]) (.q (.R [Wm 11 t1,Wm 12 t0,Wm 13 t5,Wi 14 23 t12 t13,Wl 15 3 t14,Wb 16 .eql 3 t11 t15]) (.c t16 (.q (.R [Wm 17 t5,Wa 4 t17]) .r) .s)))) (.R [Wb 18 .add 3 t8 (Wk 1),Wm 8 t18]))))))) (.q (.R [Wa 4 (.const (.int .i64 (-1)))]) .r))):=by kernel_rfl
theorem w296:Tryz.f296.body.map (Qo C)=some (.q (.R [Wa 4 (.const (.slice none 0 0)),Wa 5 (.const (.slice none 0 0)),Wa 6 (Wk 0)]) (.q (.R [Wm 17 t0,Wc 18 275 #[t17] #[65],Wm 19 t1,Wc 20 275 #[t19] #[65],Wa 0 t18,Wa 1 t20]) (.q (.b 0 (.q (.R [Wm 22 t1,Wn 23 t22 65,Wb 24 .eql 3 t23 (Wk 0),Wa 21 t24]) (.c t21 (.q (.R [Wa 4 (.const (.slice none 0 0)),Wa 5 (.const (.slice none 0 0)),Wa 6 (Wk 17)]) .r) (.q (.R [Wm 26 t0,Wm 27 t1,Wc 28 293 #[t26,t27] #[65,65],Wb 29 .lss 3 t28 (Wk 0),Wa 25 t29]) (.c t25 (.q (.R [Wm 30 t0,Wa 4 (.const (.slice none 0 0)),Wa 5 t30,Wa 6 (Wk 0)]) .r) (.q (.R [Wm 32 t1,Wn 33 t32 65,Wb 34 .eql 3 t33 (Wk 1),Wa 31 t34]) (.c t31 (.q (.R [Wm 36 t0,Wm 37 t1,Wi 38 65 t37 (Wk 0),Wl 39 106 t38,Wc 40 305 #[t36,t39] #[65,106],Wm 35 t40,We 41 t35 0,We 42 t35 1,We 43 t35 2,Wa 7 t41,Wa 8 t42,Wa 9 t43]) (.q (.R [Wm 44 t7,Wm 45 t8,.n 46 (.convert 106 271 t45),Wc 47 274 #[t46] #[271],Wm 48 t9,Wa 4 t44,Wa 5 t47,Wa 6 t48]) .r)) .s))))))) (.q (.R [Wm 49 t1,Wm 50 t1,Wn 51 t50 65,Wb 52 .sub 3 t51 (Wk 1),Wi 53 65 t49 t52,Wl 54 106 t53,Wc 55 306 #[t54] #[106],Wa 10 t55]) (.q (.R [Wm 56 t1,Wm 57 t10,Wc 58 307 #[t56,t57] #[65,3],Wa 11 t58]) (.q (.R [Wm 59 t0,Wn 60 t59 65,Wb 61 .add 3 t60 (Wk 1),.n 62 (.makeSlice 64 t61 t61),Wa 12 t62]) (.q (.R [Wm 63 t12,Wm 64 t0,Wm 65 t10,Wc 66 307 #[t64,t65] #[65,3],.n 67 (.call ⟨.builtin .copy,#[t63,t66],#[64,65]⟩)]) (.q (.R [Wm 68 t0,Wn 69 t68 65,Wm 70 t11,Wn 71 t70 65,Wb 72 .sub 3 t69 t71,Wb 73 .add 3 t72 (Wk 1),.n 74 (.makeSlice 65 t73 t73),Wa 13 t74]) (.q (.q (.R [Wm 75 t13,Wn 76 t75 65,Wb 77 .sub 3 t76 (Wk 1),Wa 14 t77]) (.b 1 (.l (.q (.q (.R [Wm 78 t14,Wb 79 .geq 3 t78 (Wk 0)]) (.c t79 .s (.x 1))) (.q (.b 2 (.q (.R [Wm 82 t12,Wm 83 t14,Wm 84 t14,Wm 85 t11,Wn 86 t85 65,Wb 87 .add 3 t84 t86,Wb 88 .add 3 t87 (Wk 1),.n 89 (.slice 64 t82 (some t83) (some t88) none),Wa 15 t89]) (.q (.R [Wm 90 t15,Wm 91 t11,Wc 92 308 #[t90,t91] #[64,64],Wa 16 t92]) (.q (.q (.R [Wm 93 t15,Wm 94 t11,Wm 95 t16,Wc 96 309 #[t93,t94,t95] #[64,64,271]]) (.c t96 (.q (.R [Wm 97 t16,Wb 98 .sub 271 t97 (.const (.int .u64 1)),Wa 16 t98]) (.R [Wm 99 t15,Wm 100 t11,Wc 101 310 #[t99,t100] #[64,64]])) .s)) (.R [Wm 102 t13,Wm 103 t14,Wm 104 t16,.n 105 (.convert 271 106 t104),Wi 106 65 t102 t103,Ws 106 t106 t105]))))) (.R [Wm 80 t14,Wb 81 .sub 3 t80 (Wk 1),Wa 14 t81])))))) (.q (.R [Wm 107 t13,Wc 108 275 #[t107] #[65],Wm 109 t12,Wc 110 275 #[t109] #[65],Wm 111 t10,Wc 112 311 #[t110,t111] #[65,3],Wa 4 t108,Wa 5 t112,Wa 6 (Wk 0)]) .r)))))))))):=by kernel_rfl
theorem w304:Tryz.f304.body.map (Qo C)=some (.q (.R [Wa 2 (.const .nilFunc)]) (.q (.R [Wv 3 3,Ws 3 t3 (Wk 0)]) (.q (.q (.R [Wm 6 t0,Wn 7 t6 304,Wm 8 (Wk 0)]) (.b 0 (.l (.q (.R [Wb 9 .lss 3 t8 t7]) (.q (.c t9 .s (.x 0)) (.q (.b 1 (.q (.R [Wi 10 304 t6 t8,Wl 11 65 t10,Wa 5 t11]) (.R [Wl 12 3 t3,Wm 13 t5,Wn 14 t13 65,.n 15 (.call ⟨.builtin .max,#[t12,t14],#[3,3]⟩),Ws 3 t3 t15]))) (.R [Wb 16 .add 3 t8 (Wk 1),Wm 8 t16]))))))) (.q (.R [.n 17 (.makeFunc (.func 322) #[] #[t3]),Wa 2 t17]) .r)))):=by kernel_rfl
theorem w312:Tryz.f312.body.map (Qo C)=some (.q (.R [Wm 8 t1,Wb 9 .add 3 t8 (Wk 1),Wa 6 t9]) (.b 0 (.l (.q (.q (.R [Wm 10 t6,Wm 11 t2,Wb 12 .lss 3 t10 t11]) (.c t12 .s (.x 0))) (.q (.b 1 (.q (.R [Wm 15 t6,Wa 7 t15]) (.b 2 (.l (.q (.q (.D true [Wm 16 t7,Wm 17 t1,Wb 18 .gtr 3 t16 t17,Wm 19 t18,.g (some 20) (.move t0) 19 true,.g (some 21) (.move t7) 19 true,.g (some 22) (.indexAddr 23 t20 t21) 19 true,.g (some 23) (.load 3 t22) 19 true,.g (some 24) (.move t0) 19 true,.g (some 25) (.move t7) 19 true,.g (some 26) (.binOp .sub 3 t25 (Wk 1) 3) 19 true,.g (some 27) (.indexAddr 23 t24 t26) 19 true,.g (some 28) (.load 3 t27) 19 true,.g (some 29) (.call ⟨.value (.func 318),#[t23,t28],#[3,3]⟩) 19 true,.n 30 (.pick t19 t29 Wo)]) (.c t30 .s (.x 2))) (.q (.b 3 (.D true [Wm 33 t0,Wm 34 t7,Wm 35 t0,Wm 36 t7,Wb 37 .sub 3 t36 (Wk 1),Wm 38 t0,Wm 39 t7,Wb 40 .sub 3 t39 (Wk 1),Wi 41 23 t38 t40,Wl 42 3 t41,Wm 43 t0,Wm 44 t7,Wi 45 23 t43 t44,Wl 46 3 t45,Wi 47 23 t33 t34,Ws 3 t47 t42,Wi 48 23 t35 t37,Ws 3 t48 t46])) (.R [Wm 31 t7,Wb 32 .sub 3 t31 (Wk 1),Wa 7 t32]))))))) (.R [Wm 13 t6,Wb 14 .add 3 t13 (Wk 1),Wa 6 t14])))))):=by kernel_rfl
theorem w332:Tryz.f332.body.map (Qo C)=some (.q (.R [Wa 2 Wo]) (.q (.R [Wm 3 t0,Wm 4 t0,Wb 5 .neq 3 t3 t4,Wa 2 t5]) .r)):=by kernel_rfl
theorem w9:Tryz.f9.body.map (Qo C)=some (.q (.R [Wa 2 Wo]) (.q (.q (.R [Wa 3 (Wk 0)]) (.b 0 (.l (.q (.q (.R [Wm 5 t3,Wm 6 t0,Wn 7 t6 26,Wb 8 .lss 3 t5 t7]) (.c t8 .s (.x 0))) (.q (.b 1 (.q (.q (.R [Wm 11 t0,Wm 12 t3,Wi 13 26 t11 t12,Wf 14 42 t13 1,Wf 15 40 t14 1,Wl 16 38 t15,Wn 17 t16 38,Wb 18 .gtr 3 t17 (Wk 64)]) (.c t18 (.q (.R [Wa 2 Wo]) .r) .s)) (.q (.R [Wa 4 (Wk 0)]) (.b 2 (.l (.q (.q (.R [Wm 19 t4,Wm 20 t0,Wm 21 t3,Wi 22 26 t20 t21,Wf 23 42 t22 1,Wf 24 40 t23 1,Wl 25 38 t24,Wn 26 t25 38,Wb 27 .lss 3 t19 t26]) (.c t27 .s (.x 2))) (.q (.b 3 (.q (.R [Wm 30 t0,Wm 31 t3,Wi 32 26 t30 t31,Wf 33 42 t32 1,Wf 34 40 t33 1,Wl 35 38 t34,Wm 36 t4,Wi 37 38 t35 t36,Wf 38 67 t37 1,Wl 39 65 t38,Wn 40 t39 65,Wb 41 .gtr 3 t40 (Wk 8),Wm 42 t41,.g (some 43) (.move t0) 42 false,.g (some 44) (.move t3) 42 false,.g (some 45) (.indexAddr 26 t43 t44) 42 false,.g (some 46) (.fieldAddr 42 t45 1) 42 false,.g (some 47) (.fieldAddr 40 t46 1) 42 false,.g (some 48) (.load 38 t47) 42 false,.g (some 49) (.move t4) 42 false,.g (some 50) (.indexAddr 38 t48 t49) 42 false,.g (some 51) (.fieldAddr 67 t50 2) 42 false,.g (some 52) (.load 65 t51) 42 false,.g (some 53) (.call ⟨.builtin .len,#[t52],#[65]⟩) 42 false,.g (some 54) (.binOp .gtr 3 t53 (Wk 8) 3) 42 false,.n 55 (.pick t42 Wt t54)]) (.c t55 (.q (.R [Wa 2 Wo]) .r) .s))) (.R [Wm 28 t4,Wb 29 .add 3 t28 (Wk 1),Wa 4 t29])))))))) (.R [Wm 9 t3,Wb 10 .add 3 t9 (Wk 1),Wa 3 t10])))))) (.q (.R [Wm 56 t0,Wn 57 t56 26,Wb 58 .leq 3 t57 (Wk 9),Wa 2 t58]) .r))):=by kernel_rfl
theorem w17:Tryz.f17.body.map (Qo C)=some (.q (.R [Wa 4 Wo]) (.q (.q (.R [Wm 6 t0,Wn 7 t6 23,Wm 8 t1,Wn 9 t8 23,Wb 10 .neq 3 t7 t9]) (.c t10 (.q (.R [Wa 4 Wo]) .r) .s)) (.q (.q (.R [Wa 5 (Wk 0)]) (.b 0 (.l (.q (.q (.R [Wm 11 t5,Wm 12 t0,Wn 13 t12 23,Wb 14 .lss 3 t11 t13]) (.c t14 .s (.x 0))) (.q (.b 1 (.q (.D true [Wm 17 t0,Wm 18 t5,Wi 19 23 t17 t18,Wl 20 3 t19,Wm 21 t1,Wm 22 t5,Wi 23 23 t21 t22,Wl 24 3 t23,Wb 25 .neq 3 t20 t24]) (.c t25 (.q (.R [Wa 4 Wo]) .r) .s))) (.R [Wm 15 t5,Wb 16 .add 3 t15 (Wk 1),Wa 5 t16])))))) (.q (.R [Wa 4 Wt]) .r)))):=by kernel_rfl
theorem w33:Tryz.f33.body.map (Qo C)=some (.q (.R [.n 4 (.box 25 t1),Wa 6 (.const (.slice none 0 0)),Wa 7 (Wk 0)]) (.q (.q (.R [Wm 12 t0,Wl 13 25 t4,Wc 14 32 #[t12,t13] #[3,25],Wa 8 t14]) (.q (.R [Wm 15 t8,Wb 16 .neq 73 t15 (Wk 0)]) (.c t16 (.q (.R [Wm 17 t8,Wa 6 (.const (.slice none 0 0)),Wa 7 t17]) .r) .s))) (.q (.q (.R [Wm 18 t2,Wn 19 t18 75,Wf 20 25 t4 1,Wl 21 23 t20,Wn 22 t21 23,Wb 23 .neq 3 t19 t22]) (.c t23 (.q (.R [Wa 6 (.const (.slice none 0 0)),Wa 7 (Wk 10)]) .r) .s)) (.q (.q (.R [Wm 24 t2,Wn 25 t24 75,Wm 26 (Wk 0)]) (.b 0 (.l (.q (.R [Wb 27 .lss 3 t26 t25]) (.q (.c t27 .s (.x 0)) (.q (.b 1 (.q (.R [Wi 28 75 t24 t26,Wl 29 37 t28,Wa 10 t29]) (.q (.R [Wm 30 t10,Wc 31 59 #[t30] #[37],Wa 11 t31]) (.q (.R [Wm 32 t11,Wb 33 .neq 73 t32 (Wk 0)]) (.c t33 (.q (.R [Wm 34 t11,Wa 6 (.const (.slice none 0 0)),Wa 7 t34]) .r) .s))))) (.R [Wb 35 .add 3 t26 (Wk 1),Wm 26 t35]))))))) (.q (.D true [Wf 36 25 t4 0,Wl 37 22 t36,Wm 38 t0,Wl 39 25 t4,Wm 40 t2,Wi 41 75 t40 (Wk 0),Wl 42 37 t41,Wn 43 t42 37,.n 44 (.buildSlice 23 1 #[(0,t43)]),Wc 45 20 #[t38,t39,t44] #[3,25,23],Wm 46 t2,Wc 47 60 #[t37,t45,t46] #[22,23,75],We 48 t47 0,We 49 t47 1,Wa 6 t48,Wa 7 t49]) .r))))):=by kernel_rfl
theorem w49:Tryz.f49.body.map (Qo C)=some (.q (.R [.n 1 (.box 67 t0),Wv 2 104]) (.q (.D true [Wf 3 67 t1 0,Wl 4 4 t3,Wf 5 67 t1 1,Wl 6 65 t5,Wc 7 107 #[t6] #[65],Wf 8 67 t1 2,Wl 9 65 t8,Wc 10 107 #[t9] #[65],Wc 11 106 #[t4,t7,t10] #[4,102,102],Ws 104 t2 t11]) .r)):=by kernel_rfl
theorem w57:Tryz.f57.body.map (Qo C)=some (.q (.R [.n 2 (.box 97 t0),Wa 4 Wo]) (.q (.R [Wm 5 t1,Wf 6 97 t2 2,Wl 7 3 t6,Wb 8 .geq 3 t5 t7,Wm 9 t8,.g (some 10) (.move t1) 9 true,.g (some 11) (.fieldAddr 97 t2 3) 9 true,.g (some 12) (.load 3 t11) 9 true,.g (some 13) (.binOp .leq 3 t10 t12 3) 9 true,.n 14 (.pick t9 t13 Wo),Wa 4 t14]) .r)):=by kernel_rfl
theorem w65:Tryz.f65.body.map (Qo C)=some (.q (.R [.n 2 (.box 40 t0),.n 3 (.box 40 t1),Wv 4 40,Wa 5 (Wk 0)]) (.q (.R [Wl 6 40 t2,Wl 7 40 t3,Wc 8 153 #[t6,t7,.func 158] #[40,40,176],We 9 t8 0,We 10 t8 1,Ws 40 t4 t9,Wa 5 t10]) .r)):=by kernel_rfl
theorem w113:Tryz.f113.body.map (Qo C)=some (.q (.R [Wa 4 (Wk 0)]) (.q (.q (.R [Wm 6 t0,Wn 7 t6 102,Wm 8 t1,Wn 9 t8 102,Wb 10 .neq 3 t7 t9]) (.c t10 (.q (.q (.R [Wm 11 t0,Wn 12 t11 102,Wm 13 t1,Wn 14 t13 102,Wb 15 .lss 3 t12 t14]) (.c t15 (.q (.R [Wa 4 (.const (.int .i64 (-1)))]) .r) .s)) (.q (.R [Wa 4 (Wk 1)]) .r)) .s)) (.q (.q (.R [Wm 16 t0,Wn 17 t16 102,Wb 18 .sub 3 t17 (Wk 1),Wa 5 t18]) (.b 0 (.l (.q (.q (.R [Wm 19 t5,Wb 20 .geq 3 t19 (Wk 0)]) (.c t20 .s (.x 0))) (.q (.b 1 (.q (.q (.D true [Wm 23 t0,Wm 24 t5,Wi 25 102 t23 t24,Wl 26 3 t25,Wm 27 t1,Wm 28 t5,Wi 29 102 t27 t28,Wl 30 3 t29,Wb 31 .lss 3 t26 t30]) (.c t31 (.q (.R [Wa 4 (.const (.int .i64 (-1)))]) .r) .s)) (.q (.D true [Wm 32 t0,Wm 33 t5,Wi 34 102 t32 t33,Wl 35 3 t34,Wm 36 t1,Wm 37 t5,Wi 38 102 t36 t37,Wl 39 3 t38,Wb 40 .gtr 3 t35 t39]) (.c t40 (.q (.R [Wa 4 (Wk 1)]) .r) .s)))) (.R [Wm 21 t5,Wb 22 .sub 3 t21 (Wk 1),Wa 5 t22])))))) (.q (.R [Wa 4 (Wk 0)]) .r)))):=by kernel_rfl
theorem w137:Tryz.f137.body.map (Qo C)=some (.q (.R [Wa 4 (Wk 0)]) (.q (.q (.R [Wm 6 t0,Wn 7 t6 23,Wm 8 (Wk 0)]) (.b 0 (.l (.q (.R [Wb 9 .lss 3 t8 t7]) (.q (.c t9 .s (.x 0)) (.q (.b 1 (.q (.R [Wm 10 t8,Wa 5 t10]) (.q (.R [Wm 11 t1,Wm 12 t0,Wm 13 t5,Wi 14 23 t12 t13,Wl 15 3 t14,.n 16 (.call ⟨.value t11,#[t15],#[3]⟩)]) (.c t16 (.q (.R [Wm 17 t5,Wa 4 t17]) .r) .s)))) (.R [Wb 18 .add 3 t8 (Wk 1),Wm 8 t18]))))))) (.q (.R [Wa 4 (.const (.int .i64 (-1)))]) .r))):=by kernel_rfl
theorem w145:Tryz.f145.body.map (Qo C)=some (.q (.R [Wa 2 (Wk 0)]) (.q (.q (.R [Wm 3 t0,Wc 4 59 #[t3] #[37],Wb 5 .neq 73 t4 (Wk 0)]) (.c t5 (.q (.R [Wa 2 (Wk 0)]) .r) .s)) (.q (.R [Wm 6 t0,Wc 7 138 #[t6] #[23],Wa 2 t7]) .r))):=by kernel_rfl
theorem w153:Tryz.f153.body.map (Qo C)=some (.q (.R [.n 3 (.box 40 t0),.n 4 (.box 40 t1),.n 5 (.box 176 t2),Wv 6 40,Wv 7 73]) (.q (.q (.R [Wl 16 40 t3,Wl 17 40 t4,.n 18 (.buildSlice 76 2 #[(0,t16),(1,t17)]),Wn 19 t18 76,Wm 20 (Wk 0)]) (.b 0 (.l (.q (.R [Wb 21 .lss 3 t20 t19]) (.q (.c t21 .s (.x 0)) (.q (.b 1 (.q (.R [Wi 22 76 t18 t20,Wl 23 40 t22,Wv 9 40,Ws 40 t9 t23]) (.q (.R [Wl 24 40 t9,Wc 25 162 #[t24] #[40],Wa 10 t25]) (.q (.R [Wm 26 t10,Wb 27 .neq 73 t26 (Wk 0)]) (.c t27 (.q (.R [.n 28 (.build 40 #[]),Wm 29 t10,Ws 40 t6 t28,Ws 73 t7 t29]) .r) .s))))) (.R [Wb 30 .add 3 t20 (Wk 1),Wm 20 t30]))))))) (.q (.q (.R [Wf 31 40 t3 0,Wl 32 37 t31,Wf 33 40 t4 0,Wl 34 37 t33,Wc 35 141 #[t32,t34] #[37,37],.n 36 (.unOp .not 4 t35)]) (.c t36 (.q (.R [.n 37 (.build 40 #[]),Ws 40 t6 t37,Ws 73 t7 (Wk 13)]) .r) .s)) (.q (.R [Wf 38 40 t3 0,Wl 39 37 t38,Wc 40 139 #[t39] #[37],.n 41 (.build 40 #[(0,t40)]),Wv 11 40,Ws 40 t11 t41]) (.q (.q (.R [Wf 42 40 t3 1,Wl 43 38 t42,Wf 44 40 t4 1,Wl 45 38 t44,Wc 46 228 #[t43,t45] #[38,38]]) (.b 2 (.f t46 #[47,48] (.q (.R [Wv 12 67,Ws 67 t12 t47]) (.R [Wv 13 67,Ws 67 t13 t48])) (.b 3 (.q (.R [Wl 50 176 t5,Wl 51 67 t12,Wl 52 67 t13,.n 53 (.call ⟨.value t50,#[t51,t52],#[67,67]⟩),Wm 49 t53,We 54 t49 0,We 55 t49 1,Wv 14 67,Ws 67 t14 t54,Wa 15 t55]) (.q (.q (.R [Wm 56 t15,Wb 57 .neq 73 t56 (Wk 0)]) (.c t57 (.q (.R [.n 58 (.build 40 #[]),Wm 59 t15,Ws 40 t6 t58,Ws 73 t7 t59]) .r) .s)) (.R [Wf 60 40 t11 1,Wl 61 38 t60,Wl 62 67 t14,.n 63 (.buildSlice 38 1 #[(0,t62)]),.n 64 (.call ⟨.builtin .append,#[t61,t63],#[38,38]⟩),Wf 65 40 t11 1,Ws 38 t65 t64]))))))) (.q (.R [Wl 66 40 t11,Ws 40 t6 t66,Ws 73 t7 (Wk 0)]) .r)))))):=by kernel_rfl
theorem w201:Tryz.f201.body.map (Qo C)=some (.q (.R [Wa 4 (.const (.slice none 0 0)),Wa 5 (Wk 0)]) (.q (.R [Wm 10 t0,Wn 11 t10 102,.n 12 (.makeSlice 102 t11 t11),Wa 6 t12]) (.q (.R [Wa 7 (Wk 0)]) (.q (.q (.R [Wm 13 t0,Wn 14 t13 102,Wb 15 .sub 3 t14 (Wk 1),Wa 8 t15]) (.b 0 (.l (.q (.q (.R [Wm 16 t8,Wb 17 .geq 3 t16 (Wk 0)]) (.c t17 .s (.x 0))) (.q (.b 1 (.q (.R [Wm 20 t7,Wb 21 .mul 3 t20 (Wk 10000),Wm 22 t0,Wm 23 t8,Wi 24 102 t22 t23,Wl 25 3 t24,Wb 26 .add 3 t21 t25,Wa 9 t26]) (.q (.R [Wm 27 t6,Wm 28 t8,Wm 29 t9,Wm 30 t1,Wb 31 .quo 3 t29 t30,Wi 32 102 t27 t28,Ws 3 t32 t31]) (.R [Wm 33 t9,Wm 34 t1,Wb 35 .rem 3 t33 t34,Wa 7 t35])))) (.R [Wm 18 t8,Wb 19 .sub 3 t18 (Wk 1),Wa 8 t19])))))) (.q (.R [Wm 36 t6,Wc 37 258 #[t36] #[102],Wm 38 t7,Wa 4 t37,Wa 5 t38]) .r))))):=by kernel_rfl
theorem w225:Tryz.f225.body.map (Qo C)=some (.q (.R [Wa 6 (.const (.slice none 0 0))]) (.q (.q (.R [Wm 9 t0,Wn 10 t9 37,Wm 11 (Wk 0)]) (.b 0 (.l (.q (.R [Wb 12 .lss 3 t11 t10]) (.q (.c t12 .s (.x 0)) (.q (.b 1 (.q (.R [Wm 13 t11,Wi 14 37 t9 t11,Wl 15 3 t14,Wa 7 t13,Wa 8 t15]) (.q (.R [Wm 16 t1,Wm 17 t7,Wc 18 266 #[t16,t17] #[23,3]]) (.c t18 (.R [Wm 19 t2,Wm 20 t6,.n 21 (.call ⟨.value t19,#[t20],#[37]⟩),Wa 6 t21]) (.R [Wm 22 t6,Wm 23 t8,.n 24 (.buildSlice 37 1 #[(0,t23)]),.n 25 (.call ⟨.builtin .append,#[t22,t24],#[37,37]⟩),Wa 6 t25]))))) (.R [Wb 26 .add 3 t11 (Wk 1),Wm 11 t26]))))))) (.q (.R [Wm 27 t6,Wa 6 t27]) .r))):=by kernel_rfl
theorem w233:Tryz.f233.body.map (Qo C)=some (.q (.R [.n 1 (.box 40 t0),Wa 2 (Wk 0)]) (.q (.q (.R [Wf 4 40 t1 0,Wl 5 37 t4,Wc 6 59 #[t5] #[37],Wa 3 t6]) (.q (.R [Wm 7 t3,Wb 8 .neq 73 t7 (Wk 0)]) (.c t8 (.q (.R [Wm 9 t3,Wa 2 t9]) .r) .s))) (.q (.q (.D true [Wf 10 40 t1 1,Wl 11 38 t10,Wn 12 t11 38,Wf 13 40 t1 0,Wl 14 37 t13,Wc 15 145 #[t14] #[37],Wb 16 .neq 3 t12 t15]) (.c t16 (.q (.R [Wa 2 (Wk 13)]) .r) .s)) (.q (.R [Wa 2 (Wk 0)]) .r)))):=by kernel_rfl
theorem w249:Tryz.f249.body.map (Qo C)=some (.q (.R [Wa 2 Wo]) (.q (.R [Wm 3 t0,Wn 4 t3 23,Wb 5 .eql 3 t4 (Wk 0),Wa 2 t5]) .r)):=by kernel_rfl
theorem w257:Tryz.f257.body.map (Qo C)=some (.q (.R [Wa 4 Wo]) (.q (.R [Wm 5 t0,Wm 6 t1,.n 7 (.call ⟨.builtin .min,#[t5,t6],#[3,3]⟩),Wb 8 .geq 3 t7 (Wk 0),Wa 4 t8]) .r)):=by kernel_rfl
theorem w273:Tryz.f273.body.map (Qo C)=some (.q (.R [Wa 4 Wo]) (.q (.R [Wm 5 t0,Wn 6 t5 65,Wm 7 t1,Wn 8 t7 65,Wb 9 .eql 3 t6 t8,Wm 10 t9,.g (some 11) (.move t0) 10 true,.g (some 12) (.move t1) 10 true,.g (some 13) (.call ⟨.value (.func 293),#[t11,t12],#[65,65]⟩) 10 true,.g (some 14) (.binOp .eql 3 t13 (Wk 0) 3) 10 true,.n 15 (.pick t10 t14 Wo),Wa 4 t15]) .r)):=by kernel_rfl
theorem w281:Tryz.f281.body.map (Qo C)=some (.q (.R [Wl 5 23 t1,Wn 6 t5 23,Wm 7 (Wk 0)]) (.b 0 (.l (.q (.R [Wb 8 .lss 3 t7 t6]) (.q (.c t8 .s (.x 0)) (.q (.b 1 (.q (.R [Wi 9 23 t5 t7,Wl 10 3 t9,Wa 4 t10]) (.q (.R [Wm 11 t0,Wm 12 t4,.n 13 (.call ⟨.value t11,#[t12],#[3]⟩),.n 14 (.unOp .not 4 t13)]) (.c t14 .r .s)))) (.R [Wb 15 .add 3 t7 (Wk 1),Wm 7 t15]))))))):=by kernel_rfl
theorem w289:Tryz.f289.body.map (Qo C)=some (.q (.R [.n 3 (.box 65 t0),.n 4 (.box 106 t1),.n 5 (.box 3 t2),Wa 6 (.const (.slice none 0 0))]) (.q (.R [Wv 7 271,Ws 271 t7 (.const (.int .u64 0))]) (.q (.R [Wl 8 65 t3,Wn 9 t8 65,Wl 10 3 t5,Wb 11 .add 3 t9 t10,Wb 12 .add 3 t11 (Wk 1),.n 13 (.makeFunc (.func 302) #[] #[t5,t3,t4,t7]),Wc 14 290 #[t12,t13] #[3,278],Wa 6 t14]) .r))):=by kernel_rfl
theorem w297:Tryz.f297.body.map (Qo C)=some (.q (.R [.n 2 (.box 23 t0),Wa 4 (.const (.slice none 0 0))]) (.q (.q (.R [Wm 6 t1]) (.b 0 (.f t6 #[7] (.R [Wa 5 t7]) (.b 1 (.R [Wl 8 23 t2,Wm 9 t5,.n 10 (.buildSlice 23 1 #[(0,t9)]),.n 11 (.call ⟨.builtin .append,#[t8,t10],#[23,23]⟩),Ws 23 t2 t11]))))) (.q (.R [Wl 12 23 t2,Wa 4 t12]) .r))):=by kernel_rfl
theorem w305:Tryz.f305.body.map (Qo C)=some (.q (.R [Wa 4 (.const (.slice none 0 0)),Wa 5 (.const (.int .u32 0)),Wa 6 (Wk 0)]) (.q (.q (.R [Wm 10 t1,Wb 11 .eql 106 t10 (.const (.int .u32 0))]) (.c t11 (.q (.R [Wa 4 (.const (.slice none 0 0)),Wa 5 (.const (.int .u32 0)),Wa 6 (Wk 17)]) .r) .s)) (.q (.R [Wm 12 t0,Wn 13 t12 65,.n 14 (.makeSlice 65 t13 t13),Wa 7 t14]) (.q (.R [Wa 8 (.const (.int .u64 0))]) (.q (.q (.R [Wm 15 t0,Wn 16 t15 65,Wb 17 .sub 3 t16 (Wk 1),Wa 9 t17]) (.b 0 (.l (.q (.q (.R [Wm 18 t9,Wb 19 .geq 3 t18 (Wk 0)]) (.c t19 .s (.x 0))) (.q (.b 1 (.q (.R [Wm 22 t8,.n 23 (.binOp .shl 271 t22 (.const (.int .u64 32)) 58),Wm 24 t0,Wm 25 t9,Wi 26 65 t24 t25,Wl 27 106 t26,.n 28 (.convert 106 271 t27),Wb 29 .or 271 t23 t28,Wa 8 t29]) (.q (.R [Wm 30 t7,Wm 31 t9,Wm 32 t8,Wm 33 t1,.n 34 (.convert 106 271 t33),Wb 35 .quo 271 t32 t34,.n 36 (.convert 271 106 t35),Wi 37 65 t30 t31,Ws 106 t37 t36]) (.R [Wm 38 t8,Wm 39 t1,.n 40 (.convert 106 271 t39),Wb 41 .rem 271 t38 t40,Wa 8 t41])))) (.R [Wm 20 t9,Wb 21 .sub 3 t20 (Wk 1),Wa 9 t21])))))) (.q (.R [Wm 42 t7,Wc 43 275 #[t42] #[65],Wm 44 t8,.n 45 (.convert 271 106 t44),Wa 4 t43,Wa 5 t45,Wa 6 (Wk 0)]) .r)))))):=by kernel_rfl
theorem w318:Tryz.f318.body.map (Qo C)=some (.q (.R [Wa 4 Wo]) (.q (.R [Wm 5 t0,Wc 6 332 #[t5] #[3],Wm 7 t6,.g (some 8) (.move t1) 7 true,.g (some 9) (.call ⟨.value (.func 332),#[t8],#[3]⟩) 7 true,.g (some 10) (.unOp .not 4 t9) 7 true,.n 11 (.pick t7 t10 Wo),Wm 12 t11,.g (some 13) (.move t0) 12 false,.g (some 14) (.move t1) 12 false,.g (some 15) (.binOp .lss 3 t13 t14 3) 12 false,.n 16 (.pick t12 Wt t15),Wa 4 t16]) .r)):=by kernel_rfl
theorem w10:Tryz.f10.body.map (Qo C)=some (.q (.R [Wa 0 Wo]) (.q (.R [.n 8 (.buildSlice 23 2 #[(0,Wk 1),(1,.const (.int .i64 (-2)))]),Wc 9 28 #[t8] #[23],.n 10 (.buildSlice 23 2 #[(0,Wk 2),(1,Wk 0)]),Wc 11 28 #[t10] #[23],Wv 1 42,Wv 2 42,Ws 42 t1 t9,Ws 42 t2 t11]) (.q (.R [.n 12 (.buildSlice 23 2 #[(0,Wk 0),(1,Wk 0)]),Wa 3 t12]) (.q (.R [Wm 13 t3,.n 14 (.build 25 #[(0,Wk 4),(1,t13)]),Wl 15 42 t1,Wl 16 42 t2,.n 17 (.buildSlice 26 2 #[(0,t15),(1,t16)]),Wc 18 13 #[Wk 3,t14,Wk 0,t17] #[3,25,3,26],Wv 4 42,Ws 42 t4 t18]) (.q (.R [Wm 19 t3,.n 20 (.build 25 #[(0,Wk 1),(1,t19)]),Wl 21 42 t1,Wl 22 42 t4,.n 23 (.buildSlice 26 2 #[(0,t21),(1,t22)]),Wc 24 13 #[Wk 3,t20,Wk 0,t23] #[3,25,3,26],Wv 5 42,Ws 42 t5 t24]) (.q (.R [Wm 25 t3,.n 26 (.build 25 #[(0,Wk 3),(1,t25)]),Wl 27 42 t1,Wl 28 42 t1,.n 29 (.buildSlice 26 2 #[(0,t27),(1,t28)]),Wc 30 13 #[Wk 3,t26,Wk 2,t29] #[3,25,3,26],Wv 6 42,Ws 42 t6 t30]) (.q (.R [Wm 31 t3,.n 32 (.build 25 #[(0,Wk 3),(1,t31)]),Wl 33 42 t1,Wl 34 42 t1,.n 35 (.buildSlice 26 2 #[(0,t33),(1,t34)]),Wc 36 13 #[Wk 3,t32,Wk 3,t35] #[3,25,3,26],Wv 7 42,Ws 42 t7 t36]) (.q (.D true [Wf 37 42 t4 0,Wl 38 36 t37,Wb 39 .eql 36 t38 (Wk 2),Wm 40 t39,.g (some 41) (.fieldAddr 42 t5 0) 40 true,.g (some 42) (.load 36 t41) 40 true,.g (some 43) (.binOp .eql 36 t42 (Wk 4) 36) 40 true,.n 44 (.pick t40 t43 Wo),Wm 45 t44,.g (some 46) (.fieldAddr 42 t6 0) 45 true,.g (some 47) (.load 36 t46) 45 true,.g (some 48) (.binOp .eql 36 t47 (Wk 3) 36) 45 true,.n 49 (.pick t45 t48 Wo),Wm 50 t49,.g (some 51) (.fieldAddr 42 t7 0) 50 true,.g (some 52) (.load 36 t51) 50 true,.g (some 53) (.binOp .eql 36 t52 (Wk 1) 36) 50 true,.n 54 (.pick t50 t53 Wo),Wm 55 t54,.g (some 56) (.fieldAddr 42 t7 1) 55 true,.g (some 57) (.load 40 t56) 55 true,.g (some 58) (.buildSlice 23 2 #[(0,Wk 1),(1,Wk 4)]) 55 true,.g (some 59) (.call ⟨.value (.func 28),#[t58],#[23]⟩) 55 true,.g (some 60) (.field 42 t59 1) 55 true,.g (some 61) (.call ⟨.value (.func 27),#[t57,t60],#[40,40]⟩) 55 true,.n 62 (.pick t55 t61 Wo),Wa 0 t62]) .r)))))))):=by kernel_rfl
theorem w34:Tryz.f34.body.map (Qo C)=some (.q (.R [.n 1 (.box 23 t0),Wa 2 (.const (.map none))]) (.q (.M [Wm 3 (.global 0),Wc 4 61 #[.func 62] #[119],.z (.move t4),Wc 5 61 #[.func 63] #[119],.z (.move t5),Wc 6 61 #[.func 64] #[119],.z (.move t6),Wc 7 61 #[.func 65] #[119],.z (.move t7),Wc 8 66 #[.func 67] #[121],.z (.move t8),.n 9 (.makeFunc (.func 68) #[] #[t1]),Wc 10 66 #[t9] #[121],.z (.move t10),Wc 11 66 #[.func 71] #[121],.z (.move t11),Wc 12 66 #[.func 72] #[121],.z (.move t12),.n 13 (.makeFunc (.func 73) #[] #[t1]),Wc 14 66 #[t13] #[121],.z (.move t14),Wc 15 66 #[.func 76] #[121],.z (.move t15),Wl 16 23 t1,Wc 17 77 #[.func 78,t16] #[126,23],.z (.move t17),Wl 18 23 t1,Wc 19 79 #[.func 80,t18] #[128,23],.z (.move t19),Wl 20 23 t1,Wc 21 79 #[.func 81,t20] #[128,23],.z (.move t21),Wl 22 23 t1,Wc 23 77 #[.func 82,t22] #[126,23],.z (.move t23),Wl 24 23 t1,Wc 25 77 #[.func 83,t24] #[126,23],.z (.move t25),.n 26 (.makeFunc (.func 84) #[] #[t1]),.z (.move t26),.n 27 (.makeFunc (.func 86) #[] #[t1]),Wc 28 66 #[t27] #[121],.z (.move t28),.n 29 (.makeFunc (.func 88) #[] #[t1]),Wc 30 66 #[t29] #[121],.z (.move t30),Wc 31 61 #[.func 90] #[119],.z (.move t31),Wc 32 91 #[.func 92] #[132],.z (.move t32)] 3 .i64 [(1,t4),(2,t5),(3,t6),(4,t7),(5,t8),(6,t10),(7,t11),(8,t12),(9,t14),(18,t15),(11,t17),(12,t19),(13,t21),(15,t23),(16,t25),(17,t26),(14,t28),(20,t30),(10,t31),(19,t32)] [Wm 33 t3,Wa 2 t33]) .r)):=by kernel_rfl
theorem w42:Tryz.f42.body.map (Qo C)=some (.q (.R [Wa 2 (Wk 0),Wa 3 (Wk 0)]) (.q (.q (.R [Wm 4 t0]) (.b 0 (.q (.q (.R [Wb 6 .eql 22 t4 (Wk 1),Wa 5 t6]) (.c t5 .s (.q (.R [Wb 7 .eql 22 t4 (Wk 2),Wa 5 t7]) (.c t5 .s (.q (.R [Wb 8 .eql 22 t4 (Wk 3),Wa 5 t8]) (.c t5 .s (.q (.R [Wb 9 .eql 22 t4 (Wk 4),Wa 5 t9]) (.c t5 .s (.R [Wb 10 .eql 22 t4 (Wk 10),Wa 5 t10]))))))))) (.c t5 (.q (.R [Wa 2 (Wk 2),Wa 3 (Wk 2)]) .r) (.q (.R [Wb 12 .eql 22 t4 (Wk 19),Wa 11 t12]) (.c t11 (.q (.R [Wa 2 (Wk 3),Wa 3 (Wk 3)]) .r) (.q (.R [Wb 14 .eql 22 t4 (Wk 17),Wa 13 t14]) (.c t13 (.q (.R [Wa 2 (Wk 1),Wa 3 (Wk 8)]) .r) .s)))))))) (.q (.q (.R [Wm 15 t0,Wb 16 .lss 22 t15 (Wk 1),Wm 17 t16,.g (some 18) (.move t0) 17 false,.g (some 19) (.binOp .gtr 22 t18 (Wk 20) 22) 17 false,.n 20 (.pick t17 Wt t19)]) (.c t20 (.q (.R [Wa 2 (Wk 0),Wa 3 (Wk 0)]) .r) .s)) (.q (.R [Wa 2 (Wk 1),Wa 3 (Wk 1)]) .r)))):=by kernel_rfl
theorem w58:Tryz.f58.body.map (Qo C)=some (.q (.R [Wa 4 Wo]) (.q (.R [Wm 5 t0,Wm 6 t1,Wc 7 137 #[t5,t6] #[23,114],Wb 8 .geq 3 t7 (Wk 0),Wa 4 t8]) .r)):=by kernel_rfl
theorem w66:Tryz.f66.body.map (Qo C)=some (.q (.R [.n 1 (.box 121 t0),Wa 2 (.const .nilFunc)]) (.q (.R [.n 3 (.makeFunc (.func 159) #[] #[t1]),Wa 2 t3]) .r)):=by kernel_rfl
theorem w106:Tryz.f106.body.map (Qo C)=some (.q (.R [Wv 6 104]) (.q (.q (.R [Wm 12 t1,Wn 13 t12 102,Wb 14 .eql 3 t13 (Wk 0),Wm 15 t14,.g (some 16) (.move t2) 15 false,.g (some 17) (.call ⟨.builtin .len,#[t16],#[102]⟩) 15 false,.g (some 18) (.binOp .eql 3 t17 (Wk 0) 3) 15 false,.n 19 (.pick t15 Wt t18)]) (.c t19 (.q (.R [.n 20 (.buildSlice 102 1 #[(0,Wk 1)]),.n 21 (.build 104 #[(2,t20)]),Ws 104 t6 t21]) .r) .s)) (.q (.R [Wm 22 t1,Wm 23 t2,Wc 24 202 #[t22,t23] #[102,102],Wa 7 t24]) (.q (.R [Wm 26 t1,Wm 27 t7,Wc 28 203 #[t26,t27] #[102,102],Wm 25 t28,We 29 t25 0,We 30 t25 1,Wa 8 t29,Wa 9 t30]) (.q (.R [Wm 32 t2,Wm 33 t7,Wc 34 203 #[t32,t33] #[102,102],Wm 31 t34,We 35 t31 0,We 36 t31 1,Wa 10 t35,Wa 11 t36]) (.q (.R [Wm 37 t0,Wm 38 t8,Wm 39 t10,.n 40 (.build 104 #[(0,t37),(1,t38),(2,t39)]),Ws 104 t6 t40]) .r)))))):=by kernel_rfl
theorem w114:Tryz.f114.body.map (Qo C)=some (.q (.R [Wa 2 (.const (.slice none 0 0))]) (.q (.q (.R [Wm 3 t0,Wb 4 .lss 3 t3 (Wk 0)]) (.c t4 (.q (.R [Wm 5 t0,Wb 6 .add 3 t5 (Wk 1),.n 7 (.unOp .neg 3 t6),Wc 8 206 #[t7] #[3],.n 9 (.buildSlice 102 1 #[(0,Wk 1)]),Wc 10 204 #[t8,t9] #[102,102],Wa 2 t10]) .r) .s)) (.q (.R [Wm 11 t0,Wc 12 206 #[t11] #[3],Wa 2 t12]) .r))):=by kernel_rfl
theorem w138:Tryz.f138.body.map (Qo C)=some (.q (.R [Wa 2 (Wk 0)]) (.sc (.q (.R [Wa 3 (Wk 1)]) (.q (.lb 0) (.q (.q (.R [Wm 6 t0,Wn 7 t6 23,Wm 8 (Wk 0)]) (.b 0 (.l (.q (.R [Wb 9 .lss 3 t8 t7]) (.q (.c t9 .s (.x 0)) (.q (.b 1 (.q (.R [Wi 10 23 t6 t8,Wl 11 3 t10,Wa 5 t11]) (.q (.q (.R [Wm 12 t5,Wm 13 t3,Wb 14 .quo 3 (Wk 1024) t13,Wb 15 .gtr 3 t12 t14]) (.c t15 (.q (.R [Wa 3 (Wk 1025)]) (.x 0)) .s)) (.R [Wm 16 t3,Wm 17 t5,Wb 18 .mul 3 t16 t17,Wa 3 t18])))) (.R [Wb 19 .add 3 t8 (Wk 1),Wm 8 t19]))))))) (.q (.R [Wm 20 t3,Wa 2 t20]) .r)))))):=by kernel_rfl
theorem w146:Tryz.f146.body.map (Qo C)=some (.q (.R [Wa 4 (Wk 0)]) (.q (.R [Wa 5 (.const (.int .i64 (-1)))]) (.q (.q (.R [Wm 8 t0,Wn 9 t8 23,Wm 10 (Wk 0)]) (.b 0 (.l (.q (.R [Wb 11 .lss 3 t10 t9]) (.q (.c t11 .s (.x 0)) (.q (.b 1 (.q (.R [Wi 12 23 t8 t10,Wl 13 3 t12,Wa 7 t13]) (.q (.q (.R [Wm 14 t7,Wm 15 t5,Wb 16 .leq 3 t14 t15,Wm 17 t16,.g (some 18) (.move t7) 17 false,.g (some 19) (.move t1) 17 false,.g (some 20) (.binOp .geq 3 t18 t19 3) 17 false,.n 21 (.pick t17 Wt t20)]) (.c t21 (.q (.R [Wa 4 (Wk 11)]) .r) .s)) (.R [Wm 22 t7,Wa 5 t22])))) (.R [Wb 23 .add 3 t10 (Wk 1),Wm 10 t23]))))))) (.q (.R [Wa 4 (Wk 0)]) .r)))):=by kernel_rfl
theorem w154:Tryz.f154.body.map (Qo C)=some (.q (.R [.n 1 (.box 178 t0),Wa 2 (.const .nilFunc)]) (.q (.R [.n 3 (.makeFunc (.func 229) #[] #[t1]),Wa 2 t3]) .r)):=by kernel_rfl
theorem w162:Tryz.f162.body.map (Qo C)=some (.q (.R [.n 1 (.box 40 t0),Wv 2 73]) (.q (.q (.R [Wl 7 40 t1,Wc 8 233 #[t7] #[40],Wa 3 t8]) (.q (.R [Wm 9 t3,Wb 10 .neq 73 t9 (Wk 0)]) (.c t10 (.q (.R [Wm 11 t3,Ws 73 t2 t11]) .r) .s))) (.q (.q (.R [Wl 12 40 t1,Wc 13 109 #[t12] #[40],Wc 14 194 #[t13] #[146]]) (.b 0 (.f t14 #[15,16] (.R [Wv 5 67,Ws 67 t5 t16]) (.b 1 (.q (.R [Wl 17 67 t5,Wc 18 234 #[t17] #[67],Wa 6 t18]) (.q (.R [Wm 19 t6,Wb 20 .neq 73 t19 (Wk 0)]) (.c t20 (.q (.R [Wm 21 t6,Ws 73 t2 t21]) .r) .s))))))) (.q (.R [Ws 73 t2 (Wk 0)]) .r)))):=by kernel_rfl
theorem w194:Tryz.f194.body.map (Qo C)=some (.q (.R [.n 1 (.box 146 t0),Wa 2 (.const .nilFunc)]) (.q (.R [.n 3 (.makeFunc (.func 247) #[] #[t1]),Wa 2 t3]) .r)):=by kernel_rfl
theorem w202:Tryz.f202.body.map (Qo C)=some (.q (.R [Wa 4 (.const (.slice none 0 0))]) (.q (.b 0 (.l (.q (.q (.R [Wm 7 t1,Wn 8 t7 102,Wb 9 .gtr 3 t8 (Wk 0)]) (.c t9 .s (.x 0))) (.b 1 (.q (.R [Wm 11 t0,Wm 12 t1,Wc 13 203 #[t11,t12] #[102,102],Wm 10 t13,We 14 t10 0,We 15 t10 1,Wa 5 t14,Wa 6 t15]) (.R [Wm 16 t1,Wm 17 t6,Wa 0 t16,Wa 1 t17])))))) (.q (.R [Wm 18 t0,Wa 4 t18]) .r))):=by kernel_rfl
theorem w226:Tryz.f226.body.map (Qo C)=some (.q (.R [Wa 2 (.const (.slice none 0 0))]) (.q (.R [Wm 3 t0,Wa 2 t3]) .r)):=by kernel_rfl
theorem w234:Tryz.f234.body.map (Qo C)=some (.q (.R [.n 1 (.box 67 t0),Wa 2 (Wk 0)]) (.q (.R [Wl 4 67 t1,Wc 5 168 #[t4] #[67],Wv 3 67,Ws 67 t3 t5]) (.q (.q (.R [Wf 6 67 t3 0,Wl 7 4 t6,Wf 8 67 t1 0,Wl 9 4 t8,Wb 10 .neq 4 t7 t9,Wm 11 t10,.g (some 12) (.fieldAddr 67 t3 1) 11 false,.g (some 13) (.load 65 t12) 11 false,.g (some 14) (.fieldAddr 67 t1 1) 11 false,.g (some 15) (.load 65 t14) 11 false,.g (some 16) (.call ⟨.value (.func 273),#[t13,t15],#[65,65]⟩) 11 false,.g (some 17) (.unOp .not 4 t16) 11 false,.n 18 (.pick t11 Wt t17),Wm 19 t18,.g (some 20) (.fieldAddr 67 t3 2) 19 false,.g (some 21) (.load 65 t20) 19 false,.g (some 22) (.fieldAddr 67 t1 2) 19 false,.g (some 23) (.load 65 t22) 19 false,.g (some 24) (.call ⟨.value (.func 273),#[t21,t23],#[65,65]⟩) 19 false,.g (some 25) (.unOp .not 4 t24) 19 false,.n 26 (.pick t19 Wt t25)]) (.c t26 (.q (.R [Wa 2 (Wk 6)]) .r) .s)) (.q (.R [Wa 2 (Wk 0)]) .r)))):=by kernel_rfl
theorem w250:Tryz.f250.body.map (Qo C)=some (.q (.R [.n 1 (.box 3 t0),Wa 2 (.const .nilFunc)]) (.q (.R [.n 3 (.makeFunc (.func 286) #[] #[t1]),Wa 2 t3]) .r)):=by kernel_rfl
theorem w258:Tryz.f258.body.map (Qo C)=some (.q (.R [Wa 2 (.const (.slice none 0 0))]) (.q (.R [Wm 4 t0,Wn 5 t4 102,Wa 3 t5]) (.q (.b 0 (.l (.q (.q (.R [Wm 6 t3,Wb 7 .gtr 3 t6 (Wk 0),Wm 8 t7,.g (some 9) (.move t0) 8 true,.g (some 10) (.move t3) 8 true,.g (some 11) (.binOp .sub 3 t10 (Wk 1) 3) 8 true,.g (some 12) (.indexAddr 102 t9 t11) 8 true,.g (some 13) (.load 3 t12) 8 true,.g (some 14) (.binOp .eql 3 t13 (Wk 0) 3) 8 true,.n 15 (.pick t8 t14 Wo)]) (.c t15 .s (.x 0))) (.b 1 (.R [Wm 16 t3,Wb 17 .sub 3 t16 (Wk 1),Wa 3 t17]))))) (.q (.R [Wm 18 t0,Wm 19 t3,.n 20 (.slice 102 t18 none (some t19) none),Wa 2 t20]) .r)))):=by kernel_rfl
theorem w266:Tryz.f266.body.map (Qo C)=some (.q (.R [Wa 4 Wo]) (.q (.R [Wm 5 t0,Wm 6 t1,Wc 7 288 #[t5,t6] #[23,3],Wb 8 .geq 3 t7 (Wk 0),Wa 4 t8]) .r)):=by kernel_rfl
theorem w274:Tryz.f274.body.map (Qo C)=some (.q (.R [.n 1 (.box 271 t0),Wa 2 (.const (.slice none 0 0))]) (.q (.R [.n 3 (.makeFunc (.func 295) #[] #[t1]),Wc 4 290 #[Wk 2,t3] #[3,278],Wa 2 t4]) .r)):=by kernel_rfl
theorem w282:Tryz.f282.body.map (Qo C)=some (.q (.R [Wa 4 (.const (.int .u64 0)),Wa 5 (.const (.int .u64 0))]) (.q (.c Wo (.q (.R [Wm 11 t0,.n 12 (.convert 58 106 t11),Wm 13 t1,.n 14 (.convert 58 106 t13),Wc 15 300 #[t12,t14] #[106,106],Wm 10 t15,We 16 t10 0,We 17 t10 1,Wa 6 t16,Wa 7 t17]) (.q (.R [Wm 18 t6,.n 19 (.convert 106 58 t18),Wm 20 t7,.n 21 (.convert 106 58 t20),Wa 4 t19,Wa 5 t21]) .r)) .s) (.q (.R [Wm 23 t0,Wm 24 t1,Wc 25 301 #[t23,t24] #[271,271],Wm 22 t25,We 26 t22 0,We 27 t22 1,Wa 8 t26,Wa 9 t27]) (.q (.R [Wm 28 t8,Wm 29 t9,Wa 4 t28,Wa 5 t29]) .r)))):=by kernel_rfl
theorem w290:Tryz.f290.body.map (Qo C)=some (.q (.R [Wa 4 (.const (.slice none 0 0))]) (.q (.R [Wv 5 65]) (.q (.R [Wv 6 271,Ws 271 t6 (.const (.int .u64 0))]) (.q (.R [.n 9 (.makeFunc (.func 303) #[] #[t5,t6]),Wa 7 t9]) (.q (.q (.R [Wm 10 t0,Wm 11 (Wk 0)]) (.b 0 (.l (.q (.R [Wb 12 .lss 3 t11 t10]) (.q (.c t12 .s (.x 0)) (.q (.b 1 (.q (.R [Wm 13 t11,Wa 8 t13]) (.P [Wm 14 t7,Wm 15 t1,Wm 16 t8,.n 17 (.call ⟨.value t15,#[t16],#[3]⟩),Wl 18 271 t6,Wb 19 .add 271 t17 t18] [.n 20 (.call ⟨.value t14,#[t19],#[271]⟩)]))) (.R [Wb 21 .add 3 t11 (Wk 1),Wm 11 t21]))))))) (.q (.b 2 (.l (.q (.q (.R [Wl 22 271 t6,Wb 23 .gtr 271 t22 (.const (.int .u64 0))]) (.c t23 .s (.x 2))) (.b 3 (.R [Wm 24 t7,Wl 25 271 t6,.n 26 (.call ⟨.value t24,#[t25],#[271]⟩)]))))) (.q (.D true [Wl 27 65 t5,Wl 28 65 t5,Wc 29 284 #[t28] #[65],.n 30 (.slice 65 t27 none (some t29) none),Wa 4 t30]) .r))))))):=by kernel_rfl
theorem w298:Tryz.f298.body.map (Qo C)=some (.q (.R [Wa 8 Wt]) (.q (.R [Wa 9 Wt]) (.b 0 (.l (.b 1 (.q (.R [Wm 19 t2,Wm 20 t1,Wb 21 .sub 3 t19 t20,Wa 10 t21]) (.q (.q (.R [Wm 22 t10,Wb 23 .leq 3 t22 (Wk 12)]) (.c t23 (.q (.R [Wm 24 t0,Wm 25 t1,Wm 26 t2,Wc 27 312 #[t24,t25,t26] #[23,3,3]]) .r) .s)) (.q (.q (.R [Wm 28 t3,Wb 29 .eql 3 t28 (Wk 0)]) (.c t29 (.q (.R [Wm 30 t0,Wm 31 t1,Wm 32 t2,Wc 33 313 #[t30,t31,t32] #[23,3,3]]) .r) .s)) (.q (.q (.R [Wm 34 t8,.n 35 (.unOp .not 4 t34)]) (.c t35 (.q (.R [Wm 36 t0,Wm 37 t1,Wm 38 t2,Wc 39 314 #[t36,t37,t38] #[23,3,3]]) (.R [Wm 40 t3,Wb 41 .sub 3 t40 (Wk 1),Wa 3 t41])) .s)) (.q (.R [Wm 43 t0,Wm 44 t1,Wm 45 t2,Wc 46 315 #[t43,t44,t45] #[23,3,3],Wm 42 t46,We 47 t42 0,We 48 t42 1,Wa 11 t47,Wa 12 t48]) (.q (.q (.R [Wm 49 t12,Wb 50 .eql 297 t49 (Wk 2)]) (.c t50 (.q (.R [Wm 51 t0,Wm 52 t1,Wm 53 t2,Wc 54 316 #[t51,t52,t53] #[23,3,3]]) (.q (.R [Wm 55 t2,Wb 56 .sub 3 t55 (Wk 1),Wm 57 t11,Wm 58 t1,Wb 59 .sub 3 t57 t58,Wb 60 .sub 3 t56 t59,Wa 11 t60]) (.R [Wa 12 (Wk 1)]))) .s)) (.q (.q (.R [Wm 61 t8,Wm 62 t61,.g (some 63) (.move t9) 62 true,.n 64 (.pick t62 t63 Wo),Wm 65 t64,.g (some 66) (.move t12) 65 true,.g (some 67) (.binOp .eql 297 t66 (Wk 1) 297) 65 true,.n 68 (.pick t65 t67 Wo)]) (.c t68 (.q (.R [Wm 69 t0,Wm 70 t1,Wm 71 t2,Wc 72 317 #[t69,t70,t71] #[23,3,3]]) (.c t72 .r .s)) .s)) (.q (.q (.D true [Wm 73 t1,Wb 74 .gtr 3 t73 (Wk 0),Wm 75 t74,.g (some 76) (.move t0) 75 true,.g (some 77) (.move t1) 75 true,.g (some 78) (.binOp .sub 3 t77 (Wk 1) 3) 75 true,.g (some 79) (.indexAddr 23 t76 t78) 75 true,.g (some 80) (.load 3 t79) 75 true,.g (some 81) (.move t0) 75 true,.g (some 82) (.move t11) 75 true,.g (some 83) (.indexAddr 23 t81 t82) 75 true,.g (some 84) (.load 3 t83) 75 true,.g (some 85) (.call ⟨.value (.func 318),#[t80,t84],#[3,3]⟩) 75 true,.g (some 86) (.unOp .not 4 t85) 75 true,.n 87 (.pick t75 t86 Wo)]) (.c t87 (.q (.R [Wm 88 t0,Wm 89 t1,Wm 90 t2,Wm 91 t11,Wc 92 319 #[t88,t89,t90,t91] #[23,3,3,3],Wa 13 t92]) (.q (.R [Wm 93 t13,Wa 1 t93]) (.x 1))) .s)) (.q (.R [Wm 95 t0,Wm 96 t1,Wm 97 t2,Wm 98 t11,Wc 99 320 #[t95,t96,t97,t98] #[23,3,3,3],Wm 94 t99,We 100 t94 0,We 101 t94 1,Wa 14 t100,Wa 15 t101]) (.q (.R [Wm 102 t15,Wa 9 t102]) (.q (.R [Wm 103 t14,Wm 104 t1,Wb 105 .sub 3 t103 t104,Wm 106 t2,Wm 107 t14,Wb 108 .sub 3 t106 t107,Wa 16 t105,Wa 17 t108]) (.q (.R [Wm 109 t10,Wb 110 .quo 3 t109 (Wk 8),Wa 18 t110]) (.q (.R [Wm 111 t16,Wm 112 t17,Wb 113 .lss 3 t111 t112]) (.c t113 (.q (.R [Wm 114 t16,Wm 115 t18,Wb 116 .geq 3 t114 t115,Wa 8 t116]) (.q (.R [Wm 117 t0,Wm 118 t1,Wm 119 t14,Wm 120 t3,Wc 121 298 #[t117,t118,t119,t120] #[23,3,3,3]]) (.R [Wm 122 t14,Wb 123 .add 3 t122 (Wk 1),Wa 1 t123]))) (.q (.R [Wm 124 t17,Wm 125 t18,Wb 126 .geq 3 t124 t125,Wa 8 t126]) (.q (.R [Wm 127 t0,Wm 128 t14,Wb 129 .add 3 t128 (Wk 1),Wm 130 t2,Wm 131 t3,Wc 132 298 #[t127,t129,t130,t131] #[23,3,3,3]]) (.R [Wm 133 t14,Wa 2 t133])))))))))))))))))))))):=by kernel_rfl
theorem w306:Tryz.f306.body.map (Qo C)=some (.q (.R [Wa 2 (Wk 0)]) (.q (.R [Wm 3 t0,Wc 4 285 #[t3] #[106],Wb 5 .sub 3 (Wk 32) t4,Wa 2 t5]) .r)):=by kernel_rfl
theorem w321:Tryz.f321.body.map (Qo C)=some (.q (.R [Wa 2 (Wk 0)]) (.q (.q (.R [Wm 3 t0,Wb 4 .geq 271 t3 (.const (.int .u64 4294967296))]) (.c t4 (.q (.R [Wm 5 t0,.n 6 (.binOp .shr 271 t5 (.const (.int .u64 32)) 58),Wa 0 t6]) (.R [Wa 2 (Wk 32)])) .s)) (.q (.q (.R [Wm 7 t0,Wb 8 .geq 271 t7 (.const (.int .u64 65536))]) (.c t8 (.q (.R [Wm 9 t0,.n 10 (.binOp .shr 271 t9 (.const (.int .u64 16)) 58),Wa 0 t10]) (.R [Wm 11 t2,Wb 12 .add 3 t11 (Wk 16),Wa 2 t12])) .s)) (.q (.q (.R [Wm 13 t0,Wb 14 .geq 271 t13 (.const (.int .u64 256))]) (.c t14 (.q (.R [Wm 15 t0,.n 16 (.binOp .shr 271 t15 (.const (.int .u64 8)) 58),Wa 0 t16]) (.R [Wm 17 t2,Wb 18 .add 3 t17 (Wk 8),Wa 2 t18])) .s)) (.q (.R [Wm 19 t2,Wm 20 t0,.n 21 (.convert 271 5 t20),.n 22 (.index 9 (.const (.string { data:=(([0,1,2,2,3,3,3,3,4,4,4,4,4,4,4,4,5,5,5,5,5,5,5,5,5,5,5,5,5,5,5,5,6,6,6,6,6,6,6,6,6,6,6,6,6,6,6,6,6,6,6,6,6,6,6,6,6,6,6,6,6,6,6,6].append [7,7,7,7,7,7,7,7,7,7,7,7,7,7,7,7,7,7,7,7,7,7,7,7,7,7,7,7,7,7,7,7,7,7,7,7,7,7,7,7,7,7,7,7,7,7,7,7,7,7,7,7,7,7,7,7,7,7,7,7,7,7,7,7]).append ([8,8,8,8,8,8,8,8,8,8,8,8,8,8,8,8,8,8,8,8,8,8,8,8,8,8,8,8,8,8,8,8,8,8,8,8,8,8,8,8,8,8,8,8,8,8,8,8,8,8,8,8,8,8,8,8,8,8,8,8,8,8,8,8].append [8,8,8,8,8,8,8,8,8,8,8,8,8,8,8,8,8,8,8,8,8,8,8,8,8,8,8,8,8,8,8,8,8,8,8,8,8,8,8,8,8,8,8,8,8,8,8,8,8,8,8,8,8,8,8,8,8,8,8,8,8,8,8,8])).toArray })) t21),.n 23 (.convert 5 3 t22),Wb 24 .add 3 t19 t23,Wa 2 t24]) .r))))):=by kernel_rfl
end Go.Proofs.YtepjcbnpbcmfcaaGreat
end
section

end
section
namespace Go.Proofs.YtepjcbnpbcmfcaaGreat
open Go.Bv
def Xg:List Int→Int
 | []=>1
 | d::l=>d*Xg l
theorem Qar:∀ {l:List Int},(∀ d∈l,1≤d)→1≤Xg l
 | [],_=>by simp [Xg]
 | d::l,h=>by
  have h1:=Qar (l:=l) fun d hd=>h d (by simp [hd])
  have h2:=h d (by simp)
  exact Int.mul_pos (by omega) (by omega)
theorem Qem:∀ (l m:List Int),Xg (l++m)=Xg l*Xg m
 | [],m=>by simp [Xg]
 | d::l,m=>by simp [Xg,Qem l m,Int.mul_assoc]
theorem Qkv (l:List Int) (d:Int):Xg (l++[d])=Xg l*d:=by rw [Qem];simp [Xg]
theorem Kd {xs:List Int} {i:Nat} (h:i<xs.length):Xg (xs.take (i+1))=Xg (xs.take i)*xs.getD i 0:=by
 rw [← Qkv];congr 1;rw [List.take_add_one];simp [List.getD,h]
theorem Qkw {xs:List Int} (h:∀ d∈xs,1≤d) (i:Nat):Xg (xs.take i)≤Xg xs:=by
 have e:Xg xs=Xg (xs.take i)*Xg (xs.drop i):=by rw [← Qem,List.take_append_drop]
 have h1:=Qar (l:=xs.take i) fun d hd=>h d (List.mem_of_mem_take hd)
 have h2:=Qar (l:=xs.drop i) fun d hd=>h d (List.mem_of_mem_drop hd)
 rw [e]
 have:=Int.mul_le_mul_of_nonneg_left (c:=Xg (xs.take i)) h2 (by omega)
 omega
theorem Qgk {xs:List Int} (h:∀ d∈xs,1≤d) {i:Nat} (hi:i<xs.length):xs.getD i 0≤Xg xs:=by
 have h1:=Qkw h (i+1)
 rw [Kd hi] at h1
 have h2:=Qar (l:=xs.take i) fun d hd=>h d (List.mem_of_mem_take hd)
 have h3:1≤xs.getD i 0:=by
  have:xs.getD i 0=xs[i]:=by simp [List.getD,hi]
  rw [this];exact h _ (List.getElem_mem hi)
 have:1*xs.getD i 0≤Xg (xs.take i)*xs.getD i 0:=Int.mul_le_mul_of_nonneg_right h2 (by omega)
 omega
def Xn (xs:List Int):Int:=if xs.length>4 then 14 else if xs.all (fun d=>decide (1≤d)) then (if Xg xs>1024 then 14 else 0) else 13
theorem Yk {xs:List Int} (h:Xn xs=0):xs.length≤4∧(∀ d∈xs,1≤d)∧Xg xs≤1024:=by
 unfold Xn at h;split at h
 ·simp at h
 ·split at h
  ·split at h
   ·simp at h
   ·rename_i h1 h2 h3;exact ⟨by omega,by simpa using h2,by omega⟩
  ·simp at h
def Jp (xs:List Int):Int:=if Xn xs=0 then Xg xs else 0
theorem Qia {xs ys:List Int} (hl:xs.length=ys.length) (h:∀ j,j<xs.length→xs.getD j 0=ys.getD j 0):xs=ys:=by
 refine List.ext_getElem hl fun i h1 h2=>?_
 have:=h i h1
 simpa [List.getD,h1,h2] using this
theorem Qab {xs:List Int} {p:Int→Prop}:(∀ d∈xs,p d)↔∀ j,j<xs.length→p (xs.getD j 0):=by
 constructor
 ·intro h j hj
  have e:xs.getD j 0=xs[j]:=by simp [List.getD,hj]
  rw [e];exact h _ (List.getElem_mem hj)
 ·intro h d hd;obtain ⟨j,hj,rfl⟩:=List.mem_iff_getElem.1 hd
  have e:xs.getD j 0=xs[j]:=by simp [List.getD,hj]
  rw [← e];exact h j hj
theorem Qc3 {p:Nat→Prop} {i:Nat} (h:∀ j,j<i→p j) (hi:p i):∀ j,j<i+1→p j:=by
 intro j hj;by_cases e:j=i
 ·subst e;exact hi
 ·exact h j (by omega)
theorem Qn6 (xs:List Int) (hlx:xs.length≤17592186044416):Pu C 37 [.sl xs.length (ints xs)] (.int .i64 (Xn xs)):=by
 refine zK Qd Tryz.func37 w37 Tryz.ntmps37 Tryz.results37 ?_
 (refine zG ?_;(repeat' ((with_reducible apply zBr)<;>intro h<;>refine zG ?_))<;>try exact .intro)
 ·skip
  (refine Qh (by intro g;simp only [go_sem,ren,Qe]) ?_)
  congr 1;symm;rw [Xn,if_pos (by omega)]
 ·skip
  refine Qg (fun n ts H=>∃ i,(i≤xs.length)∧(∀ j,j<i→1≤xs.getD j 0)∧(n=xs.length - i)∧(H=[])∧ts.length=39∧nth ts 0=.sl xs.length (ints xs)∧nth ts 3=.int .i64 i) ?_ (n:=xs.length) ?_
  ·skip
   rintro n ts H ⟨i,hi,ha,hn,hH,hL,hs0,hs3⟩;refine Qv [(0,.sl xs.length (ints xs)),(3,.int .i64 i)] hL (by simp only [zFm,hs0,hs3,true_and];exact zNm) ?_
   clear hL hs0 hs3 ts
   refine Qw Qd ?_;subst hH hn
   (refine zG ?_;(repeat' ((with_reducible apply zBr)<;>intro h<;>refine zG ?_))<;>try exact .intro)
   ·skip
    (refine Qh (by intro g;simp only [go_sem,ren,Qe]) ?_)
    congr 1;symm;rw [Xn,if_neg (by omega),if_neg]
    intro hall;have:=Qab.1 (by simpa using hall) i (by omega);omega
   ·exact ⟨_,by omega,i+1,by omega,Qc3 ha (by omega),rfl,(by (repeat' apply And.intro)<;>(first | rfl | omega | (congr 1;omega) | assumption | (congr 1;assumption)))⟩
   ·have hall:∀ d∈xs,1≤d:=Qab.2 fun j hj=>ha j (by omega)
    have hall':xs.all (fun d=>decide (1≤d))=true:=by simpa using hall
    refine Qg (fun n ts H=>∃ k,(k≤xs.length)∧(Xg (xs.take k)≤1024)∧(n=xs.length - k)∧(H=[])∧ts.length=39∧nth ts 0=.sl xs.length (ints xs)∧nth ts 4=.int .i64 (Xg (xs.take k))∧nth ts 5=.int .i64 k) ?_ (n:=xs.length) ?_
    ·skip
     rintro n ts H ⟨k,hk,hm,hn,hH,hL,hs0,hs4,hs5⟩;refine Qv [(0,.sl xs.length (ints xs)),(4,.int .i64 (Xg (xs.take k))),(5,.int .i64 k)] hL (by simp only [zFm,hs0,hs4,hs5,true_and];exact zNm) ?_
     clear hL hs0 hs4 hs5 ts
     refine Qw Qd ?_;subst hH hn
     have hm1:=Qar (l:=xs.take k) fun d hd=>hall d (List.mem_of_mem_take hd)
     by_cases hlt:k<xs.length
     ·have hx1:=Qab.1 hall k hlt
      have hle:=Qgk hall hlt
      have hle2:=Qkw hall (k+1)
      rw [Kd hlt] at hle2;by_cases h4:1024<xs.getD k 0
      ·skip
       (refine zG ?_;(repeat' ((with_reducible apply zBr)<;>intro h<;>refine zG ?_))<;>try exact .intro)
       (refine Qh (by intro g;simp only [go_sem,ren,Qe]) ?_)
       congr 1;symm;rw [Xn,if_neg (by omega),if_pos hall',if_pos (by omega)]
      ·have hb:Xg (xs.take k)*xs.getD k 0≤1024*1024:=Int.mul_le_mul hm (by omega) (by omega) (by omega)
       have hb0:0≤Xg (xs.take k)*xs.getD k 0:=Int.mul_nonneg (by omega) (by omega)
       (refine zG ?_;(repeat' ((with_reducible apply zBr)<;>intro h<;>refine zG ?_))<;>try exact .intro)
       ·skip
        (refine Qh (by intro g;simp only [go_sem,ren,Qe]) ?_)
        congr 1;symm;rw [Xn,if_neg (by omega),if_pos hall',if_pos (by omega)]
       ·exact ⟨_,by omega,k+1,by omega,by rw [Kd hlt];omega,rfl,by rw [Kd hlt],rfl⟩
     ·have e:xs.take k=xs:=List.take_of_length_le (by omega)
      rw [e] at hm
      (refine zG ?_;(repeat' ((with_reducible apply zBr)<;>intro h<;>refine zG ?_))<;>try exact .intro)
      (refine Qh (by intro g;simp only [go_sem,ren,Qe]) ?_)
      congr 1;symm;rw [Xn,if_neg (by omega),if_pos hall',if_neg (by omega)]
    ·exact ⟨0,by omega,by simp [Xg],rfl,rfl,rfl,rfl,rfl,rfl⟩
  ·exact ⟨0,by omega,fun j hj=>by omega,rfl,rfl,rfl,rfl,rfl⟩
def okB (f t:List Int):Bool:=decide (f.length≤t.length)&&(List.range f.length).all fun i=>decide (f.getD i 0=1)||decide (f.getD i 0=t.getD (t.length - f.length+i) 0)
def Qea (f t:List Int):Int:=if Xn f=0 then (if Xn t=0 then (if okB f t then 0 else 13) else Xn t) else Xn f
theorem Qou (f t:List Int):okB f t=true↔f.length≤t.length∧∀ i,i<f.length→(f.getD i 0=1∨f.getD i 0=t.getD (t.length - f.length+i) 0):=by
 simp only [okB,Bool.and_eq_true,decide_eq_true_eq,List.all_eq_true,List.mem_range,Bool.or_eq_true]
def Ze (xs axes:List Int):Nat→List Int
 | 0=>[]
 | i+1=>Ze xs axes i++if axes.contains (i:Int) then [] else [xs.getD i 0]
theorem Qb7 (xs axes:List Int):∀ i,(Ze xs axes i).length≤i
 | 0=>by simp [Ze]
 | i+1=>by
  have:=Qb7 xs axes i
  simp only [Ze,List.length_append];split<;>simp<;>omega
def inP (o v:Int):Bool:=decide (1≤o∧o≤20∧1≤v∧v≤3∧(o=18→v=1)∧(o=19∨o=20→v<3)∧(o=8∨o=9→v=3))
def least (o:Int):Int:=if o=1∨o=2∨o=3∨o=4∨o=10 then 2 else if o=19 then 3 else if o=17 then 1 else if o<1∨o>20 then 0 else 1
def most (o:Int):Int:=if o=17 then 8 else least o
def Qb1 (v o:Int):Bool:=decide (((o=6∨o=11∨o=17)∧v=1)∨((o=14∨o=20)∧v<3))
theorem Xju (o v:Int):Pu C 21 [.int .i64 o,.int .i64 v] (.bool (inP o v)):=by
 refine zK Qd Tryz.func21 w21 Tryz.ntmps21 Tryz.results21 ?_
 (refine zG ?_;(repeat' ((with_reducible apply zBr)<;>intro h<;>refine zG ?_))<;>try exact .intro)
 all_goals (refine Qh (by intro g;simp only [go_sem,ren,Qe]) ?_)
 all_goals (simp only [V.tup.injEq,List.cons.injEq,V.int.injEq,V.bool.injEq,true_and,and_true];(try rw [Bool.eq_iff_iff]);(try simp only [inP,decide_eq_true_eq,decide_eq_false_iff_not,Decidable.not_not,true_and,and_true,Bool.not_eq_true,Bool.not_eq_eq_eq_not,Bool.not_true,Bool.and_eq_true,Bool.or_eq_true,beq_iff_eq,bne_iff_ne,ne_eq,Bool.false_eq_true,false_iff,true_iff,iff_false,iff_true]);(try omega))
theorem Qwc (o:Int):Pu C 42 [.int .i64 o] (.tup [.int .i64 (least o),.int .i64 (most o)]):=by
 refine zK Qd Tryz.func42 w42 Tryz.ntmps42 Tryz.results42 ?_
 (refine zG ?_;(repeat' ((with_reducible apply zBr)<;>intro h<;>refine zG ?_))<;>try exact .intro)
 all_goals (refine Qh (by intro g;simp only [go_sem,ren,Qe]) ?_)
 all_goals (simp only [V.tup.injEq,List.cons.injEq,V.int.injEq,V.bool.injEq,true_and,and_true];(try rw [Bool.eq_iff_iff]);(try simp only [most,least,decide_eq_true_eq,decide_eq_false_iff_not,Decidable.not_not,true_and,and_true,Bool.not_eq_true,Bool.not_eq_eq_eq_not,Bool.not_true,Bool.and_eq_true,Bool.or_eq_true,beq_iff_eq,bne_iff_ne,ne_eq,Bool.false_eq_true,false_iff,true_iff,iff_false,iff_true]);(try omega))
theorem Xa0 (v o:Int):Pu C 43 [.int .i64 v,.int .i64 o] (.bool (Qb1 v o)):=by
 refine zK Qd Tryz.func43 w43 Tryz.ntmps43 Tryz.results43 ?_
 (refine zG ?_;(repeat' ((with_reducible apply zBr)<;>intro h<;>refine zG ?_))<;>try exact .intro)
 all_goals (refine Qh (by intro g;simp only [go_sem,ren,Qe]) ?_)
 all_goals (simp only [V.tup.injEq,List.cons.injEq,V.int.injEq,V.bool.injEq,true_and,and_true];(try rw [Bool.eq_iff_iff]);(try simp only [Qb1,decide_eq_true_eq,decide_eq_false_iff_not,Decidable.not_not,true_and,and_true,Bool.not_eq_true,Bool.not_eq_eq_eq_not,Bool.not_true,Bool.and_eq_true,Bool.or_eq_true,beq_iff_eq,bne_iff_ne,ne_eq,Bool.false_eq_true,false_iff,true_iff,iff_false,iff_true]);(try omega))
end Go.Proofs.YtepjcbnpbcmfcaaGreat
end
