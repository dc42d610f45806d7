/- Ti Fe Fa Fb Fc Fd Ff Fo Fv Ka Kb Wn Si Kn Km: shortened and put together by squeeze.py. -/
import Derived.Test.YtmnjbhkcfghebaaGreatDoorQ01
import Derived.Laws.Slices
import Derived.Laws.BytesArg
import Derived.Laws.Strings
import Derived.Lib.Tables
set_option maxRecDepth 100000
set_option maxHeartbeats 4000000
set_option linter.unusedVariables false
set_option linter.unusedSectionVars false
set_option linter.unusedSimpArgs false
namespace Go.Proofs.YtmnjbhkcfghebaaGreatDoor
def sN:Nat→Nat→Ord→Ord
 |_,0,k=>k
 |i,n+1,k=> .still i (sN (i+1) n k)
instance:Mixed Tryz.prog:=⟨by kernel_rfl⟩
instance:Enters Tryz.prog 10:=⟨by kernel_rfl⟩
instance:Enters Tryz.prog 100:=⟨by kernel_rfl⟩
instance:Enters Tryz.prog 101:=⟨by kernel_rfl⟩
instance:Enters Tryz.prog 102:=⟨by kernel_rfl⟩
instance:Enters Tryz.prog 103:=⟨by kernel_rfl⟩
instance:Enters Tryz.prog 104:=⟨by kernel_rfl⟩
instance:Enters Tryz.prog 105:=⟨by kernel_rfl⟩
instance:Enters Tryz.prog 106:=⟨by kernel_rfl⟩
instance:Enters Tryz.prog 107:=⟨by kernel_rfl⟩
instance:Enters Tryz.prog 108:=⟨by kernel_rfl⟩
instance:Enters Tryz.prog 109:=⟨by kernel_rfl⟩
instance:Enters Tryz.prog 11:=⟨by kernel_rfl⟩
instance:Enters Tryz.prog 110:=⟨by kernel_rfl⟩
instance:Enters Tryz.prog 111:=⟨by kernel_rfl⟩
instance:Enters Tryz.prog 112:=⟨by kernel_rfl⟩
instance:Enters Tryz.prog 113:=⟨by kernel_rfl⟩
instance:Enters Tryz.prog 114:=⟨by kernel_rfl⟩
instance:Enters Tryz.prog 115:=⟨by kernel_rfl⟩
instance:Enters Tryz.prog 116:=⟨by kernel_rfl⟩
instance:Enters Tryz.prog 117:=⟨by kernel_rfl⟩
instance:Enters Tryz.prog 118:=⟨by kernel_rfl⟩
instance:Enters Tryz.prog 119:=⟨by kernel_rfl⟩
instance:Enters Tryz.prog 12:=⟨by kernel_rfl⟩
instance:Enters Tryz.prog 120:=⟨by kernel_rfl⟩
instance:Enters Tryz.prog 121:=⟨by kernel_rfl⟩
instance:Enters Tryz.prog 122:=⟨by kernel_rfl⟩
instance:Enters Tryz.prog 123:=⟨by kernel_rfl⟩
instance:Enters Tryz.prog 124:=⟨by kernel_rfl⟩
instance:Enters Tryz.prog 125:=⟨by kernel_rfl⟩
instance:Enters Tryz.prog 126:=⟨by kernel_rfl⟩
instance:Enters Tryz.prog 127:=⟨by kernel_rfl⟩
instance:Enters Tryz.prog 128:=⟨by kernel_rfl⟩
instance:Enters Tryz.prog 129:=⟨by kernel_rfl⟩
instance:Enters Tryz.prog 13:=⟨by kernel_rfl⟩
instance:Enters Tryz.prog 130:=⟨by kernel_rfl⟩
instance:Enters Tryz.prog 131:=⟨by kernel_rfl⟩
instance:Enters Tryz.prog 132:=⟨by kernel_rfl⟩
instance:Enters Tryz.prog 133:=⟨by kernel_rfl⟩
instance:Enters Tryz.prog 134:=⟨by kernel_rfl⟩
instance:Enters Tryz.prog 135:=⟨by kernel_rfl⟩
instance:Enters Tryz.prog 136:=⟨by kernel_rfl⟩
instance:Enters Tryz.prog 137:=⟨by kernel_rfl⟩
instance:Enters Tryz.prog 138:=⟨by kernel_rfl⟩
instance:Enters Tryz.prog 139:=⟨by kernel_rfl⟩
instance:Enters Tryz.prog 14:=⟨by kernel_rfl⟩
instance:Enters Tryz.prog 140:=⟨by kernel_rfl⟩
instance:Enters Tryz.prog 141:=⟨by kernel_rfl⟩
instance:Enters Tryz.prog 142:=⟨by kernel_rfl⟩
instance:Enters Tryz.prog 143:=⟨by kernel_rfl⟩
instance:Enters Tryz.prog 144:=⟨by kernel_rfl⟩
instance:Enters Tryz.prog 145:=⟨by kernel_rfl⟩
instance:Enters Tryz.prog 146:=⟨by kernel_rfl⟩
instance:Enters Tryz.prog 147:=⟨by kernel_rfl⟩
instance:Enters Tryz.prog 148:=⟨by kernel_rfl⟩
instance:Enters Tryz.prog 149:=⟨by kernel_rfl⟩
instance:Enters Tryz.prog 15:=⟨by kernel_rfl⟩
instance:Enters Tryz.prog 150:=⟨by kernel_rfl⟩
instance:Enters Tryz.prog 151:=⟨by kernel_rfl⟩
instance:Enters Tryz.prog 152:=⟨by kernel_rfl⟩
instance:Enters Tryz.prog 153:=⟨by kernel_rfl⟩
instance:Enters Tryz.prog 154:=⟨by kernel_rfl⟩
instance:Enters Tryz.prog 155:=⟨by kernel_rfl⟩
instance:Enters Tryz.prog 156:=⟨by kernel_rfl⟩
instance:Enters Tryz.prog 157:=⟨by kernel_rfl⟩
instance:Enters Tryz.prog 158:=⟨by kernel_rfl⟩
instance:Enters Tryz.prog 159:=⟨by kernel_rfl⟩
instance:Enters Tryz.prog 16:=⟨by kernel_rfl⟩
instance:Enters Tryz.prog 160:=⟨by kernel_rfl⟩
instance:Enters Tryz.prog 161:=⟨by kernel_rfl⟩
instance:Enters Tryz.prog 162:=⟨by kernel_rfl⟩
instance:Enters Tryz.prog 163:=⟨by kernel_rfl⟩
instance:Enters Tryz.prog 164:=⟨by kernel_rfl⟩
instance:Enters Tryz.prog 165:=⟨by kernel_rfl⟩
instance:Enters Tryz.prog 166:=⟨by kernel_rfl⟩
instance:Enters Tryz.prog 167:=⟨by kernel_rfl⟩
instance:Enters Tryz.prog 168:=⟨by kernel_rfl⟩
instance:Enters Tryz.prog 169:=⟨by kernel_rfl⟩
instance:Enters Tryz.prog 17:=⟨by kernel_rfl⟩
instance:Enters Tryz.prog 170:=⟨by kernel_rfl⟩
instance:Enters Tryz.prog 171:=⟨by kernel_rfl⟩
instance:Enters Tryz.prog 172:=⟨by kernel_rfl⟩
instance:Enters Tryz.prog 173:=⟨by kernel_rfl⟩
instance:Enters Tryz.prog 174:=⟨by kernel_rfl⟩
instance:Enters Tryz.prog 175:=⟨by kernel_rfl⟩
instance:Enters Tryz.prog 176:=⟨by kernel_rfl⟩
instance:Enters Tryz.prog 177:=⟨by kernel_rfl⟩
instance:Enters Tryz.prog 178:=⟨by kernel_rfl⟩
instance:Enters Tryz.prog 179:=⟨by kernel_rfl⟩
instance:Enters Tryz.prog 18:=⟨by kernel_rfl⟩
instance:Enters Tryz.prog 180:=⟨by kernel_rfl⟩
instance:Enters Tryz.prog 181:=⟨by kernel_rfl⟩
instance:Enters Tryz.prog 182:=⟨by kernel_rfl⟩
instance:Enters Tryz.prog 183:=⟨by kernel_rfl⟩
instance:Enters Tryz.prog 184:=⟨by kernel_rfl⟩
instance:Enters Tryz.prog 185:=⟨by kernel_rfl⟩
instance:Enters Tryz.prog 186:=⟨by kernel_rfl⟩
instance:Enters Tryz.prog 187:=⟨by kernel_rfl⟩
instance:Enters Tryz.prog 188:=⟨by kernel_rfl⟩
instance:Enters Tryz.prog 189:=⟨by kernel_rfl⟩
instance:Enters Tryz.prog 19:=⟨by kernel_rfl⟩
instance:Enters Tryz.prog 190:=⟨by kernel_rfl⟩
instance:Enters Tryz.prog 191:=⟨by kernel_rfl⟩
instance:Enters Tryz.prog 192:=⟨by kernel_rfl⟩
instance:Enters Tryz.prog 193:=⟨by kernel_rfl⟩
instance:Enters Tryz.prog 194:=⟨by kernel_rfl⟩
instance:Enters Tryz.prog 195:=⟨by kernel_rfl⟩
instance:Enters Tryz.prog 196:=⟨by kernel_rfl⟩
instance:Enters Tryz.prog 197:=⟨by kernel_rfl⟩
instance:Enters Tryz.prog 198:=⟨by kernel_rfl⟩
instance:Enters Tryz.prog 199:=⟨by kernel_rfl⟩
instance:Enters Tryz.prog 2:=⟨by kernel_rfl⟩
instance:Enters Tryz.prog 20:=⟨by kernel_rfl⟩
instance:Enters Tryz.prog 200:=⟨by kernel_rfl⟩
instance:Enters Tryz.prog 201:=⟨by kernel_rfl⟩
instance:Enters Tryz.prog 202:=⟨by kernel_rfl⟩
instance:Enters Tryz.prog 203:=⟨by kernel_rfl⟩
instance:Enters Tryz.prog 204:=⟨by kernel_rfl⟩
instance:Enters Tryz.prog 205:=⟨by kernel_rfl⟩
instance:Enters Tryz.prog 207:=⟨by kernel_rfl⟩
instance:Enters Tryz.prog 208:=⟨by kernel_rfl⟩
instance:Enters Tryz.prog 209:=⟨by kernel_rfl⟩
instance:Enters Tryz.prog 21:=⟨by kernel_rfl⟩
instance:Enters Tryz.prog 210:=⟨by kernel_rfl⟩
instance:Enters Tryz.prog 211:=⟨by kernel_rfl⟩
instance:Enters Tryz.prog 212:=⟨by kernel_rfl⟩
instance:Enters Tryz.prog 213:=⟨by kernel_rfl⟩
instance:Enters Tryz.prog 214:=⟨by kernel_rfl⟩
instance:Enters Tryz.prog 215:=⟨by kernel_rfl⟩
instance:Enters Tryz.prog 216:=⟨by kernel_rfl⟩
instance:Enters Tryz.prog 217:=⟨by kernel_rfl⟩
instance:Enters Tryz.prog 218:=⟨by kernel_rfl⟩
instance:Enters Tryz.prog 219:=⟨by kernel_rfl⟩
instance:Enters Tryz.prog 22:=⟨by kernel_rfl⟩
instance:Enters Tryz.prog 220:=⟨by kernel_rfl⟩
instance:Enters Tryz.prog 221:=⟨by kernel_rfl⟩
instance:Enters Tryz.prog 222:=⟨by kernel_rfl⟩
instance:Enters Tryz.prog 223:=⟨by kernel_rfl⟩
instance:Enters Tryz.prog 224:=⟨by kernel_rfl⟩
instance:Enters Tryz.prog 225:=⟨by kernel_rfl⟩
instance:Enters Tryz.prog 226:=⟨by kernel_rfl⟩
instance:Enters Tryz.prog 227:=⟨by kernel_rfl⟩
instance:Enters Tryz.prog 228:=⟨by kernel_rfl⟩
instance:Enters Tryz.prog 229:=⟨by kernel_rfl⟩
instance:Enters Tryz.prog 23:=⟨by kernel_rfl⟩
instance:Enters Tryz.prog 230:=⟨by kernel_rfl⟩
instance:Enters Tryz.prog 231:=⟨by kernel_rfl⟩
instance:Enters Tryz.prog 232:=⟨by kernel_rfl⟩
instance:Enters Tryz.prog 233:=⟨by kernel_rfl⟩
instance:Enters Tryz.prog 234:=⟨by kernel_rfl⟩
instance:Enters Tryz.prog 235:=⟨by kernel_rfl⟩
instance:Enters Tryz.prog 236:=⟨by kernel_rfl⟩
instance:Enters Tryz.prog 237:=⟨by kernel_rfl⟩
instance:Enters Tryz.prog 238:=⟨by kernel_rfl⟩
instance:Enters Tryz.prog 239:=⟨by kernel_rfl⟩
instance:Enters Tryz.prog 24:=⟨by kernel_rfl⟩
instance:Enters Tryz.prog 240:=⟨by kernel_rfl⟩
instance:Enters Tryz.prog 241:=⟨by kernel_rfl⟩
instance:Enters Tryz.prog 242:=⟨by kernel_rfl⟩
instance:Enters Tryz.prog 243:=⟨by kernel_rfl⟩
instance:Enters Tryz.prog 244:=⟨by kernel_rfl⟩
instance:Enters Tryz.prog 245:=⟨by kernel_rfl⟩
instance:Enters Tryz.prog 246:=⟨by kernel_rfl⟩
instance:Enters Tryz.prog 247:=⟨by kernel_rfl⟩
instance:Enters Tryz.prog 248:=⟨by kernel_rfl⟩
instance:Enters Tryz.prog 249:=⟨by kernel_rfl⟩
instance:Enters Tryz.prog 25:=⟨by kernel_rfl⟩
instance:Enters Tryz.prog 250:=⟨by kernel_rfl⟩
instance:Enters Tryz.prog 251:=⟨by kernel_rfl⟩
instance:Enters Tryz.prog 252:=⟨by kernel_rfl⟩
instance:Enters Tryz.prog 253:=⟨by kernel_rfl⟩
instance:Enters Tryz.prog 254:=⟨by kernel_rfl⟩
instance:Enters Tryz.prog 255:=⟨by kernel_rfl⟩
instance:Enters Tryz.prog 256:=⟨by kernel_rfl⟩
instance:Enters Tryz.prog 257:=⟨by kernel_rfl⟩
instance:Enters Tryz.prog 258:=⟨by kernel_rfl⟩
instance:Enters Tryz.prog 259:=⟨by kernel_rfl⟩
instance:Enters Tryz.prog 26:=⟨by kernel_rfl⟩
instance:Enters Tryz.prog 260:=⟨by kernel_rfl⟩
instance:Enters Tryz.prog 27:=⟨by kernel_rfl⟩
instance:Enters Tryz.prog 28:=⟨by kernel_rfl⟩
instance:Enters Tryz.prog 286:=⟨by kernel_rfl⟩
instance:Enters Tryz.prog 29:=⟨by kernel_rfl⟩
instance:Enters Tryz.prog 3:=⟨by kernel_rfl⟩
instance:Enters Tryz.prog 30:=⟨by kernel_rfl⟩
instance:Enters Tryz.prog 31:=⟨by kernel_rfl⟩
instance:Enters Tryz.prog 32:=⟨by kernel_rfl⟩
instance:Enters Tryz.prog 33:=⟨by kernel_rfl⟩
instance:Enters Tryz.prog 34:=⟨by kernel_rfl⟩
instance:Enters Tryz.prog 35:=⟨by kernel_rfl⟩
instance:Enters Tryz.prog 36:=⟨by kernel_rfl⟩
instance:Enters Tryz.prog 37:=⟨by kernel_rfl⟩
instance:Enters Tryz.prog 38:=⟨by kernel_rfl⟩
instance:Enters Tryz.prog 39:=⟨by kernel_rfl⟩
instance:Enters Tryz.prog 4:=⟨by kernel_rfl⟩
instance:Enters Tryz.prog 40:=⟨by kernel_rfl⟩
instance:Enters Tryz.prog 41:=⟨by kernel_rfl⟩
instance:Enters Tryz.prog 42:=⟨by kernel_rfl⟩
instance:Enters Tryz.prog 43:=⟨by kernel_rfl⟩
instance:Enters Tryz.prog 44:=⟨by kernel_rfl⟩
instance:Enters Tryz.prog 45:=⟨by kernel_rfl⟩
instance:Enters Tryz.prog 46:=⟨by kernel_rfl⟩
instance:Enters Tryz.prog 47:=⟨by kernel_rfl⟩
instance:Enters Tryz.prog 48:=⟨by kernel_rfl⟩
instance:Enters Tryz.prog 49:=⟨by kernel_rfl⟩
instance:Enters Tryz.prog 5:=⟨by kernel_rfl⟩
instance:Enters Tryz.prog 50:=⟨by kernel_rfl⟩
instance:Enters Tryz.prog 51:=⟨by kernel_rfl⟩
instance:Enters Tryz.prog 52:=⟨by kernel_rfl⟩
instance:Enters Tryz.prog 53:=⟨by kernel_rfl⟩
instance:Enters Tryz.prog 54:=⟨by kernel_rfl⟩
instance:Enters Tryz.prog 55:=⟨by kernel_rfl⟩
instance:Enters Tryz.prog 56:=⟨by kernel_rfl⟩
instance:Enters Tryz.prog 57:=⟨by kernel_rfl⟩
instance:Enters Tryz.prog 58:=⟨by kernel_rfl⟩
instance:Enters Tryz.prog 59:=⟨by kernel_rfl⟩
instance:Enters Tryz.prog 6:=⟨by kernel_rfl⟩
instance:Enters Tryz.prog 60:=⟨by kernel_rfl⟩
instance:Enters Tryz.prog 61:=⟨by kernel_rfl⟩
instance:Enters Tryz.prog 62:=⟨by kernel_rfl⟩
instance:Enters Tryz.prog 63:=⟨by kernel_rfl⟩
instance:Enters Tryz.prog 64:=⟨by kernel_rfl⟩
instance:Enters Tryz.prog 65:=⟨by kernel_rfl⟩
instance:Enters Tryz.prog 66:=⟨by kernel_rfl⟩
instance:Enters Tryz.prog 67:=⟨by kernel_rfl⟩
instance:Enters Tryz.prog 68:=⟨by kernel_rfl⟩
instance:Enters Tryz.prog 69:=⟨by kernel_rfl⟩
instance:Enters Tryz.prog 7:=⟨by kernel_rfl⟩
instance:Enters Tryz.prog 70:=⟨by kernel_rfl⟩
instance:Enters Tryz.prog 71:=⟨by kernel_rfl⟩
instance:Enters Tryz.prog 72:=⟨by kernel_rfl⟩
instance:Enters Tryz.prog 73:=⟨by kernel_rfl⟩
instance:Enters Tryz.prog 74:=⟨by kernel_rfl⟩
instance:Enters Tryz.prog 75:=⟨by kernel_rfl⟩
instance:Enters Tryz.prog 76:=⟨by kernel_rfl⟩
instance:Enters Tryz.prog 77:=⟨by kernel_rfl⟩
instance:Enters Tryz.prog 78:=⟨by kernel_rfl⟩
instance:Enters Tryz.prog 79:=⟨by kernel_rfl⟩
instance:Enters Tryz.prog 8:=⟨by kernel_rfl⟩
instance:Enters Tryz.prog 80:=⟨by kernel_rfl⟩
instance:Enters Tryz.prog 81:=⟨by kernel_rfl⟩
instance:Enters Tryz.prog 82:=⟨by kernel_rfl⟩
instance:Enters Tryz.prog 83:=⟨by kernel_rfl⟩
instance:Enters Tryz.prog 84:=⟨by kernel_rfl⟩
instance:Enters Tryz.prog 85:=⟨by kernel_rfl⟩
instance:Enters Tryz.prog 86:=⟨by kernel_rfl⟩
instance:Enters Tryz.prog 87:=⟨by kernel_rfl⟩
instance:Enters Tryz.prog 88:=⟨by kernel_rfl⟩
instance:Enters Tryz.prog 89:=⟨by kernel_rfl⟩
instance:Enters Tryz.prog 9:=⟨by kernel_rfl⟩
instance:Enters Tryz.prog 90:=⟨by kernel_rfl⟩
instance:Enters Tryz.prog 91:=⟨by kernel_rfl⟩
instance:Enters Tryz.prog 92:=⟨by kernel_rfl⟩
instance:Enters Tryz.prog 93:=⟨by kernel_rfl⟩
instance:Enters Tryz.prog 94:=⟨by kernel_rfl⟩
instance:Enters Tryz.prog 95:=⟨by kernel_rfl⟩
instance:Enters Tryz.prog 96:=⟨by kernel_rfl⟩
instance:Enters Tryz.prog 97:=⟨by kernel_rfl⟩
instance:Enters Tryz.prog 98:=⟨by kernel_rfl⟩
instance:Enters Tryz.prog 99:=⟨by kernel_rfl⟩
instance:TyA Tryz.prog 104 7:=⟨by kernel_rfl⟩
instance:TyA Tryz.prog 117 7:=⟨by kernel_rfl⟩
instance:TyA Tryz.prog 143 1:=⟨by kernel_rfl⟩
instance:TyA Tryz.prog 145 2:=⟨by kernel_rfl⟩
instance:TyA Tryz.prog 179 64:=⟨by kernel_rfl⟩
instance:TyA Tryz.prog 199 5:=⟨by kernel_rfl⟩
instance:TyA Tryz.prog 219 3:=⟨by kernel_rfl⟩
instance:TyA Tryz.prog 23 2:=⟨by kernel_rfl⟩
instance:TyA Tryz.prog 232 4:=⟨by kernel_rfl⟩
instance:TyA Tryz.prog 248 32:=⟨by kernel_rfl⟩
instance:TyA Tryz.prog 26 2:=⟨by kernel_rfl⟩
instance:TyA Tryz.prog 265 2:=⟨by kernel_rfl⟩
instance:TyA Tryz.prog 28 4:=⟨by kernel_rfl⟩
instance:TyA Tryz.prog 292 8:=⟨by kernel_rfl⟩
instance:TyA Tryz.prog 295 76:=⟨by kernel_rfl⟩
instance:TyA Tryz.prog 299 16:=⟨by kernel_rfl⟩
instance:TyA Tryz.prog 300 16:=⟨by kernel_rfl⟩
instance:TyA Tryz.prog 301 160:=⟨by kernel_rfl⟩
instance:TyA Tryz.prog 51 7:=⟨by kernel_rfl⟩
instance:TyA Tryz.prog 55 5:=⟨by kernel_rfl⟩
instance:TyA Tryz.prog 57 4:=⟨by kernel_rfl⟩
instance:TyA Tryz.prog 68 2:=⟨by kernel_rfl⟩
instance:TyA Tryz.prog 72 4:=⟨by kernel_rfl⟩
instance:TyA Tryz.prog 79 7:=⟨by kernel_rfl⟩
instance:TyAr Tryz.prog 179 64 3 1:=⟨by kernel_rfl⟩
instance:TyAr Tryz.prog 248 32 5 1:=⟨by kernel_rfl⟩
instance:TyAr Tryz.prog 292 8 175 1:=⟨by kernel_rfl⟩
instance:TyAr Tryz.prog 293 64 5 1:=⟨by kernel_rfl⟩
instance:TyAr Tryz.prog 299 16 175 1:=⟨by kernel_rfl⟩
instance:TyAr Tryz.prog 300 16 5 1:=⟨by kernel_rfl⟩
instance:TyAr Tryz.prog 301 10 300 16:=⟨by kernel_rfl⟩
instance:TyE Tryz.prog 169 175 1 4 ([.int .u32 0]):=⟨by kernel_rfl⟩
instance:TyE Tryz.prog 170 175 1 4 ([.int .u32 0]):=⟨by kernel_rfl⟩
instance:TyE Tryz.prog 191 24 1 24 ([.slice none 0 0]):=⟨by kernel_rfl⟩
instance:TyE Tryz.prog 24 5 1 1 ([.int .u8 0]):=⟨by kernel_rfl⟩
instance:TyE Tryz.prog 240 5 1 1 ([.int .u8 0]):=⟨by kernel_rfl⟩
instance:TyE Tryz.prog 307 41 1 24 ([.slice none 0 0]):=⟨by kernel_rfl⟩
instance:TyE Tryz.prog 33 55 5 40 ([.int .i64 0, .int .i64 0, .int .i64 0, .int .i64 0, .int .i64 0]):=⟨by kernel_rfl⟩
instance:TyE Tryz.prog 34 57 4 48 ([.int .i64 0, .int .i64 0, .int .i64 0, .slice none 0 0]):=⟨by kernel_rfl⟩
instance:TyE Tryz.prog 35 46 1 24 ([.slice none 0 0]):=⟨by kernel_rfl⟩
instance:TyE Tryz.prog 41 3 1 8 ([.int .i64 0]):=⟨by kernel_rfl⟩
instance:TyE Tryz.prog 46 79 7 88 ([.int .i64 0, .int .i64 0, .int .i64 0, .bool false, .slice none 0 0, .bool false, .slice none 0 0]):=⟨by kernel_rfl⟩
instance:TyE Tryz.prog 69 219 3 24 ([.int .i64 0, .int .i64 0, .int .i64 0]):=⟨by kernel_rfl⟩
instance:TyE Tryz.prog 70 265 2 16 ([.int .i64 0, .int .i64 0]):=⟨by kernel_rfl⟩
instance:TyF Tryz.prog 104 0 0:=⟨by kernel_rfl⟩
instance:TyF Tryz.prog 104 1 1:=⟨by kernel_rfl⟩
instance:TyF Tryz.prog 104 2 2:=⟨by kernel_rfl⟩
instance:TyF Tryz.prog 104 3 4:=⟨by kernel_rfl⟩
instance:TyF Tryz.prog 104 4 5:=⟨by kernel_rfl⟩
instance:TyF Tryz.prog 104 5 6:=⟨by kernel_rfl⟩
instance:TyF Tryz.prog 117 0 0:=⟨by kernel_rfl⟩
instance:TyF Tryz.prog 117 1 1:=⟨by kernel_rfl⟩
instance:TyF Tryz.prog 117 2 2:=⟨by kernel_rfl⟩
instance:TyF Tryz.prog 117 3 3:=⟨by kernel_rfl⟩
instance:TyF Tryz.prog 117 4 4:=⟨by kernel_rfl⟩
instance:TyF Tryz.prog 117 5 5:=⟨by kernel_rfl⟩
instance:TyF Tryz.prog 117 6 6:=⟨by kernel_rfl⟩
instance:TyF Tryz.prog 143 0 0:=⟨by kernel_rfl⟩
instance:TyF Tryz.prog 145 0 0:=⟨by kernel_rfl⟩
instance:TyF Tryz.prog 145 1 1:=⟨by kernel_rfl⟩
instance:TyF Tryz.prog 199 0 0:=⟨by kernel_rfl⟩
instance:TyF Tryz.prog 199 1 4:=⟨by kernel_rfl⟩
instance:TyF Tryz.prog 219 0 0:=⟨by kernel_rfl⟩
instance:TyF Tryz.prog 219 1 1:=⟨by kernel_rfl⟩
instance:TyF Tryz.prog 219 2 2:=⟨by kernel_rfl⟩
instance:TyF Tryz.prog 23 0 0:=⟨by kernel_rfl⟩
instance:TyF Tryz.prog 23 1 1:=⟨by kernel_rfl⟩
instance:TyF Tryz.prog 232 0 0:=⟨by kernel_rfl⟩
instance:TyF Tryz.prog 232 1 1:=⟨by kernel_rfl⟩
instance:TyF Tryz.prog 232 2 2:=⟨by kernel_rfl⟩
instance:TyF Tryz.prog 232 3 3:=⟨by kernel_rfl⟩
instance:TyF Tryz.prog 26 0 0:=⟨by kernel_rfl⟩
instance:TyF Tryz.prog 26 1 1:=⟨by kernel_rfl⟩
instance:TyF Tryz.prog 265 0 0:=⟨by kernel_rfl⟩
instance:TyF Tryz.prog 265 1 1:=⟨by kernel_rfl⟩
instance:TyF Tryz.prog 28 0 0:=⟨by kernel_rfl⟩
instance:TyF Tryz.prog 28 1 2:=⟨by kernel_rfl⟩
instance:TyF Tryz.prog 295 1 1:=⟨by kernel_rfl⟩
instance:TyF Tryz.prog 295 2 9:=⟨by kernel_rfl⟩
instance:TyF Tryz.prog 295 3 73:=⟨by kernel_rfl⟩
instance:TyF Tryz.prog 295 4 74:=⟨by kernel_rfl⟩
instance:TyF Tryz.prog 295 5 75:=⟨by kernel_rfl⟩
instance:TyF Tryz.prog 51 0 0:=⟨by kernel_rfl⟩
instance:TyF Tryz.prog 51 1 1:=⟨by kernel_rfl⟩
instance:TyF Tryz.prog 51 2 2:=⟨by kernel_rfl⟩
instance:TyF Tryz.prog 51 3 4:=⟨by kernel_rfl⟩
instance:TyF Tryz.prog 51 4 5:=⟨by kernel_rfl⟩
instance:TyF Tryz.prog 51 5 6:=⟨by kernel_rfl⟩
instance:TyF Tryz.prog 55 0 0:=⟨by kernel_rfl⟩
instance:TyF Tryz.prog 55 1 1:=⟨by kernel_rfl⟩
instance:TyF Tryz.prog 55 2 2:=⟨by kernel_rfl⟩
instance:TyF Tryz.prog 55 3 3:=⟨by kernel_rfl⟩
instance:TyF Tryz.prog 55 4 4:=⟨by kernel_rfl⟩
instance:TyF Tryz.prog 57 0 0:=⟨by kernel_rfl⟩
instance:TyF Tryz.prog 57 1 1:=⟨by kernel_rfl⟩
instance:TyF Tryz.prog 57 2 2:=⟨by kernel_rfl⟩
instance:TyF Tryz.prog 57 3 3:=⟨by kernel_rfl⟩
instance:TyF Tryz.prog 68 0 0:=⟨by kernel_rfl⟩
instance:TyF Tryz.prog 68 1 1:=⟨by kernel_rfl⟩
instance:TyF Tryz.prog 72 0 0:=⟨by kernel_rfl⟩
instance:TyF Tryz.prog 72 1 1:=⟨by kernel_rfl⟩
instance:TyF Tryz.prog 72 2 2:=⟨by kernel_rfl⟩
instance:TyF Tryz.prog 72 3 3:=⟨by kernel_rfl⟩
instance:TyF Tryz.prog 79 0 0:=⟨by kernel_rfl⟩
instance:TyF Tryz.prog 79 1 1:=⟨by kernel_rfl⟩
instance:TyF Tryz.prog 79 2 2:=⟨by kernel_rfl⟩
instance:TyF Tryz.prog 79 3 3:=⟨by kernel_rfl⟩
instance:TyI Tryz.prog 172 .u64:=⟨by kernel_rfl⟩
instance:TyI Tryz.prog 175 .u32:=⟨by kernel_rfl⟩
instance:TyI Tryz.prog 176 .u64:=⟨by kernel_rfl⟩
instance:TyI Tryz.prog 3 .i64:=⟨by kernel_rfl⟩
instance:TyI Tryz.prog 5 .u8:=⟨by kernel_rfl⟩
instance:TyPl Tryz.prog 104 0 0 1:=⟨by kernel_rfl⟩
instance:TyPl Tryz.prog 104 1 1 1:=⟨by kernel_rfl⟩
instance:TyPl Tryz.prog 104 2 2 2:=⟨by kernel_rfl⟩
instance:TyPl Tryz.prog 104 3 4 1:=⟨by kernel_rfl⟩
instance:TyPl Tryz.prog 117 0 0 1:=⟨by kernel_rfl⟩
instance:TyPl Tryz.prog 117 1 1 1:=⟨by kernel_rfl⟩
instance:TyPl Tryz.prog 117 3 3 1:=⟨by kernel_rfl⟩
instance:TyPl Tryz.prog 117 4 4 1:=⟨by kernel_rfl⟩
instance:TyPl Tryz.prog 117 6 6 1:=⟨by kernel_rfl⟩
instance:TyPl Tryz.prog 199 0 0 4:=⟨by kernel_rfl⟩
instance:TyPl Tryz.prog 199 1 4 1:=⟨by kernel_rfl⟩
instance:TyPl Tryz.prog 23 0 0 1:=⟨by kernel_rfl⟩
instance:TyPl Tryz.prog 23 1 1 1:=⟨by kernel_rfl⟩
instance:TyPl Tryz.prog 232 1 1 1:=⟨by kernel_rfl⟩
instance:TyPl Tryz.prog 232 2 2 1:=⟨by kernel_rfl⟩
instance:TyPl Tryz.prog 26 0 0 1:=⟨by kernel_rfl⟩
instance:TyPl Tryz.prog 26 1 1 1:=⟨by kernel_rfl⟩
instance:TyPl Tryz.prog 28 0 0 2:=⟨by kernel_rfl⟩
instance:TyPl Tryz.prog 28 1 2 2:=⟨by kernel_rfl⟩
instance:TyPl Tryz.prog 295 0 0 1:=⟨by kernel_rfl⟩
instance:TyPl Tryz.prog 295 1 1 8:=⟨by kernel_rfl⟩
instance:TyPl Tryz.prog 51 0 0 1:=⟨by kernel_rfl⟩
instance:TyPl Tryz.prog 51 1 1 1:=⟨by kernel_rfl⟩
instance:TyPl Tryz.prog 51 2 2 2:=⟨by kernel_rfl⟩
instance:TyPl Tryz.prog 51 3 4 1:=⟨by kernel_rfl⟩
instance:TyPl Tryz.prog 55 1 1 1:=⟨by kernel_rfl⟩
instance:TyPl Tryz.prog 55 2 2 1:=⟨by kernel_rfl⟩
instance:TyPl Tryz.prog 55 3 3 1:=⟨by kernel_rfl⟩
instance:TyPl Tryz.prog 55 4 4 1:=⟨by kernel_rfl⟩
instance:TyPl Tryz.prog 57 0 0 1:=⟨by kernel_rfl⟩
instance:TyPl Tryz.prog 57 1 1 1:=⟨by kernel_rfl⟩
instance:TyPl Tryz.prog 57 2 2 1:=⟨by kernel_rfl⟩
instance:TyPl Tryz.prog 57 3 3 1:=⟨by kernel_rfl⟩
instance:TyPl Tryz.prog 68 0 0 1:=⟨by kernel_rfl⟩
instance:TyPl Tryz.prog 68 1 1 1:=⟨by kernel_rfl⟩
instance:TyPl Tryz.prog 79 0 0 1:=⟨by kernel_rfl⟩
instance:TyPl Tryz.prog 79 1 1 1:=⟨by kernel_rfl⟩
instance:TyPl Tryz.prog 79 2 2 1:=⟨by kernel_rfl⟩
instance:TyPl Tryz.prog 79 3 3 4:=⟨by kernel_rfl⟩
instance:TyS Tryz.prog 150:=⟨by kernel_rfl⟩
instance:TyS Tryz.prog 172:=⟨by kernel_rfl⟩
instance:TyS Tryz.prog 175:=⟨by kernel_rfl⟩
instance:TyS Tryz.prog 191:=⟨by kernel_rfl⟩
instance:TyS Tryz.prog 24:=⟨by kernel_rfl⟩
instance:TyS Tryz.prog 3:=⟨by kernel_rfl⟩
instance:TyS Tryz.prog 33:=⟨by kernel_rfl⟩
instance:TyS Tryz.prog 34:=⟨by kernel_rfl⟩
instance:TyS Tryz.prog 38:=⟨by kernel_rfl⟩
instance:TyS Tryz.prog 4:=⟨by kernel_rfl⟩
instance:TyS Tryz.prog 41:=⟨by kernel_rfl⟩
instance:TyS Tryz.prog 46:=⟨by kernel_rfl⟩
instance:TyS Tryz.prog 5:=⟨by kernel_rfl⟩
instance:TyS Tryz.prog 69:=⟨by kernel_rfl⟩
instance:TyS Tryz.prog 70:=⟨by kernel_rfl⟩
instance:TySl Tryz.prog 169 175 1:=⟨by kernel_rfl⟩
instance:TySl Tryz.prog 170 175 1:=⟨by kernel_rfl⟩
instance:TySl Tryz.prog 191 24 1:=⟨by kernel_rfl⟩
instance:TySl Tryz.prog 24 5 1:=⟨by kernel_rfl⟩
instance:TySl Tryz.prog 240 5 1:=⟨by kernel_rfl⟩
instance:TySl Tryz.prog 307 41 1:=⟨by kernel_rfl⟩
instance:TySl Tryz.prog 33 55 5:=⟨by kernel_rfl⟩
instance:TySl Tryz.prog 34 57 4:=⟨by kernel_rfl⟩
instance:TySl Tryz.prog 35 46 1:=⟨by kernel_rfl⟩
instance:TySl Tryz.prog 41 3 1:=⟨by kernel_rfl⟩
instance:TySl Tryz.prog 46 79 7:=⟨by kernel_rfl⟩
instance:TySl Tryz.prog 69 219 3:=⟨by kernel_rfl⟩
instance:TySl Tryz.prog 70 265 2:=⟨by kernel_rfl⟩
instance:TySt Tryz.prog 104:=⟨by kernel_rfl⟩
instance:TySt Tryz.prog 117:=⟨by kernel_rfl⟩
instance:TySt Tryz.prog 199:=⟨by kernel_rfl⟩
instance:TySt Tryz.prog 23:=⟨by kernel_rfl⟩
instance:TySt Tryz.prog 232:=⟨by kernel_rfl⟩
instance:TySt Tryz.prog 26:=⟨by kernel_rfl⟩
instance:TySt Tryz.prog 28:=⟨by kernel_rfl⟩
instance:TySt Tryz.prog 295:=⟨by kernel_rfl⟩
instance:TySt Tryz.prog 51:=⟨by kernel_rfl⟩
instance:TySt Tryz.prog 55:=⟨by kernel_rfl⟩
instance:TySt Tryz.prog 57:=⟨by kernel_rfl⟩
instance:TySt Tryz.prog 68:=⟨by kernel_rfl⟩
instance:TySt Tryz.prog 79:=⟨by kernel_rfl⟩
instance:TyZ Tryz.prog 104 ([.slice none 0 0, .slice none 0 0, .int .i64 0, .int .i64 0, .slice none 0 0, .int .i64 0, .slice none 0 0]):=⟨by kernel_rfl⟩
instance:TyZ Tryz.prog 117 ([.slice none 0 0, .slice none 0 0, .slice none 0 0, .slice none 0 0, .slice none 0 0, .slice none 0 0, .slice none 0 0]):=⟨by kernel_rfl⟩
instance:TyZ Tryz.prog 145 ([.int .i64 0, .slice none 0 0]):=⟨by kernel_rfl⟩
instance:TyZ Tryz.prog 179 (List.replicate 64 (.int .i64 0)):=⟨by kernel_rfl⟩
instance:TyZ Tryz.prog 191 ([.slice none 0 0]):=⟨by kernel_rfl⟩
instance:TyZ Tryz.prog 199 ([.int .i64 0, .int .i64 0, .int .i64 0, .slice none 0 0, .int .i64 0]):=⟨by kernel_rfl⟩
instance:TyZ Tryz.prog 219 ([.int .i64 0, .int .i64 0, .int .i64 0]):=⟨by kernel_rfl⟩
instance:TyZ Tryz.prog 23 ([.int .i64 0, .int .i64 0]):=⟨by kernel_rfl⟩
instance:TyZ Tryz.prog 232 ([.int .i64 0, .bool false, .slice none 0 0, .int .i64 0]):=⟨by kernel_rfl⟩
instance:TyZ Tryz.prog 248 (List.replicate 32 (.int .u8 0)):=⟨by kernel_rfl⟩
instance:TyZ Tryz.prog 26 ([.bool false, .slice none 0 0]):=⟨by kernel_rfl⟩
instance:TyZ Tryz.prog 265 ([.int .i64 0, .int .i64 0]):=⟨by kernel_rfl⟩
instance:TyZ Tryz.prog 28 ([.bool false, .slice none 0 0, .bool false, .slice none 0 0]):=⟨by kernel_rfl⟩
instance:TyZ Tryz.prog 292 ([.int .u32 0, .int .u32 0, .int .u32 0, .int .u32 0, .int .u32 0, .int .u32 0, .int .u32 0, .int .u32 0]):=⟨by kernel_rfl⟩
instance:TyZ Tryz.prog 295 ([.bool false]++List.replicate 8 (.int .u32 0)++List.replicate 64 (.int .u8 0)++[.int .i64 0]++[.int .u64 0]++[.int .i64 0]):=⟨by kernel_rfl⟩
instance:TyZ Tryz.prog 299 ([.int .u32 0, .int .u32 0, .int .u32 0, .int .u32 0, .int .u32 0, .int .u32 0, .int .u32 0, .int .u32 0, .int .u32 0, .int .u32 0, .int .u32 0, .int .u32 0, .int .u32 0, .int .u32 0, .int .u32 0, .int .u32 0]):=⟨by kernel_rfl⟩
instance:TyZ Tryz.prog 3 ([.int .i64 0]):=⟨by kernel_rfl⟩
instance:TyZ Tryz.prog 300 ([.int .u8 0, .int .u8 0, .int .u8 0, .int .u8 0, .int .u8 0, .int .u8 0, .int .u8 0, .int .u8 0, .int .u8 0, .int .u8 0, .int .u8 0, .int .u8 0, .int .u8 0, .int .u8 0, .int .u8 0, .int .u8 0]):=⟨by kernel_rfl⟩
instance:TyZ Tryz.prog 301 (List.replicate 160 (.int .u8 0)):=⟨by kernel_rfl⟩
instance:TyZ Tryz.prog 51 ([.slice none 0 0, .slice none 0 0, .int .i64 0, .int .i64 0, .slice none 0 0, .slice none 0 0, .int .i64 0]):=⟨by kernel_rfl⟩
instance:TyZ Tryz.prog 55 ([.int .i64 0, .int .i64 0, .int .i64 0, .int .i64 0, .int .i64 0]):=⟨by kernel_rfl⟩
instance:TyZ Tryz.prog 57 ([.int .i64 0, .int .i64 0, .int .i64 0, .slice none 0 0]):=⟨by kernel_rfl⟩
instance:TyZ Tryz.prog 68 ([.int .i64 0, .int .i64 0]):=⟨by kernel_rfl⟩
instance:TyZ Tryz.prog 79 ([.int .i64 0, .int .i64 0, .int .i64 0, .bool false, .slice none 0 0, .bool false, .slice none 0 0]):=⟨by kernel_rfl⟩
instance:Zs [.int .i64 0, .int .i64 0, .int .i64 0, .bool false, .slice none 0 0, .bool false, .slice none 0 0] 1 [.int .i64 0, .int .i64 0, .int .i64 0, .bool false, .slice none 0 0, .bool false, .slice none 0 0]:=⟨by kernel_rfl⟩
instance:Zs [.int .i64 0, .int .i64 0, .int .i64 0, .int .i64 0, .int .i64 0] 0 []:=⟨by kernel_rfl⟩
instance:Zs [.int .i64 0, .int .i64 0, .int .i64 0, .int .i64 0, .int .i64 0] 1 [.int .i64 0, .int .i64 0, .int .i64 0, .int .i64 0, .int .i64 0]:=⟨by kernel_rfl⟩
instance:Zs [.int .i64 0, .int .i64 0, .int .i64 0, .slice none 0 0] 0 []:=⟨by kernel_rfl⟩
instance:Zs [.int .i64 0, .int .i64 0, .int .i64 0, .slice none 0 0] 1 [.int .i64 0, .int .i64 0, .int .i64 0, .slice none 0 0]:=⟨by kernel_rfl⟩
instance:Zs [.int .i64 0, .int .i64 0, .int .i64 0, .slice none 0 0] 2 [.int .i64 0, .int .i64 0, .int .i64 0, .slice none 0 0, .int .i64 0, .int .i64 0, .int .i64 0, .slice none 0 0]:=⟨by kernel_rfl⟩
instance:Zs [.int .i64 0] 0 []:=⟨by kernel_rfl⟩
instance:Zs [.int .i64 0] 1 [.int .i64 0]:=⟨by kernel_rfl⟩
instance:Zs [.int .i64 0] 16 [.int .i64 0, .int .i64 0, .int .i64 0, .int .i64 0, .int .i64 0, .int .i64 0, .int .i64 0, .int .i64 0, .int .i64 0, .int .i64 0, .int .i64 0, .int .i64 0, .int .i64 0, .int .i64 0, .int .i64 0, .int .i64 0]:=⟨by kernel_rfl⟩
instance:Zs [.int .i64 0] 2 [.int .i64 0, .int .i64 0]:=⟨by kernel_rfl⟩
instance:Zs [.int .i64 0] 4 [.int .i64 0, .int .i64 0, .int .i64 0, .int .i64 0]:=⟨by kernel_rfl⟩
instance:Zs [.int .u32 0] 1 [.int .u32 0]:=⟨by kernel_rfl⟩
instance:Zs [.int .u32 0] 2 [.int .u32 0, .int .u32 0]:=⟨by kernel_rfl⟩
instance:Zs [.int .u32 0] 8 [.int .u32 0, .int .u32 0, .int .u32 0, .int .u32 0, .int .u32 0, .int .u32 0, .int .u32 0, .int .u32 0]:=⟨by kernel_rfl⟩
instance:Zs [.int .u8 0] 0 []:=⟨by kernel_rfl⟩
instance:Zs [.int .u8 0] 1 [.int .u8 0]:=⟨by kernel_rfl⟩
instance:Zs [.int .u8 0] 3 [.int .u8 0, .int .u8 0, .int .u8 0]:=⟨by kernel_rfl⟩
instance:Zs [.int .u8 0] 4 [.int .u8 0, .int .u8 0, .int .u8 0, .int .u8 0]:=⟨by kernel_rfl⟩
instance:Zs [.int .u8 0] 7 [.int .u8 0, .int .u8 0, .int .u8 0, .int .u8 0, .int .u8 0, .int .u8 0, .int .u8 0]:=⟨by kernel_rfl⟩
instance:Zs [.slice none 0 0] 1 [.slice none 0 0]:=⟨by kernel_rfl⟩
instance:Zs [.slice none 0 0] 10 [.slice none 0 0, .slice none 0 0, .slice none 0 0, .slice none 0 0, .slice none 0 0, .slice none 0 0, .slice none 0 0, .slice none 0 0, .slice none 0 0, .slice none 0 0]:=⟨by kernel_rfl⟩
end Go.Proofs.YtmnjbhkcfghebaaGreatDoor
namespace Go.Proofs.YtmnjbhkcfghebaaGreatDoor
open Go.RowKit
def zkk (fs:eb):Op→Option Value
 | .pick c x y=>match ev fs c with
  |some (.bool true)=>ev fs x
  |some (.bool false)=>ev fs y
  |_=>none
 |op=>zhN fs op
def zfj (ops:Array Oper)(fs:eb)(o:Oper):Option Bool:=
 match o.guard with
 |none=>some true
 |some (j,want)=>match (ops[j]?).bind (·.dst) with
  |some d=>match eJ fs d with
   |some (.bool true)=>some want
   |some (.bool false)=>some (!want)
   |some (.tuple a)=>bif a.toList.isEmpty then some false else none
   |_=>none
  |none=>none
def zkL (n:Nat)(ops:Array Oper)(fs:eb)(o:Oper):Option eb:=
 match o.dst with
 |none=>none
 |some d=>bif Nat.blt d n then
   match zfj ops fs o with
   |some true=>match zkk fs o.op with
    |some v=>some ((d,v) :: fs)
    |none=>none
   |some false=>some ((d,undef) :: fs)
   |none=>none
  else none
def jU (n:Nat)(ops:Array Oper):Nat→eb→List Oper→Option (eb×List Oper)
 |0,fs,l=>some (fs,l)
 |k+1,fs,o :: l=>match zkL n ops fs o with
  |some fs'=>jU n ops k fs' l
  |none=>none
 |_+1,_,[]=>none
def jJ (n:Nat)(ops:Array Oper):Nat→eb→Ord→Option (eb×Ord)
 |0,fs,r=>some (fs,r)
 |k+1,fs, .still i r=>match ops[i]? with
  |some o=>match zkL n ops fs o with
   |some fs'=>jJ n ops k fs' r
   |none=>none
  |none=>none
 |_+1,_,_=>none
theorem eD {a b:Bool}(h:a=true):(a||b)=true:=by rw [h];rfl
theorem fK {a b:Bool}(h:a=false):b=(a||b):=by rw [h];rfl
theorem fw {a b c:Bool}(h:a=false)(k:b=c):(a||b)=c:=by rw [h,k];rfl
theorem iL {a b:Bool}(h:a=false):(a&&b)=false:=by rw [h];rfl
theorem kg {a b:Bool}(h:a=true):b=(a&&b):=by rw [h];rfl
theorem zfh {a b c:Bool}(h:a=true)(k:b=c):(a&&b)=c:=by rw [h,k];rfl
section
variable {Fe:Fence}[hFe:Calm Fe]{P:Program}{n:Nat}{B D:World}{M S0:Nat→Prop}{Q:Exit→Act→World→Prop}{fs fs':eb}{hs:HS}{ops:Array Oper}{rest l l':List Oper}{o:Oper}{v val sv:Value}
theorem mv (h:zkk fs o.op=some v):Yv P n B M fs hs o v:=by
 unfold zkk at h
 split at h
 ·rename_i c x y e
  split at h
  ·rename_i hc;exact Yv.cr e hc rfl h
  ·rename_i hc;exact Yv.cs e hc rfl h
  ·cases h
 ·exact dh h
theorem mh {b:Bool}(h:zfj ops fs o=some b):Wt n ops fs o b:=by
 unfold zfj at h
 split at h
 ·rename_i hg;cases h;exact cT hg
 ·rename_i j want hg
  split at h
  ·rename_i d hd
   split at h
   ·rename_i hl
    obtain rfl:=Option.some.inj h
    cases want
    ·exact Wt.not hg hd hl rfl
    ·exact Wt.some hg hd hl rfl
   ·rename_i hl
    obtain rfl:=Option.some.inj h
    cases want
    ·exact Wt.some hg hd hl rfl
    ·exact Wt.not hg hd hl rfl
   ·rename_i a hl
    cases ha:a.toList.isEmpty with
    |false=>rw [ha] at h;cases h
    |true=>
     rw [ha] at h;cases h
     have:a= #[]:=by apply Array.ext';simpa using ha
     subst this
     exact Wt.undef hg hd hl
   ·cases h
  ·cases h
theorem zgB (h:zkL n ops fs o=some fs'):∃d v,o.dst=some d∧Nat.blt d n=true∧fs'=(d,v) :: fs∧((zfj ops fs o=some true∧zkk fs o.op=some v)∨(zfj ops fs o=some false∧v=undef)):=by
 unfold zkL at h
 split at h
 ·cases h
 ·rename_i d hd
  cases hb:Nat.blt d n with
  |false=>rw [hb] at h;cases h
  |true=>
   rw [hb] at h
   simp only [cond_true] at h
   split at h
   ·rename_i hg
    split at h
    ·rename_i v hv;cases h;exact ⟨d,v,hd,hb,rfl, .inl ⟨hg,hv⟩⟩
    ·cases h
   ·rename_i hg;cases h;exact ⟨d,undef,hd,hb,rfl, .inr ⟨hg,rfl⟩⟩
   ·cases h
theorem TL.run:∀(k:Nat) {fs fs':eb} {l l':List Oper},jU n ops k fs l=some (fs',l')→TL Fe P n B D M ops Q l' fs' hs→TL Fe P n B D M ops Q l fs hs
 |0,fs,fs',l,l',h,t=>by simp only [jU,Option.some.injEq,Prod.mk.injEq] at h;rw [h.1,h.2];exact t
 |k+1,fs,fs',[],l',h,t=>by simp [jU] at h
 |k+1,fs,fs',o :: r,l',h,t=>by
  simp only [jU] at h
  split at h
  ·rename_i f1 h1
   obtain ⟨d,v,hd,hb,rfl,h2⟩:=zgB h1
   have ih:=TL.run k h t
   rcases h2 with ⟨hg,hv⟩|⟨hg,rfl⟩
   ·exact TL.yv (mh hg) hd hb (mv hv) ih
   ·exact TL.off (mh hg) hd hb ih
  ·cases h
theorem TS.run [hnp:NP Q]{hs0:HS}:∀(k:Nat) {fs fs':eb} {r r':Ord},jJ n ops k fs r=some (fs',r')→TS Fe P n B D M ops Q hs0 r' fs' hs→TS Fe P n B D M ops Q hs0 r fs hs
 |0,fs,fs',r,r',h,t=>by simp only [jJ,Option.some.injEq,Prod.mk.injEq] at h;rw [h.1,h.2];exact t
 |k+1,fs,fs', .still i r,r',h,t=>by
  simp only [jJ] at h
  split at h
  ·rename_i o ho
   split at h
   ·rename_i f1 h1
    obtain ⟨d,v,hd,hb,rfl,h2⟩:=zgB h1
    have ih:=TS.run k h t
    rcases h2 with ⟨hg,hv⟩|⟨hg,rfl⟩
    ·exact TS.still ho (mh hg) hd hb (mv hv) ih
    ·exact TS.bO ho (mh hg) hd hb ih
   ·cases h
  ·cases h
 |k+1,fs,fs', .done,r',h,t=>by simp [jJ] at h
 |k+1,fs,fs', .eff _ _,r',h,t=>by simp [jJ] at h
 |k+1,fs,fs', .two _ _ _ _,r',h,t=>by simp [jJ] at h
 |k+1,fs,fs', .any _ _,r',h,t=>by simp [jJ] at h
 |k+1,fs,fs', .bar _ _,r',h,t=>by simp [jJ] at h
theorem dg {d j:Nat}{want b:Bool}(hg:o.guard=some (j,want))(hd:(ops[j]?).bind (·.dst)=some d)(hl:eJ fs d=some (.bool b))(h1:b=true→TL Fe P n B D M ops Q (o :: rest) ((d, .bool true) :: fs) hs)(h2:b=false→TL Fe P n B D M ops Q (o :: rest) ((d, .bool false) :: fs) hs):TL Fe P n B D M ops Q (o :: rest) fs hs:=by
 cases b with
 |true=>exact TL.aR (Sub.cons hl Sub.refl) (List.Sublist.refl _) (h1 rfl)
 |false=>exact TL.aR (Sub.cons hl Sub.refl) (List.Sublist.refl _) (h2 rfl)
theorem fk {hs0:HS}{i d j:Nat}{k:Ord}{want b:Bool}(hi:ops[i]?=some o)(hg:o.guard=some (j,want))(hd:(ops[j]?).bind (·.dst)=some d)(hl:eJ fs d=some (.bool b))(h1:b=true→TS Fe P n B D M ops Q hs0 (.still i k) ((d, .bool true) :: fs) hs)(h2:b=false→TS Fe P n B D M ops Q hs0 (.still i k) ((d, .bool false) :: fs) hs):TS Fe P n B D M ops Q hs0 (.still i k) fs hs:=by
 cases b with
 |true=>exact TS.aR (Sub.cons hl Sub.refl) (List.Perm.refl _) (h1 rfl)
 |false=>exact TS.aR (Sub.cons hl Sub.refl) (List.Perm.refl _) (h2 rfl)
theorem T.bw {c:Code}(b:Bool)(h1:b=true→T Fe P n B D M c Q fs hs)(h2:b=false→T Fe P n B D M c Q fs hs):T Fe P n B D M c Q fs hs:=by
 cases b
 ·exact h2 rfl
 ·exact h1 rfl
theorem Yv.bn {x y:Operand}{t u e:TypeId}{A:Option Addr}(hU:P.underlying t=some (.pointer e))(ho:o.op= .binOp .eql t x y u)(hx:ev fs x=some (.pointer A))(hy:ev fs y=some (.pointer none)):Yv P n B M fs hs o (.bool A.isNone):=fun f w ha _=>by
 unfold execOp
 have:(Op.equal t (.pointer A) (.pointer none)).run P w= .ok A.isNone w:=by
  unfold Op.equal
  rw [show Op.maxDepth=Nat.succ 9999 from rfl]
  unfold Op.equalIn
  cases A <;> simp [underlying,hU]
 simp [ho,ha.ev hx,ha.ev hy,eqGuard,binOp,this]
theorem Yv.cv {x y:Operand}{t u e:TypeId}{A:Option Addr}(hU:P.underlying t=some (.pointer e))(ho:o.op= .binOp .neq t x y u)(hx:ev fs x=some (.pointer A))(hy:ev fs y=some (.pointer none)):Yv P n B M fs hs o (.bool (!A.isNone)):=fun f w ha _=>by
 unfold execOp
 have:(Op.equal t (.pointer A) (.pointer none)).run P w= .ok A.isNone w:=by
  unfold Op.equal
  rw [show Op.maxDepth=Nat.succ 9999 from rfl]
  unfold Op.equalIn
  cases A <;> simp [underlying,hU]
 simp [ho,ha.ev hx,ha.ev hy,eqGuard,binOp,this]
theorem Sub.c {gs:eb}{t:Nat}{v:Value}(k:Sub fs gs)(h:eJ fs t=some v:=by rfl):Sub fs ((t,v) :: gs):=Sub.cons h k
theorem Sub.i {gs:eb}{t:Nat}{q:IntKind}{a b:Int}(e:a=b)(k:Sub fs gs)(h:eJ fs t=some (.int q a):=by rfl):Sub fs ((t, .int q b) :: gs):=fc h e k
theorem Sub.b {gs:eb}{t:Nat}{a b:Bool}(e:a=b)(k:Sub fs gs)(h:eJ fs t=some (.bool a):=by rfl):Sub fs ((t, .bool b) :: gs):=e7 h e k
theorem dY {F:Fence}{l:List Oper}{id:Nat}{y:Code}(h:TL F P n B D M l.toArray (Exit.then (y.wpIn F 0 P Q) Q) l fs hs):T F P n B D M (.seq (.region id l.toArray false) y) Q fs hs:=T.seq (T.region h)
theorem dz {F:Fence}{y:Code}(h:T F P n B D M y Q fs hs):TL F P n B D M ops (Exit.then (y.wpIn F 0 P Q) Q) [] fs hs:=TL.nil (K.seq h)
theorem eR {F:Fence}{l:List Oper}{id:Nat}{y:Code}(h:TL F P n B D M l.toArray (Exit.then (y.wpIn F 0 P Q) Q) l fs hs):TL F P n B D M ops (Exit.then ((Code.seq (.region id l.toArray false) y).wpIn F 0 P Q) Q) [] fs hs:=dz (dY h)
theorem cS {d:Nat}(h:Yv P n B M fs hs o v)(k:TL Fe P n B D M ops Q rest ((d,v) :: fs) hs)(hw:zfj ops fs o=some true:=by rfl)(hd:o.dst=some d:=by rfl)(hb:Nat.blt d n=true:=by rfl):TL Fe P n B D M ops Q (o :: rest) fs hs:=TL.yv (mh hw) hd hb h k
theorem cX {d:Nat}{Φ:Value→HS→Prop}(h:Ew P n B M fs hs o Φ)(k:∀v hs',Φ v hs'→TL Fe P n B D M ops Q rest ((d,v) :: fs) hs')(hw:zfj ops fs o=some true:=by rfl)(hd:o.dst=some d:=by rfl)(hb:Nat.blt d n=true:=by rfl):TL Fe P n B D M ops Q (o :: rest) fs hs:=TL.ew (mh hw) hd hb h k
theorem dM {Φ:Value→HS→Prop}(h:Ew P n B M fs hs o Φ)(k:∀v hs',Φ v hs'→TL Fe P n B D M ops Q rest fs hs')(hw:zfj ops fs o=some true:=by rfl)(hd:o.dst=none:=by rfl):TL Fe P n B D M ops Q (o :: rest) fs hs:=TL.cI (mh hw) hd h k
theorem cU [hnp:NP Q]{hs0:HS}{i:Nat}{k:Ord}{d:Nat}(hi:ops[i]?=some o)(hy:Yv P n B M fs hs0 o v)(h:TS Fe P n B D M ops Q hs0 k ((d,v) :: fs) hs)(hw:zfj ops fs o=some true:=by rfl)(hd:o.dst=some d:=by rfl)(hb:Nat.blt d n=true:=by rfl):TS Fe P n B D M ops Q hs0 (.still i k) fs hs:=TS.still hi (mh hw) hd hb hy h
end
def Cb (w:World)(g:Nat):Prop:=∃cs t p,w.heap[g]?=some (.cells cs t p)
theorem Cb.lt {w:World}{g:Nat}(h:Cb w g):g<w.heap.size:=by
 obtain ⟨_,_,_,e⟩:=h;exact (Array.getElem?_eq_some_iff.1 e).1
structure Frz where
 S:Nat→Prop
 w:World
 c:∀g,S g→Cb w g
def Frz.Le (F G:Frz):Prop:=∀g,F.S g→G.S g∧G.w.heap[g]?=F.w.heap[g]?
def Frz.At (F:Frz)(w:World):Prop:=∀g,F.S g→w.heap[g]?=F.w.heap[g]?
theorem Frz.Le.refl (F:Frz):F.Le F:=fun _ h=>⟨h,rfl⟩
theorem Frz.Le.trans {F G H:Frz}(h:F.Le G)(k:G.Le H):F.Le H:=fun g hg=>⟨(k g (h g hg).1).1,((k g (h g hg).1).2).trans (h g hg).2⟩
theorem Frz.At.le {F G:Frz}{w:World}(k:G.At w)(h:F.Le G):F.At w:=fun g hg=>(k g (h g hg).1).trans (h g hg).2
theorem Frz.At.cb {F:Frz}{w:World}(h:F.At w){g:Nat}(hg:F.S g):Cb w g:=by
 obtain ⟨a,b,c,e⟩:=F.c g hg;exact ⟨a,b,c,(h g hg).trans e⟩
theorem Frz.At.below {F:Frz}{w w':World}(h:F.At w)(hb:Below w.heap.size w w'):F.At w':=fun g hg=>(hb.block g (h.cb hg).lt).trans (h g hg)
def Frz.all (w:World):Frz:=⟨Cb w,w,fun _ h=>h⟩
theorem kI (w:World):(Frz.all w).At w:=fun _ _=>rfl
structure Fx (F:Frz) (w:World) (G:Frz) (w':World):Prop where
 le:F.Le G
 at_:G.At w'
 new:∀g,G.S g→F.S g∨w.heap.size≤g
 bel:Below w.heap.size w w'
theorem Fx.refl {F:Frz}{w w':World}(h:F.At w)(hb:Below w.heap.size w w'):Fx F w F w':=⟨.refl F,h.below hb,fun _ h=> .inl h,hb⟩
structure FzB (B:World) (M S0:Nat→Prop) extends Frz where
 base:∀g,S g→g<B.heap.size→¬M g→w.heap[g]?=B.heap[g]?
 new:∀g,S g→S0 g∨M g∨B.heap.size≤g
@[irreducible] def Ent.fr {B:World} {M S0:Nat→Prop} (F:FzB B M S0):Ent where
 fp g:=F.S g∧(M g∨B.heap.size≤g)
 ok w:=∀g,F.S g∧(M g∨B.heap.size≤g)→w.heap[g]?=F.w.heap[g]?
 loc h k:=fun g hg=>(h g hg).trans (k g hg)
 lt h g hg:=by
  obtain ⟨_,_,_,e⟩:=F.c g hg.1;exact (Array.getElem?_eq_some_iff.1 ((h g hg).trans e)).1
 nd h g hg c:=by
  obtain ⟨_,_,_,e⟩:=F.c g hg.1;rw [(h g hg).trans e];simp
section
variable {B w w':World}{M S0:Nat→Prop}{hs hs':HS}{F G:FzB B M S0}
theorem dR {k:Nat}:(Ent.fr F).fp k↔F.S k∧(M k∨B.heap.size≤k):=by unfold Ent.fr;exact Iff.rfl
theorem fb:(Ent.fr F).ok w↔∀g,F.S g∧(M g∨B.heap.size≤g)→w.heap[g]?=F.w.heap[g]?:=by unfold Ent.fr;exact Iff.rfl
theorem Hp.fr {i:Nat}(hw:Hp B M hs w)(hi:hs[i]?=some (.fr F)):F.toFrz.At w:=fun g hg=>by
 by_cases h:M g∨B.heap.size≤g
 ·exact fb.1 (hw.get hi) g ⟨hg,h⟩
 ·have h1:g<B.heap.size:=by
   rcases Nat.lt_or_ge g B.heap.size with h2|h2
   ·exact h2
   ·exact absurd (.inr h2) h
  have h2:¬M g:=fun k=>h (.inl k);rw [hw.base g h1 h2,F.base g hg h1 h2]
def gR {F:Frz}{w:World}(hF:F.At w)(M:Nat→Prop):FzB w M F.S:=⟨F,fun g hg _ _=>(hF g hg).symm,fun g hg=> .inl hg⟩
theorem lO {F:Frz}{w:World}(hF:F.At w):Hp w (fun _=>False) [.fr (gR hF (fun _=>False))] w:=by
 have hno:∀g,¬(Ent.fr (gR hF (fun _=>False))).fp g:=fun g hg=>by
  have h:=dR.1 hg;rcases h.2 with h2|h2
  ·exact h2
  ·exact absurd (hF.cb h.1).lt a7
 exact ⟨rfl,rfl,rfl,Nat.le_refl _,fun _ _ _=>rfl,fun e he=>by simp at he;subst he;exact fb.2 (fun g hg=>absurd (dR.2 hg) (hno g)),fun e he g hg=>by simp at he;subst he;exact absurd hg (hno g),List.pairwise_singleton _ _⟩
theorem kT {F:Frz}{w:World}{es:HS}(hF:F.At w)(h:Hp w (dG es) es w)(hM:∀g,dG es g→¬F.S g):Hp w (dG es) (es++[.fr (gR hF (dG es))]) w:=by
 have hno:∀g,¬(Ent.fr (gR hF (dG es))).fp g:=fun g hg=>by
  have h:=dR.1 hg;rcases h.2 with h2|h2
  ·exact hM g h2 h.1
  ·exact absurd (hF.cb h.1).lt a7
 refine ⟨rfl,rfl,rfl,Nat.le_refl _,fun _ _ _=>rfl,fun e he=>?_,fun e he g hg=>?_,?_⟩
 ·rcases List.mem_append.1 he with he|he
  ·exact h.own e he
  ·simp at he;subst he;exact fb.2 (fun g hg=>absurd (dR.2 hg) (hno g))
 ·rcases List.mem_append.1 he with he|he
  ·exact h.new e he g hg
  ·simp at he;subst he;exact absurd hg (hno g)
 ·exact List.pairwise_append.2 ⟨h.apart,List.pairwise_singleton _ _,fun e he f hf g hg hfg=>by simp at hf;subst hf;exact hno g hfg⟩
theorem Hp.frLe {i:Nat}(hw:Hp B M hs w)(hi:hs[i]?=some (.fr G))(h:F.toFrz.Le G.toFrz):Hp B M (hs.set i (.fr F)) w:=
 hw.updAt (w':=w) hi (Only.refl _ _) (S:=fun _=>False) (fun _ _ h=>h.elim) (fb.2 (fun g hg=>((hw.fr hi).le h) g hg.1)) (fun g hg=> .inl (dR.2 ⟨(h g (dR.1 hg).1).1,(dR.1 hg).2⟩))
end
theorem eo {F:Frz}{w:World}(hF:F.At w):∃(S0:Nat→Prop) (G:FzB w (fun _=>False) S0),G.toFrz=F∧(∀g,S0 g→F.S g)∧Hp w (fun _=>False) [.fr G] w:=⟨F.S,gR hF _,rfl,fun _ h=>h,lO hF⟩
theorem dU {F:Frz}{w w':World}{S0:Nat→Prop}{hs:HS}{i:Nat}{G:FzB w (fun _=>False) S0}(hw:Hp w (fun _=>False) hs w')(hi:hs[i]?=some (.fr G))(hS:∀g,S0 g→F.S g)(hle:F.Le G.toFrz):Fx F w G.toFrz w':=
 ⟨hle,hw.fr hi,fun g hg=>(G.new g hg).imp (hS g) (fun h=>h.elim (fun h=>h.elim) id),hw.isBelow⟩
def SlC (F:Frz)(v:Value)(size:Nat)(cs:List (List Value)):Prop:=
 ∃(A:Option Addr) (cap:Nat),v= .slice A cs.length cap∧cs.length≤cap∧cap≤9223372036854775807∧(∀c∈cs,c.length=size)∧(0<cs.length→∃g off,A=some ⟨g,off,none⟩∧F.S g∧∀i,i<cs.length→Cs F.w g (off+i*size) (nth cs i))
theorem zg2 {w w':World}{g p:Nat}(h:w'.heap[g]?=w.heap[g]?):w'.cell? ⟨g,p,none⟩=w.cell? ⟨g,p,none⟩:=by
 unfold World.cell?;simp only [h]
theorem jG {F:Frz}{w:World}(h:F.At w){g p:Nat}{l:List Value}(hg:F.S g)(hc:Cs F.w g p l):Cs w g p l:=fun j hj=>by
 rw [zg2 (h g hg)];exact hc j hj
theorem SlC.mono {F G:Frz}{v:Value}{size:Nat}{cs:List (List Value)}(h:SlC F v size cs)(hle:F.Le G):SlC G v size cs:=by
 obtain ⟨A,cap,h1,h2,h3,h4,h5⟩:=h;refine ⟨A,cap,h1,h2,h3,h4,fun hl=>?_⟩;obtain ⟨g,off,h6,h7,h8⟩:=h5 hl;exact ⟨g,off,h6,(hle g h7).1,fun i hi j hj=>by rw [zg2 (hle g h7).2];exact h8 i hi j hj⟩
theorem SlC.max {F:Frz}{v:Value}{size:Nat}{cs:List (List Value)}(h:SlC F v size cs):cs.length≤9223372036854775807:=by
 obtain ⟨A,cap,h1,h2,h3,_⟩:=h;omega
theorem SlC.nil (F:Frz)(size:Nat):SlC F (.slice none 0 0) size []:=⟨none,0,rfl,Nat.le_refl _,by omega,(fun _ h=>by cases h),(fun h=>absurd h (Nat.lt_irrefl 0))⟩
def jl (v:Value)(k:Nat):Value:=match v with
 | .slice (some a) _ _=> .pointer (some (a.add k))
 |_=> .pointer none
theorem lr {g off n cap k:Nat}:jl (.slice (some ⟨g,off,none⟩) n cap) k= .pointer (some ⟨g,off+k,none⟩):=by
 show Value.pointer (some (Addr.add ⟨g,off,none⟩ k))=_
 rw [kG]
theorem SlC.addr {F:Frz}{v:Value}{size:Nat}{cs:List (List Value)}(h:SlC F v size cs)(hl:0<cs.length):∃g off cap,v= .slice (some ⟨g,off,none⟩) cs.length cap∧F.S g∧∀i,i<cs.length→Cs F.w g (off+i*size) (nth cs i):=by
 obtain ⟨A,cap,h1,h2,h3,h4,h5⟩:=h;obtain ⟨g,off,rfl,h7,h8⟩:=h5 hl;exact ⟨g,off,cap,h1,h7,h8⟩
theorem SlC.row {F:Frz}{v:Value}{size:Nat}{cs:List (List Value)}(h:SlC F v size cs){i:Nat}(hi:i<cs.length):(nth cs i).length=size:=by
 obtain ⟨A,cap,h1,h2,h3,h4,h5⟩:=h;rw [eZ hi];exact h4 _ (List.getElem_mem hi)
section
variable {Fe:Fence}[hFe:Calm Fe]{P:Program}{n:Nat}{B D:World}{M S0:Nat→Prop}{Q:Exit→Act→World→Prop}{fs:eb}{hs:HS}{ops:Array Oper}{rest:List Oper}{o:Oper}{v val:Value}
theorem dk {F:Frz}{t e k size m:Nat}{cs:List (List Value)}{x:Operand}[hT:TySl P t e k](ho:o.op= .call { callee:= .builtin .len,args:= #[x],argTypes:= #[t] })(hx:ev fs x=some v)(h:SlC F v size cs)(hm:cs.length=m):Yv P n B M fs hs o (.int .i64 (m:Int)):=by
 obtain ⟨A,cap,h1,_⟩:=h;subst h1 hm;exact mg ho hx
theorem df {F:Frz}{t e k i m:Nat}{z:Int}{q:IntKind}{cs:List (List Value)}{x y:Operand}[hT:TySl P t e k](ho:o.op= .indexAddr t x y)(hx:ev fs x=some v)(hy:ev fs y=some (.int q z))(h:SlC F v k cs)(hm:cs.length=m)(hz:z=(i:Int))(hi:i<m):Yv P n B M fs hs o (jl v (i*k)):=by
 subst hm;obtain ⟨g,off,cap,rfl,_⟩:=h.addr a7;rw [lr];exact iX ho hx hy hz hi
theorem fL {F:Frz}{s f off p k m:Nat}{cs:List (List Value)}{x:Operand}[hT:TyF P s f off](ho:o.op= .fieldAddr s x f)(hx:ev fs x=some (jl v p))(h:SlC F v k cs)(hm:cs.length=m)(hi:0<m):Yv P n B M fs hs o (jl v (p+off)):=by
 subst hm;obtain ⟨g,o',cap,rfl,_⟩:=h.addr a7;rw [lr] at hx ⊢;exact (Yv.fieldAddr ho hx).eq (by rw [Nat.add_assoc])
theorem fx (ix:Nat){F:FzB B M S0}{t:TypeId}[hT:TyS P t]{k i j p m:Nat}{cs:List (List Value)}{x:Operand}(ho:o.op= .load t x)(hx:ev fs x=some (jl v p))(hF:hs[ix]?=some (.fr F))(h:SlC F.toFrz v k cs)(hm:cs.length=m)(hi:i<m)(hp:p=i*k+j)(hv:(nth cs i)[j]?=some val):Yv P n B M fs hs o val:=by
 subst hm hp;obtain ⟨g,off,cap,rfl,hg,hc⟩:=h.addr a7;rw [lr] at hx;intro a w ha hw;refine zfw ho (ha.ev hx) ?_;have:=jG (hw.fr hF) hg (hc i hi) j (List.getElem?_eq_some_iff.1 hv).1;rw [show off+(i*k+j)=off+i*k+j by omega,this,hv]
theorem fv (ix:Nat){F:FzB B M S0}{t:TypeId}{q:Nat}[hT:TyA P t q]{k i j p m:Nat}{cs:List (List Value)}{l:List Value}{x:Operand}(ho:o.op= .load t x)(hx:ev fs x=some (jl v p))(hF:hs[ix]?=some (.fr F))(h:SlC F.toFrz v k cs)(hm:cs.length=m)(hi:i<m)(hp:p=i*k+j)(hv:((nth cs i).drop j).take q=l)(hl:l.length=q:=by exact rfl):Yv P n B M fs hs o (.agg l.toArray):=by
 subst hm hp;obtain ⟨g,off,cap,rfl,hg,hc⟩:=h.addr a7;rw [lr] at hx;intro a w ha hw;refine zfx ho (ha.ev hx) (fun b hb=>?_) hl
 have hlen:j+b<(nth cs i).length:=by
  have:=congrArg List.length hv;simp at this;omega
 have:=jG (hw.fr hF) hg (hc i hi) (j+b) hlen;rw [show off+(i*k+j)+b=off+i*k+(j+b) by omega,this,←hv,List.getElem?_take_of_lt a7,List.getElem?_drop]
def SlK (F:Frz)(v:Value)(size n:Nat)(l:List Value):Prop:=
 l.length=n*size∧∃(A:Option Addr) (cap:Nat),v= .slice A n cap∧n≤cap∧cap≤9223372036854775807∧(0<n→∃g,A=some ⟨g,0,none⟩∧F.S g∧Cs F.w g 0 l)
def FzB.addB {w:World}(F:FzB B M S0)(hF:F.toFrz.At w){g:Nat}(hg:Cb w g)(hb:M g∨B.heap.size≤g):FzB B M S0 where
 S k:=F.S k∨k=g
 w:=w
 c k hk:=by rcases hk with h|rfl;exact hF.cb h;exact hg
 base k hk h1 h2:=by
  rcases hk with h|rfl
  ·rw [hF k h,F.base k h h1 h2]
  ·rcases hb with h|h
   ·exact absurd h h2
   ·omega
 new k hk:=by
  rcases hk with h|rfl
  ·exact F.new k h
  ·exact .inr hb
theorem FzB.addB_le {w:World}(F:FzB B M S0)(hF:F.toFrz.At w){g:Nat}(hg:Cb w g)(hb:M g∨B.heap.size≤g):F.toFrz.Le (F.addB hF hg hb).toFrz:=fun k hk=>⟨.inl hk,hF k hk⟩
theorem zfm {i j:Nat}{a b a':Ent}(hij:i≠j)(hi:hs[i]?=some a)(hj:hs[j]?=some b):∃r:HS,hs.Perm ([a,b]++r)∧((hs.set i a').eraseIdx j).Perm ([a']++r):=by
 have h1:=zeQ hi; (have hj':(hs.set i a')[j]?=some b:=by rw [List.getElem?_set_ne hij];exact hj);have h2:=zeQ hj';have h3:=zeF (e':=a') hi
 have hb:b∈hs.eraseIdx i:=by
  rw [List.mem_eraseIdx_iff_getElem?];exact ⟨j,fun e=>hij e.symm,hj⟩
 obtain ⟨r1,r2,hr⟩:=List.append_of_mem hb;refine ⟨r1++r2,?_,?_⟩
 ·refine h1.trans ?_;rw [hr];exact (List.perm_middle.cons a)
 ·have h4:(b :: (hs.set i a').eraseIdx j).Perm (b :: ([a']++(r1++r2))):=by
   refine h2.symm.trans (h3.symm.trans ?_);rw [hr];exact (List.perm_middle.cons a').trans (List.Perm.swap _ _ _)
  exact (List.perm_cons b).1 h4
theorem Hp.freezeB {w:World}{i j:Nat}{F:FzB B M S0}{e:Ent}(hw:Hp B M hs w)(hij:i≠j)(hi:hs[i]?=some (.fr F))(hj:hs[j]?=some e){g:Nat}(hfp:e.fp g)(hg:Cb w g):
  ∃G:FzB B M S0,F.toFrz.Le G.toFrz∧G.S g∧G.w=w∧Hp B M ((hs.set i (.fr G)).eraseIdx j) w:=by
 have hF:=hw.fr hi;have hb:=hw.new e (List.mem_of_getElem? hj) g hfp;refine ⟨F.addB hF hg hb,F.addB_le hF hg hb, .inr rfl,rfl,?_⟩;obtain ⟨r,h1,h2⟩:=zfm (a':= .fr (F.addB hF hg hb)) hij hi hj;refine Hp.perm ?_ h2.symm;refine gm (hw.perm h1) ?_ ?_ (List.pairwise_singleton _ _)
 ·intro x hx;simp at hx;subst hx;exact fb.2 (fun k hk=>rfl)
 ·intro x hx k hk;simp at hx;subst hx;have h:=dR.1 hk;rcases h.1 with h3|h3
  ·exact ⟨_,by simp,dR.2 ⟨h3,h.2⟩⟩
  ·subst h3;exact ⟨e,by simp,hfp⟩
theorem Hp.drop {w:World}(hw:Hp B M hs w)(j:Nat):Hp B M (hs.eraseIdx j) w:=hw.sub (List.eraseIdx_sublist _ _)
theorem zhA {α:Type}{l:List α}{i:Nat}{a:α}(h:l[i]?=some a):l.set i a=l:=by
 obtain ⟨hi,rfl⟩:=List.getElem?_eq_some_iff.1 h;exact List.set_getElem_self hi
theorem Hp.freezeS {w:World}{i j:Nat}{F:FzB B M S0}{e:TypeId}{size k:Nat}{l:List Value}(hw:Hp B M hs w)(hij:i≠j)(hi:hs[i]?=some (.fr F))(hj:hs[j]?=some (.sl v e size k l)):
  ∃G:FzB B M S0,(F.toFrz.Le G.toFrz∧SlK G.toFrz v size k l)∧Hp B M ((hs.set i (.fr G)).eraseIdx j) w:=by
 have ho:=dH.1 (hw.get hj);rcases ho.2 with ⟨rfl,h0⟩|⟨g,cap,cur,rfl,hb,hg,hnc,hcm,hcs,htake⟩
 ·subst h0;exact ⟨F,⟨.refl _,ho.1,none,0,rfl,Nat.le_refl _,by omega,fun h=>by omega⟩,by rw [zhA hi];exact hw.drop j⟩
 ·obtain ⟨G,h1,h2,h3,h4⟩:=hw.freezeB hij hi hj (g:=g) (dO.2 rfl) ⟨_,_,_,hg⟩;refine ⟨G,⟨h1,ho.1,_,cap,rfl,hnc,by unfold maxLen at hcm;omega,fun _=>⟨g,rfl,h2,fun q hq=>?_⟩⟩,h4⟩;rw [h3,Nat.zero_add,World.ownsRow.cellAt ho q (by rw [←ho.1];exact hq)]
theorem Hp.freezeR {w:World}{i j:Nat}{F:FzB B M S0}{e:TypeId}{g:Nat}{l:List Value}(hw:Hp B M hs w)(hij:i≠j)(hi:hs[i]?=some (.fr F))(hj:hs[j]?=some (.row g e l)):
  ∃G:FzB B M S0,(F.toFrz.Le G.toFrz∧G.S g∧Cs G.w g 0 l)∧Hp B M ((hs.set i (.fr G)).eraseIdx j) w:=by
 have ho:=dC.1 (hw.get hj);obtain ⟨G,h1,h2,h3,h4⟩:=hw.freezeB hij hi hj (g:=g) (e6.2 rfl) ⟨_,_,_,ho⟩;exact ⟨G,⟨h1,h2,fun q hq=>by rw [h3,Nat.zero_add,ze7 ho]⟩,h4⟩
theorem SlK.lit {F:Frz}{g k c size:Nat}{l:List Value}(h:F.S g∧Cs F.w g 0 l)(hl:l.length=k*size)(hc:k≤c)(hm:c≤9223372036854775807):SlK F (.slice (some ⟨g,0,none⟩) k c) size k l:=⟨hl,_,c,rfl,hc,hm,fun _=>⟨g,rfl,h.1,h.2⟩⟩
theorem zfc {α β:Type}[Inhabited α][Inhabited β]{f:α→β}{xs:List α}{i:Nat}(h:i<xs.length):nth (xs.map f) i=f (nth xs i):=by
 rw [eZ (by simpa using h),eZ h,List.getElem_map]
theorem zgn {size:Nat}:∀(cs:List (List Value)),(∀c∈cs,c.length=size)→∀i,i<cs.length→∀j,j<size→(cs.flatten)[i*size+j]?=(nth cs i)[j]?
 |c :: r,h,0,_,j,hj=>by
  have:=h c b6;simp only [List.flatten_cons,Nat.zero_mul,Nat.zero_add];rw [List.getElem?_append_left a7];rfl
 |c :: r,h,i+1,hi,j,hj=>by
  have hc:=h c b6;simp only [List.flatten_cons];rw [List.getElem?_append_right (by rw [hc,Nat.add_mul];omega),hc]; (have e:(i+1) *size+j - size=i*size+j:=by rw [Nat.add_mul];omega);rw [e,zgn r (fun c' h'=>h c' (by simp [h'])) i (by simpa using hi) j hj];simp [nth]
def OwnD {α:Type}[Inhabited α](rep:Frz→List Value→α→Prop)(F:Frz)(size:Nat)(cs:List (List Value))(xs:List α):Prop:=cs.length=xs.length∧(∀c∈cs,c.length=size)∧∀i,i<xs.length→rep F (nth cs i) (nth xs i)
def SlD {α:Type}[Inhabited α](rep:Frz→List Value→α→Prop)(F:Frz)(v:Value)(size:Nat)(cs:List (List Value))(xs:List α):Prop:=SlC F v size cs∧cs.length=xs.length∧∀i,i<xs.length→rep F (nth cs i) (nth xs i)
theorem SlD.mono {α:Type}[Inhabited α]{rep:Frz→List Value→α→Prop}(hm:∀F G c x,F.Le G→rep F c x→rep G c x){F G:Frz}{size:Nat}{cs:List (List Value)}{xs:List α}(h:SlD rep F v size cs xs)(hle:F.Le G):SlD rep G v size cs xs:=⟨h.1.mono hle,h.2.1,fun i hi=>hm _ _ _ _ hle (h.2.2 i hi)⟩
theorem OwnD.mono {α:Type}[Inhabited α]{rep:Frz→List Value→α→Prop}(hm:∀F G c x,F.Le G→rep F c x→rep G c x){F G:Frz}{size:Nat}{cs:List (List Value)}{xs:List α}(h:OwnD rep F size cs xs)(hle:F.Le G):OwnD rep G size cs xs:=⟨h.1,h.2.1,fun i hi=>hm _ _ _ _ hle (h.2.2 i hi)⟩
theorem OwnD.nil {α:Type}[Inhabited α](rep:Frz→List Value→α→Prop)(F:Frz)(size:Nat):OwnD rep F size [] []:=⟨rfl,(fun _ h=>by cases h),fun i hi=>absurd hi (Nat.not_lt_zero i)⟩
theorem zec {α:Type}[Inhabited α]{xs ys:List α}{i:Nat}(h:i<xs.length):nth (xs++ys) i=nth xs i:=by
 rw [eZ cM,eZ h,List.getElem_append_left h]
theorem zfi {α:Type}[Inhabited α]{xs:List α}{y:α}{i:Nat}(h:i=xs.length):nth (xs++[y]) i=y:=by
 subst h;simp [nth]
theorem fB {α:Type}[Inhabited α]{rep:Frz→List Value→α→Prop}{F:Frz}{size:Nat}{cs:List (List Value)}{xs:List α}{c:List Value}{x:α}(h:OwnD rep F size cs xs)(hc:rep F c x)(hl:c.length=size:=by exact rfl):OwnD rep F size (cs++[c]) (xs++[x]):=by
 refine ⟨by simp [h.1],fun d hd=>?_,fun i hi=>?_⟩
 ·rcases List.mem_append.1 hd with hd|hd
  ·exact h.2.1 d hd
  ·simp at hd;subst hd;exact hl
 ·simp at hi;rcases Nat.lt_or_ge i xs.length with h1|h1
  ·rw [zec h1,zec (by rw [h.1];exact h1)];exact h.2.2 i h1
  ·have h2:=h.1;rw [zfi (show i=cs.length by omega),zfi (show i=xs.length by omega)];exact hc
theorem SlK.toC {F:Frz}{size k:Nat}{l:List Value}{cs:List (List Value)}(h:SlK F v size k l)(hl:l=cs.flatten)(hk:k=cs.length)(hs:∀c∈cs,c.length=size):SlC F v size cs:=by
 obtain ⟨h1,A,cap,h2,h3,h4,h5⟩:=h;subst hk hl;refine ⟨A,cap,h2,h3,h4,hs,fun hp=>?_⟩;obtain ⟨g,hA,hg,hc⟩:=h5 hp;refine ⟨g,0,hA,hg,fun i hi j hj=>?_⟩; (have hrow:(nth cs i).length=size:=by rw [eZ hi];exact hs _ (List.getElem_mem hi))
 have hlt:i*size+j<cs.flatten.length:=by
  rw [h1];have:(i+1) *size≤cs.length*size:=Nat.mul_le_mul_right _ hi;rw [Nat.add_mul] at this;omega
 have:=hc (i*size+j) hlt;rw [Nat.zero_add] at this ⊢;rw [this,zgn cs hs i hi j a7]
theorem SlK.toF {α:Type}{F:Frz}{size k:Nat}{enc:α→List Value}{xs:List α}(h:SlK F v size k (xs.flatMap enc))(hk:k=xs.length)(he:∀x,(enc x).length=size):SlC F v size (xs.map enc):=
 h.toC (List.flatMap_def ..) (by simpa using hk) (fun c hc=>by obtain ⟨x,_,rfl⟩:=List.mem_map.1 hc;exact he x)
theorem SlK.toD {α:Type}[Inhabited α]{rep:Frz→List Value→α→Prop}{F:Frz}{size k:Nat}{cs:List (List Value)}{xs:List α}(h:SlK F v size k cs.flatten)(ho:OwnD rep F size cs xs)(hk:k=xs.length):SlD rep F v size cs xs:=
 ⟨h.toC rfl (by rw [ho.1];exact hk) ho.2.1,ho.1,ho.2.2⟩
theorem jK {ι:Type}{φ:ι→Prop}{c:Code}{hs':ι→HS}(h1:∀w,Hp B M hs w→∃x,φ x∧Hp B M (hs' x) w)(h:∀x,φ x→T Fe P n B D M c Q fs (hs' x)):T Fe P n B D M c Q fs hs:=⟨fun a w ha hw hm=>by
 obtain ⟨x,hx,hw'⟩:=h1 w hw;exact (h x hx).out a w ha hw' hm⟩
theorem gX {ι:Type}{φ:ι→Prop}{l:List Oper}{hs':ι→HS}(h1:∀w,Hp B M hs w→∃x,φ x∧Hp B M (hs' x) w)(h:∀x,φ x→TL Fe P n B D M ops Q l fs (hs' x)):TL Fe P n B D M ops Q l fs hs:=⟨fun a w ha hw hm=>by
 obtain ⟨x,hx,hw'⟩:=h1 w hw;exact (h x hx).out a w ha hw' hm⟩
theorem lI {ι:Type}{φ:ι→Prop}{e:Exit}{hs':ι→HS}(h1:∀w,Hp B M hs w→∃x,φ x∧Hp B M (hs' x) w)(h:∀x,φ x→K n B D M Q e fs (hs' x)):K n B D M Q e fs hs:=⟨fun a w ha hw hm=>by
 obtain ⟨x,hx,hw'⟩:=h1 w hw;exact (h x hx).out a w ha hw' hm⟩
theorem i9 {ι:Type}{φ:ι→Prop}{hs0:HS}{r:Ord}{hs':ι→HS}(h1:∀w,Hp B M hs w→∃x,φ x∧Hp B M (hs' x) w)(h:∀x,φ x→TS Fe P n B D M ops Q hs0 r fs (hs' x)):TS Fe P n B D M ops Q hs0 r fs hs:=⟨fun a w fuel listed h2 h3 h4 ha hw h5 hm=>by
 obtain ⟨x,hx,hw'⟩:=h1 w hw;exact (h x hx).out a w fuel listed h2 h3 h4 ha hw' h5 hm⟩
theorem dc {hs0:HS}{i:Nat}{k:Ord}{d:Nat}{Φ:Value→HS→Prop}(hi:ops[i]?=some o)(hwt:Wt n ops fs o true)(hd:o.dst=some d)(hb:Nat.blt d n=true)(h:Ew P n B M fs hs o Φ)(h2:∀v hs',Φ v hs'→(∀w,Hp B M hs' w→Hp B M hs0 w)∧TS Fe P n B D M ops Q hs0 k ((d,v) :: fs) hs'):TSo Fe P n B D M ops Q hs0 i k fs hs:=
 ⟨fun a w fuel listed hns hnd hok ha hw hw0 hm=>by
  unfold wpOpIn;simp only [hi,hwt a ha,if_true];refine h Fe hFe Q _ a w ha hw fun v w' hs' hk hp' hΦ=>?_;rw [hd]
  exact ⟨_,fun _=>rfl,(h2 v hs' hΦ).1 _ hp',(h2 v hs' hΦ).2.out _ w' fuel _ hns hnd hok (ha.put hb v) hp' ((h2 v hs' hΦ).1 _ hp') ((hm.next hk).put _ _)⟩⟩
theorem Fx.up {F:FzB B M S0}{w w':World}{G:Frz}(h:Fx F.toFrz w G w')(hw:Hp B M hs w):∃G':FzB B M S0,G'.toFrz=G:=by
 refine ⟨⟨G,fun g hg hb hM=>?_,fun g hg=>?_⟩,rfl⟩
 ·rcases h.new g hg with h1|h1
  ·rw [(h.le g h1).2,F.base g h1 hb hM]
  ·have:=hw.size;omega
 ·rcases h.new g hg with h1|h1
  ·exact F.new g h1
  ·have:=hw.size;exact .inr (.inr a7)
theorem dl (i:Nat){ι:Type}{F:FzB B M S0}{φ:ι→Frz→Prop}{val:ι→Value}{hs':FzB B M S0→HS}{c:Operand}{xs:Array Operand}{ts:Array TypeId}{f:FuncId}{fst caps:Array Value}{vs:List Value}[hE:Enters P f](ho:o.op= .call { callee:= .value c,args:=xs,argTypes:=ts })(hc:ev fs c=some (.func (.func f) fst caps))(hv:evs fs xs.toList=some vs)(hi:hs[i]?=some (.fr F))
  (C:∀w,Hp B M hs w→F.toFrz.At w→Calls P f (fst.toList++vs++caps.toList).toArray w (fun e w'=>∃y G,φ y G∧e= .returned (val y)∧Fx F.toFrz w G w')) [hH:∀G,SetAt hs i (.fr G) (hs' G)]:Ew P n B M fs hs o (fun v hs''=>∃y,∃G:FzB B M S0,F.toFrz.Le G.toFrz∧φ y G.toFrz∧v=val y∧hs''=hs' G):=
 Ew.call ho hc hv fun w hp=>(C w hp (hp.fr hi)).mono fun e w' ⟨y,G,hy,he,hx⟩=>by
  obtain ⟨G',rfl⟩:=hx.up hp;refine ⟨val y,hs' G',he,Kp.below hx.bel,?_,y,G',hx.le,hy,rfl,rfl⟩;rw [←(hH G').h];refine hp.updAt hi (S:=fun _=>False) (.of_below_new hx.bel _) (fun _ _ h=>h.elim) (fb.2 (fun g hg=>hx.at_ g hg.1)) (fun g hg=>?_);have h:=dR.1 hg;rcases hx.new g h.1 with h1|h1
  ·exact .inl (dR.2 ⟨h1,h.2⟩)
  ·exact .inr h1
end
def dq {σ ρ:Type}(f:Nat→(σ→ρ)→σ→ρ)(k:σ→ρ):Nat→Nat→σ→ρ
 |0,_,s=>k s
 |m+1,i,s=>f i (dq f k m (i+1)) s
def gz {σ ρ:Type}(f:Nat→(σ→ρ)→σ→ρ)(k:σ→ρ):Nat→σ→ρ
 |0,s=>k s
 |m+1,s=>f m (gz f k m) s
def eS {σ ρ:Type}(f:(σ→Option ρ)→σ→Option ρ):Nat→σ→Option ρ
 |0,_=>none
 |m+1,s=>f (eS f m) s
def dF {σ ρ:Type}(k:σ→ρ)(e:(σ→ρ)→ρ):ρ:=e k
def dj {ρ:Type}(c:Prop)[Decidable c](x:Option ρ):Option ρ:=if c then x else none
section
variable {σ ρ:Type}
theorem fF {f:Nat→(σ→ρ)→σ→ρ}{k:σ→ρ}{n i:Nat}{s:σ}(h:i<n):dq f k (n - i) i s=f i (dq f k (n - (i+1)) (i+1)) s:=by
 rw [show n - i=(n - (i+1))+1 by omega];rfl
theorem fH {f:Nat→(σ→ρ)→σ→ρ}{k:σ→ρ}{n i:Nat}{s:σ}(h:n≤i):dq f k (n - i) i s=k s:=by
 rw [show n - i=0 by omega];rfl
theorem fJ {f:Nat→(σ→ρ)→σ→ρ}{k:σ→ρ}{m i:Nat}{s:σ}{R:ρ}(h:dq f k m i s=R):∃f' k',f=f'∧k=k'∧dq f' k' m i s=R:=⟨f,k,rfl,rfl,h⟩
theorem zdF {f:Nat→(σ→ρ)→σ→ρ}{k:σ→ρ}{m:Nat}{s:σ}{R:ρ}(h:gz f k m s=R):∃f' k',f=f'∧k=k'∧gz f' k' m s=R:=⟨f,k,rfl,rfl,h⟩
theorem kF {f:(σ→Option ρ)→σ→Option ρ}{m:Nat}{s:σ}{R:Option ρ}(h:eS f m s=R):∃f',f=f'∧eS f' m s=R:=⟨f,rfl,h⟩
theorem d7 {k:σ→ρ}{e:(σ→ρ)→ρ}{R:ρ}(h:dF k e=R):∃k',k=k'∧e k'=R:=⟨k,rfl,h⟩
theorem kE {f:(σ→Option ρ)→σ→Option ρ}{m:Nat}{s:σ}{r:ρ}(h:eS f m s=some r):∃m',m=m'+1∧f (eS f m') s=some r:=by
 cases m with
 |zero=>cases h
 |succ m=>exact ⟨m,rfl,h⟩
theorem dB {c:Prop}[Decidable c]{x:Option ρ}{r:ρ}(h:dj c x=some r):c∧x=some r:=by
 unfold dj at h;split at h
 ·exact ⟨by assumption,h⟩
 ·cases h
theorem dJ {c:Prop}[Decidable c]{x:Option ρ}(h:c):dj c x=x:=by unfold dj;rw [if_pos h]
theorem dw {α:Type}{x:Option α}{f:α→Option ρ}{r:ρ}(h:x.bind f=some r):∃a,x=some a∧f a=some r:=by
 cases x with
 |none=>cases h
 |some a=>exact ⟨a,rfl,h⟩
theorem mc {f:Nat→(σ→ρ)→σ→ρ}{k:σ→ρ}{n:Nat}{s:σ}(I:Nat→σ→Prop)(post:ρ→Prop)(h0:I 0 s)(hk:∀s,I n s→post (k s))(hf:∀i s next,i<n→I i s→(∀s',I (i+1) s'→post (next s'))→post (f i next s)):post (dq f k n 0 s):=by
 have key:∀m i s,i+m=n→I i s→post (dq f k m i s):=by
  intro m
  induction m with
  |zero=>intro i s e hI;rw [show i=n by omega] at hI;exact hk s hI
  |succ m ih=>intro i s e hI;exact hf i s _ a7 hI (fun s' hs'=>ih (i+1) s' a7 hs')
 exact key n 0 s a7 h0
theorem zhC {f:Nat→(σ→ρ)→σ→ρ}{k:σ→ρ}{n:Nat}{s:σ}(I:Nat→σ→Prop)(post:ρ→Prop)(h0:I n s)(hk:∀s,I 0 s→post (k s))(hf:∀i s next,i<n→I (i+1) s→(∀s',I i s'→post (next s'))→post (f i next s)):post (gz f k n s):=by
 have key:∀m s,m≤n→I m s→post (gz f k m s):=by
  intro m
  induction m with
  |zero=>intro s _ hI;exact hk s hI
  |succ m ih=>intro s e hI;exact hf m s _ a7 hI (fun s' hs'=>ih s' a7 hs')
 exact key n s (Nat.le_refl _) h0
theorem zfY {f:(σ→Option ρ)→σ→Option ρ}{m:Nat}{s:σ}(I:σ→Prop)(μ:σ→Nat)(post:Option ρ→Prop)(h0:I s)(hm:μ s<m)(hf:∀s next,I s→(∀s',I s'→μ s'<μ s→post (next s'))→post (f next s)):post (eS f m s):=by
 induction m generalizing s with
 |zero=>omega
 |succ m ih=>exact hf s _ h0 (fun s' hs' hl=>ih hs' a7)
end
section
variable {Fe:Fence}[hFe:Calm Fe]{P:Program}{n:Nat}{B D:World}{M:Nat→Prop}{Q:Exit→Act→World→Prop}{fs:eb}{hs:HS}{ops:Array Oper}{rest:List Oper}{o:Oper}{v val sv:Value}
theorem Hp.slAddr {w:World}{j k size:Nat}{e:TypeId}{l:List Value}(hw:Hp B M hs w)(hj:hs[j]?=some (.sl v e size k l))(hk:0<k):∃g cap,v= .slice (some ⟨g,0,none⟩) k cap:=by
 rcases (dH.1 (hw.get hj)).2 with ⟨_,h0⟩|⟨g,cap,_,e,_⟩
 ·omega
 ·exact ⟨g,cap,e⟩
theorem dL (j:Nat){t e k i m:Nat}{z:Int}{q:IntKind}{l:List Value}{x y:Operand}{e':TypeId}[hT:TySl P t e k](ho:o.op= .indexAddr t x y)(hx:ev fs x=some sv)(hy:ev fs y=some (.int q z))(hj:hs[j]?=some (.sl sv e' k m l))(hz:z=(i:Int))(hi:i<m):Yv P n B M fs hs o (jl sv (i*k)):=fun a w ha hw=>by
 obtain ⟨g,cap,rfl⟩:=hw.slAddr hj a7;rw [lr];exact iX (B:=B) (M:=M) (hs:=hs) ho hx hy hz hi a w ha hw
theorem mA (j:Nat){s f off p k m:Nat}{l:List Value}{x:Operand}{e':TypeId}[hT:TyF P s f off](ho:o.op= .fieldAddr s x f)(hx:ev fs x=some (jl sv p))(hj:hs[j]?=some (.sl sv e' k m l))(hi:0<m):Yv P n B M fs hs o (jl sv (p+off)):=fun a w ha hw=>by
 obtain ⟨g,cap,rfl⟩:=hw.slAddr hj hi;rw [lr] at hx ⊢;exact (Yv.fieldAddr (B:=B) (M:=M) (hs:=hs) ho hx).eq (by rw [Nat.add_assoc]) a w ha hw
theorem eg (j:Nat){t e:TypeId}[hT:TyS P t]{p size k:Nat}{l:List Value}{x:Operand}(ho:o.op= .load t x)(hx:ev fs x=some (jl sv p))(hj:hs[j]?=some (.sl sv e size k l))(hk:0<k)(hv:l[p]?=some val):Yv P n B M fs hs o val:=fun a w ha hw=>by
 obtain ⟨g,cap,rfl⟩:=hw.slAddr hj hk;rw [lr,Nat.zero_add] at hx;exact Yv.cu (B:=B) (M:=M) (hs:=hs) j ho hx hj hv a w ha hw
theorem Yv.bH (j:Nat){t e:TypeId}{q:Nat}[hT:TyA P t q]{p size k:Nat}{l m:List Value}{x:Operand}(ho:o.op= .load t x)(hx:ev fs x=some (jl sv p))(hj:hs[j]?=some (.sl sv e size k l))(hk:0<k)(hm:(l.drop p).take m.length=m)(hl:m.length=q):Yv P n B M fs hs o (.agg m.toArray):=fun a w ha hw=>by
 obtain ⟨g,cap,rfl⟩:=hw.slAddr hj hk;rw [lr,Nat.zero_add] at hx;exact Yv.cg (B:=B) (M:=M) (hs:=hs) j ho hx hj hm hl a w ha hw
theorem Ew.bX (j:Nat){t e:TypeId}[hT:TyS P t]{x y:Operand}{p k size:Nat}{l l':List Value}{hs':HS}[hv:OneC val](ho:o.op= .store t x y)(hx:ev fs x=some (jl sv p))(hy:ev fs y=some val)
  (hj:hs[j]?=some (.sl sv e size k l)) (hk:0<k) (hp:p<l.length) (hl:l.set p val=l') [hH:SetAt hs j (.sl sv e size k l') hs']:Ew P n B M fs hs o (fun v hs''=>v=undef∧hs''=hs'):=fun F hF Q K a w ha hw=>by
 obtain ⟨g,cap,rfl⟩:=hw.slAddr hj hk;rw [lr,Nat.zero_add] at hx;subst hl;exact Ew.ci (B:=B) (M:=M) (hs:=hs) j ho hx hy hj hp F hF Q K a w ha hw
theorem Ew.bP (j:Nat){t e:TypeId}{q:Nat}[hT:TyA P t q]{x y:Operand}{p k size:Nat}{l m l':List Value}{hs':HS}[hv:OneCs m](ho:o.op= .store t x y)(hx:ev fs x=some (jl sv p))(hy:ev fs y=some (.agg m.toArray))
  (hj:hs[j]?=some (.sl sv e size k l)) (hk:0<k) (hq:m.length=q) (hp:p+m.length≤l.length) (hl:l.take p++m++l.drop (p+m.length)=l') [hH:SetAt hs j (.sl sv e size k l') hs']:Ew P n B M fs hs o (fun v hs''=>v=undef∧hs''=hs'):=fun F hF Q K a w ha hw=>by
 obtain ⟨g,cap,rfl⟩:=hw.slAddr hj hk;rw [lr,Nat.zero_add] at hx;subst hl;exact Ew.bS (B:=B) (M:=M) (hs:=hs) j ho hx hy hj hq hp F hF Q K a w ha hw
theorem gK {α:Type}[Inhabited α]{enc:α→List Value}{size:Nat}(he:∀x,(enc x).length=size){xs:List α}{i j p:Nat}(hi:i<xs.length)(hj:j<size)(hp:p=i*size+j:=by exact rfl):(xs.flatMap enc)[p]?=(enc (nth xs i))[j]?:=by
 subst hp;rw [zfG enc size he xs i hi j hj,eZ hi]
theorem mn (i:Nat){s x:Operand}{t e:TypeId}{size bytes m c k k' g off:Nat}{z l news l':List Value}{hs':Value→HS}[hT:TyE P t e size bytes z](h1:∀v∈news,v.oneCell'=true)(ho:o.op= .call { callee:= .builtin .append,args:= #[s,x],argTypes:= #[t,t] })
  (hs1:ev fs s=some sv) (hx:ev fs x=some (.slice (some ⟨g,off,none⟩) m c)) (hi:hs[i]?=some (.sl sv e size k l)) (hj:∀w,Hp B M hs w→Cs w g off news) (hl:news.length=m*size) (hk:k+m=k') (hl':l++news=l') (hb:k'*bytes≤140737488355328) (hbs:0<bytes)
  [hH:∀v',SetAt hs i (.sl v' e size k' l') (hs' v')]:Ew P n B M fs hs o (fun v hs''=>OneC v∧hs''=hs' v):=fQ fun a w ha hp=>by
 obtain ⟨inf,zv,hU,hinf,hz,hzc,rfl,rfl,hzs,hpos⟩:=hT.get;subst hk hl';have hkm:k+m≤140737488355328:=Nat.le_trans (Nat.le_mul_of_pos_right _ hbs) hb
 have hnews:∀q u,news[q]?=some u→w.cell? ((⟨g,off,none⟩:Addr).add q)=some u:=by
  intro q u hq;rw [kG];exact (hj w hp q (List.getElem?_eq_some_iff.1 hq).1).trans hq
 obtain ⟨v',w',hr,hown,hgr,_,hat⟩:=run_append_own_at (P:=P) w 0 t o.type e inf zv inf.size inf.bytes hU hinf hz rfl rfl hzs hpos sv k l (dH.1 (hp.get hi)) ⟨g,off,none⟩ m c news hl hnews h1 (by unfold maxLen;omega) hb (Nat.zero_le _);refine ⟨v',w',hs' v',?_,?_,?_,?_,rfl⟩
 ·unfold execOp;simp [ho,resolve,invoke,builtin,ha.ev hs1,ha.ev hx,hr]
 ·exact Kp.only (zf0 hgr) (fun g hg c=>(Ent.sl sv e inf.size k l).nd (hp.get hi) g (dO.2 hg) c)
 ·rw [←(hH v').h];refine hp.updAt hi (zf0 hgr) (fun q _ hq=>dO.2 hq) (dH.2 hown) (fun q hq=>?_);have:=dO.1 hq;rcases hat with h|h
  ·exact .inl (dO.2 (by rw [←h];exact this))
  ·rw [h] at this;simp at this;exact .inr a7
 ·rcases hown.2 with ⟨rfl,_⟩|⟨_,_,_,rfl,_⟩ <;> exact ⟨rfl⟩
theorem gT (i j:Nat){s x:Operand}{t e u:TypeId}{size bytes m c k k' g:Nat}{z l news l':List Value}{hs':Value→HS}[hT:TyE P t e size bytes z][h1:OneCs news](ho:o.op= .call { callee:= .builtin .append,args:= #[s,x],argTypes:= #[t,t] })
  (hs1:ev fs s=some sv) (hx:ev fs x=some (.slice (some ⟨g,0,none⟩) m c)) (hi:hs[i]?=some (.sl sv e size k l)) (hj:hs[j]?=some (.row g u news)) (hl:news.length=m*size) (hk:k+m=k') (hl':l++news=l') (hb:k'*bytes≤140737488355328) (hbs:0<bytes)
  [hH:∀v',SetAt hs i (.sl v' e size k' l') (hs' v')]:Ew P n B M fs hs o (fun v hs''=>OneC v∧hs''=hs' v):=
 mn i h1.h ho hs1 hx hi (fun w hw=>gM (dC.1 (hw.get hj)) b6) hl hk hl' hb hbs
end
abbrev eI (x:Int):List Value:=[.int .i64 x]
abbrev eK (k:IntKind)(x:Int):List Value:=[.int k x]
abbrev wI (x:Int):Int:=IntKind.i64.wrap x
abbrev dm (n bytes:Nat):Prop:=n*bytes≤140737488355328
theorem dr {ρ:Type}{b:Bool}{x y R:ρ}(h:(bif b then x else y)=R)(hb:b=true):x=R:=by subst hb;exact h
theorem dt {ρ:Type}{b:Bool}{x y R:ρ}(h:(bif b then x else y)=R)(hb:b=false):y=R:=by subst hb;exact h
theorem SlC.oneC {F:Frz}{v:Value}{size:Nat}{cs:List (List Value)}(h:SlC F v size cs):OneC v:=by
 obtain ⟨A,cap,rfl,_⟩:=h;exact ⟨rfl⟩
theorem SlD.nil {α:Type}[Inhabited α](rep:Frz→List Value→α→Prop)(F:Frz)(size:Nat):SlD rep F (.slice none 0 0) size [] []:=⟨SlC.nil F size,rfl,fun i hi=>absurd hi (Nat.not_lt_zero i)⟩
theorem zc9 {α:Type}{enc:α→List Value}{xs ys:List α}:xs.flatMap enc++ys.flatMap enc=(xs++ys).flatMap enc:=(List.flatMap_append ..).symm
theorem zjL {α:Type}{enc:α→List Value}{xs ys:List α}:xs.flatMap enc++(ys.map enc).flatten=(xs++ys).flatMap enc:=by
 rw [List.flatMap_append,←List.flatMap_def]
theorem zkN {α β:Type}{f:α→β}{xs ys:List α}:xs.length+(ys.map f).length=(xs++ys).length:=by simp
theorem zhe {α:Type}{enc:α→List Value}{xs:List α}(h:∀x,OneCs (enc x)):∀c∈xs.map enc,∀v∈c,v.oneCell'=true:=fun c hc=>by
 obtain ⟨x,_,rfl⟩:=List.mem_map.1 hc;exact (h x).h
theorem zlg {α:Type}[Inhabited α]{rep:Frz→List Value→α→Prop}{F:Frz}{v:Value}{size:Nat}{cs:List (List Value)}{xs:List α}(h:SlD rep F v size cs xs)(ho:∀F c x,rep F c x→OneCs c):∀c∈cs,∀v∈c,v.oneCell'=true:=fun c hc=>by
 obtain ⟨i,hi,rfl⟩:=List.mem_iff_getElem.1 hc;have:=ho _ _ _ (h.2.2 i (by rw [←h.2.1];exact hi));rw [eZ hi] at this;exact this.h
theorem OwnD.app {α:Type}[Inhabited α]{rep:Frz→List Value→α→Prop}{F:Frz}{v:Value}{size:Nat}{cs ds:List (List Value)}{xs ys:List α}(h:OwnD rep F size cs xs)(k:SlD rep F v size ds ys):OwnD rep F size (cs++ds) (xs++ys):=by
 have h1:=h.1;have k1:=k.2.1;refine ⟨by simp [h1,k1],fun c hc=>?_,fun i hi=>?_⟩
 ·rcases List.mem_append.1 hc with hc|hc
  ·exact h.2.1 c hc
  ·obtain ⟨i,hi,rfl⟩:=List.mem_iff_getElem.1 hc;have:=k.1.row hi
   rwa [eZ hi] at this
 ·simp at hi;rcases Nat.lt_or_ge i xs.length with h2|h2
  ·rw [zec h2,zec a7];exact h.2.2 i h2
  ·rw [eZ cM,eZ cM,List.getElem_append_right a7,List.getElem_append_right a7];have:=k.2.2 (i - xs.length) a7;rw [eZ a7,eZ a7] at this;simp only [h1];exact this
def l5 (hs:HS):List Nat→Option HS
 | []=>some []
 |i :: r=>match hs[i]? with
  |some e=>match l5 hs r with
   |some l=>some (e :: l)
   |none=>none
  |none=>none
section
variable {B w:World}{M:Nat→Prop}{hs hs':HS}
theorem zfS:∀ {idx:List Nat} {hs':HS},l5 hs idx=some hs'→∀e∈hs',∃i∈idx,hs[i]?=some e
 | [],hs',h,e,he=>by simp only [l5] at h;cases h;cases he
 |i :: r,hs',h,e,he=>by
  simp only [l5] at h
  split at h
  ·rename_i x hx
   split at h
   ·rename_i l hl
    cases h
    rcases List.mem_cons.1 he with rfl|he
    ·exact ⟨i,by simp,hx⟩
    ·obtain ⟨j,hj,hje⟩:=zfS hl e he;exact ⟨j,by simp [hj],hje⟩
   ·cases h
  ·cases h
theorem Hp.two (hw:Hp B M hs w){i j:Nat}{e f:Ent}(hij:i≠j)(hi:hs[i]?=some e)(hj:hs[j]?=some f)(g:Nat)(he:e.fp g):¬f.fp g:=by
 obtain ⟨hi',rfl⟩:=List.getElem?_eq_some_iff.1 hi;obtain ⟨hj',rfl⟩:=List.getElem?_eq_some_iff.1 hj;have h:=List.pairwise_iff_getElem.1 hw.apart;rcases Nat.lt_or_ge i j with h1|h1
 ·exact h i j hi' hj' h1 g he
 ·exact fun hf=>h j i hj' hi' a7 g hf he
theorem zgE (hw:Hp B M hs w):∀ {idx:List Nat} {hs':HS},l5 hs idx=some hs'→idx.Nodup→hs'.Pairwise fun e f=>∀g,e.fp g→¬f.fp g
 | [],hs',h,_=>by simp only [l5] at h;cases h;exact .nil
 |i :: r,hs',h,hn=>by
  simp only [l5] at h
  split at h
  ·rename_i x hx
   split at h
   ·rename_i l hl
    cases h
    rw [List.nodup_cons] at hn;refine List.Pairwise.cons (fun f hf g hg=>?_) (zgE hw hl hn.2);obtain ⟨j,hj,hje⟩:=zfS hl f hf;exact hw.two (i:=i) (j:=j) (fun e=>hn.1 (by rw [e];exact hj)) hx hje g hg
   ·cases h
  ·cases h
theorem Hp.pick {idx:List Nat}(hw:Hp B M hs w)(h:l5 hs idx=some hs')(hn:idx.Nodup):Hp B M hs' w:=
 ⟨hw.os,hw.tape,hw.output,hw.size,hw.base,fun e he=>by obtain ⟨i,_,hi⟩:=zfS h e he;exact hw.get hi,fun e he=>by
  obtain ⟨i,_,hi⟩:=zfS h e he;exact hw.new e (List.mem_of_getElem? hi),zgE hw h hn⟩
end
section
variable {Fe:Fence}[hFe:Calm Fe]{P:Program}{n:Nat}{B D:World}{M S0:Nat→Prop}{Q:Exit→Act→World→Prop}{fs:eb}{hs:HS}{ops:Array Oper}{rest:List Oper}{o:Oper}{v val sv:Value}
theorem T.pick (idx:List Nat){c:Code}{hs':HS}(h:l5 hs idx=some hs')(hn:idx.Nodup)(k:T Fe P n B D M c Q fs hs'):T Fe P n B D M c Q fs hs:=⟨fun a w ha hw hm=>k.out a w ha (hw.pick h hn) hm⟩
theorem K.pick (idx:List Nat){e:Exit}{hs':HS}(h:l5 hs idx=some hs')(hn:idx.Nodup)(k:K n B D M Q e fs hs'):K n B D M Q e fs hs:=⟨fun a w ha hw hm=>k.out a w ha (hw.pick h hn) hm⟩
theorem c9 {ι:Type}{x y:Code}(G:ι→eb)(H:ι→HS)(φ:ι→Prop)(h:T Fe P n B D M x (Exit.then (fun a w=>∃i,φ i∧At n B D M (G i) (H i) a w) Q) fs hs)(k:∀i,φ i→T Fe P n B D M y Q (G i) (H i)):T Fe P n B D M x (Exit.then (y.wpIn Fe 0 P Q) Q) fs hs:=
 ⟨fun a w ha hw hm=>wpIn_mono (h.out a w ha hw hm) fun e a w hq=>by
  cases e <;> first|(obtain ⟨i,hi,h1,h2,h3⟩:=hq;exact (k i hi).out a w h1 h2 h3)|exact hq⟩
theorem dK {hs0:HS}{i:Nat}{k:Ord}{d:Nat}(hi:ops[i]?=some o)(hwt:Wt n ops fs o true)(hd:o.dst=some d)(hb:Nat.blt d n=true)(hy:Yv P n B M fs hs o v)(h2:∀w,Hp B M hs w→Hp B M hs0 w)(h:TS Fe P n B D M ops Q hs0 k ((d,v) :: fs) hs):TSo Fe P n B D M ops Q hs0 i k fs hs:=
 dc hi hwt hd hb (Ew.yv hy) (by rintro _ _ ⟨rfl,rfl⟩;exact ⟨h2,h⟩)
theorem dT {hs0:HS}{i:Nat}{k:Ord}{Φ:Value→HS→Prop}(hi:ops[i]?=some o)(hwt:Wt n ops fs o true)(hd:o.dst=none)(h:Ew P n B M fs hs o Φ)(h2:∀v hs',Φ v hs'→(∀w,Hp B M hs' w→Hp B M hs0 w)∧TS Fe P n B D M ops Q hs0 k fs hs'):TSo Fe P n B D M ops Q hs0 i k fs hs:=
 ⟨fun a w fuel listed hns hnd hok ha hw hw0 hm=>by
  unfold wpOpIn;simp only [hi,hwt a ha,if_true];refine h Fe hFe Q _ a w ha hw fun v w' hs' hk hp' hΦ=>?_;rw [hd]
  exact ⟨_,fun _=>rfl,(h2 v hs' hΦ).1 _ hp',(h2 v hs' hΦ).2.out _ w' fuel _ hns hnd hok (ha.put_none v) hp' ((h2 v hs' hΦ).1 _ hp') ((hm.next hk).put _ _)⟩⟩
theorem TS.slNil {hs0:HS}{r:Ord}(e:TypeId)(size:Nat)(h:TS Fe P n B D M ops Q hs0 r fs (.sl (.slice none 0 0) e size 0 [] :: hs)):TS Fe P n B D M ops Q hs0 r fs hs:=⟨fun a w fuel listed h2 h3 h4 ha hw h5 hm=>h.out a w fuel listed h2 h3 h4 ha (hw.slNil e size) h5 hm⟩
theorem dD (ix:Nat){F:FzB B M S0}{α:Type}[Inhabited α]{enc:α→List Value}{t:TypeId}[hT:TyS P t]{k i j p:Nat}{xs:List α}{x:Operand}(ho:o.op= .load t x)(hx:ev fs x=some (jl v p))(hF:hs[ix]?=some (.fr F))(h:SlC F.toFrz v k (xs.map enc))(hi:i<xs.length)(hp:p=i*k+j:=by exact rfl)(hv:(enc (nth xs i))[j]?=some val:=by exact rfl):Yv P n B M fs hs o val:=
 fx ix (i:=i) (j:=j) ho hx hF h (List.length_map _) hi hp (by rw [zfc hi];exact hv)
theorem iK (ix:Nat){F:FzB B M S0}{α:Type}[Inhabited α]{enc:α→List Value}{t:TypeId}{q:Nat}[hT:TyA P t q]{k i p:Nat}{xs:List α}{x:Operand}{l:List Value}(ho:o.op= .load t x)(hx:ev fs x=some (jl v p))(hF:hs[ix]?=some (.fr F))(h:SlC F.toFrz v k (xs.map enc))(hi:i<xs.length)(hp:p=i*k:=by exact rfl)(hv:(enc (nth xs i))=l:=by exact rfl)(hl:l.length=q:=by exact rfl):Yv P n B M fs hs o (.agg l.toArray):=
 fv ix (i:=i) (j:=0) ho hx hF h (List.length_map _) hi hp (by rw [zfc hi,hv,List.drop_zero,List.take_of_length_le a7]) hl
theorem zeX {t e ty:TypeId}{k:Nat}{w:World}[hT:TySl P t e k]{b:Option Addr}{m c:Nat}{A:Option Addr}{c2:Nat}(hc:m≤c):(Builtin.append_ #[t,t] ty #[.slice b m c, .slice A 0 c2]).run P w= .ok (.slice b m c) w:=by
 have h:=hT.h;unfold zfs at h
 split at h
 ·rename_i el hU
  cases hi':P.info? el with
  |none=>rw [hi'] at h;cases h
  |some inf=>
   rw [hi'] at h
   cases h
   unfold Builtin.append_
   cases A <;> cases b <;> simp [underlying,hU,sizeOf,typeInfo,hi',Builtin.lenOf,hc,Builtin.firstCells,loadCells,loadCellsFrom,storeCells]
 ·cases h
theorem lq {w:World}{g off size:Nat}{cs:List (List Value)}(hp:0<size)(hr:∀c∈cs,c.length=size)(h:∀i,i<cs.length→Cs w g (off+i*size) (nth cs i)):Cs w g off cs.flatten:=fun q hq=>by
 have hl:cs.flatten.length=cs.length*size:=by
  clear h hq
  induction cs with
  |nil=>simp
  |cons c r ih=>rw [List.flatten_cons,List.length_append,ih (fun c' h'=>hr c' (by simp [h'])),hr c b6,List.length_cons,Nat.add_mul];omega
 (have hi:q / size<cs.length:=by rw [Nat.div_lt_iff_lt_mul hp];omega);have hj:q % size<size:=Nat.mod_lt _ hp; (have e:q / size*size+q % size=q:=by rw [Nat.mul_comm];exact Nat.div_add_mod q size); (have hrow:(nth cs (q / size)).length=size:=by rw [eZ hi];exact hr _ (List.getElem_mem hi));have h1:=h (q / size) hi (q % size) a7;have h2:=zgn cs hr (q / size) hi (q % size) hj;rw [e] at h2;rw [h2,←h1]
 congr 2
 omega
theorem kq (i ix:Nat){F:FzB B M S0}{s x:Operand}{t e:TypeId}{size bytes k k':Nat}{z l l':List Value}{cs:List (List Value)}{hs':Value→HS}[hT:TyE P t e size bytes z][hT2:TySl P t e size](h1:∀c∈cs,∀v∈c,v.oneCell'=true)(ho:o.op= .call { callee:= .builtin .append,args:= #[s,x],argTypes:= #[t,t] })
  (hs1:ev fs s=some sv) (hx:ev fs x=some v) (hi:hs[i]?=some (.sl sv e size k l)) (hF:hs[ix]?=some (.fr F)) (h:SlC F.toFrz v size cs) (hk:k+cs.length=k') (hl':l++cs.flatten=l') (hb:k'*bytes≤140737488355328) (hbs:0<bytes)
  [hH:∀v',SetAt hs i (.sl v' e size k' l') (hs' v')]:Ew P n B M fs hs o (fun v hs''=>OneC v∧hs''=hs' v):=by
 obtain ⟨inf,zv,hU,hinf,hz,hzc,h6,h7,hzs,hpos⟩:=hT.get;rcases Nat.eq_zero_or_pos cs.length with h0|h0
 ·obtain rfl:=List.eq_nil_of_length_eq_zero h0;obtain ⟨A,cap,hv,_⟩:=h;subst hk;simp at hl' hv;subst hl' hv;refine fQ fun a w ha hp=>?_;have ho':=dH.1 (hp.get hi)
  obtain ⟨b,c,rfl,hc⟩:∃b c,sv= .slice b k c∧k≤c:=by
   rcases ho'.2 with ⟨rfl,h0⟩|⟨g,cap,cur,rfl,hb,hg,hnc,_⟩
   ·exact ⟨none,0,by rw [h0],by omega⟩
   ·exact ⟨_,cap,rfl,hnc⟩
  refine ⟨.slice b k c,w,hs' (.slice b k c),?_,Kp.refl w,?_,⟨rfl⟩,rfl⟩
  ·unfold execOp;simp [ho,resolve,invoke,builtin,ha.ev hs1,ha.ev hx,zeX (P:=P) (t:=t) hc]
  ·rw [←(hH _).h];simp only [List.length_nil,Nat.add_zero];rw [zhA hi];exact hp
 ·obtain ⟨g,off,cap,rfl,hg,hc⟩:=h.addr h0; (have hr:∀c∈cs,c.length=size:=by obtain ⟨_,_,_,_,_,h4,_⟩:=h;exact h4);refine mn i (news:=cs.flatten) (fun v hv=>?_) ho hs1 hx hi (fun w hw=>lq a7 hr (fun i hi=>jG (hw.fr hF) hg (hc i hi))) ?_ hk hl' hb hbs
  ·obtain ⟨c,hc',hv'⟩:=List.mem_flatten.1 hv;exact h1 c hc' v hv'
  ·clear hc hl' hx hk h1 h0 h
   induction cs with
   |nil=>simp
   |cons c r ih=>rw [List.flatten_cons,List.length_append,ih (fun c' h'=>hr c' (by simp [h'])),hr c b6,List.length_cons,Nat.add_mul];omega
theorem K.bE {fn:Func}{R:Ending→World→Prop}{t u s:Nat}{v x y:Value}(hr:fn.results= #[.tmp t, .tmp u, .tmp s])(hv:eJ fs t=some v)(hx:eJ fs u=some x)(hy:eJ fs s=some y)(h:∀w,Hp B M hs w→R (.returned (.tuple #[v,x,y])) w):K n B D M (kw P fn R) .ret fs hs:=
 (jW (fun a w ha _=>by rw [results_tmp3 hr];simp only [Array.getD_eq_getD_getElem?,ha.get t v hv,ha.get u x hx,ha.get s y hy];rfl) h).1
end
theorem zdC {α:Type}{xs ys:List α}{m:Nat}(h:ys.length=m:=by exact rfl):xs.length+m=(xs++ys).length:=by rw [List.length_append,h]
section
variable {P:Program}{n:Nat}{B:World}{M:Nat→Prop}{fs:eb}{hs:HS}{o:Oper}
end
section
variable {P:Program}{n:Nat}{B:World}{M:Nat→Prop}{fs:eb}{hs:HS}{o:Oper}
end
section
variable {P:Program}{n:Nat}{B:World}{M:Nat→Prop}{fs:eb}{hs:HS}{o:Oper}
end
section
variable {P:Program}{n:Nat}{B:World}{M:Nat→Prop}{fs:eb}{hs:HS}{o:Oper}
end
def gd (v:Value)(l h k:Nat):Value:=match v with
 | .slice a _ cap=>sliced a l h cap k
 |x=>x
theorem SlC.slice {F:Frz}{v:Value}{size:Nat}{cs:List (List Value)}(h:SlC F v size cs){l i:Nat}(hl:l≤i)(hi:i≤cs.length):SlC F (gd v l i size) size ((cs.take i).drop l):=by
 obtain ⟨A,cap,rfl,h2,h3,h4,h5⟩:=h; (have hlen:((cs.take i).drop l).length=i - l:=by rw [List.length_drop,List.length_take];omega);have hmem:∀c∈(cs.take i).drop l,c∈cs:=fun c hc=>List.mem_of_mem_take (List.mem_of_mem_drop hc);refine ⟨if cap=l then A else A.map (·.add (l*size)),cap - l,?_,by omega,by omega,fun c hc=>h4 c (hmem c hc),fun hp=>?_⟩
 ·rw [hlen];rfl
 ·rw [hlen] at hp;obtain ⟨g,off,rfl,hg,hc⟩:=h5 a7;rw [if_neg a7];refine ⟨g,off+l*size,by simp [kG],hg,fun j hj=>?_⟩;rw [hlen] at hj;have h6:=hc (l+j) a7
  have e:nth ((cs.take i).drop l) j=nth cs (l+j):=by
   rw [eZ a7,eZ a7,List.getElem_drop,List.getElem_take]
  rw [e,show off+l*size+j*size=off+(l+j) *size by rw [Nat.add_mul];omega];exact h6
theorem SlD.slice {α:Type}[Inhabited α]{rep:Frz→List Value→α→Prop}{F:Frz}{v:Value}{size:Nat}{cs:List (List Value)}{xs:List α}(h:SlD rep F v size cs xs){l i:Nat}(hl:l≤i)(hi:i≤xs.length):SlD rep F (gd v l i size) size ((cs.take i).drop l) ((xs.take i).drop l):=by
 refine ⟨h.1.slice hl (by rw [h.2.1];exact hi),?_,fun j hj=>?_⟩
 ·rw [List.length_drop,List.length_take,List.length_drop,List.length_take,h.2.1]
 ·have hj':=hj;rw [List.length_drop,List.length_take] at hj'
  have e:nth ((cs.take i).drop l) j=nth cs (l+j):=by
   rw [eZ (by rw [List.length_drop,List.length_take,h.2.1];omega),eZ (by rw [h.2.1];omega),List.getElem_drop,List.getElem_take]
  have e':nth ((xs.take i).drop l) j=nth xs (l+j):=by
   rw [eZ hj,eZ a7,List.getElem_drop,List.getElem_take]
  rw [e,e'];exact h.2.2 _ a7
section
variable {F:Frz}{v:Value}{size:Nat}
theorem SlC.sliceh {α:Type}{enc:α→List Value}{xs:List α}(h:SlC F v size (xs.map enc)){i:Nat}(hi:i≤xs.length):SlC F (gd v 0 i size) size ((xs.take i).map enc):=by
 have:=h.slice (l:=0) (i:=i) (Nat.zero_le _) (by rw [List.length_map];exact hi)
 rwa [List.drop_zero,←List.map_take] at this
theorem SlC.slicel {α:Type}{enc:α→List Value}{xs:List α}(h:SlC F v size (xs.map enc)){l:Nat}(hl:l≤xs.length):SlC F (gd v l xs.length size) size ((xs.drop l).map enc):=by
 have:=h.slice (l:=l) (i:=xs.length) hl (by rw [List.length_map];exact Nat.le_refl _)
 rwa [List.take_of_length_le (by rw [List.length_map];exact Nat.le_refl _),←List.map_drop] at this
theorem SlC.slicelh {α:Type}{enc:α→List Value}{xs:List α}(h:SlC F v size (xs.map enc)){l i:Nat}(hl:l≤i)(hi:i≤xs.length):SlC F (gd v l i size) size (((xs.take i).drop l).map enc):=by
 have:=h.slice (l:=l) (i:=i) hl (by rw [List.length_map];exact hi)
 rwa [←List.map_take,←List.map_drop] at this
variable {α:Type}[Inhabited α]{rep:Frz→List Value→α→Prop}{cs:List (List Value)}{xs:List α}
theorem SlD.sliceh (h:SlD rep F v size cs xs){i:Nat}(hi:i≤xs.length):SlD rep F (gd v 0 i size) size (cs.take i) (xs.take i):=by
 have:=h.slice (l:=0) (Nat.zero_le _) hi
 rwa [List.drop_zero,List.drop_zero] at this
theorem SlD.slicel (h:SlD rep F v size cs xs){l:Nat}(hl:l≤xs.length):SlD rep F (gd v l xs.length size) size (cs.drop l) (xs.drop l):=by
 have:=h.slice (l:=l) (i:=xs.length) hl (Nat.le_refl _)
 rwa [List.take_of_length_le (by rw [h.2.1];exact Nat.le_refl _),List.take_of_length_le (Nat.le_refl _)] at this
theorem SlD.slicelh (h:SlD rep F v size cs xs){l i:Nat}(hl:l≤i)(hi:i≤xs.length):SlD rep F (gd v l i size) size ((cs.take i).drop l) ((xs.take i).drop l):=h.slice hl hi
end
section
variable {P:Program}{n:Nat}{B:World}{M:Nat→Prop}{fs:eb}{hs:HS}{o:Oper}{v:Value}
theorem TySl.elem {t e k:Nat}(h:TySl P t e k):P.underlying t=some (.slice (P.elem t))∧∀w,(sizeOf (P.elem t)).run P w= .ok k w:=by
 have h:=h.h;unfold zfs at h
 split at h
 ·rename_i el hU; (have he:P.elem t=el:=by unfold Program.elem;rw [hU])
  cases hi':P.info? el with
  |none=>rw [hi'] at h;cases h
  |some inf=>
   rw [hi'] at h
   cases h
   refine ⟨by rw [he];exact hU,fun w=>?_⟩;rw [he];simp [sizeOf,typeInfo,hi']
 ·cases h
theorem lg {F:Frz}{t e k i m:Nat}{z:Int}{q:IntKind}{cs:List (List Value)}{x y:Operand}[hT:TySl P t e k](ho:o.op= .slice t x none (some y) none)(hx:ev fs x=some v)(hy:ev fs y=some (.int q z))(h:SlC F v k cs)(hm:cs.length=m)(hz:z=(i:Int))(hi:i≤m):Yv P n B M fs hs o (gd v 0 i k):=fun a w ha _=>by
 subst hm hz;obtain ⟨A,cap,rfl,h2,h3,h4,h5⟩:=h;unfold execOp;have:=run_slice_h (P:=P) w t A cs.length cap hT.elem.1 q (i:Int) a7 a7;simp [ho,ha.ev hx,ha.ev hy,run_sliceAt_slice w t _ _ _ _ hT.elem.1,this,hT.elem.2,gd]
theorem Yv.cF {F:Frz}{t e k l m:Nat}{z:Int}{q:IntKind}{cs:List (List Value)}{x y:Operand}[hT:TySl P t e k](ho:o.op= .slice t x (some y) none none)(hx:ev fs x=some v)(hy:ev fs y=some (.int q z))(h:SlC F v k cs)(hm:cs.length=m)(hz:z=(l:Int))(hl:l≤m):Yv P n B M fs hs o (gd v l m k):=fun a w ha _=>by
 subst hm hz;obtain ⟨A,cap,rfl,h2,h3,h4,h5⟩:=h;unfold execOp;have:=run_slice_l (P:=P) w t A cs.length cap hT.elem.1 q (l:Int) a7 a7;simp [ho,ha.ev hx,ha.ev hy,run_sliceAt_slice w t _ _ _ _ hT.elem.1,this,hT.elem.2,gd]
theorem Yv.cw {F:Frz}{t e k l i m:Nat}{z z':Int}{q q':IntKind}{cs:List (List Value)}{x y y':Operand}[hT:TySl P t e k](ho:o.op= .slice t x (some y) (some y') none)(hx:ev fs x=some v)(hy:ev fs y=some (.int q z))(hy':ev fs y'=some (.int q' z'))(h:SlC F v k cs)(hm:cs.length=m)(hz:z=(l:Int))(hl:l≤i)(hz':z'=(i:Int))(hi:i≤m):Yv P n B M fs hs o (gd v l i k):=fun a w ha _=>by
 subst hm hz hz';obtain ⟨A,cap,rfl,h2,h3,h4,h5⟩:=h;unfold execOp;have:=run_slice_lh (P:=P) w t A cs.length cap hT.elem.1 q q' (l:Int) (i:Int) a7 a7 a7;simp [ho,ha.ev hx,ha.ev hy,ha.ev hy',run_sliceAt_slice w t _ _ _ _ hT.elem.1,this,hT.elem.2,gd]
end
structure FxM (F:Frz) (w:World) (M:Nat→Prop) (G:Frz) (es:HS) (w':World):Prop where
 le:F.Le G
 at_:G.At w'
 hp:Hp w M es w'
 new:∀g,G.S g→F.S g∨M g∨w.heap.size≤g
 ap:∀e∈es,∀g,e.fp g→¬G.S g
theorem zhq:dG []=fun _=>False:=by funext g;unfold dG;simp
theorem zld {es:HS}{e:Ent}{g:Nat}(he:e∈es)(h:e.fp g):dG es g:=⟨e,he,h⟩
section
variable {B w w':World}{M S0:Nat→Prop}{hs:HS}{F:FzB B M S0}
theorem dp {F0:Frz}{es:HS}{G:FzB B M S0}(hw:Hp B M (es++[Ent.fr G]) w')(hS:∀g,S0 g→F0.S g)(hle:F0.Le G.toFrz):FxM F0 B M G.toFrz es w':=by
 have h1:=hw;have h2:=List.pairwise_append.1 h1.apart;refine ⟨hle,hw.fr (i:=es.length) b6,hw.sub (List.sublist_append_left _ _),fun g hg=>(G.new g hg).imp (hS g) id,fun e he g hg hS=>?_⟩;refine h2.2.2 e he (.fr G) b6 g hg (dR.2 ⟨hS,?_⟩);exact h1.new e (List.mem_append_left _ he) g hg
theorem FxM.up {M':Nat→Prop}{G:Frz}{es:HS}(h:FxM F.toFrz w M' G es w')(hw:Hp B M hs w)(hM:∀g,M' g→M g∨B.heap.size≤g):∃G':FzB B M S0,G'.toFrz=G:=by
 refine ⟨⟨G,fun g hg hb hm=>?_,fun g hg=>?_⟩,rfl⟩
 ·rcases h.new g hg with h1|h1|h1
  ·rw [(h.le g h1).2,F.base g h1 hb hm]
  ·rcases hM g h1 with h2|h2
   ·exact absurd h2 hm
   ·omega
  ·have:=hw.size;omega
 ·rcases h.new g hg with h1|h1|h1
  ·exact F.new g h1
  ·exact .inr (hM g h1)
  ·have:=hw.size;exact .inr (.inr a7)
end
section
variable {P:Program}{n:Nat}{B D:World}{M S0:Nat→Prop}{fs:eb}{hs:HS}{o:Oper}{v:Value}
theorem d5 (idx:List Nat)(bs rest:HS){ι:Type}{F:FzB B M S0}{φ:ι→Frz→Prop}{val:ι→Value}{es:ι→HS}{c:Operand}{xs:Array Operand}{ts:Array TypeId}{f:FuncId}{fst caps:Array Value}{vs:List Value}[hE:Enters P f]
  (ho:o.op= .call { callee:= .value c,args:=xs,argTypes:=ts }) (hc:ev fs c=some (.func (.func f) fst caps)) (hv:evs fs xs.toList=some vs) (hp:l5 hs idx=some (bs++ .fr F :: rest)) (hn:idx.Nodup)
  (C:∀w,Hp B M hs w→Hp B M (bs++ .fr F :: rest) w→F.toFrz.At w→Calls P f (fst.toList++vs++caps.toList).toArray w (fun e w'=>∃y G,φ y G∧e= .returned (val y)∧FxM F.toFrz w (dG bs) G (es y) w')):
  Ew P n B M fs hs o (fun v hs''=>∃y,∃G:FzB B M S0,F.toFrz.Le G.toFrz∧φ y G.toFrz∧v=val y∧hs''=es y++ .fr G :: rest):=
 Ew.call ho hc hv fun w hw=>by
  have hw2:=hw.pick hp hn;have hF:F.toFrz.At w:=hw2.fr (i:=bs.length) b6;refine (C w hw hw2 hF).mono fun e w' ⟨y,G,hy,he,hx⟩=>?_;have hM:∀g,dG bs g→M g∨B.heap.size≤g:=fun g ⟨e,he,hg⟩=>hw2.new e (List.mem_append_left _ he) g hg;obtain ⟨G',rfl⟩:=hx.up hw2 hM;refine ⟨val y,es y++ .fr G' :: rest,he,Kp.only hx.hp.only (fun g hg c=>?_),?_,y,G',hx.le,hy,rfl,rfl⟩
  ·obtain ⟨e,h1,h2⟩:=hg;exact e.nd (hw2.own e (List.mem_append_left _ h1)) g h2 c
  ·(have h3:Hp B M ((bs++[.fr F])++rest) w:=by rw [List.append_assoc];exact hw2);have h4:=Hp.go (es:=bs++[.fr F]) (es':=es y++[.fr G']) h3 hx.hp.only (fun g _ ⟨e,he,hg⟩=>⟨e,List.mem_append_left _ he,hg⟩) (fun e he=>?_) (fun e he g hg=>?_) ?_
   ·rw [List.append_assoc] at h4;exact h4
   ·rcases List.mem_append.1 he with he|he
    ·exact hx.hp.own e he
    ·simp at he;subst he;exact fb.2 (fun g hg=>hx.at_ g hg.1)
   ·rcases List.mem_append.1 he with he|he
    ·rcases hx.hp.new e he g hg with ⟨f,hf,hfg⟩|h5
     ·exact .inl ⟨f,List.mem_append_left _ hf,hfg⟩
     ·exact .inr h5
    ·simp at he;subst he;have h6:=dR.1 hg;rcases hx.new g h6.1 with h7|⟨f,hf,hfg⟩|h7
     ·exact .inl ⟨.fr F,by simp,dR.2 ⟨h7,h6.2⟩⟩
     ·exact .inl ⟨f,List.mem_append_left _ hf,hfg⟩
     ·exact .inr h7
   ·exact List.pairwise_append.2 ⟨hx.hp.apart,List.pairwise_singleton _ _,fun e he f hf g hg hfg=>by
     simp at hf;subst hf
     exact hx.ap e he g hg (dR.1 hfg).1⟩
theorem dI (idx:List Nat)(bs rest:HS){ι:Type}{F:FzB B M S0}{φ:ι→Prop}{val:ι→Value}{es:ι→HS}{c:Operand}{xs:Array Operand}{ts:Array TypeId}{f:FuncId}{fst caps:Array Value}{vs:List Value}[hE:Enters P f]
  (ho:o.op= .call { callee:= .value c,args:=xs,argTypes:=ts }) (hc:ev fs c=some (.func (.func f) fst caps)) (hv:evs fs xs.toList=some vs) (hp:l5 hs idx=some (bs++ .fr F :: rest)) (hn:idx.Nodup)
  (C:∀w,Hp B M hs w→Hp B M (bs++ .fr F :: rest) w→F.toFrz.At w→Calls P f (fst.toList++vs++caps.toList).toArray w (fun e w'=>∃y,φ y∧e= .returned (val y)∧FxM F.toFrz w (dG bs) F.toFrz (es y) w')):
  Ew P n B M fs hs o (fun v hs''=>∃y,φ y∧v=val y∧hs''=es y++ .fr F :: rest):=
 Ew.call ho hc hv fun w hw=>by
  have hw2:=hw.pick hp hn;have hF:F.toFrz.At w:=hw2.fr (i:=bs.length) b6;refine (C w hw hw2 hF).mono fun e w' ⟨y,hy,he,hx⟩=>?_;refine ⟨val y,es y++ .fr F :: rest,he,Kp.only hx.hp.only (fun g hg c=>?_),?_,y,hy,rfl,rfl⟩
  ·obtain ⟨e,h1,h2⟩:=hg;exact e.nd (hw2.own e (List.mem_append_left _ h1)) g h2 c
  ·exact Hp.go (es:=bs) (es':=es y) hw2 hx.hp.only (fun g _ ⟨e,he,hg⟩=>⟨e,he,hg⟩) hx.hp.own (fun e he g hg=>hx.hp.new e he g hg) hx.hp.apart
end
section
variable {w:World}{bs:HS}{F:Frz}
theorem gl (hF:F.At w)(h:Hp w (dG bs) bs w)(hA:∀g,dG bs g→¬F.S g):∃(S0:Nat→Prop) (G:FzB w (dG bs) S0),G.toFrz=F∧(∀g,S0 g→F.S g)∧Hp w (dG bs) (bs++[Ent.fr G]) w:=⟨F.S,gR hF _,rfl,fun _ h=>h,kT hF h hA⟩
variable {B:World}{M S0:Nat→Prop}{G:FzB B M S0}{rest:HS}
theorem Hp.takes (h:Hp B M (bs++ .fr G :: rest) w):Hp w (dG bs) bs w∧∀g,dG bs g→¬G.toFrz.S g:=by
 have h1:Hp B M bs w:=h.sub (List.sublist_append_left _ _);refine ⟨lD h1.own h1.apart,fun g ⟨e,he,hg⟩ hS=>?_⟩;exact (List.pairwise_append.1 h.apart).2.2 e he (.fr G) b6 g hg (dR.2 ⟨hS,h1.new e he g hg⟩)
end
theorem Tab.pos {w:World}(h:Tab w):0<w.heap.size:=by
 have h0:=h 0 a8;unfold World.cell? at h0;rcases Nat.eq_zero_or_pos w.heap.size with e|e
 ·rw [Array.getElem?_eq_none a7] at h0;simp at h0
 ·exact e
abbrev vI (z:Int):Value:= .int .i64 z
abbrev Vec (n:Nat)(α:Type):={ l:List α // l.length=n }
def Vec.fill {α:Type}(n:Nat)(v:α):Vec n α:=⟨List.replicate n v,List.length_replicate⟩
instance {n:Nat} {α:Type} [Inhabited α]:Inhabited (Vec n α):=⟨Vec.fill n default⟩
def Vec.get {n:Nat}{α:Type}[Inhabited α](x:Vec n α)(i:Nat):α:=nth x.1 i
def Vec.put {n:Nat}{α:Type}(x:Vec n α)(i:Nat)(v:α):Vec n α:=⟨x.1.set i v,by rw [List.length_set,x.2]⟩
theorem gq {α:Type}[Inhabited α]{n i:Nat}{v:α}(h:i<n):(Vec.fill n v).get i=v:=by
 unfold Vec.get Vec.fill;rw [eZ (by simpa using h)];simp
theorem fC {α:Type}[Inhabited α]{n i j:Nat}{x:Vec n α}{v:α}(h:i<n):(x.put i v).get j=if j=i then v else x.get j:=by
 unfold Vec.get Vec.put; (have hx:i<x.1.length:=by rw [x.2];exact h);unfold nth;rw [List.getD_eq_getElem?_getD,List.getD_eq_getElem?_getD];by_cases e:j=i
 ·rw [if_pos e,e,List.getElem?_set_self hx];rfl
 ·rw [if_neg e,List.getElem?_set_ne (fun h=>e h.symm)]
section
variable {α:Type}[Inhabited α]{n i j m p:Nat}{x:Vec n α}{f:α→Value}{a b l r:List Value}{v:Value}
theorem Vec.len:(x.1.map f).length=n:=by rw [List.length_map,x.2]
theorem Vec.cell (h:i<n):(x.1.map f)[i]?=some (f (x.get i)):=by
 unfold Vec.get;rw [List.getElem?_map,List.getElem?_eq_getElem (by rw [x.2];exact h),eZ (by rw [x.2];exact h)];rfl
theorem Vec.upd {v:α}(h:i<n):(x.1.map f).set i (f v)=(x.put i v).1.map f:=by
 show _=(x.1.set i v).map f
 rw [List.map_set]
theorem fq (hp:p=i)(h:l[i]?=some v):l[p]?=some v:=by rw [hp];exact h
theorem iU {u:Value}(hp:p=i)(h:l.set i u=r):l.set p u=r:=by rw [hp];exact h
theorem zf2 (ha:a.length=m)(hi:i<m)(h:a[i]?=some v):(a++b)[i]?=some v:=by
 rw [List.getElem?_append_left a7];exact h
theorem gB (ha:a.length=m)(h:b[j]?=some v):(a++b)[m+j]?=some v:=by
 rw [List.getElem?_append_right a7,ha,show m+j - m=j by omega];exact h
theorem zjB {u:Value}(ha:a.length=m)(hi:i<m)(h:a.set i u=r):(a++b).set i u=r++b:=by
 rw [List.set_append_left _ _ a7,h]
theorem jA {u:Value}(ha:a.length=m)(h:b.set j u=r):(a++b).set (m+j) u=a++r:=by
 rw [List.set_append_right _ _ a7,ha,show m+j - m=j by omega,h]
theorem zlm (ha:a.length=m):(((a++b).drop 0).take a.length)=a:=by simp
theorem zlz {c:List Value}(ha:a.length=m)(hp:p=m+j)(h:(b.drop j).take c.length=c):((a++b).drop p).take c.length=c:=by
 subst hp;rw [List.drop_append,ha,List.drop_eq_nil_of_le a7,List.nil_append,show m+j - m=j by omega];exact h
theorem fO {k:Nat}(ha:a.length=m)(hb:b.length=k):(a++b).length=m+k:=by rw [List.length_append,ha,hb]
instance OneCs.vmap {β:Type} {g:β→Value} {y:List β} [h:∀z,OneC (g z)]:OneCs (y.map g):=⟨fun z hz=>by obtain ⟨b,_,rfl⟩:=List.mem_map.1 hz;exact (h b).h⟩
instance OneCs.cat [h:OneCs a] [k:OneCs b]:OneCs (a++b):=⟨fun z hz=>(List.mem_append.1 hz).elim (h.h z) (k.h z)⟩
end
section
variable {P:Program}{n:Nat}{B D:World}{M:Nat→Prop}{fs:eb}{hs:HS}{o:Oper}{v:Value}
theorem kj {t:TypeId}{z l:List Value}[hT:TyZ P t z](ho:o.op= .alloc t)(hz:z=l):Ew P n B M fs hs o (fun v hs'=>∃g,v= .pointer (some ⟨g,0,none⟩)∧hs'= .row g t l :: hs):=by
 subst hz;exact Ew.alloc ho
theorem zhF {place:Nat→Option (Nat×Nat)}{l l1 m:List Value}{l2:Array Value}{i off size:Nat}{v:Value}{ps:List (Nat×Value)}(hp:place i=some (off,size))(hc:v.cells=m.toArray)(hs:m.length=size)(h1:zeL l off m=l1)(hb:off+m.length≤l.length)(h2:Instr.fill place l1.toArray ps=some l2):Instr.fill place l.toArray ((i,v) :: ps)=some l2:=by
 obtain ⟨l2'⟩:=l2;haveI:Place place i off size:=⟨hp⟩;haveI:Cells v m:=⟨hc⟩;haveI:Splice l off m l1:=⟨h1,hb⟩;haveI:Fill place l1 ps l2':=⟨h2⟩;haveI:LenIs m size:=⟨hs⟩;exact (inferInstance:Fill place l ((i,v) :: ps) l2').h
theorem zi9 {l r:List Value}{off:Nat}{v:Value}(h:off<l.length)(hr:l.set off v=r):zeL l off [v]=r:=by
 rw [←hr];exact zey l off v h
theorem Yv.cj {t:TypeId}{ps:Array (Nat×Operand)}{vs:List (Nat×Value)}{z l0 l:List Value}[hS:TySt P t][hZ:TyZ P t z](ho:o.op= .build t ps)(hv:evPs fs ps.toList=some vs)(hz:z=l0)(hF:Instr.fill (zgZ P t) l0.toArray vs=some l.toArray):Yv P n B M fs hs o (.agg l.toArray):=by
 subst hz;haveI:Fill (zgZ P t) z vs l:=⟨hF⟩;exact Yv.build ho hv
end
theorem iJ {w:World}{v:Value}{e:TypeId}{size k:Nat}{l:List Value}(h:(Ent.sl v e size k l).ok w):OneC v:=by
 rcases (dH.1 h).2 with ⟨rfl,_⟩|⟨g,cap,cur,rfl,_⟩ <;> exact inferInstance
section
variable {P:Program}{n:Nat}{B:World}{M:Nat→Prop}{fs:eb}{hs:HS}{o:Oper}
theorem iF {w:World}{v:Value}{e:TypeId}{size k:Nat}{l:List Value}(h:(Ent.sl v e size k l).ok w):k≤9223372036854775807:=by
 have ho:=dH.1 h;rcases ho.2 with ⟨rfl,h0⟩|⟨g,cap,cur,rfl,hb,hg,hnc,hcm,hcs,htake⟩
 ·omega
 ·unfold maxLen at hcm;omega
theorem Ew.aY {t e:TypeId}{size bytes:Nat}{z:List Value}[hT:TyE P t e size bytes z](ho:o.op= .buildSlice t 0 #[]):Ew P n B M fs hs o (fun v hs'=>∃g,v= .slice (some ⟨g,0,none⟩) 0 0∧hs'= .sl (.slice (some ⟨g,0,none⟩) 0 0) e size 0 [] :: hs):=fQ fun a w ha hp=>by
 obtain ⟨i,zv,hU,hi,hz,hzc,rfl,rfl,hzs,hpos⟩:=hT.get;refine ⟨_,w.alloc (.cells #[] e),_,?_,Kp.alloc w _,hp.fresh ((Below.refl _ _).alloc (Nat.le_refl _) _) (dH.2 (World.ownsRow_made (base:=0) (e:=e) (size:=i.size) w #[] 0 (Nat.zero_le _) (by unfold maxLen;omega) b6)) (fun g hg=>?_),w.heap.size,rfl,rfl⟩
 ·unfold execOp;simp [ho,Instr.buildSlice,underlying,hU,sizeOf,typeInfo,hi,Instr.fill,newRow];rw [show Array.range 0= #[] from by simp [Array.range]];simp
 ·have:=dO.1 hg;simp [Value.ownBlock] at this;omega
end
section
variable {Fe:Fence}[hFe:Calm Fe]{P:Program}{n:Nat}{B D:World}{M S0:Nat→Prop}{Q:Exit→Act→World→Prop}{fs:eb}{hs:HS}{ops:Array Oper}
theorem gv {l:List Oper}{v:Value}{e:TypeId}{size k:Nat}{cs:List Value}(j:Nat)(hj:hs[j]?=some (.sl v e size k cs))(h:OneC v→k≤9223372036854775807→TL Fe P n B D M ops Q l fs hs):TL Fe P n B D M ops Q l fs hs:=
 gX (ι:=Unit) (φ:=fun _=>OneC v∧k≤9223372036854775807) (hs':=fun _=>hs) (fun w hw=>⟨(),⟨iJ (hw.get hj),iF (hw.get hj)⟩,hw⟩) (fun _ hx=>h hx.1 hx.2)
theorem iH {hs0:HS}{r:Ord}{v:Value}{e:TypeId}{size k:Nat}{cs:List Value}(j:Nat)(hj:hs[j]?=some (.sl v e size k cs))(h:OneC v→k≤9223372036854775807→TS Fe P n B D M ops Q hs0 r fs hs):TS Fe P n B D M ops Q hs0 r fs hs:=
 i9 (ι:=Unit) (φ:=fun _=>OneC v∧k≤9223372036854775807) (hs':=fun _=>hs) (fun w hw=>⟨(),⟨iJ (hw.get hj),iF (hw.get hj)⟩,hw⟩) (fun _ hx=>h hx.1 hx.2)
end
structure Bor (F:Frz) (E:Ent) (w:World) (F':Frz):Prop where
 le:F.Le F'
 at_:F'.At w
 new:∀g,F'.S g→F.S g∨E.fp g
section
variable {B w:World}{M S0:Nat→Prop}{hs bs rest:HS}{F:FzB B M S0}{G:FzB B M S0}{F':Frz}
end
theorem ij {α:Type}[Inhabited α]{enc:α→List Value}{size:Nat}(he:∀x,(enc x).length=size):∀ {xs:List α} {i j p:Nat} {v:Value} {x:α},i<xs.length→j<size→p=i*size+j→(enc (nth xs i)).set j v=enc x→(xs.flatMap enc).set p v=(xs.set i x).flatMap enc
 |y :: r,0,j,p,v,x,_,hj,hp,h=>by
  (obtain rfl:p=j:=by omega);rw [List.flatMap_cons,List.set_append_left _ _ (by rw [he];exact hj),List.set_cons_zero,List.flatMap_cons];rw [←h];rfl
 |y :: r,i+1,j,p,v,x,hi,hj,hp,h=>by
  rw [List.flatMap_cons,List.set_append_right _ _ (by rw [he,hp,Nat.add_mul];omega),List.set_cons_succ,List.flatMap_cons];rw [ij he (xs:=r) (i:=i) (j:=j) (x:=x) (by simpa using hi) hj (by rw [he,hp,Nat.add_mul];omega) (by rw [←h];rfl)]
theorem ik {α:Type}{enc:α→List Value}{size:Nat}(he:∀x,(enc x).length=size):∀ {xs:List α} {i j p:Nat},i<xs.length→j<size→p=i*size+j→p<(xs.flatMap enc).length
 |y :: r,0,j,p,_,hj,hp=>by rw [List.flatMap_cons,List.length_append,he];omega
 |y :: r,i+1,j,p,hi,hj,hp=>by
  have:=ik he (xs:=r) (i:=i) (j:=j) (p:=i*size+j) (by simpa using hi) hj rfl;rw [List.flatMap_cons,List.length_append,he];rw [hp,Nat.add_mul];omega
theorem zkw {α:Type}{enc:α→List Value}{xs:List α}(h:∀x,OneCs (enc x)):∀v∈xs.flatMap enc,v.oneCell'=true:=fun v hv=>by
 obtain ⟨x,_,hx⟩:=List.mem_flatMap.1 hv;exact (h x).h v hx
theorem zkT {α:Type}(xs ys:List α):xs.length+ys.length=(xs++ys).length:=(List.length_append ..).symm
theorem zjJ {α:Type}{enc:α→List Value}(xs ys:List α):xs.flatMap enc++ys.flatMap enc=(xs++ys).flatMap enc:=(List.flatMap_append ..).symm
section
variable {P:Program}{n:Nat}{B D:World}{M:Nat→Prop}{fs:eb}{hs:HS}{o:Oper}{v val sv:Value}
theorem ez (j:Nat){t e:TypeId}[hT:TyS P t]{x y:Operand}{p k k' size:Nat}{l l':List Value}{hs':HS}[hv:OneC val](ho:o.op= .store t x y)(hx:ev fs x=some (jl sv p))(hy:ev fs y=some val)
  (hj:hs[j]?=some (.sl sv e size k l)) (hk:0<k) (hp:p<l.length) (hl:l.set p val=l') (hkk:k'=k) [hH:SetAt hs j (.sl sv e size k' l') hs']:Ew P n B M fs hs o (fun v hs''=>v=undef∧hs''=hs'):=by
 subst hkk;exact Ew.bX j ho hx hy hj hk hp hl
theorem Ew.bY (i j:Nat){s x:Operand}{t e e2:TypeId}{size bytes m k k':Nat}{z l l2 l':List Value}{hs':Value→HS}[hT:TyE P t e size bytes z][hT2:TySl P t e size](h1:∀v∈l2,v.oneCell'=true)(ho:o.op= .call { callee:= .builtin .append,args:= #[s,x],argTypes:= #[t,t] })
  (hs1:ev fs s=some sv) (hx:ev fs x=some v) (hi:hs[i]?=some (.sl sv e size k l)) (hj:hs[j]?=some (.sl v e2 size m l2)) (hk:k+m=k') (hl':l++l2=l') (hb:k'*bytes≤140737488355328) (hbs:0<bytes)
  [hH:∀v',SetAt hs i (.sl v' e size k' l') (hs' v')]:Ew P n B M fs hs o (fun v hs''=>OneC v∧hs''=hs' v):=fun F hF Q K a w ha hw=>by
 have ho2:=dH.1 (hw.get hj);have hl2:=ho2.1;rcases Nat.eq_zero_or_pos m with h0|h0
 ·subst h0;obtain rfl:l2=[]:=List.eq_nil_of_length_eq_zero a7
  obtain ⟨A,c2,rfl⟩:∃A c2,v= .slice A 0 c2:=by
   rcases ho2.2 with ⟨rfl,_⟩|⟨g,cap,cur,rfl,_⟩
   ·exact ⟨_,_,rfl⟩
   ·exact ⟨_,_,rfl⟩
  subst hk;rw [List.append_nil] at hl';subst hl';refine (fQ fun a w ha hp=>?_:Ew P n B M fs hs o (fun v hs''=>OneC v∧hs''=hs' v)) F hF Q K a w ha hw;have ho':=dH.1 (hp.get hi)
  obtain ⟨b,c,rfl,hc⟩:∃b c,sv= .slice b k c∧k≤c:=by
   rcases ho'.2 with ⟨rfl,h0⟩|⟨g,cap,cur,rfl,hb,hg,hnc,_⟩
   ·exact ⟨none,0,by rw [h0],by omega⟩
   ·exact ⟨_,cap,rfl,hnc⟩
  refine ⟨.slice b k c,w,hs' (.slice b k c),?_,Kp.refl w,?_,⟨rfl⟩,rfl⟩
  ·unfold execOp;simp [ho,resolve,invoke,builtin,ha.ev hs1,ha.ev hx,zeX (P:=P) (t:=t) hc]
  ·rw [←(hH _).h];simp only [Nat.add_zero];rw [zhA hi];exact hp
 ·obtain ⟨g,cap,rfl⟩:=hw.slAddr hj h0
  exact mn i (news:=l2) h1 ho hs1 hx hi (fun w hw q hq=>by
   have h3:=dH.1 (hw.get hj)
   rw [Nat.zero_add,World.ownsRow.cellAt h3 q (by rw [←h3.1];exact hq)]) hl2 hk hl' hb hbs F hF Q K a w ha hw
end
section
variable {P:Program}{n:Nat}{B D:World}{M:Nat→Prop}{fs:eb}{hs:HS}{v v2:Value}
end
def orK (k:IntKind)(a b:Int):Int:=k.wrap ((BitVec.ofInt k.bits a ||| BitVec.ofInt k.bits b).toNat:Int)
def andK (k:IntKind)(a b:Int):Int:=k.wrap ((BitVec.ofInt k.bits a &&& BitVec.ofInt k.bits b).toNat:Int)
def xorK (k:IntKind)(a b:Int):Int:=k.wrap ((BitVec.ofInt k.bits a ^^^ BitVec.ofInt k.bits b).toNat:Int)
def remK (k:IntKind)(a b:Int):Int:=a.tmod b
def shlK (k:IntKind)(a b:Int):Int:=k.wrap (a*2 ^ (min b.toNat k.bits))
def shrK (k:IntKind)(a b:Int):Int:=a.fdiv (2 ^ (min b.toNat k.bits))
def u8s (xs:List Int):List UInt8:=xs.map fun n=>UInt8.ofNat n.toNat
theorem zjH (z:Int):IntKind.u64.wrap z=((BitVec.ofInt 64 z).toNat:Int):=by
 rw [BitVec.toNat_ofInt];refine q29 ?_;simp;omega
theorem zkF {α:Type}[Inhabited α]{enc:α→List Value}{size:Nat}(he:∀y,(enc y).length=size)(hs:0<size)(x:α)(n:Nat):(madeCells (enc x).toArray (n*size)).toList=(List.replicate n x).flatMap enc:=by
 apply List.ext_getElem?;intro i; (have hl:((List.replicate n x).flatMap enc).length=n*size:=by rw [zks enc size he];simp);by_cases hi:i<n*size
 ·have hq:i / size<n:=Nat.div_lt_of_lt_mul (by rw [Nat.mul_comm];exact hi);have hj:i % size<size:=Nat.mod_lt _ hs;have e:i=i / size*size+i % size:=(Nat.div_add_mod' i size).symm
  have e2:((List.replicate n x).flatMap enc)[i]?=(enc x)[i % size]?:=by
   conv=>lhs;rw [e]
   rw [zfG enc size he _ _ (by simpa using hq) _ hj];simp
  rw [e2]; (have hj2:i % size<(enc x).length:=by rw [he];exact hj);simp [madeCells,hi,he,List.getElem?_eq_getElem hj2]
 ·rw [List.getElem?_eq_none (by simp [madeCells];omega),List.getElem?_eq_none (by rw [hl];omega)]
section
variable {P:Program}{n:Nat}{B D:World}{M S0:Nat→Prop}{fs:eb}{hs:HS}{o:Oper}{v:Value}
theorem fZ {α:Type}[Inhabited α]{t e:TypeId}{size bytes n':Nat}{z:List Value}{x y:Operand}{q q':IntKind}{xi:Int}{enc:α→List Value}{u:α}[hT:TyE P t e size bytes z](ho:o.op= .makeSlice t x y)(hx:ev fs x=some (.int q xi))(hy:ev fs y=some (.int q' xi))(hn:xi=(n':Int))(hr:dm n' bytes)(hb:0<bytes)(hp:0<size)(he:∀v,(enc v).length=size)(hz:enc u=z):
  Ew P n B M fs hs o (fun v hs'=>OneC v∧hs'= .sl v e size (List.replicate n' u).length ((List.replicate n' u).flatMap enc) :: hs):=fun F hF Q K a w ha hw k=>by
 have hle:n'≤140737488355328:=Nat.le_trans (Nat.le_mul_of_pos_right _ hb) hr;refine Ew.makeSlice ho hx hy hn hn a7 (by rw [Nat.mul_comm];have h:=hr;unfold dm at h;omega) F hF Q K a w ha hw (fun v w' hs' h1 h2 h3=>?_);obtain ⟨g,rfl,rfl⟩:=h3;refine k _ w' _ h1 ?_ ⟨⟨rfl⟩,rfl⟩;rw [←zkF he hp u n',hz,List.length_replicate];exact h2
theorem Yv.orK {x y:Operand}{t u:TypeId}{k:IntKind}{a b:Int}(ho:o.op= .binOp .or t x y u:=by exact rfl)(hx:ev fs x=some (.int k a):=by exact rfl)(hy:ev fs y=some (.int k b):=by exact rfl):Yv P n B M fs hs o (.int k (orK k a b)):=fun f w ha _=>by
 unfold execOp;simp [ho,ha.ev hx,ha.ev hy,eqGuard,binOp,Op.intBits,Go.Proofs.YtmnjbhkcfghebaaGreatDoor.orK]
theorem Yv.andK {x y:Operand}{t u:TypeId}{k:IntKind}{a b:Int}(ho:o.op= .binOp .and t x y u)(hx:ev fs x=some (.int k a))(hy:ev fs y=some (.int k b)):Yv P n B M fs hs o (.int k (andK k a b)):=fun f w ha _=>by
 unfold execOp;simp [ho,ha.ev hx,ha.ev hy,eqGuard,binOp,Op.intBits,Go.Proofs.YtmnjbhkcfghebaaGreatDoor.andK]
theorem Yv.remK {x y:Operand}{t u:TypeId}{k:IntKind}{a b:Int}(ho:o.op= .binOp .rem t x y u)(hx:ev fs x=some (.int k a))(hy:ev fs y=some (.int k b))(hb:b≠0):Yv P n B M fs hs o (.int k (remK k a b)):=fun f w ha _=>by
 unfold execOp;simp [ho,ha.ev hx,ha.ev hy,eqGuard,binOp,Op.intDiv,hb,Go.Proofs.YtmnjbhkcfghebaaGreatDoor.remK]
theorem Yv.xorK {x y:Operand}{t u:TypeId}{k:IntKind}{a b:Int}(ho:o.op= .binOp .xor t x y u:=by exact rfl)(hx:ev fs x=some (.int k a):=by exact rfl)(hy:ev fs y=some (.int k b):=by exact rfl):Yv P n B M fs hs o (.int k (xorK k a b)):=fun f w ha _=>by
 unfold execOp;simp [ho,ha.ev hx,ha.ev hy,eqGuard,binOp,Op.intBits,Go.Proofs.YtmnjbhkcfghebaaGreatDoor.xorK]
theorem Yv.shlK {x y:Operand}{t u:TypeId}{k k':IntKind}{a b:Int}(ho:o.op= .binOp .shl t x y u)(hx:ev fs x=some (.int k a))(hy:ev fs y=some (.int k' b))(hb:0≤b):Yv P n B M fs hs o (.int k (shlK k a b)):=fun f w ha _=>by
 unfold execOp;simp [ho,ha.ev hx,ha.ev hy,eqGuard,binOp,Op.shift,Go.Proofs.YtmnjbhkcfghebaaGreatDoor.shlK,Int.not_lt.2 hb]
theorem Yv.shrK {x y:Operand}{t u:TypeId}{k k':IntKind}{a b:Int}(ho:o.op= .binOp .shr t x y u)(hx:ev fs x=some (.int k a))(hy:ev fs y=some (.int k' b))(hb:0≤b):Yv P n B M fs hs o (.int k (shrK k a b)):=fun f w ha _=>by
 unfold execOp;simp [ho,ha.ev hx,ha.ev hy,eqGuard,binOp,Op.shift,Go.Proofs.YtmnjbhkcfghebaaGreatDoor.shrK,Int.not_lt.2 hb]
theorem dV {s t:TypeId}{k k':IntKind}{z:Int}{x:Operand}[hS:TyI P s k'][hT:TyI P t k](ho:o.op= .convert s t x:=by exact rfl)(hx:ev fs x=some (.int k' z):=by exact rfl):Yv P n B M fs hs o (.int k (k.wrap z)):=fun a w ha _=>by
 have h:=hT.h;have h':=hS.h;unfold zl3 at h h'
 split at h
 ·rename_i q hU
  cases h
  split at h'
  ·rename_i q' hU'
   cases h'
   unfold execOp;simp [ho,ha.ev hx,convert,underlying,hU,hU',Conv.intToInt]
  ·cases h'
 ·cases h
theorem ey {s t:TypeId}{k':IntKind}{z:Int}{x:Operand}[hS:TyI P s k'][hT:TyI P t .u64](ho:o.op= .convert s t x:=by exact rfl)(hx:ev fs x=some (.int k' z):=by exact rfl):Yv P n B M fs hs o (U (BitVec.ofInt 64 z)):=(dV ho hx).eq (by rw [zjH])
theorem Yv.cG (ix:Nat){F:FzB B M S0}{s t e:TypeId}{xs:List Int}{x:Operand}(hs1:P.underlying s=some (.slice e))(he:P.underlying e=some (.int .u8))(ht:P.underlying t=some .string)(ho:o.op= .convert s t x)(hx:ev fs x=some v)(hF:hs[ix]?=some (.fr F))(h:SlC F.toFrz v 1 (xs.map (eK .u8))):Yv P n B M fs hs o (.string ⟨(u8s xs).toArray⟩):=fun a w ha hw=>by
 obtain ⟨A,cap,rfl,h2,h3,h4,h5⟩:=h;unfold execOp
 cases xs with
 |nil=>
  have:(convert s t (.slice A ([].map (eK .u8)).length cap)).run P w= .ok (.string ⟨#[]⟩) w:=by
   rw [run_convert_bytes_string w s t e A _ cap hs1 he ht]
   cases A with
   |none=>rfl
   |some b=>
    rw [run_bytesToString (P:=P) w b _ cap [] (by rfl)];rfl
  simp [ho,ha.ev hx] at this ⊢;rw [this];rfl
 |cons z r=>
  obtain ⟨g,off,rfl,hg,hc⟩:=h5 b6;have hl:(List.map (eK .u8) (z :: r)).length=(z :: r).length:=List.length_map _
  have:=run_convert_bytes_arg (P:=P) w s e hs1 he g off (z :: r).length cap (z :: r) rfl (fun i hi=>by
   have h6:=jG (hw.fr hF) hg (hc i (by rw [hl];exact hi)) 0 (by rw [zfc hi];simp);rw [zfc hi] at h6;rw [show off+i=off+i*1+0 by omega,h6,eZ hi]
   simp [List.getElem?_eq_getElem hi,List.getD_eq_getElem?_getD]) t ht
  rw [hl] at hx;simp [ho,ha.ev hx] at this ⊢;rw [this];rfl
theorem Yv.cx {x y:Operand}{t u:TypeId}{a b:List UInt8}(ho:o.op= .binOp .eql t x y u)(hx:ev fs x=some (.string ⟨a.toArray⟩))(hy:ev fs y=some (.string ⟨b.toArray⟩)):Yv P n B M fs hs o (.bool (a == b)):=fun f w ha _=>by
 unfold execOp;simp [ho,ha.ev hx,ha.ev hy,eqGuard,binOp,Op.stringOp,ByteArray.toList_eq]
end
def winOk (w:World)(v:Value)(e:TypeId)(size n:Nat)(l:List Value)(g:Nat)(pre post:List Value):Prop:=
 l.length=n*size∧(∃cap,v= .slice (some ⟨g,pre.length,none⟩) n cap∧n≤cap∧cap≤maxLen)∧w.heap[g]?=some (.cells (pre++l++post).toArray e (0,0))
@[irreducible] def Ent.wn (v:Value) (e:TypeId) (size n:Nat) (l:List Value) (g:Nat) (pre post:List Value):Ent where
 fp k:=k=g
 ok w:=winOk w v e size n l g pre post
 loc h k:=⟨k.1,k.2.1,(h g rfl).trans k.2.2⟩
 lt h k e:=by subst e;exact (Array.getElem?_eq_some_iff.1 h.2.2).1
 nd h k e c:=by subst e;rw [h.2.2];simp
section
variable {v:Value}{e:TypeId}{size n g:Nat}{l pre post:List Value}{w:World}
theorem gS {k:Nat}:(Ent.wn v e size n l g pre post).fp k↔k=g:=by unfold Ent.wn;exact Iff.rfl
theorem eF:(Ent.wn v e size n l g pre post).ok w↔winOk w v e size n l g pre post:=by unfold Ent.wn;exact Iff.rfl
theorem zlB (h:(Ent.wn v e size n l g pre post).ok w):OneC v:=by
 obtain ⟨_,⟨cap,rfl,_⟩,_⟩:=eF.1 h;exact inferInstance
theorem zlA (h:(Ent.wn v e size n l g pre post).ok w):n≤9223372036854775807:=by
 obtain ⟨_,⟨cap,rfl,h1,h2⟩,_⟩:=eF.1 h;unfold maxLen at h2;omega
theorem winOk.cell (h:winOk w v e size n l g pre post)(p:Nat)(hp:p<l.length):w.cell? ⟨g,pre.length+p,none⟩=l[p]?:=by
 rw [ze7 h.2.2,List.append_assoc,List.getElem?_append_right a7,Nat.add_sub_cancel_left,List.getElem?_append_left hp]
end
section
variable {Fe:Fence}[hFe:Calm Fe]{P:Program}{n:Nat}{B D:World}{M S0:Nat→Prop}{Q:Exit→Act→World→Prop}{fs:eb}{hs:HS}{ops:Array Oper}{o:Oper}{sv val:Value}
theorem gW (j:Nat){t e k i m g:Nat}{z:Int}{q:IntKind}{l pre post:List Value}{x y:Operand}{e':TypeId}[hT:TySl P t e k](ho:o.op= .indexAddr t x y)(hx:ev fs x=some sv)(hy:ev fs y=some (.int q z))(hj:hs[j]?=some (.wn sv e' k m l g pre post))(hz:z=(i:Int))(hi:i<m):Yv P n B M fs hs o (jl sv (i*k)):=fun a w ha hw=>by
 obtain ⟨_,⟨cap,rfl,_⟩,_⟩:=eF.1 (hw.get hj);rw [lr];exact iX (B:=B) (M:=M) (hs:=hs) ho hx hy hz hi a w ha hw
theorem jI (j:Nat){t e:TypeId}[hT:TyS P t]{p size k g:Nat}{l pre post:List Value}{x:Operand}(ho:o.op= .load t x)(hx:ev fs x=some (jl sv p))(hj:hs[j]?=some (.wn sv e size k l g pre post))(hk:0<k)(hv:l[p]?=some val):Yv P n B M fs hs o val:=fun a w ha hw=>by
 have hok:=eF.1 (hw.get hj);obtain ⟨cap,hsv,_⟩:=hok.2.1;subst hsv;rw [lr] at hx;refine zfw ho (ha.ev hx) ?_;rw [hok.cell p (List.getElem?_eq_some_iff.1 hv).1,hv]
theorem lh (j:Nat){t e:TypeId}[hT:TyS P t]{x y:Operand}{p k k' size g:Nat}{l l' pre post:List Value}{hs':HS}[hv:OneC val](ho:o.op= .store t x y)(hx:ev fs x=some (jl sv p))(hy:ev fs y=some val)
  (hj:hs[j]?=some (.wn sv e size k l g pre post)) (hk:0<k) (hp:p<l.length) (hl:l.set p val=l') (hkk:k'=k) [hH:SetAt hs j (.wn sv e size k' l' g pre post) hs']:Ew P n B M fs hs o (fun v hs''=>v=undef∧hs''=hs'):=jD fun a w ha hw=>by
 subst hkk hl;have hok:=eF.1 (hw.get hj);obtain ⟨cap,hsv,hc⟩:=hok.2.1;subst hsv;rw [lr] at hx;have h:=zeG (P:=P) (w:=w) hT.h ho (ha.ev hx) (ha.ev hy) (m:=[val]) hv.cells rfl (by simpa using hv.h) hok.2.2 cM;refine ⟨_,_,h,zdS hok.2.2 _,?_,rfl,rfl⟩;rw [show [val].length=1 from rfl,zey _ (pre.length+p) val cM,←hH.h];refine hw.updAt hj (zeR w g _) (fun q _ hq=>gS.2 hq) (eF.2 ⟨by rw [List.length_set];exact hok.1,⟨cap,rfl,hc⟩,?_⟩) (fun q hq=> .inl (gS.2 (gS.1 hq)));rw [setRow_heap w g _ _ e _ hok.2.2]
 congr 3
 rw [List.append_assoc,List.append_assoc,List.set_append_right _ _ a7,Nat.add_sub_cancel_left,List.set_append_left _ _ hp]
theorem Yv.cJ (j:Nat){t e e':TypeId}{k size l i m:Nat}{z z':Int}{q q':IntKind}{cs:List Value}{x y y':Operand}[hT:TySl P t e k](ho:o.op= .slice t x (some y) (some y') none)(hx:ev fs x=some sv)(hy:ev fs y=some (.int q z))(hy':ev fs y'=some (.int q' z'))(hj:hs[j]?=some (.sl sv e' size m cs))(hz:z=(l:Int))(hl:l≤i)(hz':z'=(i:Int))(hi:i≤m):Yv P n B M fs hs o (gd sv l i k):=fun a w ha hw=>by
 subst hz hz'
 obtain ⟨A,cap,rfl,hc⟩:∃A cap,sv= .slice A m cap∧m≤cap:=by
  rcases (dH.1 (hw.get hj)).2 with ⟨rfl,h0⟩|⟨g,cap,cur,rfl,hb,hg,hnc,_⟩
  ·exact ⟨none,0,by rw [h0],by omega⟩
  ·exact ⟨_,cap,rfl,hnc⟩
 unfold execOp;have:=run_slice_lh (P:=P) w t A m cap hT.elem.1 q q' (l:Int) (i:Int) a7 a7 a7;simp [ho,ha.ev hx,ha.ev hy,ha.ev hy',run_sliceAt_slice w t _ _ _ _ hT.elem.1,this,hT.elem.2,gd]
theorem Yv.cH {x y z:Operand}{ts:Array TypeId}{k:IntKind}{a b c:Int}(ho:o.op= .call { callee:= .builtin .min,args:= #[x,y,z],argTypes:=ts })(hx:ev fs x=some (.int k a))(hy:ev fs y=some (.int k b))(hz:ev fs z=some (.int k c)):Yv P n B M fs hs o (.int k (min (min a b) c)):=fun act w ha _=>by
 (have e:∀p q:Int,(if q<p then q else p)=min p q:=fun p q=>by split <;> omega);unfold execOp;simp [ho,ha.ev hx,ha.ev hy,ha.ev hz,resolve,invoke,builtin,Builtin.min_,Builtin.min2,←e]
end
@[irreducible] def ip {α β:Type} (e:α) (k:α→β):β:=k e
theorem zdg {α β:Type}{e:α}{k:α→β}{r:β}(h:ip e k=r):∃v,e=v∧k v=r:=⟨e,rfl,by unfold ip at h;exact h⟩
theorem zlG {w:World}{v:Value}{e:TypeId}{k a m:Nat}{l:List Value}(h:(Ent.sl v e 1 k l).ok w)(ham:a+m≤k)(hm:0<m):
  ∃g pre post,(∀q,(Ent.sl v e 1 k l).fp q↔q=g)∧(Ent.wn (gd v a (a+m) 1) e 1 m ((l.drop a).take m) g pre post).ok w∧
   ∀(w':World) (l2:List Value),(Ent.wn (gd v a (a+m) 1) e 1 m l2 g pre post).ok w'→(Ent.sl v e 1 k (l.take a++l2++l.drop (a+m))).ok w':=by
 have ho:=dH.1 h;rcases ho.2 with ⟨rfl,h0⟩|⟨g,cap,cur,rfl,hb,hg,hnc,hcm,hcs,htake⟩
 ·omega
 ·have hl:=ho.1;rw [Nat.mul_one] at hl htake; (have hcl:k≤cur.toList.length:=by rw [←hl,←htake];simp;omega); (have hcur:cur.toList=l++cur.toList.drop k:=by rw [←htake];exact (List.take_append_drop k _).symm)
  have hsplit:l=l.take a++(l.drop a).take m++l.drop (a+m):=by
   rw [List.append_assoc,←List.drop_drop,List.take_append_drop,List.take_append_drop]
  (have hal:(l.take a).length=a:=by rw [List.length_take];omega);refine ⟨g,l.take a,l.drop (a+m)++cur.toList.drop k,fun q=>?_,eF.2 ⟨by rw [List.length_take,List.length_drop];omega,⟨cap - a,by unfold gd sliced;simp [hal,show ¬cap=a by omega,kG],by omega,by omega⟩,?_⟩,fun w' l2 h2=>?_⟩
  ·constructor
   ·intro hq;exact (Option.some.inj (dO.1 hq)).symm
   ·intro hq;exact dO.2 (by rw [hq];rfl)
  ·rw [hg]
   congr 2
   apply Array.ext'
   show cur.toList=_
   rw [←List.append_assoc,←hsplit];exact hcur
  ·have h3:=eF.1 h2;have hl2:=h3.1;rw [Nat.mul_one] at hl2
   have hlen:(l.take a++l2++l.drop (a+m)).length=k:=by
    rw [List.length_append,List.length_append,hal,hl2,List.length_drop];omega
   refine dH.2 ⟨by rw [hlen,Nat.mul_one], .inr ⟨g,cap,_,rfl,hb,h3.2.2,hnc,hcm,?_,?_⟩⟩
   ·rw [←hcs];have:cur.size=cur.toList.length:=rfl;simp only [List.size_toArray,List.length_append,List.length_take,List.length_drop];omega
   ·rw [List.toList_toArray,Nat.mul_one,←List.append_assoc,List.take_left' hlen]
section
variable {P:Program}{n:Nat}{B D:World}{M:Nat→Prop}{fs:eb}{hs:HS}{o:Oper}{v:Value}
theorem Yv.bu {op:BinOp}{x y:Operand}{t u:TypeId}{a b:Value}(ho:o.op= .binOp op t x y u)(hx:ev fs x=some a)(hy:ev fs y=some b)(hr:∀w,(do eqGuard op t x y a b;binOp op t a b:Sem Value).run P w= .ok v w):Yv P n B M fs hs o v:=fun f w ha _=>by
 unfold execOp;simp only [ho,ha.ev hx,ha.ev hy];rw [Sem.run_bind,hr w]
 rfl
end
theorem Fx.hp {F:Frz}{w w':World}{es:HS}(hF:F.At w)(h:Hp w (fun _=>False) es w'):∃G:Frz,Fx F w G w'∧G.w=w'∧∀e∈es,∀g,e.fp g→Cb w' g→G.S g:=by
 have hb:=h.isBelow;have hF':=hF.below hb;refine ⟨⟨fun g=>F.S g∨((∃ e∈es,e.fp g)∧Cb w' g),w',fun g hg=>hg.elim (fun h=>hF'.cb h) (fun h=>h.2)⟩,⟨fun g hg=>⟨.inl hg,hF' g hg⟩,fun g _=>rfl,fun g hg=>?_,hb⟩,rfl,fun e he g hg hc=> .inr ⟨⟨e,he,hg⟩,hc⟩⟩;rcases hg with h1|⟨⟨e,he,hg⟩,_⟩
 ·exact .inl h1
 ·exact .inr ((h.new e he g hg).elim (fun h=>h.elim) id)
theorem SlK.ent {G:Frz}{w':World}{v:Value}{e:TypeId}{size k:Nat}{l:List Value}(hok:(Ent.sl v e size k l).ok w')(hw:G.w=w')(hS:∀g,(Ent.sl v e size k l).fp g→Cb w' g→G.S g):SlK G v size k l:=by
 have ho:=dH.1 hok;rcases ho.2 with ⟨rfl,h0⟩|⟨g,cap,cur,rfl,hb,hg,hnc,hcm,hcs,htake⟩
 ·subst h0;exact ⟨ho.1,none,0,rfl,Nat.le_refl _,by omega,fun h=>by omega⟩
 ·refine ⟨ho.1,_,cap,rfl,hnc,by unfold maxLen at hcm;omega,fun _=>⟨g,rfl,hS g (dO.2 rfl) ⟨_,_,_,hg⟩,fun q hq=>?_⟩⟩;rw [hw,Nat.zero_add,World.ownsRow.cellAt ho q (by rw [←ho.1];exact hq)]
section
variable {P:Program}{n:Nat}{B D:World}{M:Nat→Prop}{fs:eb}{hs:HS}{o:Oper}{v:Value}
theorem K.slNil {Q:Exit→Act→World→Prop}{e:Exit}(t:TypeId)(size:Nat)(h:K n B D M Q e fs (.sl (.slice none 0 0) t size 0 [] :: hs)):K n B D M Q e fs hs:=⟨fun a w ha hw hm=>h.out a w ha (hw.slNil t size) hm⟩
theorem Yv.cp {x y:Operand}{t u:TypeId}{a b:BitVec 64}(ho:o.op= .binOp .rem t x y u)(hx:ev fs x=some (U a))(hy:ev fs y=some (U b))(hb:¬b=0#64):Yv P n B M fs hs o (U (a % b)):=
 (Yv.remK (k:= .u64) (a:=(a.toNat:Int)) (b:=(b.toNat:Int)) ho hx hy (fun h=>hb (BitVec.eq_of_toNat_eq (Int.ofNat.inj h)))).eq (by
  show Value.int .u64 ((a.toNat:Int).tmod (b.toNat:Int))= .int .u64 (((a % b).toNat:Nat):Int)
  rw [Int.tmod_eq_emod_of_nonneg (Int.natCast_nonneg _),BitVec.toNat_umod];rfl)
def zkY (v:Value):Prop:=∃A m c,v= .slice (some A) m c
theorem zdH (x:Ent)(a b:List Ent):(x :: a)++b=x :: (a++b):=rfl
theorem zeI (a:List Ent):[]++a=a:=rfl
def NilI {α:Type}(v:Value)(l:List α):Prop:=(l=[]∧v= .slice none 0 0)∨(l≠[]∧zkY v)
theorem NilI.nn {α:Type}{v:Value}{l:List α}(h:NilI v l)(hl:l≠[]):zkY v:=h.elim (fun x=>absurd x.1 hl) (fun x=>x.2)
theorem NilI.nil {α:Type}:NilI (.slice none 0 0) ([]:List α):= .inl ⟨rfl,rfl⟩
theorem Ew.bJ {sv:Value}(j:Nat){t e:TypeId}{q:Nat}[hT:TyA P t q]{x y:Operand}{p k k' size:Nat}{l m l':List Value}{hs':HS}[hv:OneCs m](ho:o.op= .store t x y)(hx:ev fs x=some (jl sv p))(hy:ev fs y=some (.agg m.toArray))
  (hj:hs[j]?=some (.sl sv e size k l)) (hk:0<k) (hq:m.length=q) (hp:p+m.length≤l.length) (hl:l.take p++m++l.drop (p+m.length)=l') (hkk:k'=k) [hH:SetAt hs j (.sl sv e size k' l') hs']:Ew P n B M fs hs o (fun v hs''=>v=undef∧hs''=hs'):=by
 subst hkk;exact Ew.bP j ho hx hy hj hk hq hp hl
end
theorem zgp {c l:List Value}{n j q:Nat}(h:(c.drop 0).take n=l)(hj:j+q≤n):(c.drop j).take q=(l.drop j).take q:=by
 subst h;rw [List.drop_zero,List.drop_take,List.take_take,Nat.min_eq_left a7]
section
variable {P:Program}{n:Nat}{B D:World}{M S0:Nat→Prop}{fs:eb}{hs:HS}{o:Oper}{v:Value}
theorem Yv.len8 {t:TypeId}{y:Operand}{k:IntKind}{i:Int}(hU:P.underlying t=some .string)(ho:o.op= .index t (.const (.string Lib.len8tab)) y)(hy:ev fs y=some (.int k i))(h:0≤i∧i≤255):Yv P n B M fs hs o (.int .u8 (Lib.len8 i)):=fun f w ha _=>by
 have h1:=Lib.run_index_len8tab (P:=P) w t k i hU h.1 h.2;have hx0:ev fs (.const (.string Lib.len8tab))=some (.string Lib.len8tab):=rfl;generalize Lib.len8tab=T at *;unfold execOp;simp [ho,ha.ev hy,ha.ev hx0];rw [h1];rfl
theorem gY {x:Operand}{t:TypeId}{a:Int}(ho:o.op= .unOp .neg t x:=by exact rfl)(hx:ev fs x=some (.int .i64 a):=by exact rfl):Yv P n B M fs hs o (.int .i64 (wI (0 - a))):=fun f w ha _=>by
 unfold execOp;simp [ho,ha.ev hx,Op.unary,Op.intArith]
def quoK (k:IntKind)(a b:Int):Int:=k.wrap (a.tdiv b)
theorem Yv.quoK {x y:Operand}{t u:TypeId}{k:IntKind}{a b:Int}(ho:o.op= .binOp .quo t x y u)(hx:ev fs x=some (.int k a))(hy:ev fs y=some (.int k b))(hb:b≠0):Yv P n B M fs hs o (.int k (quoK k a b)):=fun f w ha _=>by
 unfold execOp;simp [ho,ha.ev hx,ha.ev hy,eqGuard,binOp,Op.intDiv,hb,Go.Proofs.YtmnjbhkcfghebaaGreatDoor.quoK]
theorem Yv.cq {x y:Operand}{t u:TypeId}{a b:BitVec 64}(ho:o.op= .binOp .quo t x y u)(hx:ev fs x=some (U a))(hy:ev fs y=some (U b))(hb:¬b=0#64):Yv P n B M fs hs o (U (a / b)):=
 (Yv.quoK (k:= .u64) (a:=(a.toNat:Int)) (b:=(b.toNat:Int)) ho hx hy (fun h=>hb (BitVec.eq_of_toNat_eq (Int.ofNat.inj h)))).eq (by
  unfold Go.Proofs.YtmnjbhkcfghebaaGreatDoor.quoK;rw [zjH]
  show Value.int .u64 _= .int .u64 (((a / b).toNat:Nat):Int)
  rw [show (a.toNat:Int).tdiv (b.toNat:Int)=((a.toNat / b.toNat:Nat):Int) from rfl,BitVec.ofInt_natCast,BitVec.toNat_udiv,BitVec.toNat_ofNat,Nat.mod_eq_of_lt (Nat.lt_of_le_of_lt (Nat.div_le_self _ _) a.isLt)])
theorem K.bN {Q:Exit→Act→World→Prop}{x:Exit}{hs':HS}(h:hs=hs')(k:K n B D M Q x fs hs'):K n B D M Q x fs hs:=h▸k
theorem K.bx (i j:Nat){fn:Func}{R:Ending→World→Prop}{t u t2 u2:TypeId}{s r g k s2 g2 k2:Nat}{l l2:List Value}{x:Value}[hT:TyA P t k][hT2:TyA P t2 k2](hr:fn.results= #[.cell s t, .cell s2 t2, .tmp r])(hv:eJ fs s=some (.pointer (some ⟨g,0,none⟩)))(hv2:eJ fs s2=some (.pointer (some ⟨g2,0,none⟩)))(hx:eJ fs r=some x)(hi:hs[i]?=some (.row g u l))(hj:hs[j]?=some (.row g2 u2 l2))(hl:l.length=k)(hl2:l2.length=k2)(h:∀w,Hp B M hs w→R (.returned (.tuple #[.agg l.toArray, .agg l2.toArray,x])) w):K n B D M (kw P fn R) .ret fs hs:=
 (jW (fun a w ha hw=>by
  have h1:=zdJ (P:=P) (t:=t) (dC.1 (hw.get hi)) hl;have h2:=zdJ (P:=P) (t:=t2) (dC.1 (hw.get hj)) hl2
  simp [results,hr,ha.get s _ hv,ha.get s2 _ hv2,ha.get r _ hx,asAddr,h1,h2]) h).1
end
end Go.Proofs.YtmnjbhkcfghebaaGreatDoor
