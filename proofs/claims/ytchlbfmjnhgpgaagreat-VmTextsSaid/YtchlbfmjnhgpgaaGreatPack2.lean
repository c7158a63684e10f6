/- This seat's tables as rewriting rules; printed out of the loaded program. -/
import Derived.Test.YtchlbfmjnhgpgaaGreatPack1
namespace Go.Proofs.YtchlbfmjnhgpgaaGreat.Idl
open Go
set_option maxRecDepth 100000
@[simp] theorem und2:J.und 2=some (.int .i64):=id rfl
@[simp] theorem size2:J.size 2=some 1:=id rfl
@[simp] theorem agg2:isAggT J 2=some false:=id rfl
@[simp] theorem und3:J.und 3=some (.int .i64):=id rfl
@[simp] theorem size3:J.size 3=some 1:=id rfl
@[simp] theorem bytes3:J.bytes 3=some 8:=id rfl
@[simp] theorem zero3:J.zero 3=some (.int .i64 0):=id rfl
@[simp] theorem agg3:isAggT J 3=some false:=id rfl
@[simp] theorem und4:J.und 4=some .bool:=id rfl
@[simp] theorem size4:J.size 4=some 1:=id rfl
@[simp] theorem agg4:isAggT J 4=some false:=id rfl
@[simp] theorem und5:J.und 5=some (.int .u8):=id rfl
@[simp] theorem size5:J.size 5=some 1:=id rfl
@[simp] theorem bytes5:J.bytes 5=some 1:=id rfl
@[simp] theorem zero5:J.zero 5=some (.int .u8 0):=id rfl
@[simp] theorem agg5:isAggT J 5=some false:=id rfl
@[simp] theorem und9:J.und 9=some .string:=id rfl
@[simp] theorem size9:J.size 9=some 1:=id rfl
@[simp] theorem agg9:isAggT J 9=some false:=id rfl
@[simp] theorem und22:J.und 22=some (.slice 88):=id rfl
@[simp] theorem size22:J.size 22=some 1:=id rfl
@[simp] theorem agg22:isAggT J 22=some false:=id rfl
@[simp] theorem und23:J.und 23=some (.slice 90):=id rfl
@[simp] theorem size23:J.size 23=some 1:=id rfl
@[simp] theorem agg23:isAggT J 23=some false:=id rfl
@[simp] theorem und24:J.und 24=some (.slice 9):=id rfl
@[simp] theorem size24:J.size 24=some 1:=id rfl
@[simp] theorem agg24:isAggT J 24=some false:=id rfl
@[simp] theorem und25:J.und 25=some (.slice 59):=id rfl
@[simp] theorem size25:J.size 25=some 1:=id rfl
@[simp] theorem agg25:isAggT J 25=some false:=id rfl
@[simp] theorem size27:J.size 27=some 7:=id rfl
@[simp] theorem zero27:J.zero 27=some (.agg #[(.slice none 0 0),(.slice none 0 0),(.slice none 0 0),(.slice none 0 0),(.slice none 0 0),(.int .i64 0),(.int .i64 0)]):=id rfl
@[simp] theorem agg27:isAggT J 27=some true:=id rfl
@[simp] theorem fa27_0 (a:Addr):ifieldAddr J 27 (.pointer (some a)) 0=some (.pointer (some (a.add 0))):=id rfl
@[simp] theorem fa27_1 (a:Addr):ifieldAddr J 27 (.pointer (some a)) 1=some (.pointer (some (a.add 1))):=id rfl
@[simp] theorem fa27_2 (a:Addr):ifieldAddr J 27 (.pointer (some a)) 2=some (.pointer (some (a.add 2))):=id rfl
@[simp] theorem fa27_3 (a:Addr):ifieldAddr J 27 (.pointer (some a)) 3=some (.pointer (some (a.add 3))):=id rfl
@[simp] theorem fa27_4 (a:Addr):ifieldAddr J 27 (.pointer (some a)) 4=some (.pointer (some (a.add 4))):=id rfl
@[simp] theorem fa27_5 (a:Addr):ifieldAddr J 27 (.pointer (some a)) 5=some (.pointer (some (a.add 5))):=id rfl
@[simp] theorem und28:J.und 28=some (.slice 3):=id rfl
@[simp] theorem size28:J.size 28=some 1:=id rfl
@[simp] theorem agg28:isAggT J 28=some false:=id rfl
@[simp] theorem size30:J.size 30=some 9:=id rfl
@[simp] theorem bytes30:J.bytes 30=some 120:=id rfl
@[simp] theorem zero30:J.zero 30=some (.agg #[(.int .i64 0),(.int .i64 0),(.int .i64 0),(.int .i64 0),(.int .i64 0),(.int .i64 0),(.slice none 0 0),(.slice none 0 0),(.slice none 0 0)]):=id rfl
@[simp] theorem agg30:isAggT J 30=some true:=id rfl
@[simp] theorem fa30_0 (a:Addr):ifieldAddr J 30 (.pointer (some a)) 0=some (.pointer (some (a.add 0))):=id rfl
@[simp] theorem fa30_1 (a:Addr):ifieldAddr J 30 (.pointer (some a)) 1=some (.pointer (some (a.add 1))):=id rfl
@[simp] theorem fa30_2 (a:Addr):ifieldAddr J 30 (.pointer (some a)) 2=some (.pointer (some (a.add 2))):=id rfl
@[simp] theorem fa30_3 (a:Addr):ifieldAddr J 30 (.pointer (some a)) 3=some (.pointer (some (a.add 3))):=id rfl
@[simp] theorem fa30_4 (a:Addr):ifieldAddr J 30 (.pointer (some a)) 4=some (.pointer (some (a.add 4))):=id rfl
@[simp] theorem fa30_5 (a:Addr):ifieldAddr J 30 (.pointer (some a)) 5=some (.pointer (some (a.add 5))):=id rfl
@[simp] theorem fa30_6 (a:Addr):ifieldAddr J 30 (.pointer (some a)) 6=some (.pointer (some (a.add 6))):=id rfl
@[simp] theorem fa30_7 (a:Addr):ifieldAddr J 30 (.pointer (some a)) 7=some (.pointer (some (a.add 7))):=id rfl
@[simp] theorem fa30_8 (a:Addr):ifieldAddr J 30 (.pointer (some a)) 8=some (.pointer (some (a.add 8))):=id rfl
@[simp] theorem und34:J.und 34=some (.slice 5):=id rfl
@[simp] theorem size34:J.size 34=some 1:=id rfl
@[simp] theorem agg34:isAggT J 34=some false:=id rfl
@[simp] theorem und35:J.und 35=some (.slice 4):=id rfl
@[simp] theorem agg35:isAggT J 35=some false:=id rfl
@[simp] theorem size37:J.size 37=some 5:=id rfl
@[simp] theorem agg37:isAggT J 37=some true:=id rfl
@[simp] theorem fa37_0 (a:Addr):ifieldAddr J 37 (.pointer (some a)) 0=some (.pointer (some (a.add 0))):=id rfl
@[simp] theorem fa37_1 (a:Addr):ifieldAddr J 37 (.pointer (some a)) 1=some (.pointer (some (a.add 1))):=id rfl
@[simp] theorem fa37_2 (a:Addr):ifieldAddr J 37 (.pointer (some a)) 2=some (.pointer (some (a.add 2))):=id rfl
@[simp] theorem fa37_3 (a:Addr):ifieldAddr J 37 (.pointer (some a)) 3=some (.pointer (some (a.add 3))):=id rfl
@[simp] theorem fa37_4 (a:Addr):ifieldAddr J 37 (.pointer (some a)) 4=some (.pointer (some (a.add 4))):=id rfl
@[simp] theorem size44:J.size 44=some 5:=id rfl
@[simp] theorem zero44:J.zero 44=some (.agg #[(.int .i64 0),(.slice none 0 0),(.string ⟨#[]⟩),(.int .i64 0),(.int .i64 0)]):=id rfl
@[simp] theorem agg44:isAggT J 44=some true:=id rfl
@[simp] theorem fa44_0 (a:Addr):ifieldAddr J 44 (.pointer (some a)) 0=some (.pointer (some (a.add 0))):=id rfl
@[simp] theorem fa44_1 (a:Addr):ifieldAddr J 44 (.pointer (some a)) 1=some (.pointer (some (a.add 1))):=id rfl
@[simp] theorem fa44_2 (a:Addr):ifieldAddr J 44 (.pointer (some a)) 2=some (.pointer (some (a.add 2))):=id rfl
@[simp] theorem fa44_3 (a:Addr):ifieldAddr J 44 (.pointer (some a)) 3=some (.pointer (some (a.add 3))):=id rfl
@[simp] theorem fa44_4 (a:Addr):ifieldAddr J 44 (.pointer (some a)) 4=some (.pointer (some (a.add 4))):=id rfl
@[simp] theorem und54:J.und 54=some (.slice 30):=id rfl
@[simp] theorem size54:J.size 54=some 1:=id rfl
@[simp] theorem agg54:isAggT J 54=some false:=id rfl
@[simp] theorem size56:J.size 56=some 2:=id rfl
@[simp] theorem zero56:J.zero 56=some (.agg #[(.slice none 0 0),(.slice none 0 0)]):=id rfl
@[simp] theorem agg56:isAggT J 56=some true:=id rfl
@[simp] theorem fa56_0 (a:Addr):ifieldAddr J 56 (.pointer (some a)) 0=some (.pointer (some (a.add 0))):=id rfl
@[simp] theorem fa56_1 (a:Addr):ifieldAddr J 56 (.pointer (some a)) 1=some (.pointer (some (a.add 1))):=id rfl
@[simp] theorem und57:J.und 57=some (.slice 56):=id rfl
@[simp] theorem size57:J.size 57=some 1:=id rfl
@[simp] theorem agg57:isAggT J 57=some false:=id rfl
@[simp] theorem size59:J.size 59=some 4:=id rfl
@[simp] theorem zero59:J.zero 59=some (.agg #[(.slice none 0 0),(.int .i64 0),(.int .i64 0),(.slice none 0 0)]):=id rfl
@[simp] theorem agg59:isAggT J 59=some true:=id rfl
@[simp] theorem fa59_0 (a:Addr):ifieldAddr J 59 (.pointer (some a)) 0=some (.pointer (some (a.add 0))):=id rfl
@[simp] theorem fa59_2 (a:Addr):ifieldAddr J 59 (.pointer (some a)) 2=some (.pointer (some (a.add 2))):=id rfl
@[simp] theorem fa59_3 (a:Addr):ifieldAddr J 59 (.pointer (some a)) 3=some (.pointer (some (a.add 3))):=id rfl
@[simp] theorem und62:J.und 62=some (.int .u64):=id rfl
@[simp] theorem size62:J.size 62=some 1:=id rfl
@[simp] theorem bytes62:J.bytes 62=some 8:=id rfl
@[simp] theorem zero62:J.zero 62=some (.int .u64 0):=id rfl
@[simp] theorem agg62:isAggT J 62=some false:=id rfl
@[simp] theorem size79:J.size 79=some 1:=id rfl
@[simp] theorem zero79:J.zero 79=some (.pointer none):=id rfl
@[simp] theorem agg79:isAggT J 79=some false:=id rfl
@[simp] theorem agg80:isAggT J 80=some false:=id rfl
@[simp] theorem und81:J.und 81=some (.pointer 171):=id rfl
@[simp] theorem size81:J.size 81=some 1:=id rfl
@[simp] theorem agg81:isAggT J 81=some false:=id rfl
@[simp] theorem und82:J.und 82=some (.slice 131):=id rfl
@[simp] theorem size82:J.size 82=some 1:=id rfl
@[simp] theorem agg82:isAggT J 82=some false:=id rfl
@[simp] theorem size84:J.size 84=some 16:=id rfl
@[simp] theorem fa84_0 (a:Addr):ifieldAddr J 84 (.pointer (some a)) 0=some (.pointer (some (a.add 0))):=id rfl
@[simp] theorem fa84_1 (a:Addr):ifieldAddr J 84 (.pointer (some a)) 1=some (.pointer (some (a.add 1))):=id rfl
@[simp] theorem fa84_2 (a:Addr):ifieldAddr J 84 (.pointer (some a)) 2=some (.pointer (some (a.add 6))):=id rfl
@[simp] theorem fa84_3 (a:Addr):ifieldAddr J 84 (.pointer (some a)) 3=some (.pointer (some (a.add 7))):=id rfl
@[simp] theorem fa84_4 (a:Addr):ifieldAddr J 84 (.pointer (some a)) 4=some (.pointer (some (a.add 8))):=id rfl
@[simp] theorem fa84_5 (a:Addr):ifieldAddr J 84 (.pointer (some a)) 5=some (.pointer (some (a.add 9))):=id rfl
@[simp] theorem fa84_6 (a:Addr):ifieldAddr J 84 (.pointer (some a)) 6=some (.pointer (some (a.add 10))):=id rfl
@[simp] theorem fa84_7 (a:Addr):ifieldAddr J 84 (.pointer (some a)) 7=some (.pointer (some (a.add 11))):=id rfl
@[simp] theorem size86:J.size 86=some 1:=id rfl
@[simp] theorem zero86:J.zero 86=some (.agg #[(.int .i64 0)]):=id rfl
@[simp] theorem fa86_0 (a:Addr):ifieldAddr J 86 (.pointer (some a)) 0=some (.pointer (some (a.add 0))):=id rfl
@[simp] theorem size88:J.size 88=some 2:=id rfl
@[simp] theorem zero88:J.zero 88=some (.agg #[(.bool false),(.slice none 0 0)]):=id rfl
@[simp] theorem agg88:isAggT J 88=some true:=id rfl
@[simp] theorem fa88_1 (a:Addr):ifieldAddr J 88 (.pointer (some a)) 1=some (.pointer (some (a.add 1))):=id rfl
@[simp] theorem size90:J.size 90=some 3:=id rfl
@[simp] theorem bytes90:J.bytes 90=some 48:=id rfl
@[simp] theorem zero90:J.zero 90=some (.agg #[(.int .i64 0),(.slice none 0 0),(.string ⟨#[]⟩)]):=id rfl
@[simp] theorem agg90:isAggT J 90=some true:=id rfl
@[simp] theorem fa90_0 (a:Addr):ifieldAddr J 90 (.pointer (some a)) 0=some (.pointer (some (a.add 0))):=id rfl
@[simp] theorem fa90_1 (a:Addr):ifieldAddr J 90 (.pointer (some a)) 1=some (.pointer (some (a.add 1))):=id rfl
@[simp] theorem fa90_2 (a:Addr):ifieldAddr J 90 (.pointer (some a)) 2=some (.pointer (some (a.add 2))):=id rfl
@[simp] theorem und125:J.und 125=some (.slice 127):=id rfl
@[simp] theorem agg125:isAggT J 125=some false:=id rfl
@[simp] theorem size127:J.size 127=some 2:=id rfl
@[simp] theorem bytes127:J.bytes 127=some 16:=id rfl
@[simp] theorem zero127:J.zero 127=some (.agg #[(.int .i64 0),(.int .i64 0)]):=id rfl
@[simp] theorem agg127:isAggT J 127=some true:=id rfl
@[simp] theorem fa127_0 (a:Addr):ifieldAddr J 127 (.pointer (some a)) 0=some (.pointer (some (a.add 0))):=id rfl
@[simp] theorem fa127_1 (a:Addr):ifieldAddr J 127 (.pointer (some a)) 1=some (.pointer (some (a.add 1))):=id rfl
@[simp] theorem size131:J.size 131=some 1:=id rfl
@[simp] theorem bytes131:J.bytes 131=some 8:=id rfl
@[simp] theorem zero131:J.zero 131=some (.pointer none):=id rfl
@[simp] theorem agg131:isAggT J 131=some false:=id rfl
@[simp] theorem agg133:isAggT J 133=some false:=id rfl
@[simp] theorem fa135_0 (a:Addr):ifieldAddr J 135 (.pointer (some a)) 0=some (.pointer (some (a.add 0))):=id rfl
@[simp] theorem fa135_1 (a:Addr):ifieldAddr J 135 (.pointer (some a)) 1=some (.pointer (some (a.add 1))):=id rfl
@[simp] theorem fa135_2 (a:Addr):ifieldAddr J 135 (.pointer (some a)) 2=some (.pointer (some (a.add 2))):=id rfl
@[simp] theorem und136:J.und 136=some (.slice 62):=id rfl
@[simp] theorem size136:J.size 136=some 1:=id rfl
@[simp] theorem agg136:isAggT J 136=some false:=id rfl
@[simp] theorem size138:J.size 138=some 4:=id rfl
@[simp] theorem fa138_0 (a:Addr):ifieldAddr J 138 (.pointer (some a)) 0=some (.pointer (some (a.add 0))):=id rfl
@[simp] theorem fa138_1 (a:Addr):ifieldAddr J 138 (.pointer (some a)) 1=some (.pointer (some (a.add 3))):=id rfl
@[simp] theorem size171:J.size 171=some 4:=id rfl
@[simp] theorem fa171_0 (a:Addr):ifieldAddr J 171 (.pointer (some a)) 0=some (.pointer (some (a.add 0))):=id rfl
@[simp] theorem fa171_1 (a:Addr):ifieldAddr J 171 (.pointer (some a)) 1=some (.pointer (some (a.add 1))):=id rfl
@[simp] theorem fa171_2 (a:Addr):ifieldAddr J 171 (.pointer (some a)) 2=some (.pointer (some (a.add 2))):=id rfl
@[simp] theorem fa171_3 (a:Addr):ifieldAddr J 171 (.pointer (some a)) 3=some (.pointer (some (a.add 3))):=id rfl
@[simp] theorem und193:J.und 193=some (.pointer 3):=id rfl
@[simp] theorem und246:J.und 246=some (.slice 22):=id rfl
@[simp] theorem und249:J.und 249=some (.slice 23):=id rfl
@[simp] theorem und252:J.und 252=some (.slice 24):=id rfl
@[simp] theorem und255:J.und 255=some (.slice 25):=id rfl
@[simp] theorem und260:J.und 260=some (.slice 28):=id rfl
@[simp] theorem und262:J.und 262=some (.slice 57):=id rfl
@[simp] theorem size290:J.size 290=some 1:=id rfl
@[simp] theorem zero290:J.zero 290=some (.pointer none):=id rfl
@[simp] theorem agg290:isAggT J 290=some false:=id rfl
@[simp] theorem size294:J.size 294=some 3:=id rfl
@[simp] theorem fa294_0 (a:Addr):ifieldAddr J 294 (.pointer (some a)) 0=some (.pointer (some (a.add 0))):=id rfl
@[simp] theorem fa294_1 (a:Addr):ifieldAddr J 294 (.pointer (some a)) 1=some (.pointer (some (a.add 1))):=id rfl
@[simp] theorem fa294_2 (a:Addr):ifieldAddr J 294 (.pointer (some a)) 2=some (.pointer (some (a.add 2))):=id rfl
@[simp] theorem hb3:hasBody J 3=true:=id rfl
@[simp] theorem hb18:hasBody J 18=true:=id rfl
@[simp] theorem hb19:hasBody J 19=true:=id rfl
@[simp] theorem hb22:hasBody J 22=true:=id rfl
@[simp] theorem hb23:hasBody J 23=true:=id rfl
@[simp] theorem hb24:hasBody J 24=true:=id rfl
@[simp] theorem hb25:hasBody J 25=true:=id rfl
@[simp] theorem hb26:hasBody J 26=true:=id rfl
@[simp] theorem hb27:hasBody J 27=true:=id rfl
@[simp] theorem hb28:hasBody J 28=true:=id rfl
@[simp] theorem hb29:hasBody J 29=true:=id rfl
@[simp] theorem hb35:hasBody J 35=true:=id rfl
@[simp] theorem hb36:hasBody J 36=true:=id rfl
@[simp] theorem hb37:hasBody J 37=true:=id rfl
@[simp] theorem hb38:hasBody J 38=true:=id rfl
@[simp] theorem hb63:hasBody J 63=true:=id rfl
@[simp] theorem hb64:hasBody J 64=true:=id rfl
@[simp] theorem hb65:hasBody J 65=true:=id rfl
@[simp] theorem hb66:hasBody J 66=true:=id rfl
@[simp] theorem hb67:hasBody J 67=true:=id rfl
@[simp] theorem hb68:hasBody J 68=true:=id rfl
@[simp] theorem hb69:hasBody J 69=true:=id rfl
@[simp] theorem hb70:hasBody J 70=true:=id rfl
@[simp] theorem hb71:hasBody J 71=true:=id rfl
@[simp] theorem hb72:hasBody J 72=true:=id rfl
@[simp] theorem hb73:hasBody J 73=true:=id rfl
@[simp] theorem hb96:hasBody J 96=true:=id rfl
@[simp] theorem hb97:hasBody J 97=true:=id rfl
@[simp] theorem hb98:hasBody J 98=true:=id rfl
@[simp] theorem hb99:hasBody J 99=true:=id rfl
@[simp] theorem hb100:hasBody J 100=true:=id rfl
@[simp] theorem hb101:hasBody J 101=true:=id rfl
@[simp] theorem hb102:hasBody J 102=true:=id rfl
@[simp] theorem hb103:hasBody J 103=true:=id rfl
@[simp] theorem hb104:hasBody J 104=true:=id rfl
@[simp] theorem hb105:hasBody J 105=true:=id rfl
@[simp] theorem hb106:hasBody J 106=true:=id rfl
@[simp] theorem hb107:hasBody J 107=true:=id rfl
@[simp] theorem hb108:hasBody J 108=true:=id rfl
@[simp] theorem hb109:hasBody J 109=true:=id rfl
@[simp] theorem hb110:hasBody J 110=true:=id rfl
@[simp] theorem hb111:hasBody J 111=true:=id rfl
@[simp] theorem hb112:hasBody J 112=true:=id rfl
@[simp] theorem hb113:hasBody J 113=true:=id rfl
@[simp] theorem hb114:hasBody J 114=true:=id rfl
@[simp] theorem hb115:hasBody J 115=true:=id rfl
@[simp] theorem hb116:hasBody J 116=true:=id rfl
@[simp] theorem hb117:hasBody J 117=true:=id rfl
@[simp] theorem hb118:hasBody J 118=true:=id rfl
@[simp] theorem hb119:hasBody J 119=true:=id rfl
@[simp] theorem hb120:hasBody J 120=true:=id rfl
@[simp] theorem hb121:hasBody J 121=true:=id rfl
@[simp] theorem hb122:hasBody J 122=true:=id rfl
@[simp] theorem hb123:hasBody J 123=true:=id rfl
@[simp] theorem hb160:hasBody J 160=true:=id rfl
@[simp] theorem hb161:hasBody J 161=true:=id rfl
@[simp] theorem hb162:hasBody J 162=true:=id rfl
@[simp] theorem hb163:hasBody J 163=true:=id rfl
@[simp] theorem hb164:hasBody J 164=true:=id rfl
@[simp] theorem hb165:hasBody J 165=true:=id rfl
@[simp] theorem hb166:hasBody J 166=true:=id rfl
@[simp] theorem hb167:hasBody J 167=true:=id rfl
@[simp] theorem hb168:hasBody J 168=true:=id rfl
@[simp] theorem hb169:hasBody J 169=true:=id rfl
@[simp] theorem hb170:hasBody J 170=true:=id rfl
@[simp] theorem hb171:hasBody J 171=true:=id rfl
@[simp] theorem hb172:hasBody J 172=true:=id rfl
@[simp] theorem hb175:hasBody J 175=true:=id rfl
@[simp] theorem hb176:hasBody J 176=true:=id rfl
@[simp] theorem hb177:hasBody J 177=true:=id rfl
@[simp] theorem hb178:hasBody J 178=true:=id rfl
@[simp] theorem hb179:hasBody J 179=true:=id rfl
@[simp] theorem hb180:hasBody J 180=true:=id rfl
@[simp] theorem hb181:hasBody J 181=true:=id rfl
@[simp] theorem hb182:hasBody J 182=true:=id rfl
@[simp] theorem hb183:hasBody J 183=true:=id rfl
@[simp] theorem hb184:hasBody J 184=true:=id rfl
@[simp] theorem hb185:hasBody J 185=true:=id rfl
@[simp] theorem hb186:hasBody J 186=true:=id rfl
@[simp] theorem hb187:hasBody J 187=true:=id rfl
@[simp] theorem hb188:hasBody J 188=true:=id rfl
@[simp] theorem hb203:hasBody J 203=true:=id rfl
@[simp] theorem hb204:hasBody J 204=true:=id rfl
@[simp] theorem hb205:hasBody J 205=true:=id rfl
@[simp] theorem hb206:hasBody J 206=true:=id rfl
@[simp] theorem hb207:hasBody J 207=true:=id rfl
@[simp] theorem hb208:hasBody J 208=true:=id rfl
@[simp] theorem hb209:hasBody J 209=true:=id rfl
@[simp] theorem hb210:hasBody J 210=true:=id rfl
@[simp] theorem hb211:hasBody J 211=true:=id rfl
@[simp] theorem hb212:hasBody J 212=true:=id rfl
@[simp] theorem hb213:hasBody J 213=true:=id rfl
@[simp] theorem hb214:hasBody J 214=true:=id rfl
@[simp] theorem hb215:hasBody J 215=true:=id rfl
@[simp] theorem hb216:hasBody J 216=true:=id rfl
@[simp] theorem hb217:hasBody J 217=true:=id rfl
@[simp] theorem hb218:hasBody J 218=true:=id rfl
@[simp] theorem hb219:hasBody J 219=true:=id rfl
@[simp] theorem hb220:hasBody J 220=true:=id rfl
@[simp] theorem hb221:hasBody J 221=true:=id rfl
@[simp] theorem hb223:hasBody J 223=true:=id rfl
@[simp] theorem hb224:hasBody J 224=true:=id rfl
@[simp] theorem hb226:hasBody J 226=true:=id rfl
@[simp] theorem hb227:hasBody J 227=true:=id rfl
@[simp] theorem hb228:hasBody J 228=true:=id rfl
@[simp] theorem hb229:hasBody J 229=true:=id rfl
@[simp] theorem hb230:hasBody J 230=true:=id rfl
@[simp] theorem hb231:hasBody J 231=true:=id rfl
@[simp] theorem hb232:hasBody J 232=true:=id rfl
@[simp] theorem hb233:hasBody J 233=true:=id rfl
@[simp] theorem hb234:hasBody J 234=true:=id rfl
@[simp] theorem hb235:hasBody J 235=true:=id rfl
@[simp] theorem hb236:hasBody J 236=true:=id rfl
@[simp] theorem hb237:hasBody J 237=true:=id rfl
@[simp] theorem hb238:hasBody J 238=true:=id rfl
@[simp] theorem hb239:hasBody J 239=true:=id rfl
@[simp] theorem hb240:hasBody J 240=true:=id rfl
@[simp] theorem hb241:hasBody J 241=true:=id rfl
@[simp] theorem hb242:hasBody J 242=true:=id rfl
@[simp] theorem hb243:hasBody J 243=true:=id rfl
@[simp] theorem hb244:hasBody J 244=true:=id rfl
@[simp] theorem hb245:hasBody J 245=true:=id rfl
@[simp] theorem hb246:hasBody J 246=true:=id rfl
noncomputable section
def D11_14:List Oper:=regOf Tryz.f11 14
@[simp] def A11_14:List Ann:=[a0 (o 88 (.fieldAddr 44 (.tmp 8) 0) 0),a0 (o 89 (.load 3 (.tmp 88)) 3),a0 (o 90 (.binOp .eql 3 (.tmp 89) (xi 1) 3) 4),a0 (o 91 (.move (.tmp 90)) 4),a0 (og 92 (.fieldAddr 44 (.tmp 8) 1) 0 3 true),al (og 93 (.load 34 (.tmp 92)) 34 3 true) [1,2],al (og 94 (.convert 34 9 (.tmp 93)) 9 3 true) [1,2],a0 (og 95 (.move (.tmp 10)) 34 3 true),a0 (og 96 (.move (.tmp 0)) 9 3 true),a0 (og 97 (.move (.tmp 1)) 9 3 true),a0 (og 98 (.binOp .add 9 (.tmp 96) (.tmp 97) 9) 9 3 true),a0 (og 99 (.move (.tmp 2)) 2 3 true),a0 (og 100 (.index 9 (.tmp 98) (.tmp 99)) 5 3 true),ae (og 101 (.buildSlice 34 1 #[(0,.tmp 100)]) 34 3 true) true,ae (og 102 (.call ⟨.builtin .append,#[.tmp 95,.tmp 101],#[34,34]⟩) 34 3 true) true,a0 (og 103 (.convert 34 9 (.tmp 102)) 9 3 true),a0 (og 104 (.binOp .eql 9 (.tmp 94) (.tmp 103) 9) 4 3 true),a0 (o 105 (.pick (.tmp 91) (.tmp 104) (.const (.bool false))) 4),a0 (o 106 (.move (.tmp 105)) 4),a0 (og 107 (.fieldAddr 44 (.tmp 8) 4) 0 18 true),a0 (og 108 (.load 3 (.tmp 107)) 3 18 true),a0 (og 109 (.binOp .eql 3 (.tmp 108) (xi 3) 3) 4 18 true),a0 (o 110 (.pick (.tmp 106) (.tmp 109) (.const (.bool false))) 4),a0 (o 111 (.move (.tmp 110)) 4),ae (og 112 (.call ⟨.value (.func 18),#[],#[]⟩) 4 23 true) true,a0 (o 113 (.pick (.tmp 111) (.tmp 112) (.const (.bool false))) 4),a0 (o 6 (.assign (.tmp 113)) 4)]
def O11_14:List Oper:=A11_14.map (·.o)
@[simp] theorem g11_14_3:(O11_14[3]?).bind (·.dst)=some 91:=id rfl
@[simp] theorem g11_14_18:(O11_14[18]?).bind (·.dst)=some 106:=id rfl
@[simp] theorem g11_14_23:(O11_14[23]?).bind (·.dst)=some 111:=id rfl
@[simp] theorem r11_14 (T:Regs) (H:IH):run J okAll (.region 14 D11_14.toArray true) T H=annSel J okAll D11_14.toArray T H (eRun J (cal J okAll) O11_14.toArray A11_14 T H 0 []):=r_ann (by kernel_rfl) (by kernel_rfl) 14 T H
def C11:Code:=(.seq (.region 0 #[o 6 (.assign (.const (.bool false))) 4] false) (.seq (.seq (.region 1 #[o 11 (.move (.tmp 0)) 9,o 12 (.call ⟨.builtin .len,#[.tmp 11],#[9]⟩) 3,o 13 (.binOp .gtr 3 (.tmp 12) (xi 300) 3) 4,o 14 (.move (.tmp 13)) 4,og 15 (.move (.tmp 1)) 9 3 false,og 16 (.call ⟨.builtin .len,#[.tmp 15],#[9]⟩) 3 3 false,og 17 (.binOp .gtr 3 (.tmp 16) (xi 300) 3) 4 3 false,o 18 (.pick (.tmp 14) (.const (.bool true)) (.tmp 17)) 4] false) (.cond (.tmp 18) (.seq (.region 2 #[o 19 (.call ⟨.value (.func 18),#[],#[]⟩) 4,o 6 (.assign (.tmp 19)) 4] false) .ret) .skip)) (.seq (.region 3 #[o 20 (.move (.tmp 2)) 2,o 21 (.call ⟨.value (.func 23),#[.tmp 20],#[2]⟩) 2,o 2 (.assign (.tmp 21)) 2] false) (.seq (.region 4 #[o 22 (.build 30 #[(0,xi 2)]) 30,o 23 (.buildSlice 28 1 #[(0,xi 0)]) 28,o 24 (.build 30 #[(0,xi 2),(1,xi 1),(2,xi 1),(8,.tmp 23)]) 30,o 25 (.build 30 #[(0,xi 14),(1,xi 2),(3,xi 1)]) 30,o 26 (.build 30 #[(0,xi 16),(2,xi 2)]) 30,o 27 (.buildSlice 28 2 #[(0,xi 0),(1,xi 1)]) 28,o 28 (.build 30 #[(0,xi 13),(1,xi 3),(3,xi 1),(8,.tmp 27)]) 30,o 29 (.build 30 #[(0,xi 11),(1,xi 2),(2,xi 3)]) 30,o 30 (.build 30 #[(0,xi 16),(2,xi 2)]) 30,o 31 (.move (.tmp 2)) 2,o 32 (.build 30 #[(0,xi 1),(1,xi 2),(5,.tmp 31)]) 30,o 33 (.build 30 #[(0,xi 12),(1,xi 2),(2,xi 3),(3,xi 2)]) 30,o 34 (.build 30 #[(0,xi 16),(2,xi 2)]) 30,o 35 (.buildSlice 54 10 #[(0,.tmp 22),(1,.tmp 24),(2,.tmp 25),(3,.tmp 26),(4,.tmp 28),(5,.tmp 29),(6,.tmp 30),(7,.tmp 32),(8,.tmp 33),(9,.tmp 34)]) 54,o 7 (.assign (.tmp 35)) 54] false) (.seq (.region 5 #[o 36 (.move (.tmp 0)) 9,o 37 (.move (.tmp 1)) 9,o 38 (.buildSlice 24 2 #[(0,.tmp 36),(1,.tmp 37)]) 24,o 39 (.move (.tmp 7)) 54,o 40 (.call ⟨.value (.func 29),#[xi 4,.tmp 38,.tmp 39],#[3,24,54]⟩) 27,o 41 (.buildSlice 35 3 #[(0,.const (.bool true)),(1,.const (.bool true)),(2,.const (.bool true))]) 35,o 42 (.build 37 #[(1,xi 100),(2,xi 300),(3,xi 20),(4,.tmp 41)]) 37,o 43 (.call ⟨.value (.func 19),#[.tmp 40,.tmp 42],#[27,37]⟩) 44,o 8 (.alloc 44) 0,oz (.store 44 (.tmp 8) (.tmp 43)) 0] false) (.seq (.region 6 #[o 9 (.assign (.const (.int .u8 0))) 5] false) (.seq (.seq (.region 7 #[o 44 (.move (.tmp 0)) 9,o 45 (.move (.tmp 1)) 9,o 46 (.binOp .lss 9 (.tmp 44) (.tmp 45) 9) 4] false) (.cond (.tmp 46) (.region 8 #[o 9 (.assign (.const (.int .u8 255))) 5] false) (.seq (.region 9 #[o 47 (.move (.tmp 0)) 9,o 48 (.move (.tmp 1)) 9,o 49 (.binOp .gtr 9 (.tmp 47) (.tmp 48) 9) 4] false) (.cond (.tmp 49) (.region 10 #[o 9 (.assign (.const (.int .u8 1))) 5] false) .skip)))) (.seq (.region 11 #[o 50 (.move (.tmp 9)) 5,o 51 (.move (.tmp 0)) 9,o 52 (.call ⟨.builtin .len,#[.tmp 51],#[9]⟩) 3,o 53 (.move (.tmp 1)) 9,o 54 (.call ⟨.builtin .len,#[.tmp 53],#[9]⟩) 3,o 55 (.binOp .add 3 (.tmp 52) (.tmp 54) 3) 3,o 56 (.convert 3 5 (.tmp 55)) 5,o 57 (.buildSlice 34 2 #[(0,.tmp 50),(1,.tmp 56)]) 34,o 10 (.assign (.tmp 57)) 34] false) (.seq (.seq (.region 12 #[o 58 (.move (.tmp 2)) 2,o 59 (.binOp .lss 2 (.tmp 58) (xi 0) 2) 4,o 60 (.move (.tmp 59)) 4,og 61 (.move (.tmp 2)) 2 2 false,og 62 (.move (.tmp 0)) 9 2 false,og 63 (.call ⟨.builtin .len,#[.tmp 62],#[9]⟩) 3 2 false,og 64 (.move (.tmp 1)) 9 2 false,og 65 (.call ⟨.builtin .len,#[.tmp 64],#[9]⟩) 3 2 false,og 66 (.binOp .add 3 (.tmp 63) (.tmp 65) 3) 3 2 false,og 67 (.binOp .geq 2 (.tmp 61) (.tmp 66) 2) 4 2 false,o 68 (.pick (.tmp 60) (.const (.bool true)) (.tmp 67)) 4] false) (.cond (.tmp 68) (.seq (.region 13 #[o 69 (.fieldAddr 44 (.tmp 8) 0) 0,o 70 (.load 3 (.tmp 69)) 3,o 71 (.binOp .eql 3 (.tmp 70) (xi 2) 3) 4,o 72 (.move (.tmp 71)) 4,og 73 (.fieldAddr 44 (.tmp 8) 2) 0 3 true,og 74 (.load 9 (.tmp 73)) 9 3 true,og 75 (.binOp .eql 9 (.tmp 74) (.const (.string ⟨#[83,117,98,115,99,114,105,112,116]⟩)) 9) 4 3 true,o 76 (.pick (.tmp 72) (.tmp 75) (.const (.bool false))) 4,o 77 (.move (.tmp 76)) 4,og 78 (.fieldAddr 44 (.tmp 8) 1) 0 8 true,og 79 (.load 34 (.tmp 78)) 34 8 true,og 80 (.convert 34 9 (.tmp 79)) 9 8 true,og 81 (.move (.tmp 10)) 34 8 true,og 82 (.convert 34 9 (.tmp 81)) 9 8 true,og 83 (.binOp .eql 9 (.tmp 80) (.tmp 82) 9) 4 8 true,o 84 (.pick (.tmp 77) (.tmp 83) (.const (.bool false))) 4,o 85 (.move (.tmp 84)) 4,og 86 (.call ⟨.value (.func 18),#[],#[]⟩) 4 16 true,o 87 (.pick (.tmp 85) (.tmp 86) (.const (.bool false))) 4,o 6 (.assign (.tmp 87)) 4] false) .ret) .skip)) (.seq (.region 14 D11_14.toArray true) .ret))))))))))
theorem cal11 (args:Array Value) (H:IH) (h:args.size≤114):cal J okAll 11 args H=finish J [.tmp 6] (run J okAll C11 (regsOf args.toList 0 .leaf) H):=cal_er J H okAll 11 args Tryz.f11 _ C11 _ rfl rfl rfl (by kernel_rfl) rfl h rfl rfl
def C18:Code:=(.seq (.region 0 #[o 0 (.assign (.const (.bool false))) 4] false) (.seq (.region 1 #[o 5 (.call ⟨.value (.func 22),#[],#[]⟩) 27,o 1 (.alloc 27) 0,oz (.store 27 (.tmp 1) (.tmp 5)) 0] false) (.seq (.region 2 #[o 6 (.fieldAddr 27 (.tmp 1) 4) 0,o 7 (.load 25 (.tmp 6)) 25,o 8 (.indexAddr 25 (.tmp 7) (xi 0)) 0,o 9 (.fieldAddr 59 (.tmp 8) 3) 0,o 10 (.load 57 (.tmp 9)) 57,o 11 (.build 30 #[(0,xi 1),(5,xi 72)]) 30,o 12 (.build 30 #[(0,xi 16)]) 30,o 13 (.build 30 #[(0,xi 22)]) 30,o 14 (.buildSlice 54 3 #[(0,.tmp 11),(1,.tmp 12),(2,.tmp 13)]) 54,o 15 (.indexAddr 57 (.tmp 10) (xi 0)) 0,o 16 (.fieldAddr 56 (.tmp 15) 1) 0,oz (.store 54 (.tmp 16) (.tmp 14)) 0] false) (.seq (.region 3 #[o 17 (.load 27 (.tmp 1)) 27,o 18 (.build 37 #[(1,xi 9),(3,xi 9)]) 37,o 19 (.call ⟨.value (.func 19),#[.tmp 17,.tmp 18],#[27,37]⟩) 44,o 2 (.alloc 44) 0,oz (.store 44 (.tmp 2) (.tmp 19)) 0] false) (.seq (.region 4 #[o 20 (.load 27 (.tmp 1)) 27,o 21 (.build 37 #[(1,xi 2),(3,xi 9)]) 37,o 22 (.call ⟨.value (.func 19),#[.tmp 20,.tmp 21],#[27,37]⟩) 44,o 3 (.alloc 44) 0,oz (.store 44 (.tmp 3) (.tmp 22)) 0] false) (.seq (.region 5 #[o 23 (.load 27 (.tmp 1)) 27,o 24 (.build 37 #[(1,xi 9),(3,xi 2)]) 37,o 25 (.call ⟨.value (.func 19),#[.tmp 23,.tmp 24],#[27,37]⟩) 44,o 4 (.alloc 44) 0,oz (.store 44 (.tmp 4) (.tmp 25)) 0] false) (.seq (.region 6 #[o 26 (.fieldAddr 44 (.tmp 2) 0) 0,o 27 (.load 3 (.tmp 26)) 3,o 28 (.binOp .eql 3 (.tmp 27) (xi 1) 3) 4,o 29 (.move (.tmp 28)) 4,og 30 (.fieldAddr 44 (.tmp 2) 1) 0 3 true,og 31 (.load 34 (.tmp 30)) 34 3 true,og 32 (.convert 34 9 (.tmp 31)) 9 3 true,og 33 (.binOp .eql 9 (.tmp 32) (.const (.string ⟨#[72]⟩)) 9) 4 3 true,o 34 (.pick (.tmp 29) (.tmp 33) (.const (.bool false))) 4,o 35 (.move (.tmp 34)) 4,og 36 (.fieldAddr 44 (.tmp 2) 3) 0 9 true,og 37 (.load 3 (.tmp 36)) 3 9 true,og 38 (.binOp .eql 3 (.tmp 37) (xi 3) 3) 4 9 true,o 39 (.pick (.tmp 35) (.tmp 38) (.const (.bool false))) 4,o 40 (.move (.tmp 39)) 4,og 41 (.fieldAddr 44 (.tmp 3) 0) 0 14 true,og 42 (.load 3 (.tmp 41)) 3 14 true,og 43 (.binOp .eql 3 (.tmp 42) (xi 3) 3) 4 14 true,o 44 (.pick (.tmp 40) (.tmp 43) (.const (.bool false))) 4,o 45 (.move (.tmp 44)) 4,og 46 (.fieldAddr 44 (.tmp 3) 1) 0 19 true,og 47 (.load 34 (.tmp 46)) 34 19 true,og 48 (.convert 34 9 (.tmp 47)) 9 19 true,og 49 (.binOp .eql 9 (.tmp 48) (.const (.string ⟨#[72]⟩)) 9) 4 19 true,o 50 (.pick (.tmp 45) (.tmp 49) (.const (.bool false))) 4,o 51 (.move (.tmp 50)) 4,og 52 (.fieldAddr 44 (.tmp 4) 0) 0 25 true,og 53 (.load 3 (.tmp 52)) 3 25 true,og 54 (.binOp .eql 3 (.tmp 53) (xi 5) 3) 4 25 true,o 55 (.pick (.tmp 51) (.tmp 54) (.const (.bool false))) 4,o 56 (.move (.tmp 55)) 4,og 57 (.fieldAddr 44 (.tmp 4) 3) 0 30 true,og 58 (.load 3 (.tmp 57)) 3 30 true,og 59 (.binOp .eql 3 (.tmp 58) (xi 0) 3) 4 30 true,o 60 (.pick (.tmp 56) (.tmp 59) (.const (.bool false))) 4,o 0 (.assign (.tmp 60)) 4] false) .ret)))))))
theorem cal18 (args:Array Value) (H:IH) (h:args.size≤61):cal J okAll 18 args H=finish J [.tmp 0] (run J okAll C18 (regsOf args.toList 0 .leaf) H):=cal_er J H okAll 18 args Tryz.f18 _ C18 _ rfl rfl rfl (by kernel_rfl) rfl h rfl rfl
def C19:Code:=(.seq (.region 0 #[o 2 (.box 27 (.tmp 0)) 0,o 3 (.box 37 (.tmp 1)) 0,o 4 (.alloc 44) 0] false) (.seq (.region 1 #[o 6 (.fieldAddr 37 (.tmp 3) 1) 0,o 7 (.load 3 (.tmp 6)) 3,o 8 (.call ⟨.builtin .min,#[.tmp 7,xi 16777216],#[3,3]⟩) 3,o 9 (.call ⟨.builtin .max,#[xi 0,.tmp 8],#[3,3]⟩) 3,o 10 (.fieldAddr 37 (.tmp 3) 1) 0,oz (.store 3 (.tmp 10) (.tmp 9)) 0] false) (.seq (.region 2 #[o 11 (.fieldAddr 37 (.tmp 3) 2) 0,o 12 (.load 3 (.tmp 11)) 3,o 13 (.call ⟨.builtin .min,#[.tmp 12,xi 65536],#[3,3]⟩) 3,o 14 (.call ⟨.builtin .max,#[xi 0,.tmp 13],#[3,3]⟩) 3,o 15 (.fieldAddr 37 (.tmp 3) 2) 0,oz (.store 3 (.tmp 15) (.tmp 14)) 0] false) (.seq (.region 3 #[o 16 (.fieldAddr 37 (.tmp 3) 3) 0,o 17 (.load 3 (.tmp 16)) 3,o 18 (.call ⟨.builtin .min,#[.tmp 17,xi 65536],#[3,3]⟩) 3,o 19 (.call ⟨.builtin .max,#[xi 0,.tmp 18],#[3,3]⟩) 3,o 20 (.fieldAddr 37 (.tmp 3) 3) 0,oz (.store 3 (.tmp 20) (.tmp 19)) 0] false) (.seq (.region 4 #[o 21 (.load 37 (.tmp 3)) 37,o 22 (.build 84 #[(0,.tmp 2),(1,.tmp 21)]) 84,o 23 (.box 84 (.tmp 22)) 79,o 5 (.alloc 79) 0,oz (.store 79 (.tmp 5) (.tmp 23)) 0] false) (.seq (.region 5 #[o 24 (.makeFunc (.func 35) #[] #[.tmp 5,.tmp 4]) 1,oz (.defer ⟨.value (.tmp 24),#[],#[]⟩) 0] false) (.seq (.region 6 #[o 25 (.load 79 (.tmp 5)) 79,o 26 (.call ⟨.value (.func 36),#[.tmp 25],#[79]⟩) 0] false) (.seq (.region 7 #[o 27 (.load 79 (.tmp 5)) 79,o 28 (.call ⟨.value (.func 37),#[.tmp 27],#[79]⟩) 0] false) (.seq (.region 8 #[o 29 (.load 44 (.tmp 4)) 44,oz (.store 44 (.tmp 4) (.tmp 29)) 0] false) .ret)))))))))
def C22:Code:=(.seq (.region 0 #[o 0 (.alloc 27) 0] false) (.seq (.region 1 #[o 1 (.build 88 #[(0,.const (.bool true))]) 88,o 2 (.buildSlice 28 1 #[(0,xi 0)]) 28,o 3 (.build 88 #[(1,.tmp 2)]) 88,o 4 (.buildSlice 22 2 #[(0,.tmp 1),(1,.tmp 3)]) 22,o 5 (.build 90 #[(0,xi 3)]) 90,o 6 (.buildSlice 23 1 #[(0,.tmp 5)]) 23,o 7 (.buildSlice 28 1 #[(0,xi (-1))]) 28,o 8 (.build 30 #[(0,xi 1),(5,xi 5)]) 30,o 9 (.build 30 #[(0,xi 22)]) 30,o 10 (.buildSlice 54 2 #[(0,.tmp 8),(1,.tmp 9)]) 54,o 11 (.build 56 #[(0,.tmp 7),(1,.tmp 10)]) 56,o 12 (.buildSlice 57 1 #[(0,.tmp 11)]) 57,o 13 (.build 59 #[(2,xi 1),(3,.tmp 12)]) 59,o 14 (.buildSlice 25 1 #[(0,.tmp 13)]) 25,o 15 (.build 27 #[(0,.tmp 4),(1,.tmp 6),(4,.tmp 14)]) 27,oz (.store 27 (.tmp 0) (.tmp 15)) 0] false) .ret))
theorem cal22 (args:Array Value) (H:IH) (h:args.size≤16):cal J okAll 22 args H=finish J [.cell 0 27] (run J okAll C22 (regsOf args.toList 0 .leaf) H):=cal_er J H okAll 22 args Tryz.f22 _ C22 _ rfl rfl rfl (by kernel_rfl) rfl h rfl rfl
def C23:Code:=(.seq (.region 0 #[o 2 (.assign (xi 0)) 2] false) (.seq (.region 1 #[o 3 (.move (.tmp 0)) 2,o 4 (.binOp .shl 2 (.tmp 3) (.const (.int .u64 1)) 31) 2,o 5 (.binOp .shr 2 (.tmp 4) (.const (.int .u64 1)) 31) 2,o 2 (.assign (.tmp 5)) 2] false) .ret))
theorem cal23 (args:Array Value) (H:IH) (h:args.size≤6):cal J okAll 23 args H=finish J [.tmp 2] (run J okAll C23 (regsOf args.toList 0 .leaf) H):=cal_er J H okAll 23 args Tryz.f23 _ C23 _ rfl rfl rfl (by kernel_rfl) rfl h rfl rfl
def C24:Code:=(.seq (.region 0 #[o 4 (.assign (xi 0)) 2] false) (.seq (.region 1 #[o 5 (.move (.tmp 0)) 2,o 6 (.move (.tmp 1)) 2,o 7 (.binOp .add 2 (.tmp 5) (.tmp 6) 2) 2,o 8 (.call ⟨.value (.func 23),#[.tmp 7],#[2]⟩) 2,o 4 (.assign (.tmp 8)) 2] false) .ret))
theorem cal24 (args:Array Value) (H:IH) (h:args.size≤9):cal J okAll 24 args H=finish J [.tmp 4] (run J okAll C24 (regsOf args.toList 0 .leaf) H):=cal_er J H okAll 24 args Tryz.f24 _ C24 _ rfl rfl rfl (by kernel_rfl) rfl h rfl rfl
def C25:Code:=(.seq (.region 0 #[o 4 (.assign (xi 0)) 2] false) (.seq (.region 1 #[o 5 (.move (.tmp 0)) 2,o 6 (.move (.tmp 1)) 2,o 7 (.binOp .sub 2 (.tmp 5) (.tmp 6) 2) 2,o 8 (.call ⟨.value (.func 23),#[.tmp 7],#[2]⟩) 2,o 4 (.assign (.tmp 8)) 2] false) .ret))
theorem cal25 (args:Array Value) (H:IH) (h:args.size≤9):cal J okAll 25 args H=finish J [.tmp 4] (run J okAll C25 (regsOf args.toList 0 .leaf) H):=cal_er J H okAll 25 args Tryz.f25 _ C25 _ rfl rfl rfl (by kernel_rfl) rfl h rfl rfl
def C26:Code:=(.seq (.region 0 #[o 4 (.assign (xi 0)) 2] false) (.seq (.region 1 #[o 5 (.move (.tmp 0)) 2,o 6 (.move (.tmp 1)) 2,o 7 (.binOp .mul 2 (.tmp 5) (.tmp 6) 2) 2,o 8 (.call ⟨.value (.func 23),#[.tmp 7],#[2]⟩) 2,o 4 (.assign (.tmp 8)) 2] false) .ret))
theorem cal26 (args:Array Value) (H:IH) (h:args.size≤9):cal J okAll 26 args H=finish J [.tmp 4] (run J okAll C26 (regsOf args.toList 0 .leaf) H):=cal_er J H okAll 26 args Tryz.f26 _ C26 _ rfl rfl rfl (by kernel_rfl) rfl h rfl rfl
def C27:Code:=(.seq (.region 0 #[o 4 (.assign (xi 0)) 2,o 5 (.assign (.const (.bool false))) 4] false) (.seq (.seq (.region 1 #[o 7 (.move (.tmp 1)) 2,o 8 (.binOp .eql 2 (.tmp 7) (xi 0) 2) 4] false) (.cond (.tmp 8) (.seq (.region 2 #[o 4 (.assign (xi 0)) 2,o 5 (.assign (.const (.bool false))) 4] false) .ret) .skip)) (.seq (.region 3 #[o 9 (.move (.tmp 0)) 2,o 10 (.move (.tmp 1)) 2,o 11 (.binOp .quo 2 (.tmp 9) (.tmp 10) 2) 2,o 6 (.assign (.tmp 11)) 2] false) (.seq (.seq (.region 4 #[o 12 (.move (.tmp 0)) 2,o 13 (.move (.tmp 1)) 2,o 14 (.binOp .rem 2 (.tmp 12) (.tmp 13) 2) 2,o 15 (.binOp .neq 2 (.tmp 14) (xi 0) 2) 4,o 16 (.move (.tmp 15)) 4,og 17 (.move (.tmp 0)) 2 4 true,og 18 (.binOp .lss 2 (.tmp 17) (xi 0) 2) 4 4 true,og 19 (.move (.tmp 1)) 2 4 true,og 20 (.binOp .lss 2 (.tmp 19) (xi 0) 2) 4 4 true,og 21 (.binOp .neq 4 (.tmp 18) (.tmp 20) 4) 4 4 true,o 22 (.pick (.tmp 16) (.tmp 21) (.const (.bool false))) 4] false) (.cond (.tmp 22) (.region 5 #[o 23 (.move (.tmp 6)) 2,o 24 (.binOp .sub 2 (.tmp 23) (xi 1) 2) 2,o 6 (.assign (.tmp 24)) 2] false) .skip)) (.seq (.region 6 #[o 25 (.move (.tmp 6)) 2,o 26 (.call ⟨.value (.func 23),#[.tmp 25],#[2]⟩) 2,o 4 (.assign (.tmp 26)) 2,o 5 (.assign (.const (.bool true))) 4] false) .ret)))))
theorem cal27 (args:Array Value) (H:IH) (h:args.size≤27):cal J okAll 27 args H=finish J [.tmp 4,.tmp 5] (run J okAll C27 (regsOf args.toList 0 .leaf) H):=cal_er J H okAll 27 args Tryz.f27 _ C27 _ rfl rfl rfl (by kernel_rfl) rfl h rfl rfl
def C28:Code:=(.seq (.region 0 #[o 4 (.assign (xi 0)) 2,o 5 (.assign (.const (.bool false))) 4] false) (.seq (.seq (.region 1 #[o 7 (.move (.tmp 1)) 2,o 8 (.binOp .eql 2 (.tmp 7) (xi 0) 2) 4] false) (.cond (.tmp 8) (.seq (.region 2 #[o 4 (.assign (xi 0)) 2,o 5 (.assign (.const (.bool false))) 4] false) .ret) .skip)) (.seq (.region 3 #[o 9 (.move (.tmp 0)) 2,o 10 (.move (.tmp 1)) 2,o 11 (.binOp .rem 2 (.tmp 9) (.tmp 10) 2) 2,o 6 (.assign (.tmp 11)) 2] false) (.seq (.seq (.region 4 #[o 12 (.move (.tmp 6)) 2,o 13 (.binOp .neq 2 (.tmp 12) (xi 0) 2) 4,o 14 (.move (.tmp 13)) 4,og 15 (.move (.tmp 6)) 2 2 true,og 16 (.binOp .lss 2 (.tmp 15) (xi 0) 2) 4 2 true,og 17 (.move (.tmp 1)) 2 2 true,og 18 (.binOp .lss 2 (.tmp 17) (xi 0) 2) 4 2 true,og 19 (.binOp .neq 4 (.tmp 16) (.tmp 18) 4) 4 2 true,o 20 (.pick (.tmp 14) (.tmp 19) (.const (.bool false))) 4] false) (.cond (.tmp 20) (.region 5 #[o 21 (.move (.tmp 6)) 2,o 22 (.move (.tmp 1)) 2,o 23 (.binOp .add 2 (.tmp 21) (.tmp 22) 2) 2,o 6 (.assign (.tmp 23)) 2] false) .skip)) (.seq (.region 6 #[o 24 (.move (.tmp 6)) 2,o 25 (.call ⟨.value (.func 23),#[.tmp 24],#[2]⟩) 2,o 4 (.assign (.tmp 25)) 2,o 5 (.assign (.const (.bool true))) 4] false) .ret)))))
theorem cal28 (args:Array Value) (H:IH) (h:args.size≤26):cal J okAll 28 args H=finish J [.tmp 4,.tmp 5] (run J okAll C28 (regsOf args.toList 0 .leaf) H):=cal_er J H okAll 28 args Tryz.f28 _ C28 _ rfl rfl rfl (by kernel_rfl) rfl h rfl rfl
def L29_0:Code:=(.seq (.region 7 #[o 29 (.binOp .lss 3 (.tmp 28) (.tmp 27) 3) 4] false) (.seq (.cond (.tmp 29) .skip (.exit 0)) (.seq (.block 1 (.region 8 #[o 30 (.fieldAddr 56 (.tmp 8) 0) 0,o 31 (.load 28 (.tmp 30)) 28,o 32 (.buildSlice 28 1 #[(0,xi (-1))]) 28,o 33 (.call ⟨.builtin .append,#[.tmp 31,.tmp 32],#[28,28]⟩) 28,o 34 (.fieldAddr 56 (.tmp 8) 0) 0,oz (.store 28 (.tmp 34) (.tmp 33)) 0] false)) (.region 9 #[o 35 (.binOp .add 3 (.tmp 28) (xi 1) 3) 3,o 28 (.move (.tmp 35)) 3] false))))
def C29:Code:=(.seq (.region 0 #[o 6 (.alloc 27) 0] false) (.seq (.region 1 #[o 9 (.call ⟨.value (.func 22),#[],#[]⟩) 27,o 7 (.alloc 27) 0,oz (.store 27 (.tmp 7) (.tmp 9)) 0] false) (.seq (.region 2 #[o 10 (.fieldAddr 27 (.tmp 7) 1) 0,o 11 (.load 23 (.tmp 10)) 23,o 12 (.buildSlice 28 1 #[(0,xi 0)]) 28,o 13 (.build 90 #[(0,xi 2),(1,.tmp 12)]) 90,o 14 (.buildSlice 23 1 #[(0,.tmp 13)]) 23,o 15 (.call ⟨.builtin .append,#[.tmp 11,.tmp 14],#[23,23]⟩) 23,o 16 (.fieldAddr 27 (.tmp 7) 1) 0,oz (.store 23 (.tmp 16) (.tmp 15)) 0] false) (.seq (.region 3 #[o 17 (.move (.tmp 1)) 24,o 18 (.fieldAddr 27 (.tmp 7) 2) 0,oz (.store 24 (.tmp 18) (.tmp 17)) 0] false) (.seq (.region 4 #[o 19 (.buildSlice 24 4 #[(0,.const (.string ⟨#[77,97,116,99,104]⟩)),(1,.const (.string ⟨#[68,105,118]⟩)),(2,.const (.string ⟨#[83,117,98,115,99,114,105,112,116]⟩)),(3,.const (.string ⟨#[83,105,122,101]⟩))]) 24,o 20 (.fieldAddr 27 (.tmp 7) 3) 0,oz (.store 24 (.tmp 20) (.tmp 19)) 0] false) (.seq (.region 5 #[o 21 (.move (.tmp 2)) 54,o 22 (.build 30 #[(0,xi 1)]) 30,o 23 (.build 30 #[(0,xi 22)]) 30,o 24 (.buildSlice 54 2 #[(0,.tmp 22),(1,.tmp 23)]) 54,o 25 (.call ⟨.builtin .append,#[.tmp 21,.tmp 24],#[54,54]⟩) 54,o 26 (.build 56 #[(1,.tmp 25)]) 56,o 8 (.alloc 56) 0,oz (.store 56 (.tmp 8) (.tmp 26)) 0] false) (.seq (.seq (.region 6 #[o 27 (.move (.tmp 0)) 3,o 28 (.move (xi 0)) 3] false) (.block 0 (.loop L29_0))) (.seq (.region 10 #[o 36 (.fieldAddr 27 (.tmp 7) 4) 0,o 37 (.load 25 (.tmp 36)) 25,o 38 (.move (.tmp 0)) 3,o 39 (.load 56 (.tmp 8)) 56,o 40 (.buildSlice 57 1 #[(0,.tmp 39)]) 57,o 41 (.build 59 #[(2,.tmp 38),(3,.tmp 40)]) 59,o 42 (.indexAddr 25 (.tmp 37) (xi 0)) 0,oz (.store 59 (.tmp 42) (.tmp 41)) 0] false) (.seq (.region 11 #[o 43 (.load 27 (.tmp 7)) 27,oz (.store 27 (.tmp 6) (.tmp 43)) 0] false) .ret)))))))))
theorem cal29 (args:Array Value) (H:IH) (h:args.size≤44):cal J okAll 29 args H=finish J [.cell 6 27] (run J okAll C29 (regsOf args.toList 0 .leaf) H):=cal_er J H okAll 29 args Tryz.f29 _ C29 _ rfl rfl rfl (by kernel_rfl) rfl h rfl rfl
def C35:Code:=(.seq (.region 0 #[o 4 (.call ⟨.builtin .recover,#[],#[]⟩) 20] false) (.block 0 (.seq (.region 3 #[o 6 (.typeAssert (.tmp 4) 20 86 true) 0,o 7 (.extract (.tmp 6) 1) 4,o 8 (.extract (.tmp 6) 0) 86] false) (.cond (.tmp 7) (.seq (.region 4 #[o 2 (.alloc 86) 0,oz (.store 86 (.tmp 2) (.tmp 8)) 0] false) (.seq (.region 5 #[o 9 (.load 79 (.tmp 0)) 79,o 10 (.nilCheck (.tmp 9)) 0,o 11 (.fieldAddr 84 (.tmp 10) 7) 0,o 12 (.load 44 (.tmp 11)) 44,oz (.store 44 (.tmp 1) (.tmp 12)) 0] false) (.region 6 #[o 13 (.fieldAddr 86 (.tmp 2) 0) 0,o 14 (.load 3 (.tmp 13)) 3,o 15 (.fieldAddr 44 (.tmp 1) 0) 0,oz (.store 3 (.tmp 15) (.tmp 14)) 0] false))) (.seq (.region 1 #[o 3 (.assign (.tmp 4)) 20] false) (.region 2 #[o 5 (.move (.tmp 3)) 20,oz (.panic (.tmp 5)) 0] false))))))
def L36_0:Code:=(.seq (.region 3 #[o 27 (.binOp .lss 3 (.tmp 26) (.tmp 25) 3) 0] false) (.seq (.cond (.tmp 27) .skip (.exit 0)) (.seq (.block 1 (.seq (.region 4 #[o 28 (.indexAddr 23 (.tmp 24) (.tmp 26)) 0,o 29 (.load 90 (.tmp 28)) 90,o 4 (.alloc 90) 0,oz (.store 90 (.tmp 4) (.tmp 29)) 0] false) (.seq (.region 5 #[o 30 (.fieldAddr 90 (.tmp 4) 0) 0,o 31 (.load 3 (.tmp 30)) 3,o 32 (.build 127 #[(0,.tmp 31)]) 127,o 5 (.alloc 127) 0,oz (.store 127 (.tmp 5) (.tmp 32)) 0] false) (.seq (.seq (.region 6 #[o 33 (.fieldAddr 90 (.tmp 4) 0) 0,o 34 (.load 3 (.tmp 33)) 3,o 35 (.binOp .eql 3 (.tmp 34) (xi 1) 3) 4] false) (.cond (.tmp 35) (.region 7 #[o 36 (.fieldAddr 90 (.tmp 4) 1) 0,o 37 (.load 28 (.tmp 36)) 28,o 38 (.call ⟨.builtin .len,#[.tmp 37],#[28]⟩) 3,o 39 (.fieldAddr 127 (.tmp 5) 1) 0,oz (.store 3 (.tmp 39) (.tmp 38)) 0] false) .skip)) (.region 8 #[o 40 (.move (.tmp 2)) 125,o 41 (.load 127 (.tmp 5)) 127,o 42 (.buildSlice 125 1 #[(0,.tmp 41)]) 125,o 43 (.call ⟨.builtin .append,#[.tmp 40,.tmp 42],#[125,125]⟩) 125,o 2 (.assign (.tmp 43)) 125] false))))) (.region 9 #[o 44 (.binOp .add 3 (.tmp 26) (xi 1) 3) 3,o 26 (.move (.tmp 44)) 3] false))))
def C36:Code:=(.seq (.region 0 #[o 8 (.move (.tmp 0)) 79,o 9 (.move (.tmp 0)) 79,o 10 (.nilCheck (.tmp 9)) 0,o 11 (.fieldAddr 84 (.tmp 10) 0) 0,o 12 (.load 80 (.tmp 11)) 80,o 13 (.nilCheck (.tmp 12)) 0,o 14 (.load 27 (.tmp 13)) 27,o 15 (.call ⟨.value (.func 38),#[.tmp 14],#[27]⟩) 72,o 16 (.binOp .eql 72 (.tmp 15) (xi 0) 72) 4,o 17 (.call ⟨.value (.func 63),#[.tmp 8,.tmp 16],#[79,4]⟩) 0] false) (.seq (.region 1 #[o 2 (.assign (.const (.slice none 0 0))) 125] false) (.seq (.seq (.region 2 #[o 18 (.move (.tmp 0)) 79,o 19 (.nilCheck (.tmp 18)) 0,o 20 (.fieldAddr 84 (.tmp 19) 0) 0,o 21 (.load 80 (.tmp 20)) 80,o 22 (.nilCheck (.tmp 21)) 0,o 23 (.fieldAddr 27 (.tmp 22) 1) 0,o 24 (.load 23 (.tmp 23)) 23,o 25 (.call ⟨.builtin .len,#[.tmp 24],#[23]⟩) 3,o 26 (.move (xi 0)) 3] false) (.block 0 (.loop L36_0))) (.seq (.region 10 #[o 46 (.move (.tmp 0)) 79,o 47 (.nilCheck (.tmp 46)) 0,o 48 (.fieldAddr 84 (.tmp 47) 1) 0,o 49 (.fieldAddr 37 (.tmp 48) 2) 0,o 50 (.load 3 (.tmp 49)) 3,o 51 (.move (.tmp 2)) 125,o 52 (.call ⟨.value (.func 64),#[.tmp 50,.tmp 51],#[3,125]⟩) 128,o 45 (.move (.tmp 52)) 128,o 53 (.extract (.tmp 45) 0) 81,o 54 (.extract (.tmp 45) 1) 72,o 6 (.assign (.tmp 53)) 81,o 7 (.assign (.tmp 54)) 72] false) (.seq (.region 11 #[o 55 (.move (.tmp 0)) 79,o 56 (.move (.tmp 7)) 72,o 57 (.binOp .eql 72 (.tmp 56) (xi 0) 72) 4,o 58 (.move (.tmp 57)) 4,og 59 (.move (.tmp 0)) 79 3 true,og 60 (.nilCheck (.tmp 59)) 0 3 true,og 61 (.fieldAddr 84 (.tmp 60) 0) 0 3 true,og 62 (.load 80 (.tmp 61)) 80 3 true,og 63 (.nilCheck (.tmp 62)) 0 3 true,og 64 (.fieldAddr 27 (.tmp 63) 5) 0 3 true,og 65 (.load 3 (.tmp 64)) 3 3 true,og 66 (.binOp .geq 3 (.tmp 65) (xi 0) 3) 4 3 true,o 67 (.pick (.tmp 58) (.tmp 66) (.const (.bool false))) 4,o 68 (.move (.tmp 67)) 4,og 69 (.move (.tmp 0)) 79 13 true,og 70 (.nilCheck (.tmp 69)) 0 13 true,og 71 (.fieldAddr 84 (.tmp 70) 0) 0 13 true,og 72 (.load 80 (.tmp 71)) 80 13 true,og 73 (.nilCheck (.tmp 72)) 0 13 true,og 74 (.fieldAddr 27 (.tmp 73) 5) 0 13 true,og 75 (.load 3 (.tmp 74)) 3 13 true,og 76 (.move (.tmp 0)) 79 13 true,og 77 (.nilCheck (.tmp 76)) 0 13 true,og 78 (.fieldAddr 84 (.tmp 77) 0) 0 13 true,og 79 (.load 80 (.tmp 78)) 80 13 true,og 80 (.nilCheck (.tmp 79)) 0 13 true,og 81 (.fieldAddr 27 (.tmp 80) 4) 0 13 true,og 82 (.load 25 (.tmp 81)) 25 13 true,og 83 (.call ⟨.builtin .len,#[.tmp 82],#[25]⟩) 3 13 true,og 84 (.binOp .lss 3 (.tmp 75) (.tmp 83) 3) 4 13 true,o 85 (.pick (.tmp 68) (.tmp 84) (.const (.bool false))) 4,o 86 (.move (.tmp 85)) 4,og 87 (.move (.tmp 0)) 79 31 true,og 88 (.nilCheck (.tmp 87)) 0 31 true,og 89 (.fieldAddr 84 (.tmp 88) 0) 0 31 true,og 90 (.load 80 (.tmp 89)) 80 31 true,og 91 (.nilCheck (.tmp 90)) 0 31 true,og 92 (.fieldAddr 27 (.tmp 91) 4) 0 31 true,og 93 (.load 25 (.tmp 92)) 25 31 true,og 94 (.move (.tmp 0)) 79 31 true,og 95 (.nilCheck (.tmp 94)) 0 31 true,og 96 (.fieldAddr 84 (.tmp 95) 0) 0 31 true,og 97 (.load 80 (.tmp 96)) 80 31 true,og 98 (.nilCheck (.tmp 97)) 0 31 true,og 99 (.fieldAddr 27 (.tmp 98) 5) 0 31 true,og 100 (.load 3 (.tmp 99)) 3 31 true,og 101 (.indexAddr 25 (.tmp 93) (.tmp 100)) 0 31 true,og 102 (.fieldAddr 59 (.tmp 101) 0) 0 31 true,og 103 (.load 28 (.tmp 102)) 28 31 true,og 104 (.call ⟨.builtin .len,#[.tmp 103],#[28]⟩) 3 31 true,og 105 (.binOp .eql 3 (.tmp 104) (xi 0) 3) 4 31 true,o 106 (.pick (.tmp 86) (.tmp 105) (.const (.bool false))) 4,o 107 (.call ⟨.value (.func 63),#[.tmp 55,.tmp 106],#[79,4]⟩) 0] false) (.seq (.region 12 #[o 108 (.move (.tmp 0)) 79,o 109 (.move (.tmp 6)) 81,o 110 (.nilCheck (.tmp 108)) 0,o 111 (.fieldAddr 84 (.tmp 110) 2) 0,oz (.store 81 (.tmp 111) (.tmp 109)) 0] false) (.region 13 #[o 112 (.move (.tmp 0)) 79,o 113 (.move (.tmp 0)) 79,o 114 (.nilCheck (.tmp 113)) 0,o 115 (.fieldAddr 84 (.tmp 114) 0) 0,o 116 (.load 80 (.tmp 115)) 80,o 117 (.nilCheck (.tmp 116)) 0,o 118 (.fieldAddr 27 (.tmp 117) 5) 0,o 119 (.load 3 (.tmp 118)) 3,o 120 (.call ⟨.value (.func 65),#[.tmp 112,.tmp 119,.const (.slice none 0 0)],#[79,3,136]⟩) 0] false)))))))
theorem cal36 (args:Array Value) (H:IH) (h:args.size≤121):cal J okAll 36 args H=finish J [] (run J okAll C36 (regsOf args.toList 0 .leaf) H):=cal_er J H okAll 36 args Tryz.f36 _ C36 _ rfl rfl rfl (by kernel_rfl) rfl h rfl rfl
def L37_0:Code:=(.block 1 (.seq (.region 0 #[o 4 (.move (.tmp 0)) 79,o 5 (.call ⟨.value (.func 66),#[.tmp 4],#[79]⟩) 131,o 2 (.assign (.tmp 5)) 131] false) (.seq (.region 1 #[o 6 (.move (.tmp 0)) 79,o 7 (.move (.tmp 2)) 131,o 8 (.nilCheck (.tmp 7)) 0,o 9 (.fieldAddr 138 (.tmp 8) 0) 0,o 10 (.fieldAddr 135 (.tmp 9) 1) 0,o 11 (.load 3 (.tmp 10)) 3,o 12 (.binOp .geq 3 (.tmp 11) (xi 0) 3) 4,o 13 (.move (.tmp 12)) 4,og 14 (.move (.tmp 2)) 131 7 true,og 15 (.nilCheck (.tmp 14)) 0 7 true,og 16 (.fieldAddr 138 (.tmp 15) 0) 0 7 true,og 17 (.fieldAddr 135 (.tmp 16) 1) 0 7 true,og 18 (.load 3 (.tmp 17)) 3 7 true,og 19 (.move (.tmp 2)) 131 7 true,og 20 (.nilCheck (.tmp 19)) 0 7 true,og 21 (.fieldAddr 138 (.tmp 20) 0) 0 7 true,og 22 (.fieldAddr 135 (.tmp 21) 0) 0 7 true,og 23 (.load 133 (.tmp 22)) 133 7 true,og 24 (.nilCheck (.tmp 23)) 0 7 true,og 25 (.fieldAddr 59 (.tmp 24) 3) 0 7 true,og 26 (.load 57 (.tmp 25)) 57 7 true,og 27 (.call ⟨.builtin .len,#[.tmp 26],#[57]⟩) 3 7 true,og 28 (.binOp .lss 3 (.tmp 18) (.tmp 27) 3) 4 7 true,o 29 (.pick (.tmp 13) (.tmp 28) (.const (.bool false))) 4,o 30 (.move (.tmp 29)) 4,og 31 (.move (.tmp 2)) 131 24 true,og 32 (.nilCheck (.tmp 31)) 0 24 true,og 33 (.fieldAddr 138 (.tmp 32) 0) 0 24 true,og 34 (.fieldAddr 135 (.tmp 33) 2) 0 24 true,og 35 (.load 3 (.tmp 34)) 3 24 true,og 36 (.move (.tmp 2)) 131 24 true,og 37 (.nilCheck (.tmp 36)) 0 24 true,og 38 (.fieldAddr 138 (.tmp 37) 0) 0 24 true,og 39 (.fieldAddr 135 (.tmp 38) 0) 0 24 true,og 40 (.load 133 (.tmp 39)) 133 24 true,og 41 (.nilCheck (.tmp 40)) 0 24 true,og 42 (.fieldAddr 59 (.tmp 41) 3) 0 24 true,og 43 (.load 57 (.tmp 42)) 57 24 true,og 44 (.move (.tmp 2)) 131 24 true,og 45 (.nilCheck (.tmp 44)) 0 24 true,og 46 (.fieldAddr 138 (.tmp 45) 0) 0 24 true,og 47 (.fieldAddr 135 (.tmp 46) 1) 0 24 true,og 48 (.load 3 (.tmp 47)) 3 24 true,og 49 (.indexAddr 57 (.tmp 43) (.tmp 48)) 0 24 true,og 50 (.fieldAddr 56 (.tmp 49) 1) 0 24 true,og 51 (.load 54 (.tmp 50)) 54 24 true,og 52 (.call ⟨.builtin .len,#[.tmp 51],#[54]⟩) 3 24 true,og 53 (.binOp .lss 3 (.tmp 35) (.tmp 52) 3) 4 24 true,o 54 (.pick (.tmp 30) (.tmp 53) (.const (.bool false))) 4,o 55 (.call ⟨.value (.func 63),#[.tmp 6,.tmp 54],#[79,4]⟩) 0] false) (.seq (.seq (.region 2 #[o 56 (.move (.tmp 0)) 79,o 57 (.nilCheck (.tmp 56)) 0,o 58 (.fieldAddr 84 (.tmp 57) 7) 0,o 59 (.fieldAddr 44 (.tmp 58) 3) 0,o 60 (.load 3 (.tmp 59)) 3,o 61 (.move (.tmp 0)) 79,o 62 (.nilCheck (.tmp 61)) 0,o 63 (.fieldAddr 84 (.tmp 62) 1) 0,o 64 (.fieldAddr 37 (.tmp 63) 1) 0,o 65 (.load 3 (.tmp 64)) 3,o 66 (.binOp .eql 3 (.tmp 60) (.tmp 65) 3) 4] false) (.cond (.tmp 66) (.region 3 #[o 67 (.move (.tmp 0)) 79,o 68 (.call ⟨.value (.func 67),#[.tmp 67,xi 3],#[79,3]⟩) 0] false) .skip)) (.seq (.region 4 #[o 69 (.move (.tmp 0)) 79,o 70 (.nilCheck (.tmp 69)) 0,o 71 (.fieldAddr 84 (.tmp 70) 7) 0,o 72 (.fieldAddr 44 (.tmp 71) 3) 0,o 73 (.load 3 (.tmp 72)) 3,o 74 (.binOp .add 3 (.tmp 73) (xi 1) 3) 3,o 75 (.nilCheck (.tmp 69)) 0,o 76 (.fieldAddr 84 (.tmp 75) 7) 0,o 77 (.fieldAddr 44 (.tmp 76) 3) 0,oz (.store 3 (.tmp 77) (.tmp 74)) 0] false) (.seq (.region 5 #[o 78 (.move (.tmp 2)) 131,o 79 (.nilCheck (.tmp 78)) 0,o 80 (.fieldAddr 138 (.tmp 79) 0) 0,o 81 (.fieldAddr 135 (.tmp 80) 0) 0,o 82 (.load 133 (.tmp 81)) 133,o 83 (.nilCheck (.tmp 82)) 0,o 84 (.fieldAddr 59 (.tmp 83) 3) 0,o 85 (.load 57 (.tmp 84)) 57,o 86 (.move (.tmp 2)) 131,o 87 (.nilCheck (.tmp 86)) 0,o 88 (.fieldAddr 138 (.tmp 87) 0) 0,o 89 (.fieldAddr 135 (.tmp 88) 1) 0,o 90 (.load 3 (.tmp 89)) 3,o 91 (.indexAddr 57 (.tmp 85) (.tmp 90)) 0,o 92 (.fieldAddr 56 (.tmp 91) 1) 0,o 93 (.load 54 (.tmp 92)) 54,o 94 (.move (.tmp 2)) 131,o 95 (.nilCheck (.tmp 94)) 0,o 96 (.fieldAddr 138 (.tmp 95) 0) 0,o 97 (.fieldAddr 135 (.tmp 96) 2) 0,o 98 (.load 3 (.tmp 97)) 3,o 99 (.indexAddr 54 (.tmp 93) (.tmp 98)) 0,o 3 (.assign (.tmp 99)) 139] false) (.seq (.region 6 #[o 100 (.move (.tmp 2)) 131,o 101 (.nilCheck (.tmp 100)) 0,o 102 (.fieldAddr 138 (.tmp 101) 0) 0,o 103 (.fieldAddr 135 (.tmp 102) 2) 0,o 104 (.load 3 (.tmp 103)) 3,o 105 (.binOp .add 3 (.tmp 104) (xi 1) 3) 3,o 106 (.nilCheck (.tmp 100)) 0,o 107 (.fieldAddr 138 (.tmp 106) 0) 0,o 108 (.fieldAddr 135 (.tmp 107) 2) 0,oz (.store 3 (.tmp 108) (.tmp 105)) 0] false) (.seq (.seq (.region 7 #[o 109 (.move (.tmp 3)) 139,o 110 (.nilCheck (.tmp 109)) 0,o 111 (.fieldAddr 30 (.tmp 110) 0) 0,o 112 (.load 3 (.tmp 111)) 3,o 113 (.binOp .geq 3 (.tmp 112) (xi 18) 3) 4] false) (.cond (.tmp 113) (.seq (.region 8 #[o 114 (.move (.tmp 0)) 79,o 115 (.move (.tmp 3)) 139,o 116 (.call ⟨.value (.func 68),#[.tmp 114,.tmp 115],#[79,139]⟩) 0] false) (.exit 1)) .skip)) (.region 9 #[o 117 (.move (.tmp 0)) 79,o 118 (.move (.tmp 3)) 139,o 119 (.call ⟨.value (.func 69),#[.tmp 117,.tmp 118],#[79,139]⟩) 0] false)))))))))
def C37:Code:=(.scope (.seq (.label 0) (.block 0 (.loop L37_0))))
theorem cal37 (args:Array Value) (H:IH) (h:args.size≤120):cal J okAll 37 args H=finish J [] (run J okAll C37 (regsOf args.toList 0 .leaf) H):=cal_er J H okAll 37 args Tryz.f37 _ C37 _ rfl rfl rfl (by kernel_rfl) rfl h rfl rfl
def L38_0:Code:=(.seq (.region 7 #[o 20 (.binOp .lss 3 (.tmp 19) (.tmp 18) 3) 0] false) (.seq (.cond (.tmp 20) .skip (.exit 2)) (.seq (.block 3 (.seq (.region 8 #[o 21 (.indexAddr 57 (.tmp 17) (.tmp 19)) 0,o 22 (.load 56 (.tmp 21)) 56,o 6 (.alloc 56) 0,oz (.store 56 (.tmp 6) (.tmp 22)) 0] false) (.seq (.region 9 #[o 23 (.fieldAddr 56 (.tmp 6) 1) 0,o 24 (.load 54 (.tmp 23)) 54,o 25 (.call ⟨.value (.func 71),#[.tmp 24,.func 72],#[54,142]⟩) 4] false) (.cond (.tmp 25) (.seq (.region 10 #[o 2 (.assign (xi 1)) 72] false) .ret) .skip)))) (.region 11 #[o 26 (.binOp .add 3 (.tmp 19) (xi 1) 3) 3,o 19 (.move (.tmp 26)) 3] false))))
def L38_1:Code:=(.seq (.region 4 #[o 13 (.binOp .lss 3 (.tmp 12) (.tmp 11) 3) 0] false) (.seq (.cond (.tmp 13) .skip (.exit 0)) (.seq (.block 1 (.seq (.region 5 #[o 14 (.indexAddr 25 (.tmp 10) (.tmp 12)) 0,o 15 (.load 59 (.tmp 14)) 59,o 4 (.alloc 59) 0,oz (.store 59 (.tmp 4) (.tmp 15)) 0] false) (.seq (.region 6 #[o 16 (.fieldAddr 59 (.tmp 4) 3) 0,o 17 (.load 57 (.tmp 16)) 57,o 18 (.call ⟨.builtin .len,#[.tmp 17],#[57]⟩) 3,o 19 (.move (xi 0)) 3] false) (.block 2 (.loop L38_0))))) (.region 12 #[o 27 (.binOp .add 3 (.tmp 12) (xi 1) 3) 3,o 12 (.move (.tmp 27)) 3] false))))
def C38:Code:=(.seq (.region 0 #[o 1 (.box 27 (.tmp 0)) 0,o 2 (.assign (xi 0)) 72] false) (.seq (.seq (.region 1 #[o 7 (.load 27 (.tmp 1)) 27,o 8 (.call ⟨.value (.func 70),#[.tmp 7],#[27]⟩) 4] false) (.cond (.tmp 8) (.seq (.region 2 #[o 2 (.assign (xi 2)) 72] false) .ret) .skip)) (.seq (.seq (.region 3 #[o 9 (.fieldAddr 27 (.tmp 1) 4) 0,o 10 (.load 25 (.tmp 9)) 25,o 11 (.call ⟨.builtin .len,#[.tmp 10],#[25]⟩) 3,o 12 (.move (xi 0)) 3] false) (.block 0 (.loop L38_1))) (.seq (.region 13 #[o 2 (.assign (xi 0)) 72] false) .ret))))
theorem cal38 (args:Array Value) (H:IH) (h:args.size≤28):cal J okAll 38 args H=finish J [.tmp 2] (run J okAll C38 (regsOf args.toList 0 .leaf) H):=cal_er J H okAll 38 args Tryz.f38 _ C38 _ rfl rfl rfl (by kernel_rfl) rfl h rfl rfl
def C63:Code:=(.seq (.region 0 #[o 4 (.move (.tmp 1)) 4,o 5 (.unOp .not 4 (.tmp 4)) 4] false) (.cond (.tmp 5) (.region 1 #[o 6 (.move (.tmp 0)) 79,o 7 (.call ⟨.value (.func 67),#[.tmp 6,xi 6],#[79,3]⟩) 0] false) .skip))
theorem cal63 (args:Array Value) (H:IH) (h:args.size≤8):cal J okAll 63 args H=finish J [] (run J okAll C63 (regsOf args.toList 0 .leaf) H):=cal_er J H okAll 63 args Tryz.f63 _ C63 _ rfl rfl rfl (by kernel_rfl) rfl h rfl rfl
def L64_0:Code:=(.seq (.region 6 #[o 20 (.binOp .lss 3 (.tmp 19) (.tmp 18) 3) 0] false) (.seq (.cond (.tmp 20) .skip (.exit 0)) (.seq (.block 1 (.seq (.region 7 #[o 21 (.indexAddr 125 (.tmp 17) (.tmp 19)) 0,o 22 (.load 127 (.tmp 21)) 127,o 7 (.alloc 127) 0,oz (.store 127 (.tmp 7) (.tmp 22)) 0] false) (.seq (.region 8 #[o 23 (.fieldAddr 127 (.tmp 7) 0) 0,o 24 (.load 3 (.tmp 23)) 3,o 25 (.binOp .lss 3 (.tmp 24) (xi 1) 3) 4,o 26 (.move (.tmp 25)) 4,og 27 (.fieldAddr 127 (.tmp 7) 0) 0 3 false,og 28 (.load 3 (.tmp 27)) 3 3 false,og 29 (.binOp .gtr 3 (.tmp 28) (xi 3) 3) 4 3 false,o 30 (.pick (.tmp 26) (.const (.bool true)) (.tmp 29)) 4,o 31 (.move (.tmp 30)) 4,og 32 (.fieldAddr 127 (.tmp 7) 1) 0 8 false,og 33 (.load 3 (.tmp 32)) 3 8 false,og 34 (.binOp .lss 3 (.tmp 33) (xi 0) 3) 4 8 false,o 35 (.pick (.tmp 31) (.const (.bool true)) (.tmp 34)) 4,o 36 (.move (.tmp 35)) 4,og 37 (.fieldAddr 127 (.tmp 7) 1) 0 13 false,og 38 (.load 3 (.tmp 37)) 3 13 false,og 39 (.binOp .gtr 3 (.tmp 38) (xi 65536) 3) 4 13 false,o 40 (.pick (.tmp 36) (.const (.bool true)) (.tmp 39)) 4] false) (.cond (.tmp 40) (.seq (.region 9 #[o 4 (.assign (.const (.pointer none))) 81,o 5 (.assign (xi 1)) 72] false) .ret) .skip)))) (.region 10 #[o 41 (.binOp .add 3 (.tmp 19) (xi 1) 3) 3,o 19 (.move (.tmp 41)) 3] false))))
def C64:Code:=(.seq (.region 0 #[o 4 (.assign (.const (.pointer none))) 81,o 5 (.assign (xi 0)) 72] false) (.seq (.seq (.region 1 #[o 8 (.move (.tmp 0)) 3,o 9 (.binOp .lss 3 (.tmp 8) (xi 0) 3) 4,o 10 (.move (.tmp 9)) 4,og 11 (.move (.tmp 0)) 3 2 false,og 12 (.binOp .gtr 3 (.tmp 11) (xi 65536) 3) 4 2 false,o 13 (.pick (.tmp 10) (.const (.bool true)) (.tmp 12)) 4] false) (.cond (.tmp 13) (.seq (.region 2 #[o 4 (.assign (.const (.pointer none))) 81,o 5 (.assign (xi 1)) 72] false) .ret) .skip)) (.seq (.seq (.region 3 #[o 14 (.move (.tmp 1)) 125,o 15 (.call ⟨.builtin .len,#[.tmp 14],#[125]⟩) 3,o 16 (.binOp .gtr 3 (.tmp 15) (xi 512) 3) 4] false) (.cond (.tmp 16) (.seq (.region 4 #[o 4 (.assign (.const (.pointer none))) 81,o 5 (.assign (xi 2)) 72] false) .ret) .skip)) (.seq (.seq (.region 5 #[o 17 (.move (.tmp 1)) 125,o 18 (.call ⟨.builtin .len,#[.tmp 17],#[125]⟩) 3,o 19 (.move (xi 0)) 3] false) (.block 0 (.loop L64_0))) (.seq (.region 11 #[o 42 (.move (.tmp 0)) 3,o 44 (.move (.tmp 0)) 3,o 45 (.binOp .quo 3 (.tmp 44) (xi 64) 3) 3,o 46 (.binOp .add 3 (.tmp 45) (xi 1) 3) 3,o 48 (.move (.tmp 1)) 125,o 49 (.call ⟨.builtin .append,#[.const (.slice none 0 0),.tmp 48],#[125,125]⟩) 125,o 43 (.makeSlice 136 (.tmp 42) (.tmp 42)) 136,o 47 (.makeSlice 136 (.tmp 46) (.tmp 46)) 136,o 50 (.build 171 #[(0,.tmp 43),(1,.tmp 47),(2,.tmp 49)]) 171,o 51 (.box 171 (.tmp 50)) 81,o 4 (.assign (.tmp 51)) 81,o 5 (.assign (xi 0)) 72] false) .ret)))))
theorem cal64 (args:Array Value) (H:IH) (h:args.size≤52):cal J okAll 64 args H=finish J [.tmp 4,.tmp 5] (run J okAll C64 (regsOf args.toList 0 .leaf) H):=cal_er J H okAll 64 args Tryz.f64 _ C64 _ rfl rfl rfl (by kernel_rfl) rfl h rfl rfl
def D65_11:List Oper:=regOf Tryz.f65 11
@[simp] def A65_11:List Ann:=[a0 (o 117 (.move (.tmp 7)) 131),a0 (o 118 (.nilCheck (.tmp 117)) 0),a0 (o 119 (.fieldAddr 138 (.tmp 118) 1) 0),al (o 120 (.load 136 (.tmp 119)) 136) [1],a0 (o 121 (.move (.tmp 8)) 3),ae (o 122 (.call ⟨.value (.func 96),#[xi 0],#[2]⟩) 62) true,a0 (o 123 (.indexAddr 136 (.tmp 120) (.tmp 121)) 0),ae (oz (.store 62 (.tmp 123) (.tmp 122)) 0) true]
def O65_11:List Oper:=A65_11.map (·.o)
@[simp] theorem r65_11 (T:Regs) (H:IH):run J okAll (.region 11 D65_11.toArray true) T H=annSel J okAll D65_11.toArray T H (eRun J (cal J okAll) O65_11.toArray A65_11 T H 0 []):=r_ann (by kernel_rfl) (by kernel_rfl) 11 T H
def L65_0:Code:=(.seq (.seq (.region 9 #[o 108 (.move (.tmp 8)) 3,o 109 (.move (.tmp 7)) 131,o 110 (.nilCheck (.tmp 109)) 0,o 111 (.fieldAddr 138 (.tmp 110) 1) 0,o 112 (.load 136 (.tmp 111)) 136,o 113 (.call ⟨.builtin .len,#[.tmp 112],#[136]⟩) 3,o 114 (.binOp .lss 3 (.tmp 108) (.tmp 113) 3) 4] false) (.cond (.tmp 114) .skip (.exit 0))) (.seq (.block 1 (.region 11 D65_11.toArray true)) (.region 10 #[o 115 (.move (.tmp 8)) 3,o 116 (.binOp .add 3 (.tmp 115) (xi 1) 3) 3,o 8 (.assign (.tmp 116)) 3] false)))
def C65:Code:=(.seq (.region 0 #[o 9 (.move (.tmp 0)) 79,o 10 (.move (.tmp 1)) 3,o 11 (.binOp .geq 3 (.tmp 10) (xi 0) 3) 4,o 12 (.move (.tmp 11)) 4,og 13 (.move (.tmp 1)) 3 3 true,og 14 (.move (.tmp 0)) 79 3 true,og 15 (.nilCheck (.tmp 14)) 0 3 true,og 16 (.fieldAddr 84 (.tmp 15) 0) 0 3 true,og 17 (.load 80 (.tmp 16)) 80 3 true,og 18 (.nilCheck (.tmp 17)) 0 3 true,og 19 (.fieldAddr 27 (.tmp 18) 4) 0 3 true,og 20 (.load 25 (.tmp 19)) 25 3 true,og 21 (.call ⟨.builtin .len,#[.tmp 20],#[25]⟩) 3 3 true,og 22 (.binOp .lss 3 (.tmp 13) (.tmp 21) 3) 4 3 true,o 23 (.pick (.tmp 12) (.tmp 22) (.const (.bool false))) 4,o 24 (.call ⟨.value (.func 63),#[.tmp 9,.tmp 23],#[79,4]⟩) 0] false) (.seq (.region 1 #[o 25 (.move (.tmp 0)) 79,o 26 (.nilCheck (.tmp 25)) 0,o 27 (.fieldAddr 84 (.tmp 26) 0) 0,o 28 (.load 80 (.tmp 27)) 80,o 29 (.nilCheck (.tmp 28)) 0,o 30 (.fieldAddr 27 (.tmp 29) 4) 0,o 31 (.load 25 (.tmp 30)) 25,o 32 (.move (.tmp 1)) 3,o 33 (.indexAddr 25 (.tmp 31) (.tmp 32)) 0,o 6 (.assign (.tmp 33)) 133] false) (.seq (.region 2 #[o 34 (.move (.tmp 0)) 79,o 35 (.move (.tmp 6)) 133,o 36 (.nilCheck (.tmp 35)) 0,o 37 (.fieldAddr 59 (.tmp 36) 2) 0,o 38 (.load 3 (.tmp 37)) 3,o 39 (.move (.tmp 2)) 136,o 40 (.call ⟨.builtin .len,#[.tmp 39],#[136]⟩) 3,o 41 (.binOp .geq 3 (.tmp 38) (.tmp 40) 3) 4,o 42 (.move (.tmp 41)) 4,og 43 (.move (.tmp 2)) 136 8 true,og 44 (.call ⟨.builtin .len,#[.tmp 43],#[136]⟩) 3 8 true,og 45 (.move (.tmp 6)) 133 8 true,og 46 (.nilCheck (.tmp 45)) 0 8 true,og 47 (.fieldAddr 59 (.tmp 46) 0) 0 8 true,og 48 (.load 28 (.tmp 47)) 28 8 true,og 49 (.call ⟨.builtin .len,#[.tmp 48],#[28]⟩) 3 8 true,og 50 (.binOp .eql 3 (.tmp 44) (.tmp 49) 3) 4 8 true,o 51 (.pick (.tmp 42) (.tmp 50) (.const (.bool false))) 4,o 52 (.move (.tmp 51)) 4,og 53 (.move (.tmp 6)) 133 18 true,og 54 (.nilCheck (.tmp 53)) 0 18 true,og 55 (.fieldAddr 59 (.tmp 54) 3) 0 18 true,og 56 (.load 57 (.tmp 55)) 57 18 true,og 57 (.call ⟨.builtin .len,#[.tmp 56],#[57]⟩) 3 18 true,og 58 (.binOp .gtr 3 (.tmp 57) (xi 0) 3) 4 18 true,o 59 (.pick (.tmp 52) (.tmp 58) (.const (.bool false))) 4,o 60 (.call ⟨.value (.func 63),#[.tmp 34,.tmp 59],#[79,4]⟩) 0] false) (.seq (.seq (.region 3 #[o 61 (.move (.tmp 0)) 79,o 62 (.nilCheck (.tmp 61)) 0,o 63 (.fieldAddr 84 (.tmp 62) 4) 0,o 64 (.load 3 (.tmp 63)) 3,o 65 (.move (.tmp 6)) 133,o 66 (.nilCheck (.tmp 65)) 0,o 67 (.fieldAddr 59 (.tmp 66) 2) 0,o 68 (.load 3 (.tmp 67)) 3,o 69 (.binOp .add 3 (.tmp 64) (.tmp 68) 3) 3,o 70 (.binOp .add 3 (.tmp 69) (xi 2) 3) 3,o 71 (.move (.tmp 0)) 79,o 72 (.nilCheck (.tmp 71)) 0,o 73 (.fieldAddr 84 (.tmp 72) 1) 0,o 74 (.fieldAddr 37 (.tmp 73) 3) 0,o 75 (.load 3 (.tmp 74)) 3,o 76 (.binOp .gtr 3 (.tmp 70) (.tmp 75) 3) 4] false) (.cond (.tmp 76) (.region 4 #[o 77 (.move (.tmp 0)) 79,o 78 (.call ⟨.value (.func 67),#[.tmp 77,xi 5],#[79,3]⟩) 0] false) .skip)) (.seq (.region 5 #[o 79 (.move (.tmp 0)) 79,o 80 (.nilCheck (.tmp 79)) 0,o 81 (.fieldAddr 84 (.tmp 80) 4) 0,o 82 (.load 3 (.tmp 81)) 3,o 83 (.move (.tmp 6)) 133,o 84 (.nilCheck (.tmp 83)) 0,o 85 (.fieldAddr 59 (.tmp 84) 2) 0,o 86 (.load 3 (.tmp 85)) 3,o 87 (.binOp .add 3 (.tmp 86) (xi 2) 3) 3,o 88 (.binOp .add 3 (.tmp 82) (.tmp 87) 3) 3,o 89 (.nilCheck (.tmp 79)) 0,o 90 (.fieldAddr 84 (.tmp 89) 4) 0,oz (.store 3 (.tmp 90) (.tmp 88)) 0] false) (.seq (.region 6 #[o 91 (.move (.tmp 6)) 133,o 92 (.build 135 #[(0,.tmp 91)]) 135,o 93 (.move (.tmp 6)) 133,o 94 (.nilCheck (.tmp 93)) 0,o 95 (.fieldAddr 59 (.tmp 94) 2) 0,o 96 (.load 3 (.tmp 95)) 3,o 97 (.makeSlice 136 (.tmp 96) (.tmp 96)) 136,o 98 (.build 138 #[(0,.tmp 92),(1,.tmp 97)]) 138,o 99 (.box 138 (.tmp 98)) 131,o 7 (.assign (.tmp 99)) 131] false) (.seq (.region 7 #[o 100 (.move (.tmp 7)) 131,o 101 (.nilCheck (.tmp 100)) 0,o 102 (.fieldAddr 138 (.tmp 101) 1) 0,o 103 (.load 136 (.tmp 102)) 136,o 104 (.move (.tmp 2)) 136,o 105 (.call ⟨.builtin .copy,#[.tmp 103,.tmp 104],#[136,136]⟩) 3] false) (.seq (.seq (.region 8 #[o 106 (.move (.tmp 2)) 136,o 107 (.call ⟨.builtin .len,#[.tmp 106],#[136]⟩) 3,o 8 (.assign (.tmp 107)) 3] false) (.block 0 (.loop L65_0))) (.region 12 #[o 124 (.move (.tmp 0)) 79,o 125 (.move (.tmp 0)) 79,o 126 (.nilCheck (.tmp 125)) 0,o 127 (.fieldAddr 84 (.tmp 126) 3) 0,o 128 (.load 82 (.tmp 127)) 82,o 129 (.move (.tmp 7)) 131,o 130 (.buildSlice 82 1 #[(0,.tmp 129)]) 82,o 131 (.call ⟨.builtin .append,#[.tmp 128,.tmp 130],#[82,82]⟩) 82,o 132 (.nilCheck (.tmp 124)) 0,o 133 (.fieldAddr 84 (.tmp 132) 3) 0,oz (.store 82 (.tmp 133) (.tmp 131)) 0] false)))))))))
theorem cal65 (args:Array Value) (H:IH) (h:args.size≤134):cal J okAll 65 args H=finish J [] (run J okAll C65 (regsOf args.toList 0 .leaf) H):=cal_er J H okAll 65 args Tryz.f65 _ C65 _ rfl rfl rfl (by kernel_rfl) rfl h rfl rfl
def C66:Code:=(.seq (.region 0 #[o 2 (.assign (.const (.pointer none))) 131] false) (.seq (.region 1 #[o 3 (.move (.tmp 0)) 79,o 4 (.nilCheck (.tmp 3)) 0,o 5 (.fieldAddr 84 (.tmp 4) 3) 0,o 6 (.load 82 (.tmp 5)) 82,o 7 (.move (.tmp 0)) 79,o 8 (.nilCheck (.tmp 7)) 0,o 9 (.fieldAddr 84 (.tmp 8) 3) 0,o 10 (.load 82 (.tmp 9)) 82,o 11 (.call ⟨.builtin .len,#[.tmp 10],#[82]⟩) 3,o 12 (.binOp .sub 3 (.tmp 11) (xi 1) 3) 3,o 13 (.indexAddr 82 (.tmp 6) (.tmp 12)) 0,o 14 (.load 131 (.tmp 13)) 131,o 2 (.assign (.tmp 14)) 131] false) .ret))
theorem cal66 (args:Array Value) (H:IH) (h:args.size≤15):cal J okAll 66 args H=finish J [.tmp 2] (run J okAll C66 (regsOf args.toList 0 .leaf) H):=cal_er J H okAll 66 args Tryz.f66 _ C66 _ rfl rfl rfl (by kernel_rfl) rfl h rfl rfl
def C67:Code:=(.region 0 #[o 4 (.move (.tmp 1)) 3,o 5 (.build 86 #[(0,.tmp 4)]) 86,o 6 (.makeInterface 86 (.tmp 5)) 20,oz (.panic (.tmp 6)) 0] false)
theorem cal67 (args:Array Value) (H:IH) (h:args.size≤7):cal J okAll 67 args H=finish J [] (run J okAll C67 (regsOf args.toList 0 .leaf) H):=cal_er J H okAll 67 args Tryz.f67 _ C67 _ rfl rfl rfl (by kernel_rfl) rfl h rfl rfl
def C68:Code:=(.seq (.region 0 #[o 6 (.move (.tmp 1)) 139,o 7 (.nilCheck (.tmp 6)) 0,o 8 (.fieldAddr 30 (.tmp 7) 0) 0,o 9 (.load 3 (.tmp 8)) 3] false) (.block 0 (.seq (.region 2 #[o 13 (.binOp .eql 3 (.tmp 9) (xi 18) 3) 4,o 12 (.assign (.tmp 13)) 4] false) (.cond (.tmp 12) (.region 3 #[o 14 (.move (.tmp 0)) 79,o 15 (.move (.tmp 1)) 139,o 16 (.nilCheck (.tmp 15)) 0,o 17 (.fieldAddr 30 (.tmp 16) 2) 0,o 18 (.load 3 (.tmp 17)) 3,o 19 (.call ⟨.value (.func 97),#[.tmp 14,.tmp 18],#[79,3]⟩) 0] false) (.seq (.region 4 #[o 21 (.binOp .eql 3 (.tmp 9) (xi 19) 3) 4,o 20 (.assign (.tmp 21)) 4] false) (.cond (.tmp 20) (.seq (.region 5 #[o 22 (.move (.tmp 0)) 79,o 23 (.move (.tmp 1)) 139,o 24 (.nilCheck (.tmp 23)) 0,o 25 (.fieldAddr 30 (.tmp 24) 2) 0,o 26 (.load 3 (.tmp 25)) 3,o 27 (.call ⟨.value (.func 98),#[.tmp 22,.tmp 26],#[79,3]⟩) 2,o 28 (.binOp .neq 2 (.tmp 27) (xi 0) 2) 4] false) (.cond (.tmp 28) (.region 6 #[o 29 (.move (.tmp 0)) 79,o 30 (.move (.tmp 1)) 139,o 31 (.nilCheck (.tmp 30)) 0,o 32 (.fieldAddr 30 (.tmp 31) 3) 0,o 33 (.load 3 (.tmp 32)) 3,o 34 (.call ⟨.value (.func 97),#[.tmp 29,.tmp 33],#[79,3]⟩) 0] false) (.region 7 #[o 35 (.move (.tmp 0)) 79,o 36 (.move (.tmp 1)) 139,o 37 (.nilCheck (.tmp 36)) 0,o 38 (.fieldAddr 30 (.tmp 37) 4) 0,o 39 (.load 3 (.tmp 38)) 3,o 40 (.call ⟨.value (.func 97),#[.tmp 35,.tmp 39],#[79,3]⟩) 0] false))) (.seq (.region 8 #[o 42 (.binOp .eql 3 (.tmp 9) (xi 20) 3) 4,o 41 (.assign (.tmp 42)) 4] false) (.cond (.tmp 41) (.region 9 #[o 43 (.move (.tmp 0)) 79,o 44 (.move (.tmp 1)) 139,o 45 (.call ⟨.value (.func 99),#[.tmp 43,.tmp 44],#[79,139]⟩) 0] false) (.seq (.region 10 #[o 47 (.binOp .eql 3 (.tmp 9) (xi 21) 3) 4,o 46 (.assign (.tmp 47)) 4] false) (.cond (.tmp 46) (.seq (.region 11 #[o 48 (.move (.tmp 0)) 79,o 49 (.move (.tmp 1)) 139,o 50 (.nilCheck (.tmp 49)) 0,o 51 (.fieldAddr 30 (.tmp 50) 6) 0,o 52 (.load 28 (.tmp 51)) 28,o 53 (.call ⟨.value (.func 100),#[.tmp 48,.tmp 52],#[79,28]⟩) 136,o 4 (.assign (.tmp 53)) 136] false) (.seq (.region 12 #[o 54 (.move (.tmp 0)) 79,o 55 (.call ⟨.value (.func 101),#[.tmp 54],#[79]⟩) 0] false) (.region 13 #[o 56 (.move (.tmp 0)) 79,o 57 (.move (.tmp 1)) 139,o 58 (.nilCheck (.tmp 57)) 0,o 59 (.fieldAddr 30 (.tmp 58) 2) 0,o 60 (.load 3 (.tmp 59)) 3,o 61 (.move (.tmp 4)) 136,o 62 (.call ⟨.value (.func 65),#[.tmp 56,.tmp 60,.tmp 61],#[79,3,136]⟩) 0] false))) (.seq (.region 14 #[o 64 (.binOp .eql 3 (.tmp 9) (xi 22) 3) 4,o 63 (.assign (.tmp 64)) 4] false) (.cond (.tmp 63) (.seq (.region 15 #[o 65 (.move (.tmp 0)) 79,o 66 (.move (.tmp 1)) 139,o 67 (.nilCheck (.tmp 66)) 0,o 68 (.fieldAddr 30 (.tmp 67) 2) 0,o 69 (.load 3 (.tmp 68)) 3,o 70 (.call ⟨.value (.func 102),#[.tmp 65,.tmp 69],#[79,3]⟩) 175,o 71 (.nilCheck (.tmp 70)) 0,o 72 (.load 62 (.tmp 71)) 62,o 5 (.assign (.tmp 72)) 62] false) (.seq (.region 16 #[o 73 (.move (.tmp 0)) 79,o 74 (.call ⟨.value (.func 101),#[.tmp 73],#[79]⟩) 0] false) (.seq (.seq (.region 17 #[o 75 (.move (.tmp 0)) 79,o 76 (.nilCheck (.tmp 75)) 0,o 77 (.fieldAddr 84 (.tmp 76) 3) 0,o 78 (.load 82 (.tmp 77)) 82,o 79 (.call ⟨.builtin .len,#[.tmp 78],#[82]⟩) 3,o 80 (.binOp .eql 3 (.tmp 79) (xi 0) 3) 4] false) (.cond (.tmp 80) (.region 18 #[o 81 (.move (.tmp 0)) 79,o 82 (.call ⟨.value (.func 67),#[.tmp 81,xi 1],#[79,3]⟩) 0] false) .skip)) (.region 19 #[o 83 (.move (.tmp 0)) 79,o 84 (.move (.tmp 0)) 79,o 85 (.call ⟨.value (.func 66),#[.tmp 84],#[79]⟩) 131,o 86 (.call ⟨.value (.func 104),#[.tmp 85],#[131]⟩) 139,o 87 (.nilCheck (.tmp 86)) 0,o 88 (.fieldAddr 30 (.tmp 87) 1) 0,o 89 (.load 3 (.tmp 88)) 3,o 90 (.move (.tmp 5)) 62,o 91 (.call ⟨.value (.func 103),#[.tmp 83,.tmp 89,.tmp 90],#[79,3,62]⟩) 0] false)))) (.seq (.region 20 #[o 93 (.binOp .eql 3 (.tmp 9) (xi 23) 3) 4,o 92 (.assign (.tmp 93)) 4] false) (.cond (.tmp 92) (.region 21 #[o 94 (.move (.tmp 0)) 79,o 95 (.move (.tmp 0)) 79,o 96 (.move (.tmp 1)) 139,o 97 (.nilCheck (.tmp 96)) 0,o 98 (.fieldAddr 30 (.tmp 97) 2) 0,o 99 (.load 3 (.tmp 98)) 3,o 100 (.call ⟨.value (.func 102),#[.tmp 95,.tmp 99],#[79,3]⟩) 175,o 101 (.nilCheck (.tmp 100)) 0,o 102 (.load 62 (.tmp 101)) 62,o 103 (.call ⟨.value (.func 105),#[.tmp 94,.tmp 102],#[79,62]⟩) 0] false) (.region 1 #[o 10 (.move (.tmp 0)) 79,o 11 (.call ⟨.value (.func 67),#[.tmp 10,xi 6],#[79,3]⟩) 0] false)))))))))))))))
theorem cal68 (args:Array Value) (H:IH) (h:args.size≤104):cal J okAll 68 args H=finish J [] (run J okAll C68 (regsOf args.toList 0 .leaf) H):=cal_er J H okAll 68 args Tryz.f68 _ C68 _ rfl rfl rfl (by kernel_rfl) rfl h rfl rfl
def D69_5:List Oper:=regOf Tryz.f69 5
@[simp] def A69_5:List Ann:=[a0 (o 29 (.move (.tmp 0)) 79),a0 (o 30 (.move (.tmp 1)) 139),a0 (o 31 (.nilCheck (.tmp 30)) 0),a0 (o 32 (.fieldAddr 30 (.tmp 31) 1) 0),al (o 33 (.load 3 (.tmp 32)) 3) [1],a0 (o 34 (.move (.tmp 0)) 79),a0 (o 35 (.move (.tmp 1)) 139),a0 (o 36 (.nilCheck (.tmp 35)) 0),a0 (o 37 (.fieldAddr 30 (.tmp 36) 2) 0),a0 (o 38 (.load 3 (.tmp 37)) 3),ae (o 39 (.call ⟨.value (.func 102),#[.tmp 34,.tmp 38],#[79,3]⟩) 175) true,a0 (o 40 (.nilCheck (.tmp 39)) 0),a0 (o 41 (.load 62 (.tmp 40)) 62),ae (o 42 (.call ⟨.value (.func 103),#[.tmp 29,.tmp 33,.tmp 41],#[79,3,62]⟩) 0) true]
def O69_5:List Oper:=A69_5.map (·.o)
@[simp] theorem r69_5 (T:Regs) (H:IH):run J okAll (.region 5 D69_5.toArray true) T H=annSel J okAll D69_5.toArray T H (eRun J (cal J okAll) O69_5.toArray A69_5 T H 0 []):=r_ann (by kernel_rfl) (by kernel_rfl) 5 T H
def D69_18:List Oper:=regOf Tryz.f69 18
@[simp] def A69_18:List Ann:=[a0 (o 104 (.move (.tmp 0)) 79),a0 (o 105 (.move (.tmp 0)) 79),a0 (o 106 (.nilCheck (.tmp 105)) 0),a0 (o 107 (.fieldAddr 84 (.tmp 106) 7) 0),a0 (o 108 (.fieldAddr 44 (.tmp 107) 1) 0),al (o 109 (.load 34 (.tmp 108)) 34) [1,2],a0 (o 110 (.move (.tmp 0)) 79),a0 (o 111 (.move (.tmp 1)) 139),a0 (o 112 (.nilCheck (.tmp 111)) 0),a0 (o 113 (.fieldAddr 30 (.tmp 112) 2) 0),a0 (o 114 (.load 3 (.tmp 113)) 3),ae (o 115 (.call ⟨.value (.func 98),#[.tmp 110,.tmp 114],#[79,3]⟩) 2) true,a0 (o 116 (.convert 2 5 (.tmp 115)) 5),ae (o 117 (.buildSlice 34 1 #[(0,.tmp 116)]) 34) true,ae (o 118 (.call ⟨.builtin .append,#[.tmp 109,.tmp 117],#[34,34]⟩) 34) true,a0 (o 119 (.nilCheck (.tmp 104)) 0),a0 (o 120 (.fieldAddr 84 (.tmp 119) 7) 0),a0 (o 121 (.fieldAddr 44 (.tmp 120) 1) 0),ae (oz (.store 34 (.tmp 121) (.tmp 118)) 0) true]
def O69_18:List Oper:=A69_18.map (·.o)
@[simp] theorem r69_18 (T:Regs) (H:IH):run J okAll (.region 18 D69_18.toArray true) T H=annSel J okAll D69_18.toArray T H (eRun J (cal J okAll) O69_18.toArray A69_18 T H 0 []):=r_ann (by kernel_rfl) (by kernel_rfl) 18 T H
def C69:Code:=(.seq (.region 0 #[o 8 (.move (.tmp 1)) 139,o 9 (.nilCheck (.tmp 8)) 0,o 10 (.fieldAddr 30 (.tmp 9) 0) 0,o 11 (.load 3 (.tmp 10)) 3] false) (.block 0 (.seq (.region 2 #[o 16 (.binOp .eql 3 (.tmp 11) (xi 1) 3) 4,o 15 (.assign (.tmp 16)) 4] false) (.cond (.tmp 15) (.region 3 #[o 17 (.move (.tmp 0)) 79,o 18 (.move (.tmp 1)) 139,o 19 (.nilCheck (.tmp 18)) 0,o 20 (.fieldAddr 30 (.tmp 19) 1) 0,o 21 (.load 3 (.tmp 20)) 3,o 22 (.move (.tmp 1)) 139,o 23 (.nilCheck (.tmp 22)) 0,o 24 (.fieldAddr 30 (.tmp 23) 5) 0,o 25 (.load 2 (.tmp 24)) 2,o 26 (.call ⟨.value (.func 106),#[.tmp 17,.tmp 21,.tmp 25],#[79,3,2]⟩) 0] false) (.seq (.region 4 #[o 28 (.binOp .eql 3 (.tmp 11) (xi 3) 3) 4,o 27 (.assign (.tmp 28)) 4] false) (.cond (.tmp 27) (.region 5 D69_5.toArray true) (.seq (.region 6 #[o 44 (.binOp .eql 3 (.tmp 11) (xi 4) 3) 4,o 43 (.assign (.tmp 44)) 4] false) (.cond (.tmp 43) (.seq (.region 7 #[o 46 (.move (.tmp 0)) 79,o 47 (.move (.tmp 1)) 139,o 48 (.call ⟨.value (.func 107),#[.tmp 46,.tmp 47],#[79,139]⟩) 64,o 45 (.move (.tmp 48)) 64,o 49 (.extract (.tmp 45) 0) 2,o 50 (.extract (.tmp 45) 1) 4,o 4 (.assign (.tmp 49)) 2,o 5 (.assign (.tmp 50)) 4] false) (.seq (.seq (.region 8 #[o 51 (.move (.tmp 5)) 4,o 52 (.unOp .not 4 (.tmp 51)) 4] false) (.cond (.tmp 52) (.seq (.region 9 #[o 53 (.move (.tmp 0)) 79,o 54 (.call ⟨.value (.func 96),#[xi 1],#[2]⟩) 62,o 55 (.call ⟨.value (.func 105),#[.tmp 53,.tmp 54],#[79,62]⟩) 0] false) .ret) .skip)) (.region 10 #[o 56 (.move (.tmp 0)) 79,o 57 (.move (.tmp 1)) 139,o 58 (.nilCheck (.tmp 57)) 0,o 59 (.fieldAddr 30 (.tmp 58) 1) 0,o 60 (.load 3 (.tmp 59)) 3,o 61 (.move (.tmp 4)) 2,o 62 (.call ⟨.value (.func 106),#[.tmp 56,.tmp 60,.tmp 61],#[79,3,2]⟩) 0] false))) (.seq (.region 11 #[o 64 (.binOp .eql 3 (.tmp 11) (xi 15) 3) 4,o 63 (.assign (.tmp 64)) 4] false) (.cond (.tmp 63) (.seq (.region 12 #[o 6 (.assign (xi (-1))) 2] false) (.seq (.seq (.region 13 #[o 65 (.move (.tmp 0)) 79,o 66 (.nilCheck (.tmp 65)) 0,o 67 (.fieldAddr 84 (.tmp 66) 5) 0,o 68 (.load 3 (.tmp 67)) 3,o 69 (.move (.tmp 0)) 79,o 70 (.nilCheck (.tmp 69)) 0,o 71 (.fieldAddr 84 (.tmp 70) 1) 0,o 72 (.fieldAddr 37 (.tmp 71) 0) 0,o 73 (.load 34 (.tmp 72)) 34,o 74 (.call ⟨.builtin .len,#[.tmp 73],#[34]⟩) 3,o 75 (.binOp .lss 3 (.tmp 68) (.tmp 74) 3) 4] false) (.cond (.tmp 75) (.seq (.region 14 #[o 76 (.move (.tmp 0)) 79,o 77 (.nilCheck (.tmp 76)) 0,o 78 (.fieldAddr 84 (.tmp 77) 1) 0,o 79 (.fieldAddr 37 (.tmp 78) 0) 0,o 80 (.load 34 (.tmp 79)) 34,o 81 (.move (.tmp 0)) 79,o 82 (.nilCheck (.tmp 81)) 0,o 83 (.fieldAddr 84 (.tmp 82) 5) 0,o 84 (.load 3 (.tmp 83)) 3,o 85 (.indexAddr 34 (.tmp 80) (.tmp 84)) 0,o 86 (.load 5 (.tmp 85)) 5,o 87 (.convert 5 2 (.tmp 86)) 2,o 6 (.assign (.tmp 87)) 2] false) (.region 15 #[o 88 (.move (.tmp 0)) 79,o 89 (.nilCheck (.tmp 88)) 0,o 90 (.fieldAddr 84 (.tmp 89) 5) 0,o 91 (.load 3 (.tmp 90)) 3,o 92 (.binOp .add 3 (.tmp 91) (xi 1) 3) 3,o 93 (.nilCheck (.tmp 88)) 0,o 94 (.fieldAddr 84 (.tmp 93) 5) 0,oz (.store 3 (.tmp 94) (.tmp 92)) 0] false)) .skip)) (.region 16 #[o 95 (.move (.tmp 0)) 79,o 96 (.move (.tmp 1)) 139,o 97 (.nilCheck (.tmp 96)) 0,o 98 (.fieldAddr 30 (.tmp 97) 1) 0,o 99 (.load 3 (.tmp 98)) 3,o 100 (.move (.tmp 6)) 2,o 101 (.call ⟨.value (.func 106),#[.tmp 95,.tmp 99,.tmp 100],#[79,3,2]⟩) 0] false))) (.seq (.region 17 #[o 103 (.binOp .eql 3 (.tmp 11) (xi 16) 3) 4,o 102 (.assign (.tmp 103)) 4] false) (.cond (.tmp 102) (.region 18 D69_18.toArray true) (.seq (.region 19 #[o 123 (.binOp .eql 3 (.tmp 11) (xi 2) 3) 4,o 122 (.assign (.tmp 123)) 4] false) (.cond (.tmp 122) (.seq (.region 20 #[o 124 (.move (.tmp 0)) 79,o 125 (.move (.tmp 1)) 139,o 126 (.nilCheck (.tmp 125)) 0,o 127 (.fieldAddr 30 (.tmp 126) 2) 0,o 128 (.load 3 (.tmp 127)) 3,o 129 (.binOp .geq 3 (.tmp 128) (xi 0) 3) 4,o 130 (.move (.tmp 129)) 4,og 131 (.move (.tmp 1)) 139 6 true,og 132 (.nilCheck (.tmp 131)) 0 6 true,og 133 (.fieldAddr 30 (.tmp 132) 2) 0 6 true,og 134 (.load 3 (.tmp 133)) 3 6 true,og 135 (.move (.tmp 0)) 79 6 true,og 136 (.nilCheck (.tmp 135)) 0 6 true,og 137 (.fieldAddr 84 (.tmp 136) 0) 0 6 true,og 138 (.load 80 (.tmp 137)) 80 6 true,og 139 (.nilCheck (.tmp 138)) 0 6 true,og 140 (.fieldAddr 27 (.tmp 139) 2) 0 6 true,og 141 (.load 24 (.tmp 140)) 24 6 true,og 142 (.call ⟨.builtin .len,#[.tmp 141],#[24]⟩) 3 6 true,og 143 (.binOp .lss 3 (.tmp 134) (.tmp 142) 3) 4 6 true,o 144 (.pick (.tmp 130) (.tmp 143) (.const (.bool false))) 4,o 145 (.move (.tmp 144)) 4,og 146 (.move (.tmp 0)) 79 21 true,og 147 (.nilCheck (.tmp 146)) 0 21 true,og 148 (.fieldAddr 84 (.tmp 147) 2) 0 21 true,og 149 (.load 81 (.tmp 148)) 81 21 true,og 150 (.call ⟨.value (.func 108),#[.tmp 149,xi 0],#[81,3]⟩) 3 21 true,og 151 (.binOp .eql 3 (.tmp 150) (xi 3) 3) 4 21 true,o 152 (.pick (.tmp 145) (.tmp 151) (.const (.bool false))) 4,o 153 (.call ⟨.value (.func 63),#[.tmp 124,.tmp 152],#[79,4]⟩) 0] false) (.region 21 #[o 154 (.move (.tmp 0)) 79,o 155 (.move (.tmp 1)) 139,o 156 (.move (.tmp 0)) 79,o 157 (.nilCheck (.tmp 156)) 0,o 158 (.fieldAddr 84 (.tmp 157) 0) 0,o 159 (.load 80 (.tmp 158)) 80,o 160 (.nilCheck (.tmp 159)) 0,o 161 (.fieldAddr 27 (.tmp 160) 2) 0,o 162 (.load 24 (.tmp 161)) 24,o 163 (.move (.tmp 1)) 139,o 164 (.nilCheck (.tmp 163)) 0,o 165 (.fieldAddr 30 (.tmp 164) 2) 0,o 166 (.load 3 (.tmp 165)) 3,o 167 (.indexAddr 24 (.tmp 162) (.tmp 166)) 0,o 168 (.load 9 (.tmp 167)) 9,o 169 (.call ⟨.value (.func 109),#[.tmp 154,.tmp 155,.tmp 168],#[79,139,9]⟩) 0] false)) (.seq (.seq (.region 22 #[o 171 (.binOp .eql 3 (.tmp 11) (xi 13) 3) 4,o 170 (.assign (.tmp 171)) 4] false) (.cond (.tmp 170) .skip (.seq (.region 23 #[o 172 (.binOp .eql 3 (.tmp 11) (xi 14) 3) 4,o 170 (.assign (.tmp 172)) 4] false) (.cond (.tmp 170) .skip (.seq (.region 24 #[o 173 (.binOp .eql 3 (.tmp 11) (xi 11) 3) 4,o 170 (.assign (.tmp 173)) 4] false) (.cond (.tmp 170) .skip (.region 25 #[o 174 (.binOp .eql 3 (.tmp 11) (xi 12) 3) 4,o 170 (.assign (.tmp 174)) 4] false))))))) (.cond (.tmp 170) (.region 26 #[o 175 (.move (.tmp 0)) 79,o 176 (.move (.tmp 1)) 139,o 177 (.call ⟨.value (.func 110),#[.tmp 175,.tmp 176],#[79,139]⟩) 0] false) (.seq (.region 27 #[o 179 (.binOp .eql 3 (.tmp 11) (xi 17) 3) 4,o 178 (.assign (.tmp 179)) 4] false) (.cond (.tmp 178) (.seq (.region 28 #[o 180 (.move (.tmp 0)) 79,o 181 (.move (.tmp 1)) 139,o 182 (.nilCheck (.tmp 181)) 0,o 183 (.fieldAddr 30 (.tmp 182) 6) 0,o 184 (.load 28 (.tmp 183)) 28,o 185 (.call ⟨.value (.func 100),#[.tmp 180,.tmp 184],#[79,28]⟩) 136,o 7 (.assign (.tmp 185)) 136] false) (.seq (.region 29 #[o 186 (.move (.tmp 0)) 79,o 187 (.move (.tmp 1)) 139,o 188 (.nilCheck (.tmp 187)) 0,o 189 (.fieldAddr 30 (.tmp 188) 8) 0,o 190 (.load 28 (.tmp 189)) 28,o 191 (.call ⟨.value (.func 111),#[.tmp 186,.tmp 190],#[79,28]⟩) 0] false) (.region 30 #[o 192 (.move (.tmp 0)) 79,o 193 (.move (.tmp 1)) 139,o 194 (.nilCheck (.tmp 193)) 0,o 195 (.fieldAddr 30 (.tmp 194) 2) 0,o 196 (.load 3 (.tmp 195)) 3,o 197 (.move (.tmp 7)) 136,o 198 (.call ⟨.value (.func 65),#[.tmp 192,.tmp 196,.tmp 197],#[79,3,136]⟩) 0] false))) (.region 1 #[o 12 (.move (.tmp 0)) 79,o 13 (.move (.tmp 1)) 139,o 14 (.call ⟨.value (.func 112),#[.tmp 12,.tmp 13],#[79,139]⟩) 0] false)))))))))))))))))))
theorem cal69 (args:Array Value) (H:IH) (h:args.size≤199):cal J okAll 69 args H=finish J [] (run J okAll C69 (regsOf args.toList 0 .leaf) H):=cal_er J H okAll 69 args Tryz.f69 _ C69 _ rfl rfl rfl (by kernel_rfl) rfl h rfl rfl
def L70_0:Code:=(.seq (.region 4 #[o 52 (.binOp .lss 3 (.tmp 51) (.tmp 50) 3) 0] false) (.seq (.cond (.tmp 52) .skip (.exit 0)) (.seq (.block 1 (.seq (.region 5 #[o 53 (.indexAddr 22 (.tmp 49) (.tmp 51)) 0,o 54 (.load 88 (.tmp 53)) 88,o 4 (.alloc 88) 0,oz (.store 88 (.tmp 4) (.tmp 54)) 0] false) (.seq (.region 6 #[o 55 (.fieldAddr 88 (.tmp 4) 1) 0,o 56 (.load 28 (.tmp 55)) 28,o 57 (.buildSlice 260 1 #[(0,.tmp 56)]) 260,o 58 (.call ⟨.value (.func 118),#[xi 512,.tmp 57],#[3,260]⟩) 4] false) (.cond (.tmp 58) (.seq (.region 7 #[o 2 (.assign (.const (.bool true))) 4] false) .ret) .skip)))) (.region 8 #[o 59 (.binOp .add 3 (.tmp 51) (xi 1) 3) 3,o 51 (.move (.tmp 59)) 3] false))))
def L70_1:Code:=(.seq (.region 10 #[o 64 (.binOp .lss 3 (.tmp 63) (.tmp 62) 3) 0] false) (.seq (.cond (.tmp 64) .skip (.exit 2)) (.seq (.block 3 (.seq (.region 11 #[o 65 (.indexAddr 23 (.tmp 61) (.tmp 63)) 0,o 66 (.load 90 (.tmp 65)) 90,o 6 (.alloc 90) 0,oz (.store 90 (.tmp 6) (.tmp 66)) 0] false) (.seq (.region 12 #[o 67 (.fieldAddr 90 (.tmp 6) 1) 0,o 68 (.load 28 (.tmp 67)) 28,o 69 (.buildSlice 260 1 #[(0,.tmp 68)]) 260,o 70 (.call ⟨.value (.func 118),#[xi 200,.tmp 69],#[3,260]⟩) 4,o 71 (.move (.tmp 70)) 4,og 72 (.fieldAddr 90 (.tmp 6) 2) 0 4 false,og 73 (.load 9 (.tmp 72)) 9 4 false,og 74 (.buildSlice 24 1 #[(0,.tmp 73)]) 24 4 false,og 75 (.call ⟨.value (.func 117),#[.tmp 74],#[24]⟩) 4 4 false,o 76 (.pick (.tmp 71) (.const (.bool true)) (.tmp 75)) 4] false) (.cond (.tmp 76) (.seq (.region 13 #[o 2 (.assign (.const (.bool true))) 4] false) .ret) .skip)))) (.region 14 #[o 77 (.binOp .add 3 (.tmp 63) (xi 1) 3) 3,o 63 (.move (.tmp 77)) 3] false))))
def L70_2:Code:=(.seq (.region 28 #[o 124 (.binOp .lss 3 (.tmp 123) (.tmp 122) 3) 0] false) (.seq (.cond (.tmp 124) .skip (.exit 8)) (.seq (.block 9 (.seq (.region 29 #[o 125 (.indexAddr 54 (.tmp 121) (.tmp 123)) 0,o 126 (.load 30 (.tmp 125)) 30,o 13 (.alloc 30) 0,oz (.store 30 (.tmp 13) (.tmp 126)) 0] false) (.seq (.region 30 #[o 127 (.fieldAddr 30 (.tmp 13) 6) 0,o 128 (.load 28 (.tmp 127)) 28,o 129 (.fieldAddr 30 (.tmp 13) 7) 0,o 130 (.load 28 (.tmp 129)) 28,o 131 (.buildSlice 260 2 #[(0,.tmp 128),(1,.tmp 130)]) 260,o 132 (.call ⟨.value (.func 118),#[xi 1024,.tmp 131],#[3,260]⟩) 4,o 133 (.move (.tmp 132)) 4,og 134 (.fieldAddr 30 (.tmp 13) 8) 0 6 false,og 135 (.load 28 (.tmp 134)) 28 6 false,og 136 (.buildSlice 260 1 #[(0,.tmp 135)]) 260 6 false,og 137 (.call ⟨.value (.func 118),#[xi 200,.tmp 136],#[3,260]⟩) 4 6 false,o 138 (.pick (.tmp 133) (.const (.bool true)) (.tmp 137)) 4] false) (.cond (.tmp 138) (.seq (.region 31 #[o 2 (.assign (.const (.bool true))) 4] false) .ret) .skip)))) (.region 32 #[o 139 (.binOp .add 3 (.tmp 123) (xi 1) 3) 3,o 123 (.move (.tmp 139)) 3] false))))
def L70_3:Code:=(.seq (.region 22 #[o 104 (.binOp .lss 3 (.tmp 103) (.tmp 102) 3) 0] false) (.seq (.cond (.tmp 104) .skip (.exit 6)) (.seq (.block 7 (.seq (.region 23 #[o 105 (.indexAddr 57 (.tmp 101) (.tmp 103)) 0,o 106 (.load 56 (.tmp 105)) 56,o 11 (.alloc 56) 0,oz (.store 56 (.tmp 11) (.tmp 106)) 0] false) (.seq (.seq (.region 24 #[o 107 (.move (.tmp 7)) 3,o 108 (.fieldAddr 56 (.tmp 11) 1) 0,o 109 (.load 54 (.tmp 108)) 54,o 110 (.call ⟨.builtin .len,#[.tmp 109],#[54]⟩) 3,o 111 (.binOp .sub 3 (.tmp 107) (.tmp 110) 3) 3,o 7 (.assign (.tmp 111)) 3] false) (.seq (.region 25 #[o 112 (.move (.tmp 7)) 3,o 113 (.binOp .lss 3 (.tmp 112) (xi 0) 3) 4,o 114 (.move (.tmp 113)) 4,og 115 (.fieldAddr 56 (.tmp 11) 0) 0 2 false,og 116 (.load 28 (.tmp 115)) 28 2 false,og 117 (.buildSlice 260 1 #[(0,.tmp 116)]) 260 2 false,og 118 (.call ⟨.value (.func 118),#[xi 200,.tmp 117],#[3,260]⟩) 4 2 false,o 119 (.pick (.tmp 114) (.const (.bool true)) (.tmp 118)) 4] false) (.cond (.tmp 119) (.seq (.region 26 #[o 2 (.assign (.const (.bool true))) 4] false) .ret) .skip))) (.seq (.region 27 #[o 120 (.fieldAddr 56 (.tmp 11) 1) 0,o 121 (.load 54 (.tmp 120)) 54,o 122 (.call ⟨.builtin .len,#[.tmp 121],#[54]⟩) 3,o 123 (.move (xi 0)) 3] false) (.block 8 (.loop L70_2)))))) (.region 33 #[o 140 (.binOp .add 3 (.tmp 103) (xi 1) 3) 3,o 103 (.move (.tmp 140)) 3] false))))
def L70_4:Code:=(.seq (.region 17 #[o 82 (.binOp .lss 3 (.tmp 81) (.tmp 80) 3) 0] false) (.seq (.cond (.tmp 82) .skip (.exit 4)) (.seq (.block 5 (.seq (.region 18 #[o 83 (.indexAddr 25 (.tmp 79) (.tmp 81)) 0,o 84 (.load 59 (.tmp 83)) 59,o 9 (.alloc 59) 0,oz (.store 59 (.tmp 9) (.tmp 84)) 0] false) (.seq (.seq (.region 19 #[o 85 (.fieldAddr 59 (.tmp 9) 2) 0,o 86 (.load 3 (.tmp 85)) 3,o 87 (.binOp .gtr 3 (.tmp 86) (xi 200) 3) 4,o 88 (.move (.tmp 87)) 4,og 89 (.fieldAddr 59 (.tmp 9) 0) 0 3 false,og 90 (.load 28 (.tmp 89)) 28 3 false,og 91 (.buildSlice 260 1 #[(0,.tmp 90)]) 260 3 false,og 92 (.call ⟨.value (.func 118),#[xi 200,.tmp 91],#[3,260]⟩) 4 3 false,o 93 (.pick (.tmp 88) (.const (.bool true)) (.tmp 92)) 4,o 94 (.move (.tmp 93)) 4,og 95 (.fieldAddr 59 (.tmp 9) 3) 0 9 false,og 96 (.load 57 (.tmp 95)) 57 9 false,og 97 (.buildSlice 262 1 #[(0,.tmp 96)]) 262 9 false,og 98 (.call ⟨.value (.func 119),#[xi 2000,.tmp 97],#[3,262]⟩) 4 9 false,o 99 (.pick (.tmp 94) (.const (.bool true)) (.tmp 98)) 4] false) (.cond (.tmp 99) (.seq (.region 20 #[o 2 (.assign (.const (.bool true))) 4] false) .ret) .skip)) (.seq (.region 21 #[o 100 (.fieldAddr 59 (.tmp 9) 3) 0,o 101 (.load 57 (.tmp 100)) 57,o 102 (.call ⟨.builtin .len,#[.tmp 101],#[57]⟩) 3,o 103 (.move (xi 0)) 3] false) (.block 6 (.loop L70_3)))))) (.region 34 #[o 141 (.binOp .add 3 (.tmp 81) (xi 1) 3) 3,o 81 (.move (.tmp 141)) 3] false))))
def C70:Code:=(.seq (.region 0 #[o 1 (.box 27 (.tmp 0)) 0,o 2 (.assign (.const (.bool false))) 4] false) (.seq (.seq (.region 1 #[o 14 (.fieldAddr 27 (.tmp 1) 0) 0,o 15 (.load 22 (.tmp 14)) 22,o 16 (.buildSlice 246 1 #[(0,.tmp 15)]) 246,o 17 (.call ⟨.value (.func 113),#[xi 1024,.tmp 16],#[3,246]⟩) 4,o 18 (.move (.tmp 17)) 4,og 19 (.fieldAddr 27 (.tmp 1) 1) 0 4 false,og 20 (.load 23 (.tmp 19)) 23 4 false,og 21 (.buildSlice 249 1 #[(0,.tmp 20)]) 249 4 false,og 22 (.call ⟨.value (.func 114),#[xi 512,.tmp 21],#[3,249]⟩) 4 4 false,o 23 (.pick (.tmp 18) (.const (.bool true)) (.tmp 22)) 4,o 24 (.move (.tmp 23)) 4,og 25 (.fieldAddr 27 (.tmp 1) 2) 0 10 false,og 26 (.load 24 (.tmp 25)) 24 10 false,og 27 (.fieldAddr 27 (.tmp 1) 3) 0 10 false,og 28 (.load 24 (.tmp 27)) 24 10 false,og 29 (.buildSlice 252 2 #[(0,.tmp 26),(1,.tmp 28)]) 252 10 false,og 30 (.call ⟨.value (.func 115),#[xi 256,.tmp 29],#[3,252]⟩) 4 10 false,o 31 (.pick (.tmp 24) (.const (.bool true)) (.tmp 30)) 4,o 32 (.move (.tmp 31)) 4,og 33 (.fieldAddr 27 (.tmp 1) 4) 0 18 false,og 34 (.load 25 (.tmp 33)) 25 18 false,og 35 (.buildSlice 255 1 #[(0,.tmp 34)]) 255 18 false,og 36 (.call ⟨.value (.func 116),#[xi 1024,.tmp 35],#[3,255]⟩) 4 18 false,o 37 (.pick (.tmp 32) (.const (.bool true)) (.tmp 36)) 4,o 38 (.move (.tmp 37)) 4,og 39 (.fieldAddr 27 (.tmp 1) 2) 0 24 false,og 40 (.load 24 (.tmp 39)) 24 24 false,og 41 (.call ⟨.value (.func 117),#[.tmp 40],#[24]⟩) 4 24 false,o 42 (.pick (.tmp 38) (.const (.bool true)) (.tmp 41)) 4,o 43 (.move (.tmp 42)) 4,og 44 (.fieldAddr 27 (.tmp 1) 3) 0 29 false,og 45 (.load 24 (.tmp 44)) 24 29 false,og 46 (.call ⟨.value (.func 117),#[.tmp 45],#[24]⟩) 4 29 false,o 47 (.pick (.tmp 43) (.const (.bool true)) (.tmp 46)) 4] false) (.cond (.tmp 47) (.seq (.region 2 #[o 2 (.assign (.const (.bool true))) 4] false) .ret) .skip)) (.seq (.seq (.region 3 #[o 48 (.fieldAddr 27 (.tmp 1) 0) 0,o 49 (.load 22 (.tmp 48)) 22,o 50 (.call ⟨.builtin .len,#[.tmp 49],#[22]⟩) 3,o 51 (.move (xi 0)) 3] false) (.block 0 (.loop L70_0))) (.seq (.seq (.region 9 #[o 60 (.fieldAddr 27 (.tmp 1) 1) 0,o 61 (.load 23 (.tmp 60)) 23,o 62 (.call ⟨.builtin .len,#[.tmp 61],#[23]⟩) 3,o 63 (.move (xi 0)) 3] false) (.block 2 (.loop L70_1))) (.seq (.region 15 #[o 7 (.assign (xi 20000)) 3] false) (.seq (.seq (.region 16 #[o 78 (.fieldAddr 27 (.tmp 1) 4) 0,o 79 (.load 25 (.tmp 78)) 25,o 80 (.call ⟨.builtin .len,#[.tmp 79],#[25]⟩) 3,o 81 (.move (xi 0)) 3] false) (.block 4 (.loop L70_4))) (.seq (.region 35 #[o 2 (.assign (.const (.bool false))) 4] false) .ret)))))))
theorem cal70 (args:Array Value) (H:IH) (h:args.size≤142):cal J okAll 70 args H=finish J [.tmp 2] (run J okAll C70 (regsOf args.toList 0 .leaf) H):=cal_er J H okAll 70 args Tryz.f70 _ C70 _ rfl rfl rfl (by kernel_rfl) rfl h rfl rfl
def C71:Code:=(.seq (.region 0 #[o 4 (.assign (.const (.bool false))) 4] false) (.seq (.region 1 #[o 5 (.move (.tmp 0)) 54,o 6 (.move (.tmp 1)) 142,o 7 (.call ⟨.value (.func 120),#[.tmp 5,.tmp 6],#[54,142]⟩) 3,o 8 (.binOp .geq 3 (.tmp 7) (xi 0) 3) 4,o 4 (.assign (.tmp 8)) 4] false) .ret))
theorem cal71 (args:Array Value) (H:IH) (h:args.size≤9):cal J okAll 71 args H=finish J [.tmp 4] (run J okAll C71 (regsOf args.toList 0 .leaf) H):=cal_er J H okAll 71 args Tryz.f71 _ C71 _ rfl rfl rfl (by kernel_rfl) rfl h rfl rfl
def C72:Code:=(.seq (.region 0 #[o 1 (.box 30 (.tmp 0)) 0,o 2 (.assign (.const (.bool false))) 4] false) (.seq (.region 1 #[o 3 (.load 30 (.tmp 1)) 30,o 4 (.call ⟨.value (.func 73),#[.tmp 3],#[30]⟩) 4,o 5 (.unOp .not 4 (.tmp 4)) 4,o 2 (.assign (.tmp 5)) 4] false) .ret))
theorem cal72 (args:Array Value) (H:IH) (h:args.size≤6):cal J okAll 72 args H=finish J [.tmp 2] (run J okAll C72 (regsOf args.toList 0 .leaf) H):=cal_er J H okAll 72 args Tryz.f72 _ C72 _ rfl rfl rfl (by kernel_rfl) rfl h rfl rfl
def L73_0:Code:=(.seq (.region 4 #[o 16 (.binOp .lss 3 (.tmp 15) (.tmp 14) 3) 0] false) (.seq (.cond (.tmp 16) .skip (.exit 0)) (.seq (.block 1 (.seq (.region 5 #[o 17 (.indexAddr 34 (.tmp 13) (.tmp 15)) 0,o 18 (.load 5 (.tmp 17)) 5,o 6 (.assign (.tmp 18)) 5] false) (.seq (.region 6 #[o 19 (.move (.tmp 6)) 5,o 20 (.binOp .eql 5 (.tmp 19) (.const (.int .u8 78)) 5) 4] false) (.cond (.tmp 20) (.region 7 #[o 21 (.fieldAddr 30 (.tmp 3) 5) 0,oz (.store 2 (.tmp 21) (xi 0)) 0] false) (.seq (.region 8 #[o 22 (.move (.tmp 6)) 5,o 23 (.call ⟨.value (.func 122),#[.tmp 3,.tmp 22],#[139,5]⟩) 193,o 7 (.assign (.tmp 23)) 193] false) (.seq (.region 9 #[o 24 (.move (.tmp 7)) 193,o 25 (.binOp .neq 193 (.tmp 24) (.const (.pointer none)) 193) 4] false) (.cond (.tmp 25) (.region 10 #[o 26 (.move (.tmp 7)) 193,o 27 (.nilCheck (.tmp 26)) 0,oz (.store 3 (.tmp 27) (xi 0)) 0] false) (.region 11 #[o 28 (.move (.tmp 6)) 5,o 29 (.call ⟨.value (.func 123),#[.tmp 3,.tmp 28],#[139,5]⟩) 195,o 30 (.nilCheck (.tmp 29)) 0,oz (.store 28 (.tmp 30) (.const (.slice none 0 0))) 0] false)))))))) (.region 12 #[o 31 (.binOp .add 3 (.tmp 15) (xi 1) 3) 3,o 15 (.move (.tmp 31)) 3] false))))
def C73:Code:=(.seq (.region 0 #[o 1 (.box 30 (.tmp 0)) 0,o 2 (.assign (.const (.bool false))) 4] false) (.seq (.region 1 #[o 8 (.load 30 (.tmp 1)) 30,o 3 (.alloc 30) 0,oz (.store 30 (.tmp 3) (.tmp 8)) 0] false) (.seq (.region 2 #[o 9 (.fieldAddr 30 (.tmp 1) 0) 0,o 10 (.load 3 (.tmp 9)) 3,o 11 (.call ⟨.value (.func 121),#[.tmp 10],#[3]⟩) 9,o 4 (.assign (.tmp 11)) 9] false) (.seq (.seq (.region 3 #[o 12 (.move (.tmp 4)) 9,o 13 (.convert 9 34 (.tmp 12)) 34,o 14 (.call ⟨.builtin .len,#[.tmp 13],#[34]⟩) 3,o 15 (.move (xi 0)) 3] false) (.block 0 (.loop L73_0))) (.seq (.region 13 #[o 32 (.move (.tmp 4)) 9,o 33 (.binOp .neq 9 (.tmp 32) (.const (.string ⟨#[]⟩)) 9) 4,o 34 (.move (.tmp 33)) 4,og 35 (.fieldAddr 30 (.tmp 3) 1) 0 2 true,og 36 (.load 3 (.tmp 35)) 3 2 true,og 37 (.binOp .eql 3 (.tmp 36) (xi 0) 3) 4 2 true,o 38 (.pick (.tmp 34) (.tmp 37) (.const (.bool false))) 4,o 39 (.move (.tmp 38)) 4,og 40 (.fieldAddr 30 (.tmp 3) 2) 0 7 true,og 41 (.load 3 (.tmp 40)) 3 7 true,og 42 (.binOp .eql 3 (.tmp 41) (xi 0) 3) 4 7 true,o 43 (.pick (.tmp 39) (.tmp 42) (.const (.bool false))) 4,o 44 (.move (.tmp 43)) 4,og 45 (.fieldAddr 30 (.tmp 3) 3) 0 12 true,og 46 (.load 3 (.tmp 45)) 3 12 true,og 47 (.binOp .eql 3 (.tmp 46) (xi 0) 3) 4 12 true,o 48 (.pick (.tmp 44) (.tmp 47) (.const (.bool false))) 4,o 49 (.move (.tmp 48)) 4,og 50 (.fieldAddr 30 (.tmp 3) 4) 0 17 true,og 51 (.load 3 (.tmp 50)) 3 17 true,og 52 (.binOp .eql 3 (.tmp 51) (xi 0) 3) 4 17 true,o 53 (.pick (.tmp 49) (.tmp 52) (.const (.bool false))) 4,o 54 (.move (.tmp 53)) 4,og 55 (.fieldAddr 30 (.tmp 3) 5) 0 22 true,og 56 (.load 2 (.tmp 55)) 2 22 true,og 57 (.binOp .eql 2 (.tmp 56) (xi 0) 2) 4 22 true,o 58 (.pick (.tmp 54) (.tmp 57) (.const (.bool false))) 4,o 59 (.move (.tmp 58)) 4,og 60 (.fieldAddr 30 (.tmp 3) 6) 0 27 true,og 61 (.load 28 (.tmp 60)) 28 27 true,og 62 (.call ⟨.builtin .len,#[.tmp 61],#[28]⟩) 3 27 true,og 63 (.binOp .eql 3 (.tmp 62) (xi 0) 3) 4 27 true,o 64 (.pick (.tmp 59) (.tmp 63) (.const (.bool false))) 4,o 65 (.move (.tmp 64)) 4,og 66 (.fieldAddr 30 (.tmp 3) 7) 0 33 true,og 67 (.load 28 (.tmp 66)) 28 33 true,og 68 (.call ⟨.builtin .len,#[.tmp 67],#[28]⟩) 3 33 true,og 69 (.binOp .eql 3 (.tmp 68) (xi 0) 3) 4 33 true,o 70 (.pick (.tmp 65) (.tmp 69) (.const (.bool false))) 4,o 71 (.move (.tmp 70)) 4,og 72 (.fieldAddr 30 (.tmp 3) 8) 0 39 true,og 73 (.load 28 (.tmp 72)) 28 39 true,og 74 (.call ⟨.builtin .len,#[.tmp 73],#[28]⟩) 3 39 true,og 75 (.binOp .eql 3 (.tmp 74) (xi 0) 3) 4 39 true,o 76 (.pick (.tmp 71) (.tmp 75) (.const (.bool false))) 4,o 2 (.assign (.tmp 76)) 4] false) .ret)))))
theorem cal73 (args:Array Value) (H:IH) (h:args.size≤77):cal J okAll 73 args H=finish J [.tmp 2] (run J okAll C73 (regsOf args.toList 0 .leaf) H):=cal_er J H okAll 73 args Tryz.f73 _ C73 _ rfl rfl rfl (by kernel_rfl) rfl h rfl rfl
end
noncomputable section
def C96:Code:=(.seq (.region 0 #[o 2 (.assign (.const (.int .u64 0))) 62] false) (.seq (.region 1 #[o 3 (.move (.tmp 0)) 2,o 4 (.convert 2 62 (.tmp 3)) 62,o 5 (.binOp .shl 62 (.tmp 4) (.const (.int .u64 1)) 31) 62,o 6 (.binOp .or 62 (.tmp 5) (.const (.int .u64 1)) 62) 62,o 2 (.assign (.tmp 6)) 62] false) .ret))
theorem cal96 (args:Array Value) (H:IH) (h:args.size≤7):cal J okAll 96 args H=finish J [.tmp 2] (run J okAll C96 (regsOf args.toList 0 .leaf) H):=cal_er J H okAll 96 args Tryz.f96 _ C96 _ rfl rfl rfl (by kernel_rfl) rfl h rfl rfl
def C97:Code:=(.region 0 #[o 4 (.move (.tmp 0)) 79,o 5 (.call ⟨.value (.func 66),#[.tmp 4],#[79]⟩) 131,o 6 (.move (.tmp 0)) 79,o 7 (.call ⟨.value (.func 66),#[.tmp 6],#[79]⟩) 131,o 8 (.move (.tmp 1)) 3,o 9 (.nilCheck (.tmp 5)) 0,o 10 (.fieldAddr 138 (.tmp 9) 0) 0,o 11 (.fieldAddr 135 (.tmp 10) 1) 0,oz (.store 3 (.tmp 11) (.tmp 8)) 0,o 12 (.nilCheck (.tmp 7)) 0,o 13 (.fieldAddr 138 (.tmp 12) 0) 0,o 14 (.fieldAddr 135 (.tmp 13) 2) 0,oz (.store 3 (.tmp 14) (xi 0)) 0] false)
theorem cal97 (args:Array Value) (H:IH) (h:args.size≤15):cal J okAll 97 args H=finish J [] (run J okAll C97 (regsOf args.toList 0 .leaf) H):=cal_er J H okAll 97 args Tryz.f97 _ C97 _ rfl rfl rfl (by kernel_rfl) rfl h rfl rfl
def C98:Code:=(.seq (.region 0 #[o 4 (.assign (xi 0)) 2] false) (.seq (.region 1 #[o 6 (.move (.tmp 0)) 79,o 7 (.move (.tmp 1)) 3,o 8 (.call ⟨.value (.func 102),#[.tmp 6,.tmp 7],#[79,3]⟩) 175,o 9 (.nilCheck (.tmp 8)) 0,o 10 (.load 62 (.tmp 9)) 62,o 5 (.assign (.tmp 10)) 62] false) (.seq (.region 2 #[o 11 (.move (.tmp 0)) 79,o 12 (.move (.tmp 5)) 62,o 13 (.call ⟨.value (.func 160),#[.tmp 12],#[62]⟩) 4,o 14 (.call ⟨.value (.func 63),#[.tmp 11,.tmp 13],#[79,4]⟩) 0] false) (.seq (.region 3 #[o 15 (.move (.tmp 5)) 62,o 16 (.call ⟨.value (.func 161),#[.tmp 15],#[62]⟩) 2,o 4 (.assign (.tmp 16)) 2] false) .ret))))
theorem cal98 (args:Array Value) (H:IH) (h:args.size≤17):cal J okAll 98 args H=finish J [.tmp 4] (run J okAll C98 (regsOf args.toList 0 .leaf) H):=cal_er J H okAll 98 args Tryz.f98 _ C98 _ rfl rfl rfl (by kernel_rfl) rfl h rfl rfl
def L100_0:Code:=(.seq (.region 2 #[o 10 (.binOp .lss 3 (.tmp 9) (.tmp 8) 3) 0] false) (.seq (.cond (.tmp 10) .skip (.exit 0)) (.seq (.block 1 (.seq (.region 3 #[o 11 (.indexAddr 28 (.tmp 7) (.tmp 9)) 0,o 12 (.load 3 (.tmp 11)) 3,o 6 (.assign (.tmp 12)) 3] false) (.region 4 #[o 13 (.move (.tmp 4)) 136,o 14 (.move (.tmp 0)) 79,o 15 (.move (.tmp 6)) 3,o 16 (.call ⟨.value (.func 102),#[.tmp 14,.tmp 15],#[79,3]⟩) 175,o 17 (.nilCheck (.tmp 16)) 0,o 18 (.load 62 (.tmp 17)) 62,o 19 (.buildSlice 136 1 #[(0,.tmp 18)]) 136,o 20 (.call ⟨.builtin .append,#[.tmp 13,.tmp 19],#[136,136]⟩) 136,o 4 (.assign (.tmp 20)) 136] false))) (.region 5 #[o 21 (.binOp .add 3 (.tmp 9) (xi 1) 3) 3,o 9 (.move (.tmp 21)) 3] false))))
def C100:Code:=(.seq (.region 0 #[o 4 (.assign (.const (.slice none 0 0))) 136] false) (.seq (.seq (.region 1 #[o 7 (.move (.tmp 1)) 28,o 8 (.call ⟨.builtin .len,#[.tmp 7],#[28]⟩) 3,o 9 (.move (xi 0)) 3] false) (.block 0 (.loop L100_0))) (.seq (.region 6 #[o 22 (.move (.tmp 4)) 136,o 4 (.assign (.tmp 22)) 136] false) .ret)))
theorem cal100 (args:Array Value) (H:IH) (h:args.size≤23):cal J okAll 100 args H=finish J [.tmp 4] (run J okAll C100 (regsOf args.toList 0 .leaf) H):=cal_er J H okAll 100 args Tryz.f100 _ C100 _ rfl rfl rfl (by kernel_rfl) rfl h rfl rfl
def D101_0:List Oper:=regOf Tryz.f101 0
@[simp] def A101_0:List Ann:=[a0 (o 2 (.move (.tmp 0)) 79),a0 (o 3 (.nilCheck (.tmp 2)) 0),a0 (o 4 (.fieldAddr 84 (.tmp 3) 4) 0),al (o 5 (.load 3 (.tmp 4)) 3) [1],a0 (o 6 (.move (.tmp 0)) 79),ae (o 7 (.call ⟨.value (.func 66),#[.tmp 6],#[79]⟩) 131) true,a0 (o 8 (.nilCheck (.tmp 7)) 0),a0 (o 9 (.fieldAddr 138 (.tmp 8) 0) 0),a0 (o 10 (.fieldAddr 135 (.tmp 9) 0) 0),a0 (o 11 (.load 133 (.tmp 10)) 133),a0 (o 12 (.nilCheck (.tmp 11)) 0),a0 (o 13 (.fieldAddr 59 (.tmp 12) 2) 0),a0 (o 14 (.load 3 (.tmp 13)) 3),a0 (o 15 (.binOp .add 3 (.tmp 14) (xi 2) 3) 3),a0 (o 16 (.binOp .sub 3 (.tmp 5) (.tmp 15) 3) 3),a0 (o 17 (.nilCheck (.tmp 2)) 0),a0 (o 18 (.fieldAddr 84 (.tmp 17) 4) 0),ae (oz (.store 3 (.tmp 18) (.tmp 16)) 0) true]
def O101_0:List Oper:=A101_0.map (·.o)
@[simp] theorem r101_0 (T:Regs) (H:IH):run J okAll (.region 0 D101_0.toArray true) T H=annSel J okAll D101_0.toArray T H (eRun J (cal J okAll) O101_0.toArray A101_0 T H 0 []):=r_ann (by kernel_rfl) (by kernel_rfl) 0 T H
def C101:Code:=(.seq (.region 0 D101_0.toArray true) (.region 1 #[o 19 (.move (.tmp 0)) 79,o 20 (.move (.tmp 0)) 79,o 21 (.nilCheck (.tmp 20)) 0,o 22 (.fieldAddr 84 (.tmp 21) 3) 0,o 23 (.load 82 (.tmp 22)) 82,o 24 (.move (.tmp 0)) 79,o 25 (.nilCheck (.tmp 24)) 0,o 26 (.fieldAddr 84 (.tmp 25) 3) 0,o 27 (.load 82 (.tmp 26)) 82,o 28 (.call ⟨.builtin .len,#[.tmp 27],#[82]⟩) 3,o 29 (.binOp .sub 3 (.tmp 28) (xi 1) 3) 3,o 30 (.slice 82 (.tmp 23) none (some (.tmp 29)) none) 82,o 31 (.nilCheck (.tmp 19)) 0,o 32 (.fieldAddr 84 (.tmp 31) 3) 0,oz (.store 82 (.tmp 32) (.tmp 30)) 0] false))
theorem cal101 (args:Array Value) (H:IH) (h:args.size≤33):cal J okAll 101 args H=finish J [] (run J okAll C101 (regsOf args.toList 0 .leaf) H):=cal_er J H okAll 101 args Tryz.f101 _ C101 _ rfl rfl rfl (by kernel_rfl) rfl h rfl rfl
def C102:Code:=(.seq (.region 0 #[o 4 (.assign (.const (.pointer none))) 175] false) (.seq (.region 1 #[o 6 (.move (.tmp 0)) 79,o 7 (.call ⟨.value (.func 66),#[.tmp 6],#[79]⟩) 131,o 5 (.assign (.tmp 7)) 131] false) (.seq (.region 2 #[o 8 (.move (.tmp 0)) 79,o 9 (.move (.tmp 1)) 3,o 10 (.binOp .geq 3 (.tmp 9) (xi 0) 3) 4,o 11 (.move (.tmp 10)) 4,og 12 (.move (.tmp 1)) 3 3 true,og 13 (.move (.tmp 5)) 131 3 true,og 14 (.nilCheck (.tmp 13)) 0 3 true,og 15 (.fieldAddr 138 (.tmp 14) 1) 0 3 true,og 16 (.load 136 (.tmp 15)) 136 3 true,og 17 (.call ⟨.builtin .len,#[.tmp 16],#[136]⟩) 3 3 true,og 18 (.binOp .lss 3 (.tmp 12) (.tmp 17) 3) 4 3 true,o 19 (.pick (.tmp 11) (.tmp 18) (.const (.bool false))) 4,o 20 (.call ⟨.value (.func 63),#[.tmp 8,.tmp 19],#[79,4]⟩) 0] false) (.seq (.region 3 #[o 21 (.move (.tmp 5)) 131,o 22 (.nilCheck (.tmp 21)) 0,o 23 (.fieldAddr 138 (.tmp 22) 1) 0,o 24 (.load 136 (.tmp 23)) 136,o 25 (.move (.tmp 1)) 3,o 26 (.indexAddr 136 (.tmp 24) (.tmp 25)) 0,o 4 (.assign (.tmp 26)) 175] false) .ret))))
theorem cal102 (args:Array Value) (H:IH) (h:args.size≤27):cal J okAll 102 args H=finish J [.tmp 4] (run J okAll C102 (regsOf args.toList 0 .leaf) H):=cal_er J H okAll 102 args Tryz.f102 _ C102 _ rfl rfl rfl (by kernel_rfl) rfl h rfl rfl
def C103:Code:=(.region 0 #[o 6 (.move (.tmp 0)) 79,o 7 (.move (.tmp 1)) 3,o 8 (.call ⟨.value (.func 102),#[.tmp 6,.tmp 7],#[79,3]⟩) 175,o 9 (.move (.tmp 2)) 62,o 10 (.nilCheck (.tmp 8)) 0,oz (.store 62 (.tmp 10) (.tmp 9)) 0] false)
theorem cal103 (args:Array Value) (H:IH) (h:args.size≤11):cal J okAll 103 args H=finish J [] (run J okAll C103 (regsOf args.toList 0 .leaf) H):=cal_er J H okAll 103 args Tryz.f103 _ C103 _ rfl rfl rfl (by kernel_rfl) rfl h rfl rfl
def C104:Code:=(.seq (.region 0 #[o 2 (.assign (.const (.pointer none))) 139] false) (.seq (.region 1 #[o 3 (.move (.tmp 0)) 131,o 4 (.nilCheck (.tmp 3)) 0,o 5 (.fieldAddr 138 (.tmp 4) 0) 0,o 6 (.fieldAddr 135 (.tmp 5) 0) 0,o 7 (.load 133 (.tmp 6)) 133,o 8 (.nilCheck (.tmp 7)) 0,o 9 (.fieldAddr 59 (.tmp 8) 3) 0,o 10 (.load 57 (.tmp 9)) 57,o 11 (.move (.tmp 0)) 131,o 12 (.nilCheck (.tmp 11)) 0,o 13 (.fieldAddr 138 (.tmp 12) 0) 0,o 14 (.fieldAddr 135 (.tmp 13) 1) 0,o 15 (.load 3 (.tmp 14)) 3,o 16 (.indexAddr 57 (.tmp 10) (.tmp 15)) 0,o 17 (.fieldAddr 56 (.tmp 16) 1) 0,o 18 (.load 54 (.tmp 17)) 54,o 19 (.move (.tmp 0)) 131,o 20 (.nilCheck (.tmp 19)) 0,o 21 (.fieldAddr 138 (.tmp 20) 0) 0,o 22 (.fieldAddr 135 (.tmp 21) 2) 0,o 23 (.load 3 (.tmp 22)) 3,o 24 (.binOp .sub 3 (.tmp 23) (xi 1) 3) 3,o 25 (.indexAddr 54 (.tmp 18) (.tmp 24)) 0,o 2 (.assign (.tmp 25)) 139] false) .ret))
theorem cal104 (args:Array Value) (H:IH) (h:args.size≤26):cal J okAll 104 args H=finish J [.tmp 2] (run J okAll C104 (regsOf args.toList 0 .leaf) H):=cal_er J H okAll 104 args Tryz.f104 _ C104 _ rfl rfl rfl (by kernel_rfl) rfl h rfl rfl
def L105_0:Code:=(.block 1 (.seq (.region 0 #[o 6 (.move (.tmp 0)) 79,o 7 (.call ⟨.value (.func 101),#[.tmp 6],#[79]⟩) 0] false) (.seq (.seq (.region 1 #[o 8 (.move (.tmp 0)) 79,o 9 (.nilCheck (.tmp 8)) 0,o 10 (.fieldAddr 84 (.tmp 9) 3) 0,o 11 (.load 82 (.tmp 10)) 82,o 12 (.call ⟨.builtin .len,#[.tmp 11],#[82]⟩) 3,o 13 (.binOp .eql 3 (.tmp 12) (xi 0) 3) 4] false) (.cond (.tmp 13) (.seq (.region 2 #[o 14 (.move (.tmp 0)) 79,o 15 (.move (.tmp 0)) 79,o 16 (.move (.tmp 1)) 62,o 17 (.call ⟨.value (.func 164),#[.tmp 15,.tmp 16],#[79,62]⟩) 9,o 18 (.nilCheck (.tmp 14)) 0,o 19 (.fieldAddr 84 (.tmp 18) 7) 0,o 20 (.fieldAddr 44 (.tmp 19) 2) 0,oz (.store 9 (.tmp 20) (.tmp 17)) 0] false) (.region 3 #[o 21 (.move (.tmp 0)) 79,o 22 (.call ⟨.value (.func 67),#[.tmp 21,xi 2],#[79,3]⟩) 0] false)) .skip)) (.seq (.region 4 #[o 23 (.move (.tmp 0)) 79,o 24 (.call ⟨.value (.func 66),#[.tmp 23],#[79]⟩) 131,o 25 (.call ⟨.value (.func 104),#[.tmp 24],#[131]⟩) 139,o 4 (.assign (.tmp 25)) 139] false) (.seq (.seq (.region 5 #[o 26 (.move (.tmp 4)) 139,o 27 (.nilCheck (.tmp 26)) 0,o 28 (.fieldAddr 30 (.tmp 27) 3) 0,o 29 (.load 3 (.tmp 28)) 3,o 30 (.binOp .eql 3 (.tmp 29) (xi (-1)) 3) 4] false) (.cond (.tmp 30) (.exit 1) .skip)) (.seq (.region 6 #[o 31 (.move (.tmp 0)) 79,o 32 (.move (.tmp 4)) 139,o 33 (.nilCheck (.tmp 32)) 0,o 34 (.fieldAddr 30 (.tmp 33) 4) 0,o 35 (.load 3 (.tmp 34)) 3,o 36 (.move (.tmp 1)) 62,o 37 (.call ⟨.value (.func 103),#[.tmp 31,.tmp 35,.tmp 36],#[79,3,62]⟩) 0] false) (.seq (.region 7 #[o 38 (.move (.tmp 0)) 79,o 39 (.call ⟨.value (.func 66),#[.tmp 38],#[79]⟩) 131,o 5 (.assign (.tmp 39)) 131] false) (.seq (.region 8 #[o 40 (.move (.tmp 5)) 131,o 41 (.move (.tmp 5)) 131,o 42 (.move (.tmp 4)) 139,o 43 (.nilCheck (.tmp 42)) 0,o 44 (.fieldAddr 30 (.tmp 43) 3) 0,o 45 (.load 3 (.tmp 44)) 3,o 46 (.nilCheck (.tmp 40)) 0,o 47 (.fieldAddr 138 (.tmp 46) 0) 0,o 48 (.fieldAddr 135 (.tmp 47) 1) 0,oz (.store 3 (.tmp 48) (.tmp 45)) 0,o 49 (.nilCheck (.tmp 41)) 0,o 50 (.fieldAddr 138 (.tmp 49) 0) 0,o 51 (.fieldAddr 135 (.tmp 50) 2) 0,oz (.store 3 (.tmp 51) (xi 0)) 0] false) .ret))))))))
def C105:Code:=(.block 0 (.loop L105_0))
theorem cal105 (args:Array Value) (H:IH) (h:args.size≤52):cal J okAll 105 args H=finish J [] (run J okAll C105 (regsOf args.toList 0 .leaf) H):=cal_er J H okAll 105 args Tryz.f105 _ C105 _ rfl rfl rfl (by kernel_rfl) rfl h rfl rfl
def C106:Code:=(.region 0 #[o 6 (.move (.tmp 0)) 79,o 7 (.move (.tmp 1)) 3,o 8 (.move (.tmp 2)) 2,o 9 (.call ⟨.value (.func 96),#[.tmp 8],#[2]⟩) 62,o 10 (.call ⟨.value (.func 103),#[.tmp 6,.tmp 7,.tmp 9],#[79,3,62]⟩) 0] false)
theorem cal106 (args:Array Value) (H:IH) (h:args.size≤11):cal J okAll 106 args H=finish J [] (run J okAll C106 (regsOf args.toList 0 .leaf) H):=cal_er J H okAll 106 args Tryz.f106 _ C106 _ rfl rfl rfl (by kernel_rfl) rfl h rfl rfl
def D107_1:List Oper:=regOf Tryz.f107 1
@[simp] def A107_1:List Ann:=[a0 (o 9 (.move (.tmp 0)) 79),a0 (o 10 (.move (.tmp 1)) 139),a0 (o 11 (.nilCheck (.tmp 10)) 0),a0 (o 12 (.fieldAddr 30 (.tmp 11) 2) 0),a0 (o 13 (.load 3 (.tmp 12)) 3),a0 (o 15 (.move (.tmp 0)) 79),a0 (o 16 (.move (.tmp 1)) 139),a0 (o 17 (.nilCheck (.tmp 16)) 0),a0 (o 18 (.fieldAddr 30 (.tmp 17) 3) 0),al (o 19 (.load 3 (.tmp 18)) 3) [1],ae (o 14 (.call ⟨.value (.func 98),#[.tmp 9,.tmp 13],#[79,3]⟩) 2) true,ae (o 20 (.call ⟨.value (.func 98),#[.tmp 15,.tmp 19],#[79,3]⟩) 2) true,a0 (o 6 (.assign (.tmp 14)) 2),a0 (o 7 (.assign (.tmp 20)) 2)]
def O107_1:List Oper:=A107_1.map (·.o)
@[simp] theorem r107_1 (T:Regs) (H:IH):run J okAll (.region 1 D107_1.toArray true) T H=annSel J okAll D107_1.toArray T H (eRun J (cal J okAll) O107_1.toArray A107_1 T H 0 []):=r_ann (by kernel_rfl) (by kernel_rfl) 1 T H
def C107:Code:=(.seq (.region 0 #[o 4 (.assign (xi 0)) 2,o 5 (.assign (.const (.bool false))) 4] false) (.seq (.region 1 D107_1.toArray true) (.seq (.region 2 #[o 8 (.assign (.const (.bool false))) 4] false) (.seq (.seq (.region 3 #[o 21 (.move (.tmp 1)) 139,o 22 (.nilCheck (.tmp 21)) 0,o 23 (.fieldAddr 30 (.tmp 22) 5) 0,o 24 (.load 2 (.tmp 23)) 2] false) (.block 0 (.seq (.region 5 #[o 28 (.binOp .eql 2 (.tmp 24) (xi 1) 2) 4,o 27 (.assign (.tmp 28)) 4] false) (.cond (.tmp 27) (.seq (.region 6 #[o 29 (.move (.tmp 6)) 2,o 30 (.move (.tmp 7)) 2,o 31 (.call ⟨.value (.func 24),#[.tmp 29,.tmp 30],#[2,2]⟩) 2,o 4 (.assign (.tmp 31)) 2,o 5 (.assign (.const (.bool true))) 4] false) .ret) (.seq (.region 7 #[o 33 (.binOp .eql 2 (.tmp 24) (xi 2) 2) 4,o 32 (.assign (.tmp 33)) 4] false) (.cond (.tmp 32) (.seq (.region 8 #[o 34 (.move (.tmp 6)) 2,o 35 (.move (.tmp 7)) 2,o 36 (.call ⟨.value (.func 25),#[.tmp 34,.tmp 35],#[2,2]⟩) 2,o 4 (.assign (.tmp 36)) 2,o 5 (.assign (.const (.bool true))) 4] false) .ret) (.seq (.region 9 #[o 38 (.binOp .eql 2 (.tmp 24) (xi 3) 2) 4,o 37 (.assign (.tmp 38)) 4] false) (.cond (.tmp 37) (.seq (.region 10 #[o 39 (.move (.tmp 6)) 2,o 40 (.move (.tmp 7)) 2,o 41 (.call ⟨.value (.func 26),#[.tmp 39,.tmp 40],#[2,2]⟩) 2,o 4 (.assign (.tmp 41)) 2,o 5 (.assign (.const (.bool true))) 4] false) .ret) (.seq (.region 11 #[o 43 (.binOp .eql 2 (.tmp 24) (xi 4) 2) 4,o 42 (.assign (.tmp 43)) 4] false) (.cond (.tmp 42) (.seq (.region 12 #[o 44 (.move (.tmp 6)) 2,o 45 (.move (.tmp 7)) 2,o 46 (.call ⟨.value (.func 27),#[.tmp 44,.tmp 45],#[2,2]⟩) 64,o 47 (.extract (.tmp 46) 0) 2,o 48 (.extract (.tmp 46) 1) 4,o 4 (.assign (.tmp 47)) 2,o 5 (.assign (.tmp 48)) 4] false) .ret) (.seq (.region 13 #[o 50 (.binOp .eql 2 (.tmp 24) (xi 5) 2) 4,o 49 (.assign (.tmp 50)) 4] false) (.cond (.tmp 49) (.seq (.region 14 #[o 51 (.move (.tmp 6)) 2,o 52 (.move (.tmp 7)) 2,o 53 (.call ⟨.value (.func 28),#[.tmp 51,.tmp 52],#[2,2]⟩) 64,o 54 (.extract (.tmp 53) 0) 2,o 55 (.extract (.tmp 53) 1) 4,o 4 (.assign (.tmp 54)) 2,o 5 (.assign (.tmp 55)) 4] false) .ret) (.seq (.region 15 #[o 57 (.binOp .eql 2 (.tmp 24) (xi 6) 2) 4,o 56 (.assign (.tmp 57)) 4] false) (.cond (.tmp 56) (.region 16 #[o 58 (.move (.tmp 6)) 2,o 59 (.move (.tmp 7)) 2,o 60 (.binOp .lss 2 (.tmp 58) (.tmp 59) 2) 4,o 8 (.assign (.tmp 60)) 4] false) (.seq (.region 17 #[o 62 (.binOp .eql 2 (.tmp 24) (xi 7) 2) 4,o 61 (.assign (.tmp 62)) 4] false) (.cond (.tmp 61) (.region 18 #[o 63 (.move (.tmp 6)) 2,o 64 (.move (.tmp 7)) 2,o 65 (.binOp .leq 2 (.tmp 63) (.tmp 64) 2) 4,o 8 (.assign (.tmp 65)) 4] false) (.seq (.region 19 #[o 67 (.binOp .eql 2 (.tmp 24) (xi 8) 2) 4,o 66 (.assign (.tmp 67)) 4] false) (.cond (.tmp 66) (.region 20 #[o 68 (.move (.tmp 6)) 2,o 69 (.move (.tmp 7)) 2,o 70 (.binOp .eql 2 (.tmp 68) (.tmp 69) 2) 4,o 8 (.assign (.tmp 70)) 4] false) (.region 4 #[o 25 (.move (.tmp 0)) 79,o 26 (.call ⟨.value (.func 67),#[.tmp 25,xi 6],#[79,3]⟩) 0] false))))))))))))))))))) (.seq (.seq (.region 21 #[o 71 (.move (.tmp 8)) 4] false) (.cond (.tmp 71) (.seq (.region 22 #[o 4 (.assign (xi 1)) 2,o 5 (.assign (.const (.bool true))) 4] false) .ret) .skip)) (.seq (.region 23 #[o 4 (.assign (xi 0)) 2,o 5 (.assign (.const (.bool true))) 4] false) .ret))))))
theorem cal107 (args:Array Value) (H:IH) (h:args.size≤72):cal J okAll 107 args H=finish J [.tmp 4,.tmp 5] (run J okAll C107 (regsOf args.toList 0 .leaf) H):=cal_er J H okAll 107 args Tryz.f107 _ C107 _ rfl rfl rfl (by kernel_rfl) rfl h rfl rfl
def C108:Code:=(.seq (.region 0 #[o 4 (.assign (xi 0)) 3] false) (.seq (.seq (.region 1 #[o 5 (.move (.tmp 0)) 81,o 6 (.binOp .eql 81 (.tmp 5) (.const (.pointer none)) 81) 4,o 7 (.move (.tmp 6)) 4,og 8 (.move (.tmp 1)) 3 2 false,og 9 (.binOp .lss 3 (.tmp 8) (xi 0) 3) 4 2 false,o 10 (.pick (.tmp 7) (.const (.bool true)) (.tmp 9)) 4,o 11 (.move (.tmp 10)) 4,og 12 (.move (.tmp 1)) 3 6 false,og 13 (.move (.tmp 0)) 81 6 false,og 14 (.nilCheck (.tmp 13)) 0 6 false,og 15 (.fieldAddr 171 (.tmp 14) 2) 0 6 false,og 16 (.load 125 (.tmp 15)) 125 6 false,og 17 (.call ⟨.builtin .len,#[.tmp 16],#[125]⟩) 3 6 false,og 18 (.binOp .geq 3 (.tmp 12) (.tmp 17) 3) 4 6 false,o 19 (.pick (.tmp 11) (.const (.bool true)) (.tmp 18)) 4] false) (.cond (.tmp 19) (.seq (.region 2 #[o 4 (.assign (xi 0)) 3] false) .ret) .skip)) (.seq (.region 3 #[o 20 (.move (.tmp 0)) 81,o 21 (.nilCheck (.tmp 20)) 0,o 22 (.fieldAddr 171 (.tmp 21) 2) 0,o 23 (.load 125 (.tmp 22)) 125,o 24 (.move (.tmp 1)) 3,o 25 (.indexAddr 125 (.tmp 23) (.tmp 24)) 0,o 26 (.fieldAddr 127 (.tmp 25) 0) 0,o 27 (.load 3 (.tmp 26)) 3,o 4 (.assign (.tmp 27)) 3] false) .ret)))
theorem cal108 (args:Array Value) (H:IH) (h:args.size≤28):cal J okAll 108 args H=finish J [.tmp 4] (run J okAll C108 (regsOf args.toList 0 .leaf) H):=cal_er J H okAll 108 args Tryz.f108 _ C108 _ rfl rfl rfl (by kernel_rfl) rfl h rfl rfl
def L109_0:Code:=(.seq (.region 2 #[o 25 (.binOp .lss 3 (.tmp 24) (.tmp 23) 3) 0] false) (.seq (.cond (.tmp 25) .skip (.exit 0)) (.seq (.block 1 (.seq (.region 3 #[o 26 (.move (.tmp 24)) 3,o 27 (.indexAddr 34 (.tmp 22) (.tmp 24)) 0,o 28 (.load 5 (.tmp 27)) 5,o 8 (.assign (.tmp 26)) 3,o 9 (.assign (.tmp 28)) 5] false) (.region 4 #[o 29 (.move (.tmp 0)) 79,o 30 (.nilCheck (.tmp 29)) 0,o 31 (.fieldAddr 84 (.tmp 30) 2) 0,o 32 (.load 81 (.tmp 31)) 81,o 33 (.move (.tmp 6)) 3,o 34 (.move (.tmp 8)) 3,o 35 (.move (.tmp 9)) 5,o 36 (.call ⟨.value (.func 166),#[.tmp 32,.tmp 33,.tmp 34,.tmp 35],#[81,3,3,5]⟩) 72] false))) (.region 5 #[o 37 (.binOp .add 3 (.tmp 24) (xi 1) 3) 3,o 24 (.move (.tmp 37)) 3] false))))
def D109_6:List Oper:=regOf Tryz.f109 6
@[simp] def A109_6:List Ann:=[a0 (o 38 (.move (.tmp 0)) 79),a0 (o 39 (.move (.tmp 1)) 139),a0 (o 40 (.nilCheck (.tmp 39)) 0),a0 (o 41 (.fieldAddr 30 (.tmp 40) 1) 0),al (o 42 (.load 3 (.tmp 41)) 3) [1],a0 (o 43 (.move (.tmp 6)) 3),ae (o 44 (.call ⟨.value (.func 167),#[.tmp 43],#[3]⟩) 62) true,ae (o 45 (.call ⟨.value (.func 103),#[.tmp 38,.tmp 42,.tmp 44],#[79,3,62]⟩) 0) true]
def O109_6:List Oper:=A109_6.map (·.o)
@[simp] theorem r109_6 (T:Regs) (H:IH):run J okAll (.region 6 D109_6.toArray true) T H=annSel J okAll D109_6.toArray T H (eRun J (cal J okAll) O109_6.toArray A109_6 T H 0 []):=r_ann (by kernel_rfl) (by kernel_rfl) 6 T H
def C109:Code:=(.seq (.region 0 #[o 11 (.move (.tmp 0)) 79,o 12 (.move (.tmp 2)) 9,o 13 (.call ⟨.builtin .len,#[.tmp 12],#[9]⟩) 3,o 14 (.move (.tmp 1)) 139,o 15 (.nilCheck (.tmp 14)) 0,o 16 (.fieldAddr 30 (.tmp 15) 8) 0,o 17 (.load 28 (.tmp 16)) 28,o 18 (.call ⟨.value (.func 165),#[.tmp 11,xi 0,.tmp 13,.tmp 17,.const (.slice none 0 0)],#[79,3,3,28,136]⟩) 231,o 10 (.move (.tmp 18)) 231,o 19 (.extract (.tmp 10) 0) 3,o 20 (.extract (.tmp 10) 1) 136,o 6 (.assign (.tmp 19)) 3,o 7 (.assign (.tmp 20)) 136] false) (.seq (.seq (.region 1 #[o 21 (.move (.tmp 2)) 9,o 22 (.convert 9 34 (.tmp 21)) 34,o 23 (.call ⟨.builtin .len,#[.tmp 22],#[34]⟩) 3,o 24 (.move (xi 0)) 3] false) (.block 0 (.loop L109_0))) (.region 6 D109_6.toArray true)))
theorem cal109 (args:Array Value) (H:IH) (h:args.size≤46):cal J okAll 109 args H=finish J [] (run J okAll C109 (regsOf args.toList 0 .leaf) H):=cal_er J H okAll 109 args Tryz.f109 _ C109 _ rfl rfl rfl (by kernel_rfl) rfl h rfl rfl
def D110_5:List Oper:=regOf Tryz.f110 5
@[simp] def A110_5:List Ann:=[a0 (o 52 (.move (.tmp 0)) 79),a0 (o 53 (.nilCheck (.tmp 52)) 0),a0 (o 54 (.fieldAddr 84 (.tmp 53) 2) 0),al (o 55 (.load 81 (.tmp 54)) 81) [1,2],a0 (o 56 (.move (.tmp 6)) 3),a0 (o 57 (.move (.tmp 0)) 79),a0 (o 58 (.move (.tmp 1)) 139),a0 (o 59 (.nilCheck (.tmp 58)) 0),a0 (o 60 (.fieldAddr 30 (.tmp 59) 3) 0),a0 (o 61 (.load 3 (.tmp 60)) 3),ae (o 62 (.call ⟨.value (.func 98),#[.tmp 57,.tmp 61],#[79,3]⟩) 2) true,ae (o 63 (.call ⟨.value (.func 170),#[.tmp 62],#[2]⟩) 3) true,ae (o 64 (.call ⟨.value (.func 169),#[.tmp 55,.tmp 56,.tmp 63],#[81,3,3]⟩) 237) true,a0 (o 51 (.move (.tmp 64)) 237),a0 (o 65 (.extract (.tmp 51) 0) 5),a0 (o 66 (.extract (.tmp 51) 1) 72),a0 (o 8 (.assign (.tmp 65)) 5),a0 (o 9 (.assign (.tmp 66)) 72)]
def O110_5:List Oper:=A110_5.map (·.o)
@[simp] theorem r110_5 (T:Regs) (H:IH):run J okAll (.region 5 D110_5.toArray true) T H=annSel J okAll D110_5.toArray T H (eRun J (cal J okAll) O110_5.toArray A110_5 T H 0 []):=r_ann (by kernel_rfl) (by kernel_rfl) 5 T H
def D110_13:List Oper:=regOf Tryz.f110 13
@[simp] def A110_13:List Ann:=[a0 (o 112 (.move (.tmp 0)) 79),a0 (o 113 (.move (.tmp 1)) 139),a0 (o 114 (.nilCheck (.tmp 113)) 0),a0 (o 115 (.fieldAddr 30 (.tmp 114) 1) 0),al (o 116 (.load 3 (.tmp 115)) 3) [1],a0 (o 117 (.move (.tmp 12)) 9),a0 (o 118 (.move (.tmp 14)) 9),ae (o 119 (.call ⟨.value (.func 172),#[.tmp 117,.tmp 118],#[9,9]⟩) 3) true,ae (o 120 (.call ⟨.value (.func 106),#[.tmp 112,.tmp 116,.tmp 119],#[79,3,2]⟩) 0) true]
def O110_13:List Oper:=A110_13.map (·.o)
@[simp] theorem r110_13 (T:Regs) (H:IH):run J okAll (.region 13 D110_13.toArray true) T H=annSel J okAll D110_13.toArray T H (eRun J (cal J okAll) O110_13.toArray A110_13 T H 0 []):=r_ann (by kernel_rfl) (by kernel_rfl) 13 T H
def C110:Code:=(.seq (.seq (.region 0 #[o 16 (.move (.tmp 1)) 139,o 17 (.nilCheck (.tmp 16)) 0,o 18 (.fieldAddr 30 (.tmp 17) 0) 0,o 19 (.load 3 (.tmp 18)) 3,o 20 (.binOp .eql 3 (.tmp 19) (xi 11) 3) 4] false) (.cond (.tmp 20) (.seq (.region 1 #[o 22 (.move (.tmp 0)) 79,o 23 (.move (.tmp 1)) 139,o 24 (.nilCheck (.tmp 23)) 0,o 25 (.fieldAddr 30 (.tmp 24) 2) 0,o 26 (.load 3 (.tmp 25)) 3,o 27 (.call ⟨.value (.func 168),#[.tmp 22,.tmp 26,xi 2,xi 3],#[79,3,3,3]⟩) 235,o 21 (.move (.tmp 27)) 235,o 28 (.extract (.tmp 21) 0) 3,o 29 (.extract (.tmp 21) 1) 3,o 4 (.assign (.tmp 28)) 3,o 5 (.assign (.tmp 29)) 3] false) (.seq (.region 2 #[o 30 (.move (.tmp 0)) 79,o 31 (.move (.tmp 1)) 139,o 32 (.nilCheck (.tmp 31)) 0,o 33 (.fieldAddr 30 (.tmp 32) 1) 0,o 34 (.load 3 (.tmp 33)) 3,o 35 (.move (.tmp 5)) 3,o 36 (.call ⟨.value (.func 106),#[.tmp 30,.tmp 34,.tmp 35],#[79,3,2]⟩) 0] false) .ret)) .skip)) (.seq (.region 3 #[o 38 (.move (.tmp 0)) 79,o 39 (.move (.tmp 1)) 139,o 40 (.nilCheck (.tmp 39)) 0,o 41 (.fieldAddr 30 (.tmp 40) 2) 0,o 42 (.load 3 (.tmp 41)) 3,o 43 (.call ⟨.value (.func 168),#[.tmp 38,.tmp 42,xi 3,xi 3],#[79,3,3,3]⟩) 235,o 37 (.move (.tmp 43)) 235,o 44 (.extract (.tmp 37) 0) 3,o 45 (.extract (.tmp 37) 1) 3,o 6 (.assign (.tmp 44)) 3,o 7 (.assign (.tmp 45)) 3] false) (.seq (.seq (.region 4 #[o 46 (.move (.tmp 1)) 139,o 47 (.nilCheck (.tmp 46)) 0,o 48 (.fieldAddr 30 (.tmp 47) 0) 0,o 49 (.load 3 (.tmp 48)) 3,o 50 (.binOp .eql 3 (.tmp 49) (xi 12) 3) 4] false) (.cond (.tmp 50) (.seq (.region 5 D110_5.toArray true) (.seq (.seq (.region 6 #[o 67 (.move (.tmp 9)) 72,o 68 (.binOp .neq 72 (.tmp 67) (xi 0) 72) 4] false) (.cond (.tmp 68) (.seq (.region 7 #[o 69 (.move (.tmp 0)) 79,o 70 (.call ⟨.value (.func 96),#[xi 2],#[2]⟩) 62,o 71 (.call ⟨.value (.func 105),#[.tmp 69,.tmp 70],#[79,62]⟩) 0] false) .ret) .skip)) (.seq (.region 8 #[o 72 (.move (.tmp 0)) 79,o 73 (.move (.tmp 1)) 139,o 74 (.nilCheck (.tmp 73)) 0,o 75 (.fieldAddr 30 (.tmp 74) 1) 0,o 76 (.load 3 (.tmp 75)) 3,o 77 (.move (.tmp 8)) 5,o 78 (.convert 5 2 (.tmp 77)) 2,o 79 (.call ⟨.value (.func 106),#[.tmp 72,.tmp 76,.tmp 78],#[79,3,2]⟩) 0] false) .ret))) .skip)) (.seq (.region 9 #[o 81 (.move (.tmp 0)) 79,o 82 (.move (.tmp 1)) 139,o 83 (.nilCheck (.tmp 82)) 0,o 84 (.fieldAddr 30 (.tmp 83) 3) 0,o 85 (.load 3 (.tmp 84)) 3,o 86 (.call ⟨.value (.func 168),#[.tmp 81,.tmp 85,xi 3,xi 3],#[79,3,3,3]⟩) 235,o 80 (.move (.tmp 86)) 235,o 87 (.extract (.tmp 80) 0) 3,o 88 (.extract (.tmp 80) 1) 3,o 10 (.assign (.tmp 87)) 3,o 11 (.assign (.tmp 88)) 3] false) (.seq (.region 10 #[o 90 (.move (.tmp 0)) 79,o 91 (.nilCheck (.tmp 90)) 0,o 92 (.fieldAddr 84 (.tmp 91) 2) 0,o 93 (.load 81 (.tmp 92)) 81,o 94 (.move (.tmp 6)) 3,o 95 (.call ⟨.value (.func 171),#[.tmp 93,.tmp 94],#[81,3]⟩) 240,o 89 (.move (.tmp 95)) 240,o 96 (.extract (.tmp 89) 0) 9,o 97 (.extract (.tmp 89) 1) 72,o 12 (.assign (.tmp 96)) 9,o 13 (.assign (.tmp 97)) 72] false) (.seq (.region 11 #[o 99 (.move (.tmp 0)) 79,o 100 (.nilCheck (.tmp 99)) 0,o 101 (.fieldAddr 84 (.tmp 100) 2) 0,o 102 (.load 81 (.tmp 101)) 81,o 103 (.move (.tmp 10)) 3,o 104 (.call ⟨.value (.func 171),#[.tmp 102,.tmp 103],#[81,3]⟩) 240,o 98 (.move (.tmp 104)) 240,o 105 (.extract (.tmp 98) 0) 9,o 106 (.extract (.tmp 98) 1) 72,o 14 (.assign (.tmp 105)) 9,o 15 (.assign (.tmp 106)) 72] false) (.seq (.seq (.region 12 #[o 107 (.move (.tmp 1)) 139,o 108 (.nilCheck (.tmp 107)) 0,o 109 (.fieldAddr 30 (.tmp 108) 0) 0,o 110 (.load 3 (.tmp 109)) 3,o 111 (.binOp .eql 3 (.tmp 110) (xi 14) 3) 4] false) (.cond (.tmp 111) (.seq (.region 13 D110_13.toArray true) .ret) .skip)) (.seq (.region 14 #[o 121 (.move (.tmp 0)) 79,o 122 (.move (.tmp 0)) 79,o 123 (.nilCheck (.tmp 122)) 0,o 124 (.fieldAddr 84 (.tmp 123) 2) 0,o 125 (.load 81 (.tmp 124)) 81,o 126 (.call ⟨.value (.func 108),#[.tmp 125,xi 0],#[81,3]⟩) 3,o 127 (.binOp .eql 3 (.tmp 126) (xi 3) 3) 4,o 128 (.call ⟨.value (.func 63),#[.tmp 121,.tmp 127],#[79,4]⟩) 0] false) (.seq (.seq (.region 15 #[o 129 (.move (.tmp 12)) 9,o 130 (.call ⟨.builtin .len,#[.tmp 129],#[9]⟩) 3,o 131 (.move (.tmp 14)) 9,o 132 (.call ⟨.builtin .len,#[.tmp 131],#[9]⟩) 3,o 133 (.binOp .add 3 (.tmp 130) (.tmp 132) 3) 3,o 134 (.binOp .gtr 3 (.tmp 133) (xi 65536) 3) 4] false) (.cond (.tmp 134) (.seq (.region 16 #[o 135 (.move (.tmp 0)) 79,o 136 (.call ⟨.value (.func 96),#[xi 3],#[2]⟩) 62,o 137 (.call ⟨.value (.func 105),#[.tmp 135,.tmp 136],#[79,62]⟩) 0] false) .ret) .skip)) (.region 17 #[o 138 (.move (.tmp 0)) 79,o 139 (.move (.tmp 1)) 139,o 140 (.move (.tmp 12)) 9,o 141 (.move (.tmp 14)) 9,o 142 (.binOp .add 9 (.tmp 140) (.tmp 141) 9) 9,o 143 (.call ⟨.value (.func 109),#[.tmp 138,.tmp 139,.tmp 142],#[79,139,9]⟩) 0] false))))))))))
theorem cal110 (args:Array Value) (H:IH) (h:args.size≤144):cal J okAll 110 args H=finish J [] (run J okAll C110 (regsOf args.toList 0 .leaf) H):=cal_er J H okAll 110 args Tryz.f110 _ C110 _ rfl rfl rfl (by kernel_rfl) rfl h rfl rfl
def L111_0:Code:=(.seq (.region 3 #[o 21 (.binOp .lss 3 (.tmp 20) (.tmp 19) 3) 0] false) (.seq (.cond (.tmp 21) .skip (.exit 0)) (.seq (.block 1 (.seq (.region 4 #[o 22 (.move (.tmp 20)) 3,o 6 (.assign (.tmp 22)) 3] false) (.region 5 #[o 23 (.move (.tmp 5)) 136,o 24 (.move (.tmp 6)) 3,o 25 (.call ⟨.value (.func 96),#[xi 0],#[2]⟩) 62,o 26 (.indexAddr 136 (.tmp 23) (.tmp 24)) 0,oz (.store 62 (.tmp 26) (.tmp 25)) 0] false))) (.region 6 #[o 27 (.binOp .add 3 (.tmp 20) (xi 1) 3) 3,o 20 (.move (.tmp 27)) 3] false))))
def L111_1:Code:=(.seq (.region 8 #[o 31 (.binOp .lss 3 (.tmp 30) (.tmp 29) 3) 0] false) (.seq (.cond (.tmp 31) .skip (.exit 2)) (.seq (.block 3 (.seq (.region 9 #[o 32 (.indexAddr 28 (.tmp 28) (.tmp 30)) 0,o 33 (.load 3 (.tmp 32)) 3,o 8 (.assign (.tmp 33)) 3] false) (.seq (.region 10 #[o 34 (.move (.tmp 0)) 79,o 35 (.move (.tmp 8)) 3,o 36 (.call ⟨.value (.func 102),#[.tmp 34,.tmp 35],#[79,3]⟩) 175,o 37 (.nilCheck (.tmp 36)) 0,o 38 (.load 62 (.tmp 37)) 62,o 9 (.assign (.tmp 38)) 62] false) (.region 11 #[o 39 (.move (.tmp 5)) 136,o 40 (.move (.tmp 8)) 3,o 41 (.move (.tmp 9)) 62,o 42 (.indexAddr 136 (.tmp 39) (.tmp 40)) 0,oz (.store 62 (.tmp 42) (.tmp 41)) 0] false)))) (.region 12 #[o 43 (.binOp .add 3 (.tmp 30) (xi 1) 3) 3,o 30 (.move (.tmp 43)) 3] false))))
def C111:Code:=(.seq (.region 0 #[o 10 (.move (.tmp 0)) 79,o 11 (.call ⟨.value (.func 66),#[.tmp 10],#[79]⟩) 131,o 4 (.assign (.tmp 11)) 131] false) (.seq (.region 1 #[o 12 (.move (.tmp 4)) 131,o 13 (.nilCheck (.tmp 12)) 0,o 14 (.fieldAddr 138 (.tmp 13) 1) 0,o 15 (.load 136 (.tmp 14)) 136,o 16 (.call ⟨.builtin .len,#[.tmp 15],#[136]⟩) 3,o 17 (.makeSlice 136 (.tmp 16) (.tmp 16)) 136,o 5 (.assign (.tmp 17)) 136] false) (.seq (.seq (.region 2 #[o 18 (.move (.tmp 5)) 136,o 19 (.call ⟨.builtin .len,#[.tmp 18],#[136]⟩) 3,o 20 (.move (xi 0)) 3] false) (.block 0 (.loop L111_0))) (.seq (.seq (.region 7 #[o 28 (.move (.tmp 1)) 28,o 29 (.call ⟨.builtin .len,#[.tmp 28],#[28]⟩) 3,o 30 (.move (xi 0)) 3] false) (.block 2 (.loop L111_1))) (.region 13 #[o 44 (.move (.tmp 4)) 131,o 45 (.move (.tmp 5)) 136,o 46 (.nilCheck (.tmp 44)) 0,o 47 (.fieldAddr 138 (.tmp 46) 1) 0,oz (.store 136 (.tmp 47) (.tmp 45)) 0] false)))))
theorem cal111 (args:Array Value) (H:IH) (h:args.size≤48):cal J okAll 111 args H=finish J [] (run J okAll C111 (regsOf args.toList 0 .leaf) H):=cal_er J H okAll 111 args Tryz.f111 _ C111 _ rfl rfl rfl (by kernel_rfl) rfl h rfl rfl
def C113:Code:=(.seq (.region 0 #[o 2 (.box 3 (.tmp 0)) 0,o 4 (.assign (.const (.bool false))) 4] false) (.seq (.region 1 #[o 5 (.move (.tmp 1)) 246,o 6 (.makeFunc (.func 176) #[] #[.tmp 2]) 248,o 7 (.call ⟨.value (.func 175),#[.tmp 5,.tmp 6],#[246,248]⟩) 4,o 4 (.assign (.tmp 7)) 4] false) .ret))
theorem cal113 (args:Array Value) (H:IH) (h:args.size≤8):cal J okAll 113 args H=finish J [.tmp 4] (run J okAll C113 (regsOf args.toList 0 .leaf) H):=cal_er J H okAll 113 args Tryz.f113 _ C113 _ rfl rfl rfl (by kernel_rfl) rfl h rfl rfl
def C114:Code:=(.seq (.region 0 #[o 2 (.box 3 (.tmp 0)) 0,o 4 (.assign (.const (.bool false))) 4] false) (.seq (.region 1 #[o 5 (.move (.tmp 1)) 249,o 6 (.makeFunc (.func 178) #[] #[.tmp 2]) 251,o 7 (.call ⟨.value (.func 177),#[.tmp 5,.tmp 6],#[249,251]⟩) 4,o 4 (.assign (.tmp 7)) 4] false) .ret))
theorem cal114 (args:Array Value) (H:IH) (h:args.size≤8):cal J okAll 114 args H=finish J [.tmp 4] (run J okAll C114 (regsOf args.toList 0 .leaf) H):=cal_er J H okAll 114 args Tryz.f114 _ C114 _ rfl rfl rfl (by kernel_rfl) rfl h rfl rfl
def C115:Code:=(.seq (.region 0 #[o 2 (.box 3 (.tmp 0)) 0,o 4 (.assign (.const (.bool false))) 4] false) (.seq (.region 1 #[o 5 (.move (.tmp 1)) 252,o 6 (.makeFunc (.func 180) #[] #[.tmp 2]) 254,o 7 (.call ⟨.value (.func 179),#[.tmp 5,.tmp 6],#[252,254]⟩) 4,o 4 (.assign (.tmp 7)) 4] false) .ret))
theorem cal115 (args:Array Value) (H:IH) (h:args.size≤8):cal J okAll 115 args H=finish J [.tmp 4] (run J okAll C115 (regsOf args.toList 0 .leaf) H):=cal_er J H okAll 115 args Tryz.f115 _ C115 _ rfl rfl rfl (by kernel_rfl) rfl h rfl rfl
def C116:Code:=(.seq (.region 0 #[o 2 (.box 3 (.tmp 0)) 0,o 4 (.assign (.const (.bool false))) 4] false) (.seq (.region 1 #[o 5 (.move (.tmp 1)) 255,o 6 (.makeFunc (.func 182) #[] #[.tmp 2]) 257,o 7 (.call ⟨.value (.func 181),#[.tmp 5,.tmp 6],#[255,257]⟩) 4,o 4 (.assign (.tmp 7)) 4] false) .ret))
theorem cal116 (args:Array Value) (H:IH) (h:args.size≤8):cal J okAll 116 args H=finish J [.tmp 4] (run J okAll C116 (regsOf args.toList 0 .leaf) H):=cal_er J H okAll 116 args Tryz.f116 _ C116 _ rfl rfl rfl (by kernel_rfl) rfl h rfl rfl
def C117:Code:=(.seq (.region 0 #[o 2 (.assign (.const (.bool false))) 4] false) (.seq (.region 1 #[o 3 (.move (.tmp 0)) 24,o 4 (.call ⟨.value (.func 183),#[.tmp 3,.func 184],#[24,259]⟩) 4,o 2 (.assign (.tmp 4)) 4] false) .ret))
theorem cal117 (args:Array Value) (H:IH) (h:args.size≤5):cal J okAll 117 args H=finish J [.tmp 2] (run J okAll C117 (regsOf args.toList 0 .leaf) H):=cal_er J H okAll 117 args Tryz.f117 _ C117 _ rfl rfl rfl (by kernel_rfl) rfl h rfl rfl
def C118:Code:=(.seq (.region 0 #[o 2 (.box 3 (.tmp 0)) 0,o 4 (.assign (.const (.bool false))) 4] false) (.seq (.region 1 #[o 5 (.move (.tmp 1)) 260,o 6 (.makeFunc (.func 186) #[] #[.tmp 2]) 205,o 7 (.call ⟨.value (.func 185),#[.tmp 5,.tmp 6],#[260,205]⟩) 4,o 4 (.assign (.tmp 7)) 4] false) .ret))
theorem cal118 (args:Array Value) (H:IH) (h:args.size≤8):cal J okAll 118 args H=finish J [.tmp 4] (run J okAll C118 (regsOf args.toList 0 .leaf) H):=cal_er J H okAll 118 args Tryz.f118 _ C118 _ rfl rfl rfl (by kernel_rfl) rfl h rfl rfl
def C119:Code:=(.seq (.region 0 #[o 2 (.box 3 (.tmp 0)) 0,o 4 (.assign (.const (.bool false))) 4] false) (.seq (.region 1 #[o 5 (.move (.tmp 1)) 262,o 6 (.makeFunc (.func 188) #[] #[.tmp 2]) 264,o 7 (.call ⟨.value (.func 187),#[.tmp 5,.tmp 6],#[262,264]⟩) 4,o 4 (.assign (.tmp 7)) 4] false) .ret))
theorem cal119 (args:Array Value) (H:IH) (h:args.size≤8):cal J okAll 119 args H=finish J [.tmp 4] (run J okAll C119 (regsOf args.toList 0 .leaf) H):=cal_er J H okAll 119 args Tryz.f119 _ C119 _ rfl rfl rfl (by kernel_rfl) rfl h rfl rfl
def L120_0:Code:=(.seq (.region 2 #[o 9 (.binOp .lss 3 (.tmp 8) (.tmp 7) 3) 0] false) (.seq (.cond (.tmp 9) .skip (.exit 0)) (.seq (.block 1 (.seq (.region 3 #[o 10 (.move (.tmp 8)) 3,o 5 (.assign (.tmp 10)) 3] false) (.seq (.region 4 #[o 11 (.move (.tmp 1)) 142,o 12 (.move (.tmp 0)) 54,o 13 (.move (.tmp 5)) 3,o 14 (.indexAddr 54 (.tmp 12) (.tmp 13)) 0,o 15 (.load 30 (.tmp 14)) 30,o 16 (.call ⟨.value (.tmp 11),#[.tmp 15],#[30]⟩) 4] false) (.cond (.tmp 16) (.seq (.region 5 #[o 17 (.move (.tmp 5)) 3,o 4 (.assign (.tmp 17)) 3] false) .ret) .skip)))) (.region 6 #[o 18 (.binOp .add 3 (.tmp 8) (xi 1) 3) 3,o 8 (.move (.tmp 18)) 3] false))))
def C120:Code:=(.seq (.region 0 #[o 4 (.assign (xi 0)) 3] false) (.seq (.seq (.region 1 #[o 6 (.move (.tmp 0)) 54,o 7 (.call ⟨.builtin .len,#[.tmp 6],#[54]⟩) 3,o 8 (.move (xi 0)) 3] false) (.block 0 (.loop L120_0))) (.seq (.region 7 #[o 4 (.assign (xi (-1))) 3] false) .ret)))
theorem cal120 (args:Array Value) (H:IH) (h:args.size≤19):cal J okAll 120 args H=finish J [.tmp 4] (run J okAll C120 (regsOf args.toList 0 .leaf) H):=cal_er J H okAll 120 args Tryz.f120 _ C120 _ rfl rfl rfl (by kernel_rfl) rfl h rfl rfl
def C121:Code:=(.seq (.region 0 #[o 2 (.assign (.const (.string ⟨#[]⟩))) 9] false) (.seq (.seq (.region 1 #[o 3 (.move (.tmp 0)) 3] false) (.block 0 (.seq (.region 2 #[o 5 (.binOp .eql 3 (.tmp 3) (xi 1) 3) 4,o 4 (.assign (.tmp 5)) 4] false) (.cond (.tmp 4) (.seq (.region 3 #[o 2 (.assign (.const (.string ⟨#[68,78]⟩))) 9] false) .ret) (.seq (.region 4 #[o 7 (.binOp .eql 3 (.tmp 3) (xi 2) 3) 4,o 6 (.assign (.tmp 7)) 4] false) (.cond (.tmp 6) (.seq (.region 5 #[o 2 (.assign (.const (.string ⟨#[68,65,108]⟩))) 9] false) .ret) (.seq (.seq (.region 6 #[o 9 (.binOp .eql 3 (.tmp 3) (xi 3) 3) 4,o 8 (.assign (.tmp 9)) 4] false) (.cond (.tmp 8) .skip (.region 7 #[o 10 (.binOp .eql 3 (.tmp 3) (xi 11) 3) 4,o 8 (.assign (.tmp 10)) 4] false))) (.cond (.tmp 8) (.seq (.region 8 #[o 2 (.assign (.const (.string ⟨#[68,65]⟩))) 9] false) .ret) (.seq (.region 9 #[o 12 (.binOp .eql 3 (.tmp 3) (xi 4) 3) 4,o 11 (.assign (.tmp 12)) 4] false) (.cond (.tmp 11) (.seq (.region 10 #[o 2 (.assign (.const (.string ⟨#[68,65,66,78]⟩))) 9] false) .ret) (.seq (.region 11 #[o 14 (.binOp .eql 3 (.tmp 3) (xi 5) 3) 4,o 13 (.assign (.tmp 14)) 4] false) (.cond (.tmp 13) (.seq (.region 12 #[o 2 (.assign (.const (.string ⟨#[68,65,76,108]⟩))) 9] false) .ret) (.seq (.seq (.region 13 #[o 16 (.binOp .eql 3 (.tmp 3) (xi 6) 3) 4,o 15 (.assign (.tmp 16)) 4] false) (.cond (.tmp 15) .skip (.seq (.region 14 #[o 17 (.binOp .eql 3 (.tmp 3) (xi 9) 3) 4,o 15 (.assign (.tmp 17)) 4] false) (.cond (.tmp 15) .skip (.seq (.region 15 #[o 18 (.binOp .eql 3 (.tmp 3) (xi 12) 3) 4,o 15 (.assign (.tmp 18)) 4] false) (.cond (.tmp 15) .skip (.region 16 #[o 19 (.binOp .eql 3 (.tmp 3) (xi 14) 3) 4,o 15 (.assign (.tmp 19)) 4] false))))))) (.cond (.tmp 15) (.seq (.region 17 #[o 2 (.assign (.const (.string ⟨#[68,65,66]⟩))) 9] false) .ret) (.seq (.seq (.region 18 #[o 21 (.binOp .eql 3 (.tmp 3) (xi 7) 3) 4,o 20 (.assign (.tmp 21)) 4] false) (.cond (.tmp 20) .skip (.seq (.region 19 #[o 22 (.binOp .eql 3 (.tmp 3) (xi 10) 3) 4,o 20 (.assign (.tmp 22)) 4] false) (.cond (.tmp 20) .skip (.region 20 #[o 23 (.binOp .eql 3 (.tmp 3) (xi 19) 3) 4,o 20 (.assign (.tmp 23)) 4] false))))) (.cond (.tmp 20) (.seq (.region 21 #[o 2 (.assign (.const (.string ⟨#[65,66,67]⟩))) 9] false) .ret) (.seq (.region 22 #[o 25 (.binOp .eql 3 (.tmp 3) (xi 8) 3) 4,o 24 (.assign (.tmp 25)) 4] false) (.cond (.tmp 24) (.seq (.region 23 #[o 2 (.assign (.const (.string ⟨#[68,65,66,67,108]⟩))) 9] false) .ret) (.seq (.region 24 #[o 27 (.binOp .eql 3 (.tmp 3) (xi 13) 3) 4,o 26 (.assign (.tmp 27)) 4] false) (.cond (.tmp 26) (.seq (.region 25 #[o 2 (.assign (.const (.string ⟨#[68,65,66,108]⟩))) 9] false) .ret) (.seq (.region 26 #[o 29 (.binOp .eql 3 (.tmp 3) (xi 15) 3) 4,o 28 (.assign (.tmp 29)) 4] false) (.cond (.tmp 28) (.seq (.region 27 #[o 2 (.assign (.const (.string ⟨#[68]⟩))) 9] false) .ret) (.seq (.seq (.region 28 #[o 31 (.binOp .eql 3 (.tmp 3) (xi 16) 3) 4,o 30 (.assign (.tmp 31)) 4] false) (.cond (.tmp 30) .skip (.seq (.region 29 #[o 32 (.binOp .eql 3 (.tmp 3) (xi 18) 3) 4,o 30 (.assign (.tmp 32)) 4] false) (.cond (.tmp 30) .skip (.seq (.region 30 #[o 33 (.binOp .eql 3 (.tmp 3) (xi 22) 3) 4,o 30 (.assign (.tmp 33)) 4] false) (.cond (.tmp 30) .skip (.region 31 #[o 34 (.binOp .eql 3 (.tmp 3) (xi 23) 3) 4,o 30 (.assign (.tmp 34)) 4] false))))))) (.cond (.tmp 30) (.seq (.region 32 #[o 2 (.assign (.const (.string ⟨#[65]⟩))) 9] false) .ret) (.seq (.region 33 #[o 36 (.binOp .eql 3 (.tmp 3) (xi 17) 3) 4,o 35 (.assign (.tmp 36)) 4] false) (.cond (.tmp 35) (.seq (.region 34 #[o 2 (.assign (.const (.string ⟨#[68,65,66,67,76,108]⟩))) 9] false) .ret) (.seq (.region 35 #[o 38 (.binOp .eql 3 (.tmp 3) (xi 20) 3) 4,o 37 (.assign (.tmp 38)) 4] false) (.cond (.tmp 37) (.seq (.region 36 #[o 2 (.assign (.const (.string ⟨#[65,76,77,66]⟩))) 9] false) .ret) (.seq (.region 37 #[o 40 (.binOp .eql 3 (.tmp 3) (xi 21) 3) 4,o 39 (.assign (.tmp 40)) 4] false) (.cond (.tmp 39) (.seq (.region 38 #[o 2 (.assign (.const (.string ⟨#[65,76]⟩))) 9] false) .ret) .skip)))))))))))))))))))))))))))))) (.seq (.region 39 #[o 2 (.assign (.const (.string ⟨#[]⟩))) 9] false) .ret)))
theorem cal121 (args:Array Value) (H:IH) (h:args.size≤41):cal J okAll 121 args H=finish J [.tmp 2] (run J okAll C121 (regsOf args.toList 0 .leaf) H):=cal_er J H okAll 121 args Tryz.f121 _ C121 _ rfl rfl rfl (by kernel_rfl) rfl h rfl rfl
def C122:Code:=(.seq (.region 0 #[o 4 (.assign (.const (.pointer none))) 193] false) (.seq (.seq (.region 1 #[o 5 (.move (.tmp 1)) 5] false) (.block 0 (.seq (.region 2 #[o 7 (.binOp .eql 5 (.tmp 5) (.const (.int .u8 68)) 5) 4,o 6 (.assign (.tmp 7)) 4] false) (.cond (.tmp 6) (.seq (.region 3 #[o 8 (.move (.tmp 0)) 139,o 9 (.nilCheck (.tmp 8)) 0,o 10 (.fieldAddr 30 (.tmp 9) 1) 0,o 4 (.assign (.tmp 10)) 193] false) .ret) (.seq (.region 4 #[o 12 (.binOp .eql 5 (.tmp 5) (.const (.int .u8 65)) 5) 4,o 11 (.assign (.tmp 12)) 4] false) (.cond (.tmp 11) (.seq (.region 5 #[o 13 (.move (.tmp 0)) 139,o 14 (.nilCheck (.tmp 13)) 0,o 15 (.fieldAddr 30 (.tmp 14) 2) 0,o 4 (.assign (.tmp 15)) 193] false) .ret) (.seq (.region 6 #[o 17 (.binOp .eql 5 (.tmp 5) (.const (.int .u8 66)) 5) 4,o 16 (.assign (.tmp 17)) 4] false) (.cond (.tmp 16) (.seq (.region 7 #[o 18 (.move (.tmp 0)) 139,o 19 (.nilCheck (.tmp 18)) 0,o 20 (.fieldAddr 30 (.tmp 19) 3) 0,o 4 (.assign (.tmp 20)) 193] false) .ret) (.seq (.region 8 #[o 22 (.binOp .eql 5 (.tmp 5) (.const (.int .u8 67)) 5) 4,o 21 (.assign (.tmp 22)) 4] false) (.cond (.tmp 21) (.seq (.region 9 #[o 23 (.move (.tmp 0)) 139,o 24 (.nilCheck (.tmp 23)) 0,o 25 (.fieldAddr 30 (.tmp 24) 4) 0,o 4 (.assign (.tmp 25)) 193] false) .ret) .skip)))))))))) (.seq (.region 10 #[o 4 (.assign (.const (.pointer none))) 193] false) .ret)))
theorem cal122 (args:Array Value) (H:IH) (h:args.size≤26):cal J okAll 122 args H=finish J [.tmp 4] (run J okAll C122 (regsOf args.toList 0 .leaf) H):=cal_er J H okAll 122 args Tryz.f122 _ C122 _ rfl rfl rfl (by kernel_rfl) rfl h rfl rfl
def C123:Code:=(.seq (.region 0 #[o 4 (.assign (.const (.pointer none))) 195] false) (.seq (.seq (.region 1 #[o 5 (.move (.tmp 1)) 5] false) (.block 0 (.seq (.region 2 #[o 7 (.binOp .eql 5 (.tmp 5) (.const (.int .u8 76)) 5) 4,o 6 (.assign (.tmp 7)) 4] false) (.cond (.tmp 6) (.seq (.region 3 #[o 8 (.move (.tmp 0)) 139,o 9 (.nilCheck (.tmp 8)) 0,o 10 (.fieldAddr 30 (.tmp 9) 6) 0,o 4 (.assign (.tmp 10)) 195] false) .ret) (.seq (.region 4 #[o 12 (.binOp .eql 5 (.tmp 5) (.const (.int .u8 77)) 5) 4,o 11 (.assign (.tmp 12)) 4] false) (.cond (.tmp 11) (.seq (.region 5 #[o 13 (.move (.tmp 0)) 139,o 14 (.nilCheck (.tmp 13)) 0,o 15 (.fieldAddr 30 (.tmp 14) 7) 0,o 4 (.assign (.tmp 15)) 195] false) .ret) .skip)))))) (.seq (.region 6 #[o 16 (.move (.tmp 0)) 139,o 17 (.nilCheck (.tmp 16)) 0,o 18 (.fieldAddr 30 (.tmp 17) 8) 0,o 4 (.assign (.tmp 18)) 195] false) .ret)))
theorem cal123 (args:Array Value) (H:IH) (h:args.size≤19):cal J okAll 123 args H=finish J [.tmp 4] (run J okAll C123 (regsOf args.toList 0 .leaf) H):=cal_er J H okAll 123 args Tryz.f123 _ C123 _ rfl rfl rfl (by kernel_rfl) rfl h rfl rfl
def C160:Code:=(.seq (.region 0 #[o 2 (.assign (.const (.bool false))) 4] false) (.seq (.region 1 #[o 3 (.move (.tmp 0)) 62,o 4 (.binOp .and 62 (.tmp 3) (.const (.int .u64 1)) 62) 62,o 5 (.binOp .eql 62 (.tmp 4) (.const (.int .u64 1)) 62) 4,o 2 (.assign (.tmp 5)) 4] false) .ret))
theorem cal160 (args:Array Value) (H:IH) (h:args.size≤6):cal J okAll 160 args H=finish J [.tmp 2] (run J okAll C160 (regsOf args.toList 0 .leaf) H):=cal_er J H okAll 160 args Tryz.f160 _ C160 _ rfl rfl rfl (by kernel_rfl) rfl h rfl rfl
def C161:Code:=(.seq (.region 0 #[o 2 (.assign (xi 0)) 2] false) (.seq (.region 1 #[o 3 (.move (.tmp 0)) 62,o 4 (.convert 62 2 (.tmp 3)) 2,o 5 (.binOp .shr 2 (.tmp 4) (.const (.int .u64 1)) 31) 2,o 2 (.assign (.tmp 5)) 2] false) .ret))
theorem cal161 (args:Array Value) (H:IH) (h:args.size≤6):cal J okAll 161 args H=finish J [.tmp 2] (run J okAll C161 (regsOf args.toList 0 .leaf) H):=cal_er J H okAll 161 args Tryz.f161 _ C161 _ rfl rfl rfl (by kernel_rfl) rfl h rfl rfl
def C162:Code:=(.seq (.region 0 #[o 4 (.assign (xi 0)) 3,o 5 (.assign (xi 0)) 72] false) (.seq (.seq (.region 1 #[o 6 (.move (.tmp 0)) 81,o 7 (.move (.tmp 1)) 3,o 8 (.call ⟨.value (.func 203),#[.tmp 6,.tmp 7],#[81,3]⟩) 4,o 9 (.unOp .not 4 (.tmp 8)) 4] false) (.cond (.tmp 9) (.seq (.region 2 #[o 4 (.assign (xi 0)) 3,o 5 (.assign (xi 1)) 72] false) .ret) .skip)) (.seq (.region 3 #[o 10 (.move (.tmp 0)) 81,o 11 (.nilCheck (.tmp 10)) 0,o 12 (.fieldAddr 171 (.tmp 11) 0) 0,o 13 (.load 136 (.tmp 12)) 136,o 14 (.move (.tmp 1)) 3,o 15 (.indexAddr 136 (.tmp 13) (.tmp 14)) 0,o 16 (.load 62 (.tmp 15)) 62,o 17 (.call ⟨.value (.func 204),#[.tmp 16],#[62]⟩) 3,o 4 (.assign (.tmp 17)) 3,o 5 (.assign (xi 0)) 72] false) .ret)))
theorem cal162 (args:Array Value) (H:IH) (h:args.size≤18):cal J okAll 162 args H=finish J [.tmp 4,.tmp 5] (run J okAll C162 (regsOf args.toList 0 .leaf) H):=cal_er J H okAll 162 args Tryz.f162 _ C162 _ rfl rfl rfl (by kernel_rfl) rfl h rfl rfl
def C163:Code:=(.seq (.region 0 #[o 2 (.assign (xi 0)) 3] false) (.seq (.region 1 #[o 3 (.move (.tmp 0)) 62,o 4 (.binOp .shr 62 (.tmp 3) (.const (.int .u64 1)) 31) 62,o 5 (.convert 62 3 (.tmp 4)) 3,o 2 (.assign (.tmp 5)) 3] false) .ret))
theorem cal163 (args:Array Value) (H:IH) (h:args.size≤6):cal J okAll 163 args H=finish J [.tmp 2] (run J okAll C163 (regsOf args.toList 0 .leaf) H):=cal_er J H okAll 163 args Tryz.f163 _ C163 _ rfl rfl rfl (by kernel_rfl) rfl h rfl rfl
def D164_2:List Oper:=regOf Tryz.f164 2
@[simp] def A164_2:List Ann:=[a0 (o 12 (.move (.tmp 0)) 79),a0 (o 13 (.nilCheck (.tmp 12)) 0),a0 (o 14 (.fieldAddr 84 (.tmp 13) 2) 0),al (o 15 (.load 81 (.tmp 14)) 81) [1],a0 (o 16 (.move (.tmp 1)) 62),ae (o 17 (.call ⟨.value (.func 163),#[.tmp 16],#[62]⟩) 3) true,ae (o 18 (.call ⟨.value (.func 162),#[.tmp 15,.tmp 17],#[81,3]⟩) 227) true,a0 (o 11 (.move (.tmp 18)) 227),a0 (o 19 (.extract (.tmp 11) 0) 3),a0 (o 20 (.extract (.tmp 11) 1) 72),a0 (o 5 (.assign (.tmp 19)) 3),a0 (o 6 (.assign (.tmp 20)) 72)]
def O164_2:List Oper:=A164_2.map (·.o)
@[simp] theorem r164_2 (T:Regs) (H:IH):run J okAll (.region 2 D164_2.toArray true) T H=annSel J okAll D164_2.toArray T H (eRun J (cal J okAll) O164_2.toArray A164_2 T H 0 []):=r_ann (by kernel_rfl) (by kernel_rfl) 2 T H
def C164:Code:=(.seq (.region 0 #[o 4 (.assign (.const (.string ⟨#[]⟩))) 9] false) (.seq (.seq (.region 1 #[o 8 (.move (.tmp 1)) 62,o 9 (.call ⟨.value (.func 160),#[.tmp 8],#[62]⟩) 4,o 10 (.unOp .not 4 (.tmp 9)) 4] false) (.cond (.tmp 10) (.seq (.region 2 D164_2.toArray true) (.seq (.region 3 #[o 21 (.move (.tmp 0)) 79,o 22 (.nilCheck (.tmp 21)) 0,o 23 (.fieldAddr 84 (.tmp 22) 0) 0,o 24 (.load 80 (.tmp 23)) 80,o 25 (.nilCheck (.tmp 24)) 0,o 26 (.fieldAddr 27 (.tmp 25) 1) 0,o 27 (.load 23 (.tmp 26)) 23,o 28 (.move (.tmp 5)) 3,o 29 (.indexAddr 23 (.tmp 27) (.tmp 28)) 0,o 30 (.fieldAddr 90 (.tmp 29) 2) 0,o 31 (.load 9 (.tmp 30)) 9,o 4 (.assign (.tmp 31)) 9] false) .ret)) .skip)) (.seq (.seq (.region 4 #[o 32 (.move (.tmp 1)) 62,o 33 (.call ⟨.value (.func 161),#[.tmp 32],#[62]⟩) 2,o 7 (.assign (.tmp 33)) 2] false) (.seq (.region 5 #[o 34 (.move (.tmp 7)) 2,o 35 (.binOp .geq 2 (.tmp 34) (xi 0) 2) 4,o 36 (.move (.tmp 35)) 4,og 37 (.move (.tmp 7)) 2 2 true,og 38 (.move (.tmp 0)) 79 2 true,og 39 (.nilCheck (.tmp 38)) 0 2 true,og 40 (.fieldAddr 84 (.tmp 39) 0) 0 2 true,og 41 (.load 80 (.tmp 40)) 80 2 true,og 42 (.nilCheck (.tmp 41)) 0 2 true,og 43 (.fieldAddr 27 (.tmp 42) 3) 0 2 true,og 44 (.load 24 (.tmp 43)) 24 2 true,og 45 (.call ⟨.builtin .len,#[.tmp 44],#[24]⟩) 3 2 true,og 46 (.binOp .lss 2 (.tmp 37) (.tmp 45) 2) 4 2 true,o 47 (.pick (.tmp 36) (.tmp 46) (.const (.bool false))) 4] false) (.cond (.tmp 47) (.seq (.region 6 #[o 48 (.move (.tmp 0)) 79,o 49 (.nilCheck (.tmp 48)) 0,o 50 (.fieldAddr 84 (.tmp 49) 0) 0,o 51 (.load 80 (.tmp 50)) 80,o 52 (.nilCheck (.tmp 51)) 0,o 53 (.fieldAddr 27 (.tmp 52) 3) 0,o 54 (.load 24 (.tmp 53)) 24,o 55 (.move (.tmp 7)) 2,o 56 (.indexAddr 24 (.tmp 54) (.tmp 55)) 0,o 57 (.load 9 (.tmp 56)) 9,o 4 (.assign (.tmp 57)) 9] false) .ret) .skip))) (.seq (.region 7 #[o 4 (.assign (.const (.string ⟨#[]⟩))) 9] false) .ret))))
theorem cal164 (args:Array Value) (H:IH) (h:args.size≤58):cal J okAll 164 args H=finish J [.tmp 4] (run J okAll C164 (regsOf args.toList 0 .leaf) H):=cal_er J H okAll 164 args Tryz.f164 _ C164 _ rfl rfl rfl (by kernel_rfl) rfl h rfl rfl
def D165_9:List Oper:=regOf Tryz.f165 9
@[simp] def A165_9:List Ann:=[a0 (o 68 (.move (.tmp 12)) 3),a0 (o 69 (.move (.tmp 0)) 79),a0 (o 70 (.nilCheck (.tmp 69)) 0),a0 (o 71 (.fieldAddr 84 (.tmp 70) 2) 0),a0 (o 72 (.load 81 (.tmp 71)) 81),a0 (o 74 (.move (.tmp 0)) 79),a0 (o 75 (.nilCheck (.tmp 74)) 0),a0 (o 76 (.fieldAddr 84 (.tmp 75) 2) 0),al (o 77 (.load 81 (.tmp 76)) 81) [1],ae (o 73 (.call ⟨.value (.func 207),#[.tmp 72],#[81]⟩) 3) true,ae (o 78 (.call ⟨.value (.func 208),#[.tmp 77],#[81]⟩) 3) true,a0 (o 79 (.binOp .sub 3 (.tmp 73) (.tmp 78) 3) 3),a0 (o 80 (.binOp .gtr 3 (.tmp 68) (.tmp 79) 3) 4)]
def O165_9:List Oper:=A165_9.map (·.o)
@[simp] theorem r165_9 (T:Regs) (H:IH):run J okAll (.region 9 D165_9.toArray true) T H=annSel J okAll D165_9.toArray T H (eRun J (cal J okAll) O165_9.toArray A165_9 T H 0 []):=r_ann (by kernel_rfl) (by kernel_rfl) 9 T H
def D165_12:List Oper:=regOf Tryz.f165 12
@[simp] def A165_12:List Ann:=[a0 (o 86 (.move (.tmp 12)) 3),a0 (o 87 (.move (.tmp 0)) 79),a0 (o 88 (.nilCheck (.tmp 87)) 0),a0 (o 89 (.fieldAddr 84 (.tmp 88) 2) 0),a0 (o 90 (.load 81 (.tmp 89)) 81),a0 (o 92 (.move (.tmp 0)) 79),a0 (o 93 (.nilCheck (.tmp 92)) 0),a0 (o 94 (.fieldAddr 84 (.tmp 93) 2) 0),al (o 95 (.load 81 (.tmp 94)) 81) [1],ae (o 91 (.call ⟨.value (.func 207),#[.tmp 90],#[81]⟩) 3) true,ae (o 96 (.call ⟨.value (.func 208),#[.tmp 95],#[81]⟩) 3) true,a0 (o 97 (.binOp .sub 3 (.tmp 91) (.tmp 96) 3) 3),a0 (o 98 (.binOp .gtr 3 (.tmp 86) (.tmp 97) 3) 4)]
def O165_12:List Oper:=A165_12.map (·.o)
@[simp] theorem r165_12 (T:Regs) (H:IH):run J okAll (.region 12 D165_12.toArray true) T H=annSel J okAll D165_12.toArray T H (eRun J (cal J okAll) O165_12.toArray A165_12 T H 0 []):=r_ann (by kernel_rfl) (by kernel_rfl) 12 T H
def C165:Code:=(.seq (.region 0 #[o 10 (.assign (xi 0)) 3,o 11 (.assign (.const (.slice none 0 0))) 136] false) (.seq (.region 1 #[o 19 (.move (.tmp 0)) 79,o 20 (.nilCheck (.tmp 19)) 0,o 21 (.fieldAddr 84 (.tmp 20) 2) 0,o 22 (.load 81 (.tmp 21)) 81,o 23 (.move (.tmp 1)) 3,o 24 (.move (.tmp 2)) 3,o 25 (.call ⟨.value (.func 205),#[.tmp 22,.tmp 23,.tmp 24],#[81,3,3]⟩) 227,o 18 (.move (.tmp 25)) 227,o 26 (.extract (.tmp 18) 0) 3,o 27 (.extract (.tmp 18) 1) 72,o 12 (.assign (.tmp 26)) 3,o 13 (.assign (.tmp 27)) 72] false) (.seq (.region 2 #[o 28 (.move (.tmp 0)) 79,o 29 (.move (.tmp 13)) 72,o 30 (.binOp .eql 72 (.tmp 29) (xi 0) 72) 4,o 31 (.call ⟨.value (.func 63),#[.tmp 28,.tmp 30],#[79,4]⟩) 0] false) (.seq (.region 3 #[o 32 (.move (.tmp 0)) 79,o 33 (.move (.tmp 3)) 28,o 34 (.call ⟨.value (.func 111),#[.tmp 32,.tmp 33],#[79,28]⟩) 0] false) (.seq (.region 4 #[o 35 (.move (.tmp 0)) 79,o 36 (.nilCheck (.tmp 35)) 0,o 37 (.fieldAddr 84 (.tmp 36) 6) 0,o 38 (.load 3 (.tmp 37)) 3,o 14 (.assign (.tmp 38)) 3] false) (.seq (.region 5 #[o 39 (.move (.tmp 0)) 79,o 40 (.nilCheck (.tmp 39)) 0,o 41 (.fieldAddr 84 (.tmp 40) 6) 0,o 42 (.load 3 (.tmp 41)) 3,o 43 (.binOp .add 3 (.tmp 42) (xi 1) 3) 3,o 44 (.nilCheck (.tmp 39)) 0,o 45 (.fieldAddr 84 (.tmp 44) 6) 0,oz (.store 3 (.tmp 45) (.tmp 43)) 0] false) (.seq (.region 6 #[o 46 (.move (.tmp 14)) 3,o 47 (.move (.tmp 0)) 79,o 48 (.nilCheck (.tmp 47)) 0,o 49 (.fieldAddr 84 (.tmp 48) 1) 0,o 50 (.fieldAddr 37 (.tmp 49) 4) 0,o 51 (.load 35 (.tmp 50)) 35,o 52 (.call ⟨.builtin .len,#[.tmp 51],#[35]⟩) 3,o 53 (.binOp .lss 3 (.tmp 46) (.tmp 52) 3) 4,o 54 (.move (.tmp 53)) 4,og 55 (.move (.tmp 0)) 79 8 true,og 56 (.nilCheck (.tmp 55)) 0 8 true,og 57 (.fieldAddr 84 (.tmp 56) 1) 0 8 true,og 58 (.fieldAddr 37 (.tmp 57) 4) 0 8 true,og 59 (.load 35 (.tmp 58)) 35 8 true,og 60 (.move (.tmp 14)) 3 8 true,og 61 (.indexAddr 35 (.tmp 59) (.tmp 60)) 0 8 true,og 62 (.load 4 (.tmp 61)) 4 8 true,o 63 (.pick (.tmp 54) (.tmp 62) (.const (.bool false))) 4,o 15 (.assign (.tmp 63)) 4] false) (.seq (.seq (.region 7 #[o 64 (.move (.tmp 15)) 4] false) (.cond (.tmp 64) (.region 8 #[o 65 (.move (.tmp 0)) 79,o 66 (.move (.tmp 4)) 136,o 67 (.call ⟨.value (.func 206),#[.tmp 65,.tmp 66],#[79,136]⟩) 136,o 4 (.assign (.tmp 67)) 136] false) .skip)) (.seq (.seq (.region 9 D165_9.toArray true) (.cond (.tmp 80) (.seq (.seq (.region 10 #[o 81 (.move (.tmp 15)) 4,o 82 (.unOp .not 4 (.tmp 81)) 4] false) (.cond (.tmp 82) (.region 11 #[o 83 (.move (.tmp 0)) 79,o 84 (.move (.tmp 4)) 136,o 85 (.call ⟨.value (.func 206),#[.tmp 83,.tmp 84],#[79,136]⟩) 136,o 4 (.assign (.tmp 85)) 136] false) .skip)) (.seq (.region 12 D165_12.toArray true) (.cond (.tmp 98) (.region 13 #[o 99 (.move (.tmp 0)) 79,o 100 (.call ⟨.value (.func 67),#[.tmp 99,xi 4],#[79,3]⟩) 0] false) .skip))) .skip)) (.seq (.region 14 #[o 102 (.move (.tmp 0)) 79,o 103 (.nilCheck (.tmp 102)) 0,o 104 (.fieldAddr 84 (.tmp 103) 2) 0,o 105 (.load 81 (.tmp 104)) 81,o 106 (.move (.tmp 1)) 3,o 107 (.move (.tmp 2)) 3,o 108 (.call ⟨.value (.func 209),#[.tmp 105,.tmp 106,.tmp 107],#[81,3,3]⟩) 227,o 101 (.move (.tmp 108)) 227,o 109 (.extract (.tmp 101) 0) 3,o 110 (.extract (.tmp 101) 1) 72,o 16 (.assign (.tmp 109)) 3,o 17 (.assign (.tmp 110)) 72] false) (.seq (.region 15 #[o 111 (.move (.tmp 16)) 3,o 112 (.move (.tmp 4)) 136,o 10 (.assign (.tmp 111)) 3,o 11 (.assign (.tmp 112)) 136] false) .ret)))))))))))
theorem cal165 (args:Array Value) (H:IH) (h:args.size≤113):cal J okAll 165 args H=finish J [.tmp 10,.tmp 11] (run J okAll C165 (regsOf args.toList 0 .leaf) H):=cal_er J H okAll 165 args Tryz.f165 _ C165 _ rfl rfl rfl (by kernel_rfl) rfl h rfl rfl
def C166:Code:=(.seq (.region 0 #[o 8 (.assign (xi 0)) 72] false) (.seq (.seq (.region 1 #[o 11 (.move (.tmp 0)) 81,o 12 (.move (.tmp 1)) 3,o 13 (.move (.tmp 2)) 3,o 14 (.call ⟨.value (.func 210),#[.tmp 11,.tmp 12,.tmp 13,.const (.bool true)],#[81,3,3,4]⟩) 4,o 15 (.unOp .not 4 (.tmp 14)) 4] false) (.cond (.tmp 15) (.seq (.region 2 #[o 8 (.assign (xi 1)) 72] false) .ret) .skip)) (.seq (.region 3 #[o 16 (.move (.tmp 0)) 81,o 17 (.nilCheck (.tmp 16)) 0,o 18 (.fieldAddr 171 (.tmp 17) 0) 0,o 19 (.load 136 (.tmp 18)) 136,o 20 (.move (.tmp 1)) 3,o 21 (.binOp .add 3 (.tmp 20) (xi 1) 3) 3,o 22 (.move (.tmp 2)) 3,o 23 (.binOp .quo 3 (.tmp 22) (xi 8) 3) 3,o 24 (.binOp .add 3 (.tmp 21) (.tmp 23) 3) 3,o 25 (.indexAddr 136 (.tmp 19) (.tmp 24)) 0,o 26 (.move (.tmp 2)) 3,o 27 (.binOp .rem 3 (.tmp 26) (xi 8) 3) 3,o 28 (.binOp .mul 3 (.tmp 27) (xi 8) 3) 3,o 9 (.assign (.tmp 25)) 175,o 10 (.assign (.tmp 28)) 3] false) (.seq (.region 4 #[o 29 (.move (.tmp 9)) 175,o 30 (.move (.tmp 9)) 175,o 31 (.nilCheck (.tmp 30)) 0,o 32 (.load 62 (.tmp 31)) 62,o 33 (.move (.tmp 10)) 3,o 34 (.binOp .shl 62 (.const (.int .u64 255)) (.tmp 33) 3) 62,o 35 (.binOp .andNot 62 (.tmp 32) (.tmp 34) 62) 62,o 36 (.move (.tmp 3)) 5,o 37 (.convert 5 62 (.tmp 36)) 62,o 38 (.move (.tmp 10)) 3,o 39 (.binOp .shl 62 (.tmp 37) (.tmp 38) 3) 62,o 40 (.binOp .or 62 (.tmp 35) (.tmp 39) 62) 62,o 41 (.nilCheck (.tmp 29)) 0,oz (.store 62 (.tmp 41) (.tmp 40)) 0] false) (.seq (.region 5 #[o 8 (.assign (xi 0)) 72] false) .ret)))))
theorem cal166 (args:Array Value) (H:IH) (h:args.size≤42):cal J okAll 166 args H=finish J [.tmp 8] (run J okAll C166 (regsOf args.toList 0 .leaf) H):=cal_er J H okAll 166 args Tryz.f166 _ C166 _ rfl rfl rfl (by kernel_rfl) rfl h rfl rfl
def C167:Code:=(.seq (.region 0 #[o 2 (.assign (.const (.int .u64 0))) 62] false) (.seq (.region 1 #[o 3 (.move (.tmp 0)) 3,o 4 (.convert 3 62 (.tmp 3)) 62,o 5 (.binOp .shl 62 (.tmp 4) (.const (.int .u64 1)) 31) 62,o 6 (.binOp .or 62 (.tmp 5) (.const (.int .u64 0)) 62) 62,o 2 (.assign (.tmp 6)) 62] false) .ret))
theorem cal167 (args:Array Value) (H:IH) (h:args.size≤7):cal J okAll 167 args H=finish J [.tmp 2] (run J okAll C167 (regsOf args.toList 0 .leaf) H):=cal_er J H okAll 167 args Tryz.f167 _ C167 _ rfl rfl rfl (by kernel_rfl) rfl h rfl rfl
def C168:Code:=(.seq (.region 0 #[o 8 (.assign (xi 0)) 3,o 9 (.assign (xi 0)) 3] false) (.seq (.region 1 #[o 14 (.move (.tmp 0)) 79,o 15 (.move (.tmp 1)) 3,o 16 (.call ⟨.value (.func 102),#[.tmp 14,.tmp 15],#[79,3]⟩) 175,o 17 (.nilCheck (.tmp 16)) 0,o 18 (.load 62 (.tmp 17)) 62,o 10 (.assign (.tmp 18)) 62] false) (.seq (.region 2 #[o 19 (.move (.tmp 0)) 79,o 20 (.move (.tmp 10)) 62,o 21 (.call ⟨.value (.func 160),#[.tmp 20],#[62]⟩) 4,o 22 (.unOp .not 4 (.tmp 21)) 4,o 23 (.call ⟨.value (.func 63),#[.tmp 19,.tmp 22],#[79,4]⟩) 0] false) (.seq (.region 3 #[o 24 (.move (.tmp 10)) 62,o 25 (.call ⟨.value (.func 163),#[.tmp 24],#[62]⟩) 3,o 8 (.assign (.tmp 25)) 3] false) (.seq (.region 4 #[o 27 (.move (.tmp 0)) 79,o 28 (.nilCheck (.tmp 27)) 0,o 29 (.fieldAddr 84 (.tmp 28) 2) 0,o 30 (.load 81 (.tmp 29)) 81,o 31 (.move (.tmp 8)) 3,o 32 (.call ⟨.value (.func 162),#[.tmp 30,.tmp 31],#[81,3]⟩) 227,o 26 (.move (.tmp 32)) 227,o 33 (.extract (.tmp 26) 0) 3,o 34 (.extract (.tmp 26) 1) 72,o 11 (.assign (.tmp 33)) 3,o 12 (.assign (.tmp 34)) 72] false) (.seq (.region 5 #[o 35 (.move (.tmp 0)) 79,o 36 (.nilCheck (.tmp 35)) 0,o 37 (.fieldAddr 84 (.tmp 36) 2) 0,o 38 (.load 81 (.tmp 37)) 81,o 39 (.move (.tmp 11)) 3,o 40 (.call ⟨.value (.func 108),#[.tmp 38,.tmp 39],#[81,3]⟩) 3,o 13 (.assign (.tmp 40)) 3] false) (.seq (.region 6 #[o 41 (.move (.tmp 0)) 79,o 42 (.move (.tmp 13)) 3,o 43 (.move (.tmp 2)) 3,o 44 (.binOp .eql 3 (.tmp 42) (.tmp 43) 3) 4,o 45 (.move (.tmp 44)) 4,og 46 (.move (.tmp 13)) 3 4 false,og 47 (.move (.tmp 3)) 3 4 false,og 48 (.binOp .eql 3 (.tmp 46) (.tmp 47) 3) 4 4 false,o 49 (.pick (.tmp 45) (.const (.bool true)) (.tmp 48)) 4,o 50 (.call ⟨.value (.func 63),#[.tmp 41,.tmp 49],#[79,4]⟩) 0] false) (.seq (.region 7 #[o 52 (.move (.tmp 0)) 79,o 53 (.nilCheck (.tmp 52)) 0,o 54 (.fieldAddr 84 (.tmp 53) 2) 0,o 55 (.load 81 (.tmp 54)) 81,o 56 (.move (.tmp 8)) 3,o 57 (.call ⟨.value (.func 211),#[.tmp 55,.tmp 56],#[81,3]⟩) 227,o 51 (.move (.tmp 57)) 227,o 58 (.extract (.tmp 51) 0) 3,o 59 (.extract (.tmp 51) 1) 72,o 9 (.assign (.tmp 58)) 3] false) (.seq (.region 8 #[o 60 (.move (.tmp 8)) 3,o 61 (.move (.tmp 9)) 3,o 8 (.assign (.tmp 60)) 3,o 9 (.assign (.tmp 61)) 3] false) .ret)))))))))
theorem cal168 (args:Array Value) (H:IH) (h:args.size≤62):cal J okAll 168 args H=finish J [.tmp 8,.tmp 9] (run J okAll C168 (regsOf args.toList 0 .leaf) H):=cal_er J H okAll 168 args Tryz.f168 _ C168 _ rfl rfl rfl (by kernel_rfl) rfl h rfl rfl
def C169:Code:=(.seq (.region 0 #[o 6 (.assign (.const (.int .u8 0))) 5,o 7 (.assign (xi 0)) 72] false) (.seq (.seq (.region 1 #[o 8 (.move (.tmp 0)) 81,o 9 (.move (.tmp 1)) 3,o 10 (.move (.tmp 2)) 3,o 11 (.call ⟨.value (.func 210),#[.tmp 8,.tmp 9,.tmp 10,.const (.bool true)],#[81,3,3,4]⟩) 4,o 12 (.unOp .not 4 (.tmp 11)) 4] false) (.cond (.tmp 12) (.seq (.region 2 #[o 6 (.assign (.const (.int .u8 0))) 5,o 7 (.assign (xi 1)) 72] false) .ret) .skip)) (.seq (.region 3 #[o 13 (.move (.tmp 0)) 81,o 14 (.nilCheck (.tmp 13)) 0,o 15 (.fieldAddr 171 (.tmp 14) 0) 0,o 16 (.load 136 (.tmp 15)) 136,o 17 (.move (.tmp 1)) 3,o 18 (.binOp .add 3 (.tmp 17) (xi 1) 3) 3,o 19 (.move (.tmp 2)) 3,o 20 (.binOp .quo 3 (.tmp 19) (xi 8) 3) 3,o 21 (.binOp .add 3 (.tmp 18) (.tmp 20) 3) 3,o 22 (.indexAddr 136 (.tmp 16) (.tmp 21)) 0,o 23 (.load 62 (.tmp 22)) 62,o 24 (.move (.tmp 2)) 3,o 25 (.binOp .rem 3 (.tmp 24) (xi 8) 3) 3,o 26 (.binOp .mul 3 (.tmp 25) (xi 8) 3) 3,o 27 (.binOp .shr 62 (.tmp 23) (.tmp 26) 3) 62,o 28 (.convert 62 5 (.tmp 27)) 5,o 6 (.assign (.tmp 28)) 5,o 7 (.assign (xi 0)) 72] false) .ret)))
theorem cal169 (args:Array Value) (H:IH) (h:args.size≤29):cal J okAll 169 args H=finish J [.tmp 6,.tmp 7] (run J okAll C169 (regsOf args.toList 0 .leaf) H):=cal_er J H okAll 169 args Tryz.f169 _ C169 _ rfl rfl rfl (by kernel_rfl) rfl h rfl rfl
def C170:Code:=(.seq (.region 0 #[o 2 (.assign (xi 0)) 3] false) (.seq (.seq (.region 1 #[o 3 (.move (.tmp 0)) 2,o 4 (.binOp .lss 2 (.tmp 3) (xi 0) 2) 4,o 5 (.move (.tmp 4)) 4,og 6 (.move (.tmp 0)) 2 2 false,og 7 (.binOp .gtr 2 (.tmp 6) (xi 65536) 2) 4 2 false,o 8 (.pick (.tmp 5) (.const (.bool true)) (.tmp 7)) 4] false) (.cond (.tmp 8) (.seq (.region 2 #[o 2 (.assign (xi (-1))) 3] false) .ret) .skip)) (.seq (.region 3 #[o 9 (.move (.tmp 0)) 2,o 2 (.assign (.tmp 9)) 3] false) .ret)))
theorem cal170 (args:Array Value) (H:IH) (h:args.size≤10):cal J okAll 170 args H=finish J [.tmp 2] (run J okAll C170 (regsOf args.toList 0 .leaf) H):=cal_er J H okAll 170 args Tryz.f170 _ C170 _ rfl rfl rfl (by kernel_rfl) rfl h rfl rfl
def D171_1:List Oper:=regOf Tryz.f171 1
@[simp] def A171_1:List Ann:=[a0 (o 8 (.move (.tmp 0)) 81),a0 (o 9 (.move (.tmp 1)) 3),ae (o 10 (.call ⟨.value (.func 203),#[.tmp 8,.tmp 9],#[81,3]⟩) 4) true,a0 (o 11 (.unOp .not 4 (.tmp 10)) 4),a0 (o 12 (.move (.tmp 11)) 4),a0 (og 13 (.move (.tmp 0)) 81 4 false),a0 (og 14 (.nilCheck (.tmp 13)) 0 4 false),a0 (og 15 (.fieldAddr 171 (.tmp 14) 2) 0 4 false),al (og 16 (.load 125 (.tmp 15)) 125 4 false) [2],a0 (og 17 (.move (.tmp 0)) 81 4 false),a0 (og 18 (.nilCheck (.tmp 17)) 0 4 false),a0 (og 19 (.fieldAddr 171 (.tmp 18) 0) 0 4 false),a0 (og 20 (.load 136 (.tmp 19)) 136 4 false),a0 (og 21 (.move (.tmp 1)) 3 4 false),a0 (og 22 (.indexAddr 136 (.tmp 20) (.tmp 21)) 0 4 false),a0 (og 23 (.load 62 (.tmp 22)) 62 4 false),ae (og 24 (.call ⟨.value (.func 204),#[.tmp 23],#[62]⟩) 3 4 false) true,a0 (og 25 (.indexAddr 125 (.tmp 16) (.tmp 24)) 0 4 false),a0 (og 26 (.fieldAddr 127 (.tmp 25) 0) 0 4 false),a0 (og 27 (.load 3 (.tmp 26)) 3 4 false),a0 (og 28 (.binOp .neq 3 (.tmp 27) (xi 3) 3) 4 4 false),a0 (o 29 (.pick (.tmp 12) (.const (.bool true)) (.tmp 28)) 4)]
def O171_1:List Oper:=A171_1.map (·.o)
@[simp] theorem g171_1_4:(O171_1[4]?).bind (·.dst)=some 12:=id rfl
@[simp] theorem r171_1 (T:Regs) (H:IH):run J okAll (.region 1 D171_1.toArray true) T H=annSel J okAll D171_1.toArray T H (eRun J (cal J okAll) O171_1.toArray A171_1 T H 0 []):=r_ann (by kernel_rfl) (by kernel_rfl) 1 T H
def L171_0:Code:=(.seq (.region 5 #[o 42 (.binOp .lss 3 (.tmp 41) (.tmp 40) 3) 0] false) (.seq (.cond (.tmp 42) .skip (.exit 0)) (.seq (.block 1 (.seq (.region 6 #[o 43 (.move (.tmp 41)) 3,o 7 (.assign (.tmp 43)) 3] false) (.region 7 #[o 44 (.move (.tmp 6)) 34,o 45 (.move (.tmp 7)) 3,o 46 (.move (.tmp 0)) 81,o 47 (.nilCheck (.tmp 46)) 0,o 48 (.fieldAddr 171 (.tmp 47) 0) 0,o 49 (.load 136 (.tmp 48)) 136,o 50 (.move (.tmp 1)) 3,o 51 (.binOp .add 3 (.tmp 50) (xi 1) 3) 3,o 52 (.move (.tmp 7)) 3,o 53 (.binOp .quo 3 (.tmp 52) (xi 8) 3) 3,o 54 (.binOp .add 3 (.tmp 51) (.tmp 53) 3) 3,o 55 (.indexAddr 136 (.tmp 49) (.tmp 54)) 0,o 56 (.load 62 (.tmp 55)) 62,o 57 (.move (.tmp 7)) 3,o 58 (.binOp .rem 3 (.tmp 57) (xi 8) 3) 3,o 59 (.binOp .mul 3 (.tmp 58) (xi 8) 3) 3,o 60 (.binOp .shr 62 (.tmp 56) (.tmp 59) 3) 62,o 61 (.convert 62 5 (.tmp 60)) 5,o 62 (.indexAddr 34 (.tmp 44) (.tmp 45)) 0,oz (.store 5 (.tmp 62) (.tmp 61)) 0] false))) (.region 8 #[o 63 (.binOp .add 3 (.tmp 41) (xi 1) 3) 3,o 41 (.move (.tmp 63)) 3] false))))
def C171:Code:=(.seq (.region 0 #[o 4 (.assign (.const (.string ⟨#[]⟩))) 9,o 5 (.assign (xi 0)) 72] false) (.seq (.seq (.region 1 D171_1.toArray true) (.cond (.tmp 29) (.seq (.region 2 #[o 4 (.assign (.const (.string ⟨#[]⟩))) 9,o 5 (.assign (xi 1)) 72] false) .ret) .skip)) (.seq (.region 3 #[o 30 (.move (.tmp 0)) 81,o 31 (.nilCheck (.tmp 30)) 0,o 32 (.fieldAddr 171 (.tmp 31) 0) 0,o 33 (.load 136 (.tmp 32)) 136,o 34 (.move (.tmp 1)) 3,o 35 (.indexAddr 136 (.tmp 33) (.tmp 34)) 0,o 36 (.load 62 (.tmp 35)) 62,o 37 (.call ⟨.value (.func 212),#[.tmp 36],#[62]⟩) 3,o 38 (.makeSlice 34 (.tmp 37) (.tmp 37)) 34,o 6 (.assign (.tmp 38)) 34] false) (.seq (.seq (.region 4 #[o 39 (.move (.tmp 6)) 34,o 40 (.call ⟨.builtin .len,#[.tmp 39],#[34]⟩) 3,o 41 (.move (xi 0)) 3] false) (.block 0 (.loop L171_0))) (.seq (.region 9 #[o 64 (.move (.tmp 6)) 34,o 65 (.convert 34 9 (.tmp 64)) 9,o 4 (.assign (.tmp 65)) 9,o 5 (.assign (xi 0)) 72] false) .ret)))))
theorem cal171 (args:Array Value) (H:IH) (h:args.size≤66):cal J okAll 171 args H=finish J [.tmp 4,.tmp 5] (run J okAll C171 (regsOf args.toList 0 .leaf) H):=cal_er J H okAll 171 args Tryz.f171 _ C171 _ rfl rfl rfl (by kernel_rfl) rfl h rfl rfl
def C172:Code:=(.seq (.region 0 #[o 4 (.assign (xi 0)) 3] false) (.seq (.region 1 #[o 5 (.move (.tmp 0)) 9,o 6 (.move (.tmp 1)) 9,o 7 (.call ⟨.value (.func 213),#[.tmp 5,.tmp 6],#[9,9]⟩) 3,o 4 (.assign (.tmp 7)) 3] false) .ret))
theorem cal172 (args:Array Value) (H:IH) (h:args.size≤8):cal J okAll 172 args H=finish J [.tmp 4] (run J okAll C172 (regsOf args.toList 0 .leaf) H):=cal_er J H okAll 172 args Tryz.f172 _ C172 _ rfl rfl rfl (by kernel_rfl) rfl h rfl rfl
def C175:Code:=(.seq (.region 0 #[o 4 (.assign (.const (.bool false))) 4] false) (.seq (.region 1 #[o 5 (.move (.tmp 0)) 246,o 6 (.move (.tmp 1)) 248,o 7 (.call ⟨.value (.func 215),#[.tmp 5,.tmp 6],#[246,248]⟩) 3,o 8 (.binOp .geq 3 (.tmp 7) (xi 0) 3) 4,o 4 (.assign (.tmp 8)) 4] false) .ret))
theorem cal175 (args:Array Value) (H:IH) (h:args.size≤9):cal J okAll 175 args H=finish J [.tmp 4] (run J okAll C175 (regsOf args.toList 0 .leaf) H):=cal_er J H okAll 175 args Tryz.f175 _ C175 _ rfl rfl rfl (by kernel_rfl) rfl h rfl rfl
def C176:Code:=(.seq (.region 0 #[o 3 (.assign (.const (.bool false))) 4] false) (.seq (.region 1 #[o 4 (.move (.tmp 0)) 22,o 5 (.call ⟨.builtin .len,#[.tmp 4],#[22]⟩) 3,o 6 (.load 3 (.tmp 1)) 3,o 7 (.binOp .gtr 3 (.tmp 5) (.tmp 6) 3) 4,o 3 (.assign (.tmp 7)) 4] false) .ret))
theorem cal176 (args:Array Value) (H:IH) (h:args.size≤8):cal J okAll 176 args H=finish J [.tmp 3] (run J okAll C176 (regsOf args.toList 0 .leaf) H):=cal_er J H okAll 176 args Tryz.f176 _ C176 _ rfl rfl rfl (by kernel_rfl) rfl h rfl rfl
def C177:Code:=(.seq (.region 0 #[o 4 (.assign (.const (.bool false))) 4] false) (.seq (.region 1 #[o 5 (.move (.tmp 0)) 249,o 6 (.move (.tmp 1)) 251,o 7 (.call ⟨.value (.func 216),#[.tmp 5,.tmp 6],#[249,251]⟩) 3,o 8 (.binOp .geq 3 (.tmp 7) (xi 0) 3) 4,o 4 (.assign (.tmp 8)) 4] false) .ret))
theorem cal177 (args:Array Value) (H:IH) (h:args.size≤9):cal J okAll 177 args H=finish J [.tmp 4] (run J okAll C177 (regsOf args.toList 0 .leaf) H):=cal_er J H okAll 177 args Tryz.f177 _ C177 _ rfl rfl rfl (by kernel_rfl) rfl h rfl rfl
def C178:Code:=(.seq (.region 0 #[o 3 (.assign (.const (.bool false))) 4] false) (.seq (.region 1 #[o 4 (.move (.tmp 0)) 23,o 5 (.call ⟨.builtin .len,#[.tmp 4],#[23]⟩) 3,o 6 (.load 3 (.tmp 1)) 3,o 7 (.binOp .gtr 3 (.tmp 5) (.tmp 6) 3) 4,o 3 (.assign (.tmp 7)) 4] false) .ret))
theorem cal178 (args:Array Value) (H:IH) (h:args.size≤8):cal J okAll 178 args H=finish J [.tmp 3] (run J okAll C178 (regsOf args.toList 0 .leaf) H):=cal_er J H okAll 178 args Tryz.f178 _ C178 _ rfl rfl rfl (by kernel_rfl) rfl h rfl rfl
def C179:Code:=(.seq (.region 0 #[o 4 (.assign (.const (.bool false))) 4] false) (.seq (.region 1 #[o 5 (.move (.tmp 0)) 252,o 6 (.move (.tmp 1)) 254,o 7 (.call ⟨.value (.func 217),#[.tmp 5,.tmp 6],#[252,254]⟩) 3,o 8 (.binOp .geq 3 (.tmp 7) (xi 0) 3) 4,o 4 (.assign (.tmp 8)) 4] false) .ret))
theorem cal179 (args:Array Value) (H:IH) (h:args.size≤9):cal J okAll 179 args H=finish J [.tmp 4] (run J okAll C179 (regsOf args.toList 0 .leaf) H):=cal_er J H okAll 179 args Tryz.f179 _ C179 _ rfl rfl rfl (by kernel_rfl) rfl h rfl rfl
def C180:Code:=(.seq (.region 0 #[o 3 (.assign (.const (.bool false))) 4] false) (.seq (.region 1 #[o 4 (.move (.tmp 0)) 24,o 5 (.call ⟨.builtin .len,#[.tmp 4],#[24]⟩) 3,o 6 (.load 3 (.tmp 1)) 3,o 7 (.binOp .gtr 3 (.tmp 5) (.tmp 6) 3) 4,o 3 (.assign (.tmp 7)) 4] false) .ret))
theorem cal180 (args:Array Value) (H:IH) (h:args.size≤8):cal J okAll 180 args H=finish J [.tmp 3] (run J okAll C180 (regsOf args.toList 0 .leaf) H):=cal_er J H okAll 180 args Tryz.f180 _ C180 _ rfl rfl rfl (by kernel_rfl) rfl h rfl rfl
def C181:Code:=(.seq (.region 0 #[o 4 (.assign (.const (.bool false))) 4] false) (.seq (.region 1 #[o 5 (.move (.tmp 0)) 255,o 6 (.move (.tmp 1)) 257,o 7 (.call ⟨.value (.func 218),#[.tmp 5,.tmp 6],#[255,257]⟩) 3,o 8 (.binOp .geq 3 (.tmp 7) (xi 0) 3) 4,o 4 (.assign (.tmp 8)) 4] false) .ret))
theorem cal181 (args:Array Value) (H:IH) (h:args.size≤9):cal J okAll 181 args H=finish J [.tmp 4] (run J okAll C181 (regsOf args.toList 0 .leaf) H):=cal_er J H okAll 181 args Tryz.f181 _ C181 _ rfl rfl rfl (by kernel_rfl) rfl h rfl rfl
def C182:Code:=(.seq (.region 0 #[o 3 (.assign (.const (.bool false))) 4] false) (.seq (.region 1 #[o 4 (.move (.tmp 0)) 25,o 5 (.call ⟨.builtin .len,#[.tmp 4],#[25]⟩) 3,o 6 (.load 3 (.tmp 1)) 3,o 7 (.binOp .gtr 3 (.tmp 5) (.tmp 6) 3) 4,o 3 (.assign (.tmp 7)) 4] false) .ret))
theorem cal182 (args:Array Value) (H:IH) (h:args.size≤8):cal J okAll 182 args H=finish J [.tmp 3] (run J okAll C182 (regsOf args.toList 0 .leaf) H):=cal_er J H okAll 182 args Tryz.f182 _ C182 _ rfl rfl rfl (by kernel_rfl) rfl h rfl rfl
def C183:Code:=(.seq (.region 0 #[o 4 (.assign (.const (.bool false))) 4] false) (.seq (.region 1 #[o 5 (.move (.tmp 0)) 24,o 6 (.move (.tmp 1)) 259,o 7 (.call ⟨.value (.func 219),#[.tmp 5,.tmp 6],#[24,259]⟩) 3,o 8 (.binOp .geq 3 (.tmp 7) (xi 0) 3) 4,o 4 (.assign (.tmp 8)) 4] false) .ret))
theorem cal183 (args:Array Value) (H:IH) (h:args.size≤9):cal J okAll 183 args H=finish J [.tmp 4] (run J okAll C183 (regsOf args.toList 0 .leaf) H):=cal_er J H okAll 183 args Tryz.f183 _ C183 _ rfl rfl rfl (by kernel_rfl) rfl h rfl rfl
def C184:Code:=(.seq (.region 0 #[o 2 (.assign (.const (.bool false))) 4] false) (.seq (.region 1 #[o 3 (.move (.tmp 0)) 9,o 4 (.call ⟨.builtin .len,#[.tmp 3],#[9]⟩) 3,o 5 (.binOp .gtr 3 (.tmp 4) (xi 16384) 3) 4,o 2 (.assign (.tmp 5)) 4] false) .ret))
theorem cal184 (args:Array Value) (H:IH) (h:args.size≤6):cal J okAll 184 args H=finish J [.tmp 2] (run J okAll C184 (regsOf args.toList 0 .leaf) H):=cal_er J H okAll 184 args Tryz.f184 _ C184 _ rfl rfl rfl (by kernel_rfl) rfl h rfl rfl
def C185:Code:=(.seq (.region 0 #[o 4 (.assign (.const (.bool false))) 4] false) (.seq (.region 1 #[o 5 (.move (.tmp 0)) 260,o 6 (.move (.tmp 1)) 205,o 7 (.call ⟨.value (.func 220),#[.tmp 5,.tmp 6],#[260,205]⟩) 3,o 8 (.binOp .geq 3 (.tmp 7) (xi 0) 3) 4,o 4 (.assign (.tmp 8)) 4] false) .ret))
theorem cal185 (args:Array Value) (H:IH) (h:args.size≤9):cal J okAll 185 args H=finish J [.tmp 4] (run J okAll C185 (regsOf args.toList 0 .leaf) H):=cal_er J H okAll 185 args Tryz.f185 _ C185 _ rfl rfl rfl (by kernel_rfl) rfl h rfl rfl
def C186:Code:=(.seq (.region 0 #[o 3 (.assign (.const (.bool false))) 4] false) (.seq (.region 1 #[o 4 (.move (.tmp 0)) 28,o 5 (.call ⟨.builtin .len,#[.tmp 4],#[28]⟩) 3,o 6 (.load 3 (.tmp 1)) 3,o 7 (.binOp .gtr 3 (.tmp 5) (.tmp 6) 3) 4,o 3 (.assign (.tmp 7)) 4] false) .ret))
theorem cal186 (args:Array Value) (H:IH) (h:args.size≤8):cal J okAll 186 args H=finish J [.tmp 3] (run J okAll C186 (regsOf args.toList 0 .leaf) H):=cal_er J H okAll 186 args Tryz.f186 _ C186 _ rfl rfl rfl (by kernel_rfl) rfl h rfl rfl
def C187:Code:=(.seq (.region 0 #[o 4 (.assign (.const (.bool false))) 4] false) (.seq (.region 1 #[o 5 (.move (.tmp 0)) 262,o 6 (.move (.tmp 1)) 264,o 7 (.call ⟨.value (.func 221),#[.tmp 5,.tmp 6],#[262,264]⟩) 3,o 8 (.binOp .geq 3 (.tmp 7) (xi 0) 3) 4,o 4 (.assign (.tmp 8)) 4] false) .ret))
theorem cal187 (args:Array Value) (H:IH) (h:args.size≤9):cal J okAll 187 args H=finish J [.tmp 4] (run J okAll C187 (regsOf args.toList 0 .leaf) H):=cal_er J H okAll 187 args Tryz.f187 _ C187 _ rfl rfl rfl (by kernel_rfl) rfl h rfl rfl
def C188:Code:=(.seq (.region 0 #[o 3 (.assign (.const (.bool false))) 4] false) (.seq (.region 1 #[o 4 (.move (.tmp 0)) 57,o 5 (.call ⟨.builtin .len,#[.tmp 4],#[57]⟩) 3,o 6 (.load 3 (.tmp 1)) 3,o 7 (.binOp .gtr 3 (.tmp 5) (.tmp 6) 3) 4,o 3 (.assign (.tmp 7)) 4] false) .ret))
theorem cal188 (args:Array Value) (H:IH) (h:args.size≤8):cal J okAll 188 args H=finish J [.tmp 3] (run J okAll C188 (regsOf args.toList 0 .leaf) H):=cal_er J H okAll 188 args Tryz.f188 _ C188 _ rfl rfl rfl (by kernel_rfl) rfl h rfl rfl
def C203:Code:=(.seq (.region 0 #[o 4 (.assign (.const (.bool false))) 4] false) (.seq (.region 1 #[o 5 (.move (.tmp 0)) 81,o 6 (.binOp .neq 81 (.tmp 5) (.const (.pointer none)) 81) 4,o 7 (.move (.tmp 6)) 4,og 8 (.move (.tmp 1)) 3 2 true,og 9 (.binOp .geq 3 (.tmp 8) (xi 0) 3) 4 2 true,o 10 (.pick (.tmp 7) (.tmp 9) (.const (.bool false))) 4,o 11 (.move (.tmp 10)) 4,og 12 (.move (.tmp 1)) 3 6 true,og 13 (.move (.tmp 0)) 81 6 true,og 14 (.nilCheck (.tmp 13)) 0 6 true,og 15 (.fieldAddr 171 (.tmp 14) 3) 0 6 true,og 16 (.load 3 (.tmp 15)) 3 6 true,og 17 (.binOp .lss 3 (.tmp 12) (.tmp 16) 3) 4 6 true,o 18 (.pick (.tmp 11) (.tmp 17) (.const (.bool false))) 4,o 19 (.move (.tmp 18)) 4,og 20 (.move (.tmp 0)) 81 14 true,og 21 (.nilCheck (.tmp 20)) 0 14 true,og 22 (.fieldAddr 171 (.tmp 21) 1) 0 14 true,og 23 (.load 136 (.tmp 22)) 136 14 true,og 24 (.move (.tmp 1)) 3 14 true,og 25 (.binOp .quo 3 (.tmp 24) (xi 64) 3) 3 14 true,og 26 (.indexAddr 136 (.tmp 23) (.tmp 25)) 0 14 true,og 27 (.load 62 (.tmp 26)) 62 14 true,og 28 (.move (.tmp 1)) 3 14 true,og 29 (.binOp .rem 3 (.tmp 28) (xi 64) 3) 3 14 true,og 30 (.binOp .shr 62 (.tmp 27) (.tmp 29) 3) 62 14 true,og 31 (.binOp .and 62 (.tmp 30) (.const (.int .u64 1)) 62) 62 14 true,og 32 (.binOp .eql 62 (.tmp 31) (.const (.int .u64 1)) 62) 4 14 true,o 33 (.pick (.tmp 19) (.tmp 32) (.const (.bool false))) 4,o 4 (.assign (.tmp 33)) 4] false) .ret))
theorem cal203 (args:Array Value) (H:IH) (h:args.size≤34):cal J okAll 203 args H=finish J [.tmp 4] (run J okAll C203 (regsOf args.toList 0 .leaf) H):=cal_er J H okAll 203 args Tryz.f203 _ C203 _ rfl rfl rfl (by kernel_rfl) rfl h rfl rfl
def C204:Code:=(.seq (.region 0 #[o 2 (.assign (xi 0)) 3] false) (.seq (.region 1 #[o 3 (.move (.tmp 0)) 62,o 4 (.binOp .shr 62 (.tmp 3) (.const (.int .u64 1)) 31) 62,o 5 (.binOp .and 62 (.tmp 4) (.const (.int .u64 1048575)) 62) 62,o 6 (.convert 62 3 (.tmp 5)) 3,o 2 (.assign (.tmp 6)) 3] false) .ret))
theorem cal204 (args:Array Value) (H:IH) (h:args.size≤7):cal J okAll 204 args H=finish J [.tmp 2] (run J okAll C204 (regsOf args.toList 0 .leaf) H):=cal_er J H okAll 204 args Tryz.f204 _ C204 _ rfl rfl rfl (by kernel_rfl) rfl h rfl rfl
end
noncomputable section
def C205:Code:=(.seq (.region 0 #[o 6 (.assign (xi 0)) 3,o 7 (.assign (xi 0)) 72] false) (.seq (.seq (.region 1 #[o 9 (.move (.tmp 0)) 81,o 10 (.binOp .eql 81 (.tmp 9) (.const (.pointer none)) 81) 4,o 11 (.move (.tmp 10)) 4,og 12 (.move (.tmp 1)) 3 2 false,og 13 (.binOp .lss 3 (.tmp 12) (xi 0) 3) 4 2 false,o 14 (.pick (.tmp 11) (.const (.bool true)) (.tmp 13)) 4,o 15 (.move (.tmp 14)) 4,og 16 (.move (.tmp 1)) 3 6 false,og 17 (.move (.tmp 0)) 81 6 false,og 18 (.nilCheck (.tmp 17)) 0 6 false,og 19 (.fieldAddr 171 (.tmp 18) 2) 0 6 false,og 20 (.load 125 (.tmp 19)) 125 6 false,og 21 (.call ⟨.builtin .len,#[.tmp 20],#[125]⟩) 3 6 false,og 22 (.binOp .geq 3 (.tmp 16) (.tmp 21) 3) 4 6 false,o 23 (.pick (.tmp 15) (.const (.bool true)) (.tmp 22)) 4,o 24 (.move (.tmp 23)) 4,og 25 (.move (.tmp 2)) 3 15 false,og 26 (.binOp .lss 3 (.tmp 25) (xi 0) 3) 4 15 false,o 27 (.pick (.tmp 24) (.const (.bool true)) (.tmp 26)) 4] false) (.cond (.tmp 27) (.seq (.region 2 #[o 6 (.assign (xi 0)) 3,o 7 (.assign (xi 1)) 72] false) .ret) .skip)) (.seq (.region 3 #[o 28 (.move (.tmp 0)) 81,o 29 (.nilCheck (.tmp 28)) 0,o 30 (.fieldAddr 171 (.tmp 29) 2) 0,o 31 (.load 125 (.tmp 30)) 125,o 32 (.move (.tmp 1)) 3,o 33 (.indexAddr 125 (.tmp 31) (.tmp 32)) 0,o 34 (.load 127 (.tmp 33)) 127,o 8 (.alloc 127) 0,oz (.store 127 (.tmp 8) (.tmp 34)) 0] false) (.seq (.block 0 (.seq (.region 4 #[o 36 (.fieldAddr 127 (.tmp 8) 0) 0,o 37 (.load 3 (.tmp 36)) 3,o 38 (.binOp .eql 3 (.tmp 37) (xi 1) 3) 4,o 39 (.move (.tmp 38)) 4,og 40 (.move (.tmp 2)) 3 3 true,og 41 (.fieldAddr 127 (.tmp 8) 1) 0 3 true,og 42 (.load 3 (.tmp 41)) 3 3 true,og 43 (.binOp .neq 3 (.tmp 40) (.tmp 42) 3) 4 3 true,o 44 (.pick (.tmp 39) (.tmp 43) (.const (.bool false))) 4,o 35 (.assign (.tmp 44)) 4] false) (.cond (.tmp 35) (.seq (.region 5 #[o 6 (.assign (xi 0)) 3,o 7 (.assign (xi 1)) 72] false) .ret) (.seq (.region 6 #[o 46 (.move (.tmp 2)) 3,o 47 (.binOp .gtr 3 (.tmp 46) (xi 65536) 3) 4,o 45 (.assign (.tmp 47)) 4] false) (.cond (.tmp 45) (.seq (.region 7 #[o 6 (.assign (xi 0)) 3,o 7 (.assign (xi 2)) 72] false) .ret) (.seq (.region 8 #[o 49 (.fieldAddr 127 (.tmp 8) 0) 0,o 50 (.load 3 (.tmp 49)) 3,o 51 (.binOp .eql 3 (.tmp 50) (xi 3) 3) 4,o 48 (.assign (.tmp 51)) 4] false) (.cond (.tmp 48) (.seq (.region 9 #[o 52 (.move (.tmp 2)) 3,o 53 (.binOp .add 3 (.tmp 52) (xi 7) 3) 3,o 54 (.binOp .quo 3 (.tmp 53) (xi 8) 3) 3,o 55 (.binOp .add 3 (xi 1) (.tmp 54) 3) 3,o 6 (.assign (.tmp 55)) 3,o 7 (.assign (xi 0)) 72] false) .ret) .skip))))))) (.seq (.region 10 #[o 56 (.move (.tmp 2)) 3,o 57 (.binOp .add 3 (xi 1) (.tmp 56) 3) 3,o 6 (.assign (.tmp 57)) 3,o 7 (.assign (xi 0)) 72] false) .ret)))))
theorem cal205 (args:Array Value) (H:IH) (h:args.size≤58):cal J okAll 205 args H=finish J [.tmp 6,.tmp 7] (run J okAll C205 (regsOf args.toList 0 .leaf) H):=cal_er J H okAll 205 args Tryz.f205 _ C205 _ rfl rfl rfl (by kernel_rfl) rfl h rfl rfl
def L206_0:Code:=(.seq (.region 3 #[o 18 (.binOp .lss 3 (.tmp 17) (.tmp 16) 3) 0] false) (.seq (.cond (.tmp 18) .skip (.exit 0)) (.seq (.block 1 (.seq (.region 4 #[o 19 (.indexAddr 82 (.tmp 15) (.tmp 17)) 0,o 20 (.load 131 (.tmp 19)) 131,o 7 (.assign (.tmp 20)) 131] false) (.region 5 #[o 21 (.move (.tmp 5)) 136,o 22 (.move (.tmp 7)) 131,o 23 (.nilCheck (.tmp 22)) 0,o 24 (.fieldAddr 138 (.tmp 23) 1) 0,o 25 (.load 136 (.tmp 24)) 136,o 26 (.call ⟨.builtin .append,#[.tmp 21,.tmp 25],#[136,136]⟩) 136,o 5 (.assign (.tmp 26)) 136] false))) (.region 6 #[o 27 (.binOp .add 3 (.tmp 17) (xi 1) 3) 3,o 17 (.move (.tmp 27)) 3] false))))
def D206_7:List Oper:=regOf Tryz.f206 7
@[simp] def A206_7:List Ann:=[a0 (o 29 (.move (.tmp 0)) 79),a0 (o 30 (.nilCheck (.tmp 29)) 0),a0 (o 31 (.fieldAddr 84 (.tmp 30) 2) 0),al (o 32 (.load 81 (.tmp 31)) 81) [1],a0 (o 33 (.move (.tmp 5)) 136),a0 (o 34 (.move (.tmp 1)) 136),ae (o 35 (.call ⟨.builtin .append,#[.tmp 33,.tmp 34],#[136,136]⟩) 136) true,ae (o 36 (.call ⟨.value (.func 223),#[.tmp 32,.tmp 35],#[81,136]⟩) 287) true,a0 (o 28 (.move (.tmp 36)) 287),a0 (o 37 (.extract (.tmp 28) 0) 136),a0 (o 38 (.extract (.tmp 28) 1) 72),a0 (o 5 (.assign (.tmp 37)) 136),a0 (o 8 (.assign (.tmp 38)) 72)]
def O206_7:List Oper:=A206_7.map (·.o)
@[simp] theorem r206_7 (T:Regs) (H:IH):run J okAll (.region 7 D206_7.toArray true) T H=annSel J okAll D206_7.toArray T H (eRun J (cal J okAll) O206_7.toArray A206_7 T H 0 []):=r_ann (by kernel_rfl) (by kernel_rfl) 7 T H
def L206_1:Code:=(.seq (.region 10 #[o 49 (.binOp .lss 3 (.tmp 48) (.tmp 47) 3) 0] false) (.seq (.cond (.tmp 49) .skip (.exit 2)) (.seq (.block 3 (.seq (.region 11 #[o 50 (.indexAddr 82 (.tmp 46) (.tmp 48)) 0,o 51 (.load 131 (.tmp 50)) 131,o 10 (.assign (.tmp 51)) 131] false) (.seq (.region 12 #[o 52 (.move (.tmp 10)) 131,o 53 (.nilCheck (.tmp 52)) 0,o 54 (.fieldAddr 138 (.tmp 53) 1) 0,o 55 (.load 136 (.tmp 54)) 136,o 56 (.move (.tmp 5)) 136,o 57 (.call ⟨.builtin .copy,#[.tmp 55,.tmp 56],#[136,136]⟩) 3,o 11 (.assign (.tmp 57)) 3] false) (.region 13 #[o 58 (.move (.tmp 5)) 136,o 59 (.move (.tmp 11)) 3,o 60 (.slice 136 (.tmp 58) (some (.tmp 59)) none none) 136,o 5 (.assign (.tmp 60)) 136] false)))) (.region 14 #[o 61 (.binOp .add 3 (.tmp 48) (xi 1) 3) 3,o 48 (.move (.tmp 61)) 3] false))))
def C206:Code:=(.seq (.region 0 #[o 4 (.assign (.const (.slice none 0 0))) 136] false) (.seq (.region 1 #[o 5 (.assign (.const (.slice none 0 0))) 136] false) (.seq (.seq (.region 2 #[o 12 (.move (.tmp 0)) 79,o 13 (.nilCheck (.tmp 12)) 0,o 14 (.fieldAddr 84 (.tmp 13) 3) 0,o 15 (.load 82 (.tmp 14)) 82,o 16 (.call ⟨.builtin .len,#[.tmp 15],#[82]⟩) 3,o 17 (.move (xi 0)) 3] false) (.block 0 (.loop L206_0))) (.seq (.region 7 D206_7.toArray true) (.seq (.region 8 #[o 39 (.move (.tmp 0)) 79,o 40 (.move (.tmp 8)) 72,o 41 (.binOp .eql 72 (.tmp 40) (xi 0) 72) 4,o 42 (.call ⟨.value (.func 63),#[.tmp 39,.tmp 41],#[79,4]⟩) 0] false) (.seq (.seq (.region 9 #[o 43 (.move (.tmp 0)) 79,o 44 (.nilCheck (.tmp 43)) 0,o 45 (.fieldAddr 84 (.tmp 44) 3) 0,o 46 (.load 82 (.tmp 45)) 82,o 47 (.call ⟨.builtin .len,#[.tmp 46],#[82]⟩) 3,o 48 (.move (xi 0)) 3] false) (.block 2 (.loop L206_1))) (.seq (.region 15 #[o 62 (.move (.tmp 0)) 79,o 63 (.nilCheck (.tmp 62)) 0,o 64 (.fieldAddr 84 (.tmp 63) 7) 0,o 65 (.fieldAddr 44 (.tmp 64) 4) 0,o 66 (.load 3 (.tmp 65)) 3,o 67 (.binOp .add 3 (.tmp 66) (xi 1) 3) 3,o 68 (.nilCheck (.tmp 62)) 0,o 69 (.fieldAddr 84 (.tmp 68) 7) 0,o 70 (.fieldAddr 44 (.tmp 69) 4) 0,oz (.store 3 (.tmp 70) (.tmp 67)) 0] false) (.seq (.region 16 #[o 71 (.move (.tmp 5)) 136,o 4 (.assign (.tmp 71)) 136] false) .ret))))))))
theorem cal206 (args:Array Value) (H:IH) (h:args.size≤72):cal J okAll 206 args H=finish J [.tmp 4] (run J okAll C206 (regsOf args.toList 0 .leaf) H):=cal_er J H okAll 206 args Tryz.f206 _ C206 _ rfl rfl rfl (by kernel_rfl) rfl h rfl rfl
def C207:Code:=(.seq (.region 0 #[o 2 (.assign (xi 0)) 3] false) (.seq (.seq (.region 1 #[o 3 (.move (.tmp 0)) 81,o 4 (.binOp .eql 81 (.tmp 3) (.const (.pointer none)) 81) 4] false) (.cond (.tmp 4) (.seq (.region 2 #[o 2 (.assign (xi 0)) 3] false) .ret) .skip)) (.seq (.region 3 #[o 5 (.move (.tmp 0)) 81,o 6 (.nilCheck (.tmp 5)) 0,o 7 (.fieldAddr 171 (.tmp 6) 0) 0,o 8 (.load 136 (.tmp 7)) 136,o 9 (.call ⟨.builtin .len,#[.tmp 8],#[136]⟩) 3,o 2 (.assign (.tmp 9)) 3] false) .ret)))
theorem cal207 (args:Array Value) (H:IH) (h:args.size≤10):cal J okAll 207 args H=finish J [.tmp 2] (run J okAll C207 (regsOf args.toList 0 .leaf) H):=cal_er J H okAll 207 args Tryz.f207 _ C207 _ rfl rfl rfl (by kernel_rfl) rfl h rfl rfl
def C208:Code:=(.seq (.region 0 #[o 2 (.assign (xi 0)) 3] false) (.seq (.seq (.region 1 #[o 3 (.move (.tmp 0)) 81,o 4 (.binOp .eql 81 (.tmp 3) (.const (.pointer none)) 81) 4] false) (.cond (.tmp 4) (.seq (.region 2 #[o 2 (.assign (xi 0)) 3] false) .ret) .skip)) (.seq (.region 3 #[o 5 (.move (.tmp 0)) 81,o 6 (.nilCheck (.tmp 5)) 0,o 7 (.fieldAddr 171 (.tmp 6) 3) 0,o 8 (.load 3 (.tmp 7)) 3,o 2 (.assign (.tmp 8)) 3] false) .ret)))
theorem cal208 (args:Array Value) (H:IH) (h:args.size≤9):cal J okAll 208 args H=finish J [.tmp 2] (run J okAll C208 (regsOf args.toList 0 .leaf) H):=cal_er J H okAll 208 args Tryz.f208 _ C208 _ rfl rfl rfl (by kernel_rfl) rfl h rfl rfl
def D209_7:List Oper:=regOf Tryz.f209 7
@[simp] def A209_7:List Ann:=[a0 (o 38 (.move (.tmp 0)) 81),a0 (o 39 (.nilCheck (.tmp 38)) 0),a0 (o 40 (.fieldAddr 171 (.tmp 39) 0) 0),al (o 41 (.load 136 (.tmp 40)) 136) [1],a0 (o 42 (.move (.tmp 10)) 3),a0 (o 43 (.move (.tmp 1)) 3),a0 (o 44 (.move (.tmp 2)) 3),ae (o 45 (.call ⟨.value (.func 224),#[.tmp 43,.tmp 44],#[3,3]⟩) 62) true,a0 (o 46 (.indexAddr 136 (.tmp 41) (.tmp 42)) 0),ae (oz (.store 62 (.tmp 46) (.tmp 45)) 0) true]
def O209_7:List Oper:=A209_7.map (·.o)
@[simp] theorem r209_7 (T:Regs) (H:IH):run J okAll (.region 7 D209_7.toArray true) T H=annSel J okAll D209_7.toArray T H (eRun J (cal J okAll) O209_7.toArray A209_7 T H 0 []):=r_ann (by kernel_rfl) (by kernel_rfl) 7 T H
def D209_12:List Oper:=regOf Tryz.f209 12
@[simp] def A209_12:List Ann:=[a0 (o 60 (.move (.tmp 0)) 81),a0 (o 61 (.nilCheck (.tmp 60)) 0),a0 (o 62 (.fieldAddr 171 (.tmp 61) 0) 0),al (o 63 (.load 136 (.tmp 62)) 136) [1],a0 (o 64 (.move (.tmp 10)) 3),a0 (o 65 (.binOp .add 3 (.tmp 64) (xi 1) 3) 3),a0 (o 66 (.move (.tmp 11)) 3),a0 (o 67 (.binOp .add 3 (.tmp 65) (.tmp 66) 3) 3),ae (o 68 (.call ⟨.value (.func 96),#[xi 0],#[2]⟩) 62) true,a0 (o 69 (.indexAddr 136 (.tmp 63) (.tmp 67)) 0),ae (oz (.store 62 (.tmp 69) (.tmp 68)) 0) true]
def O209_12:List Oper:=A209_12.map (·.o)
@[simp] theorem r209_12 (T:Regs) (H:IH):run J okAll (.region 12 D209_12.toArray true) T H=annSel J okAll D209_12.toArray T H (eRun J (cal J okAll) O209_12.toArray A209_12 T H 0 []):=r_ann (by kernel_rfl) (by kernel_rfl) 12 T H
def L209_0:Code:=(.seq (.region 10 #[o 58 (.binOp .lss 3 (.tmp 57) (.tmp 56) 3) 4] false) (.seq (.cond (.tmp 58) .skip (.exit 0)) (.seq (.block 1 (.seq (.region 11 #[o 59 (.move (.tmp 57)) 3,o 11 (.assign (.tmp 59)) 3] false) (.region 12 D209_12.toArray true))) (.region 13 #[o 70 (.binOp .add 3 (.tmp 57) (xi 1) 3) 3,o 57 (.move (.tmp 70)) 3] false))))
def C209:Code:=(.seq (.region 0 #[o 6 (.assign (xi 0)) 3,o 7 (.assign (xi 0)) 72] false) (.seq (.region 1 #[o 13 (.move (.tmp 0)) 81,o 14 (.move (.tmp 1)) 3,o 15 (.move (.tmp 2)) 3,o 16 (.call ⟨.value (.func 205),#[.tmp 13,.tmp 14,.tmp 15],#[81,3,3]⟩) 227,o 12 (.move (.tmp 16)) 227,o 17 (.extract (.tmp 12) 0) 3,o 18 (.extract (.tmp 12) 1) 72,o 8 (.assign (.tmp 17)) 3,o 9 (.assign (.tmp 18)) 72] false) (.seq (.seq (.region 2 #[o 19 (.move (.tmp 9)) 72,o 20 (.binOp .neq 72 (.tmp 19) (xi 0) 72) 4] false) (.cond (.tmp 20) (.seq (.region 3 #[o 21 (.move (.tmp 9)) 72,o 6 (.assign (xi 0)) 3,o 7 (.assign (.tmp 21)) 72] false) .ret) .skip)) (.seq (.seq (.region 4 #[o 22 (.move (.tmp 8)) 3,o 23 (.move (.tmp 0)) 81,o 24 (.nilCheck (.tmp 23)) 0,o 25 (.fieldAddr 171 (.tmp 24) 0) 0,o 26 (.load 136 (.tmp 25)) 136,o 27 (.call ⟨.builtin .len,#[.tmp 26],#[136]⟩) 3,o 28 (.move (.tmp 0)) 81,o 29 (.nilCheck (.tmp 28)) 0,o 30 (.fieldAddr 171 (.tmp 29) 3) 0,o 31 (.load 3 (.tmp 30)) 3,o 32 (.binOp .sub 3 (.tmp 27) (.tmp 31) 3) 3,o 33 (.binOp .gtr 3 (.tmp 22) (.tmp 32) 3) 4] false) (.cond (.tmp 33) (.seq (.region 5 #[o 6 (.assign (xi 0)) 3,o 7 (.assign (xi 3)) 72] false) .ret) .skip)) (.seq (.region 6 #[o 34 (.move (.tmp 0)) 81,o 35 (.nilCheck (.tmp 34)) 0,o 36 (.fieldAddr 171 (.tmp 35) 3) 0,o 37 (.load 3 (.tmp 36)) 3,o 10 (.assign (.tmp 37)) 3] false) (.seq (.region 7 D209_7.toArray true) (.seq (.seq (.region 8 #[o 47 (.move (.tmp 0)) 81,o 48 (.nilCheck (.tmp 47)) 0,o 49 (.fieldAddr 171 (.tmp 48) 2) 0,o 50 (.load 125 (.tmp 49)) 125,o 51 (.move (.tmp 1)) 3,o 52 (.indexAddr 125 (.tmp 50) (.tmp 51)) 0,o 53 (.fieldAddr 127 (.tmp 52) 0) 0,o 54 (.load 3 (.tmp 53)) 3,o 55 (.binOp .neq 3 (.tmp 54) (xi 3) 3) 4] false) (.cond (.tmp 55) (.seq (.region 9 #[o 56 (.move (.tmp 2)) 3,o 57 (.move (xi 0)) 3] false) (.block 0 (.loop L209_0))) .skip)) (.seq (.region 14 #[o 71 (.move (.tmp 0)) 81,o 72 (.nilCheck (.tmp 71)) 0,o 73 (.fieldAddr 171 (.tmp 72) 1) 0,o 74 (.load 136 (.tmp 73)) 136,o 75 (.move (.tmp 10)) 3,o 76 (.binOp .quo 3 (.tmp 75) (xi 64) 3) 3,o 77 (.indexAddr 136 (.tmp 74) (.tmp 76)) 0,o 78 (.load 62 (.tmp 77)) 62,o 79 (.move (.tmp 10)) 3,o 80 (.binOp .rem 3 (.tmp 79) (xi 64) 3) 3,o 81 (.binOp .shl 62 (.const (.int .u64 1)) (.tmp 80) 3) 62,o 82 (.binOp .or 62 (.tmp 78) (.tmp 81) 62) 62,o 83 (.indexAddr 136 (.tmp 74) (.tmp 76)) 0,oz (.store 62 (.tmp 83) (.tmp 82)) 0] false) (.seq (.region 15 #[o 84 (.move (.tmp 0)) 81,o 85 (.nilCheck (.tmp 84)) 0,o 86 (.fieldAddr 171 (.tmp 85) 3) 0,o 87 (.load 3 (.tmp 86)) 3,o 88 (.move (.tmp 8)) 3,o 89 (.binOp .add 3 (.tmp 87) (.tmp 88) 3) 3,o 90 (.nilCheck (.tmp 84)) 0,o 91 (.fieldAddr 171 (.tmp 90) 3) 0,oz (.store 3 (.tmp 91) (.tmp 89)) 0] false) (.seq (.region 16 #[o 92 (.move (.tmp 10)) 3,o 6 (.assign (.tmp 92)) 3,o 7 (.assign (xi 0)) 72] false) .ret))))))))))
theorem cal209 (args:Array Value) (H:IH) (h:args.size≤93):cal J okAll 209 args H=finish J [.tmp 6,.tmp 7] (run J okAll C209 (regsOf args.toList 0 .leaf) H):=cal_er J H okAll 209 args Tryz.f209 _ C209 _ rfl rfl rfl (by kernel_rfl) rfl h rfl rfl
def D210_1:List Oper:=regOf Tryz.f210 1
@[simp] def A210_1:List Ann:=[a0 (o 9 (.move (.tmp 0)) 81),a0 (o 10 (.move (.tmp 1)) 3),ae (o 11 (.call ⟨.value (.func 203),#[.tmp 9,.tmp 10],#[81,3]⟩) 4) true,a0 (o 12 (.move (.tmp 11)) 4),a0 (og 13 (.move (.tmp 0)) 81 3 true),a0 (og 14 (.nilCheck (.tmp 13)) 0 3 true),a0 (og 15 (.fieldAddr 171 (.tmp 14) 2) 0 3 true),al (og 16 (.load 125 (.tmp 15)) 125 3 true) [2],a0 (og 17 (.move (.tmp 0)) 81 3 true),a0 (og 18 (.nilCheck (.tmp 17)) 0 3 true),a0 (og 19 (.fieldAddr 171 (.tmp 18) 0) 0 3 true),a0 (og 20 (.load 136 (.tmp 19)) 136 3 true),a0 (og 21 (.move (.tmp 1)) 3 3 true),a0 (og 22 (.indexAddr 136 (.tmp 20) (.tmp 21)) 0 3 true),a0 (og 23 (.load 62 (.tmp 22)) 62 3 true),a0 (og 29 (.move (.tmp 3)) 4 3 true),ae (og 24 (.call ⟨.value (.func 204),#[.tmp 23],#[62]⟩) 3 3 true) true,a0 (og 25 (.indexAddr 125 (.tmp 16) (.tmp 24)) 0 3 true),a0 (og 26 (.fieldAddr 127 (.tmp 25) 0) 0 3 true),a0 (og 27 (.load 3 (.tmp 26)) 3 3 true),a0 (og 28 (.binOp .eql 3 (.tmp 27) (xi 3) 3) 4 3 true),a0 (og 30 (.binOp .eql 4 (.tmp 28) (.tmp 29) 4) 4 3 true),a0 (o 31 (.pick (.tmp 12) (.tmp 30) (.const (.bool false))) 4),a0 (o 32 (.move (.tmp 31)) 4),a0 (og 33 (.move (.tmp 2)) 3 23 true),a0 (og 34 (.binOp .geq 3 (.tmp 33) (xi 0) 3) 4 23 true),a0 (o 35 (.pick (.tmp 32) (.tmp 34) (.const (.bool false))) 4),a0 (o 36 (.move (.tmp 35)) 4),a0 (og 37 (.move (.tmp 2)) 3 27 true),a0 (og 38 (.move (.tmp 0)) 81 27 true),a0 (og 39 (.nilCheck (.tmp 38)) 0 27 true),a0 (og 40 (.fieldAddr 171 (.tmp 39) 0) 0 27 true),a0 (og 41 (.load 136 (.tmp 40)) 136 27 true),a0 (og 42 (.move (.tmp 1)) 3 27 true),a0 (og 43 (.indexAddr 136 (.tmp 41) (.tmp 42)) 0 27 true),a0 (og 44 (.load 62 (.tmp 43)) 62 27 true),ae (og 45 (.call ⟨.value (.func 212),#[.tmp 44],#[62]⟩) 3 27 true) true,a0 (og 46 (.binOp .lss 3 (.tmp 37) (.tmp 45) 3) 4 27 true),a0 (o 47 (.pick (.tmp 36) (.tmp 46) (.const (.bool false))) 4),a0 (o 8 (.assign (.tmp 47)) 4)]
def O210_1:List Oper:=A210_1.map (·.o)
@[simp] theorem g210_1_3:(O210_1[3]?).bind (·.dst)=some 12:=id rfl
@[simp] theorem g210_1_23:(O210_1[23]?).bind (·.dst)=some 32:=id rfl
@[simp] theorem g210_1_27:(O210_1[27]?).bind (·.dst)=some 36:=id rfl
@[simp] theorem r210_1 (T:Regs) (H:IH):run J okAll (.region 1 D210_1.toArray true) T H=annSel J okAll D210_1.toArray T H (eRun J (cal J okAll) O210_1.toArray A210_1 T H 0 []):=r_ann (by kernel_rfl) (by kernel_rfl) 1 T H
def C210:Code:=(.seq (.region 0 #[o 8 (.assign (.const (.bool false))) 4] false) (.seq (.region 1 D210_1.toArray true) .ret))
theorem cal210 (args:Array Value) (H:IH) (h:args.size≤48):cal J okAll 210 args H=finish J [.tmp 8] (run J okAll C210 (regsOf args.toList 0 .leaf) H):=cal_er J H okAll 210 args Tryz.f210 _ C210 _ rfl rfl rfl (by kernel_rfl) rfl h rfl rfl
def C211:Code:=(.seq (.region 0 #[o 4 (.assign (xi 0)) 3,o 5 (.assign (xi 0)) 72] false) (.seq (.seq (.region 1 #[o 6 (.move (.tmp 0)) 81,o 7 (.move (.tmp 1)) 3,o 8 (.call ⟨.value (.func 203),#[.tmp 6,.tmp 7],#[81,3]⟩) 4,o 9 (.unOp .not 4 (.tmp 8)) 4] false) (.cond (.tmp 9) (.seq (.region 2 #[o 4 (.assign (xi 0)) 3,o 5 (.assign (xi 1)) 72] false) .ret) .skip)) (.seq (.region 3 #[o 10 (.move (.tmp 0)) 81,o 11 (.nilCheck (.tmp 10)) 0,o 12 (.fieldAddr 171 (.tmp 11) 0) 0,o 13 (.load 136 (.tmp 12)) 136,o 14 (.move (.tmp 1)) 3,o 15 (.indexAddr 136 (.tmp 13) (.tmp 14)) 0,o 16 (.load 62 (.tmp 15)) 62,o 17 (.call ⟨.value (.func 212),#[.tmp 16],#[62]⟩) 3,o 4 (.assign (.tmp 17)) 3,o 5 (.assign (xi 0)) 72] false) .ret)))
theorem cal211 (args:Array Value) (H:IH) (h:args.size≤18):cal J okAll 211 args H=finish J [.tmp 4,.tmp 5] (run J okAll C211 (regsOf args.toList 0 .leaf) H):=cal_er J H okAll 211 args Tryz.f211 _ C211 _ rfl rfl rfl (by kernel_rfl) rfl h rfl rfl
def C212:Code:=(.seq (.region 0 #[o 2 (.assign (xi 0)) 3] false) (.seq (.region 1 #[o 3 (.move (.tmp 0)) 62,o 4 (.binOp .shr 62 (.tmp 3) (.const (.int .u64 21)) 31) 62,o 5 (.binOp .and 62 (.tmp 4) (.const (.int .u64 1048575)) 62) 62,o 6 (.convert 62 3 (.tmp 5)) 3,o 2 (.assign (.tmp 6)) 3] false) .ret))
theorem cal212 (args:Array Value) (H:IH) (h:args.size≤7):cal J okAll 212 args H=finish J [.tmp 2] (run J okAll C212 (regsOf args.toList 0 .leaf) H):=cal_er J H okAll 212 args Tryz.f212 _ C212 _ rfl rfl rfl (by kernel_rfl) rfl h rfl rfl
def C213:Code:=(.seq (.region 0 #[o 4 (.assign (xi 0)) 3] false) (.seq (.region 1 #[o 5 (.move (.tmp 0)) 9,o 6 (.move (.tmp 1)) 9,o 7 (.call ⟨.value (.func 225),#[.tmp 5,.tmp 6],#[9,9]⟩) 3,o 4 (.assign (.tmp 7)) 3] false) .ret))
theorem cal213 (args:Array Value) (H:IH) (h:args.size≤8):cal J okAll 213 args H=finish J [.tmp 4] (run J okAll C213 (regsOf args.toList 0 .leaf) H):=cal_er J H okAll 213 args Tryz.f213 _ C213 _ rfl rfl rfl (by kernel_rfl) rfl h rfl rfl
def C214:Code:=(.seq (.region 0 #[o 4 (.assign (.const (.bool false))) 4] false) (.seq (.region 1 #[o 5 (.move (.tmp 0)) 81,o 6 (.binOp .neq 81 (.tmp 5) (.const (.pointer none)) 81) 4,o 7 (.move (.tmp 6)) 4,og 8 (.move (.tmp 1)) 62 2 true,og 9 (.call ⟨.value (.func 160),#[.tmp 8],#[62]⟩) 4 2 true,og 10 (.move (.tmp 9)) 4 2 true,og 11 (.move (.tmp 0)) 81 5 false,og 12 (.move (.tmp 1)) 62 5 false,og 13 (.call ⟨.value (.func 163),#[.tmp 12],#[62]⟩) 3 5 false,og 14 (.call ⟨.value (.func 203),#[.tmp 11,.tmp 13],#[81,3]⟩) 4 5 false,og 15 (.pick (.tmp 10) (.const (.bool true)) (.tmp 14)) 4 2 true,o 16 (.pick (.tmp 7) (.tmp 15) (.const (.bool false))) 4,o 4 (.assign (.tmp 16)) 4] false) .ret))
theorem cal214 (args:Array Value) (H:IH) (h:args.size≤17):cal J okAll 214 args H=finish J [.tmp 4] (run J okAll C214 (regsOf args.toList 0 .leaf) H):=cal_er J H okAll 214 args Tryz.f214 _ C214 _ rfl rfl rfl (by kernel_rfl) rfl h rfl rfl
def L215_0:Code:=(.seq (.region 2 #[o 9 (.binOp .lss 3 (.tmp 8) (.tmp 7) 3) 0] false) (.seq (.cond (.tmp 9) .skip (.exit 0)) (.seq (.block 1 (.seq (.region 3 #[o 10 (.move (.tmp 8)) 3,o 5 (.assign (.tmp 10)) 3] false) (.seq (.region 4 #[o 11 (.move (.tmp 1)) 248,o 12 (.move (.tmp 0)) 246,o 13 (.move (.tmp 5)) 3,o 14 (.indexAddr 246 (.tmp 12) (.tmp 13)) 0,o 15 (.load 22 (.tmp 14)) 22,o 16 (.call ⟨.value (.tmp 11),#[.tmp 15],#[22]⟩) 4] false) (.cond (.tmp 16) (.seq (.region 5 #[o 17 (.move (.tmp 5)) 3,o 4 (.assign (.tmp 17)) 3] false) .ret) .skip)))) (.region 6 #[o 18 (.binOp .add 3 (.tmp 8) (xi 1) 3) 3,o 8 (.move (.tmp 18)) 3] false))))
def C215:Code:=(.seq (.region 0 #[o 4 (.assign (xi 0)) 3] false) (.seq (.seq (.region 1 #[o 6 (.move (.tmp 0)) 246,o 7 (.call ⟨.builtin .len,#[.tmp 6],#[246]⟩) 3,o 8 (.move (xi 0)) 3] false) (.block 0 (.loop L215_0))) (.seq (.region 7 #[o 4 (.assign (xi (-1))) 3] false) .ret)))
theorem cal215 (args:Array Value) (H:IH) (h:args.size≤19):cal J okAll 215 args H=finish J [.tmp 4] (run J okAll C215 (regsOf args.toList 0 .leaf) H):=cal_er J H okAll 215 args Tryz.f215 _ C215 _ rfl rfl rfl (by kernel_rfl) rfl h rfl rfl
def L216_0:Code:=(.seq (.region 2 #[o 9 (.binOp .lss 3 (.tmp 8) (.tmp 7) 3) 0] false) (.seq (.cond (.tmp 9) .skip (.exit 0)) (.seq (.block 1 (.seq (.region 3 #[o 10 (.move (.tmp 8)) 3,o 5 (.assign (.tmp 10)) 3] false) (.seq (.region 4 #[o 11 (.move (.tmp 1)) 251,o 12 (.move (.tmp 0)) 249,o 13 (.move (.tmp 5)) 3,o 14 (.indexAddr 249 (.tmp 12) (.tmp 13)) 0,o 15 (.load 23 (.tmp 14)) 23,o 16 (.call ⟨.value (.tmp 11),#[.tmp 15],#[23]⟩) 4] false) (.cond (.tmp 16) (.seq (.region 5 #[o 17 (.move (.tmp 5)) 3,o 4 (.assign (.tmp 17)) 3] false) .ret) .skip)))) (.region 6 #[o 18 (.binOp .add 3 (.tmp 8) (xi 1) 3) 3,o 8 (.move (.tmp 18)) 3] false))))
def C216:Code:=(.seq (.region 0 #[o 4 (.assign (xi 0)) 3] false) (.seq (.seq (.region 1 #[o 6 (.move (.tmp 0)) 249,o 7 (.call ⟨.builtin .len,#[.tmp 6],#[249]⟩) 3,o 8 (.move (xi 0)) 3] false) (.block 0 (.loop L216_0))) (.seq (.region 7 #[o 4 (.assign (xi (-1))) 3] false) .ret)))
theorem cal216 (args:Array Value) (H:IH) (h:args.size≤19):cal J okAll 216 args H=finish J [.tmp 4] (run J okAll C216 (regsOf args.toList 0 .leaf) H):=cal_er J H okAll 216 args Tryz.f216 _ C216 _ rfl rfl rfl (by kernel_rfl) rfl h rfl rfl
def L217_0:Code:=(.seq (.region 2 #[o 9 (.binOp .lss 3 (.tmp 8) (.tmp 7) 3) 0] false) (.seq (.cond (.tmp 9) .skip (.exit 0)) (.seq (.block 1 (.seq (.region 3 #[o 10 (.move (.tmp 8)) 3,o 5 (.assign (.tmp 10)) 3] false) (.seq (.region 4 #[o 11 (.move (.tmp 1)) 254,o 12 (.move (.tmp 0)) 252,o 13 (.move (.tmp 5)) 3,o 14 (.indexAddr 252 (.tmp 12) (.tmp 13)) 0,o 15 (.load 24 (.tmp 14)) 24,o 16 (.call ⟨.value (.tmp 11),#[.tmp 15],#[24]⟩) 4] false) (.cond (.tmp 16) (.seq (.region 5 #[o 17 (.move (.tmp 5)) 3,o 4 (.assign (.tmp 17)) 3] false) .ret) .skip)))) (.region 6 #[o 18 (.binOp .add 3 (.tmp 8) (xi 1) 3) 3,o 8 (.move (.tmp 18)) 3] false))))
def C217:Code:=(.seq (.region 0 #[o 4 (.assign (xi 0)) 3] false) (.seq (.seq (.region 1 #[o 6 (.move (.tmp 0)) 252,o 7 (.call ⟨.builtin .len,#[.tmp 6],#[252]⟩) 3,o 8 (.move (xi 0)) 3] false) (.block 0 (.loop L217_0))) (.seq (.region 7 #[o 4 (.assign (xi (-1))) 3] false) .ret)))
theorem cal217 (args:Array Value) (H:IH) (h:args.size≤19):cal J okAll 217 args H=finish J [.tmp 4] (run J okAll C217 (regsOf args.toList 0 .leaf) H):=cal_er J H okAll 217 args Tryz.f217 _ C217 _ rfl rfl rfl (by kernel_rfl) rfl h rfl rfl
def L218_0:Code:=(.seq (.region 2 #[o 9 (.binOp .lss 3 (.tmp 8) (.tmp 7) 3) 0] false) (.seq (.cond (.tmp 9) .skip (.exit 0)) (.seq (.block 1 (.seq (.region 3 #[o 10 (.move (.tmp 8)) 3,o 5 (.assign (.tmp 10)) 3] false) (.seq (.region 4 #[o 11 (.move (.tmp 1)) 257,o 12 (.move (.tmp 0)) 255,o 13 (.move (.tmp 5)) 3,o 14 (.indexAddr 255 (.tmp 12) (.tmp 13)) 0,o 15 (.load 25 (.tmp 14)) 25,o 16 (.call ⟨.value (.tmp 11),#[.tmp 15],#[25]⟩) 4] false) (.cond (.tmp 16) (.seq (.region 5 #[o 17 (.move (.tmp 5)) 3,o 4 (.assign (.tmp 17)) 3] false) .ret) .skip)))) (.region 6 #[o 18 (.binOp .add 3 (.tmp 8) (xi 1) 3) 3,o 8 (.move (.tmp 18)) 3] false))))
def C218:Code:=(.seq (.region 0 #[o 4 (.assign (xi 0)) 3] false) (.seq (.seq (.region 1 #[o 6 (.move (.tmp 0)) 255,o 7 (.call ⟨.builtin .len,#[.tmp 6],#[255]⟩) 3,o 8 (.move (xi 0)) 3] false) (.block 0 (.loop L218_0))) (.seq (.region 7 #[o 4 (.assign (xi (-1))) 3] false) .ret)))
theorem cal218 (args:Array Value) (H:IH) (h:args.size≤19):cal J okAll 218 args H=finish J [.tmp 4] (run J okAll C218 (regsOf args.toList 0 .leaf) H):=cal_er J H okAll 218 args Tryz.f218 _ C218 _ rfl rfl rfl (by kernel_rfl) rfl h rfl rfl
def L219_0:Code:=(.seq (.region 2 #[o 9 (.binOp .lss 3 (.tmp 8) (.tmp 7) 3) 0] false) (.seq (.cond (.tmp 9) .skip (.exit 0)) (.seq (.block 1 (.seq (.region 3 #[o 10 (.move (.tmp 8)) 3,o 5 (.assign (.tmp 10)) 3] false) (.seq (.region 4 #[o 11 (.move (.tmp 1)) 259,o 12 (.move (.tmp 0)) 24,o 13 (.move (.tmp 5)) 3,o 14 (.indexAddr 24 (.tmp 12) (.tmp 13)) 0,o 15 (.load 9 (.tmp 14)) 9,o 16 (.call ⟨.value (.tmp 11),#[.tmp 15],#[9]⟩) 4] false) (.cond (.tmp 16) (.seq (.region 5 #[o 17 (.move (.tmp 5)) 3,o 4 (.assign (.tmp 17)) 3] false) .ret) .skip)))) (.region 6 #[o 18 (.binOp .add 3 (.tmp 8) (xi 1) 3) 3,o 8 (.move (.tmp 18)) 3] false))))
def C219:Code:=(.seq (.region 0 #[o 4 (.assign (xi 0)) 3] false) (.seq (.seq (.region 1 #[o 6 (.move (.tmp 0)) 24,o 7 (.call ⟨.builtin .len,#[.tmp 6],#[24]⟩) 3,o 8 (.move (xi 0)) 3] false) (.block 0 (.loop L219_0))) (.seq (.region 7 #[o 4 (.assign (xi (-1))) 3] false) .ret)))
theorem cal219 (args:Array Value) (H:IH) (h:args.size≤19):cal J okAll 219 args H=finish J [.tmp 4] (run J okAll C219 (regsOf args.toList 0 .leaf) H):=cal_er J H okAll 219 args Tryz.f219 _ C219 _ rfl rfl rfl (by kernel_rfl) rfl h rfl rfl
def L220_0:Code:=(.seq (.region 2 #[o 9 (.binOp .lss 3 (.tmp 8) (.tmp 7) 3) 0] false) (.seq (.cond (.tmp 9) .skip (.exit 0)) (.seq (.block 1 (.seq (.region 3 #[o 10 (.move (.tmp 8)) 3,o 5 (.assign (.tmp 10)) 3] false) (.seq (.region 4 #[o 11 (.move (.tmp 1)) 205,o 12 (.move (.tmp 0)) 260,o 13 (.move (.tmp 5)) 3,o 14 (.indexAddr 260 (.tmp 12) (.tmp 13)) 0,o 15 (.load 28 (.tmp 14)) 28,o 16 (.call ⟨.value (.tmp 11),#[.tmp 15],#[28]⟩) 4] false) (.cond (.tmp 16) (.seq (.region 5 #[o 17 (.move (.tmp 5)) 3,o 4 (.assign (.tmp 17)) 3] false) .ret) .skip)))) (.region 6 #[o 18 (.binOp .add 3 (.tmp 8) (xi 1) 3) 3,o 8 (.move (.tmp 18)) 3] false))))
def C220:Code:=(.seq (.region 0 #[o 4 (.assign (xi 0)) 3] false) (.seq (.seq (.region 1 #[o 6 (.move (.tmp 0)) 260,o 7 (.call ⟨.builtin .len,#[.tmp 6],#[260]⟩) 3,o 8 (.move (xi 0)) 3] false) (.block 0 (.loop L220_0))) (.seq (.region 7 #[o 4 (.assign (xi (-1))) 3] false) .ret)))
theorem cal220 (args:Array Value) (H:IH) (h:args.size≤19):cal J okAll 220 args H=finish J [.tmp 4] (run J okAll C220 (regsOf args.toList 0 .leaf) H):=cal_er J H okAll 220 args Tryz.f220 _ C220 _ rfl rfl rfl (by kernel_rfl) rfl h rfl rfl
def L221_0:Code:=(.seq (.region 2 #[o 9 (.binOp .lss 3 (.tmp 8) (.tmp 7) 3) 0] false) (.seq (.cond (.tmp 9) .skip (.exit 0)) (.seq (.block 1 (.seq (.region 3 #[o 10 (.move (.tmp 8)) 3,o 5 (.assign (.tmp 10)) 3] false) (.seq (.region 4 #[o 11 (.move (.tmp 1)) 264,o 12 (.move (.tmp 0)) 262,o 13 (.move (.tmp 5)) 3,o 14 (.indexAddr 262 (.tmp 12) (.tmp 13)) 0,o 15 (.load 57 (.tmp 14)) 57,o 16 (.call ⟨.value (.tmp 11),#[.tmp 15],#[57]⟩) 4] false) (.cond (.tmp 16) (.seq (.region 5 #[o 17 (.move (.tmp 5)) 3,o 4 (.assign (.tmp 17)) 3] false) .ret) .skip)))) (.region 6 #[o 18 (.binOp .add 3 (.tmp 8) (xi 1) 3) 3,o 8 (.move (.tmp 18)) 3] false))))
def C221:Code:=(.seq (.region 0 #[o 4 (.assign (xi 0)) 3] false) (.seq (.seq (.region 1 #[o 6 (.move (.tmp 0)) 262,o 7 (.call ⟨.builtin .len,#[.tmp 6],#[262]⟩) 3,o 8 (.move (xi 0)) 3] false) (.block 0 (.loop L221_0))) (.seq (.region 7 #[o 4 (.assign (xi (-1))) 3] false) .ret)))
theorem cal221 (args:Array Value) (H:IH) (h:args.size≤19):cal J okAll 221 args H=finish J [.tmp 4] (run J okAll C221 (regsOf args.toList 0 .leaf) H):=cal_er J H okAll 221 args Tryz.f221 _ C221 _ rfl rfl rfl (by kernel_rfl) rfl h rfl rfl
def D223_8:List Oper:=regOf Tryz.f223 8
@[simp] def A223_8:List Ann:=[al (o 29 (.load 290 (.tmp 6)) 290) [1],a0 (o 30 (.move (.tmp 0)) 81),a0 (o 32 (.move (.tmp 8)) 3),ae (o 31 (.call ⟨.value (.func 207),#[.tmp 30],#[81]⟩) 3) true,a0 (o 33 (.binOp .add 3 (.tmp 31) (.tmp 32) 3) 3),ae (o 34 (.call ⟨.value (.func 228),#[.tmp 29,.tmp 33],#[290,3]⟩) 0) true]
def O223_8:List Oper:=A223_8.map (·.o)
@[simp] theorem r223_8 (T:Regs) (H:IH):run J okAll (.region 8 D223_8.toArray true) T H=annSel J okAll D223_8.toArray T H (eRun J (cal J okAll) O223_8.toArray A223_8 T H 0 []):=r_ann (by kernel_rfl) (by kernel_rfl) 8 T H
def L223_0:Code:=(.seq (.region 6 #[o 27 (.binOp .lss 3 (.tmp 26) (.tmp 25) 3) 0] false) (.seq (.cond (.tmp 27) .skip (.exit 0)) (.seq (.block 1 (.seq (.region 7 #[o 28 (.move (.tmp 26)) 3,o 8 (.assign (.tmp 28)) 3] false) (.region 8 D223_8.toArray true))) (.region 9 #[o 35 (.binOp .add 3 (.tmp 26) (xi 1) 3) 3,o 26 (.move (.tmp 35)) 3] false))))
def D223_12:List Oper:=regOf Tryz.f223 12
@[simp] def A223_12:List Ann:=[al (o 42 (.load 290 (.tmp 6)) 290) [1],a0 (o 43 (.nilCheck (.tmp 42)) 0),a0 (o 44 (.fieldAddr 294 (.tmp 43) 1) 0),al (o 45 (.load 136 (.tmp 44)) 136) [1],a0 (o 46 (.move (.tmp 0)) 81),a0 (o 47 (.move (.tmp 9)) 3),ae (o 48 (.call ⟨.value (.func 237),#[.tmp 46,.tmp 47],#[81,3]⟩) 72) true,a0 (o 4 (.assign (.tmp 45)) 136),a0 (o 5 (.assign (.tmp 48)) 72)]
def O223_12:List Oper:=A223_12.map (·.o)
@[simp] theorem r223_12 (T:Regs) (H:IH):run J okAll (.region 12 D223_12.toArray true) T H=annSel J okAll D223_12.toArray T H (eRun J (cal J okAll) O223_12.toArray A223_12 T H 0 []):=r_ann (by kernel_rfl) (by kernel_rfl) 12 T H
def C223:Code:=(.seq (.region 0 #[o 4 (.assign (.const (.slice none 0 0))) 136,o 5 (.assign (xi 0)) 72] false) (.seq (.region 1 #[o 11 (.move (.tmp 0)) 81,o 12 (.move (.tmp 1)) 136,o 13 (.call ⟨.value (.func 226),#[.tmp 11,.tmp 12],#[81,136]⟩) 291,o 10 (.move (.tmp 13)) 291,o 14 (.extract (.tmp 10) 0) 290,o 15 (.extract (.tmp 10) 1) 72,o 6 (.alloc 290) 0,oz (.store 290 (.tmp 6) (.tmp 14)) 0,o 7 (.assign (.tmp 15)) 72] false) (.seq (.seq (.region 2 #[o 16 (.move (.tmp 7)) 72,o 17 (.binOp .neq 72 (.tmp 16) (xi 0) 72) 4] false) (.cond (.tmp 17) (.seq (.region 3 #[o 18 (.move (.tmp 7)) 72,o 4 (.assign (.const (.slice none 0 0))) 136,o 5 (.assign (.tmp 18)) 72] false) .ret) .skip)) (.seq (.region 4 #[o 19 (.load 290 (.tmp 6)) 290,o 20 (.call ⟨.value (.func 227),#[.tmp 19],#[290]⟩) 0] false) (.seq (.seq (.region 5 #[o 21 (.load 290 (.tmp 6)) 290,o 22 (.nilCheck (.tmp 21)) 0,o 23 (.fieldAddr 294 (.tmp 22) 1) 0,o 24 (.load 136 (.tmp 23)) 136,o 25 (.call ⟨.builtin .len,#[.tmp 24],#[136]⟩) 3,o 26 (.move (xi 0)) 3] false) (.block 0 (.loop L223_0))) (.seq (.region 10 #[o 36 (.load 290 (.tmp 6)) 290,o 37 (.makeFunc (.func 230) #[] #[.tmp 6]) 297,o 38 (.call ⟨.value (.func 229),#[.tmp 36,.tmp 37],#[290,297]⟩) 3] false) (.seq (.region 11 #[o 39 (.load 290 (.tmp 6)) 290,o 40 (.makeFunc (.func 232) #[] #[.tmp 6]) 297,o 41 (.call ⟨.value (.func 229),#[.tmp 39,.tmp 40],#[290,297]⟩) 3,o 9 (.assign (.tmp 41)) 3] false) (.seq (.region 12 D223_12.toArray true) .ret))))))))
theorem cal223 (args:Array Value) (H:IH) (h:args.size≤49):cal J okAll 223 args H=finish J [.tmp 4,.tmp 5] (run J okAll C223 (regsOf args.toList 0 .leaf) H):=cal_er J H okAll 223 args Tryz.f223 _ C223 _ rfl rfl rfl (by kernel_rfl) rfl h rfl rfl
def C224:Code:=(.seq (.region 0 #[o 4 (.assign (.const (.int .u64 0))) 62] false) (.seq (.region 1 #[o 5 (.move (.tmp 0)) 3,o 6 (.convert 3 62 (.tmp 5)) 62,o 7 (.binOp .and 62 (.tmp 6) (.const (.int .u64 1048575)) 62) 62,o 8 (.binOp .shl 62 (.tmp 7) (.const (.int .u64 1)) 31) 62,o 9 (.move (.tmp 1)) 3,o 10 (.convert 3 62 (.tmp 9)) 62,o 11 (.binOp .and 62 (.tmp 10) (.const (.int .u64 1048575)) 62) 62,o 12 (.binOp .shl 62 (.tmp 11) (.const (.int .u64 21)) 31) 62,o 13 (.binOp .or 62 (.tmp 8) (.tmp 12) 62) 62,o 14 (.binOp .or 62 (.tmp 13) (.const (.int .u64 1)) 62) 62,o 4 (.assign (.tmp 14)) 62] false) .ret))
theorem cal224 (args:Array Value) (H:IH) (h:args.size≤15):cal J okAll 224 args H=finish J [.tmp 4] (run J okAll C224 (regsOf args.toList 0 .leaf) H):=cal_er J H okAll 224 args Tryz.f224 _ C224 _ rfl rfl rfl (by kernel_rfl) rfl h rfl rfl
def L226_0:Code:=(.seq (.region 4 #[o 13 (.binOp .lss 3 (.tmp 12) (.tmp 11) 3) 0] false) (.seq (.cond (.tmp 13) .skip (.exit 0)) (.seq (.block 1 (.seq (.region 5 #[o 14 (.indexAddr 136 (.tmp 10) (.tmp 12)) 0,o 15 (.load 62 (.tmp 14)) 62,o 7 (.assign (.tmp 15)) 62] false) (.seq (.region 6 #[o 16 (.move (.tmp 0)) 81,o 17 (.move (.tmp 7)) 62,o 18 (.call ⟨.value (.func 214),#[.tmp 16,.tmp 17],#[81,62]⟩) 4,o 19 (.unOp .not 4 (.tmp 18)) 4] false) (.cond (.tmp 19) (.seq (.region 7 #[o 4 (.assign (.const (.pointer none))) 290,o 5 (.assign (xi 1)) 72] false) .ret) .skip)))) (.region 8 #[o 20 (.binOp .add 3 (.tmp 12) (xi 1) 3) 3,o 12 (.move (.tmp 20)) 3] false))))
def C226:Code:=(.seq (.region 0 #[o 4 (.assign (.const (.pointer none))) 290,o 5 (.assign (xi 0)) 72] false) (.seq (.seq (.region 1 #[o 8 (.move (.tmp 0)) 81,o 9 (.binOp .eql 81 (.tmp 8) (.const (.pointer none)) 81) 4] false) (.cond (.tmp 9) (.seq (.region 2 #[o 4 (.assign (.const (.pointer none))) 290,o 5 (.assign (xi 1)) 72] false) .ret) .skip)) (.seq (.seq (.region 3 #[o 10 (.move (.tmp 1)) 136,o 11 (.call ⟨.builtin .len,#[.tmp 10],#[136]⟩) 3,o 12 (.move (xi 0)) 3] false) (.block 0 (.loop L226_0))) (.seq (.region 9 #[o 21 (.move (.tmp 0)) 81,o 22 (.move (.tmp 1)) 136,o 23 (.call ⟨.builtin .append,#[.const (.slice none 0 0),.tmp 22],#[136,136]⟩) 136,o 24 (.move (.tmp 0)) 81,o 25 (.call ⟨.value (.func 208),#[.tmp 24],#[81]⟩) 3,o 26 (.build 294 #[(0,.tmp 21),(1,.tmp 23),(2,.tmp 25)]) 294,o 27 (.box 294 (.tmp 26)) 290,o 4 (.assign (.tmp 27)) 290,o 5 (.assign (xi 0)) 72] false) .ret))))
theorem cal226 (args:Array Value) (H:IH) (h:args.size≤28):cal J okAll 226 args H=finish J [.tmp 4,.tmp 5] (run J okAll C226 (regsOf args.toList 0 .leaf) H):=cal_er J H okAll 226 args Tryz.f226 _ C226 _ rfl rfl rfl (by kernel_rfl) rfl h rfl rfl
def L227_0:Code:=(.seq (.region 1 #[o 10 (.binOp .lss 3 (.tmp 9) (.tmp 8) 3) 0] false) (.seq (.cond (.tmp 10) .skip (.exit 0)) (.seq (.block 1 (.seq (.region 2 #[o 11 (.indexAddr 136 (.tmp 7) (.tmp 9)) 0,o 12 (.load 62 (.tmp 11)) 62,o 3 (.assign (.tmp 12)) 62] false) (.region 3 #[o 13 (.move (.tmp 0)) 290,o 14 (.move (.tmp 3)) 62,o 15 (.call ⟨.value (.func 238),#[.tmp 13,.tmp 14],#[290,62]⟩) 0] false))) (.region 4 #[o 16 (.binOp .add 3 (.tmp 9) (xi 1) 3) 3,o 9 (.move (.tmp 16)) 3] false))))
def C227:Code:=(.seq (.region 0 #[o 4 (.move (.tmp 0)) 290,o 5 (.nilCheck (.tmp 4)) 0,o 6 (.fieldAddr 294 (.tmp 5) 1) 0,o 7 (.load 136 (.tmp 6)) 136,o 8 (.call ⟨.builtin .len,#[.tmp 7],#[136]⟩) 3,o 9 (.move (xi 0)) 3] false) (.block 0 (.loop L227_0)))
theorem cal227 (args:Array Value) (H:IH) (h:args.size≤17):cal J okAll 227 args H=finish J [] (run J okAll C227 (regsOf args.toList 0 .leaf) H):=cal_er J H okAll 227 args Tryz.f227 _ C227 _ rfl rfl rfl (by kernel_rfl) rfl h rfl rfl
def C228:Code:=(.seq (.region 0 #[o 6 (.move (.tmp 0)) 290,o 7 (.move (.tmp 1)) 3,o 8 (.call ⟨.value (.func 236),#[.tmp 6,.tmp 7],#[290,3]⟩) 62,o 4 (.assign (.tmp 8)) 62] false) (.seq (.seq (.region 1 #[o 9 (.move (.tmp 4)) 62,o 10 (.call ⟨.value (.func 160),#[.tmp 9],#[62]⟩) 4] false) (.cond (.tmp 10) .ret .skip)) (.seq (.region 2 #[o 11 (.move (.tmp 4)) 62,o 12 (.call ⟨.value (.func 163),#[.tmp 11],#[62]⟩) 3,o 5 (.assign (.tmp 12)) 3] false) (.seq (.region 3 #[o 13 (.move (.tmp 0)) 290,o 14 (.move (.tmp 1)) 3,o 15 (.move (.tmp 0)) 290,o 16 (.move (.tmp 5)) 3,o 17 (.call ⟨.value (.func 236),#[.tmp 15,.tmp 16],#[290,3]⟩) 62,o 18 (.call ⟨.value (.func 233),#[.tmp 13,.tmp 14,.tmp 17],#[290,3,62]⟩) 0] false) (.region 4 #[o 19 (.move (.tmp 0)) 290,o 20 (.move (.tmp 5)) 3,o 21 (.move (.tmp 1)) 3,o 22 (.call ⟨.value (.func 167),#[.tmp 21],#[3]⟩) 62,o 23 (.call ⟨.value (.func 233),#[.tmp 19,.tmp 20,.tmp 22],#[290,3,62]⟩) 0] false)))))
theorem cal228 (args:Array Value) (H:IH) (h:args.size≤24):cal J okAll 228 args H=finish J [] (run J okAll C228 (regsOf args.toList 0 .leaf) H):=cal_er J H okAll 228 args Tryz.f228 _ C228 _ rfl rfl rfl (by kernel_rfl) rfl h rfl rfl
def L229_0:Code:=(.seq (.seq (.region 3 #[o 12 (.move (.tmp 6)) 3,o 13 (.move (.tmp 0)) 290,o 14 (.nilCheck (.tmp 13)) 0,o 15 (.fieldAddr 294 (.tmp 14) 2) 0,o 16 (.load 3 (.tmp 15)) 3,o 17 (.binOp .lss 3 (.tmp 12) (.tmp 16) 3) 4] false) (.cond (.tmp 17) .skip (.exit 0))) (.block 1 (.seq (.region 4 #[o 18 (.move (.tmp 0)) 290,o 19 (.move (.tmp 6)) 3,o 20 (.call ⟨.value (.func 236),#[.tmp 18,.tmp 19],#[290,3]⟩) 62,o 7 (.assign (.tmp 20)) 62] false) (.seq (.seq (.region 5 #[o 21 (.move (.tmp 7)) 62,o 22 (.call ⟨.value (.func 160),#[.tmp 21],#[62]⟩) 4,o 23 (.move (.tmp 22)) 4,og 24 (.move (.tmp 7)) 62 2 true,og 25 (.call ⟨.value (.func 239),#[.tmp 24],#[62]⟩) 4 2 true,og 26 (.unOp .not 4 (.tmp 25)) 4 2 true,o 27 (.pick (.tmp 23) (.tmp 26) (.const (.bool false))) 4] false) (.cond (.tmp 27) (.seq (.region 6 #[o 29 (.move (.tmp 0)) 290,o 30 (.move (.tmp 7)) 62,o 31 (.call ⟨.value (.func 231),#[.tmp 29,.tmp 30],#[290,62]⟩) 235,o 28 (.move (.tmp 31)) 235,o 32 (.extract (.tmp 28) 0) 3,o 33 (.extract (.tmp 28) 1) 3,o 8 (.assign (.tmp 32)) 3,o 9 (.assign (.tmp 33)) 3] false) (.seq (.region 7 #[o 34 (.move (.tmp 6)) 3,o 35 (.move (.tmp 8)) 3,o 36 (.binOp .add 3 (.tmp 34) (.tmp 35) 3) 3,o 6 (.assign (.tmp 36)) 3] false) (.exit 1))) .skip)) (.seq (.region 8 #[o 37 (.move (.tmp 0)) 290,o 38 (.move (.tmp 6)) 3,o 39 (.move (.tmp 5)) 3,o 40 (.call ⟨.value (.func 240),#[.tmp 37,.tmp 38,.tmp 39],#[290,3,3]⟩) 62,o 7 (.assign (.tmp 40)) 62] false) (.seq (.region 9 #[o 42 (.move (.tmp 0)) 290,o 43 (.move (.tmp 7)) 62,o 44 (.call ⟨.value (.func 231),#[.tmp 42,.tmp 43],#[290,62]⟩) 235,o 41 (.move (.tmp 44)) 235,o 45 (.extract (.tmp 41) 0) 3,o 46 (.extract (.tmp 41) 1) 3,o 10 (.assign (.tmp 45)) 3,o 11 (.assign (.tmp 46)) 3] false) (.seq (.region 10 #[o 47 (.move (.tmp 1)) 297,o 48 (.move (.tmp 6)) 3,o 49 (.move (.tmp 5)) 3,o 50 (.move (.tmp 7)) 62,o 51 (.call ⟨.value (.tmp 47),#[.tmp 48,.tmp 49,.tmp 50],#[3,3,62]⟩) 0] false) (.seq (.region 11 #[o 52 (.move (.tmp 6)) 3,o 53 (.move (.tmp 10)) 3,o 54 (.binOp .add 3 (.tmp 52) (.tmp 53) 3) 3,o 6 (.assign (.tmp 54)) 3] false) (.region 12 #[o 55 (.move (.tmp 5)) 3,o 56 (.move (.tmp 10)) 3,o 57 (.binOp .add 3 (.tmp 55) (.tmp 56) 3) 3,o 5 (.assign (.tmp 57)) 3] false)))))))))
def C229:Code:=(.seq (.region 0 #[o 4 (.assign (xi 0)) 3] false) (.seq (.region 1 #[o 5 (.assign (xi 0)) 3] false) (.seq (.seq (.region 2 #[o 6 (.assign (xi 0)) 3] false) (.block 0 (.loop L229_0))) (.seq (.region 13 #[o 58 (.move (.tmp 5)) 3,o 4 (.assign (.tmp 58)) 3] false) .ret))))
theorem cal229 (args:Array Value) (H:IH) (h:args.size≤59):cal J okAll 229 args H=finish J [.tmp 4] (run J okAll C229 (regsOf args.toList 0 .leaf) H):=cal_er J H okAll 229 args Tryz.f229 _ C229 _ rfl rfl rfl (by kernel_rfl) rfl h rfl rfl
def L230_0:Code:=(.seq (.region 2 #[o 18 (.binOp .lss 3 (.tmp 17) (.tmp 16) 3) 4] false) (.seq (.cond (.tmp 18) .skip (.exit 0)) (.seq (.block 1 (.seq (.region 3 #[o 19 (.move (.tmp 17)) 3,o 9 (.assign (.tmp 19)) 3] false) (.region 4 #[o 20 (.load 290 (.tmp 3)) 290,o 21 (.move (.tmp 0)) 3,o 22 (.binOp .add 3 (.tmp 21) (xi 1) 3) 3,o 23 (.move (.tmp 9)) 3,o 24 (.binOp .add 3 (.tmp 22) (.tmp 23) 3) 3,o 25 (.call ⟨.value (.func 228),#[.tmp 20,.tmp 24],#[290,3]⟩) 0] false))) (.region 5 #[o 26 (.binOp .add 3 (.tmp 17) (xi 1) 3) 3,o 17 (.move (.tmp 26)) 3] false))))
def C230:Code:=(.seq (.region 0 #[o 11 (.load 290 (.tmp 3)) 290,o 12 (.move (.tmp 2)) 62,o 13 (.call ⟨.value (.func 231),#[.tmp 11,.tmp 12],#[290,62]⟩) 235,o 10 (.move (.tmp 13)) 235,o 14 (.extract (.tmp 10) 0) 3,o 15 (.extract (.tmp 10) 1) 3,o 7 (.assign (.tmp 14)) 3,o 8 (.assign (.tmp 15)) 3] false) (.seq (.region 1 #[o 16 (.move (.tmp 8)) 3,o 17 (.move (xi 0)) 3] false) (.block 0 (.loop L230_0))))
theorem cal230 (args:Array Value) (H:IH) (h:args.size≤27):cal J okAll 230 args H=finish J [] (run J okAll C230 (regsOf args.toList 0 .leaf) H):=cal_er J H okAll 230 args Tryz.f230 _ C230 _ rfl rfl rfl (by kernel_rfl) rfl h rfl rfl
def D231_2:List Oper:=regOf Tryz.f231 2
@[simp] def A231_2:List Ann:=[a0 (o 10 (.move (.tmp 0)) 290),a0 (o 11 (.nilCheck (.tmp 10)) 0),a0 (o 12 (.fieldAddr 294 (.tmp 11) 0) 0),al (o 13 (.load 81 (.tmp 12)) 81) [1],a0 (o 14 (.move (.tmp 1)) 62),a0 (o 16 (.move (.tmp 6)) 3),ae (o 15 (.call ⟨.value (.func 204),#[.tmp 14],#[62]⟩) 3) true,ae (o 17 (.call ⟨.value (.func 205),#[.tmp 13,.tmp 15,.tmp 16],#[81,3,3]⟩) 227) true,a0 (o 9 (.move (.tmp 17)) 227),a0 (o 18 (.extract (.tmp 9) 0) 3),a0 (o 19 (.extract (.tmp 9) 1) 72),a0 (o 4 (.assign (.tmp 18)) 3)]
def O231_2:List Oper:=A231_2.map (·.o)
@[simp] theorem r231_2 (T:Regs) (H:IH):run J okAll (.region 2 D231_2.toArray true) T H=annSel J okAll D231_2.toArray T H (eRun J (cal J okAll) O231_2.toArray A231_2 T H 0 []):=r_ann (by kernel_rfl) (by kernel_rfl) 2 T H
def C231:Code:=(.seq (.region 0 #[o 4 (.assign (xi 0)) 3,o 5 (.assign (xi 0)) 3] false) (.seq (.region 1 #[o 7 (.move (.tmp 1)) 62,o 8 (.call ⟨.value (.func 212),#[.tmp 7],#[62]⟩) 3,o 6 (.assign (.tmp 8)) 3] false) (.seq (.region 2 D231_2.toArray true) (.seq (.seq (.region 3 #[o 20 (.move (.tmp 4)) 3,o 21 (.move (.tmp 6)) 3,o 22 (.binOp .add 3 (xi 1) (.tmp 21) 3) 3,o 23 (.binOp .eql 3 (.tmp 20) (.tmp 22) 3) 4,o 24 (.move (.tmp 23)) 4,og 25 (.move (.tmp 0)) 290 4 true,og 26 (.move (.tmp 1)) 62 4 true,og 27 (.call ⟨.value (.func 241),#[.tmp 25,.tmp 26],#[290,62]⟩) 4 4 true,og 28 (.unOp .not 4 (.tmp 27)) 4 4 true,o 29 (.pick (.tmp 24) (.tmp 28) (.const (.bool false))) 4] false) (.cond (.tmp 29) (.seq (.region 4 #[o 30 (.move (.tmp 4)) 3,o 31 (.move (.tmp 6)) 3,o 4 (.assign (.tmp 30)) 3,o 5 (.assign (.tmp 31)) 3] false) .ret) .skip)) (.seq (.region 5 #[o 32 (.move (.tmp 4)) 3,o 4 (.assign (.tmp 32)) 3,o 5 (.assign (xi 0)) 3] false) .ret)))))
theorem cal231 (args:Array Value) (H:IH) (h:args.size≤33):cal J okAll 231 args H=finish J [.tmp 4,.tmp 5] (run J okAll C231 (regsOf args.toList 0 .leaf) H):=cal_er J H okAll 231 args Tryz.f231 _ C231 _ rfl rfl rfl (by kernel_rfl) rfl h rfl rfl
def D232_1:List Oper:=regOf Tryz.f232 1
@[simp] def A232_1:List Ann:=[al (o 16 (.load 290 (.tmp 3)) 290) [1,2],a0 (o 17 (.move (.tmp 1)) 3),a0 (o 18 (.move (.tmp 2)) 62),ae (o 19 (.call ⟨.value (.func 235),#[.tmp 18,.const (.bool false)],#[62,4]⟩) 62) true,ae (o 20 (.call ⟨.value (.func 234),#[.tmp 19,xi 0],#[62,3]⟩) 62) true,ae (o 21 (.call ⟨.value (.func 233),#[.tmp 16,.tmp 17,.tmp 20],#[290,3,62]⟩) 0) true]
def O232_1:List Oper:=A232_1.map (·.o)
@[simp] theorem r232_1 (T:Regs) (H:IH):run J okAll (.region 1 D232_1.toArray true) T H=annSel J okAll D232_1.toArray T H (eRun J (cal J okAll) O232_1.toArray A232_1 T H 0 []):=r_ann (by kernel_rfl) (by kernel_rfl) 1 T H
def D232_5:List Oper:=regOf Tryz.f232 5
@[simp] def A232_5:List Ann:=[al (o 27 (.load 290 (.tmp 3)) 290) [1],a0 (o 28 (.move (.tmp 1)) 3),a0 (o 29 (.move (.tmp 9)) 3),a0 (o 30 (.binOp .add 3 (.tmp 28) (.tmp 29) 3) 3),a0 (o 31 (.load 290 (.tmp 3)) 290),a0 (o 32 (.move (.tmp 0)) 3),a0 (o 33 (.move (.tmp 9)) 3),a0 (o 34 (.binOp .add 3 (.tmp 32) (.tmp 33) 3) 3),ae (o 35 (.call ⟨.value (.func 236),#[.tmp 31,.tmp 34],#[290,3]⟩) 62) true,ae (o 36 (.call ⟨.value (.func 233),#[.tmp 27,.tmp 30,.tmp 35],#[290,3,62]⟩) 0) true]
def O232_5:List Oper:=A232_5.map (·.o)
@[simp] theorem r232_5 (T:Regs) (H:IH):run J okAll (.region 5 D232_5.toArray true) T H=annSel J okAll D232_5.toArray T H (eRun J (cal J okAll) O232_5.toArray A232_5 T H 0 []):=r_ann (by kernel_rfl) (by kernel_rfl) 5 T H
def L232_0:Code:=(.seq (.seq (.region 3 #[o 22 (.move (.tmp 9)) 3,o 23 (.move (.tmp 7)) 3,o 24 (.binOp .lss 3 (.tmp 22) (.tmp 23) 3) 4] false) (.cond (.tmp 24) .skip (.exit 0))) (.seq (.block 1 (.region 5 D232_5.toArray true)) (.region 4 #[o 25 (.move (.tmp 9)) 3,o 26 (.binOp .add 3 (.tmp 25) (xi 1) 3) 3,o 9 (.assign (.tmp 26)) 3] false)))
def C232:Code:=(.seq (.region 0 #[o 11 (.load 290 (.tmp 3)) 290,o 12 (.move (.tmp 2)) 62,o 13 (.call ⟨.value (.func 231),#[.tmp 11,.tmp 12],#[290,62]⟩) 235,o 10 (.move (.tmp 13)) 235,o 14 (.extract (.tmp 10) 0) 3,o 15 (.extract (.tmp 10) 1) 3,o 7 (.assign (.tmp 14)) 3,o 8 (.assign (.tmp 15)) 3] false) (.seq (.region 1 D232_1.toArray true) (.seq (.region 2 #[o 9 (.assign (xi 1)) 3] false) (.block 0 (.loop L232_0)))))
theorem cal232 (args:Array Value) (H:IH) (h:args.size≤37):cal J okAll 232 args H=finish J [] (run J okAll C232 (regsOf args.toList 0 .leaf) H):=cal_er J H okAll 232 args Tryz.f232 _ C232 _ rfl rfl rfl (by kernel_rfl) rfl h rfl rfl
def D233_1:List Oper:=regOf Tryz.f233 1
@[simp] def A233_1:List Ann:=[a0 (o 13 (.move (.tmp 0)) 290),a0 (o 14 (.nilCheck (.tmp 13)) 0),a0 (o 15 (.fieldAddr 294 (.tmp 14) 1) 0),al (o 16 (.load 136 (.tmp 15)) 136) [1],a0 (o 17 (.move (.tmp 1)) 3),a0 (o 18 (.move (.tmp 0)) 290),a0 (o 19 (.nilCheck (.tmp 18)) 0),a0 (o 20 (.fieldAddr 294 (.tmp 19) 0) 0),a0 (o 21 (.load 81 (.tmp 20)) 81),a0 (o 24 (.move (.tmp 2)) 62),ae (o 22 (.call ⟨.value (.func 207),#[.tmp 21],#[81]⟩) 3) true,a0 (o 23 (.binOp .sub 3 (.tmp 17) (.tmp 22) 3) 3),a0 (o 25 (.indexAddr 136 (.tmp 16) (.tmp 23)) 0),ae (oz (.store 62 (.tmp 25) (.tmp 24)) 0) true]
def O233_1:List Oper:=A233_1.map (·.o)
@[simp] theorem r233_1 (T:Regs) (H:IH):run J okAll (.region 1 D233_1.toArray true) T H=annSel J okAll D233_1.toArray T H (eRun J (cal J okAll) O233_1.toArray A233_1 T H 0 []):=r_ann (by kernel_rfl) (by kernel_rfl) 1 T H
def C233:Code:=(.seq (.seq (.region 0 #[o 6 (.move (.tmp 1)) 3,o 7 (.move (.tmp 0)) 290,o 8 (.nilCheck (.tmp 7)) 0,o 9 (.fieldAddr 294 (.tmp 8) 0) 0,o 10 (.load 81 (.tmp 9)) 81,o 11 (.call ⟨.value (.func 207),#[.tmp 10],#[81]⟩) 3,o 12 (.binOp .geq 3 (.tmp 6) (.tmp 11) 3) 4] false) (.cond (.tmp 12) (.seq (.region 1 D233_1.toArray true) .ret) .skip)) (.region 2 #[o 26 (.move (.tmp 0)) 290,o 27 (.nilCheck (.tmp 26)) 0,o 28 (.fieldAddr 294 (.tmp 27) 0) 0,o 29 (.load 81 (.tmp 28)) 81,o 30 (.move (.tmp 1)) 3,o 31 (.move (.tmp 2)) 62,o 32 (.call ⟨.value (.func 242),#[.tmp 29,.tmp 30,.tmp 31],#[81,3,62]⟩) 0] false))
theorem cal233 (args:Array Value) (H:IH) (h:args.size≤33):cal J okAll 233 args H=finish J [] (run J okAll C233 (regsOf args.toList 0 .leaf) H):=cal_er J H okAll 233 args Tryz.f233 _ C233 _ rfl rfl rfl (by kernel_rfl) rfl h rfl rfl
def C234:Code:=(.seq (.region 0 #[o 4 (.assign (.const (.int .u64 0))) 62] false) (.seq (.region 1 #[o 5 (.move (.tmp 0)) 62,o 6 (.binOp .andNot 62 (.tmp 5) (.const (.int .u64 4611681620380876800)) 62) 62,o 7 (.move (.tmp 1)) 3,o 8 (.convert 3 62 (.tmp 7)) 62,o 9 (.binOp .and 62 (.tmp 8) (.const (.int .u64 1048575)) 62) 62,o 10 (.binOp .shl 62 (.tmp 9) (.const (.int .u64 42)) 31) 62,o 11 (.binOp .or 62 (.tmp 6) (.tmp 10) 62) 62,o 4 (.assign (.tmp 11)) 62] false) .ret))
theorem cal234 (args:Array Value) (H:IH) (h:args.size≤12):cal J okAll 234 args H=finish J [.tmp 4] (run J okAll C234 (regsOf args.toList 0 .leaf) H):=cal_er J H okAll 234 args Tryz.f234 _ C234 _ rfl rfl rfl (by kernel_rfl) rfl h rfl rfl
def C235:Code:=(.seq (.region 0 #[o 4 (.assign (.const (.int .u64 0))) 62] false) (.seq (.region 1 #[o 5 (.move (.tmp 0)) 62,o 6 (.binOp .andNot 62 (.tmp 5) (.const (.int .u64 2199023255552)) 62) 62,o 0 (.assign (.tmp 6)) 62] false) (.seq (.seq (.region 2 #[o 7 (.move (.tmp 1)) 4] false) (.cond (.tmp 7) (.region 3 #[o 8 (.move (.tmp 0)) 62,o 9 (.binOp .or 62 (.tmp 8) (.const (.int .u64 2199023255552)) 62) 62,o 0 (.assign (.tmp 9)) 62] false) .skip)) (.seq (.region 4 #[o 10 (.move (.tmp 0)) 62,o 4 (.assign (.tmp 10)) 62] false) .ret))))
theorem cal235 (args:Array Value) (H:IH) (h:args.size≤11):cal J okAll 235 args H=finish J [.tmp 4] (run J okAll C235 (regsOf args.toList 0 .leaf) H):=cal_er J H okAll 235 args Tryz.f235 _ C235 _ rfl rfl rfl (by kernel_rfl) rfl h rfl rfl
def D236_2:List Oper:=regOf Tryz.f236 2
@[simp] def A236_2:List Ann:=[a0 (o 12 (.move (.tmp 0)) 290),a0 (o 13 (.nilCheck (.tmp 12)) 0),a0 (o 14 (.fieldAddr 294 (.tmp 13) 1) 0),al (o 15 (.load 136 (.tmp 14)) 136) [1],a0 (o 16 (.move (.tmp 1)) 3),a0 (o 17 (.move (.tmp 0)) 290),a0 (o 18 (.nilCheck (.tmp 17)) 0),a0 (o 19 (.fieldAddr 294 (.tmp 18) 0) 0),a0 (o 20 (.load 81 (.tmp 19)) 81),ae (o 21 (.call ⟨.value (.func 207),#[.tmp 20],#[81]⟩) 3) true,a0 (o 22 (.binOp .sub 3 (.tmp 16) (.tmp 21) 3) 3),a0 (o 23 (.indexAddr 136 (.tmp 15) (.tmp 22)) 0),a0 (o 24 (.load 62 (.tmp 23)) 62),a0 (o 4 (.assign (.tmp 24)) 62)]
def O236_2:List Oper:=A236_2.map (·.o)
@[simp] theorem r236_2 (T:Regs) (H:IH):run J okAll (.region 2 D236_2.toArray true) T H=annSel J okAll D236_2.toArray T H (eRun J (cal J okAll) O236_2.toArray A236_2 T H 0 []):=r_ann (by kernel_rfl) (by kernel_rfl) 2 T H
def C236:Code:=(.seq (.region 0 #[o 4 (.assign (.const (.int .u64 0))) 62] false) (.seq (.seq (.region 1 #[o 5 (.move (.tmp 1)) 3,o 6 (.move (.tmp 0)) 290,o 7 (.nilCheck (.tmp 6)) 0,o 8 (.fieldAddr 294 (.tmp 7) 0) 0,o 9 (.load 81 (.tmp 8)) 81,o 10 (.call ⟨.value (.func 207),#[.tmp 9],#[81]⟩) 3,o 11 (.binOp .geq 3 (.tmp 5) (.tmp 10) 3) 4] false) (.cond (.tmp 11) (.seq (.region 2 D236_2.toArray true) .ret) .skip)) (.seq (.region 3 #[o 25 (.move (.tmp 0)) 290,o 26 (.nilCheck (.tmp 25)) 0,o 27 (.fieldAddr 294 (.tmp 26) 0) 0,o 28 (.load 81 (.tmp 27)) 81,o 29 (.move (.tmp 1)) 3,o 30 (.call ⟨.value (.func 243),#[.tmp 28,.tmp 29],#[81,3]⟩) 62,o 4 (.assign (.tmp 30)) 62] false) .ret)))
theorem cal236 (args:Array Value) (H:IH) (h:args.size≤31):cal J okAll 236 args H=finish J [.tmp 4] (run J okAll C236 (regsOf args.toList 0 .leaf) H):=cal_er J H okAll 236 args Tryz.f236 _ C236 _ rfl rfl rfl (by kernel_rfl) rfl h rfl rfl
def L237_0:Code:=(.seq (.seq (.region 5 #[o 33 (.move (.tmp 6)) 3,o 34 (.move (.tmp 1)) 3,o 35 (.binOp .lss 3 (.tmp 33) (.tmp 34) 3) 4] false) (.cond (.tmp 35) .skip (.exit 0))) (.block 1 (.seq (.region 6 #[o 36 (.move (.tmp 0)) 81,o 37 (.nilCheck (.tmp 36)) 0,o 38 (.fieldAddr 171 (.tmp 37) 0) 0,o 39 (.load 136 (.tmp 38)) 136,o 40 (.move (.tmp 6)) 3,o 41 (.indexAddr 136 (.tmp 39) (.tmp 40)) 0,o 42 (.load 62 (.tmp 41)) 62,o 7 (.assign (.tmp 42)) 62] false) (.seq (.region 7 #[o 44 (.move (.tmp 0)) 81,o 45 (.move (.tmp 7)) 62,o 46 (.call ⟨.value (.func 204),#[.tmp 45],#[62]⟩) 3,o 47 (.move (.tmp 7)) 62,o 48 (.call ⟨.value (.func 212),#[.tmp 47],#[62]⟩) 3,o 49 (.call ⟨.value (.func 205),#[.tmp 44,.tmp 46,.tmp 48],#[81,3,3]⟩) 227,o 43 (.move (.tmp 49)) 227,o 50 (.extract (.tmp 43) 0) 3,o 51 (.extract (.tmp 43) 1) 72,o 8 (.assign (.tmp 50)) 3,o 9 (.assign (.tmp 51)) 72] false) (.seq (.seq (.region 8 #[o 52 (.move (.tmp 9)) 72,o 53 (.binOp .neq 72 (.tmp 52) (xi 0) 72) 4,o 54 (.move (.tmp 53)) 4,og 55 (.move (.tmp 7)) 62 2 false,og 56 (.move (.tmp 7)) 62 2 false,og 57 (.call ⟨.value (.func 204),#[.tmp 56],#[62]⟩) 3 2 false,og 58 (.move (.tmp 7)) 62 2 false,og 59 (.call ⟨.value (.func 212),#[.tmp 58],#[62]⟩) 3 2 false,og 60 (.call ⟨.value (.func 224),#[.tmp 57,.tmp 59],#[3,3]⟩) 62 2 false,og 61 (.binOp .neq 62 (.tmp 55) (.tmp 60) 62) 4 2 false,o 62 (.pick (.tmp 54) (.const (.bool true)) (.tmp 61)) 4,o 63 (.move (.tmp 62)) 4,og 64 (.move (.tmp 8)) 3 11 false,og 65 (.move (.tmp 1)) 3 11 false,og 66 (.move (.tmp 6)) 3 11 false,og 67 (.binOp .sub 3 (.tmp 65) (.tmp 66) 3) 3 11 false,og 68 (.binOp .gtr 3 (.tmp 64) (.tmp 67) 3) 4 11 false,o 69 (.pick (.tmp 63) (.const (.bool true)) (.tmp 68)) 4] false) (.cond (.tmp 69) (.seq (.region 9 #[o 4 (.assign (xi 1)) 72] false) .ret) .skip)) (.seq (.region 10 #[o 70 (.move (.tmp 5)) 136,o 71 (.move (.tmp 6)) 3,o 72 (.binOp .quo 3 (.tmp 71) (xi 64) 3) 3,o 73 (.indexAddr 136 (.tmp 70) (.tmp 72)) 0,o 74 (.load 62 (.tmp 73)) 62,o 75 (.move (.tmp 6)) 3,o 76 (.binOp .rem 3 (.tmp 75) (xi 64) 3) 3,o 77 (.binOp .shl 62 (.const (.int .u64 1)) (.tmp 76) 3) 62,o 78 (.binOp .or 62 (.tmp 74) (.tmp 77) 62) 62,o 79 (.indexAddr 136 (.tmp 70) (.tmp 72)) 0,oz (.store 62 (.tmp 79) (.tmp 78)) 0] false) (.region 11 #[o 80 (.move (.tmp 6)) 3,o 81 (.move (.tmp 8)) 3,o 82 (.binOp .add 3 (.tmp 80) (.tmp 81) 3) 3,o 6 (.assign (.tmp 82)) 3] false)))))))
def C237:Code:=(.seq (.region 0 #[o 4 (.assign (xi 0)) 72] false) (.seq (.seq (.region 1 #[o 12 (.move (.tmp 0)) 81,o 13 (.binOp .eql 81 (.tmp 12) (.const (.pointer none)) 81) 4,o 14 (.move (.tmp 13)) 4,og 15 (.move (.tmp 1)) 3 2 false,og 16 (.binOp .lss 3 (.tmp 15) (xi 0) 3) 4 2 false,o 17 (.pick (.tmp 14) (.const (.bool true)) (.tmp 16)) 4,o 18 (.move (.tmp 17)) 4,og 19 (.move (.tmp 1)) 3 6 false,og 20 (.move (.tmp 0)) 81 6 false,og 21 (.nilCheck (.tmp 20)) 0 6 false,og 22 (.fieldAddr 171 (.tmp 21) 0) 0 6 false,og 23 (.load 136 (.tmp 22)) 136 6 false,og 24 (.call ⟨.builtin .len,#[.tmp 23],#[136]⟩) 3 6 false,og 25 (.binOp .gtr 3 (.tmp 19) (.tmp 24) 3) 4 6 false,o 26 (.pick (.tmp 18) (.const (.bool true)) (.tmp 25)) 4] false) (.cond (.tmp 26) (.seq (.region 2 #[o 4 (.assign (xi 1)) 72] false) .ret) .skip)) (.seq (.region 3 #[o 27 (.move (.tmp 0)) 81,o 28 (.nilCheck (.tmp 27)) 0,o 29 (.fieldAddr 171 (.tmp 28) 1) 0,o 30 (.load 136 (.tmp 29)) 136,o 31 (.call ⟨.builtin .len,#[.tmp 30],#[136]⟩) 3,o 32 (.makeSlice 136 (.tmp 31) (.tmp 31)) 136,o 5 (.assign (.tmp 32)) 136] false) (.seq (.seq (.region 4 #[o 6 (.assign (xi 0)) 3] false) (.block 0 (.loop L237_0))) (.seq (.region 12 #[o 83 (.move (.tmp 0)) 81,o 84 (.nilCheck (.tmp 83)) 0,o 85 (.fieldAddr 171 (.tmp 84) 1) 0,o 86 (.load 136 (.tmp 85)) 136,o 87 (.move (.tmp 0)) 81,o 88 (.nilCheck (.tmp 87)) 0,o 89 (.fieldAddr 171 (.tmp 88) 3) 0,o 90 (.load 3 (.tmp 89)) 3,o 10 (.assign (.tmp 86)) 136,o 11 (.assign (.tmp 90)) 3] false) (.seq (.region 13 #[o 91 (.move (.tmp 0)) 81,o 92 (.move (.tmp 0)) 81,o 93 (.move (.tmp 5)) 136,o 94 (.move (.tmp 1)) 3,o 95 (.nilCheck (.tmp 91)) 0,o 96 (.fieldAddr 171 (.tmp 95) 1) 0,oz (.store 136 (.tmp 96) (.tmp 93)) 0,o 97 (.nilCheck (.tmp 92)) 0,o 98 (.fieldAddr 171 (.tmp 97) 3) 0,oz (.store 3 (.tmp 98) (.tmp 94)) 0] false) (.seq (.seq (.region 14 #[o 99 (.move (.tmp 0)) 81,o 100 (.call ⟨.value (.func 244),#[.tmp 99],#[81]⟩) 4,o 101 (.unOp .not 4 (.tmp 100)) 4] false) (.cond (.tmp 101) (.seq (.region 15 #[o 102 (.move (.tmp 0)) 81,o 103 (.move (.tmp 0)) 81,o 104 (.move (.tmp 10)) 136,o 105 (.move (.tmp 11)) 3,o 106 (.nilCheck (.tmp 102)) 0,o 107 (.fieldAddr 171 (.tmp 106) 1) 0,oz (.store 136 (.tmp 107) (.tmp 104)) 0,o 108 (.nilCheck (.tmp 103)) 0,o 109 (.fieldAddr 171 (.tmp 108) 3) 0,oz (.store 3 (.tmp 109) (.tmp 105)) 0] false) (.seq (.region 16 #[o 4 (.assign (xi 1)) 72] false) .ret)) .skip)) (.seq (.region 17 #[o 110 (.move (.tmp 0)) 81,o 111 (.nilCheck (.tmp 110)) 0,o 112 (.fieldAddr 171 (.tmp 111) 0) 0,o 113 (.load 136 (.tmp 112)) 136,o 114 (.move (.tmp 1)) 3,o 115 (.slice 136 (.tmp 113) (some (.tmp 114)) none none) 136,oz (.call ⟨.builtin .clear,#[.tmp 115],#[136]⟩) 0] false) (.seq (.region 18 #[o 4 (.assign (xi 0)) 72] false) .ret)))))))))
theorem cal237 (args:Array Value) (H:IH) (h:args.size≤116):cal J okAll 237 args H=finish J [.tmp 4] (run J okAll C237 (regsOf args.toList 0 .leaf) H):=cal_er J H okAll 237 args Tryz.f237 _ C237 _ rfl rfl rfl (by kernel_rfl) rfl h rfl rfl
def L238_0:Code:=(.block 1 (.seq (.region 2 #[o 25 (.move (.tmp 0)) 290,o 26 (.move (.tmp 4)) 3,o 27 (.call ⟨.value (.func 236),#[.tmp 25,.tmp 26],#[290,3]⟩) 62,o 28 (.call ⟨.value (.func 235),#[.tmp 27,.const (.bool true)],#[62,4]⟩) 62,o 6 (.assign (.tmp 28)) 62] false) (.seq (.region 3 #[o 30 (.move (.tmp 0)) 290,o 31 (.move (.tmp 6)) 62,o 32 (.call ⟨.value (.func 231),#[.tmp 30,.tmp 31],#[290,62]⟩) 235,o 29 (.move (.tmp 32)) 235,o 33 (.extract (.tmp 29) 0) 3,o 34 (.extract (.tmp 29) 1) 3,o 7 (.assign (.tmp 33)) 3,o 8 (.assign (.tmp 34)) 3] false) (.seq (.region 4 #[o 35 (.move (.tmp 6)) 62,o 36 (.call ⟨.value (.func 245),#[.tmp 35],#[62]⟩) 3,o 9 (.assign (.tmp 36)) 3] false) (.seq (.seq (.region 5 #[o 37 (.move (.tmp 9)) 3,o 38 (.move (.tmp 8)) 3,o 39 (.binOp .lss 3 (.tmp 37) (.tmp 38) 3) 4] false) (.cond (.tmp 39) (.seq (.region 6 #[o 40 (.move (.tmp 0)) 290,o 41 (.move (.tmp 4)) 3,o 42 (.move (.tmp 6)) 62,o 43 (.move (.tmp 9)) 3,o 44 (.binOp .add 3 (.tmp 43) (xi 1) 3) 3,o 45 (.call ⟨.value (.func 234),#[.tmp 42,.tmp 44],#[62,3]⟩) 62,o 46 (.call ⟨.value (.func 233),#[.tmp 40,.tmp 41,.tmp 45],#[290,3,62]⟩) 0] false) (.seq (.region 7 #[o 47 (.move (.tmp 0)) 290,o 48 (.move (.tmp 4)) 3,o 49 (.binOp .add 3 (.tmp 48) (xi 1) 3) 3,o 50 (.move (.tmp 9)) 3,o 51 (.binOp .add 3 (.tmp 49) (.tmp 50) 3) 3,o 52 (.call ⟨.value (.func 236),#[.tmp 47,.tmp 51],#[290,3]⟩) 62,o 10 (.assign (.tmp 52)) 62] false) (.seq (.seq (.region 8 #[o 53 (.move (.tmp 10)) 62,o 54 (.call ⟨.value (.func 160),#[.tmp 53],#[62]⟩) 4,o 55 (.unOp .not 4 (.tmp 54)) 4,o 56 (.move (.tmp 55)) 4,og 57 (.move (.tmp 0)) 290 3 true,og 58 (.move (.tmp 10)) 62 3 true,og 59 (.call ⟨.value (.func 163),#[.tmp 58],#[62]⟩) 3 3 true,og 60 (.call ⟨.value (.func 236),#[.tmp 57,.tmp 59],#[290,3]⟩) 62 3 true,og 61 (.call ⟨.value (.func 239),#[.tmp 60],#[62]⟩) 4 3 true,og 62 (.unOp .not 4 (.tmp 61)) 4 3 true,o 63 (.pick (.tmp 56) (.tmp 62) (.const (.bool false))) 4] false) (.cond (.tmp 63) (.seq (.region 9 #[o 64 (.move (.tmp 0)) 290,o 65 (.move (.tmp 4)) 3,o 66 (.binOp .add 3 (.tmp 65) (xi 1) 3) 3,o 67 (.move (.tmp 9)) 3,o 68 (.binOp .add 3 (.tmp 66) (.tmp 67) 3) 3,o 69 (.move (.tmp 5)) 62,o 70 (.call ⟨.value (.func 233),#[.tmp 64,.tmp 68,.tmp 69],#[290,3,62]⟩) 0] false) (.region 10 #[o 71 (.move (.tmp 10)) 62,o 72 (.call ⟨.value (.func 163),#[.tmp 71],#[62]⟩) 3,o 73 (.move (.tmp 4)) 3,o 74 (.call ⟨.value (.func 167),#[.tmp 73],#[3]⟩) 62,o 4 (.assign (.tmp 72)) 3,o 5 (.assign (.tmp 74)) 62] false)) .skip)) (.exit 1)))) .skip)) (.seq (.region 11 #[o 75 (.move (.tmp 0)) 290,o 76 (.move (.tmp 4)) 3,o 77 (.move (.tmp 6)) 62,o 78 (.call ⟨.value (.func 233),#[.tmp 75,.tmp 76,.tmp 77],#[290,3,62]⟩) 0] false) (.seq (.seq (.region 12 #[o 79 (.move (.tmp 5)) 62,o 80 (.binOp .eql 62 (.tmp 79) (.const (.int .u64 1)) 62) 4] false) (.cond (.tmp 80) (.exit 0) .skip)) (.seq (.region 13 #[o 81 (.move (.tmp 5)) 62,o 82 (.call ⟨.value (.func 163),#[.tmp 81],#[62]⟩) 3,o 11 (.assign (.tmp 82)) 3] false) (.seq (.region 14 #[o 83 (.move (.tmp 11)) 3,o 84 (.move (.tmp 0)) 290,o 85 (.move (.tmp 11)) 3,o 86 (.call ⟨.value (.func 236),#[.tmp 84,.tmp 85],#[290,3]⟩) 62,o 87 (.call ⟨.value (.func 245),#[.tmp 86],#[62]⟩) 3,o 88 (.binOp .add 3 (.tmp 83) (.tmp 87) 3) 3,o 12 (.assign (.tmp 88)) 3] false) (.seq (.region 15 #[o 89 (.move (.tmp 4)) 3,o 90 (.call ⟨.value (.func 167),#[.tmp 89],#[3]⟩) 62,o 13 (.assign (.tmp 90)) 62] false) (.seq (.region 16 #[o 91 (.move (.tmp 11)) 3,o 92 (.move (.tmp 0)) 290,o 93 (.move (.tmp 12)) 3,o 94 (.call ⟨.value (.func 236),#[.tmp 92,.tmp 93],#[290,3]⟩) 62,o 4 (.assign (.tmp 91)) 3,o 5 (.assign (.tmp 94)) 62] false) (.region 17 #[o 95 (.move (.tmp 0)) 290,o 96 (.move (.tmp 12)) 3,o 97 (.move (.tmp 13)) 62,o 98 (.call ⟨.value (.func 233),#[.tmp 95,.tmp 96,.tmp 97],#[290,3,62]⟩) 0] false))))))))))))
def C238:Code:=(.scope (.seq (.seq (.region 0 #[o 14 (.move (.tmp 1)) 62,o 15 (.call ⟨.value (.func 160),#[.tmp 14],#[62]⟩) 4,o 16 (.move (.tmp 15)) 4,og 17 (.move (.tmp 0)) 290 2 false,og 18 (.move (.tmp 1)) 62 2 false,og 19 (.call ⟨.value (.func 163),#[.tmp 18],#[62]⟩) 3 2 false,og 20 (.call ⟨.value (.func 236),#[.tmp 17,.tmp 19],#[290,3]⟩) 62 2 false,og 21 (.call ⟨.value (.func 239),#[.tmp 20],#[62]⟩) 4 2 false,o 22 (.pick (.tmp 16) (.const (.bool true)) (.tmp 21)) 4] false) (.cond (.tmp 22) .ret .skip)) (.seq (.region 1 #[o 23 (.move (.tmp 1)) 62,o 24 (.call ⟨.value (.func 163),#[.tmp 23],#[62]⟩) 3,o 4 (.assign (.tmp 24)) 3,o 5 (.assign (.const (.int .u64 1))) 62] false) (.seq (.label 0) (.block 0 (.loop L238_0))))))
theorem cal238 (args:Array Value) (H:IH) (h:args.size≤99):cal J okAll 238 args H=finish J [] (run J okAll C238 (regsOf args.toList 0 .leaf) H):=cal_er J H okAll 238 args Tryz.f238 _ C238 _ rfl rfl rfl (by kernel_rfl) rfl h rfl rfl
def C239:Code:=(.seq (.region 0 #[o 2 (.assign (.const (.bool false))) 4] false) (.seq (.region 1 #[o 3 (.move (.tmp 0)) 62,o 4 (.binOp .shr 62 (.tmp 3) (.const (.int .u64 41)) 31) 62,o 5 (.binOp .and 62 (.tmp 4) (.const (.int .u64 1)) 62) 62,o 6 (.binOp .eql 62 (.tmp 5) (.const (.int .u64 1)) 62) 4,o 2 (.assign (.tmp 6)) 4] false) .ret))
theorem cal239 (args:Array Value) (H:IH) (h:args.size≤7):cal J okAll 239 args H=finish J [.tmp 2] (run J okAll C239 (regsOf args.toList 0 .leaf) H):=cal_er J H okAll 239 args Tryz.f239 _ C239 _ rfl rfl rfl (by kernel_rfl) rfl h rfl rfl
def L240_0:Code:=(.seq (.seq (.region 2 #[o 12 (.move (.tmp 7)) 62,o 13 (.call ⟨.value (.func 160),#[.tmp 12],#[62]⟩) 4,o 14 (.unOp .not 4 (.tmp 13)) 4] false) (.cond (.tmp 14) .skip (.exit 0))) (.block 1 (.seq (.region 3 #[o 15 (.move (.tmp 7)) 62,o 16 (.call ⟨.value (.func 163),#[.tmp 15],#[62]⟩) 3,o 8 (.assign (.tmp 16)) 3] false) (.seq (.region 4 #[o 17 (.move (.tmp 0)) 290,o 18 (.move (.tmp 8)) 3,o 19 (.call ⟨.value (.func 236),#[.tmp 17,.tmp 18],#[290,3]⟩) 62,o 7 (.assign (.tmp 19)) 62] false) (.region 5 #[o 20 (.move (.tmp 0)) 290,o 21 (.move (.tmp 8)) 3,o 22 (.move (.tmp 2)) 3,o 23 (.call ⟨.value (.func 167),#[.tmp 22],#[3]⟩) 62,o 24 (.call ⟨.value (.func 233),#[.tmp 20,.tmp 21,.tmp 23],#[290,3,62]⟩) 0] false)))))
def C240:Code:=(.seq (.region 0 #[o 6 (.assign (.const (.int .u64 0))) 62] false) (.seq (.region 1 #[o 9 (.move (.tmp 0)) 290,o 10 (.move (.tmp 1)) 3,o 11 (.call ⟨.value (.func 236),#[.tmp 9,.tmp 10],#[290,3]⟩) 62,o 7 (.assign (.tmp 11)) 62] false) (.seq (.block 0 (.loop L240_0)) (.seq (.region 6 #[o 25 (.move (.tmp 0)) 290,o 26 (.move (.tmp 1)) 3,o 27 (.move (.tmp 7)) 62,o 28 (.call ⟨.value (.func 233),#[.tmp 25,.tmp 26,.tmp 27],#[290,3,62]⟩) 0] false) (.seq (.region 7 #[o 29 (.move (.tmp 7)) 62,o 6 (.assign (.tmp 29)) 62] false) .ret)))))
theorem cal240 (args:Array Value) (H:IH) (h:args.size≤30):cal J okAll 240 args H=finish J [.tmp 6] (run J okAll C240 (regsOf args.toList 0 .leaf) H):=cal_er J H okAll 240 args Tryz.f240 _ C240 _ rfl rfl rfl (by kernel_rfl) rfl h rfl rfl
def D241_1:List Oper:=regOf Tryz.f241 1
@[simp] def A241_1:List Ann:=[a0 (o 5 (.move (.tmp 0)) 290),a0 (o 6 (.nilCheck (.tmp 5)) 0),a0 (o 7 (.fieldAddr 294 (.tmp 6) 0) 0),al (o 8 (.load 81 (.tmp 7)) 81) [1],a0 (o 9 (.move (.tmp 1)) 62),ae (o 10 (.call ⟨.value (.func 204),#[.tmp 9],#[62]⟩) 3) true,ae (o 11 (.call ⟨.value (.func 108),#[.tmp 8,.tmp 10],#[81,3]⟩) 3) true,a0 (o 12 (.binOp .eql 3 (.tmp 11) (xi 3) 3) 4),a0 (o 4 (.assign (.tmp 12)) 4)]
def O241_1:List Oper:=A241_1.map (·.o)
@[simp] theorem r241_1 (T:Regs) (H:IH):run J okAll (.region 1 D241_1.toArray true) T H=annSel J okAll D241_1.toArray T H (eRun J (cal J okAll) O241_1.toArray A241_1 T H 0 []):=r_ann (by kernel_rfl) (by kernel_rfl) 1 T H
def C241:Code:=(.seq (.region 0 #[o 4 (.assign (.const (.bool false))) 4] false) (.seq (.region 1 D241_1.toArray true) .ret))
theorem cal241 (args:Array Value) (H:IH) (h:args.size≤13):cal J okAll 241 args H=finish J [.tmp 4] (run J okAll C241 (regsOf args.toList 0 .leaf) H):=cal_er J H okAll 241 args Tryz.f241 _ C241 _ rfl rfl rfl (by kernel_rfl) rfl h rfl rfl
def C242:Code:=(.seq (.region 0 #[o 6 (.move (.tmp 1)) 3,o 7 (.binOp .geq 3 (.tmp 6) (xi 0) 3) 4,o 8 (.move (.tmp 7)) 4,og 9 (.move (.tmp 1)) 3 2 true,og 10 (.move (.tmp 0)) 81 2 true,og 11 (.call ⟨.value (.func 207),#[.tmp 10],#[81]⟩) 3 2 true,og 12 (.binOp .lss 3 (.tmp 9) (.tmp 11) 3) 4 2 true,o 13 (.pick (.tmp 8) (.tmp 12) (.const (.bool false))) 4] false) (.cond (.tmp 13) (.region 1 #[o 14 (.move (.tmp 0)) 81,o 15 (.nilCheck (.tmp 14)) 0,o 16 (.fieldAddr 171 (.tmp 15) 0) 0,o 17 (.load 136 (.tmp 16)) 136,o 18 (.move (.tmp 1)) 3,o 19 (.move (.tmp 2)) 62,o 20 (.indexAddr 136 (.tmp 17) (.tmp 18)) 0,oz (.store 62 (.tmp 20) (.tmp 19)) 0] false) .skip))
theorem cal242 (args:Array Value) (H:IH) (h:args.size≤21):cal J okAll 242 args H=finish J [] (run J okAll C242 (regsOf args.toList 0 .leaf) H):=cal_er J H okAll 242 args Tryz.f242 _ C242 _ rfl rfl rfl (by kernel_rfl) rfl h rfl rfl
def C243:Code:=(.seq (.region 0 #[o 4 (.assign (.const (.int .u64 0))) 62] false) (.seq (.seq (.region 1 #[o 5 (.move (.tmp 1)) 3,o 6 (.binOp .lss 3 (.tmp 5) (xi 0) 3) 4,o 7 (.move (.tmp 6)) 4,og 8 (.move (.tmp 1)) 3 2 false,og 9 (.move (.tmp 0)) 81 2 false,og 10 (.call ⟨.value (.func 207),#[.tmp 9],#[81]⟩) 3 2 false,og 11 (.binOp .geq 3 (.tmp 8) (.tmp 10) 3) 4 2 false,o 12 (.pick (.tmp 7) (.const (.bool true)) (.tmp 11)) 4] false) (.cond (.tmp 12) (.seq (.region 2 #[o 4 (.assign (.const (.int .u64 0))) 62] false) .ret) .skip)) (.seq (.region 3 #[o 13 (.move (.tmp 0)) 81,o 14 (.nilCheck (.tmp 13)) 0,o 15 (.fieldAddr 171 (.tmp 14) 0) 0,o 16 (.load 136 (.tmp 15)) 136,o 17 (.move (.tmp 1)) 3,o 18 (.indexAddr 136 (.tmp 16) (.tmp 17)) 0,o 19 (.load 62 (.tmp 18)) 62,o 4 (.assign (.tmp 19)) 62] false) .ret)))
theorem cal243 (args:Array Value) (H:IH) (h:args.size≤20):cal J okAll 243 args H=finish J [.tmp 4] (run J okAll C243 (regsOf args.toList 0 .leaf) H):=cal_er J H okAll 243 args Tryz.f243 _ C243 _ rfl rfl rfl (by kernel_rfl) rfl h rfl rfl
def D244_6:List Oper:=regOf Tryz.f244 6
@[simp] def A244_6:List Ann:=[a0 (o 24 (.move (.tmp 0)) 81),a0 (o 25 (.nilCheck (.tmp 24)) 0),a0 (o 26 (.fieldAddr 171 (.tmp 25) 2) 0),al (o 27 (.load 125 (.tmp 26)) 125) [1],a0 (o 28 (.move (.tmp 5)) 62),ae (o 29 (.call ⟨.value (.func 204),#[.tmp 28],#[62]⟩) 3) true,a0 (o 30 (.indexAddr 125 (.tmp 27) (.tmp 29)) 0),a0 (o 31 (.fieldAddr 127 (.tmp 30) 0) 0),a0 (o 32 (.load 3 (.tmp 31)) 3),a0 (o 33 (.binOp .eql 3 (.tmp 32) (xi 3) 3) 4)]
def O244_6:List Oper:=A244_6.map (·.o)
@[simp] theorem r244_6 (T:Regs) (H:IH):run J okAll (.region 6 D244_6.toArray true) T H=annSel J okAll D244_6.toArray T H (eRun J (cal J okAll) O244_6.toArray A244_6 T H 0 []):=r_ann (by kernel_rfl) (by kernel_rfl) 6 T H
def L244_0:Code:=(.seq (.region 10 #[o 58 (.binOp .lss 3 (.tmp 57) (.tmp 56) 3) 4] false) (.seq (.cond (.tmp 58) .skip (.exit 2)) (.seq (.block 3 (.seq (.region 11 #[o 59 (.move (.tmp 57)) 3,o 7 (.assign (.tmp 59)) 3] false) (.seq (.region 12 #[o 60 (.move (.tmp 0)) 81,o 61 (.move (.tmp 0)) 81,o 62 (.nilCheck (.tmp 61)) 0,o 63 (.fieldAddr 171 (.tmp 62) 0) 0,o 64 (.load 136 (.tmp 63)) 136,o 65 (.move (.tmp 4)) 3,o 66 (.binOp .add 3 (.tmp 65) (xi 1) 3) 3,o 67 (.move (.tmp 7)) 3,o 68 (.binOp .add 3 (.tmp 66) (.tmp 67) 3) 3,o 69 (.indexAddr 136 (.tmp 64) (.tmp 68)) 0,o 70 (.load 62 (.tmp 69)) 62,o 71 (.call ⟨.value (.func 214),#[.tmp 60,.tmp 70],#[81,62]⟩) 4,o 72 (.unOp .not 4 (.tmp 71)) 4] false) (.cond (.tmp 72) (.seq (.region 13 #[o 2 (.assign (.const (.bool false))) 4] false) .ret) .skip)))) (.region 14 #[o 73 (.binOp .add 3 (.tmp 57) (xi 1) 3) 3,o 57 (.move (.tmp 73)) 3] false))))
def L244_1:Code:=(.seq (.region 2 #[o 12 (.binOp .lss 3 (.tmp 11) (.tmp 10) 3) 0] false) (.seq (.cond (.tmp 12) .skip (.exit 0)) (.seq (.block 1 (.seq (.region 3 #[o 13 (.indexAddr 28 (.tmp 9) (.tmp 11)) 0,o 14 (.load 3 (.tmp 13)) 3,o 4 (.assign (.tmp 14)) 3] false) (.seq (.region 4 #[o 15 (.move (.tmp 0)) 81,o 16 (.nilCheck (.tmp 15)) 0,o 17 (.fieldAddr 171 (.tmp 16) 0) 0,o 18 (.load 136 (.tmp 17)) 136,o 19 (.move (.tmp 4)) 3,o 20 (.indexAddr 136 (.tmp 18) (.tmp 19)) 0,o 21 (.load 62 (.tmp 20)) 62,o 5 (.assign (.tmp 21)) 62] false) (.seq (.seq (.region 5 #[o 22 (.move (.tmp 5)) 62,o 23 (.call ⟨.value (.func 212),#[.tmp 22],#[62]⟩) 3,o 6 (.assign (.tmp 23)) 3] false) (.seq (.region 6 D244_6.toArray true) (.cond (.tmp 33) (.seq (.seq (.region 7 #[o 34 (.move (.tmp 6)) 3,o 35 (.binOp .rem 3 (.tmp 34) (xi 8) 3) 3,o 36 (.binOp .gtr 3 (.tmp 35) (xi 0) 3) 4,o 37 (.move (.tmp 36)) 4,og 38 (.move (.tmp 0)) 81 3 true,og 39 (.nilCheck (.tmp 38)) 0 3 true,og 40 (.fieldAddr 171 (.tmp 39) 0) 0 3 true,og 41 (.load 136 (.tmp 40)) 136 3 true,og 42 (.move (.tmp 4)) 3 3 true,og 43 (.binOp .add 3 (.tmp 42) (xi 1) 3) 3 3 true,og 44 (.move (.tmp 6)) 3 3 true,og 45 (.binOp .quo 3 (.tmp 44) (xi 8) 3) 3 3 true,og 46 (.binOp .add 3 (.tmp 43) (.tmp 45) 3) 3 3 true,og 47 (.indexAddr 136 (.tmp 41) (.tmp 46)) 0 3 true,og 48 (.load 62 (.tmp 47)) 62 3 true,og 49 (.move (.tmp 6)) 3 3 true,og 50 (.binOp .rem 3 (.tmp 49) (xi 8) 3) 3 3 true,og 51 (.binOp .mul 3 (.tmp 50) (xi 8) 3) 3 3 true,og 52 (.binOp .shr 62 (.tmp 48) (.tmp 51) 3) 62 3 true,og 53 (.binOp .gtr 62 (.tmp 52) (.const (.int .u64 0)) 62) 4 3 true,o 54 (.pick (.tmp 37) (.tmp 53) (.const (.bool false))) 4] false) (.cond (.tmp 54) (.seq (.region 8 #[o 2 (.assign (.const (.bool false))) 4] false) .ret) .skip)) (.exit 1)) .skip))) (.seq (.region 9 #[o 55 (.move (.tmp 5)) 62,o 56 (.call ⟨.value (.func 212),#[.tmp 55],#[62]⟩) 3,o 57 (.move (xi 0)) 3] false) (.block 2 (.loop L244_0))))))) (.region 15 #[o 74 (.binOp .add 3 (.tmp 11) (xi 1) 3) 3,o 11 (.move (.tmp 74)) 3] false))))
def C244:Code:=(.seq (.region 0 #[o 2 (.assign (.const (.bool false))) 4] false) (.seq (.seq (.region 1 #[o 8 (.move (.tmp 0)) 81,o 9 (.call ⟨.value (.func 246),#[.tmp 8],#[81]⟩) 28,o 10 (.call ⟨.builtin .len,#[.tmp 9],#[28]⟩) 3,o 11 (.move (xi 0)) 3] false) (.block 0 (.loop L244_1))) (.seq (.region 16 #[o 2 (.assign (.const (.bool true))) 4] false) .ret)))
theorem cal244 (args:Array Value) (H:IH) (h:args.size≤75):cal J okAll 244 args H=finish J [.tmp 2] (run J okAll C244 (regsOf args.toList 0 .leaf) H):=cal_er J H okAll 244 args Tryz.f244 _ C244 _ rfl rfl rfl (by kernel_rfl) rfl h rfl rfl
def C245:Code:=(.seq (.region 0 #[o 2 (.assign (xi 0)) 3] false) (.seq (.region 1 #[o 3 (.move (.tmp 0)) 62,o 4 (.binOp .shr 62 (.tmp 3) (.const (.int .u64 42)) 31) 62,o 5 (.binOp .and 62 (.tmp 4) (.const (.int .u64 1048575)) 62) 62,o 6 (.convert 62 3 (.tmp 5)) 3,o 2 (.assign (.tmp 6)) 3] false) .ret))
theorem cal245 (args:Array Value) (H:IH) (h:args.size≤7):cal J okAll 245 args H=finish J [.tmp 2] (run J okAll C245 (regsOf args.toList 0 .leaf) H):=cal_er J H okAll 245 args Tryz.f245 _ C245 _ rfl rfl rfl (by kernel_rfl) rfl h rfl rfl
def L246_0:Code:=(.seq (.region 3 #[o 8 (.binOp .lss 3 (.tmp 7) (.tmp 6) 3) 4] false) (.seq (.cond (.tmp 8) .skip (.exit 0)) (.seq (.block 1 (.seq (.region 4 #[o 9 (.move (.tmp 7)) 3,o 4 (.assign (.tmp 9)) 3] false) (.seq (.region 5 #[o 10 (.move (.tmp 0)) 81,o 11 (.move (.tmp 4)) 3,o 12 (.call ⟨.value (.func 203),#[.tmp 10,.tmp 11],#[81,3]⟩) 4] false) (.cond (.tmp 12) (.region 6 #[o 13 (.move (.tmp 3)) 28,o 14 (.move (.tmp 4)) 3,o 15 (.buildSlice 28 1 #[(0,.tmp 14)]) 28,o 16 (.call ⟨.builtin .append,#[.tmp 13,.tmp 15],#[28,28]⟩) 28,o 3 (.assign (.tmp 16)) 28] false) .skip)))) (.region 7 #[o 17 (.binOp .add 3 (.tmp 7) (xi 1) 3) 3,o 7 (.move (.tmp 17)) 3] false))))
def C246:Code:=(.seq (.region 0 #[o 2 (.assign (.const (.slice none 0 0))) 28] false) (.seq (.region 1 #[o 3 (.assign (.const (.slice none 0 0))) 28] false) (.seq (.seq (.region 2 #[o 5 (.move (.tmp 0)) 81,o 6 (.call ⟨.value (.func 208),#[.tmp 5],#[81]⟩) 3,o 7 (.move (xi 0)) 3] false) (.block 0 (.loop L246_0))) (.seq (.region 8 #[o 18 (.move (.tmp 3)) 28,o 2 (.assign (.tmp 18)) 28] false) .ret))))
theorem cal246 (args:Array Value) (H:IH) (h:args.size≤19):cal J okAll 246 args H=finish J [.tmp 2] (run J okAll C246 (regsOf args.toList 0 .leaf) H):=cal_er J H okAll 246 args Tryz.f246 _ C246 _ rfl rfl rfl (by kernel_rfl) rfl h rfl rfl
end
set_option maxHeartbeats 4000000
def wWrap (n:Int):Int:=(n+4611686018427387904)%9223372036854775808-4611686018427387904
def wImm (n:Int):Nat:=((2*n+1)%18446744073709551616).toNat
def wInt (w:Nat):Int:=if w<9223372036854775808 then (w / 2:Nat) else ((w / 2:Nat):Int)-9223372036854775808
def wIsImm (w:Nat):Bool:=decide (w%2=1)
def wPtr (a:Nat):Nat:=a*2
def wAt (w:Nat):Nat:=w / 2
def wHead (s n:Nat):Nat:=((n%1048576)*2^20+s%1048576)*2+1
def wShape (h:Nat):Nat:=h / 2%1048576
def wLen (h:Nat):Nat:=h / 2097152%1048576
def wMark (h:Nat) (b:Bool):Nat:=h%2^41+2^42*(h / 2^42)+if b then 2^41 else 0
def wMarked (h:Nat):Bool:=decide (h / 2199023255552%2=1)
def wTurn (h k:Nat):Nat:=h%2^42+2^62*(h / 2^62)+(k%1048576)*2^42
def wTurned (h:Nat):Nat:=h / 4398046511104%1048576
section
variable (H:IH)
theorem c_Wrap (n:Int):cal J okAll 23 #[.int .i64 n] H=some (.ret (.int .i64 (wWrap n)),H):=by
 rw [cal23 _ _ (by simp)]
 have e:(IntKind.i64.wrap (n*2)).fdiv 2=wWrap n:=by
  rw [wrapI,Int.fdiv_eq_ediv_of_nonneg _ (by decide)]
  unfold wWrap
  omega
 simp [C23,regsOf,fin,iresult1,e]
theorem c_Imm (n:Int) (_h: -9223372036854775808≤n∧n≤9223372036854775807):cal J okAll 96 #[.int .i64 n] H=some (.ret (.int .u64 (wImm n)),H):=by
 rw [cal96 _ _ (by simp)]
 obtain ⟨m,hm⟩:∃m:Nat,m=2*(n%9223372036854775808).toNat:=⟨_,rfl⟩
 have e:IntKind.u64.wrap (IntKind.u64.wrap n*2)=(m:Int):=by
  rw [wrapU,wrapU]
  omega
 have e2:=or_one m (by omega) (by omega)
 have e3:m+1=wImm n:=by unfold wImm;omega
 rw [e3] at e2
 simp [C96,regsOf,fin,iresult1,e,e2]
theorem c_Int (w:Nat) (hw:w<18446744073709551616):cal J okAll 161 #[.int .u64 w] H=some (.ret (.int .i64 (wInt w)),H):=by
 rw [cal161 _ _ (by simp)]
 have e:(IntKind.i64.wrap (w:Int)).fdiv 2=wInt w:=by
  rw [wrapI,Int.fdiv_eq_ediv_of_nonneg _ (by decide)]
  unfold wInt
  split<;>omega
 simp [C161,regsOf,fin,iresult1,e]
theorem c_IsImm (w:Nat) (hw:w<18446744073709551616):cal J okAll 160 #[.int .u64 w] H=some (.ret (.bool (wIsImm w)),H):=by
 rw [cal160 _ _ (by simp)]
 have e:=and_one w hw
 have e2:decide ((w:Int)%2=1)=wIsImm w:=by unfold wIsImm;rw [decide_eq_decide];omega
 simp [C160,regsOf,fin,iresult1,e,e2]
theorem c_Ptr (a:Nat) (ha:a<9223372036854775808):cal J okAll 167 #[.int .i64 a] H=some (.ret (.int .u64 (wPtr a:Nat)),H):=by
 rw [cal167 _ _ (by simp)]
 have e:IntKind.u64.wrap (IntKind.u64.wrap (a:Int)*2)=((wPtr a:Nat):Int):=by rw [wrapU,wrapU];unfold wPtr;omega
 have e2:=or_zero (wPtr a) (by unfold wPtr;omega)
 simp [C167,regsOf,fin,iresult1,e,e2]
theorem c_At (w:Nat) (hw:w<18446744073709551616):cal J okAll 163 #[.int .u64 w] H=some (.ret (.int .i64 (wAt w:Nat)),H):=by
 rw [cal163 _ _ (by simp)]
 have e:IntKind.i64.wrap ((w:Int).fdiv 2)=((wAt w:Nat):Int):=by
  rw [Int.fdiv_eq_ediv_of_nonneg _ (by decide),wrapI];unfold wAt;omega
 simp [C163,regsOf,fin,iresult1,e]
theorem fld (w k:Nat) (hw:w<18446744073709551616):andI .u64 ((w:Int) / (k:Int)) 1048575=((w / k%1048576:Nat):Int):=by
 have:=and_low (w / k) (Nat.lt_of_le_of_lt (Nat.div_le_self _ _) hw)
 rw [Int.natCast_ediv] at this
 exact this
theorem fld1 (w k:Nat) (hw:w<18446744073709551616):andI .u64 ((w:Int) / (k:Int)) 1=((w / k%2:Nat):Int):=by
 have:=and_one (w / k) (Nat.lt_of_le_of_lt (Nat.div_le_self _ _) hw)
 rw [Int.natCast_ediv] at this
 exact this
theorem wrap_small (n:Nat) (h:n<9223372036854775808):IntKind.i64.wrap (n:Int)=(n:Int):=by rw [wrapI];omega
theorem c_Shape (w:Nat) (hw:w<18446744073709551616):cal J okAll 204 #[.int .u64 w] H=some (.ret (.int .i64 (wShape w:Nat)),H):=by
 rw [cal204 _ _ (by simp)]
 have e:IntKind.i64.wrap (andI .u64 ((w:Int).fdiv 2) 1048575)=((wShape w:Nat):Int):=by
  rw [Int.fdiv_eq_ediv_of_nonneg _ (by decide)]
  rw [show andI .u64 ((w:Int) / 2) 1048575=_ from fld w 2 hw]
  exact wrap_small _ (by omega)
 simp [C204,regsOf,fin,iresult1,e]
theorem c_Len (w:Nat) (hw:w<18446744073709551616):cal J okAll 212 #[.int .u64 w] H=some (.ret (.int .i64 (wLen w:Nat)),H):=by
 rw [cal212 _ _ (by simp)]
 have e:IntKind.i64.wrap (andI .u64 ((w:Int).fdiv 2097152) 1048575)=((wLen w:Nat):Int):=by
  rw [Int.fdiv_eq_ediv_of_nonneg _ (by decide)]
  rw [show andI .u64 ((w:Int) / 2097152) 1048575=_ from fld w 2097152 hw]
  exact wrap_small _ (by omega)
 simp [C212,regsOf,fin,iresult1,e]
theorem c_Turned (w:Nat) (hw:w<18446744073709551616):cal J okAll 245 #[.int .u64 w] H=some (.ret (.int .i64 (wTurned w:Nat)),H):=by
 rw [cal245 _ _ (by simp)]
 have e:IntKind.i64.wrap (andI .u64 ((w:Int).fdiv 4398046511104) 1048575)=((wTurned w:Nat):Int):=by
  rw [Int.fdiv_eq_ediv_of_nonneg _ (by decide)]
  rw [show andI .u64 ((w:Int) / 4398046511104) 1048575=_ from fld w 4398046511104 hw]
  exact wrap_small _ (by omega)
 simp [C245,regsOf,fin,iresult1,e]
theorem c_Marked (w:Nat) (hw:w<18446744073709551616):cal J okAll 239 #[.int .u64 w] H=some (.ret (.bool (wMarked w)),H):=by
 rw [cal239 _ _ (by simp)]
 have e:andI .u64 ((w:Int).fdiv 2199023255552) 1=((w / 2199023255552%2:Nat):Int):=by
  rw [Int.fdiv_eq_ediv_of_nonneg _ (by decide)]
  exact fld1 w 2199023255552 hw
 have e2:decide (andI .u64 ((w:Int).fdiv 2199023255552) 1=1)=wMarked w:=by
  rw [e];unfold wMarked;rw [decide_eq_decide];omega
 simp [C239,regsOf,fin,iresult1,e2]
theorem low20 (n:Nat) (h:n<9223372036854775808):andI .u64 (IntKind.u64.wrap (n:Int)) 1048575=((n%1048576:Nat):Int):=by
 rw [wrapU_nat n (by omega)]
 exact and_low n (by omega)
theorem c_Head (s n:Nat) (hs:s<9223372036854775808) (hn:n<9223372036854775808):cal J okAll 224 #[.int .i64 s,.int .i64 n] H=some (.ret (.int .u64 (wHead s n:Nat)),H):=by
 rw [cal224 _ _ (by simp)]
 have a1:IntKind.u64.wrap (andI .u64 (IntKind.u64.wrap (s:Int)) 1048575*2)=(((s%1048576)*2:Nat):Int):=by rw [low20 s hs,wrapU];omega
 have a2:IntKind.u64.wrap (andI .u64 (IntKind.u64.wrap (n:Int)) 1048575*2097152)=(((n%1048576)*2^21:Nat):Int):=by rw [low20 n hn,wrapU];omega
 have a3:=or_addI' (n%1048576) ((s%1048576)*2) 21 (by omega) (by omega)
 have a4:=or_one (n%1048576*2^21+s%1048576*2) (by omega) (by omega)
 have a5:n%1048576*2^21+s%1048576*2+1=wHead s n:=by unfold wHead;omega
 rw [a5] at a4
 rw [←a3,←a1,←a2] at a4
 simp [C224,regsOf,fin,iresult1,a4]
theorem c_Turn (w k:Nat) (hw:w<18446744073709551616) (hk:k<9223372036854775808):cal J okAll 234 #[.int .u64 w,.int .i64 k] H=some (.ret (.int .u64 (wTurn w k:Nat)),H):=by
 rw [cal234 _ _ (by simp)]
 have a1:IntKind.u64.wrap (andI .u64 (IntKind.u64.wrap (k:Int)) 1048575*4398046511104)=(((k%1048576)*2^42:Nat):Int):=by rw [low20 k hk,wrapU];omega
 have a2:andnI .u64 (w:Int) 4611681620380876800=((w%2^42+2^62*(w / 2^62):Nat):Int):=by
  have:=andnI_nat w 4611681620380876800 hw (by omega)
  rw [show (18446744073709551615-4611681620380876800:Nat)=2^64-1-(2^20-1)*2^42 from rfl,mask_out w 42 20 hw (by omega)] at this
  exact this
 have e1:w%2^42+2^62*(w / 2^62)=(w / 2^62)*2^62+w%2^42:=by omega
 have a3:orI .u64 ((w%2^42+2^62*(w / 2^62):Nat):Int) (((k%1048576)*2^42:Nat):Int)=((wTurn w k:Nat):Int):=by
  rw [orI_nat _ _ (by omega) (by omega)]
  congr 1
  have h1:w%2^42+2^62*(w / 2^62)=(w / 2^62)*2^62 ||| w%2^42:=by rw [or_add _ _ _ (by omega)];omega
  have h2:(w / 2^62)*2^62 ||| w%2^42 ||| (k%1048576)*2^42=(w / 2^62)*2^62 ||| ((k%1048576)*2^42 ||| w%2^42):=by rw [Nat.or_assoc,Nat.or_comm (w%2^42)]
  rw [h1,h2,or_add (k%1048576) (w%2^42) 42 (by omega),or_add _ _ _ (by omega)]
  unfold wTurn
  omega
 rw [←a1,←a2] at a3
 simp [C234,regsOf,fin,iresult1,a3]
theorem c_Mark (w:Nat) (b:Bool) (hw:w<18446744073709551616):cal J okAll 235 #[.int .u64 w,.bool b] H=some (.ret (.int .u64 (wMark w b:Nat)),H):=by
 rw [cal235 _ _ (by simp)]
 have a2:andnI .u64 (w:Int) 2199023255552=((w%2^41+2^42*(w / 2^42):Nat):Int):=by
  have:=andnI_nat w 2199023255552 hw (by omega)
  rw [show (18446744073709551615-2199023255552:Nat)=2^64-1-(2^1-1)*2^41 from rfl,mask_out w 41 1 hw (by omega)] at this
  exact this
 cases b with
 |false=>
  have e:w%2^41+2^42*(w / 2^42)=wMark w false:=by unfold wMark;simp
  rw [e] at a2
  simp [C235,regsOf,fin,iresult1,a2]
 |true=>
  have a3:orI .u64 ((w%2^41+2^42*(w / 2^42):Nat):Int) 2199023255552=((wMark w true:Nat):Int):=by
   rw [show (2199023255552:Int)=((1*2^41:Nat):Int) from rfl,orI_nat _ _ (by omega) (by omega)]
   congr 1
   have h1:w%2^41+2^42*(w / 2^42)=(w / 2^42)*2^42 ||| w%2^41:=by rw [or_add _ _ _ (by omega)];omega
   rw [h1,Nat.or_assoc,Nat.or_comm (w%2^41),or_add 1 (w%2^41) 41 (by omega),or_add _ _ _ (by omega)]
   unfold wMark
   simp
   omega
  rw [←a2] at a3
  simp [C235,regsOf,fin,iresult1,a3]
end
theorem wWrap_wrap (n:Int):wWrap (IntKind.i64.wrap n)=wWrap n:=by rw [wrapI];unfold wWrap;omega
theorem wWrap_range (n:Int): -4611686018427387904≤wWrap n∧wWrap n≤4611686018427387903:=by unfold wWrap;omega
def wDiv (a b:Int):Option Int:=if b=0 then none else some (wWrap (a.fdiv b))
def wMod (a b:Int):Option Int:=if b=0 then none else some (wWrap (a.fmod b))
def pairV (r:Option Int):Value:=match r with
 |some n=>.tuple #[.int .i64 n,.bool true]
 |none=>.tuple #[.int .i64 0,.bool false]
theorem fdiv_tdiv (a b:Int) (hb:b≠0):a.fdiv b=if a.tmod b≠0∧(decide (a<0) !=decide (b<0))=true then a.tdiv b-1 else a.tdiv b:=by
 rw [Int.tdiv_eq_ediv,Int.fdiv_eq_ediv]
 by_cases hd:b ∣ a
 ·have:a.tmod b=0:=Int.dvd_iff_tmod_eq_zero.1 hd
  simp [hd,this]
 ·have:a.tmod b≠0:=fun h=>hd (Int.dvd_iff_tmod_eq_zero.2 h)
  rcases Int.lt_or_gt_of_ne hb with h|h
  ·have hs:b.sign= -1:=Int.sign_eq_neg_one_of_neg h
   by_cases ha:a<0
   ·simp [hd,this,h,ha,hs,show ¬0≤b by omega,show ¬0≤a by omega]
    omega
   ·simp [hd,this,h,ha,show ¬0≤b by omega,show 0≤a by omega]
  ·have hs:b.sign=1:=Int.sign_eq_one_of_pos h
   by_cases ha:a<0
   ·simp [hd,this,ha,hs,show 0≤b by omega,show ¬b<0 by omega,show ¬0≤a by omega]
   ·simp [hd,this,ha,show 0≤b by omega,show ¬b<0 by omega,show 0≤a by omega]
theorem fmod_tmod (a b:Int) (hb:b≠0):a.fmod b=if a.tmod b≠0∧(decide (a.tmod b<0) !=decide (b<0))=true then a.tmod b+b else a.tmod b:=by
 by_cases hd:b ∣ a
 ·have h1:a.tmod b=0:=Int.dvd_iff_tmod_eq_zero.1 hd
  have h2:a.fmod b=0:=by rw [Int.fmod_eq_emod,Int.dvd_iff_emod_eq_zero.1 hd];simp [hd]
  simp [h1,h2]
 ·have h0:a.tmod b≠0:=fun h=>hd (Int.dvd_iff_tmod_eq_zero.2 h)
  have e1:=Int.emod_nonneg a hb
  have e2:=Int.emod_lt a hb
  have e3:a%b≠0:=fun h=>hd (Int.dvd_iff_emod_eq_zero.2 h)
  have ht:a.tmod b=a%b-(if 0≤a then 0 else (b.natAbs:Int)):=by
   rw [Int.tmod_eq_emod]
   by_cases ha:0≤a<;>simp [ha,hd]
  have hf:a.fmod b=a%b+(if 0≤b then 0 else b):=by
   rw [Int.fmod_eq_emod]
   by_cases ha:0≤b<;>simp [ha,hd]
  rw [hf]
  simp only [ne_eq,h0,not_false_eq_true,true_and]
  rw [ht]
  rcases Int.lt_or_gt_of_ne hb with h|h
  ·have hab:(b.natAbs:Int)= -b:=by omega
   have hl:a%b< -b:=by omega
   by_cases ha:0≤a
   ·simp only [ha,if_true,show ¬0≤b by omega,if_false,h,decide_true,Int.sub_zero]
    rw [show decide (a%b<0)=false from decide_eq_false (by omega)]
    simp
   ·simp only [ha,if_false,show ¬0≤b by omega,h,decide_true,hab]
    rw [show decide (a%b- -b<0)=true from decide_eq_true (by omega)]
    simp
  ·have hab:(b.natAbs:Int)=b:=by omega
   have hl:a%b<b:=by omega
   by_cases ha:0≤a
   ·simp only [ha,if_true,show 0≤b by omega,show ¬b<0 by omega,decide_false,Int.sub_zero]
    rw [show decide (a%b<0)=false from decide_eq_false (by omega)]
    simp
   ·simp only [ha,if_false,show 0≤b by omega,if_true,show ¬b<0 by omega,decide_false,hab]
    rw [show decide (a%b-b<0)=true from decide_eq_true (by omega)]
    simp
section
variable (H:IH)
theorem c_Add (a b:Int):cal J okAll 24 #[.int .i64 a,.int .i64 b] H=some (.ret (.int .i64 (wWrap (a+b))),H):=by
 rw [cal24 _ _ (by simp)]
 simp [C24,regsOf,fin,iresult1,c_Wrap,wWrap_wrap]
theorem c_Sub (a b:Int):cal J okAll 25 #[.int .i64 a,.int .i64 b] H=some (.ret (.int .i64 (wWrap (a-b))),H):=by
 rw [cal25 _ _ (by simp)]
 simp [C25,regsOf,fin,iresult1,c_Wrap,wWrap_wrap]
theorem c_Mul (a b:Int):cal J okAll 26 #[.int .i64 a,.int .i64 b] H=some (.ret (.int .i64 (wWrap (a*b))),H):=by
 rw [cal26 _ _ (by simp)]
 simp [C26,regsOf,fin,iresult1,c_Wrap,wWrap_wrap]
theorem c_Div (a b:Int):cal J okAll 27 #[.int .i64 a,.int .i64 b] H=some (.ret (pairV (wDiv a b)),H):=by
 rw [cal27 _ _ (by simp)]
 by_cases hb:b=0
 ·subst hb
  simp [C27,regsOf,fin,iresult1,wDiv,pairV]
 ·have hq:=fdiv_tdiv a b hb
  have hbD:decide (b=0)=false:=decide_eq_false hb
  by_cases hm:a.tmod b=0
  ·have hmD:decide (a.tmod b=0)=true:=decide_eq_true hm
   simp [hm] at hq
   simp [C27,regsOf,fin,iresult1,wDiv,pairV,hb,hmD,c_Wrap,wWrap_wrap,hq]
  ·have hmD:decide (a.tmod b=0)=false:=decide_eq_false hm
   by_cases hs:(decide (a<0) !=decide (b<0))=true
   ·rw [if_pos ⟨hm,hs⟩] at hq
    have e:wWrap (IntKind.i64.wrap (IntKind.i64.wrap (a.tdiv b)-1))=wWrap (a.tdiv b-1):=by rw [wrapI,wrapI];unfold wWrap;omega
    simp [C27,regsOf,fin,iresult1,wDiv,pairV,hb,hmD,c_Wrap,e,hq,hs]
   ·rw [if_neg (fun h=>hs h.2)] at hq
    simp [C27,regsOf,fin,iresult1,wDiv,pairV,hb,hmD,c_Wrap,wWrap_wrap,hq,hs]
theorem c_Mod (a b:Int) (_h: -9223372036854775808≤a∧a≤9223372036854775807):cal J okAll 28 #[.int .i64 a,.int .i64 b] H=some (.ret (pairV (wMod a b)),H):=by
 rw [cal28 _ _ (by simp)]
 by_cases hb:b=0
 ·subst hb
  simp [C28,regsOf,fin,iresult1,wMod,pairV]
 ·have hq:=fmod_tmod a b hb
  have hbD:decide (b=0)=false:=decide_eq_false hb
  by_cases hm:a.tmod b=0
  ·have hmD:decide (a.tmod b=0)=true:=decide_eq_true hm
   simp [hm] at hq
   simp [C28,regsOf,fin,iresult1,wMod,pairV,hb,c_Wrap,hq,hm]
  ·have hmD:decide (a.tmod b=0)=false:=decide_eq_false hm
   by_cases hs:(decide (a.tmod b<0) !=decide (b<0))=true
   ·rw [if_pos ⟨hm,hs⟩] at hq
    simp [C28,regsOf,fin,iresult1,wMod,pairV,hb,hmD,c_Wrap,wWrap_wrap,hq,hs]
   ·rw [if_neg (fun h=>hs h.2)] at hq
    simp [C28,regsOf,fin,iresult1,wMod,pairV,hb,hmD,c_Wrap,hq,hs]
end
set_option maxHeartbeats 8000000
set_option linter.unusedSimpArgs false
def Fr (lo:Nat) (H H':IH):Prop:=H.next≤H'.next∧∀x,x<lo→H'.get x=H.get x
theorem Fr.refl (lo:Nat) (H:IH):Fr lo H H:=⟨Nat.le_refl _,fun _ _=>rfl⟩
theorem Fr.trans {lo:Nat} {H H' H'':IH} (h:Fr lo H H') (h':Fr lo H' H''):Fr lo H H'':=⟨Nat.le_trans h.1 h'.1,fun x hx=>(h'.2 x hx).trans (h.2 x hx)⟩
theorem Fr.push {lo:Nat} {H H':IH} (h:Fr lo H H') (hlo:lo≤H'.next) (x:Blk):Fr lo H (H'.push x):=⟨Nat.le_trans h.1 (by simp),fun y hy=>by rw [IH.get_push_other _ _ _ (by omega)];exact h.2 y hy⟩
structure Hp where
 ws:List Nat
 hd:List Nat
 ly:List (Int×Int)
 top:Nat
def u64c (l:List Nat):List Value:=l.map fun w:Nat=>.int .u64 (w:Int)
def lyc (l:List (Int×Int)):List Value:=l.flatMap fun p=>[.int .i64 p.1,.int .i64 p.2]
def Hp.kind (σ:Hp) (s:Nat):Int:=((σ.ly[s]?).map (·.1)).getD 0
def Hp.bit (σ:Hp) (a:Nat):Bool:=decide (((σ.hd[a / 64]?).getD 0) / 2^(a%64)%2=1)
def Hp.is (σ:Hp) (a:Nat):Bool:=decide (a<σ.top)&&σ.bit a
def Hp.w (σ:Hp) (a:Nat):Nat:=(σ.ws[a]?).getD 0
structure Hp.Ok (σ:Hp):Prop where
 ws:σ.ws.length≤65536
 hd:σ.hd.length=σ.ws.length / 64+1
 wlt:∀w∈σ.ws,w<18446744073709551616
 hlt:∀w∈σ.hd,w<18446744073709551616
 ly:σ.ly.length<1048576
 top:σ.top≤σ.ws.length
structure HpA where
 p:Nat
 wb:Nat
 hb:Nat
 lv:Value
def HpA.below (a:HpA) (lo:Nat):Prop:=a.p<lo∧a.wb<lo∧a.hb<lo∧∀lb l c,a.lv=.slice (some ⟨lb,0,none⟩) l c→lb<lo
theorem HpA.below.mono {a:HpA} {lo lo':Nat} (h:a.below lo) (hl:lo≤lo'):a.below lo':=⟨by have:=h.1;omega,by have:=h.2.1;omega,by have:=h.2.2.1;omega,fun lb l c e=>by have:=h.2.2.2 lb l c e;omega⟩
structure HpAt (H:IH) (a:HpA) (σ:Hp):Prop where
 obj:H.get a.p=some (.cells [.slice (some ⟨a.wb,0,none⟩) σ.ws.length σ.ws.length,.slice (some ⟨a.hb,0,none⟩) σ.hd.length σ.hd.length,a.lv,.int .i64 (σ.top:Int)] 171 false)
 ws:H.get a.wb=some (.cells (u64c σ.ws) 62 false)
 hd:H.get a.hb=some (.cells (u64c σ.hd) 62 false)
 ly:(a.lv=.slice none 0 0∧σ.ly= [])∨∃lb,a.lv=.slice (some ⟨lb,0,none⟩) σ.ly.length capU∧H.get lb=some (.cells (lyc σ.ly) 127 false)
 ok:σ.Ok
 lt:a.below H.next
 sep:a.wb≠a.hb
abbrev HpA.ptr (a:HpA):Value:=.pointer (some ⟨a.p,0,none⟩)
theorem u64c_get (l:List Nat) (i:Nat) (h:i<l.length):(u64c l)[i]?=some (.int .u64 (l[i]:Nat)):=by simp [u64c,h]
theorem u64c_len (l:List Nat):(u64c l).length=l.length:=by simp [u64c]
theorem lyc_len (l:List (Int×Int)):(lyc l).length=2*l.length:=by
 induction l with
 |nil=>rfl
 |cons p l ih=>simp only [lyc,List.flatMap_cons,List.length_append,List.length_cons,List.length_nil] at ih ⊢;omega
theorem lyc_get:∀(l:List (Int×Int)) (i:Nat) (h:i<l.length),(lyc l)[2*i]?=some (.int .i64 l[i].1)∧(lyc l)[2*i+1]?=some (.int .i64 l[i].2)
 |p::l,0,_=>by simp [lyc]
 |p::l,i+1,h=>by
  have:=lyc_get l i (by simpa using h)
  have e:lyc (p::l)= [.int .i64 p.1,.int .i64 p.2]++lyc l:=rfl
  rw [e,show 2*(i+1)=2*i+2 by omega]
  exact ⟨by rw [List.getElem?_append_right (by simp)];exact this.1,by rw [List.getElem?_append_right (by simp)];exact this.2⟩
theorem Hp.w_eq (σ:Hp) (i:Nat) (h:i<σ.ws.length):σ.ws[i]=σ.w i:=by simp [Hp.w,h]
section
variable {H:IH} {a:HpA} {σ:Hp}
theorem HpAt.mono (h:HpAt H a σ) {H':IH} (hn:H.next≤H'.next) (hp:H'.get a.p=H.get a.p) (hw:H'.get a.wb=H.get a.wb) (hh:H'.get a.hb=H.get a.hb) (hl:∀lb l c,a.lv=.slice (some ⟨lb,0,none⟩) l c→H'.get lb=H.get lb):HpAt H' a σ:=by
 refine ⟨by rw [hp];exact h.obj,by rw [hw];exact h.ws,by rw [hh];exact h.hd,?_,h.ok,h.lt.mono hn,h.sep⟩
 rcases h.ly with h1|⟨lb,h1,h2⟩
 ·exact .inl h1
 ·exact .inr ⟨lb,h1,by rw [hl _ _ _ h1];exact h2⟩
theorem HpAt.fr (h:HpAt H a σ) {lo:Nat} (hlo:a.below lo) {H':IH} (f:Fr lo H H'):HpAt H' a σ:=
 h.mono f.1 (f.2 _ hlo.1) (f.2 _ hlo.2.1) (f.2 _ hlo.2.2.1) fun lb l c e=>f.2 _ (hlo.2.2.2 lb l c e)
theorem c_Size (h:HpAt H a σ):cal J okAll 207 #[a.ptr] H=some (.ret (.int .i64 (σ.ws.length:Int)),H):=by
 rw [cal207 _ _ (by simp)]
 simp [C207,regsOf,fin,iresult1,nilEq,fitsNil,h.obj]
theorem c_Top (h:HpAt H a σ):cal J okAll 208 #[a.ptr] H=some (.ret (.int .i64 (σ.top:Int)),H):=by
 rw [cal208 _ _ (by simp)]
 simp [C208,regsOf,fin,iresult1,nilEq,fitsNil,h.obj]
theorem c_Is (h:HpAt H a σ) (i:Int):cal J okAll 203 #[a.ptr,.int .i64 i] H=some (.ret (.bool (decide (0≤i)&&σ.is i.toNat)),H):=by
 rw [cal203 _ _ (by simp)]
 by_cases h0:0≤i
 ·obtain ⟨n,rfl⟩:∃n:Nat,i=n:=⟨i.toNat,by omega⟩
  by_cases h1:n<σ.top
  ·have hk:=h.ok
   obtain ⟨q,hq⟩:∃q,q=n / 64:=⟨_,rfl⟩
   obtain ⟨r,hr⟩:∃r,r=n%64:=⟨_,rfl⟩
   have hlt:q<σ.hd.length:=by have:=hk.top;have:=hk.hd;omega
   have e1:IntKind.i64.wrap ((n:Int) / 64)=(q:Int):=by rw [wrapI];have:=hk.top;have:=hk.ws;omega
   have e2:(n:Int)%64=(r:Int):=by omega
   have e2':(n:Int).tmod 64=(r:Int):=by rw [Int.tmod_eq_emod_of_nonneg (by omega)];omega
   have hm:min r 64=r:=by omega
   have hw:=hk.hlt _ (List.getElem_mem hlt)
   have hbit:σ.bit n=decide (σ.hd[q] / 2^r%2=1):=by unfold Hp.bit;rw [←hq,←hr];simp [hlt]
   have e3:decide (andI .u64 ((σ.hd[q]:Int).fdiv (2^r)) 1=1)=σ.bit n:=by
    have:((σ.hd[q]:Int).fdiv (2^r))=((σ.hd[q] / 2^r:Nat):Int):=by
     have:=fdiv_nat σ.hd[q] (2^r)
     rw [←this];simp
    rw [this,and_one _ (Nat.lt_of_le_of_lt (Nat.div_le_self _ _) hw),hbit,decide_eq_decide]
    omega
   have hc:=u64c_get σ.hd q hlt
   have hD:decide ((n:Int)<σ.top)=true:=decide_eq_true (by omega)
   have hD0:decide ((0:Int)≤(n:Int))=true:=decide_eq_true (by omega)
   simp [C203,regsOf,fin,iresult1,nilEq,fitsNil,h.obj,h.hd,iindexAddr,e1,e2,e2',e3,hm,hlt,hc,hD,hD0,Hp.is,h1]
  ·have hD:decide ((n:Int)<σ.top)=false:=decide_eq_false (by omega)
   have hD0:decide ((0:Int)≤(n:Int))=true:=decide_eq_true (by omega)
   simp [C203,regsOf,fin,iresult1,nilEq,fitsNil,h.obj,hD,hD0,Hp.is,h1]
 ·have hD0:decide (0≤i)=false:=decide_eq_false h0
  simp [C203,regsOf,fin,iresult1,nilEq,fitsNil,h.obj,hD0]
end
section
variable {H:IH} {a:HpA} {σ:Hp}
def Hp.kindI (σ:Hp) (s:Int):Int:=if 0≤s∧s<σ.ly.length then σ.kind s.toNat else 0
theorem HpAt.lyS (h:HpAt H a σ):∃b c,a.lv=.slice b σ.ly.length c∧(0<σ.ly.length→∃lb,b=some ⟨lb,0,none⟩∧H.get lb=some (.cells (lyc σ.ly) 127 false)):=by
 rcases h.ly with ⟨h1,h2⟩|⟨lb,h1,h2⟩
 ·exact ⟨none,0,by rw [h1,h2];rfl,fun h=>by rw [h2] at h;simp at h⟩
 ·exact ⟨_,_,h1,fun _=>⟨lb,rfl,h2⟩⟩
theorem Hp.kind_eq (σ:Hp) (n:Nat) (h:n<σ.ly.length):σ.ly[n].1=σ.kind n:=by simp [Hp.kind,h]
theorem c_Kind (h:HpAt H a σ) (s:Int):cal J okAll 108 #[a.ptr,.int .i64 s] H=some (.ret (.int .i64 (σ.kindI s)),H):=by
 rw [cal108 _ _ (by simp)]
 obtain ⟨b,c,e,hl⟩:=h.lyS
 have ho:=h.obj
 rw [e] at ho
 by_cases h0:0≤s
 ·obtain ⟨n,rfl⟩:∃n:Nat,s=n:=⟨s.toNat,by omega⟩
  have hD0:decide ((n:Int)<0)=false:=decide_eq_false (by omega)
  by_cases h1:n<σ.ly.length
  ·obtain ⟨lb,rfl,hg⟩:=hl (by omega)
   have hD:¬σ.ly.length≤n:=by omega
   have hc:=(lyc_get σ.ly n h1).1
   rw [Nat.mul_comm] at hc
   have hk:σ.kindI n=σ.ly[n].1:=by unfold Hp.kindI;rw [if_pos (by omega)];exact (σ.kind_eq n h1).symm
   simp [C108,regsOf,fin,iresult1,nilEq,fitsNil,ho,hg,iindexAddr,hD,hD0,h1,hc,hk]
  ·have hD:σ.ly.length≤n:=by omega
   have hk:σ.kindI n=0:=by unfold Hp.kindI;rw [if_neg (by omega)]
   simp [C108,regsOf,fin,iresult1,nilEq,fitsNil,ho,hD,hD0,hk]
 ·have hD0:decide (s<0)=true:=decide_eq_true (by omega)
  have hk:σ.kindI s=0:=by unfold Hp.kindI;rw [if_neg (by omega)]
  simp [C108,regsOf,fin,iresult1,nilEq,fitsNil,ho,hD0,hk]
theorem Hp.is_lt {n:Nat} (h:HpAt H a σ) (hi:σ.is n=true):n<σ.ws.length:=by
 unfold Hp.is at hi
 simp only [Bool.and_eq_true,decide_eq_true_eq] at hi
 have:=h.ok.top;omega
theorem HpAt.wlt (h:HpAt H a σ) (n:Nat):σ.w n<18446744073709551616:=by
 unfold Hp.w
 by_cases hn:n<σ.ws.length
 ·simp only [List.getElem?_eq_getElem hn,Option.getD_some]
  exact h.ok.wlt _ (List.getElem_mem hn)
 ·rw [List.getElem?_eq_none (by omega)];decide
theorem HpAt.cell (_h:HpAt H a σ) (n:Nat) (hn:n<σ.ws.length):(u64c σ.ws)[n]?=some (.int .u64 (σ.w n:Nat)):=by rw [u64c_get _ _ hn,σ.w_eq n hn]
theorem c_HShape (h:HpAt H a σ) (s:Int):cal J okAll 162 #[a.ptr,.int .i64 s] H=some (.ret (if 0≤s∧σ.is s.toNat=true then .tuple #[.int .i64 (wShape (σ.w s.toNat):Nat),.int .i64 0] else .tuple #[.int .i64 0,.int .i64 1]),H):=by
 rw [cal162 _ _ (by simp)]
 have hi:=c_Is h s
 by_cases h0:0≤s∧σ.is s.toNat=true
 ·obtain ⟨n,rfl⟩:∃n:Nat,s=n:=⟨s.toNat,by omega⟩
  have hb:(decide ((0:Int)≤(n:Int))&&σ.is (n:Int).toNat)=true:=by simp [h0.1];exact h0.2
  have hn:=σ.is_lt h h0.2
  rw [hb] at hi
  rw [if_pos h0]
  have hn':n<σ.ws.length:=by simpa using hn
  have hw:=c_Shape H (σ.w n) (h.wlt n)
  have hc:=h.cell n hn'
  simp [C162,regsOf,fin,iresult1,hi,h.obj,h.ws,iindexAddr,hn',hc,hw]
 ·have hb:(decide (0≤s)&&σ.is s.toNat)=false:=by
   rw [Bool.and_eq_false_iff]
   by_cases h1:0≤s
   ·right;simpa using fun h2=>h0 ⟨h1,h2⟩
   ·left;simp [h1]
  rw [hb] at hi
  rw [if_neg h0]
  simp [C162,regsOf,fin,iresult1,hi]
theorem c_HLen (h:HpAt H a σ) (s:Int):cal J okAll 211 #[a.ptr,.int .i64 s] H=some (.ret (if 0≤s∧σ.is s.toNat=true then .tuple #[.int .i64 (wLen (σ.w s.toNat):Nat),.int .i64 0] else .tuple #[.int .i64 0,.int .i64 1]),H):=by
 rw [cal211 _ _ (by simp)]
 have hi:=c_Is h s
 by_cases h0:0≤s∧σ.is s.toNat=true
 ·obtain ⟨n,rfl⟩:∃n:Nat,s=n:=⟨s.toNat,by omega⟩
  have hb:(decide ((0:Int)≤(n:Int))&&σ.is (n:Int).toNat)=true:=by simp [h0.1];exact h0.2
  have hn:=σ.is_lt h h0.2
  rw [hb] at hi
  rw [if_pos h0]
  have hn':n<σ.ws.length:=by simpa using hn
  have hw:=c_Len H (σ.w n) (h.wlt n)
  have hc:=h.cell n hn'
  simp [C211,regsOf,fin,iresult1,hi,h.obj,h.ws,iindexAddr,hn',hc,hw]
 ·have hb:(decide (0≤s)&&σ.is s.toNat)=false:=by
   rw [Bool.and_eq_false_iff]
   by_cases h1:0≤s
   ·right;simpa using fun h2=>h0 ⟨h1,h2⟩
   ·left;simp [h1]
  rw [hb] at hi
  rw [if_neg h0]
  simp [C211,regsOf,fin,iresult1,hi]
def Hp.fits (σ:Hp) (w:Nat):Bool:=wIsImm w||σ.is (wAt w)
theorem c_Fits (h:HpAt H a σ) (w:Nat) (hw:w<18446744073709551616):cal J okAll 214 #[a.ptr,.int .u64 w] H=some (.ret (.bool (σ.fits w)),H):=by
 rw [cal214 _ _ (by simp)]
 have h1:=c_IsImm H w hw
 unfold Hp.fits
 cases hi:wIsImm w with
 |true=>
  rw [hi] at h1
  simp [C214,regsOf,fin,iresult1,nilEq,fitsNil,h.obj,h1]
 |false=>
  rw [hi] at h1
  have h2:=c_At H w hw
  have h3:=c_Is h (wAt w:Nat)
  have e:(decide ((0:Int)≤((wAt w:Nat):Int))&&σ.is (((wAt w:Nat):Int)).toNat)=σ.is (wAt w):=by simp
  rw [e] at h3
  simp [C214,regsOf,fin,iresult1,nilEq,fitsNil,h.obj,h1,h2,h3]
theorem c_Load (h:HpAt H a σ) (n:Int):cal J okAll 243 #[a.ptr,.int .i64 n] H=some (.ret (.int .u64 ((if 0≤n then σ.w n.toNat else 0:Nat):Int)),H):=by
 rw [cal243 _ _ (by simp)]
 have hs:=c_Size h
 by_cases h0:0≤n
 ·obtain ⟨m,rfl⟩:∃m:Nat,n=m:=⟨n.toNat,by omega⟩
  have hD0:decide ((m:Int)<0)=false:=decide_eq_false (by omega)
  by_cases h1:m<σ.ws.length
  ·have hD:¬σ.ws.length≤m:=by omega
   have hc:=h.cell m h1
   simp [C243,regsOf,fin,iresult1,hs,hD0,hD,h.obj,h.ws,iindexAddr,h1,hc]
  ·have hD:σ.ws.length≤m:=by omega
   have hz:σ.w m=0:=by unfold Hp.w;rw [List.getElem?_eq_none (by omega)];rfl
   simp [C243,regsOf,fin,iresult1,hs,hD0,hD,hz]
 ·have hD0:decide (n<0)=true:=decide_eq_true (by omega)
  simp [C243,regsOf,fin,iresult1,hD0,h0]
end
def Hp.need (σ:Hp) (s n:Int):Int×Int:=
 if 0≤s∧s<σ.ly.length∧0≤n then
  if σ.kind s.toNat=1∧n≠((σ.ly[s.toNat]?).map (·.2)).getD 0 then (0,1)
  else if 65536<n then (0,2)
  else if σ.kind s.toNat=3 then (1+(n+7) / 8,0)
  else (1+n,0)
 else (0,1)
theorem Fr.set {lo:Nat} {H H':IH} (h:Fr lo H H') {b:Nat} (hlo:lo≤b) (x:Blk):Fr lo H (H'.set b x):=⟨by simpa using h.1,fun y hy=>by rw [IH.get_set,if_neg (by omega)];exact h.2 y hy⟩
section
variable {H:IH} {a:HpA} {σ:Hp}
theorem c_Need (h:HpAt H a σ) (s n:Int) (hn:n≤9223372036854775000):∃H',Fr H.next H H'∧cal J okAll 205 #[a.ptr,.int .i64 s,.int .i64 n] H=some (.ret (.tuple #[.int .i64 (σ.need s n).1,.int .i64 (σ.need s n).2]),H'):=by
 rw [cal205 _ _ (by simp)]
 obtain ⟨b,c,e,hl⟩:=h.lyS
 have ho:=h.obj
 rw [e] at ho
 by_cases h0:0≤s
 ·obtain ⟨m,rfl⟩:∃m:Nat,s=m:=⟨s.toNat,by omega⟩
  have hD0:decide ((m:Int)<0)=false:=decide_eq_false (by omega)
  by_cases h1:m<σ.ly.length
  ·obtain ⟨lb,rfl,hg⟩:=hl (by omega)
   have hD:¬σ.ly.length≤m:=by omega
   by_cases h2:0≤n
   ·have hD2:decide (n<0)=false:=decide_eq_false (by omega)
    have hc:=lyc_get σ.ly m h1
    have hcs:cellsOf (some (.cells (lyc σ.ly) 127 false)) (m*2) 2=some [.int .i64 σ.ly[m].1,.int .i64 σ.ly[m].2]:=by
     rw [cellsOf_cells,if_pos (by rw [lyc_len];omega)]
     congr 1
     apply List.ext_getElem?
     intro i
     rw [List.getElem?_take,List.getElem?_drop,Nat.mul_comm]
     match i with
     |0=>simpa using hc.1
     |1=>simpa using hc.2
     |i+2=>simp;omega
    have hneed:σ.need m n=if σ.ly[m].1=1∧n≠σ.ly[m].2 then (0,1) else if 65536<n then (0,2) else if σ.ly[m].1=3 then (1+(n+7) / 8,0) else (1+n,0):=by
     unfold Hp.need Hp.kind
     rw [if_pos ⟨by omega,by omega,h2⟩]
     simp only [Int.toNat_natCast,List.getElem?_eq_getElem h1,Option.map_some,Option.getD_some]
    rw [hneed]
    have hF:=((Fr.refl H.next H).push (Nat.le_refl _) (.cells [.int .i64 0,.int .i64 0] 127 false)).set (b:=H.next) (Nat.le_refl _) (.cells [.int .i64 σ.ly[m].1,.int .i64 σ.ly[m].2] 127 false)
    refine ⟨_,hF,?_⟩
    generalize σ.ly[m]=l at*
    obtain ⟨k,N⟩:=l
    dsimp only at*
    by_cases k1:k=1∧n≠N
    ·obtain ⟨k1,k2⟩:=k1
     have k1D:decide (k=1)=true:=decide_eq_true k1
     have k2D:decide (n=N)=false:=decide_eq_false k2
     rw [if_pos ⟨k1,k2⟩]
     simp [C205,regsOf,fin,iresult1,nilEq,fitsNil,ho,hg,iindexAddr,hD,hD0,hD2,h1,hcs,k1D,k2D,inew,istore,Value.cells,plain1,overlay,IH.get_push,IH.get_set,loadT_agg]
    ·rw [if_neg k1]
     have hk:(decide (k=1)=true∧decide (n=N)=true)∨(decide (k=1)=false∧True):=by
      by_cases k2:k=1
      ·exact .inl ⟨decide_eq_true k2,decide_eq_true (Classical.byContradiction fun k3=>k1 ⟨k2,k3⟩)⟩
      ·exact .inr ⟨decide_eq_false k2,trivial⟩
     by_cases k3:65536<n
     ·have k3D:decide (65536<n)=true:=decide_eq_true k3
      rw [if_pos k3]
      rcases hk with ⟨k1D,k2D⟩|⟨k1D,k2D⟩<;>simp [C205,regsOf,fin,iresult1,nilEq,fitsNil,ho,hg,iindexAddr,hD,hD0,hD2,h1,hcs,k1D,k2D,k3D,inew,istore,Value.cells,plain1,overlay,IH.get_push,IH.get_set,loadT_agg]
     ·have k3D:decide (65536<n)=false:=decide_eq_false k3
      rw [if_neg k3]
      have w1:IntKind.i64.wrap (n+7)=n+7:=by rw [wrapI];omega
      have w2:IntKind.i64.wrap ((n+7).tdiv 8)=(n+7) / 8:=by rw [Int.tdiv_eq_ediv_of_nonneg (by omega)];rw [wrapI];omega
      have w3:IntKind.i64.wrap (1+(n+7) / 8)=1+(n+7) / 8:=by rw [wrapI];omega
      have w4:IntKind.i64.wrap (1+n)=1+n:=by rw [wrapI];omega
      by_cases k4:k=3
      ·have k4D:decide (k=3)=true:=decide_eq_true k4
       rw [if_pos k4]
       rcases hk with ⟨k1D,k2D⟩|⟨k1D,k2D⟩<;>simp [C205,regsOf,fin,iresult1,nilEq,fitsNil,ho,hg,iindexAddr,hD,hD0,hD2,h1,hcs,k1D,k2D,k3D,k4D,w1,w2,w3,inew,istore,Value.cells,plain1,overlay,IH.get_push,IH.get_set,loadT_agg]
      ·have k4D:decide (k=3)=false:=decide_eq_false k4
       rw [if_neg k4]
       rcases hk with ⟨k1D,k2D⟩|⟨k1D,k2D⟩<;>simp [C205,regsOf,fin,iresult1,nilEq,fitsNil,ho,hg,iindexAddr,hD,hD0,hD2,h1,hcs,k1D,k2D,k3D,k4D,w4,inew,istore,Value.cells,plain1,overlay,IH.get_push,IH.get_set,loadT_agg]
   ·have hD2:decide (n<0)=true:=decide_eq_true (by omega)
    refine ⟨H,Fr.refl _ _,?_⟩
    have hneed:σ.need m n=(0,1):=by unfold Hp.need;rw [if_neg (by omega)]
    rw [hneed]
    simp [C205,regsOf,fin,iresult1,nilEq,fitsNil,ho,hD,hD0,hD2]
  ·have hD:σ.ly.length≤m:=by omega
   refine ⟨H,Fr.refl _ _,?_⟩
   have hneed:σ.need m n=(0,1):=by unfold Hp.need;rw [if_neg (by omega)]
   rw [hneed]
   simp [C205,regsOf,fin,iresult1,nilEq,fitsNil,ho,hD,hD0]
 ·have hD0:decide (s<0)=true:=decide_eq_true (by omega)
  refine ⟨H,Fr.refl _ _,?_⟩
  have hneed:σ.need s n=(0,1):=by unfold Hp.need;rw [if_neg (by omega)]
  rw [hneed]
  simp [C205,regsOf,fin,iresult1,nilEq,fitsNil,ho,hD0]
end
@[simp] theorem veq_int (k:IntKind) (a:Int):veq 8 (.int k a) (.int k a)=true:=by simp [veq]
@[simp] theorem veq_ptr (a:Option Addr):veq 8 (.pointer a) (.pointer a)=true:=by simp [veq]
@[simp] theorem veq_slice (a:Option Addr) (l c:Nat):veq 8 (.slice a l c) (.slice a l c)=true:=by simp [veq]
@[simp] theorem veq_string (a:ByteArray):veq 8 (.string a) (.string a)=true:=by simp [veq]
theorem pendAdd_congr {J:Env} {P P':Pend} (h:∀k H,pendOk J P k H=pendOk J P' k H) (a:Ann) (T:Regs) (v:Value):∀k H,pendOk J (pendAdd a T v P) k H=pendOk J (pendAdd a T v P') k H:=by
 intro k H
 unfold pendAdd
 split
 ·exact h k H
 ·rw [pendOk_cons,pendOk_cons,h]
theorem eRun_congr {J:Env} {call:CallR} {ops:Array Oper}:∀(r:List Ann) (T:Regs) (H:IH) (k:Nat) (P P':Pend),(∀k H,pendOk J P k H=pendOk J P' k H)→eRun J call ops r T H k P=eRun J call ops r T H k P'
 | [],_,_,_,_,_,_=>rfl
 |a::r,T,H,k,P,P',h=>by
  simp only [eRun]
  split
  ·split
   ·split
    ·rw [h,eRun_congr r _ _ _ P P' h]
    ·exact eRun_congr r _ _ _ _ _ (pendAdd_congr h a T _)
   ·rfl
   ·rfl
  ·split
   ·rw [h,eRun_congr r _ _ _ P P' h]
   ·exact eRun_congr r _ _ _ P P' h
@[simp high] theorem eRes_late_load (J:Env) (call:CallR) (ops:Array Oper) (T:Regs) (H:IH) (k:Nat) (P:Pend) (dst:Option Tmp) (t:TypeId) (x:Operand) (ty:TypeId) (pos:String) (af:Array Edge) (g:Option (Nat×Bool)) (p:Bool) (s:Nat) (st:List Nat) (r:List Ann) (v:Value):
  eRes J call ops ⟨⟨dst,.load t x,ty,pos,af,g⟩,false,p,s::st⟩ r T k P (some (.ret v,H))=eRun J call ops r (putR T dst v) H k ((⟨none,.load t (.const (iev T x)),0,"",#[],none⟩,.leaf,v,s::st)::P):=by
 rw [eRes_late]
 refine eRun_congr r _ _ _ _ _ fun k H=>?_
 rw [pendOk_cons,pendOk_cons]
 rfl
def Hp.has (σ:Hp) (s i:Int) (b:Bool):Bool:=decide (0≤s)&&σ.is s.toNat&&(decide (σ.kind (wShape (σ.w s.toNat))=3)==b)&&decide (0≤i)&&decide (i<wLen (σ.w s.toNat))
def Hp.Shapes (σ:Hp):Prop:=∀n,σ.is n=true→wShape (σ.w n)<σ.ly.length
def Hp.Fit (σ:Hp):Prop:=∀n,σ.is n=true→n+1+(if σ.kind (wShape (σ.w n))=3 then (wLen (σ.w n)+7) / 8 else wLen (σ.w n))≤σ.top
section
variable {H:IH} {a:HpA} {σ:Hp}
theorem c_has (h:HpAt H a σ) (hs:σ.Shapes) (s i:Int) (b:Bool):cal J okAll 210 #[a.ptr,.int .i64 s,.int .i64 i,.bool b] H=some (.ret (.bool (σ.has s i b)),H):=by
 rw [cal210 _ _ (by simp)]
 have hi:=c_Is h s
 by_cases h0:0≤s∧σ.is s.toNat=true
 ·obtain ⟨n,rfl⟩:∃n:Nat,s=n:=⟨s.toNat,by omega⟩
  have hb:(decide ((0:Int)≤(n:Int))&&σ.is (n:Int).toNat)=true:=by simp [h0.1];exact h0.2
  have hn:=σ.is_lt h h0.2
  have his:σ.is n=true:=by simpa using h0.2
  rw [hb] at hi
  have hn':n<σ.ws.length:=by simpa using hn
  have hw:=c_Shape H (σ.w n) (h.wlt n)
  have hw2:=c_Len H (σ.w n) (h.wlt n)
  have hc:=h.cell n hn'
  obtain ⟨lb0,c,e,hl⟩:=h.lyS
  have ho:=h.obj
  rw [e] at ho
  have hsl:=hs n his
  obtain ⟨lb,rfl,hg⟩:=hl (by omega)
  have hk:=(lyc_get σ.ly _ hsl).1
  rw [Nat.mul_comm,σ.kind_eq _ hsl] at hk
  have hhas:σ.has n i b=((decide (σ.kind (wShape (σ.w n))=3)==b)&&decide (0≤i)&&decide (i<wLen (σ.w n))):=by
   unfold Hp.has;rw [hb];simp
  rw [hhas]
  cases hk3:(decide (σ.kind (wShape (σ.w n))=3)==b) with
  |false=>simp [C210,regsOf,fin,iresult1,hi,ho,h.ws,hg,iindexAddr,hn',hc,hw,hw2,hsl,hk,hk3]
  |true=>
   cases hi0:decide (0≤i)<;>simp [C210,regsOf,fin,iresult1,hi,ho,h.ws,hg,iindexAddr,hn',hc,hw,hw2,hsl,hk,hk3,hi0]
 ·have hb:(decide (0≤s)&&σ.is s.toNat)=false:=by
   rw [Bool.and_eq_false_iff]
   by_cases h1:0≤s
   ·right;simpa using fun h2=>h0 ⟨h1,h2⟩
   ·left;simp [h1]
  rw [hb] at hi
  have hhas:σ.has s i b=false:=by unfold Hp.has;rw [hb];simp
  rw [hhas]
  simp [C210,regsOf,fin,iresult1,hi]
end
section
variable {H:IH} {a:HpA} {σ:Hp}
theorem Hp.has_nat {s i:Int} {b:Bool} (h:σ.has s i b=true):∃n k:Nat,s=n∧i=k∧σ.is n=true∧(decide (σ.kind (wShape (σ.w n))=3)==b)=true∧k<wLen (σ.w n):=by
 unfold Hp.has at h
 simp only [Bool.and_eq_true,decide_eq_true_eq] at h
 obtain ⟨⟨⟨⟨h1,h2⟩,h3⟩,h4⟩,h5⟩:=h
 obtain ⟨n,rfl⟩:∃n:Nat,s=n:=⟨s.toNat,by omega⟩
 obtain ⟨k,rfl⟩:∃k:Nat,i=k:=⟨i.toNat,by omega⟩
 exact ⟨n,k,rfl,rfl,by simpa using h2,by simpa using h3,by simpa using h5⟩
def Hp.get (σ:Hp) (s i:Int):Nat×Int:=if σ.has s i false=true then (σ.w (s.toNat+1+i.toNat),0) else (0,1)
end
section
variable {H:IH} {a:HpA} {σ:Hp}
def Hp.setW (σ:Hp) (i w:Nat):Hp:={ σ with ws:=σ.ws.set i w }
theorem u64c_set (l:List Nat) (i w:Nat):(u64c l).set i (.int .u64 (w:Nat))=u64c (l.set i w):=by simp [u64c,List.map_set]
theorem HpAt.ne1 (h:HpAt H a σ):a.p≠a.wb:=fun e=>by have h1:=h.obj;rw [e,h.ws] at h1;simp at h1
theorem HpAt.ne2 (h:HpAt H a σ):a.p≠a.hb:=fun e=>by have h1:=h.obj;rw [e,h.hd] at h1;simp at h1
theorem HpAt.ne3 (h:HpAt H a σ) {lb l c:Nat} (hl:a.lv=.slice (some ⟨lb,0,none⟩) l c):lb≠a.wb∧lb≠a.hb∧lb≠a.p:=by
 rcases h.ly with ⟨h1,_⟩|⟨lb',h1,h2⟩
 ·rw [h1] at hl;simp at hl
 ·rw [h1] at hl
  simp only [Value.slice.injEq,Option.some.injEq,Addr.mk.injEq,and_true] at hl
  obtain ⟨rfl,_⟩:=hl
  refine ⟨fun e=>?_,fun e=>?_,fun e=>?_⟩
  ·rw [e,h.ws] at h2;simp at h2
  ·rw [e,h.hd] at h2;simp at h2
  ·rw [e,h.obj] at h2;simp at h2
theorem HpAt.setW (h:HpAt H a σ) {i w:Nat} (hw:w<18446744073709551616):HpAt (H.set a.wb (.cells (u64c (σ.ws.set i w)) 62 false)) a (σ.setW i w):=by
 have hk:=h.ok
 refine ⟨?_,?_,?_,?_,⟨by simpa [Hp.setW] using hk.ws,by simpa [Hp.setW] using hk.hd,fun x hx=>?_,hk.hlt,hk.ly,by simpa [Hp.setW] using hk.top⟩,by simpa using h.lt,h.sep⟩
 ·rw [IH.get_set,if_neg h.ne1,h.obj];simp [Hp.setW]
 ·rw [IH.get_set,if_pos rfl];rfl
 ·rw [IH.get_set,if_neg (Ne.symm h.sep),h.hd];rfl
 ·rcases h.ly with h1|⟨lb,h1,h2⟩
  ·exact .inl h1
  ·exact .inr ⟨lb,h1,by rw [IH.get_set,if_neg (h.ne3 h1).1];exact h2⟩
 ·rcases List.mem_or_eq_of_mem_set hx with h1|h1
  ·exact hk.wlt x h1
  ·rw [h1];exact hw
end
section
variable {H:IH} {a:HpA} {σ:Hp}
theorem u64c_put (l:List Nat) (i w:Nat) (h:i<l.length):List.take i (u64c l)++Value.int .u64 (w:Nat)::List.drop (i+1) (u64c l)=u64c (l.set i w):=by
 rw [←u64c_set,List.set_eq_take_append_cons_drop,if_pos (by rw [u64c_len];exact h)]
theorem c_Store (h:HpAt H a σ) (i w:Nat):cal J okAll 242 #[a.ptr,.int .i64 i,.int .u64 w] H=some (.ret (.tuple #[]),if i<σ.ws.length then H.set a.wb (.cells (u64c (σ.ws.set i w)) 62 false) else H):=by
 rw [cal242 _ _ (by simp)]
 have hs:=c_Size h
 have hD0:decide ((0:Int)≤(i:Int))=true:=decide_eq_true (by omega)
 by_cases h1:i<σ.ws.length
 ·rw [if_pos h1]
  have h2:i+1≤σ.ws.length:=h1
  simp [C242,regsOf,fin,iresult1,hs,hD0,h1,h2,h.obj,h.ws,iindexAddr,istore,Value.cells,plain1,overlay,u64c_len,u64c_put]
 ·rw [if_neg h1]
  simp [C242,regsOf,fin,iresult1,hs,hD0,h1]
end
section
variable {H:IH} {a:HpA} {σ:Hp}
def Hp.byteAt (σ:Hp) (n k:Nat):Nat:=σ.w (n+1+k / 8) / 2^(k%8*8)%256
def Hp.byte (σ:Hp) (s i:Int):Nat×Int:=if σ.has s i true=true then (σ.byteAt s.toNat i.toNat,0) else (0,1)
theorem c_Byte (h:HpAt H a σ) (hs:σ.Shapes) (hf:σ.Fit) (s i:Int):cal J okAll 169 #[a.ptr,.int .i64 s,.int .i64 i] H=some (.ret (.tuple #[.int .u8 ((σ.byte s i).1:Nat),.int .i64 (σ.byte s i).2]),H):=by
 rw [cal169 _ _ (by simp)]
 have hh:=c_has h hs s i true
 unfold Hp.byte
 by_cases hb:σ.has s i true=true
 ·rw [if_pos hb]
  rw [hb] at hh
  obtain ⟨n,k,rfl,rfl,h1,h2,h3⟩:=σ.has_nat hb
  have h4:=hf n h1
  have hk3:σ.kind (wShape (σ.w n))=3:=by simpa using h2
  rw [if_pos hk3] at h4
  have ht:=h.ok.top
  obtain ⟨q,hq⟩:∃q,q=k / 8:=⟨_,rfl⟩
  obtain ⟨r,hr⟩:∃r,r=k%8:=⟨_,rfl⟩
  have hlt:n+1+q<σ.ws.length:=by omega
  have hw:=h.ok.ws
  have e0:IntKind.i64.wrap ((k:Int) / 8)=(q:Int):=by rw [wrapI];omega
  have e1:IntKind.i64.wrap ((n:Int)+1)=(n:Int)+1:=by rw [wrapI];omega
  have e2:IntKind.i64.wrap ((n:Int)+1+q)=(n:Int)+1+q:=by rw [wrapI];omega
  have e3:((n:Int)+1+q).toNat=n+1+q:=by omega
  have e4:(0:Int)≤(n:Int)+1+q:=by omega
  have e5:(n:Int)+1+q<σ.ws.length:=by omega
  have e6:(k:Int).tmod 8=(r:Int):=by rw [Int.tmod_eq_emod_of_nonneg (by omega)];omega
  have e7:(k:Int)%8=(r:Int):=by omega
  obtain ⟨t,ht8⟩:∃t,t=r*8:=⟨_,rfl⟩
  have e8:IntKind.i64.wrap ((r:Int)*8)=(t:Int):=by rw [wrapI];omega
  have hm:min t 64=t:=by omega
  have hc:=h.cell _ hlt
  have hB:σ.byteAt n k=σ.w (n+1+q) / 2^t%256:=by unfold Hp.byteAt;rw [←hq,←hr,←ht8]
  have e9:IntKind.u8.wrap ((σ.w (n+1+q):Int).fdiv (2^t))=((σ.byteAt n k:Nat):Int):=by
   have e:=fdiv_nat (σ.w (n+1+q)) (2^t)
   have e':(((2^t:Nat)):Int)=(2:Int)^t:=by simp
   rw [e'] at e
   rw [e,hB]
   simp [IntKind.wrap,IntKind.bits,IntKind.signed]
  simp [C169,regsOf,fin,iresult1,hh,h.obj,h.ws,iindexAddr,e0,e1,e2,e3,e4,e5,e6,e7,e8,hm,e9,hlt,hc]
 ·rw [if_neg hb]
  simp only [Bool.not_eq_true] at hb
  rw [hb] at hh
  simp [C169,regsOf,fin,iresult1,hh]
end
theorem at_set_gt (T:Regs) (d t:Nat) (v:Value) (h:t<d):Regs.at (Tr.set T d v) t=T.at t:=by rw [at_set,if_neg (by omega)]
def Fx (l:List Nat) (H H':IH):Prop:=H.next≤H'.next∧∀x,x<H.next→x ∉ l→H'.get x=H.get x
theorem Fx.refl (l:List Nat) (H:IH):Fx l H H:=⟨Nat.le_refl _,fun _ _ _=>rfl⟩
theorem Fx.trans {l l':List Nat} {H H' H'':IH} (h:Fx l H H') (h':Fx l' H' H'') (hs:∀x∈l',x∈l∨H.next≤x):Fx l H H'':=
 ⟨Nat.le_trans h.1 h'.1,fun x hx hn=>(h'.2 x (Nat.lt_of_lt_of_le hx h.1) fun hm=>(hs x hm).elim hn (by omega)).trans (h.2 x hx hn)⟩
theorem Fx.of_fr {l:List Nat} {H H':IH} (h:Fr H.next H H'):Fx l H H':=⟨h.1,fun x hx _=>h.2 x hx⟩
theorem Fx.set {l:List Nat} {H H':IH} (h:Fx l H H') {b:Nat} (hb:b∈l∨H.next≤b) (x:Blk):Fx l H (H'.set b x):=
 ⟨by simpa using h.1,fun y hy hn=>by rw [IH.get_set,if_neg (fun e=>by subst e;exact hb.elim hn (by omega))];exact h.2 y hy hn⟩
theorem Fx.push {l:List Nat} {H H':IH} (h:Fx l H H') (x:Blk):Fx l H (H'.push x):=
 ⟨Nat.le_trans h.1 (by simp),fun y hy hn=>by rw [IH.get_push_other _ _ _ (by have:=h.1;omega)];exact h.2 y hy hn⟩
theorem Fx.mono {l l':List Nat} {H H':IH} (h:Fx l H H') (hs:∀x∈l,x∈l'∨H.next≤x):Fx l' H H':=⟨h.1,fun x hx hn=>h.2 x hx fun hm=>(hs x hm).elim hn (by omega)⟩
@[simp] theorem u64c_at (l:List Nat) (i:Nat) (h:i<(u64c l).length):(u64c l)[i]=.int .u64 ((l[i]'(by rw [u64c_len] at h;exact h):Nat):Int):=by simp [u64c]
theorem wHead_lt (s n:Nat):wHead s n<18446744073709551616:=by unfold wHead;omega
def bitOr (w r:Nat):Nat:=if w / 2^r%2=1 then w else w+2^r
theorem or_two_pow (w r:Nat):(w ||| 2^r)=bitOr w r:=by
 unfold bitOr
 obtain ⟨h,l,e,hl⟩:∃h l,w=2^r*h+l∧l<2^r:=⟨w / 2^r,w%2^r,(Nat.div_add_mod _ _).symm,Nat.mod_lt _ (Nat.two_pow_pos r)⟩
 have hq:w / 2^r=h:=by rw [e,Nat.mul_add_div (Nat.two_pow_pos r),Nat.div_eq_of_lt hl];omega
 have e2:2^r*h+l=2^r*h ||| l:=Nat.two_pow_add_eq_or_of_lt hl h
 have e3:(2^r:Nat) ||| l=2^r+l:=by have:=Nat.two_pow_add_eq_or_of_lt hl 1;simp at this;exact this.symm
 obtain ⟨g,hg⟩:∃g,h=2*g∨h=2*g+1:=⟨h / 2,by omega⟩
 have e5:(2^(r+1):Nat)=2^r*2:=Nat.pow_succ 2 r
 have e4:2^r*(2*g)+(2^r+l)=2^r*(2*g) ||| (2^r+l):=by
  have:=Nat.two_pow_add_eq_or_of_lt (i:=r+1) (b:=2^r+l) (by omega) g
  rw [e5,Nat.mul_assoc] at this
  exact this
 rw [hq]
 rcases hg with rfl|rfl
 ·rw [if_neg (by omega),e,e2,Nat.or_assoc,Nat.or_comm l,e3,←e4,←e2];omega
 ·rw [if_pos (by omega),e,Nat.mul_add,Nat.mul_one,Nat.add_assoc,e4,Nat.or_assoc]
  congr 1
  rw [←e3,Nat.or_assoc,Nat.or_comm l,←Nat.or_assoc,Nat.or_self]
theorem or_bit (w r:Nat) (hw:w<18446744073709551616) (hr:r<64):orI .u64 (w:Int) (IntKind.u64.wrap (2^r))=((bitOr w r:Nat):Int):=by
 have h1:(BitVec.ofInt 64 (w:Int)).toNat=w:=by rw [BitVec.toNat_ofInt];omega
 have hp:2^r<18446744073709551616:=Nat.lt_of_lt_of_le (Nat.pow_lt_pow_right (by omega) hr) (by decide)
 have h2:(BitVec.ofInt 64 (IntKind.u64.wrap (2^r))).toNat=2^r:=by
  have e:(2:Int)^r=((2^r:Nat):Int):=by simp
  rw [BitVec.toNat_ofInt,wrapU,e]
  generalize 2^r=m at hp
  omega
 have hl:=Nat.or_lt_two_pow (n:=64) hw hp
 have h3:(w ||| 2^r)=bitOr w r:=or_two_pow w r
 have e:orI .u64 (w:Int) (IntKind.u64.wrap (2^r))=IntKind.u64.wrap (((BitVec.ofInt 64 (w:Int) ||| BitVec.ofInt 64 (IntKind.u64.wrap (2^r))).toNat:Nat):Int):=rfl
 rw [e,BitVec.toNat_or,h1,h2,wrapU,h3]
 rw [h3] at hl
 omega
theorem bitOr_lt (w r:Nat) (hw:w<18446744073709551616) (hr:r<64):bitOr w r<18446744073709551616:=by
 rw [←or_two_pow]
 exact Nat.or_lt_two_pow (n:=64) hw (Nat.lt_of_lt_of_le (Nat.pow_lt_pow_right (by omega) hr) (by decide))
def fill (ws:List Nat) (a:Nat):Nat→List Nat
 |0=>ws
 |n+1=>(fill ws a n).set (a+1+n) 1
theorem fill_len (ws:List Nat) (a n:Nat):(fill ws a n).length=ws.length:=by
 induction n with
 |zero=>rfl
 |succ n ih=>simp [fill,ih]
def Hp.put (σ:Hp) (s n:Nat):Hp:=
 { σ with
  ws:=if σ.kind s=3 then σ.ws.set σ.top (wHead s n) else fill (σ.ws.set σ.top (wHead s n)) σ.top n
  hd:=σ.hd.set (σ.top / 64) (bitOr ((σ.hd[σ.top / 64]?).getD 0) (σ.top%64))
  top:=σ.top+(σ.need s n).1.toNat }
section
variable {H:IH} {a:HpA} {σ:Hp}
theorem loop209 (h0:HpAt H a σ) (at_ n:Nat) (hn:at_+1+n≤σ.ws.length) (K:Nat→Value) (k0:K 0=a.ptr) (k10:K 10=.int .i64 (at_:Int)):∀(d i:Nat) (T:Regs) (H':IH),i+d=n→
  HpAt H' a { σ with ws:=fill σ.ws at_ i }→Fx [a.wb] H H'→
  (∀t,t<11→T.at t=K t)→T.at 56=.int .i64 (n:Int)→T.at 57=.int .i64 (i:Int)→
  ∃T' H'',run J okAll (.loop L209_0) T H'=some (.exit 0,T',H'')∧HpAt H'' a { σ with ws:=fill σ.ws at_ n }∧Fx [a.wb] H H''∧(∀t,t<11→T'.at t=K t):=by
 intro d
 induction d with
 |zero=>
  intro i T H' hd hh hf hK t56 t57
  have t0:=(hK 0 (by omega)).trans k0
  have t10:=(hK 10 (by omega)).trans k10
  have hi:i=n:=by omega
  subst hi
  rw [r_loop]
  simp [L209_0,t0,t10,t56,t57]
  exact ⟨_,_,⟨rfl,rfl⟩,hh,hf,fun t ht=>by rw [at_set,if_neg (by omega)];exact hK t ht⟩
 |succ d ih=>
  intro i T H' hd hh hf hK t56 t57
  have t0:=(hK 0 (by omega)).trans k0
  have t10:=(hK 10 (by omega)).trans k10
  have hlt:i<n:=by omega
  have hw:IntKind.i64.wrap ((i:Int)+1)=((i+1:Nat):Int):=by rw [wrap64 _ (by have:=h0.ok.ws;omega) (by have:=h0.ok.ws;omega)];simp
  have hk:=h0.ok.ws
  have hlen:=fill_len σ.ws at_ i
  have e1:IntKind.i64.wrap ((at_:Int)+1)=(at_:Int)+1:=by rw [wrapI];omega
  have e2:IntKind.i64.wrap ((at_:Int)+1+i)=(at_:Int)+1+i:=by rw [wrapI];omega
  have e3:((at_:Int)+1+i).toNat=at_+1+i:=by omega
  have e4:(0:Int)≤(at_:Int)+1+i:=by omega
  have e5:(at_:Int)+1+i<σ.ws.length:=by omega
  have hlt2:at_+1+i<σ.ws.length:=by omega
  have hi:=c_Imm H' 0 (by omega)
  have hi1:((wImm 0:Nat):Int)=1:=rfl
  have hlt3:at_+1+i+1≤σ.ws.length:=by omega
  have e6:List.take (at_+1+i) (u64c (fill σ.ws at_ i))++Value.int .u64 1::List.drop (at_+1+i+1) (u64c (fill σ.ws at_ i))=u64c (fill σ.ws at_ (i+1)):=u64c_put _ _ 1 (by rw [hlen];omega)
  rw [r_loop]
  simp [L209_0,t0,t10,t56,t57,hlt,hh.obj,hh.ws,iindexAddr,e1,e2,e3,e4,e5,hlen,hlt2,hi,hi1,istore,Value.cells,plain1,overlay,u64c_len,hlt3,e6,hw]
  exact ih (i+1) _ _ (by omega) (hh.setW (i:=at_+1+i) (w:=1) (by decide)) (hf.set (.inl (by simp)) _) (fun t ht=>by simp (disch:=omega) only [at_set_gt];exact hK t ht) (by simp [t56]) (by simp)
theorem c_Alloc (h:HpAt H a σ) (s n k:Nat) (hn:n≤65536) (hk:σ.need s n=((k:Int),0)) (hr:k≤σ.ws.length-σ.top) (hk1:1≤k) (hsl:s<σ.ly.length) (hkk:σ.kind s≠3→k=1+n):
  ∃H',cal J okAll 209 #[a.ptr,.int .i64 s,.int .i64 n] H=some (.ret (.tuple #[.int .i64 (σ.top:Int),.int .i64 0]),H')∧HpAt H' a (σ.put s n)∧Fx [a.p,a.wb,a.hb] H H':=by
 rw [cal209 _ _ (by simp)]
 obtain ⟨H1,f1,e1⟩:=c_Need h s n (by omega)
 rw [hk] at e1
 have h1:=h.fr h.lt f1
 have ho:=h1.obj
 have hok:=h.ok
 have hH:=c_Head H1 s n (by have:=hok.ly;omega) (by omega)
 have w1:IntKind.i64.wrap ((σ.ws.length:Int)-σ.top)=(σ.ws.length:Int)-σ.top:=by rw [wrapI];have:=hok.ws;have:=hok.top;omega
 have d1:decide ((σ.ws.length:Int)-σ.top<k)=false:=decide_eq_false (by have:=hok.top;omega)
 have htl:σ.top<σ.ws.length:=by have:=hok.top;omega
 have htl1:σ.top+1≤σ.ws.length:=htl
 obtain ⟨lb0,c,el,hl⟩:=h1.lyS
 obtain ⟨lb,rfl,hg⟩:=hl (by omega)
 rw [el] at ho
 have hkd:=(lyc_get σ.ly s hsl).1
 rw [Nat.mul_comm,σ.kind_eq _ hsl] at hkd
 have hne:=h1.ne3 el
 have hsep:=h1.sep
 have hn1:=h1.ne1
 have hn2:=h1.ne2
 obtain ⟨q,hq⟩:∃q,q=σ.top / 64:=⟨_,rfl⟩
 obtain ⟨r,hr⟩:∃r,r=σ.top%64:=⟨_,rfl⟩
 have hws:=hok.ws
 have hhd:=hok.hd
 have hqlt:q<σ.hd.length:=by omega
 have hqlt1:q+1≤σ.hd.length:=by omega
 have e2:IntKind.i64.wrap ((σ.top:Int) / 64)=(q:Int):=by rw [wrapI];omega
 have e3:(σ.top:Int)%64=(r:Int):=by omega
 have e3':(σ.top:Int).tmod 64=(r:Int):=by rw [Int.tmod_eq_emod_of_nonneg (by omega)];omega
 have hm:min r 64=r:=by omega
 have hw0:=hok.hlt _ (List.getElem_mem hqlt)
 have hor:=or_bit σ.hd[q] r hw0 (by omega)
 have hcell:=u64c_get σ.hd q hqlt
 have e4:IntKind.i64.wrap ((σ.top:Int)+k)=(σ.top:Int)+k:=by rw [wrapI];omega
 have hsep':=Ne.symm hsep
 have hn1':=Ne.symm hn1
 have hn2':=Ne.symm hn2
 have hput:σ.put s n= { σ with ws:=if σ.kind s=3 then σ.ws.set σ.top (wHead s n) else fill (σ.ws.set σ.top (wHead s n)) σ.top n,hd:=σ.hd.set q (bitOr σ.hd[q] r),top:=σ.top+k }:=by
  unfold Hp.put
  rw [hk,←hq,←hr]
  simp [List.getElem?_eq_getElem hqlt]
 have hfin:∀(ws':List Nat) (H2:IH),ws'.length=σ.ws.length→HpAt H2 a { σ with ws:=ws' }→HpAt ((H2.set a.hb (.cells (u64c (σ.hd.set q (bitOr σ.hd[q] r))) 62 false)).set a.p (.cells [.slice (some ⟨a.wb,0,none⟩) σ.ws.length σ.ws.length,.slice (some ⟨a.hb,0,none⟩) σ.hd.length σ.hd.length,a.lv,.int .i64 ((σ.top:Int)+k)] 171 false)) a { σ with ws:=ws',hd:=σ.hd.set q (bitOr σ.hd[q] r),top:=σ.top+k }:=by
  intro ws' H2 hl h2
  have hk2:=h2.ok
  refine ⟨?_,?_,?_,?_,⟨hk2.ws,by simpa using hk2.hd,hk2.wlt,fun x hx=>?_,hk2.ly,by simp only [hl];omega⟩,by simpa using h2.lt,h2.sep⟩
  ·rw [IH.get_set,if_pos rfl];simp [hl]
  ·rw [IH.get_set,if_neg (Ne.symm hn1),IH.get_set,if_neg hsep];exact h2.ws
  ·rw [IH.get_set,if_neg (Ne.symm hn2),IH.get_set,if_pos rfl]
  ·rcases h2.ly with h3|⟨lb,h3,h4⟩
   ·exact .inl h3
   ·exact .inr ⟨lb,h3,by rw [IH.get_set,if_neg (h2.ne3 h3).2.2,IH.get_set,if_neg (h2.ne3 h3).2.1];exact h4⟩
  ·rcases List.mem_or_eq_of_mem_set hx with h5|h5
   ·exact hk2.hlt x h5
   ·rw [h5];exact bitOr_lt _ _ hw0 (by omega)
 rw [hput]
 by_cases k3:σ.kind s=3
 ·have k3d:decide (σ.kind s=3)=true:=decide_eq_true k3
  simp [C209,regsOf,fin,iresult1,e1,ho,h1.ws,h1.hd,hH,w1,d1,iindexAddr,istore,Value.cells,plain1,overlay,u64c_len,u64c_put,htl,htl1,IH.get_set,hg,hkd,k3,hne,hn1,hn2,hsl,e2,e3,e3',e4,hm,hqlt,hqlt1,hcell,hor,hsep,hsep',hn1',hn2']
  have h3:=hfin (σ.ws.set σ.top (wHead s n)) _ (by simp) (h1.setW (i:=σ.top) (wHead_lt s n))
  rw [el] at h3
  exact ⟨h3,((((Fx.of_fr f1).set (.inl (by simp)) _).set (.inl (by simp)) _).set (.inl (by simp)) _)⟩
 ·have k3d:decide (σ.kind s=3)=false:=decide_eq_false k3
  have hkn:=hkk k3
  simp [C209,regsOf,fin,iresult1,e1,ho,h1.ws,h1.hd,hH,w1,d1,iindexAddr,istore,Value.cells,plain1,overlay,u64c_len,u64c_put,htl,htl1,IH.get_set,hg,hkd,k3,hne,hn1,hn2,hsl]
  generalize hX:run J okAll (.loop L209_0) _ _=X
  obtain ⟨T1,hT,a0,a10,a56,a57,a8⟩:∃T1,run J okAll (.loop L209_0) T1 (H1.set a.wb (.cells (u64c (σ.ws.set σ.top (wHead s n))) 62 false))=X∧T1.at 0=a.ptr∧T1.at 10=.int .i64 (σ.top:Int)∧T1.at 56=.int .i64 (n:Int)∧T1.at 57=.int .i64 ((0:Nat):Int)∧T1.at 8=.int .i64 (k:Int):=⟨_,hX,by simp,by simp,by simp,by simp,by simp⟩
  have hs1:=h1.setW (i:=σ.top) (wHead_lt s n)
  obtain ⟨T',H2,q1,q2,q3,q4⟩:=loop209 hs1 σ.top n (by simp [Hp.setW];omega) (fun t=>T1.at t) a0 a10 n 0 T1 _ (by omega) hs1 (Fx.refl _ _) (fun t ht=>rfl) a56 a57
  have hl2:(fill (σ.ws.set σ.top (wHead s n)) σ.top n).length=σ.ws.length:=by rw [fill_len];simp
  have q2':HpAt H2 a { σ with ws:=fill (σ.ws.set σ.top (wHead s n)) σ.top n }:=q2
  have ho2:=q2'.obj
  have hh2:=q2'.hd
  simp only [hl2] at ho2
  rw [q1] at hT
  subst hT
  have b0:=(q4 0 (by omega)).trans a0
  have b8:=(q4 8 (by omega)).trans a8
  have b10:=(q4 10 (by omega)).trans a10
  simp [regsOf,fin,iresult1,b0,b8,b10,ho2,hh2,iindexAddr,istore,Value.cells,plain1,overlay,u64c_len,u64c_put,IH.get_set,e2,e3,e3',e4,hm,hqlt,hqlt1,hor,hsep,hsep',hn1',hn2',hn1,hn2]
  exact ⟨hfin _ _ hl2 q2',(((((Fx.of_fr f1).set (.inl (by simp)) _).trans q3 (by simp)).set (.inl (by simp)) _).set (.inl (by simp)) _)⟩
end
end Go.Proofs.YtchlbfmjnhgpgaaGreat.Idl
