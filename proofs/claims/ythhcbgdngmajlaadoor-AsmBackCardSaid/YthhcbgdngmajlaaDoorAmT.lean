/- The types of the seat's translation, as the abstract machine reads them; each by the kernel. Printed by a small program of this claim's. -/
import Derived.Test.YthhcbgdngmajlaaDoorProg
import Derived.Test.YthhcbgdngmajlaaDoorAmA
import Derived.KernelRfl
namespace Go.Proofs.YthhcbgdngmajlaaDoor
open Go Go.AM
set_option maxRecDepth 100000
def ti1 : TI := ⟨.func #[] #[] false, 1, 8, .nilFunc, false⟩
def ti2 : TI := ⟨.int .i64, 1, 8, .int .i64 0, false⟩
def ti3 : TI := ⟨.int .i64, 1, 8, .int .i64 0, false⟩
def ti4 : TI := ⟨.bool, 1, 1, .bool false, false⟩
def ti5 : TI := ⟨.int .u8, 1, 1, .int .u8 0, false⟩
def ti6 : TI := ⟨.int .u8, 1, 1, .int .u8 0, false⟩
def ti7 : TI := ⟨.struct #[⟨ "x", 2, 0, false, "", "runtime", 0⟩, ⟨ "y", 3, 1, false, "", "runtime", 8⟩, ⟨ "signed", 4, 2, false, "", "runtime", 16⟩, ⟨ "code", 6, 3, false, "", "runtime", 17⟩], 4, 24, .agg #[.int .i64 0, .int .i64 0, .bool false, .int .u8 0], false⟩
def ti8 : TI := ⟨.struct #[⟨ "x", 2, 0, false, "", "runtime", 0⟩, ⟨ "y", 3, 1, false, "", "runtime", 8⟩, ⟨ "signed", 4, 2, false, "", "runtime", 16⟩, ⟨ "code", 6, 3, false, "", "runtime", 17⟩], 4, 24, .agg #[.int .i64 0, .int .i64 0, .bool false, .int .u8 0], false⟩
def ti9 : TI := ⟨.string, 1, 16, .string ⟨#[]⟩, false⟩
def ti10 : TI := ⟨.string, 1, 16, .string ⟨#[]⟩, false⟩
def ti11 : TI := ⟨.string, 1, 16, .string ⟨#[]⟩, false⟩
def ti12 : TI := ⟨.int .u64, 1, 8, .int .u64 0, false⟩
def ti13 : TI := ⟨.struct #[⟨ "msg", 9, 0, false, "", "runtime", 0⟩, ⟨ "addr", 12, 1, false, "", "runtime", 16⟩], 2, 24, .agg #[.string ⟨#[]⟩, .int .u64 0], false⟩
def ti14 : TI := ⟨.struct #[⟨ "msg", 9, 0, false, "", "runtime", 0⟩, ⟨ "addr", 12, 1, false, "", "runtime", 16⟩], 2, 24, .agg #[.string ⟨#[]⟩, .int .u64 0], false⟩
def ti15 : TI := ⟨.pointer 155, 1, 8, .pointer none, false⟩
def ti16 : TI := ⟨.pointer 158, 1, 8, .pointer none, false⟩
def ti17 : TI := ⟨.pointer 165, 1, 8, .pointer none, false⟩
def ti18 : TI := ⟨.struct #[⟨ "typ", 17, 0, false, "", "internal/runtime/maps", 0⟩], 1, 8, .agg #[.pointer none], false⟩
def ti19 : TI := ⟨.struct #[⟨ "typ", 17, 0, false, "", "internal/runtime/maps", 0⟩], 1, 8, .agg #[.pointer none], false⟩
def ti20 : TI := ⟨.interface #[], 1, 16, .nilIface, false⟩
def ti21 : TI := ⟨.int .i32, 1, 4, .int .i32 0, false⟩
def ti22 : TI := ⟨.slice 9, 1, 24, .slice none 0 0, false⟩
def ti23 : TI := ⟨.func #[] #[4] false, 1, 8, .nilFunc, false⟩
def ti24 : TI := ⟨.slice 32, 1, 24, .slice none 0 0, false⟩
def ti25 : TI := ⟨.int .i64, 1, 8, .int .i64 0, false⟩
def ti27 : TI := ⟨.func #[9] #[24, 3, 25] false, 1, 8, .nilFunc, false⟩
def ti28 : TI := ⟨.func #[24, 24] #[4] false, 1, 8, .nilFunc, false⟩
def ti29 : TI := ⟨.int .u16, 1, 2, .int .u16 0, false⟩
def ti30 : TI := ⟨.int .u32, 1, 4, .int .u32 0, false⟩
def ti31 : TI := ⟨.struct #[⟨ "Code", 29, 0, false, "", "", 0⟩, ⟨ "Jt", 5, 1, false, "", "", 2⟩, ⟨ "Jf", 5, 2, false, "", "", 3⟩, ⟨ "K", 30, 3, false, "", "", 4⟩], 4, 8, .agg #[.int .u16 0, .int .u8 0, .int .u8 0, .int .u32 0], true⟩
def ti32 : TI := ⟨.struct #[⟨ "Code", 29, 0, false, "", "", 0⟩, ⟨ "Jt", 5, 1, false, "", "", 2⟩, ⟨ "Jf", 5, 2, false, "", "", 3⟩, ⟨ "K", 30, 3, false, "", "", 4⟩], 4, 8, .agg #[.int .u16 0, .int .u8 0, .int .u8 0, .int .u32 0], true⟩
def ti34 : TI := ⟨.func #[9] #[32, 25] false, 1, 8, .nilFunc, false⟩
def ti36 : TI := ⟨.func #[9] #[32, 4] false, 1, 8, .nilFunc, false⟩
def ti37 : TI := ⟨.func #[22] #[4] false, 1, 8, .nilFunc, false⟩
def ti38 : TI := ⟨.func #[9, 5] #[3] false, 1, 8, .nilFunc, false⟩
def ti39 : TI := ⟨.func #[9, 9] #[4] false, 1, 8, .nilFunc, false⟩
def ti40 : TI := ⟨.slice 24, 1, 24, .slice none 0 0, false⟩
def ti41 : TI := ⟨.func #[24] #[24] false, 1, 8, .nilFunc, false⟩
def ti43 : TI := ⟨.func #[24] #[9, 25] false, 1, 8, .nilFunc, false⟩
def ti44 : TI := ⟨.func #[32] #[9, 25] false, 1, 8, .nilFunc, false⟩
def ti45 : TI := ⟨.func #[32] #[4] false, 1, 8, .nilFunc, false⟩
def ti46 : TI := ⟨.func #[32] #[9] false, 1, 8, .nilFunc, false⟩
def ti47 : TI := ⟨.func #[24] #[9] false, 1, 8, .nilFunc, false⟩
def ti48 : TI := ⟨.func #[40] #[4] false, 1, 8, .nilFunc, false⟩
def ti49 : TI := ⟨.func #[32] #[32] false, 1, 8, .nilFunc, false⟩
def ti50 : TI := ⟨.func #[9, 9] #[3] false, 1, 8, .nilFunc, false⟩
def ti51 : TI := ⟨.func #[24, 45] #[4] false, 1, 8, .nilFunc, false⟩
def ti52 : TI := ⟨.func #[29] #[3] false, 1, 8, .nilFunc, false⟩
def ti53 : TI := ⟨.func #[24, 9] #[4] false, 1, 8, .nilFunc, false⟩
def ti54 : TI := ⟨.func #[95] #[] false, 1, 8, .nilFunc, false⟩
def ti55 : TI := ⟨.func #[95] #[] false, 1, 8, .nilFunc, false⟩
def ti56 : TI := ⟨.func #[9] #[55] false, 1, 8, .nilFunc, false⟩
def ti58 : TI := ⟨.func #[9, 9] #[9, 4] false, 1, 8, .nilFunc, false⟩
def ti59 : TI := ⟨.func #[9, 9] #[22] false, 1, 8, .nilFunc, false⟩
def ti61 : TI := ⟨.func #[9] #[29, 4] false, 1, 8, .nilFunc, false⟩
def ti63 : TI := ⟨.func #[3] #[4, 4] false, 1, 8, .nilFunc, false⟩
def ti64 : TI := ⟨.func #[65, 66] #[4] false, 1, 8, .nilFunc, false⟩
def ti65 : TI := ⟨.pointer 22, 1, 8, .pointer none, false⟩
def ti66 : TI := ⟨.pointer 30, 1, 8, .pointer none, false⟩
def ti67 : TI := ⟨.func #[65, 68] #[4] false, 1, 8, .nilFunc, false⟩
def ti68 : TI := ⟨.pointer 5, 1, 8, .pointer none, false⟩
def ti69 : TI := ⟨.func #[9] #[22] false, 1, 8, .nilFunc, false⟩
def ti71 : TI := ⟨.func #[9, 72] #[30, 4] false, 1, 8, .nilFunc, false⟩
def ti72 : TI := ⟨.int .u64, 1, 8, .int .u64 0, false⟩
def ti73 : TI := ⟨.pointer 76, 1, 8, .pointer none, false⟩
def ti74 : TI := ⟨.slice 5, 1, 24, .slice none 0 0, false⟩
def ti75 : TI := ⟨.struct #[⟨ "addr", 73, 0, false, "", "strings", 0⟩, ⟨ "buf", 74, 1, false, "", "strings", 8⟩], 2, 32, .agg #[.pointer none, .slice none 0 0], false⟩
def ti76 : TI := ⟨.struct #[⟨ "addr", 73, 0, false, "", "strings", 0⟩, ⟨ "buf", 74, 1, false, "", "strings", 8⟩], 2, 32, .agg #[.pointer none, .slice none 0 0], false⟩
def ti77 : TI := ⟨.interface #[("Error", 82)], 1, 16, .nilIface, false⟩
def ti78 : TI := ⟨.interface #[("Error", 82)], 1, 16, .nilIface, false⟩
def ti80 : TI := ⟨.func #[9] #[3, 78] false, 1, 8, .nilFunc, false⟩
def ti81 : TI := ⟨.func #[] #[3] false, 1, 8, .nilFunc, false⟩
def ti82 : TI := ⟨.func #[] #[9] false, 1, 8, .nilFunc, false⟩
def ti83 : TI := ⟨.func #[29] #[9, 4] false, 1, 8, .nilFunc, false⟩
def ti84 : TI := ⟨.func #[72, 3] #[9] false, 1, 8, .nilFunc, false⟩
def ti85 : TI := ⟨.func #[3] #[9] false, 1, 8, .nilFunc, false⟩
def ti86 : TI := ⟨.func #[30] #[9] false, 1, 8, .nilFunc, false⟩
def ti87 : TI := ⟨.func #[9] #[3] false, 1, 8, .nilFunc, false⟩
def ti88 : TI := ⟨.func #[24, 45] #[3] false, 1, 8, .nilFunc, false⟩
def ti90 : TI := ⟨.func #[29] #[9, 3] false, 1, 8, .nilFunc, false⟩
def ti91 : TI := ⟨.pointer 125, 1, 8, .pointer none, false⟩
def ti93 : TI := ⟨.func #[29] #[91, 9, 3] false, 1, 8, .nilFunc, false⟩
def ti94 : TI := ⟨.int .u64, 1, 8, .int .u64 0, false⟩
def ti95 : TI := ⟨.func #[3, 9] #[4] false, 1, 8, .nilFunc, false⟩
def ti96 : TI := ⟨.func #[110] #[] false, 1, 8, .nilFunc, false⟩
def ti97 : TI := ⟨.func #[110] #[] false, 1, 8, .nilFunc, false⟩
def ti98 : TI := ⟨.func #[9] #[97] false, 1, 8, .nilFunc, false⟩
def ti99 : TI := ⟨.func #[9, 9, 3, 3] #[22] false, 1, 8, .nilFunc, false⟩
def ti100 : TI := ⟨.func #[112] #[] false, 1, 8, .nilFunc, false⟩
def ti101 : TI := ⟨.func #[112] #[] false, 1, 8, .nilFunc, false⟩
def ti102 : TI := ⟨.func #[] #[101] false, 1, 8, .nilFunc, false⟩
def ti104 : TI := ⟨.func #[9, 3, 3] #[72, 78] false, 1, 8, .nilFunc, false⟩
def ti105 : TI := ⟨.slice 108, 1, 24, .slice none 0 0, false⟩
def ti106 : TI := ⟨.func #[] #[105] false, 1, 8, .nilFunc, false⟩
def ti107 : TI := ⟨.struct #[⟨ "Code", 29, 0, false, "", "", 0⟩, ⟨ "Name", 9, 1, false, "", "", 8⟩, ⟨ "Form", 3, 2, false, "", "", 24⟩], 3, 32, .agg #[.int .u16 0, .string ⟨#[]⟩, .int .i64 0], true⟩
def ti108 : TI := ⟨.struct #[⟨ "Code", 29, 0, false, "", "", 0⟩, ⟨ "Name", 9, 1, false, "", "", 8⟩, ⟨ "Form", 3, 2, false, "", "", 24⟩], 3, 32, .agg #[.int .u16 0, .string ⟨#[]⟩, .int .i64 0], true⟩
def ti109 : TI := ⟨.func #[] #[91] false, 1, 8, .nilFunc, false⟩
def ti110 : TI := ⟨.func #[9] #[4] false, 1, 8, .nilFunc, false⟩
def ti111 : TI := ⟨.func #[9, 3] #[22] false, 1, 8, .nilFunc, false⟩
def ti112 : TI := ⟨.func #[29, 9] #[4] false, 1, 8, .nilFunc, false⟩
def ti113 : TI := ⟨.func #[9, 9, 3, 3, 78] #[78] false, 1, 8, .nilFunc, false⟩
def ti114 : TI := ⟨.func #[29] #[9] false, 1, 8, .nilFunc, false⟩
def ti115 : TI := ⟨.array 5 9, 5, 80, .agg #[.string ⟨#[]⟩, .string ⟨#[]⟩, .string ⟨#[]⟩, .string ⟨#[]⟩, .string ⟨#[]⟩], false⟩
def ti117 : TI := ⟨.func #[116] #[116] false, 1, 8, .nilFunc, false⟩
def ti118 : TI := ⟨.array 24 5, 24, 24, .agg #[.int .u8 0, .int .u8 0, .int .u8 0, .int .u8 0, .int .u8 0, .int .u8 0, .int .u8 0, .int .u8 0, .int .u8 0, .int .u8 0, .int .u8 0, .int .u8 0, .int .u8 0, .int .u8 0, .int .u8 0, .int .u8 0, .int .u8 0, .int .u8 0, .int .u8 0, .int .u8 0, .int .u8 0, .int .u8 0, .int .u8 0, .int .u8 0], false⟩
def ti119 : TI := ⟨.func #[72] #[3] false, 1, 8, .nilFunc, false⟩
def ti120 : TI := ⟨.func #[74, 72] #[] false, 1, 8, .nilFunc, false⟩
def ti122 : TI := ⟨.func #[74, 72, 3, 4, 4] #[74, 9] false, 1, 8, .nilFunc, false⟩
def ti123 : TI := ⟨.func #[2, 3] #[9] false, 1, 8, .nilFunc, false⟩
def ti124 : TI := ⟨.func #[3] #[3] false, 1, 8, .nilFunc, false⟩
def ti125 : TI := ⟨.array 16 9, 16, 256, .agg #[.string ⟨#[]⟩, .string ⟨#[]⟩, .string ⟨#[]⟩, .string ⟨#[]⟩, .string ⟨#[]⟩, .string ⟨#[]⟩, .string ⟨#[]⟩, .string ⟨#[]⟩, .string ⟨#[]⟩, .string ⟨#[]⟩, .string ⟨#[]⟩, .string ⟨#[]⟩, .string ⟨#[]⟩, .string ⟨#[]⟩, .string ⟨#[]⟩, .string ⟨#[]⟩], false⟩
def ti127 : TI := ⟨.func #[9] #[21, 3] false, 1, 8, .nilFunc, false⟩
def ti128 : TI := ⟨.int .i64, 1, 8, .int .i64 0, false⟩
def ti129 : TI := ⟨.func #[5] #[5] false, 1, 8, .nilFunc, false⟩
def ti130 : TI := ⟨.pointer 142, 1, 8, .pointer none, false⟩
def ti131 : TI := ⟨.func #[9, 9] #[130] false, 1, 8, .nilFunc, false⟩
def ti132 : TI := ⟨.func #[9, 9, 3] #[130] false, 1, 8, .nilFunc, false⟩
def ti133 : TI := ⟨.func #[4] #[3] false, 1, 8, .nilFunc, false⟩
def ti134 : TI := ⟨.array 20 72, 20, 160, .agg #[.int .u64 0, .int .u64 0, .int .u64 0, .int .u64 0, .int .u64 0, .int .u64 0, .int .u64 0, .int .u64 0, .int .u64 0, .int .u64 0, .int .u64 0, .int .u64 0, .int .u64 0, .int .u64 0, .int .u64 0, .int .u64 0, .int .u64 0, .int .u64 0, .int .u64 0, .int .u64 0], false⟩
def ti135 : TI := ⟨.array 65 5, 65, 65, .agg #[.int .u8 0, .int .u8 0, .int .u8 0, .int .u8 0, .int .u8 0, .int .u8 0, .int .u8 0, .int .u8 0, .int .u8 0, .int .u8 0, .int .u8 0, .int .u8 0, .int .u8 0, .int .u8 0, .int .u8 0, .int .u8 0, .int .u8 0, .int .u8 0, .int .u8 0, .int .u8 0, .int .u8 0, .int .u8 0, .int .u8 0, .int .u8 0, .int .u8 0, .int .u8 0, .int .u8 0, .int .u8 0, .int .u8 0, .int .u8 0, .int .u8 0, .int .u8 0, .int .u8 0, .int .u8 0, .int .u8 0, .int .u8 0, .int .u8 0, .int .u8 0, .int .u8 0, .int .u8 0, .int .u8 0, .int .u8 0, .int .u8 0, .int .u8 0, .int .u8 0, .int .u8 0, .int .u8 0, .int .u8 0, .int .u8 0, .int .u8 0, .int .u8 0, .int .u8 0, .int .u8 0, .int .u8 0, .int .u8 0, .int .u8 0, .int .u8 0, .int .u8 0, .int .u8 0, .int .u8 0, .int .u8 0, .int .u8 0, .int .u8 0, .int .u8 0, .int .u8 0], false⟩
def ti136 : TI := ⟨.func #[3] #[4] false, 1, 8, .nilFunc, false⟩
def ti137 : TI := ⟨.func #[94] #[3] false, 1, 8, .nilFunc, false⟩
def ti139 : TI := ⟨.func #[9] #[30, 30] false, 1, 8, .nilFunc, false⟩
def ti140 : TI := ⟨.func #[9] #[9] false, 1, 8, .nilFunc, false⟩
def ti141 : TI := ⟨.struct #[⟨ "Func", 9, 0, false, "", "", 0⟩, ⟨ "Num", 9, 1, false, "", "", 16⟩, ⟨ "Err", 78, 2, false, "", "", 32⟩], 3, 48, .agg #[.string ⟨#[]⟩, .string ⟨#[]⟩, .nilIface], false⟩
def ti142 : TI := ⟨.struct #[⟨ "Func", 9, 0, false, "", "", 0⟩, ⟨ "Num", 9, 1, false, "", "", 16⟩, ⟨ "Err", 78, 2, false, "", "", 32⟩], 3, 48, .agg #[.string ⟨#[]⟩, .string ⟨#[]⟩, .nilIface], false⟩
def ti143 : TI := ⟨.func #[9] #[78] false, 1, 8, .nilFunc, false⟩
def ti144 : TI := ⟨.func #[30] #[3] false, 1, 8, .nilFunc, false⟩
def ti145 : TI := ⟨.array 256 5, 256, 256, .agg #[.int .u8 0, .int .u8 0, .int .u8 0, .int .u8 0, .int .u8 0, .int .u8 0, .int .u8 0, .int .u8 0, .int .u8 0, .int .u8 0, .int .u8 0, .int .u8 0, .int .u8 0, .int .u8 0, .int .u8 0, .int .u8 0, .int .u8 0, .int .u8 0, .int .u8 0, .int .u8 0, .int .u8 0, .int .u8 0, .int .u8 0, .int .u8 0, .int .u8 0, .int .u8 0, .int .u8 0, .int .u8 0, .int .u8 0, .int .u8 0, .int .u8 0, .int .u8 0, .int .u8 0, .int .u8 0, .int .u8 0, .int .u8 0, .int .u8 0, .int .u8 0, .int .u8 0, .int .u8 0, .int .u8 0, .int .u8 0, .int .u8 0, .int .u8 0, .int .u8 0, .int .u8 0, .int .u8 0, .int .u8 0, .int .u8 0, .int .u8 0, .int .u8 0, .int .u8 0, .int .u8 0, .int .u8 0, .int .u8 0, .int .u8 0, .int .u8 0, .int .u8 0, .int .u8 0, .int .u8 0, .int .u8 0, .int .u8 0, .int .u8 0, .int .u8 0, .int .u8 0, .int .u8 0, .int .u8 0, .int .u8 0, .int .u8 0, .int .u8 0, .int .u8 0, .int .u8 0, .int .u8 0, .int .u8 0, .int .u8 0, .int .u8 0, .int .u8 0, .int .u8 0, .int .u8 0, .int .u8 0, .int .u8 0, .int .u8 0, .int .u8 0, .int .u8 0, .int .u8 0, .int .u8 0, .int .u8 0, .int .u8 0, .int .u8 0, .int .u8 0, .int .u8 0, .int .u8 0, .int .u8 0, .int .u8 0, .int .u8 0, .int .u8 0, .int .u8 0, .int .u8 0, .int .u8 0, .int .u8 0, .int .u8 0, .int .u8 0, .int .u8 0, .int .u8 0, .int .u8 0, .int .u8 0, .int .u8 0, .int .u8 0, .int .u8 0, .int .u8 0, .int .u8 0, .int .u8 0, .int .u8 0, .int .u8 0, .int .u8 0, .int .u8 0, .int .u8 0, .int .u8 0, .int .u8 0, .int .u8 0, .int .u8 0, .int .u8 0, .int .u8 0, .int .u8 0, .int .u8 0, .int .u8 0, .int .u8 0, .int .u8 0, .int .u8 0, .int .u8 0, .int .u8 0, .int .u8 0, .int .u8 0, .int .u8 0, .int .u8 0, .int .u8 0, .int .u8 0, .int .u8 0, .int .u8 0, .int .u8 0, .int .u8 0, .int .u8 0, .int .u8 0, .int .u8 0, .int .u8 0, .int .u8 0, .int .u8 0, .int .u8 0, .int .u8 0, .int .u8 0, .int .u8 0, .int .u8 0, .int .u8 0, .int .u8 0, .int .u8 0, .int .u8 0, .int .u8 0, .int .u8 0, .int .u8 0, .int .u8 0, .int .u8 0, .int .u8 0, .int .u8 0, .int .u8 0, .int .u8 0, .int .u8 0, .int .u8 0, .int .u8 0, .int .u8 0, .int .u8 0, .int .u8 0, .int .u8 0, .int .u8 0, .int .u8 0, .int .u8 0, .int .u8 0, .int .u8 0, .int .u8 0, .int .u8 0, .int .u8 0, .int .u8 0, .int .u8 0, .int .u8 0, .int .u8 0, .int .u8 0, .int .u8 0, .int .u8 0, .int .u8 0, .int .u8 0, .int .u8 0, .int .u8 0, .int .u8 0, .int .u8 0, .int .u8 0, .int .u8 0, .int .u8 0, .int .u8 0, .int .u8 0, .int .u8 0, .int .u8 0, .int .u8 0, .int .u8 0, .int .u8 0, .int .u8 0, .int .u8 0, .int .u8 0, .int .u8 0, .int .u8 0, .int .u8 0, .int .u8 0, .int .u8 0, .int .u8 0, .int .u8 0, .int .u8 0, .int .u8 0, .int .u8 0, .int .u8 0, .int .u8 0, .int .u8 0, .int .u8 0, .int .u8 0, .int .u8 0, .int .u8 0, .int .u8 0, .int .u8 0, .int .u8 0, .int .u8 0, .int .u8 0, .int .u8 0, .int .u8 0, .int .u8 0, .int .u8 0, .int .u8 0, .int .u8 0, .int .u8 0, .int .u8 0, .int .u8 0, .int .u8 0, .int .u8 0, .int .u8 0, .int .u8 0, .int .u8 0, .int .u8 0, .int .u8 0, .int .u8 0, .int .u8 0, .int .u8 0, .int .u8 0, .int .u8 0, .int .u8 0, .int .u8 0, .int .u8 0, .int .u8 0, .int .u8 0, .int .u8 0, .int .u8 0], false⟩
def ti146 : TI := ⟨.struct #[⟨ "lo", 5, 0, false, "", "unicode/utf8", 0⟩, ⟨ "hi", 5, 1, false, "", "unicode/utf8", 1⟩], 2, 2, .agg #[.int .u8 0, .int .u8 0], false⟩
def ti147 : TI := ⟨.struct #[⟨ "lo", 5, 0, false, "", "unicode/utf8", 0⟩, ⟨ "hi", 5, 1, false, "", "unicode/utf8", 1⟩], 2, 2, .agg #[.int .u8 0, .int .u8 0], false⟩
def ti148 : TI := ⟨.array 16 147, 32, 32, .agg #[.int .u8 0, .int .u8 0, .int .u8 0, .int .u8 0, .int .u8 0, .int .u8 0, .int .u8 0, .int .u8 0, .int .u8 0, .int .u8 0, .int .u8 0, .int .u8 0, .int .u8 0, .int .u8 0, .int .u8 0, .int .u8 0, .int .u8 0, .int .u8 0, .int .u8 0, .int .u8 0, .int .u8 0, .int .u8 0, .int .u8 0, .int .u8 0, .int .u8 0, .int .u8 0, .int .u8 0, .int .u8 0, .int .u8 0, .int .u8 0, .int .u8 0, .int .u8 0], false⟩
def ti149 : TI := ⟨.pointer 151, 1, 8, .pointer none, false⟩
def ti150 : TI := ⟨.struct #[⟨ "s", 9, 0, false, "", "errors", 0⟩], 1, 16, .agg #[.string ⟨#[]⟩], false⟩
def ti151 : TI := ⟨.struct #[⟨ "s", 9, 0, false, "", "errors", 0⟩], 1, 16, .agg #[.string ⟨#[]⟩], false⟩
def ti152 : TI := ⟨.array 32 5, 32, 32, .agg #[.int .u8 0, .int .u8 0, .int .u8 0, .int .u8 0, .int .u8 0, .int .u8 0, .int .u8 0, .int .u8 0, .int .u8 0, .int .u8 0, .int .u8 0, .int .u8 0, .int .u8 0, .int .u8 0, .int .u8 0, .int .u8 0, .int .u8 0, .int .u8 0, .int .u8 0, .int .u8 0, .int .u8 0, .int .u8 0, .int .u8 0, .int .u8 0, .int .u8 0, .int .u8 0, .int .u8 0, .int .u8 0, .int .u8 0, .int .u8 0, .int .u8 0, .int .u8 0], false⟩
def ti153 : TI := ⟨.array 64 5, 64, 64, .agg #[.int .u8 0, .int .u8 0, .int .u8 0, .int .u8 0, .int .u8 0, .int .u8 0, .int .u8 0, .int .u8 0, .int .u8 0, .int .u8 0, .int .u8 0, .int .u8 0, .int .u8 0, .int .u8 0, .int .u8 0, .int .u8 0, .int .u8 0, .int .u8 0, .int .u8 0, .int .u8 0, .int .u8 0, .int .u8 0, .int .u8 0, .int .u8 0, .int .u8 0, .int .u8 0, .int .u8 0, .int .u8 0, .int .u8 0, .int .u8 0, .int .u8 0, .int .u8 0, .int .u8 0, .int .u8 0, .int .u8 0, .int .u8 0, .int .u8 0, .int .u8 0, .int .u8 0, .int .u8 0, .int .u8 0, .int .u8 0, .int .u8 0, .int .u8 0, .int .u8 0, .int .u8 0, .int .u8 0, .int .u8 0, .int .u8 0, .int .u8 0, .int .u8 0, .int .u8 0, .int .u8 0, .int .u8 0, .int .u8 0, .int .u8 0, .int .u8 0, .int .u8 0, .int .u8 0, .int .u8 0, .int .u8 0, .int .u8 0, .int .u8 0, .int .u8 0], false⟩
def ti154 : TI := ⟨.struct #[⟨ "_interface", 17, 0, false, "", "runtime", 0⟩, ⟨ "concrete", 17, 1, false, "", "runtime", 8⟩, ⟨ "asserted", 17, 2, false, "", "runtime", 16⟩, ⟨ "missingMethod", 9, 3, false, "", "runtime", 24⟩], 4, 40, .agg #[.pointer none, .pointer none, .pointer none, .string ⟨#[]⟩], false⟩
def ti155 : TI := ⟨.struct #[⟨ "_interface", 17, 0, false, "", "runtime", 0⟩, ⟨ "concrete", 17, 1, false, "", "runtime", 8⟩, ⟨ "asserted", 17, 2, false, "", "runtime", 16⟩, ⟨ "missingMethod", 9, 3, false, "", "runtime", 24⟩], 4, 40, .agg #[.pointer none, .pointer none, .pointer none, .string ⟨#[]⟩], false⟩
def ti156 : TI := ⟨.array 0 16, 0, 0, .agg #[], false⟩
def ti157 : TI := ⟨.struct #[⟨ "_", 156, 0, false, "", "runtime", 0⟩], 0, 0, .agg #[], false⟩
def ti158 : TI := ⟨.struct #[⟨ "_", 156, 0, false, "", "runtime", 0⟩], 0, 0, .agg #[], false⟩
def ti159 : TI := ⟨.int .u8, 1, 1, .int .u8 0, false⟩
def ti160 : TI := ⟨.int .u8, 1, 1, .int .u8 0, false⟩
def ti161 : TI := ⟨.func #[116, 116] #[4] false, 1, 8, .nilFunc, false⟩
def ti162 : TI := ⟨.int .i32, 1, 4, .int .i32 0, false⟩
def ti163 : TI := ⟨.int .i32, 1, 4, .int .i32 0, false⟩
def ti164 : TI := ⟨.struct #[⟨ "Size_", 12, 0, false, "", "", 0⟩, ⟨ "PtrBytes", 12, 1, false, "", "", 8⟩, ⟨ "Hash", 30, 2, false, "", "", 16⟩, ⟨ "TFlag", 159, 3, false, "", "", 20⟩, ⟨ "Align_", 5, 4, false, "", "", 21⟩, ⟨ "FieldAlign_", 5, 5, false, "", "", 22⟩, ⟨ "Kind_", 160, 6, false, "", "", 23⟩, ⟨ "Equal", 161, 7, false, "", "", 24⟩, ⟨ "GCData", 68, 8, false, "", "", 32⟩, ⟨ "Str", 162, 9, false, "", "", 40⟩, ⟨ "PtrToThis", 163, 10, false, "", "", 44⟩], 11, 48, .agg #[.int .u64 0, .int .u64 0, .int .u32 0, .int .u8 0, .int .u8 0, .int .u8 0, .int .u8 0, .nilFunc, .pointer none, .int .i32 0, .int .i32 0], false⟩
def ti165 : TI := ⟨.struct #[⟨ "Size_", 12, 0, false, "", "", 0⟩, ⟨ "PtrBytes", 12, 1, false, "", "", 8⟩, ⟨ "Hash", 30, 2, false, "", "", 16⟩, ⟨ "TFlag", 159, 3, false, "", "", 20⟩, ⟨ "Align_", 5, 4, false, "", "", 21⟩, ⟨ "FieldAlign_", 5, 5, false, "", "", 22⟩, ⟨ "Kind_", 160, 6, false, "", "", 23⟩, ⟨ "Equal", 161, 7, false, "", "", 24⟩, ⟨ "GCData", 68, 8, false, "", "", 32⟩, ⟨ "Str", 162, 9, false, "", "", 40⟩, ⟨ "PtrToThis", 163, 10, false, "", "", 44⟩], 11, 48, .agg #[.int .u64 0, .int .u64 0, .int .u32 0, .int .u8 0, .int .u8 0, .int .u8 0, .int .u8 0, .nilFunc, .pointer none, .int .i32 0, .int .i32 0], false⟩
def TT : List (Nat × TI) := [(1, ti1), (2, ti2), (3, ti3), (4, ti4), (5, ti5), (6, ti6), (7, ti7), (8, ti8), (9, ti9), (10, ti10), (11, ti11), (12, ti12), (13, ti13), (14, ti14), (15, ti15), (16, ti16), (17, ti17), (18, ti18), (19, ti19), (20, ti20), (21, ti21), (22, ti22), (23, ti23), (24, ti24), (25, ti25), (27, ti27), (28, ti28), (29, ti29), (30, ti30), (31, ti31), (32, ti32), (34, ti34), (36, ti36), (37, ti37), (38, ti38), (39, ti39), (40, ti40), (41, ti41), (43, ti43), (44, ti44), (45, ti45), (46, ti46), (47, ti47), (48, ti48), (49, ti49), (50, ti50), (51, ti51), (52, ti52), (53, ti53), (54, ti54), (55, ti55), (56, ti56), (58, ti58), (59, ti59), (61, ti61), (63, ti63), (64, ti64), (65, ti65), (66, ti66), (67, ti67), (68, ti68), (69, ti69), (71, ti71), (72, ti72), (73, ti73), (74, ti74), (75, ti75), (76, ti76), (77, ti77), (78, ti78), (80, ti80), (81, ti81), (82, ti82), (83, ti83), (84, ti84), (85, ti85), (86, ti86), (87, ti87), (88, ti88), (90, ti90), (91, ti91), (93, ti93), (94, ti94), (95, ti95), (96, ti96), (97, ti97), (98, ti98), (99, ti99), (100, ti100), (101, ti101), (102, ti102), (104, ti104), (105, ti105), (106, ti106), (107, ti107), (108, ti108), (109, ti109), (110, ti110), (111, ti111), (112, ti112), (113, ti113), (114, ti114), (115, ti115), (117, ti117), (118, ti118), (119, ti119), (120, ti120), (122, ti122), (123, ti123), (124, ti124), (125, ti125), (127, ti127), (128, ti128), (129, ti129), (130, ti130), (131, ti131), (132, ti132), (133, ti133), (134, ti134), (135, ti135), (136, ti136), (137, ti137), (139, ti139), (140, ti140), (141, ti141), (142, ti142), (143, ti143), (144, ti144), (145, ti145), (146, ti146), (147, ti147), (148, ti148), (149, ti149), (150, ti150), (151, ti151), (152, ti152), (153, ti153), (154, ti154), (155, ti155), (156, ti156), (157, ti157), (158, ti158), (159, ti159), (160, ti160), (161, ti161), (162, ti162), (163, ti163), (164, ti164), (165, ti165)]
theorem lk1 : AM.lkp 1 TT = some ti1 := by kernel_rfl
theorem lk2 : AM.lkp 2 TT = some ti2 := by kernel_rfl
theorem lk3 : AM.lkp 3 TT = some ti3 := by kernel_rfl
theorem lk4 : AM.lkp 4 TT = some ti4 := by kernel_rfl
theorem lk5 : AM.lkp 5 TT = some ti5 := by kernel_rfl
theorem lk6 : AM.lkp 6 TT = some ti6 := by kernel_rfl
theorem lk7 : AM.lkp 7 TT = some ti7 := by kernel_rfl
theorem lk8 : AM.lkp 8 TT = some ti8 := by kernel_rfl
theorem lk9 : AM.lkp 9 TT = some ti9 := by kernel_rfl
theorem lk10 : AM.lkp 10 TT = some ti10 := by kernel_rfl
theorem lk11 : AM.lkp 11 TT = some ti11 := by kernel_rfl
theorem lk12 : AM.lkp 12 TT = some ti12 := by kernel_rfl
theorem lk13 : AM.lkp 13 TT = some ti13 := by kernel_rfl
theorem lk14 : AM.lkp 14 TT = some ti14 := by kernel_rfl
theorem lk15 : AM.lkp 15 TT = some ti15 := by kernel_rfl
theorem lk16 : AM.lkp 16 TT = some ti16 := by kernel_rfl
theorem lk17 : AM.lkp 17 TT = some ti17 := by kernel_rfl
theorem lk18 : AM.lkp 18 TT = some ti18 := by kernel_rfl
theorem lk19 : AM.lkp 19 TT = some ti19 := by kernel_rfl
theorem lk20 : AM.lkp 20 TT = some ti20 := by kernel_rfl
theorem lk21 : AM.lkp 21 TT = some ti21 := by kernel_rfl
theorem lk22 : AM.lkp 22 TT = some ti22 := by kernel_rfl
theorem lk23 : AM.lkp 23 TT = some ti23 := by kernel_rfl
theorem lk24 : AM.lkp 24 TT = some ti24 := by kernel_rfl
theorem lk25 : AM.lkp 25 TT = some ti25 := by kernel_rfl
theorem lk27 : AM.lkp 27 TT = some ti27 := by kernel_rfl
theorem lk28 : AM.lkp 28 TT = some ti28 := by kernel_rfl
theorem lk29 : AM.lkp 29 TT = some ti29 := by kernel_rfl
theorem lk30 : AM.lkp 30 TT = some ti30 := by kernel_rfl
theorem lk31 : AM.lkp 31 TT = some ti31 := by kernel_rfl
theorem lk32 : AM.lkp 32 TT = some ti32 := by kernel_rfl
theorem lk34 : AM.lkp 34 TT = some ti34 := by kernel_rfl
theorem lk36 : AM.lkp 36 TT = some ti36 := by kernel_rfl
theorem lk37 : AM.lkp 37 TT = some ti37 := by kernel_rfl
theorem lk38 : AM.lkp 38 TT = some ti38 := by kernel_rfl
theorem lk39 : AM.lkp 39 TT = some ti39 := by kernel_rfl
theorem lk40 : AM.lkp 40 TT = some ti40 := by kernel_rfl
theorem lk41 : AM.lkp 41 TT = some ti41 := by kernel_rfl
theorem lk43 : AM.lkp 43 TT = some ti43 := by kernel_rfl
theorem lk44 : AM.lkp 44 TT = some ti44 := by kernel_rfl
theorem lk45 : AM.lkp 45 TT = some ti45 := by kernel_rfl
theorem lk46 : AM.lkp 46 TT = some ti46 := by kernel_rfl
theorem lk47 : AM.lkp 47 TT = some ti47 := by kernel_rfl
theorem lk48 : AM.lkp 48 TT = some ti48 := by kernel_rfl
theorem lk49 : AM.lkp 49 TT = some ti49 := by kernel_rfl
theorem lk50 : AM.lkp 50 TT = some ti50 := by kernel_rfl
theorem lk51 : AM.lkp 51 TT = some ti51 := by kernel_rfl
theorem lk52 : AM.lkp 52 TT = some ti52 := by kernel_rfl
theorem lk53 : AM.lkp 53 TT = some ti53 := by kernel_rfl
theorem lk54 : AM.lkp 54 TT = some ti54 := by kernel_rfl
theorem lk55 : AM.lkp 55 TT = some ti55 := by kernel_rfl
theorem lk56 : AM.lkp 56 TT = some ti56 := by kernel_rfl
theorem lk58 : AM.lkp 58 TT = some ti58 := by kernel_rfl
theorem lk59 : AM.lkp 59 TT = some ti59 := by kernel_rfl
theorem lk61 : AM.lkp 61 TT = some ti61 := by kernel_rfl
theorem lk63 : AM.lkp 63 TT = some ti63 := by kernel_rfl
theorem lk64 : AM.lkp 64 TT = some ti64 := by kernel_rfl
theorem lk65 : AM.lkp 65 TT = some ti65 := by kernel_rfl
theorem lk66 : AM.lkp 66 TT = some ti66 := by kernel_rfl
theorem lk67 : AM.lkp 67 TT = some ti67 := by kernel_rfl
theorem lk68 : AM.lkp 68 TT = some ti68 := by kernel_rfl
theorem lk69 : AM.lkp 69 TT = some ti69 := by kernel_rfl
theorem lk71 : AM.lkp 71 TT = some ti71 := by kernel_rfl
theorem lk72 : AM.lkp 72 TT = some ti72 := by kernel_rfl
theorem lk73 : AM.lkp 73 TT = some ti73 := by kernel_rfl
theorem lk74 : AM.lkp 74 TT = some ti74 := by kernel_rfl
theorem lk75 : AM.lkp 75 TT = some ti75 := by kernel_rfl
theorem lk76 : AM.lkp 76 TT = some ti76 := by kernel_rfl
theorem lk77 : AM.lkp 77 TT = some ti77 := by kernel_rfl
theorem lk78 : AM.lkp 78 TT = some ti78 := by kernel_rfl
theorem lk80 : AM.lkp 80 TT = some ti80 := by kernel_rfl
theorem lk81 : AM.lkp 81 TT = some ti81 := by kernel_rfl
theorem lk82 : AM.lkp 82 TT = some ti82 := by kernel_rfl
theorem lk83 : AM.lkp 83 TT = some ti83 := by kernel_rfl
theorem lk84 : AM.lkp 84 TT = some ti84 := by kernel_rfl
theorem lk85 : AM.lkp 85 TT = some ti85 := by kernel_rfl
theorem lk86 : AM.lkp 86 TT = some ti86 := by kernel_rfl
theorem lk87 : AM.lkp 87 TT = some ti87 := by kernel_rfl
theorem lk88 : AM.lkp 88 TT = some ti88 := by kernel_rfl
theorem lk90 : AM.lkp 90 TT = some ti90 := by kernel_rfl
theorem lk91 : AM.lkp 91 TT = some ti91 := by kernel_rfl
theorem lk93 : AM.lkp 93 TT = some ti93 := by kernel_rfl
theorem lk94 : AM.lkp 94 TT = some ti94 := by kernel_rfl
theorem lk95 : AM.lkp 95 TT = some ti95 := by kernel_rfl
theorem lk96 : AM.lkp 96 TT = some ti96 := by kernel_rfl
theorem lk97 : AM.lkp 97 TT = some ti97 := by kernel_rfl
theorem lk98 : AM.lkp 98 TT = some ti98 := by kernel_rfl
theorem lk99 : AM.lkp 99 TT = some ti99 := by kernel_rfl
theorem lk100 : AM.lkp 100 TT = some ti100 := by kernel_rfl
theorem lk101 : AM.lkp 101 TT = some ti101 := by kernel_rfl
theorem lk102 : AM.lkp 102 TT = some ti102 := by kernel_rfl
theorem lk104 : AM.lkp 104 TT = some ti104 := by kernel_rfl
theorem lk105 : AM.lkp 105 TT = some ti105 := by kernel_rfl
theorem lk106 : AM.lkp 106 TT = some ti106 := by kernel_rfl
theorem lk107 : AM.lkp 107 TT = some ti107 := by kernel_rfl
theorem lk108 : AM.lkp 108 TT = some ti108 := by kernel_rfl
theorem lk109 : AM.lkp 109 TT = some ti109 := by kernel_rfl
theorem lk110 : AM.lkp 110 TT = some ti110 := by kernel_rfl
theorem lk111 : AM.lkp 111 TT = some ti111 := by kernel_rfl
theorem lk112 : AM.lkp 112 TT = some ti112 := by kernel_rfl
theorem lk113 : AM.lkp 113 TT = some ti113 := by kernel_rfl
theorem lk114 : AM.lkp 114 TT = some ti114 := by kernel_rfl
theorem lk115 : AM.lkp 115 TT = some ti115 := by kernel_rfl
theorem lk117 : AM.lkp 117 TT = some ti117 := by kernel_rfl
theorem lk118 : AM.lkp 118 TT = some ti118 := by kernel_rfl
theorem lk119 : AM.lkp 119 TT = some ti119 := by kernel_rfl
theorem lk120 : AM.lkp 120 TT = some ti120 := by kernel_rfl
theorem lk122 : AM.lkp 122 TT = some ti122 := by kernel_rfl
theorem lk123 : AM.lkp 123 TT = some ti123 := by kernel_rfl
theorem lk124 : AM.lkp 124 TT = some ti124 := by kernel_rfl
theorem lk125 : AM.lkp 125 TT = some ti125 := by kernel_rfl
theorem lk127 : AM.lkp 127 TT = some ti127 := by kernel_rfl
theorem lk128 : AM.lkp 128 TT = some ti128 := by kernel_rfl
theorem lk129 : AM.lkp 129 TT = some ti129 := by kernel_rfl
theorem lk130 : AM.lkp 130 TT = some ti130 := by kernel_rfl
theorem lk131 : AM.lkp 131 TT = some ti131 := by kernel_rfl
theorem lk132 : AM.lkp 132 TT = some ti132 := by kernel_rfl
theorem lk133 : AM.lkp 133 TT = some ti133 := by kernel_rfl
theorem lk134 : AM.lkp 134 TT = some ti134 := by kernel_rfl
theorem lk135 : AM.lkp 135 TT = some ti135 := by kernel_rfl
theorem lk136 : AM.lkp 136 TT = some ti136 := by kernel_rfl
theorem lk137 : AM.lkp 137 TT = some ti137 := by kernel_rfl
theorem lk139 : AM.lkp 139 TT = some ti139 := by kernel_rfl
theorem lk140 : AM.lkp 140 TT = some ti140 := by kernel_rfl
theorem lk141 : AM.lkp 141 TT = some ti141 := by kernel_rfl
theorem lk142 : AM.lkp 142 TT = some ti142 := by kernel_rfl
theorem lk143 : AM.lkp 143 TT = some ti143 := by kernel_rfl
theorem lk144 : AM.lkp 144 TT = some ti144 := by kernel_rfl
theorem lk145 : AM.lkp 145 TT = some ti145 := by kernel_rfl
theorem lk146 : AM.lkp 146 TT = some ti146 := by kernel_rfl
theorem lk147 : AM.lkp 147 TT = some ti147 := by kernel_rfl
theorem lk148 : AM.lkp 148 TT = some ti148 := by kernel_rfl
theorem lk149 : AM.lkp 149 TT = some ti149 := by kernel_rfl
theorem lk150 : AM.lkp 150 TT = some ti150 := by kernel_rfl
theorem lk151 : AM.lkp 151 TT = some ti151 := by kernel_rfl
theorem lk152 : AM.lkp 152 TT = some ti152 := by kernel_rfl
theorem lk153 : AM.lkp 153 TT = some ti153 := by kernel_rfl
theorem lk154 : AM.lkp 154 TT = some ti154 := by kernel_rfl
theorem lk155 : AM.lkp 155 TT = some ti155 := by kernel_rfl
theorem lk156 : AM.lkp 156 TT = some ti156 := by kernel_rfl
theorem lk157 : AM.lkp 157 TT = some ti157 := by kernel_rfl
theorem lk158 : AM.lkp 158 TT = some ti158 := by kernel_rfl
theorem lk159 : AM.lkp 159 TT = some ti159 := by kernel_rfl
theorem lk160 : AM.lkp 160 TT = some ti160 := by kernel_rfl
theorem lk161 : AM.lkp 161 TT = some ti161 := by kernel_rfl
theorem lk162 : AM.lkp 162 TT = some ti162 := by kernel_rfl
theorem lk163 : AM.lkp 163 TT = some ti163 := by kernel_rfl
theorem lk164 : AM.lkp 164 TT = some ti164 := by kernel_rfl
theorem lk165 : AM.lkp 165 TT = some ti165 := by kernel_rfl
theorem tok1 : TIOK Tryd.prog 1 ti1 := ⟨by kernel_rfl, by kernel_rfl, by kernel_rfl⟩
theorem tok2 : TIOK Tryd.prog 2 ti2 := ⟨by kernel_rfl, by kernel_rfl, by kernel_rfl⟩
theorem tok3 : TIOK Tryd.prog 3 ti3 := ⟨by kernel_rfl, by kernel_rfl, by kernel_rfl⟩
theorem tok4 : TIOK Tryd.prog 4 ti4 := ⟨by kernel_rfl, by kernel_rfl, by kernel_rfl⟩
theorem tok5 : TIOK Tryd.prog 5 ti5 := ⟨by kernel_rfl, by kernel_rfl, by kernel_rfl⟩
theorem tok6 : TIOK Tryd.prog 6 ti6 := ⟨by kernel_rfl, by kernel_rfl, by kernel_rfl⟩
theorem tok7 : TIOK Tryd.prog 7 ti7 := ⟨by kernel_rfl, by kernel_rfl, by kernel_rfl⟩
theorem tok8 : TIOK Tryd.prog 8 ti8 := ⟨by kernel_rfl, by kernel_rfl, by kernel_rfl⟩
theorem tok9 : TIOK Tryd.prog 9 ti9 := ⟨by kernel_rfl, by kernel_rfl, by kernel_rfl⟩
theorem tok10 : TIOK Tryd.prog 10 ti10 := ⟨by kernel_rfl, by kernel_rfl, by kernel_rfl⟩
theorem tok11 : TIOK Tryd.prog 11 ti11 := ⟨by kernel_rfl, by kernel_rfl, by kernel_rfl⟩
theorem tok12 : TIOK Tryd.prog 12 ti12 := ⟨by kernel_rfl, by kernel_rfl, by kernel_rfl⟩
theorem tok13 : TIOK Tryd.prog 13 ti13 := ⟨by kernel_rfl, by kernel_rfl, by kernel_rfl⟩
theorem tok14 : TIOK Tryd.prog 14 ti14 := ⟨by kernel_rfl, by kernel_rfl, by kernel_rfl⟩
theorem tok15 : TIOK Tryd.prog 15 ti15 := ⟨by kernel_rfl, by kernel_rfl, by kernel_rfl⟩
theorem tok16 : TIOK Tryd.prog 16 ti16 := ⟨by kernel_rfl, by kernel_rfl, by kernel_rfl⟩
theorem tok17 : TIOK Tryd.prog 17 ti17 := ⟨by kernel_rfl, by kernel_rfl, by kernel_rfl⟩
theorem tok18 : TIOK Tryd.prog 18 ti18 := ⟨by kernel_rfl, by kernel_rfl, by kernel_rfl⟩
theorem tok19 : TIOK Tryd.prog 19 ti19 := ⟨by kernel_rfl, by kernel_rfl, by kernel_rfl⟩
theorem tok20 : TIOK Tryd.prog 20 ti20 := ⟨by kernel_rfl, by kernel_rfl, by kernel_rfl⟩
theorem tok21 : TIOK Tryd.prog 21 ti21 := ⟨by kernel_rfl, by kernel_rfl, by kernel_rfl⟩
theorem tok22 : TIOK Tryd.prog 22 ti22 := ⟨by kernel_rfl, by kernel_rfl, by kernel_rfl⟩
theorem tok23 : TIOK Tryd.prog 23 ti23 := ⟨by kernel_rfl, by kernel_rfl, by kernel_rfl⟩
theorem tok24 : TIOK Tryd.prog 24 ti24 := ⟨by kernel_rfl, by kernel_rfl, by kernel_rfl⟩
theorem tok25 : TIOK Tryd.prog 25 ti25 := ⟨by kernel_rfl, by kernel_rfl, by kernel_rfl⟩
theorem tok27 : TIOK Tryd.prog 27 ti27 := ⟨by kernel_rfl, by kernel_rfl, by kernel_rfl⟩
theorem tok28 : TIOK Tryd.prog 28 ti28 := ⟨by kernel_rfl, by kernel_rfl, by kernel_rfl⟩
theorem tok29 : TIOK Tryd.prog 29 ti29 := ⟨by kernel_rfl, by kernel_rfl, by kernel_rfl⟩
theorem tok30 : TIOK Tryd.prog 30 ti30 := ⟨by kernel_rfl, by kernel_rfl, by kernel_rfl⟩
theorem tok31 : TIOK Tryd.prog 31 ti31 := ⟨by kernel_rfl, by kernel_rfl, by kernel_rfl⟩
theorem tok32 : TIOK Tryd.prog 32 ti32 := ⟨by kernel_rfl, by kernel_rfl, by kernel_rfl⟩
theorem tok34 : TIOK Tryd.prog 34 ti34 := ⟨by kernel_rfl, by kernel_rfl, by kernel_rfl⟩
theorem tok36 : TIOK Tryd.prog 36 ti36 := ⟨by kernel_rfl, by kernel_rfl, by kernel_rfl⟩
theorem tok37 : TIOK Tryd.prog 37 ti37 := ⟨by kernel_rfl, by kernel_rfl, by kernel_rfl⟩
theorem tok38 : TIOK Tryd.prog 38 ti38 := ⟨by kernel_rfl, by kernel_rfl, by kernel_rfl⟩
theorem tok39 : TIOK Tryd.prog 39 ti39 := ⟨by kernel_rfl, by kernel_rfl, by kernel_rfl⟩
theorem tok40 : TIOK Tryd.prog 40 ti40 := ⟨by kernel_rfl, by kernel_rfl, by kernel_rfl⟩
theorem tok41 : TIOK Tryd.prog 41 ti41 := ⟨by kernel_rfl, by kernel_rfl, by kernel_rfl⟩
theorem tok43 : TIOK Tryd.prog 43 ti43 := ⟨by kernel_rfl, by kernel_rfl, by kernel_rfl⟩
theorem tok44 : TIOK Tryd.prog 44 ti44 := ⟨by kernel_rfl, by kernel_rfl, by kernel_rfl⟩
theorem tok45 : TIOK Tryd.prog 45 ti45 := ⟨by kernel_rfl, by kernel_rfl, by kernel_rfl⟩
theorem tok46 : TIOK Tryd.prog 46 ti46 := ⟨by kernel_rfl, by kernel_rfl, by kernel_rfl⟩
theorem tok47 : TIOK Tryd.prog 47 ti47 := ⟨by kernel_rfl, by kernel_rfl, by kernel_rfl⟩
theorem tok48 : TIOK Tryd.prog 48 ti48 := ⟨by kernel_rfl, by kernel_rfl, by kernel_rfl⟩
theorem tok49 : TIOK Tryd.prog 49 ti49 := ⟨by kernel_rfl, by kernel_rfl, by kernel_rfl⟩
theorem tok50 : TIOK Tryd.prog 50 ti50 := ⟨by kernel_rfl, by kernel_rfl, by kernel_rfl⟩
theorem tok51 : TIOK Tryd.prog 51 ti51 := ⟨by kernel_rfl, by kernel_rfl, by kernel_rfl⟩
theorem tok52 : TIOK Tryd.prog 52 ti52 := ⟨by kernel_rfl, by kernel_rfl, by kernel_rfl⟩
theorem tok53 : TIOK Tryd.prog 53 ti53 := ⟨by kernel_rfl, by kernel_rfl, by kernel_rfl⟩
theorem tok54 : TIOK Tryd.prog 54 ti54 := ⟨by kernel_rfl, by kernel_rfl, by kernel_rfl⟩
theorem tok55 : TIOK Tryd.prog 55 ti55 := ⟨by kernel_rfl, by kernel_rfl, by kernel_rfl⟩
theorem tok56 : TIOK Tryd.prog 56 ti56 := ⟨by kernel_rfl, by kernel_rfl, by kernel_rfl⟩
theorem tok58 : TIOK Tryd.prog 58 ti58 := ⟨by kernel_rfl, by kernel_rfl, by kernel_rfl⟩
theorem tok59 : TIOK Tryd.prog 59 ti59 := ⟨by kernel_rfl, by kernel_rfl, by kernel_rfl⟩
theorem tok61 : TIOK Tryd.prog 61 ti61 := ⟨by kernel_rfl, by kernel_rfl, by kernel_rfl⟩
theorem tok63 : TIOK Tryd.prog 63 ti63 := ⟨by kernel_rfl, by kernel_rfl, by kernel_rfl⟩
theorem tok64 : TIOK Tryd.prog 64 ti64 := ⟨by kernel_rfl, by kernel_rfl, by kernel_rfl⟩
theorem tok65 : TIOK Tryd.prog 65 ti65 := ⟨by kernel_rfl, by kernel_rfl, by kernel_rfl⟩
theorem tok66 : TIOK Tryd.prog 66 ti66 := ⟨by kernel_rfl, by kernel_rfl, by kernel_rfl⟩
theorem tok67 : TIOK Tryd.prog 67 ti67 := ⟨by kernel_rfl, by kernel_rfl, by kernel_rfl⟩
theorem tok68 : TIOK Tryd.prog 68 ti68 := ⟨by kernel_rfl, by kernel_rfl, by kernel_rfl⟩
theorem tok69 : TIOK Tryd.prog 69 ti69 := ⟨by kernel_rfl, by kernel_rfl, by kernel_rfl⟩
theorem tok71 : TIOK Tryd.prog 71 ti71 := ⟨by kernel_rfl, by kernel_rfl, by kernel_rfl⟩
theorem tok72 : TIOK Tryd.prog 72 ti72 := ⟨by kernel_rfl, by kernel_rfl, by kernel_rfl⟩
theorem tok73 : TIOK Tryd.prog 73 ti73 := ⟨by kernel_rfl, by kernel_rfl, by kernel_rfl⟩
theorem tok74 : TIOK Tryd.prog 74 ti74 := ⟨by kernel_rfl, by kernel_rfl, by kernel_rfl⟩
theorem tok75 : TIOK Tryd.prog 75 ti75 := ⟨by kernel_rfl, by kernel_rfl, by kernel_rfl⟩
theorem tok76 : TIOK Tryd.prog 76 ti76 := ⟨by kernel_rfl, by kernel_rfl, by kernel_rfl⟩
theorem tok77 : TIOK Tryd.prog 77 ti77 := ⟨by kernel_rfl, by kernel_rfl, by kernel_rfl⟩
theorem tok78 : TIOK Tryd.prog 78 ti78 := ⟨by kernel_rfl, by kernel_rfl, by kernel_rfl⟩
theorem tok80 : TIOK Tryd.prog 80 ti80 := ⟨by kernel_rfl, by kernel_rfl, by kernel_rfl⟩
theorem tok81 : TIOK Tryd.prog 81 ti81 := ⟨by kernel_rfl, by kernel_rfl, by kernel_rfl⟩
theorem tok82 : TIOK Tryd.prog 82 ti82 := ⟨by kernel_rfl, by kernel_rfl, by kernel_rfl⟩
theorem tok83 : TIOK Tryd.prog 83 ti83 := ⟨by kernel_rfl, by kernel_rfl, by kernel_rfl⟩
theorem tok84 : TIOK Tryd.prog 84 ti84 := ⟨by kernel_rfl, by kernel_rfl, by kernel_rfl⟩
theorem tok85 : TIOK Tryd.prog 85 ti85 := ⟨by kernel_rfl, by kernel_rfl, by kernel_rfl⟩
theorem tok86 : TIOK Tryd.prog 86 ti86 := ⟨by kernel_rfl, by kernel_rfl, by kernel_rfl⟩
theorem tok87 : TIOK Tryd.prog 87 ti87 := ⟨by kernel_rfl, by kernel_rfl, by kernel_rfl⟩
theorem tok88 : TIOK Tryd.prog 88 ti88 := ⟨by kernel_rfl, by kernel_rfl, by kernel_rfl⟩
theorem tok90 : TIOK Tryd.prog 90 ti90 := ⟨by kernel_rfl, by kernel_rfl, by kernel_rfl⟩
theorem tok91 : TIOK Tryd.prog 91 ti91 := ⟨by kernel_rfl, by kernel_rfl, by kernel_rfl⟩
theorem tok93 : TIOK Tryd.prog 93 ti93 := ⟨by kernel_rfl, by kernel_rfl, by kernel_rfl⟩
theorem tok94 : TIOK Tryd.prog 94 ti94 := ⟨by kernel_rfl, by kernel_rfl, by kernel_rfl⟩
theorem tok95 : TIOK Tryd.prog 95 ti95 := ⟨by kernel_rfl, by kernel_rfl, by kernel_rfl⟩
theorem tok96 : TIOK Tryd.prog 96 ti96 := ⟨by kernel_rfl, by kernel_rfl, by kernel_rfl⟩
theorem tok97 : TIOK Tryd.prog 97 ti97 := ⟨by kernel_rfl, by kernel_rfl, by kernel_rfl⟩
theorem tok98 : TIOK Tryd.prog 98 ti98 := ⟨by kernel_rfl, by kernel_rfl, by kernel_rfl⟩
theorem tok99 : TIOK Tryd.prog 99 ti99 := ⟨by kernel_rfl, by kernel_rfl, by kernel_rfl⟩
theorem tok100 : TIOK Tryd.prog 100 ti100 := ⟨by kernel_rfl, by kernel_rfl, by kernel_rfl⟩
theorem tok101 : TIOK Tryd.prog 101 ti101 := ⟨by kernel_rfl, by kernel_rfl, by kernel_rfl⟩
theorem tok102 : TIOK Tryd.prog 102 ti102 := ⟨by kernel_rfl, by kernel_rfl, by kernel_rfl⟩
theorem tok104 : TIOK Tryd.prog 104 ti104 := ⟨by kernel_rfl, by kernel_rfl, by kernel_rfl⟩
theorem tok105 : TIOK Tryd.prog 105 ti105 := ⟨by kernel_rfl, by kernel_rfl, by kernel_rfl⟩
theorem tok106 : TIOK Tryd.prog 106 ti106 := ⟨by kernel_rfl, by kernel_rfl, by kernel_rfl⟩
theorem tok107 : TIOK Tryd.prog 107 ti107 := ⟨by kernel_rfl, by kernel_rfl, by kernel_rfl⟩
theorem tok108 : TIOK Tryd.prog 108 ti108 := ⟨by kernel_rfl, by kernel_rfl, by kernel_rfl⟩
theorem tok109 : TIOK Tryd.prog 109 ti109 := ⟨by kernel_rfl, by kernel_rfl, by kernel_rfl⟩
theorem tok110 : TIOK Tryd.prog 110 ti110 := ⟨by kernel_rfl, by kernel_rfl, by kernel_rfl⟩
theorem tok111 : TIOK Tryd.prog 111 ti111 := ⟨by kernel_rfl, by kernel_rfl, by kernel_rfl⟩
theorem tok112 : TIOK Tryd.prog 112 ti112 := ⟨by kernel_rfl, by kernel_rfl, by kernel_rfl⟩
theorem tok113 : TIOK Tryd.prog 113 ti113 := ⟨by kernel_rfl, by kernel_rfl, by kernel_rfl⟩
theorem tok114 : TIOK Tryd.prog 114 ti114 := ⟨by kernel_rfl, by kernel_rfl, by kernel_rfl⟩
theorem tok115 : TIOK Tryd.prog 115 ti115 := ⟨by kernel_rfl, by kernel_rfl, by kernel_rfl⟩
theorem tok117 : TIOK Tryd.prog 117 ti117 := ⟨by kernel_rfl, by kernel_rfl, by kernel_rfl⟩
theorem tok118 : TIOK Tryd.prog 118 ti118 := ⟨by kernel_rfl, by kernel_rfl, by kernel_rfl⟩
theorem tok119 : TIOK Tryd.prog 119 ti119 := ⟨by kernel_rfl, by kernel_rfl, by kernel_rfl⟩
theorem tok120 : TIOK Tryd.prog 120 ti120 := ⟨by kernel_rfl, by kernel_rfl, by kernel_rfl⟩
theorem tok122 : TIOK Tryd.prog 122 ti122 := ⟨by kernel_rfl, by kernel_rfl, by kernel_rfl⟩
theorem tok123 : TIOK Tryd.prog 123 ti123 := ⟨by kernel_rfl, by kernel_rfl, by kernel_rfl⟩
theorem tok124 : TIOK Tryd.prog 124 ti124 := ⟨by kernel_rfl, by kernel_rfl, by kernel_rfl⟩
theorem tok125 : TIOK Tryd.prog 125 ti125 := ⟨by kernel_rfl, by kernel_rfl, by kernel_rfl⟩
theorem tok127 : TIOK Tryd.prog 127 ti127 := ⟨by kernel_rfl, by kernel_rfl, by kernel_rfl⟩
theorem tok128 : TIOK Tryd.prog 128 ti128 := ⟨by kernel_rfl, by kernel_rfl, by kernel_rfl⟩
theorem tok129 : TIOK Tryd.prog 129 ti129 := ⟨by kernel_rfl, by kernel_rfl, by kernel_rfl⟩
theorem tok130 : TIOK Tryd.prog 130 ti130 := ⟨by kernel_rfl, by kernel_rfl, by kernel_rfl⟩
theorem tok131 : TIOK Tryd.prog 131 ti131 := ⟨by kernel_rfl, by kernel_rfl, by kernel_rfl⟩
theorem tok132 : TIOK Tryd.prog 132 ti132 := ⟨by kernel_rfl, by kernel_rfl, by kernel_rfl⟩
theorem tok133 : TIOK Tryd.prog 133 ti133 := ⟨by kernel_rfl, by kernel_rfl, by kernel_rfl⟩
theorem tok134 : TIOK Tryd.prog 134 ti134 := ⟨by kernel_rfl, by kernel_rfl, by kernel_rfl⟩
theorem tok135 : TIOK Tryd.prog 135 ti135 := ⟨by kernel_rfl, by kernel_rfl, by kernel_rfl⟩
theorem tok136 : TIOK Tryd.prog 136 ti136 := ⟨by kernel_rfl, by kernel_rfl, by kernel_rfl⟩
theorem tok137 : TIOK Tryd.prog 137 ti137 := ⟨by kernel_rfl, by kernel_rfl, by kernel_rfl⟩
theorem tok139 : TIOK Tryd.prog 139 ti139 := ⟨by kernel_rfl, by kernel_rfl, by kernel_rfl⟩
theorem tok140 : TIOK Tryd.prog 140 ti140 := ⟨by kernel_rfl, by kernel_rfl, by kernel_rfl⟩
theorem tok141 : TIOK Tryd.prog 141 ti141 := ⟨by kernel_rfl, by kernel_rfl, by kernel_rfl⟩
theorem tok142 : TIOK Tryd.prog 142 ti142 := ⟨by kernel_rfl, by kernel_rfl, by kernel_rfl⟩
theorem tok143 : TIOK Tryd.prog 143 ti143 := ⟨by kernel_rfl, by kernel_rfl, by kernel_rfl⟩
theorem tok144 : TIOK Tryd.prog 144 ti144 := ⟨by kernel_rfl, by kernel_rfl, by kernel_rfl⟩
theorem tok145 : TIOK Tryd.prog 145 ti145 := ⟨by kernel_rfl, by kernel_rfl, by kernel_rfl⟩
theorem tok146 : TIOK Tryd.prog 146 ti146 := ⟨by kernel_rfl, by kernel_rfl, by kernel_rfl⟩
theorem tok147 : TIOK Tryd.prog 147 ti147 := ⟨by kernel_rfl, by kernel_rfl, by kernel_rfl⟩
theorem tok148 : TIOK Tryd.prog 148 ti148 := ⟨by kernel_rfl, by kernel_rfl, by kernel_rfl⟩
theorem tok149 : TIOK Tryd.prog 149 ti149 := ⟨by kernel_rfl, by kernel_rfl, by kernel_rfl⟩
theorem tok150 : TIOK Tryd.prog 150 ti150 := ⟨by kernel_rfl, by kernel_rfl, by kernel_rfl⟩
theorem tok151 : TIOK Tryd.prog 151 ti151 := ⟨by kernel_rfl, by kernel_rfl, by kernel_rfl⟩
theorem tok152 : TIOK Tryd.prog 152 ti152 := ⟨by kernel_rfl, by kernel_rfl, by kernel_rfl⟩
theorem tok153 : TIOK Tryd.prog 153 ti153 := ⟨by kernel_rfl, by kernel_rfl, by kernel_rfl⟩
theorem tok154 : TIOK Tryd.prog 154 ti154 := ⟨by kernel_rfl, by kernel_rfl, by kernel_rfl⟩
theorem tok155 : TIOK Tryd.prog 155 ti155 := ⟨by kernel_rfl, by kernel_rfl, by kernel_rfl⟩
theorem tok156 : TIOK Tryd.prog 156 ti156 := ⟨by kernel_rfl, by kernel_rfl, by kernel_rfl⟩
theorem tok157 : TIOK Tryd.prog 157 ti157 := ⟨by kernel_rfl, by kernel_rfl, by kernel_rfl⟩
theorem tok158 : TIOK Tryd.prog 158 ti158 := ⟨by kernel_rfl, by kernel_rfl, by kernel_rfl⟩
theorem tok159 : TIOK Tryd.prog 159 ti159 := ⟨by kernel_rfl, by kernel_rfl, by kernel_rfl⟩
theorem tok160 : TIOK Tryd.prog 160 ti160 := ⟨by kernel_rfl, by kernel_rfl, by kernel_rfl⟩
theorem tok161 : TIOK Tryd.prog 161 ti161 := ⟨by kernel_rfl, by kernel_rfl, by kernel_rfl⟩
theorem tok162 : TIOK Tryd.prog 162 ti162 := ⟨by kernel_rfl, by kernel_rfl, by kernel_rfl⟩
theorem tok163 : TIOK Tryd.prog 163 ti163 := ⟨by kernel_rfl, by kernel_rfl, by kernel_rfl⟩
theorem tok164 : TIOK Tryd.prog 164 ti164 := ⟨by kernel_rfl, by kernel_rfl, by kernel_rfl⟩
theorem tok165 : TIOK Tryd.prog 165 ti165 := ⟨by kernel_rfl, by kernel_rfl, by kernel_rfl⟩
theorem TTok : TOK Tryd.prog TT := TOK.of_list (show TOKL Tryd.prog TT from ⟨tok1, ⟨tok2, ⟨tok3, ⟨tok4, ⟨tok5, ⟨tok6, ⟨tok7, ⟨tok8, ⟨tok9, ⟨tok10, ⟨tok11, ⟨tok12, ⟨tok13, ⟨tok14, ⟨tok15, ⟨tok16, ⟨tok17, ⟨tok18, ⟨tok19, ⟨tok20, ⟨tok21, ⟨tok22, ⟨tok23, ⟨tok24, ⟨tok25, ⟨tok27, ⟨tok28, ⟨tok29, ⟨tok30, ⟨tok31, ⟨tok32, ⟨tok34, ⟨tok36, ⟨tok37, ⟨tok38, ⟨tok39, ⟨tok40, ⟨tok41, ⟨tok43, ⟨tok44, ⟨tok45, ⟨tok46, ⟨tok47, ⟨tok48, ⟨tok49, ⟨tok50, ⟨tok51, ⟨tok52, ⟨tok53, ⟨tok54, ⟨tok55, ⟨tok56, ⟨tok58, ⟨tok59, ⟨tok61, ⟨tok63, ⟨tok64, ⟨tok65, ⟨tok66, ⟨tok67, ⟨tok68, ⟨tok69, ⟨tok71, ⟨tok72, ⟨tok73, ⟨tok74, ⟨tok75, ⟨tok76, ⟨tok77, ⟨tok78, ⟨tok80, ⟨tok81, ⟨tok82, ⟨tok83, ⟨tok84, ⟨tok85, ⟨tok86, ⟨tok87, ⟨tok88, ⟨tok90, ⟨tok91, ⟨tok93, ⟨tok94, ⟨tok95, ⟨tok96, ⟨tok97, ⟨tok98, ⟨tok99, ⟨tok100, ⟨tok101, ⟨tok102, ⟨tok104, ⟨tok105, ⟨tok106, ⟨tok107, ⟨tok108, ⟨tok109, ⟨tok110, ⟨tok111, ⟨tok112, ⟨tok113, ⟨tok114, ⟨tok115, ⟨tok117, ⟨tok118, ⟨tok119, ⟨tok120, ⟨tok122, ⟨tok123, ⟨tok124, ⟨tok125, ⟨tok127, ⟨tok128, ⟨tok129, ⟨tok130, ⟨tok131, ⟨tok132, ⟨tok133, ⟨tok134, ⟨tok135, ⟨tok136, ⟨tok137, ⟨tok139, ⟨tok140, ⟨tok141, ⟨tok142, ⟨tok143, ⟨tok144, ⟨tok145, ⟨tok146, ⟨tok147, ⟨tok148, ⟨tok149, ⟨tok150, ⟨tok151, ⟨tok152, ⟨tok153, ⟨tok154, ⟨tok155, ⟨tok156, ⟨tok157, ⟨tok158, ⟨tok159, ⟨tok160, ⟨tok161, ⟨tok162, ⟨tok163, ⟨tok164, ⟨tok165, trivial⟩⟩⟩⟩⟩⟩⟩⟩⟩⟩⟩⟩⟩⟩⟩⟩⟩⟩⟩⟩⟩⟩⟩⟩⟩⟩⟩⟩⟩⟩⟩⟩⟩⟩⟩⟩⟩⟩⟩⟩⟩⟩⟩⟩⟩⟩⟩⟩⟩⟩⟩⟩⟩⟩⟩⟩⟩⟩⟩⟩⟩⟩⟩⟩⟩⟩⟩⟩⟩⟩⟩⟩⟩⟩⟩⟩⟩⟩⟩⟩⟩⟩⟩⟩⟩⟩⟩⟩⟩⟩⟩⟩⟩⟩⟩⟩⟩⟩⟩⟩⟩⟩⟩⟩⟩⟩⟩⟩⟩⟩⟩⟩⟩⟩⟩⟩⟩⟩⟩⟩⟩⟩⟩⟩⟩⟩⟩⟩⟩⟩⟩⟩⟩⟩⟩⟩⟩⟩⟩⟩⟩⟩⟩⟩⟩⟩⟩⟩⟩)
end Go.Proofs.YthhcbgdngmajlaaDoor
