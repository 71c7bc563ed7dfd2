/- Part 28 of the proof. -/
import Derived.Test.YtcbjbgaefighcaaGreatDoorT0
import Derived.Test.YtcbjbgaefighcaaGreatDoorT7
import Derived.Test.YtcbjbgaefighcaaGreatDoorT8
import Derived.Test.YtcbjbgaefighcaaGreatDoorT26
import Derived.Test.YtcbjbgaefighcaaGreatDoorT27
import Derived.KernelRfl
import Derived.Test.YtcbjbgaefighcaaGreatDoorProg
set_option linter.all false
namespace Go.Proofs.YtcbjbgaefighcaaGreatDoor
open Go Go.Ax Go.Ax.K Go.Proofs
def C41:LC:=.seq (.ops [o 4 (mc (.int .i64 0)),o 5 (mc (.nilIface))])<|.seq (.ops [o 6 (mv 0),o 7 (ca 105 [t 6])])<|.seq (.ops [o 8 (mv 0),o 9 (mv 0),o 10 (.nchk (t 9)),o 11 (fl 1 10),o 12 (ld 11),o 13 (mv 1),o 14 (.app 5 1 1 (t 12) (t 13)),o 15 (.nchk (t 8)),o 16 (fl 1 15),e (.store 1 (t 16) (t 14))])<|.seq (.ops [o 17 (mv 1),o 18 (.lenOf .str (t 17)),o 4 (mv 18),o 5 (mc (.nilIface))])<|.ret
theorem l41:Q8 Tryz.prog 41=some ⟨19,false,[.tmp 4,.tmp 5],C41⟩:=by kernel_rfl
def GX:LC:=.seq (.ops [o 4 (mc (.nilIface))])<|.seq (.ops [o 5 (mv 0),o 6 (ca 105 [t 5])])<|.seq (.ops [o 7 (mv 0),o 8 (mv 0),o 9 (.nchk (t 8)),o 10 (fl 1 9),o 11 (ld 10),o 12 (mv 1),o 13 (.bslice 5 1 1 [.int .u8 0] [(0,t 12)]),o 14 (.app 5 1 1 (t 11) (t 13)),o 15 (.nchk (t 7)),o 16 (fl 1 15),e (.store 1 (t 16) (t 14))])<|.seq (.ops [o 4 (mc (.nilIface))])<|.ret
theorem CK:Q8 Tryz.prog 238=some ⟨17,false,[.tmp 4],GX⟩:=by kernel_rfl
def BO:LC:=.seq (.ops [o 3 (.box 42 (t 0))])<|.seq (.seq (.ops [o 5 (fl 0 3),o 6 (ld 5),o 7 (ca 237 [t 6]),o 8 (mv 1),o 9 (bn .lss 7 8)])<|.cond (t 9) (.seq (.ops [o 10 (ld 2),o 11 (ca 238 [t 10,.const (.int .u8 40)])])<|.ops [o 12 (ld 2),e (.dfr (.func 238) [t 12,.const (.int .u8 41)])])<|.skip)<|.ops [o 13 (ld 2),o 14 (la 4 3),o 15 (ca 184 [t 13,t 14])]
theorem l236:Q8 Tryz.prog 236=some ⟨16,true,[],BO⟩:=by kernel_rfl
def BN:LC:=.seq (.ops [o 2 (mc (.int .i64 0))])<|.seq (.seq (.ops [o 5 (mv 0)])<|.block 0<|.seq (.ops [o 7 (bk .eql 5 (18)),o 6 (mv 7)])<|.cond (t 6) (.seq (.ops [o 2 (mc (.int .i64 0))])<|.ret)<|.seq (.seq (.ops [o 9 (bk .eql 5 (3)),o 8 (mv 9)])<|.cond (t 8) (.skip)<|.ops [o 10 (bk .eql 5 (4)),o 8 (mv 10)])<|.cond (t 8) (.seq (.ops [o 2 (mc (.int .i64 6))])<|.ret)<|.seq (.seq (.ops [o 12 (bk .eql 5 (1)),o 11 (mv 12)])<|.cond (t 11) (.skip)<|.seq (.ops [o 13 (bk .eql 5 (2)),o 11 (mv 13)])<|.cond (t 11) (.skip)<|.ops [o 14 (bk .eql 5 (19)),o 11 (mv 14)])<|.cond (t 11) (.seq (.ops [o 2 (mc (.int .i64 7))])<|.ret)<|.skip)<|.seq (.ops [o 16 (mv 0),o 17 (ca 239 [t 16]),o 15 (mv 17),o 18 (.ext (t 15) 0),o 19 (.ext (t 15) 1),o 3 (mv 18),o 4 (mv 19)])<|.seq (.ops [o 20 (mv 4),o 2 (mv 20)])<|.ret
theorem l237:Q8 Tryz.prog 237=some ⟨21,false,[.tmp 2],BN⟩:=by kernel_rfl
def Aq:LC:=.seq (.ops [o 1 (.box 42 (t 0)),⟨some 2,mc (.string ⟨#[]⟩),none⟩,o 3 (mc (.int .i64 0))])<|.seq (.seq (.ops [o 6 (la 4 1),o 7 (ca 139 [t 6]),o 4 (mv 7)])<|.seq (.ops [o 8 (mv 4),o 9 (bk .neq 8 (0))])<|.cond (t 9) (.seq (.ops [o 10 (mv 4),⟨some 2,mc (.string ⟨#[]⟩),none⟩,o 3 (mv 10)])<|.ret)<|.skip)<|.seq (.ops [o 5 (.alloc 102 [.pointer none,.slice none 0 0])])<|.seq (.ops [o 11 (la 4 1),o 12 (ca 184 [t 5,t 11])])<|.seq (.ops [o 13 (ca 49 [t 5]),o 2 (mv 13),o 3 (mc (.int .i64 0))])<|.ret
theorem l187:Q8 Tryz.prog 187=some ⟨14,false,[.tmp 2,.tmp 3],Aq⟩:=by kernel_rfl
def As:LC:=.seq (.ops [o 2 (.box 99 (t 0)),o 3 (.box 42 (t 1))])<|.seq (.ops [o 12 (.mkF (.func 236) [] [t 2]),o 4 (mv 12)])<|.seq (.ops [o 13 (fl 0 3),o 14 (ld 13)])<|.block 0<|.seq (.ops [o 47 (bk .eql 14 (1)),o 46 (mv 47)])<|.cond (t 46) (.draw (
w 0 (o 48<|ld 2)<|v 1 (o 49<|fl 2 3)<|w 2 (o 50<|ld 49)<|.eff (o 51 (ca 107 [t 50,.const (.int .i64 10)])) [0] (
.eff (o 52<|ca 41 [t 48,t 51]) [] (
.done) (
.nil)) (
.nil)))<|.seq (.ops [o 54 (bk .eql 14 (2)),o 53 (mv 54)])<|.cond (t 53) (.ops [o 55 (ld 2),o 56 (fl 1 3),o 57 (ld 56),o 58 (ca 41 [t 55,t 57])])<|.seq (.ops [o 60 (bk .eql 14 (3)),o 59 (mv 60)])<|.cond (t 59) (.seq (.ops [o 61 (ld 2),o 62 (ca 238 [t 61,.const (.int .u8 45)])])<|.seq (.ops [o 5 (mc (.int .i64 6))])<|.seq (.seq (.ops [o 63 (fl 3 3),o 64 (ld 63),o 65 (.idxS 4 (t 64) (.const (.int .i64 0))),o 66 (la 4 65),⟨some 6,.alloc 42 [.int .i64 0,.string ⟨#[]⟩,.int .i64 0,.slice none 0 0],none⟩,e (.store 4 (t 6) (t 66))])<|.seq (.ops [o 67 (fl 0 6),o 68 (ld 67),o 69 (bk .eql 68 (1)),o 70 (mv 69),gt 70 71 (fl 2 6),gt 70 72 (ld 71),gt 70 73 (bk .geq 72 (0)),o 74 (pa 70 73)])<|.cond (t 74) (.ops [o 5 (mc (.int .i64 8))])<|.skip)<|.ops [o 75 (mv 4),o 76 (fl 3 3),o 77 (ld 76),o 78 (.idxS 4 (t 77) (.const (.int .i64 0))),o 79 (la 4 78),o 80 (mv 5),o 81 (.call (t 75) [t 79,t 80])])<|.seq (.ops [o 83 (bk .eql 14 (4)),o 82 (mv 83)])<|.cond (t 82) (.seq (.ops [o 84 (ld 2),o 85 (ca 238 [t 84,.const (.int .u8 33)])])<|.ops [o 86 (mv 4),o 87 (fl 3 3),o 88 (ld 87),o 89 (.idxS 4 (t 88) (.const (.int .i64 0))),o 90 (la 4 89),o 91 (.call (t 86) [t 90,.const (.int .i64 6)])])<|.seq (.ops [o 93 (bk .eql 14 (18)),o 92 (mv 93)])<|.cond (t 92) (.seq (.ops [o 94 (mv 4),o 95 (fl 3 3),o 96 (ld 95),o 97 (.idxS 4 (t 96) (.const (.int .i64 0))),o 98 (la 4 97),o 99 (.call (t 94) [t 98,.const (.int .i64 1)])])<|.seq (.ops [o 100 (ld 2),⟨some 101,ca 41 [t 100,.const (.string ⟨#[32,63,32]⟩)],none⟩])<|.seq (.draw (
w 0 (o 102<|ld 2)<|v 1 (o 103<|fl 3 3)<|w 2 (o 104<|ld 103)<|v 3 (o 105 (.idxS 4 (t 104) (.const (.int .i64 1))))<|w 4 (o 106<|la 4 105)<|.eff (o 107<|ca 184 [t 102,t 106]) [] (
.done) (
.nil)))<|.seq (.ops [o 108 (ld 2),⟨some 109,ca 41 [t 108,.const (.string ⟨#[32,58,32]⟩)],none⟩])<|.draw (
w 0 (o 110<|ld 2)<|v 1 (o 111<|fl 3 3)<|w 2 (o 112<|ld 111)<|v 3 (o 113 (.idxS 4 (t 112) (.const (.int .i64 2))))<|w 4 (o 114<|la 4 113)<|.eff (o 115<|ca 184 [t 110,t 114]) [] (
.done) (
.nil)))<|.seq (.ops [o 117 (bk .eql 14 (19)),o 116 (mv 117)])<|.cond (t 116) (.seq (.ops [o 118 (ld 2),o 119 (fl 1 3),o 120 (ld 119),⟨some 121,.bin .add .num (t 120) (.const (.string ⟨#[40]⟩)),none⟩,o 122 (ca 41 [t 118,t 121])])<|.seq (.seq (.ops [o 123 (fl 3 3),o 124 (ld 123),o 125 (le 124),o 126 (mc (.int .i64 0))])<|.block 1<|.loop<|.seq (.ops [o 127 (bn .lss 126 125)])<|.seq (.cond (t 127) (.skip)<|.exit 1)<|.seq (.block 2<|.seq (.ops [o 128 (mv 126),o 129 (ix 4 124 126),o 130 (la 4 129),⟨some 8,.alloc 42 [.int .i64 0,.string ⟨#[]⟩,.int .i64 0,.slice none 0 0],none⟩,o 7 (mv 128),e (.store 4 (t 8) (t 130))])<|.seq (.seq (.ops [o 131 (mv 7),o 132 (bk .gtr 131 (0))])<|.cond (t 132) (.ops [o 133 (ld 2),⟨some 134,ca 41 [t 133,.const (.string ⟨#[44,32]⟩)],none⟩])<|.skip)<|.ops [o 135 (ld 2),o 136 (la 4 8),o 137 (ca 184 [t 135,t 136])])<|.ops [o 138 (bk .add 126 (1)),o 126 (mv 138)])<|.ops [o 139 (ld 2),o 140 (ca 238 [t 139,.const (.int .u8 41)])])<|.seq (.ops [o 16 (fl 0 3),o 17 (ld 16),o 18 (ca 239 [t 17]),o 15 (mv 18),o 19 (.ext (t 15) 0),o 20 (.ext (t 15) 1),o 9 (mv 19),o 10 (mv 20)])<|.seq (.ops [o 21 (mv 10),o 11 (mv 21)])<|.seq (.seq (.ops [o 22 (mv 10),o 23 (bk .eql 22 (3))])<|.cond (t 23) (.ops [o 24 (mv 11),o 25 (bk .add 24 (1)),o 11 (mv 25)])<|.skip)<|.seq (.ops [o 26 (mv 4),o 27 (fl 3 3),o 28 (ld 27),o 29 (.idxS 4 (t 28) (.const (.int .i64 0))),o 30 (la 4 29),o 31 (mv 11),o 32 (.call (t 26) [t 30,t 31])])<|.seq (.ops [o 33 (ld 2),o 34 (mv 9),⟨some 35,.bin .add .num (.const (.string ⟨#[32]⟩)) (t 34),none⟩,⟨some 36,.bin .add .num (t 35) (.const (.string ⟨#[32]⟩)),none⟩,o 37 (ca 41 [t 33,t 36])])<|.ops [o 38 (mv 4),o 39 (fl 3 3),o 40 (ld 39),o 41 (.idxS 4 (t 40) (.const (.int .i64 1))),o 42 (la 4 41),o 43 (mv 10),o 44 (bk .add 43 (1)),o 45 (.call (t 38) [t 42,t 44])]
theorem l184:Q8 Tryz.prog 184=some ⟨141,false,[],As⟩:=by kernel_rfl
def qQ:LC:=.seq (.ops [o 9 (mv 2),⟨some 10,ca 183 [.const (.string ⟨#[9]⟩),t 9],none⟩,o 6 (mv 10)])<|.seq (.ops [o 11 (mv 1),o 12 (le 11),o 13 (mc (.int .i64 0))])<|.block 0<|.loop<|.seq (.ops [o 14 (bn .lss 13 12)])<|.seq (.cond (t 14) (.skip)<|.exit 0)<|.seq (.block 1<|.seq (.ops [o 15 (ix 8 11 13),o 16 (la 8 15),⟨some 8,.alloc 175 [.int .i64 0,.string ⟨#[]⟩,.int .i64 0,.string ⟨#[]⟩,.int .i64 0,.slice none 0 0,.slice none 0 0,.slice none 0 0],none⟩,e (.store 8 (t 8) (t 16))])<|.seq (.ops [o 17 (mv 0),o 18 (mv 6),o 19 (ca 41 [t 17,t 18])])<|.seq (.seq (.ops [o 20 (fl 0 8),o 21 (ld 20)])<|.block 2<|.seq (.ops [o 23 (bk .eql 21 (1)),o 22 (mv 23)])<|.cond (t 22) (.ops [o 24 (mv 0),o 25 (fl 1 8),o 26 (ld 25),⟨some 27,.bin .add .num (.const (.string ⟨#[118,97,114,32]⟩)) (t 26),none⟩,⟨some 28,.bin .add .num (t 27) (.const (.string ⟨#[32,61,32]⟩)),none⟩,o 29 (ca 41 [t 24,t 28])])<|.seq (.ops [o 31 (bk .eql 21 (2)),o 30 (mv 31)])<|.cond (t 30) (.ops [o 32 (mv 0),o 33 (fl 1 8),o 34 (ld 33),⟨some 35,.bin .add .num (t 34) (.const (.string ⟨#[32,61,32]⟩)),none⟩,o 36 (ca 41 [t 32,t 35])])<|.seq (.ops [o 38 (bk .eql 21 (5)),o 37 (mv 38)])<|.cond (t 37) (.ops [o 39 (mv 0),⟨some 40,ca 41 [t 39,.const (.string ⟨#[114,101,116,117,114,110,32]⟩)],none⟩])<|.seq (.ops [o 42 (bk .eql 21 (3)),o 41 (mv 42)])<|.cond (t 41) (.ops [o 43 (mv 0),⟨some 44,ca 41 [t 43,.const (.string ⟨#[105,102,32,40]⟩)],none⟩])<|.seq (.ops [o 46 (bk .eql 21 (4)),o 45 (mv 46)])<|.cond (t 45) (.ops [o 47 (mv 0),⟨some 48,ca 41 [t 47,.const (.string ⟨#[119,104,105,108,101,32,40]⟩)],none⟩])<|.skip)<|.seq (.ops [o 49 (mv 0),o 50 (fl 2 8),o 51 (la 4 50),o 52 (ca 184 [t 49,t 51])])<|.seq (.seq (.ops [o 53 (fl 0 8),o 54 (ld 53),o 55 (bk .neq 54 (3)),o 56 (mv 55),gt 56 57 (fl 0 8),gt 56 58 (ld 57),gt 56 59 (bk .neq 58 (4)),o 60 (pa 56 59)])<|.cond (t 60) (.seq (.ops [o 61 (mv 0),⟨some 62,ca 41 [t 61,.const (.string ⟨#[59,10]⟩)],none⟩])<|.exit 1)<|.skip)<|.seq (.ops [o 63 (mv 0),⟨some 64,ca 41 [t 63,.const (.string ⟨#[41,32,123,10]⟩)],none⟩])<|.seq (.ops [o 65 (mv 0),o 66 (fl 6 8),o 67 (ld 66),o 68 (mv 2),o 69 (bk .add 68 (1)),o 70 (ca 108 [t 65,t 67,t 69])])<|.seq (.seq (.ops [o 71 (fl 7 8),o 72 (ld 71),o 73 (le 72),o 74 (bk .gtr 73 (0))])<|.cond (t 74) (.seq (.ops [o 75 (mv 0),o 76 (mv 6),⟨some 77,.bin .add .num (t 76) (.const (.string ⟨#[125,32,101,108,115,101,32,123,10]⟩)),none⟩,o 78 (ca 41 [t 75,t 77])])<|.ops [o 79 (mv 0),o 80 (fl 7 8),o 81 (ld 80),o 82 (mv 2),o 83 (bk .add 82 (1)),o 84 (ca 108 [t 79,t 81,t 83])])<|.skip)<|.ops [o 85 (mv 0),o 86 (mv 6),⟨some 87,.bin .add .num (t 86) (.const (.string ⟨#[125,10]⟩)),none⟩,o 88 (ca 41 [t 85,t 87])])<|.ops [o 89 (bk .add 13 (1)),o 13 (mv 89)]
theorem l108:Q8 Tryz.prog 108=some ⟨90,false,[],qQ⟩:=by kernel_rfl
def C44:LC:=.seq (.ops [⟨some 2,mc (.string ⟨#[]⟩),none⟩,o 3 (mc (.int .i64 0))])<|.seq (.seq (.ops [o 8 (mv 0),o 9 (ca 59 [t 8]),o 4 (mv 9)])<|.seq (.ops [o 10 (mv 4),o 11 (bk .neq 10 (0))])<|.cond (t 11) (.seq (.ops [o 12 (mv 4),⟨some 2,mc (.string ⟨#[]⟩),none⟩,o 3 (mv 12)])<|.ret)<|.skip)<|.seq (.ops [o 5 (.alloc 102 [.pointer none,.slice none 0 0])])<|.seq (.seq (.ops [o 13 (mv 0),o 14 (le 13),o 15 (mc (.int .i64 0))])<|.block 0<|.loop<|.seq (.ops [o 16 (bn .lss 15 14)])<|.seq (.cond (t 16) (.skip)<|.exit 0)<|.seq (.block 1<|.seq (.ops [o 17 (ix 3 13 15),o 18 (la 3 17),⟨some 7,.alloc 80 [.string ⟨#[]⟩,.slice none 0 0,.slice none 0 0],none⟩,e (.store 3 (t 7) (t 18))])<|.seq (.draw (
v 0 (o 19<|fl 0 7)<|w 1 (o 20<|ld 19)<|v 2 (⟨some 21,.bin .add .num (.const (.string ⟨#[102,117,110,99,32]⟩)) (t 20),none⟩)<|v 3 (⟨some 22,.bin .add .num (t 21) (.const (.string ⟨#[40]⟩)),none⟩)<|v 4 (o 23<|fl 1 7)<|w 5 (o 24<|ld 23)<|.eff ⟨some 25,ca 42 [t 24,.const (.string ⟨#[44,32]⟩)],none⟩ [1] (
v 7 (o 26<|bn .add 22 25)<|v 8 (⟨some 27,.bin .add .num (t 26) (.const (.string ⟨#[41,32,123,10]⟩)),none⟩)<|.eff (o 28<|ca 41 [t 5,t 27]) [] (
.done) (
.nil)) (
.nil)))<|.seq (.ops [o 29 (fl 2 7),o 30 (ld 29),o 31 (ca 108 [t 5,t 30,.const (.int .i64 1)])])<|.ops [⟨some 32,ca 41 [t 5,.const (.string ⟨#[125,10]⟩)],none⟩])<|.ops [o 33 (bk .add 15 (1)),o 15 (mv 33)])<|.seq (.ops [o 34 (ca 49 [t 5]),o 2 (mv 34),o 3 (mc (.int .i64 0))])<|.ret
theorem l44:Q8 Tryz.prog 44=some ⟨35,false,[.tmp 2,.tmp 3],C44⟩:=by kernel_rfl
def C43:LC:=.seq (.ops [⟨some 2,mc (.string ⟨#[]⟩),none⟩])<|.seq (.ops [o 3 (mv 0),o 4 (ca 107 [t 3,.const (.int .i64 10)]),o 2 (mv 4)])<|.ret
theorem l43:Q8 Tryz.prog 43=some ⟨5,false,[.tmp 2],C43⟩:=by kernel_rfl
def C46:LC:=.seq (.ops [o 1 (.box 97 (t 0)),⟨some 2,mc (.string ⟨#[]⟩),none⟩])<|.seq (.draw (
v 0 (o 4<|fl 0 1)<|w 1 (o 5<|ld 4)<|v 2 (⟨some 6,.bin .add .num (.const (.string ⟨#[9,108,111,99,32]⟩)) (t 5),none⟩)<|v 3 (⟨some 7,.build [.string ⟨#[]⟩,.string ⟨#[]⟩,.string ⟨#[]⟩] [(0,1,.const (.string ⟨#[]⟩)),(1,1,.const (.string ⟨#[32,117,114,103,101,110,116]⟩)),(2,1,.const (.string ⟨#[32,99,111,109,109,105,116,116,101,100]⟩))],none⟩)<|v 4 (o 8<|fl 1 1)<|w 5 (o 9<|ld 8)<|v 6 (o 10 (.idxV 3 1 false (t 7) (t 9)))<|v 7 (o 11<|bn .add 6 10)<|v 8 (o 3<|mv 11)<|.done))<|.seq (.seq (.ops [o 12 (fl 2 1),o 13 (ld 12),o 14 (le 13),o 15 (bk .gtr 14 (0))])<|.cond (t 15) (.ops [o 16 (mv 3),o 17 (fl 2 1),o 18 (ld 17),o 19 (ca 109 [t 18]),⟨some 20,.bin .add .num (.const (.string ⟨#[32,105,110,118,32]⟩)) (t 19),none⟩,o 21 (bn .add 16 20),o 3 (mv 21)])<|.skip)<|.seq (.seq (.ops [o 22 (fl 3 1),o 23 (ld 22),o 24 (bk .neq 23 (0))])<|.cond (t 24) (.ops [o 25 (mv 3),o 26 (fl 3 1),o 27 (ld 26),o 28 (ca 43 [t 27]),⟨some 29,.bin .add .num (.const (.string ⟨#[32,114,97,116,101,32]⟩)) (t 28),none⟩,o 30 (bn .add 25 29),o 3 (mv 30)])<|.skip)<|.seq (.ops [o 31 (mv 3),⟨some 32,.bin .add .num (t 31) (.const (.string ⟨#[59,10]⟩)),none⟩,o 2 (mv 32)])<|.ret
theorem l46:Q8 Tryz.prog 46=some ⟨33,false,[.tmp 2],C46⟩:=by kernel_rfl
def C48:LC:=.seq (.ops [o 1 (.box 53 (t 0)),⟨some 2,mc (.string ⟨#[]⟩),none⟩])<|.seq (.ops [o 5 (fl 0 1),o 6 (ld 5),⟨some 7,.bin .add .num (.const (.string ⟨#[9,101,100,103,101,32]⟩)) (t 6),none⟩,⟨some 8,.bin .add .num (t 7) (.const (.string ⟨#[32,45,62,32]⟩)),none⟩,o 9 (fl 1 1),o 10 (ld 9),o 11 (bn .add 8 10),⟨some 3,.alloc 9 [.string ⟨#[]⟩],none⟩,e (.store 1 (t 3) (t 11))])<|.seq (.ops [o 12 (.mkF (.func 110) [] [t 3]),o 4 (mv 12)])<|.seq (.ops [o 13 (mv 4),o 14 (fl 2 1),o 15 (ld 14),o 16 (le 15),o 17 (bk .gtr 16 (0)),o 18 (.mkF (.func 111) [] [t 1]),⟨some 19,.call (t 13) [t 17,.const (.string ⟨#[119,104,101,110]⟩),t 18],none⟩])<|.seq (.ops [o 20 (mv 4),o 21 (fl 3 1),o 22 (la 4 21),o 23 (ca 112 [t 22]),o 24 (.un .not (t 23)),o 25 (.mkF (.func 113) [] [t 1]),⟨some 26,.call (t 20) [t 24,.const (.string ⟨#[105,102]⟩),t 25],none⟩])<|.seq (.ops [o 27 (mv 4),o 28 (fl 7 1),o 29 (ld 28),⟨some 30,.bin .neq .num (t 29) (.const (.string ⟨#[]⟩)),none⟩,o 31 (.mkF (.func 115) [] [t 1]),⟨some 32,.call (t 27) [t 30,.const (.string ⟨#[115,121,110,99]⟩),t 31],none⟩])<|.seq (.ops [o 33 (mv 4),o 34 (fl 9 1),o 35 (ld 34),o 36 (le 35),o 37 (bk .gtr 36 (0)),o 38 (.mkF (.func 116) [] [t 1]),⟨some 39,.call (t 33) [t 37,.const (.string ⟨#[100,111]⟩),t 38],none⟩])<|.seq (.ops [o 40 (mv 4),o 41 (fl 10 1),o 42 (ld 41),o 43 (le 42),o 44 (bk .gtr 43 (0)),o 45 (.mkF (.func 119) [] [t 1]),⟨some 46,.call (t 40) [t 44,.const (.string ⟨#[114,101,115,101,116]⟩),t 45],none⟩])<|.seq (.ops [o 47 (mv 4),o 48 (fl 11 1),o 49 (ld 48),o 50 (bk .neq 49 (0)),o 51 (.mkF (.func 122) [] [t 1]),⟨some 52,.call (t 47) [t 50,.const (.string ⟨#[99,111,115,116]⟩),t 51],none⟩])<|.seq (.ops [o 53 (mv 4),o 54 (fl 12 1),o 55 (ld 54),o 56 (bk .neq 55 (0)),o 57 (.mkF (.func 123) [] [t 1]),⟨some 58,.call (t 53) [t 56,.const (.string ⟨#[107,105,110,100]⟩),t 57],none⟩])<|.seq (.ops [o 59 (ld 3),⟨some 60,.bin .add .num (t 59) (.const (.string ⟨#[59,10]⟩)),none⟩,o 2 (mv 60)])<|.ret
theorem l48:Q8 Tryz.prog 48=some ⟨61,false,[.tmp 2],C48⟩:=by kernel_rfl
def qP:LC:=.seq (.ops [⟨some 2,mc (.string ⟨#[]⟩),none⟩])<|.seq (.ops [o 3 (mv 0),⟨some 4,ca 185 [t 3,.const (.string ⟨#[32,38,38,32]⟩),.func 186],none⟩,o 2 (mv 4)])<|.ret
theorem l109:Q8 Tryz.prog 109=some ⟨5,false,[.tmp 2],qP⟩:=by kernel_rfl
def Ar:LC:=.seq (.ops [o 1 (.box 179 (t 0)),⟨some 2,mc (.string ⟨#[]⟩),none⟩])<|.seq (.ops [⟨some 3,mc (.string ⟨#[60]⟩),none⟩])<|.seq (.seq (.ops [o 4 (fl 1 1),o 5 (ld 4)])<|.cond (t 5) (.ops [⟨some 3,mc (.string ⟨#[62]⟩),none⟩])<|.skip)<|.seq (.seq (.ops [o 6 (fl 2 1),o 7 (ld 6),o 8 (.un .not (t 7))])<|.cond (t 8) (.ops [o 9 (mv 3),⟨some 10,.bin .add .num (t 9) (.const (.string ⟨#[61]⟩)),none⟩,o 3 (mv 10)])<|.skip)<|.seq (.draw (
v 0 (o 11<|fl 0 1)<|w 1 (o 12<|ld 11)<|v 2 (⟨some 13,.bin .add .num (t 12) (.const (.string ⟨#[32]⟩)),none⟩)<|v 3 (o 14<|mv 3)<|v 4 (o 15<|bn .add 13 14)<|v 5 (⟨some 16,.bin .add .num (t 15) (.const (.string ⟨#[32]⟩)),none⟩)<|v 6 (o 17<|fl 3 1)<|w 7 (o 18<|ld 17)<|.eff (o 19<|ca 43 [t 18]) [1] (
v 9 (o 20<|bn .add 16 19)<|v 10 (o 2<|mv 20)<|.done) (
.nil)))<|.ret
theorem l186:Q8 Tryz.prog 186=some ⟨21,false,[.tmp 2],Ar⟩:=by kernel_rfl
def F0:LC:=.seq (.ops [o 7 (mv 0)])<|.cond (t 7) (.draw (
w 0 (o 8<|ld 3)<|v 1 (o 9<|mv 1)<|v 2 (⟨some 10,.bin .add .num (.const (.string ⟨#[32]⟩)) (t 9),none⟩)<|v 3 (⟨some 11,.bin .add .num (t 10) (.const (.string ⟨#[32]⟩)),none⟩)<|v 4 (o 12<|mv 2)<|.eff (o 13 (.call (t 12) [])) [0] (
v 6 (o 14<|bn .add 11 13)<|v 7 (o 15<|bn .add 8 14)<|.eff (e (.store 1 (t 3) (t 15))) [] (
.done) (
.nil)) (
.nil)))<|.skip
theorem l110:Q8 Tryz.prog 110=some ⟨16,false,[],F0⟩:=by kernel_rfl
def qO:LC:=.seq (.ops [⟨some 1,mc (.string ⟨#[]⟩),none⟩])<|.seq (.ops [o 2 (fl 2 0),o 3 (ld 2),o 4 (ca 109 [t 3]),o 1 (mv 4)])<|.ret
theorem l111:Q8 Tryz.prog 111=some ⟨5,false,[.tmp 1],qO⟩:=by kernel_rfl
def qM:LC:=.seq (.ops [⟨some 1,mc (.string ⟨#[]⟩),none⟩])<|.seq (.ops [o 2 (fl 3 0),o 3 (la 4 2),o 4 (ca 114 [t 3]),o 1 (mv 4)])<|.ret
theorem l113:Q8 Tryz.prog 113=some ⟨5,false,[.tmp 1],qM⟩:=by kernel_rfl
def qL:LC:=.seq (.ops [o 1 (.box 42 (t 0)),⟨some 2,mc (.string ⟨#[]⟩),none⟩])<|.seq (.ops [o 6 (la 4 1),o 7 (ca 187 [t 6]),o 5 (mv 7),o 8 (.ext (t 5) 0),o 9 (.ext (t 5) 1),o 3 (mv 8),o 4 (mv 9)])<|.seq (.ops [o 10 (mv 3),o 2 (mv 10)])<|.ret
theorem l114:Q8 Tryz.prog 114=some ⟨11,false,[.tmp 2],qL⟩:=by kernel_rfl
def qK:LC:=.seq (.ops [⟨some 1,mc (.string ⟨#[]⟩),none⟩])<|.seq (.seq (.ops [o 2 (fl 8 0),o 3 (ld 2)])<|.cond (t 3) (.seq (.ops [o 4 (fl 7 0),o 5 (ld 4),⟨some 6,.bin .add .num (t 5) (.const (.string ⟨#[33]⟩)),none⟩,o 1 (mv 6)])<|.ret)<|.skip)<|.seq (.ops [o 7 (fl 7 0),o 8 (ld 7),⟨some 9,.bin .add .num (t 8) (.const (.string ⟨#[63]⟩)),none⟩,o 1 (mv 9)])<|.ret
theorem l115:Q8 Tryz.prog 115=some ⟨10,false,[.tmp 1],qK⟩:=by kernel_rfl
def qJ:LC:=.seq (.ops [⟨some 1,mc (.string ⟨#[]⟩),none⟩])<|.seq (.ops [o 2 (fl 9 0),o 3 (ld 2),⟨some 4,ca 117 [t 3,.const (.string ⟨#[44,32]⟩),.func 118],none⟩,o 1 (mv 4)])<|.ret
theorem l116:Q8 Tryz.prog 116=some ⟨5,false,[.tmp 1],qJ⟩:=by kernel_rfl
def qI:LC:=.seq (.ops [o 1 (.box 56 (t 0)),⟨some 2,mc (.string ⟨#[]⟩),none⟩])<|.seq (.draw (
v 0 (o 3<|fl 0 1)<|w 1 (o 4<|ld 3)<|v 2 (⟨some 5,.bin .add .num (t 4) (.const (.string ⟨#[32,61,32]⟩)),none⟩)<|v 3 (o 6<|fl 1 1)<|w 4 (o 7<|la 4 6)<|.eff (o 8<|ca 114 [t 7]) [1] (
v 6 (o 9<|bn .add 5 8)<|v 7 (o 2<|mv 9)<|.done) (
.nil)))<|.ret
theorem l118:Q8 Tryz.prog 118=some ⟨10,false,[.tmp 2],qI⟩:=by kernel_rfl
def qH:LC:=.seq (.ops [⟨some 1,mc (.string ⟨#[]⟩),none⟩])<|.seq (.ops [o 2 (fl 10 0),o 3 (ld 2),⟨some 4,ca 120 [t 3,.const (.string ⟨#[44,32]⟩),.func 121],none⟩,o 1 (mv 4)])<|.ret
theorem l119:Q8 Tryz.prog 119=some ⟨5,false,[.tmp 1],qH⟩:=by kernel_rfl
def qG:LC:=.seq (.ops [o 1 (.box 163 (t 0)),⟨some 2,mc (.string ⟨#[]⟩),none⟩])<|.seq (.draw (
v 0 (o 3<|fl 0 1)<|w 1 (o 4<|ld 3)<|v 2 (⟨some 5,.bin .add .num (t 4) (.const (.string ⟨#[32,61,32]⟩)),none⟩)<|v 3 (o 6<|fl 1 1)<|w 4 (o 7<|ld 6)<|.eff (o 8<|ca 43 [t 7]) [1] (
v 6 (o 9<|bn .add 5 8)<|v 7 (o 2<|mv 9)<|.done) (
.nil)))<|.ret
theorem l121:Q8 Tryz.prog 121=some ⟨10,false,[.tmp 2],qG⟩:=by kernel_rfl
def qF:LC:=.seq (.ops [⟨some 1,mc (.string ⟨#[]⟩),none⟩])<|.seq (.ops [o 2 (fl 11 0),o 3 (ld 2),o 4 (ca 43 [t 3]),o 1 (mv 4)])<|.ret
theorem l122:Q8 Tryz.prog 122=some ⟨5,false,[.tmp 1],qF⟩:=by kernel_rfl
def qE:LC:=.seq (.ops [⟨some 1,mc (.string ⟨#[]⟩),none⟩])<|.seq (.ops [o 2 (fl 12 0),o 3 (ld 2),o 4 (ca 43 [t 3]),o 1 (mv 4)])<|.ret
theorem l123:Q8 Tryz.prog 123=some ⟨5,false,[.tmp 1],qE⟩:=by kernel_rfl
def C14:LC:=.seq (.ops [o 1 (.box 29 (t 0)),⟨some 2,mc (.string ⟨#[]⟩),none⟩,o 3 (mc (.int .i64 0))])<|.seq (.seq (.ops [o 14 (la 6 1),o 15 (ca 16 [t 14]),o 4 (mv 15)])<|.seq (.ops [o 16 (mv 4),o 17 (bk .neq 16 (0))])<|.cond (t 17) (.seq (.ops [o 18 (mv 4),⟨some 2,mc (.string ⟨#[]⟩),none⟩,o 3 (mv 18)])<|.ret)<|.skip)<|.seq (.ops [o 5 (.alloc 102 [.pointer none,.slice none 0 0])])<|.seq (.ops [o 19 (fl 0 1),o 20 (ld 19),⟨some 21,.bin .add .num (.const (.string ⟨#[109,111,100,101,108,32]⟩)) (t 20),none⟩,⟨some 22,.bin .add .num (t 21) (.const (.string ⟨#[59,10]⟩)),none⟩,o 23 (ca 41 [t 5,t 22])])<|.seq (.seq (.ops [o 24 (fl 1 1),o 25 (ld 24),o 26 (le 25),o 27 (bk .gtr 26 (0))])<|.cond (t 27) (.ops [o 28 (fl 1 1),o 29 (ld 28),⟨some 30,ca 42 [t 29,.const (.string ⟨#[44,32]⟩)],none⟩,⟨some 31,.bin .add .num (.const (.string ⟨#[99,108,111,99,107,32]⟩)) (t 30),none⟩,⟨some 32,.bin .add .num (t 31) (.const (.string ⟨#[59,10]⟩)),none⟩,o 33 (ca 41 [t 5,t 32])])<|.skip)<|.seq (.seq (.ops [o 34 (fl 2 1),o 35 (ld 34),o 36 (le 35),o 37 (mc (.int .i64 0))])<|.block 0<|.loop<|.seq (.ops [o 38 (bn .lss 37 36)])<|.seq (.cond (t 38) (.skip)<|.exit 0)<|.seq (.block 1<|.seq (.ops [o 39 (ix 4 35 37),o 40 (la 4 39),⟨some 7,.alloc 88 [.string ⟨#[]⟩,.int .i64 0,.int .i64 0,.int .i64 0],none⟩,e (.store 4 (t 7) (t 40))])<|.draw (
v 0 (o 41<|fl 0 7)<|w 1 (o 42<|ld 41)<|v 2 (⟨some 43,.bin .add .num (.const (.string ⟨#[118,97,114,32]⟩)) (t 42),none⟩)<|v 3 (⟨some 44,.bin .add .num (t 43) (.const (.string ⟨#[32,105,110,32]⟩)),none⟩)<|v 4 (o 45<|fl 1 7)<|w 5 (o 46<|ld 45)<|v 9 (o 50<|fl 2 7)<|w 10 (o 51<|ld 50)<|v 14 (o 55<|fl 3 7)<|w 15 (o 56<|ld 55)<|.eff (o 47<|ca 43 [t 46]) [15,10,1] (
v 7 (o 48<|bn .add 44 47)<|v 8 (⟨some 49,.bin .add .num (t 48) (.const (.string ⟨#[46,46]⟩)),none⟩)<|.eff (o 52<|ca 43 [t 51]) [15,1] (
v 12 (o 53<|bn .add 49 52)<|v 13 (⟨some 54,.bin .add .num (t 53) (.const (.string ⟨#[32,61,32]⟩)),none⟩)<|.eff (o 57<|ca 43 [t 56]) [1] (
v 17 (o 58<|bn .add 54 57)<|v 18 (⟨some 59,.bin .add .num (t 58) (.const (.string ⟨#[59,10]⟩)),none⟩)<|.eff (o 60<|ca 41 [t 5,t 59]) [] (
.done) (
.nil)) (
.nil)) (
.nil)) (
.nil)))<|.ops [o 61 (bk .add 37 (1)),o 37 (mv 61)])<|.seq (.seq (.ops [o 62 (fl 3 1),o 63 (ld 62),o 64 (le 63),o 65 (mc (.int .i64 0))])<|.block 2<|.loop<|.seq (.ops [o 66 (bn .lss 65 64)])<|.seq (.cond (t 66) (.skip)<|.exit 2)<|.seq (.block 3<|.seq (.ops [o 67 (ix 3 63 65),o 68 (la 3 67),⟨some 9,.alloc 90 [.string ⟨#[]⟩,.bool false,.bool false],none⟩,e (.store 3 (t 9) (t 68))])<|.seq (.seq (.ops [o 69 (fl 1 9),o 70 (ld 69)])<|.cond (t 70) (.ops [⟨some 71,ca 41 [t 5,.const (.string ⟨#[98,114,111,97,100,99,97,115,116,32]⟩)],none⟩])<|.skip)<|.seq (.seq (.ops [o 72 (fl 2 9),o 73 (ld 72)])<|.cond (t 73) (.ops [⟨some 74,ca 41 [t 5,.const (.string ⟨#[117,114,103,101,110,116,32]⟩)],none⟩])<|.skip)<|.ops [o 75 (fl 0 9),o 76 (ld 75),⟨some 77,.bin .add .num (.const (.string ⟨#[99,104,97,110,32]⟩)) (t 76),none⟩,⟨some 78,.bin .add .num (t 77) (.const (.string ⟨#[59,10]⟩)),none⟩,o 79 (ca 41 [t 5,t 78])])<|.ops [o 80 (bk .add 65 (1)),o 65 (mv 80)])<|.seq (.ops [o 82 (fl 4 1),o 83 (ld 82),o 84 (ca 44 [t 83]),o 81 (mv 84),o 85 (.ext (t 81) 0),o 86 (.ext (t 81) 1),o 10 (mv 85),o 11 (mv 86)])<|.seq (.ops [o 87 (mv 10),o 88 (ca 41 [t 5,t 87])])<|.seq (.seq (.ops [o 89 (fl 5 1),o 90 (ld 89),o 91 (le 90),o 92 (mc (.int .i64 0))])<|.block 4<|.loop<|.seq (.ops [o 93 (bn .lss 92 91)])<|.seq (.cond (t 93) (.skip)<|.exit 4)<|.seq (.block 5<|.seq (.ops [o 94 (ix 4 90 92),o 95 (la 4 94),⟨some 13,.alloc 48 [.string ⟨#[]⟩,.string ⟨#[]⟩,.slice none 0 0,.slice none 0 0],none⟩,e (.store 4 (t 13) (t 95))])<|.draw (
v 0 (o 96<|fl 0 13)<|w 1 (o 97<|ld 96)<|v 2 (⟨some 98,.bin .add .num (.const (.string ⟨#[112,114,111,99,101,115,115,32]⟩)) (t 97),none⟩)<|v 3 (⟨some 99,.bin .add .num (t 98) (.const (.string ⟨#[32,105,110,105,116,32]⟩)),none⟩)<|v 4 (o 100<|fl 1 13)<|w 5 (o 101<|ld 100)<|v 6 (o 102<|bn .add 99 101)<|v 7 (⟨some 103,.bin .add .num (t 102) (.const (.string ⟨#[32,123,10]⟩)),none⟩)<|v 8 (o 104<|fl 2 13)<|w 9 (o 105<|ld 104)<|v 12 (o 108<|fl 3 13)<|w 13 (o 109<|ld 108)<|.eff ⟨some 106,ca 45 [t 105,.const (.string ⟨#[]⟩),.func 46],none⟩ [13,5,1] (
v 11 (o 107<|bn .add 103 106)<|.eff ⟨some 110,ca 47 [t 109,.const (.string ⟨#[]⟩),.func 48],none⟩ [5,1] (
v 15 (o 111<|bn .add 107 110)<|v 16 (⟨some 112,.bin .add .num (t 111) (.const (.string ⟨#[125,10]⟩)),none⟩)<|.eff (o 113<|ca 41 [t 5,t 112]) [] (
.done) (
.nil)) (
.nil)) (
.nil)))<|.ops [o 114 (bk .add 92 (1)),o 92 (mv 114)])<|.seq (.ops [o 115 (ca 49 [t 5]),o 2 (mv 115),o 3 (mc (.int .i64 0))])<|.ret
theorem l14:Q8 Tryz.prog 14=some ⟨116,false,[.tmp 2,.tmp 3],C14⟩:=by kernel_rfl
def C18:LC:=.seq (.ops [o 2 (.box 29 (t 0)),o 3 (.box 29 (t 1)),o 4 (mc (.bool false))])<|.seq (.ops [o 5 (fl 0 2),o 6 (ld 5),o 7 (fl 0 3),o 8 (ld 7),o 9 (bn .eql 6 8),o 10 (mv 9),gt 10 11 (fl 1 2),gt 10 12 (ld 11),gt 10 13 (fl 1 3),gt 10 14 (ld 13),gt 10 15 (ca 65 [t 12,t 14]),o 16 (pa 10 15),o 17 (mv 16),gt 17 18 (fl 2 2),gt 17 19 (ld 18),gt 17 20 (fl 2 3),gt 17 21 (ld 20),gt 17 22 (ca 66 [t 19,t 21]),o 23 (pa 17 22),o 24 (mv 23),gt 24 25 (fl 3 2),gt 24 26 (ld 25),gt 24 27 (fl 3 3),gt 24 28 (ld 27),gt 24 29 (ca 67 [t 26,t 28]),o 30 (pa 24 29),o 31 (mv 30),gt 31 32 (fl 4 2),gt 31 33 (ld 32),gt 31 34 (fl 4 3),gt 31 35 (ld 34),gt 31 36 (ca 68 [t 33,t 35,.func 69]),o 37 (pa 31 36),o 38 (mv 37),gt 38 39 (fl 5 2),gt 38 40 (ld 39),gt 38 41 (fl 5 3),gt 38 42 (ld 41),gt 38 43 (ca 70 [t 40,t 42,.func 71]),o 44 (pa 38 43),o 4 (mv 44)])<|.ret
theorem l18:Q8 Tryz.prog 18=some ⟨45,false,[.tmp 4],C18⟩:=by kernel_rfl
def C69:LC:=.seq (.ops [o 2 (.box 80 (t 0)),o 3 (.box 80 (t 1)),o 4 (mc (.bool false))])<|.seq (.ops [o 5 (fl 0 2),o 6 (ld 5),o 7 (fl 0 3),o 8 (ld 7),o 9 (bn .eql 6 8),o 10 (mv 9),gt 10 11 (fl 1 2),gt 10 12 (ld 11),gt 10 13 (fl 1 3),gt 10 14 (ld 13),gt 10 15 (ca 65 [t 12,t 14]),o 16 (pa 10 15),o 17 (mv 16),gt 17 18 (fl 2 2),gt 17 19 (ld 18),gt 17 20 (fl 2 3),gt 17 21 (ld 20),gt 17 22 (ca 147 [t 19,t 21,.func 148]),o 23 (pa 17 22),o 4 (mv 23)])<|.ret
theorem l69:Q8 Tryz.prog 69=some ⟨24,false,[.tmp 4],C69⟩:=by kernel_rfl
def C71:LC:=.seq (.ops [o 2 (.box 48 (t 0)),o 3 (.box 48 (t 1)),o 4 (mc (.bool false))])<|.seq (.ops [o 5 (fl 0 2),o 6 (ld 5),o 7 (fl 0 3),o 8 (ld 7),o 9 (bn .eql 6 8),o 10 (mv 9),gt 10 11 (fl 1 2),gt 10 12 (ld 11),gt 10 13 (fl 1 3),gt 10 14 (ld 13),gt 10 15 (bn .eql 12 14),o 16 (pa 10 15),o 17 (mv 16),gt 17 18 (fl 2 2),gt 17 19 (ld 18),gt 17 20 (fl 2 3),gt 17 21 (ld 20),gt 17 22 (ca 149 [t 19,t 21,.func 150]),o 23 (pa 17 22),o 24 (mv 23),gt 24 25 (fl 3 2),gt 24 26 (ld 25),gt 24 27 (fl 3 3),gt 24 28 (ld 27),gt 24 29 (ca 151 [t 26,t 28,.func 152]),o 30 (pa 24 29),o 4 (mv 30)])<|.ret
theorem l71:Q8 Tryz.prog 71=some ⟨31,false,[.tmp 4],C71⟩:=by kernel_rfl
def AQ:LC:=.seq (.ops [o 2 (.box 175 (t 0)),o 3 (.box 175 (t 1)),o 4 (mc (.bool false))])<|.seq (.ops [o 5 (fl 0 2),o 6 (ld 5),o 7 (fl 0 3),o 8 (ld 7),o 9 (bn .eql 6 8),o 10 (mv 9),gt 10 11 (fl 1 2),gt 10 12 (ld 11),gt 10 13 (fl 1 3),gt 10 14 (ld 13),gt 10 15 (bn .eql 12 14),o 16 (pa 10 15),o 17 (mv 16),gt 17 18 (fl 2 2),gt 17 19 (la 4 18),gt 17 20 (fl 2 3),gt 17 21 (la 4 20),gt 17 22 (ca 204 [t 19,t 21]),o 23 (pa 17 22),o 24 (mv 23),gt 24 25 (fl 6 2),gt 24 26 (ld 25),gt 24 27 (fl 6 3),gt 24 28 (ld 27),gt 24 29 (ca 147 [t 26,t 28,.func 148]),o 30 (pa 24 29),o 31 (mv 30),gt 31 32 (fl 7 2),gt 31 33 (ld 32),gt 31 34 (fl 7 3),gt 31 35 (ld 34),gt 31 36 (ca 147 [t 33,t 35,.func 148]),o 37 (pa 31 36),o 4 (mv 37)])<|.ret
theorem l148:Q8 Tryz.prog 148=some ⟨38,false,[.tmp 4],AQ⟩:=by kernel_rfl
def AP:LC:=.seq (.ops [o 2 (.box 97 (t 0)),o 3 (.box 97 (t 1)),o 4 (mc (.bool false))])<|.seq (.ops [o 5 (fl 0 2),o 6 (ld 5),o 7 (fl 0 3),o 8 (ld 7),o 9 (bn .eql 6 8),o 10 (mv 9),gt 10 11 (fl 1 2),gt 10 12 (ld 11),gt 10 13 (fl 1 3),gt 10 14 (ld 13),gt 10 15 (bn .eql 12 14),o 16 (pa 10 15),o 17 (mv 16),gt 17 18 (fl 3 2),gt 17 19 (ld 18),gt 17 20 (fl 3 3),gt 17 21 (ld 20),gt 17 22 (bn .eql 19 21),o 23 (pa 17 22),o 24 (mv 23),gt 24 25 (fl 2 2),gt 24 26 (ld 25),gt 24 27 (fl 2 3),gt 24 28 (ld 27),gt 24 29 (ca 205 [t 26,t 28]),o 30 (pa 24 29),o 4 (mv 30)])<|.ret
theorem l150:Q8 Tryz.prog 150=some ⟨31,false,[.tmp 4],AP⟩:=by kernel_rfl
def AO:LC:=.seq (.ops [o 2 (.box 53 (t 0)),o 3 (.box 53 (t 1)),o 4 (mc (.bool false))])<|.seq (.ops [o 5 (fl 0 2),o 6 (ld 5),o 7 (fl 0 3),o 8 (ld 7),o 9 (bn .eql 6 8),o 10 (mv 9),gt 10 11 (fl 1 2),gt 10 12 (ld 11),gt 10 13 (fl 1 3),gt 10 14 (ld 13),gt 10 15 (bn .eql 12 14),o 16 (pa 10 15),o 17 (mv 16),gt 17 18 (fl 7 2),gt 17 19 (ld 18),gt 17 20 (fl 7 3),gt 17 21 (ld 20),gt 17 22 (bn .eql 19 21),o 23 (pa 17 22),o 24 (mv 23),gt 24 25 (fl 8 2),gt 24 26 (ld 25),gt 24 27 (fl 8 3),gt 24 28 (ld 27),gt 24 29 (.bin .eql .bool (t 26) (t 28)),o 30 (pa 24 29),o 31 (mv 30),gt 31 32 (fl 11 2),gt 31 33 (ld 32),gt 31 34 (fl 11 3),gt 31 35 (ld 34),gt 31 36 (bn .eql 33 35),o 37 (pa 31 36),o 38 (mv 37),gt 38 39 (fl 12 2),gt 38 40 (ld 39),gt 38 41 (fl 12 3),gt 38 42 (ld 41),gt 38 43 (bn .eql 40 42),o 44 (pa 38 43),o 45 (mv 44),gt 45 46 (fl 2 2),gt 45 47 (ld 46),gt 45 48 (fl 2 3),gt 45 49 (ld 48),gt 45 50 (ca 205 [t 47,t 49]),o 51 (pa 45 50),o 52 (mv 51),gt 52 53 (fl 3 2),gt 52 54 (la 4 53),gt 52 55 (fl 3 3),gt 52 56 (la 4 55),gt 52 57 (ca 204 [t 54,t 56]),o 58 (pa 52 57),o 59 (mv 58),gt 59 60 (fl 9 2),gt 59 61 (ld 60),gt 59 62 (fl 9 3),gt 59 63 (ld 62),gt 59 64 (ca 206 [t 61,t 63,.func 207]),o 65 (pa 59 64),o 66 (mv 65),gt 66 67 (fl 10 2),gt 66 68 (ld 67),gt 66 69 (fl 10 3),gt 66 70 (ld 69),gt 66 71 (ca 208 [t 68,t 70]),o 72 (pa 66 71),o 4 (mv 72)])<|.ret
theorem l152:Q8 Tryz.prog 152=some ⟨73,false,[.tmp 4],AO⟩:=by kernel_rfl
def Ac:LC:=.seq (.ops [o 2 (.box 42 (t 0)),o 3 (.box 42 (t 1)),o 4 (mc (.bool false))])<|.seq (.ops [o 5 (fl 0 2),o 6 (ld 5),o 7 (fl 0 3),o 8 (ld 7),o 9 (bn .eql 6 8),o 10 (mv 9),gt 10 11 (fl 1 2),gt 10 12 (ld 11),gt 10 13 (fl 1 3),gt 10 14 (ld 13),gt 10 15 (bn .eql 12 14),o 16 (pa 10 15),o 17 (mv 16),gt 17 18 (fl 2 2),gt 17 19 (ld 18),gt 17 20 (fl 2 3),gt 17 21 (ld 20),gt 17 22 (bn .eql 19 21),o 23 (pa 17 22),o 24 (mv 23),gt 24 25 (fl 3 2),gt 24 26 (ld 25),gt 24 27 (fl 3 3),gt 24 28 (ld 27),gt 24 29 (ca 244 [t 26,t 28,.func 204]),o 30 (pa 24 29),o 4 (mv 30)])<|.ret
theorem l204:Q8 Tryz.prog 204=some ⟨31,false,[.tmp 4],Ac⟩:=by kernel_rfl
def Aa:LC:=.seq (.ops [o 2 (.box 56 (t 0)),o 3 (.box 56 (t 1)),o 4 (mc (.bool false))])<|.seq (.ops [o 5 (fl 0 2),o 6 (ld 5),o 7 (fl 0 3),o 8 (ld 7),o 9 (bn .eql 6 8),o 10 (mv 9),gt 10 11 (fl 1 2),gt 10 12 (la 4 11),gt 10 13 (fl 1 3),gt 10 14 (la 4 13),gt 10 15 (ca 204 [t 12,t 14]),o 16 (pa 10 15),o 4 (mv 16)])<|.ret
theorem l207:Q8 Tryz.prog 207=some ⟨17,false,[.tmp 4],Aa⟩:=by kernel_rfl
end Go.Proofs.YtcbjbgaefighcaaGreatDoor
namespace Go.Proofs.YtcbjbgaefighcaaGreatDoor
open Go Go.Ax Go.Proofs
abbrev Bh (s:Bs):List AV:=s.map fun c=>.raw (Yz c)
structure Bd (A:Q3) (b:Nat) (bs:Bs) (B:Q3):Prop where
 ovr:Z7 A B
 nb:A b=none
 odd:b % 2=1
 hb:∃p v,B b=some (.cells [p,v])∧(p=.raw (.pointer none)∨p=.ptr b 0)∧((v=.raw (.slice none 0 0)∧bs=[])∨∃t,bs≠[]∧v=.slice 1 bs.length (Bh bs) (some t)∧A t=none∧t≠b∧t % 2=1∧B t=some .tip)
section
variable {A B:Q3}{b:Nat}{bs:Bs}
theorem Fv {k:Nat}{o:AObj}(h:Z7 A B)(hk:B k=none)(ho:∀es,o≠ .mp es)(hi:∀m l e,o≠ .mit m l e):Z7 (A.upd k (some o)) (B.upd k (some o)):=fun x=>by
 by_cases e:x=k
 ·subst e;exact .inl (by rw[Q0,Q0])
 ·rw[Q5 e,Q5 e]
  rcases h x with h1|⟨h1,h2⟩
  ·exact .inl h1
  ·refine .inr ⟨h1,fun es he j l y hj=> ?_⟩
   by_cases ej:j=k
   ·subst ej;rw[Q0]at hj;exact hi _ _ _ (lE hj)
   ·rw[Q5 ej]at hj;exact h2 es he j l y hj
theorem Bd.base0 (h:Bd A b bs B){k:Nat}{o:AObj}(hk:B k=none)(ho:∀es,o≠ .mp es)(hi:∀m l e,o≠ .mit m l e):Bd (A.upd k (some o)) b bs (B.upd k (some o)):={
 ovr:=Fv h.ovr hk ho hi
 nb:=by
  obtain⟨p,v,h1,_⟩:=h.hb
  rw[Q5 (Q6 h1 hk)];exact h.nb
 odd:=h.odd
 hb:=by
  obtain⟨p,v,h1,h2,h3⟩:=h.hb
  refine⟨p,v,(Q5 (Q6 h1 hk)).trans h1,h2,h3.imp id ?_⟩
  rintro⟨t,k0,k1,k2,k3,k4,k5⟩
  have e:=Q6 k5 hk
  exact⟨t,k0,k1,(Q5 e).trans k2,k3,k4,(Q5 e).trans k5⟩}
theorem Bd.base (h:Bd A b bs B){k:Nat}{cs:List AV}(hk:B k=none):Bd (A.upd k (some (.cells cs))) b bs (B.upd k (some (.cells cs))):=h.base0 hk (by simp) (by simp)
theorem Bd.un0 {k:Nat}{o:AObj}(h:Bd (A.upd k (some o)) b bs B)(hk:A k=none)(ho:∀es,o≠ .mp es):Bd A b bs B:={
 ovr:=Z7.trans ((Z7.refl A).set hk (o:=some o) (by simpa using ho)) h.ovr
 nb:=(Q9 h.nb).2
 odd:=h.odd
 hb:=by
  obtain⟨p,v,h1,h2,h3⟩:=h.hb
  refine⟨p,v,h1,h2,h3.imp id ?_⟩
  rintro⟨t,k0,k1,k2,k3,k4,k5⟩
  exact⟨t,k0,k1,(Q9 k2).2,k3,k4,k5⟩}
theorem Bd.un {k:Nat}{cs:List AV}(h:Bd (A.upd k (some (.cells cs))) b bs B)(hk:A k=none):Bd A b bs B:=h.un0 hk (by simp)
theorem Bd.new (h:Bd A b bs B){k:Nat}{o:Option AObj}(hk:B k=none)(ho:∀es,o≠some (.mp es)):Bd A b bs (B.upd k o):={
 ovr:=h.ovr.set (h.ovr.gone hk) ho
 nb:=h.nb
 odd:=h.odd
 hb:=by
  obtain⟨p,v,h1,h2,h3⟩:=h.hb
  refine⟨p,v,(Q5 (Q6 h1 hk)).trans h1,h2,h3.imp id ?_⟩
  rintro⟨t,k0,k1,k2,k3,k4,k5⟩
  exact⟨t,k0,k1,k2,k3,k4,(Q5 (Q6 k5 hk)).trans k5⟩}
theorem HV (hb:A b=none)(ho:b % 2=1):Bd A b [] (A.upd b (some (.cells [.raw (.pointer none),.raw (.slice none 0 0)]))):=
 ⟨(Z7.refl A).set hb (by simp),hb,ho,_,_,Q0 ..,.inl rfl,.inl ⟨rfl,rfl⟩⟩
end
section
variable (G:Nat→Option (List AV))
theorem Bd.string {A B:Q3}{b:Nat}{bs:Bs}(h:Bd A b bs B)(hl:bs.length<2^62):Qu Tryz.prog G 49 [.ptr b 0] B (.str bs) B:=by
 obtain⟨p,v,h1,h2,h3⟩:=h.hb
 rcases h3 with⟨rfl,rfl⟩|⟨t,k0,rfl,k2,k3,k4,k5⟩
 ·exact f49n G h1 h.odd
 ·exact f49 G h1 h.odd k5 k4 k0 hl
theorem SR {C:Cx}{A B:Q3}{b m:Nat}{bs s:Bs}{d:Option Nat}{l:List LInstr}{st:List Fr}{env:Qo}{ds:List QU}{v:AV}(h:Bd A b bs B)(hb:B b=some (.cells [.ptr b 0,v]))(hm:m=s.length)(hl:bs.length+s.length≤140737488355328)
 (hk:∀v' B',v'.cells=[v']→v'.one=true→B' b=some (.cells [.ptr b 0,v])→Bd A b (bs++s) (B'.upd b (some (.cells [.ptr b 0,v'])))→C.ops l st (putD env d v') ds B'):C.appB (some (m,Bh s)) 1 1 v d l st env ds B:=by
 subst hm
 obtain⟨p,v0,h1,h2,h3⟩:=h.hb
 rw[hb]at h1
 simp only[cA,AObj.cells.injEq,fQ,and_true]at h1
 obtain⟨rfl,rfl⟩:=h1
 have hO:=h.ovr
 rcases h3 with⟨rfl,rfl⟩|⟨t,k0,rfl,k2,k3,k4,k5⟩
 ·rw[Ev]
  by_cases hs:s.length=0
  ·have hs0:s=[]:=fJ.1 hs
   subst hs0
   rw[fC hs]
   exact hk _ _ rfl rfl hb ⟨hO.set h.nb (by simp),h.nb,h.odd,_,_,Q0 ..,.inr rfl,.inl ⟨rfl,rfl⟩⟩
  ·rw[fD hs]
   refine⟨by simp at hl;omega,fun t ht hto=> ?_⟩
   have hbt:=Q6 hb ht
   refine hk _ _ rfl rfl ((Q5 hbt).trans hb) ⟨(hO.set (hO.gone ht) (by simp)).set h.nb (by simp),h.nb,h.odd,_,_,Q0 ..,.inr rfl,.inr ⟨t,?_,rfl,hO.gone ht,hbt.symm,hto,?_⟩⟩
   ·simpa using fun e=>hs (by simp [e])
   ·rw[Q5 hbt.symm,Q0]
 ·rw[Eu]
  refine⟨rfl,k5,by omega,?_,fun t' ht' hto=> ?_⟩
  ·simp [List.all_map,Function.comp_def,Yz,AV.one,Value.oneCell']
  have e1:=Q6 k5 ht'
  have hbt:=Q6 hb ht'
  refine hk _ _ rfl rfl ?_ ⟨((hO.set k2 (by simp)).set (hO.gone ht') (by simp)).set h.nb (by simp),h.nb,h.odd,_,_,Q0 ..,.inr rfl,.inr ⟨t',by simp [k0],?_,hO.gone ht',hbt.symm,hto k4,?_⟩⟩
  ·rw[Q5 hbt,Q5 k3.symm];exact hb
  ·simp
  ·rw[Q5 hbt.symm,Q0]
theorem U1 {A B:Q3}{b:Nat}{bs s:Bs}(h:Bd A b bs B)(hl:bs.length+s.length≤140737488355328):
 Qt Tryz.prog G 41 [.ptr b 0,.str s] B (fun o B'=>o=.ret (.tuple [i64 s.length,.raw .nilIface])∧Bd A b (bs++s) B'):=by
 obtain⟨p,v,h1,h2,h3⟩:=h.hb
 refine Q4 l41 (fE rfl) ?_
 simp only[C41,Q1,seval]
 refine Q2 (B8 G h1 h.odd h2) ?_
 have h':Bd A b bs (B.upd b (some (.cells [.ptr b 0,v]))):=by
  refine⟨h.ovr.set h.nb (by simp),h.nb,h.odd,_,_,Q0 ..,.inr rfl,h3.imp id ?_⟩
  rintro⟨t,k0,k1,k2,k3,k4,k5⟩
  exact⟨t,k0,k1,k2,k3,k4,(Q5 k3).trans k5⟩
 simp only[TY,UO,Q1,seval]
 refine SR (C:=Cx.of Tryz.prog G false _ _) h' (Q0 ..) rfl hl fun v' B' e1 e2 e3 e4=> ?_
 simp only[e1,e2,e3,Q1,seval]
 exact J0 (Wk.refl _) (U2.refl _) ⟨rfl,e4⟩
theorem Ng {C:Cx}(hP:C.P=Tryz.prog)(hG:C.G=G){A B:Q3}{b:Nat}{bs:Bs}{c:UInt8}(h:Bd A b bs B)(hl:bs.length+1≤140737488355328)
 (hk:∀env B',env 4=.raw .nilIface→Bd A b (bs++[c]) B'→C.ex .ret [] env [] B'):C.run GX [] (Jw [.ptr b 0,.raw (Yz c)]) [] B:=by
 obtain⟨P,G',rt,N,X⟩:=C
 simp only at hP hG
 subst hP hG
 obtain⟨p,v,h1,h2,h3⟩:=h.hb
 simp only[GX,Q1,seval]
 refine Q2 (B8 _ h1 h.odd h2) ?_
 have h':Bd A b bs (B.upd b (some (.cells [.ptr b 0,v]))):=by
  refine⟨h.ovr.set h.nb (by simp),h.nb,h.odd,_,_,Q0 ..,.inr rfl,h3.imp id ?_⟩
  rintro⟨t,k0,k1,k2,k3,k4,k5⟩
  exact⟨t,k0,k1,k2,k3,k4,(Q5 k3).trans k5⟩
 simp only[Q1,seval]
 refine QY (cs:=[.raw (Yz c)]) (Jf _ _ rfl (by decide)) fun t ht=> ?_
 obtain⟨htb,ht⟩:=Q9 ht
 have h':=h'.new (k:=t) (o:=some .tip) (by rw[Q5 htb];exact ht) (by simp)
 simp only[TY,UO,Q5 htb.symm,Q1,seval]
 refine SR (s:=[c]) h' (by rw[Q5 htb.symm,Q0]) rfl hl fun v' B' e1 e2 e3 e4=> ?_
 simp only[e1,e2,e3,Q1,seval]
 exact hk _ _ rfl e4
theorem SV {A B:Q3}{b:Nat}{bs:Bs}{c:UInt8}(h:Bd A b bs B)(hl:bs.length+1≤140737488355328):
 Qt Tryz.prog G 238 [.ptr b 0,.raw (Yz c)] B (fun o B'=>o=.ret (.raw .nilIface)∧Bd A b (bs++[c]) B'):=by
 refine Q4 CK (fE rfl) ?_
 refine Ng G rfl rfl h hl fun env B' e4 h'=> ?_
 simp only[e4,Q1,seval]
 exact J0 (Wk.refl _) (U2.refl _) ⟨rfl,h'⟩
theorem d238 {A B:Q3}{b:Nat}{bs:Bs}{c:UInt8}{pn:Option AV}(h:Bd A b bs B)(hl:bs.length+1≤140737488355328):
 K8 Tryz.prog G 238 [.ptr b 0,.raw (Yz c)] pn B (fun pn' B'=>pn'=pn∧Bd A b (bs++[c]) B'):=by
 refine PL CK (fE rfl) ?_
 refine Ng G rfl rfl h hl fun env B' e4 h'=> ?_
 rw[jY]
 exact J0 (Wk.refl _) (U2.refl _) ⟨_,rfl,rfl,h'⟩
end
end Go.Proofs.YtcbjbgaefighcaaGreatDoor
