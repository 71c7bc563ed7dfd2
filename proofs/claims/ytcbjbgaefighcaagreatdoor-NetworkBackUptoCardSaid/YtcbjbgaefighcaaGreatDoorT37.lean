/- Part 37 of the proof. -/
import Derived.Test.YtcbjbgaefighcaaGreatDoorT0
import Derived.Test.YtcbjbgaefighcaaGreatDoorT7
import Derived.Test.YtcbjbgaefighcaaGreatDoorT33
import Derived.KernelRfl
import Derived.Test.YtcbjbgaefighcaaGreatDoorProg
set_option linter.all false
namespace Go.Proofs.YtcbjbgaefighcaaGreatDoor
open Go Go.Ax Go.Ax.K Go.Proofs
def C73:LC:=.seq (.ops [o 1 (.box 42 (t 0)),o 2 (mc (.int .i64 0))])<|.seq (.seq (.ops [o 3 (la 4 1),o 4 (ca 153 [t 3]),o 5 (.un .not (t 4))])<|.cond (t 5) (.seq (.ops [o 2 (mc (.int .i64 2))])<|.ret)<|.skip)<|.seq (.seq (.ops [o 6 (la 4 1),o 7 (ca 154 [t 6]),o 8 (.un .not (t 7))])<|.cond (t 8) (.seq (.ops [o 2 (mc (.int .i64 3))])<|.ret)<|.skip)<|.seq (.ops [o 2 (mc (.int .i64 0))])<|.ret
theorem l73:Q8 Tryz.prog 73=some ⟨9,false,[.tmp 2],C73⟩:=by kernel_rfl
def GY:LC:=.seq (.ops [o 2 (mc (.bool false))])<|.seq (.seq (.ops [o 4 (mv 0),⟨some 5,.bin .eql .num (t 4) (.const (.string ⟨#[]⟩)),none⟩,o 6 (mv 5),gf 6 7 (mv 0),gf 6 8 (.lenOf .str (t 7)),gf 6 9 (bk .gtr 8 (16)),o 10 (po 6 9),o 11 (mv 10),gf 11 12 (mv 0),gf 11 13 (.idxStr (t 12) (.const (.int .i64 0))),gf 11 14 (ca 90 [t 13]),gf 11 15 (.un .not (t 14)),o 16 (po 11 15),o 17 (mv 16),gf 17 18 (ca 200 []),gf 17 19 (mv 0),gf 17 20 (ca 199 [t 18,t 19]),o 21 (po 17 20)])<|.cond (t 21) (.seq (.ops [o 2 (mc (.bool false))])<|.ret)<|.skip)<|.seq (.seq (.ops [o 3 (mc (.int .i64 0))])<|.block 0<|.loop<|.seq (.seq (.ops [o 22 (mv 3),o 23 (mv 0),o 24 (.lenOf .str (t 23)),o 25 (bn .lss 22 24)])<|.cond (t 25) (.skip)<|.exit 0)<|.seq (.block 1<|.seq (.ops [o 28 (mv 0),o 29 (mv 3),o 30 (.idxStr (t 28) (t 29)),o 31 (ca 90 [t 30]),o 32 (.un .not (t 31)),o 33 (mv 32),gt 33 34 (mv 0),gt 33 35 (mv 3),gt 33 36 (.idxStr (t 34) (t 35)),gt 33 37 (ca 91 [t 36]),gt 33 38 (.un .not (t 37)),o 39 (pa 33 38),o 40 (mv 39),gt 40 41 (mv 0),gt 40 42 (mv 3),gt 40 43 (.idxStr (t 41) (t 42)),gt 40 44 (.bin .neq .num (t 43) (.const (.int .u8 95))),o 45 (pa 40 44)])<|.cond (t 45) (.seq (.ops [o 2 (mc (.bool false))])<|.ret)<|.skip)<|.ops [o 26 (mv 3),o 27 (bk .add 26 (1)),o 3 (mv 27)])<|.seq (.ops [o 2 (mc (.bool true))])<|.ret
theorem l140:Q8 Tryz.prog 140=some ⟨46,false,[.tmp 2],GY⟩:=by kernel_rfl
def AN:LC:=.seq (.ops [o 1 (.box 42 (t 0)),o 2 (mc (.bool false))])<|.seq (.ops [o 6 (fl 0 1),o 7 (ld 6),o 8 (ca 209 [t 7]),o 3 (mv 8)])<|.seq (.seq (.ops [o 9 (mv 3),o 10 (.bin .eql .num (t 9) (.const (.int .i64 (-2)))),o 11 (mv 10),gf 11 12 (mv 3),gf 11 13 (bk .geq 12 (0)),gf 11 14 (mv 13),gt 14 15 (fl 3 1),gt 14 16 (ld 15),gt 14 17 (le 16),gt 14 18 (mv 3),gt 14 19 (bn .neq 17 18),gf 11 20 (pa 14 19),o 21 (po 11 20),o 22 (mv 21),gf 22 23 (fl 2 1),gf 22 24 (ld 23),gf 22 25 (bk .neq 24 (0)),gf 22 26 (mv 25),gt 26 27 (fl 0 1),gt 26 28 (ld 27),gt 26 29 (bk .neq 28 (1)),gf 22 30 (pa 26 29),o 31 (po 22 30),o 32 (mv 31),gf 32 33 (fl 2 1),gf 32 34 (ld 33),gf 32 35 (.bin .lss .num (t 34) (.const (.int .i64 (-2147483648)))),o 36 (po 32 35),o 37 (mv 36),gf 37 38 (fl 2 1),gf 37 39 (ld 38),gf 37 40 (bk .gtr 39 (2147483648)),o 41 (po 37 40)])<|.cond (t 41) (.seq (.ops [o 2 (mc (.bool false))])<|.ret)<|.skip)<|.seq (.ops [o 42 (fl 0 1),o 43 (ld 42),o 44 (bk .eql 43 (2)),o 45 (mv 44),gf 45 46 (fl 0 1),gf 45 47 (ld 46),gf 45 48 (bk .eql 47 (19)),o 49 (po 45 48),o 4 (mv 49)])<|.seq (.seq (.ops [o 50 (mv 4),o 51 (mv 50),gt 51 52 (fl 1 1),gt 51 53 (ld 52),gt 51 54 (ca 140 [t 53]),gt 51 55 (.un .not (t 54)),o 56 (pa 51 55),o 57 (mv 56),gf 57 58 (mv 4),gf 57 59 (.un .not (t 58)),gf 57 60 (mv 59),gt 60 61 (fl 1 1),gt 60 62 (ld 61),⟨some 63,.bin .neq .num (t 62) (.const (.string ⟨#[]⟩)),some (60,true)⟩,gf 57 64 (pa 60 63),o 65 (po 57 64)])<|.cond (t 65) (.seq (.ops [o 2 (mc (.bool false))])<|.ret)<|.skip)<|.seq (.seq (.ops [o 5 (mc (.int .i64 0))])<|.block 0<|.loop<|.seq (.seq (.ops [o 66 (mv 5),o 67 (fl 3 1),o 68 (ld 67),o 69 (le 68),o 70 (bn .lss 66 69)])<|.cond (t 70) (.skip)<|.exit 0)<|.seq (.block 1<|.seq (.ops [o 73 (fl 3 1),o 74 (ld 73),o 75 (mv 5),o 76 (ix 4 74 75),o 77 (la 4 76),o 78 (ca 153 [t 77]),o 79 (.un .not (t 78))])<|.cond (t 79) (.seq (.ops [o 2 (mc (.bool false))])<|.ret)<|.skip)<|.ops [o 71 (mv 5),o 72 (bk .add 71 (1)),o 5 (mv 72)])<|.seq (.ops [o 2 (mc (.bool true))])<|.ret
theorem l153:Q8 Tryz.prog 153=some ⟨80,false,[.tmp 2],AN⟩:=by kernel_rfl
def AM:LC:=.seq (.ops [o 1 (.box 42 (t 0)),o 2 (mc (.bool false))])<|.seq (.ops [o 7 (la 4 1),o 8 (ca 210 [t 7]),o 6 (mv 8),o 9 (.ext (t 6) 0),o 10 (.ext (t 6) 1),o 11 (.ext (t 6) 2),o 3 (mv 9),o 4 (mv 10),o 5 (mv 11)])<|.seq (.ops [o 12 (mv 3),o 13 (bk .leq 12 (400)),o 14 (mv 13),gt 14 15 (mv 4),gt 14 16 (bk .leq 15 (30)),o 17 (pa 14 16),o 18 (mv 17),gt 18 19 (mv 5),o 20 (pa 18 19),o 2 (mv 20)])<|.ret
theorem l154:Q8 Tryz.prog 154=some ⟨21,false,[.tmp 2],AM⟩:=by kernel_rfl
def Ae:LC:=.seq (.ops [o 4 (mc (.bool false))])<|.seq (.seq (.ops [o 5 (mc (.int .i64 0))])<|.block 0<|.loop<|.seq (.seq (.ops [o 6 (mv 5),o 7 (mv 0),o 8 (le 7),o 9 (bn .lss 6 8)])<|.cond (t 9) (.skip)<|.exit 0)<|.seq (.block 1<|.seq (.ops [o 12 (mv 0),o 13 (mv 5),o 14 (ix 1 12 13),o 15 (ld 14),o 16 (mv 1),o 17 (bn .eql 15 16)])<|.cond (t 17) (.seq (.ops [o 4 (mc (.bool true))])<|.ret)<|.skip)<|.ops [o 10 (mv 5),o 11 (bk .add 10 (1)),o 5 (mv 11)])<|.seq (.ops [o 4 (mc (.bool false))])<|.ret
theorem l199:Q8 Tryz.prog 199=some ⟨18,false,[.tmp 4],Ae⟩:=by kernel_rfl
def Ad:LC:=.seq (.ops [o 0 (mc (.slice none 0 0))])<|.seq (.ops [⟨some 1,.bslice 9 1 25 [.string ⟨#[]⟩] [(0,.const (.string ⟨#[109,111,100,101,108]⟩)),(1,.const (.string ⟨#[99,108,111,99,107]⟩)),(2,.const (.string ⟨#[118,97,114]⟩)),(3,.const (.string ⟨#[105,110]⟩)),(4,.const (.string ⟨#[99,104,97,110]⟩)),(5,.const (.string ⟨#[98,114,111,97,100,99,97,115,116]⟩)),(6,.const (.string ⟨#[117,114,103,101,110,116]⟩)),(7,.const (.string ⟨#[99,111,109,109,105,116,116,101,100]⟩)),(8,.const (.string ⟨#[102,117,110,99]⟩)),(9,.const (.string ⟨#[112,114,111,99,101,115,115]⟩)),(10,.const (.string ⟨#[105,110,105,116]⟩)),(11,.const (.string ⟨#[108,111,99]⟩)),(12,.const (.string ⟨#[105,110,118]⟩)),(13,.const (.string ⟨#[114,97,116,101]⟩)),(14,.const (.string ⟨#[101,100,103,101]⟩)),(15,.const (.string ⟨#[119,104,101,110]⟩)),(16,.const (.string ⟨#[105,102]⟩)),(17,.const (.string ⟨#[101,108,115,101]⟩)),(18,.const (.string ⟨#[119,104,105,108,101]⟩)),(19,.const (.string ⟨#[114,101,116,117,114,110]⟩)),(20,.const (.string ⟨#[115,121,110,99]⟩)),(21,.const (.string ⟨#[100,111]⟩)),(22,.const (.string ⟨#[114,101,115,101,116]⟩)),(23,.const (.string ⟨#[99,111,115,116]⟩)),(24,.const (.string ⟨#[107,105,110,100]⟩))],none⟩,o 0 (mv 1)])<|.ret
theorem l200:Q8 Tryz.prog 200=some ⟨2,false,[.tmp 0],Ad⟩:=by kernel_rfl
def A9:LC:=.seq (.ops [o 2 (mc (.int .i64 0))])<|.seq (.block 0<|.seq (.ops [o 4 (mv 0),o 5 (bk .eql 4 (1)),o 6 (mv 5),gf 6 7 (mv 0),gf 6 8 (bk .eql 7 (2)),o 9 (po 6 8),o 3 (mv 9)])<|.cond (t 3) (.seq (.ops [o 2 (mc (.int .i64 0))])<|.ret)<|.seq (.ops [o 11 (mv 0),o 12 (bk .eql 11 (3)),o 13 (mv 12),gf 13 14 (mv 0),gf 13 15 (bk .eql 14 (4)),o 16 (po 13 15),o 10 (mv 16)])<|.cond (t 10) (.seq (.ops [o 2 (mc (.int .i64 1))])<|.ret)<|.seq (.ops [o 18 (mv 0),o 19 (bk .geq 18 (5)),o 20 (mv 19),gt 20 21 (mv 0),gt 20 22 (bk .leq 21 (17)),o 23 (pa 20 22),o 17 (mv 23)])<|.cond (t 17) (.seq (.ops [o 2 (mc (.int .i64 2))])<|.ret)<|.seq (.ops [o 25 (mv 0),o 26 (bk .eql 25 (18)),o 24 (mv 26)])<|.cond (t 24) (.seq (.ops [o 2 (mc (.int .i64 3))])<|.ret)<|.seq (.ops [o 28 (mv 0),o 29 (bk .eql 28 (19)),o 27 (mv 29)])<|.cond (t 27) (.seq (.ops [o 2 (mc (.int .i64 (-1)))])<|.ret)<|.skip)<|.seq (.ops [o 2 (mc (.int .i64 (-2)))])<|.ret
theorem l209:Q8 Tryz.prog 209=some ⟨30,false,[.tmp 2],A9⟩:=by kernel_rfl
def A8:LC:=.seq (.ops [o 1 (.box 42 (t 0)),o 2 (mc (.int .i64 0)),o 3 (mc (.int .i64 0)),o 4 (mc (.bool false))])<|.seq (.draw (
v 0 (o 12<|fl 3 1)<|w 1 (o 13<|ld 12)<|v 2 (o 14<|le 13)<|v 3 (o 15 (bk .leq 14 (4)))<|v 4 (o 5 (mc (.int .i64 1)))<|v 5 (o 6 (mc (.int .i64 0)))<|v 6 (o 7<|mv 15)<|.done))<|.seq (.seq (.ops [o 8 (mc (.int .i64 0))])<|.block 0<|.loop<|.seq (.seq (.ops [o 16 (mv 8),o 17 (fl 3 1),o 18 (ld 17),o 19 (le 18),o 20 (bn .lss 16 19)])<|.cond (t 20) (.skip)<|.exit 0)<|.seq (.block 1<|.seq (.ops [o 24 (fl 3 1),o 25 (ld 24),o 26 (mv 8),o 27 (ix 4 25 26),o 28 (la 4 27),o 29 (ca 210 [t 28]),o 23 (mv 29),o 30 (.ext (t 23) 0),o 31 (.ext (t 23) 1),o 32 (.ext (t 23) 2),o 9 (mv 30),o 10 (mv 31),o 11 (mv 32)])<|.ops [o 33 (mv 5),o 34 (mv 9),o 35 (bn .add 33 34),o 36 (mv 6),o 37 (mv 10),o 38 (.mm true (t 36) (t 37)),o 39 (mv 7),o 40 (mv 39),gt 40 41 (mv 11),o 42 (pa 40 41),o 5 (mv 35),o 6 (mv 38),o 7 (mv 42)])<|.ops [o 21 (mv 8),o 22 (bk .add 21 (1)),o 8 (mv 22)])<|.seq (.ops [o 43 (mv 5),o 44 (mv 6),o 45 (bk .add 44 (1)),o 46 (mv 7),o 2 (mv 43),o 3 (mv 45),o 4 (mv 46)])<|.ret
theorem l210:Q8 Tryz.prog 210=some ⟨47,false,[.tmp 2,.tmp 3,.tmp 4],A8⟩:=by kernel_rfl
def C51:LC:=.seq (.ops [⟨some 2,mc (.string ⟨#[]⟩),none⟩])<|.seq (.seq (.ops [o 3 (mv 0),o 4 (bk .lss 3 (0))])<|.cond (t 4) (.seq (.ops [o 5 (mv 0),o 6 (.un .neg (t 5)),o 7 (ca 51 [t 6]),⟨some 8,.bin .add .num (.const (.string ⟨#[45]⟩)) (t 7),none⟩,o 2 (mv 8)])<|.ret)<|.skip)<|.seq (.seq (.ops [o 9 (mv 0),o 10 (bk .lss 9 (10))])<|.cond (t 10) (.seq (.ops [o 11 (mv 0),o 12 (.bin .add .num (.const (.int .i64 48)) (t 11)),o 13 (.conv .u8 (t 12)),o 14 (.bslice 5 1 1 [.int .u8 0] [(0,t 13)]),o 15 (.b2s (t 14)),o 2 (mv 15)])<|.ret)<|.skip)<|.seq (.draw (
v 0 (o 16<|mv 0)<|v 1 (o 17 (bk .quo 16 (10)))<|v 3 (o 19<|mv 0)<|v 4 (o 20 (bk .rem 19 (10)))<|v 5 (o 21 (.bin .add .num (.const (.int .i64 48)) (t 20)))<|v 6 (o 22 (.conv .u8 (t 21)))<|.eff (o 18<|ca 51 [t 17]) [] (
.eff (o 23 (.bslice 5 1 1 [.int .u8 0] [(0,t 22)])) [] (
v 8 (o 24 (.b2s (t 23)))<|v 9 (o 25<|bn .add 18 24)<|v 10 (o 2<|mv 25)<|.done) (
.nil)) (
.eff (o 23 (.bslice 5 1 1 [.int .u8 0] [(0,t 22)])) [] (
v 8 (o 24 (.b2s (t 23)))<|.eff (o 18<|ca 51 [t 17]) [] (
v 9 (o 25<|bn .add 18 24)<|v 10 (o 2<|mv 25)<|.done) (
.nil)) (
.nil))))<|.ret
theorem l51:Q8 Tryz.prog 51=some ⟨26,false,[.tmp 2],C51⟩:=by kernel_rfl
def M8:LC:=.seq (.ops [o 1 (.box 42 (t 0)),⟨some 2,mc (.string ⟨#[]⟩),none⟩])<|.seq (.ops [o 7 (fl 0 1),o 8 (ld 7),o 9 (ca 155 [t 8]),o 3 (mv 9)])<|.seq (.seq (.ops [o 10 (fl 0 1),o 11 (ld 10)])<|.block 0<|.seq (.ops [o 13 (bk .eql 11 (1)),o 12 (mv 13)])<|.cond (t 12) (.seq (.ops [o 14 (fl 2 1),o 15 (ld 14),o 16 (ca 51 [t 15]),o 2 (mv 16)])<|.ret)<|.seq (.ops [o 18 (bk .eql 11 (2)),o 17 (mv 18)])<|.cond (t 17) (.seq (.ops [o 19 (fl 1 1),o 20 (ld 19),o 2 (mv 20)])<|.ret)<|.seq (.ops [o 22 (bk .eql 11 (3)),o 21 (mv 22)])<|.cond (t 21) (.seq (.seq (.ops [o 23 (fl 3 1),o 24 (ld 23),o 25 (.idxS 4 (t 24) (.const (.int .i64 0))),o 26 (fl 0 25),o 27 (ld 26),o 28 (bk .eql 27 (1)),o 29 (mv 28),gt 29 30 (fl 3 1),gt 29 31 (ld 30),gt 29 32 (.idxS 4 (t 31) (.const (.int .i64 0))),gt 29 33 (fl 2 32),gt 29 34 (ld 33),gt 29 35 (bk .geq 34 (0)),o 36 (pa 29 35)])<|.cond (t 36) (.seq (.ops [o 37 (fl 3 1),o 38 (ld 37),o 39 (.idxS 4 (t 38) (.const (.int .i64 0))),o 40 (la 4 39),o 41 (ca 74 [t 40]),⟨some 42,.bin .add .num (.const (.string ⟨#[45,40]⟩)) (t 41),none⟩,⟨some 43,.bin .add .num (t 42) (.const (.string ⟨#[41]⟩)),none⟩,o 2 (mv 43)])<|.ret)<|.skip)<|.seq (.ops [o 44 (fl 3 1),o 45 (ld 44),o 46 (.idxS 4 (t 45) (.const (.int .i64 0))),o 47 (la 4 46),o 48 (ca 156 [t 47,.const (.int .i64 6)]),⟨some 49,.bin .add .num (.const (.string ⟨#[45]⟩)) (t 48),none⟩,o 2 (mv 49)])<|.ret)<|.seq (.ops [o 51 (bk .eql 11 (4)),o 50 (mv 51)])<|.cond (t 50) (.seq (.ops [o 52 (fl 3 1),o 53 (ld 52),o 54 (.idxS 4 (t 53) (.const (.int .i64 0))),o 55 (la 4 54),o 56 (ca 156 [t 55,.const (.int .i64 6)]),⟨some 57,.bin .add .num (.const (.string ⟨#[33]⟩)) (t 56),none⟩,o 2 (mv 57)])<|.ret)<|.seq (.ops [o 59 (bk .eql 11 (18)),o 58 (mv 59)])<|.cond (t 58) (.seq (.draw (
v 0 (o 60<|fl 3 1)<|w 1 (o 61<|ld 60)<|v 2 (o 62 (.idxS 4 (t 61) (.const (.int .i64 0))))<|w 3 (o 63<|la 4 62)<|v 6 (o 66<|fl 3 1)<|w 7 (o 67<|ld 66)<|v 8 (o 68 (.idxS 4 (t 67) (.const (.int .i64 1))))<|w 9 (o 69<|la 4 68)<|v 13 (o 73<|fl 3 1)<|w 14 (o 74<|ld 73)<|v 15 (o 75 (.idxS 4 (t 74) (.const (.int .i64 2))))<|w 16 (o 76<|la 4 75)<|.eff (o 64 (ca 156 [t 63,.const (.int .i64 1)])) [16,14,9,7] (
v 5 (⟨some 65,.bin .add .num (t 64) (.const (.string ⟨#[32,63,32]⟩)),none⟩)<|.eff (o 70 (ca 156 [t 69,.const (.int .i64 0)])) [16,14] (
v 11 (o 71<|bn .add 65 70)<|v 12 (⟨some 72,.bin .add .num (t 71) (.const (.string ⟨#[32,58,32]⟩)),none⟩)<|.eff (o 77 (ca 156 [t 76,.const (.int .i64 0)])) [] (
v 18 (o 78<|bn .add 72 77)<|v 19 (o 2<|mv 78)<|.done) (
.nil)) (
.nil)) (
.nil)))<|.ret)<|.seq (.ops [o 80 (bk .eql 11 (19)),o 79 (mv 80)])<|.cond (t 79) (.seq (.ops [o 4 (mc (.slice none 0 0))])<|.seq (.seq (.ops [o 5 (mc (.int .i64 0))])<|.block 1<|.loop<|.seq (.seq (.ops [o 81 (mv 5),o 82 (fl 3 1),o 83 (ld 82),o 84 (le 83),o 85 (bn .lss 81 84)])<|.cond (t 85) (.skip)<|.exit 1)<|.seq (.block 2<|.ops [o 88 (mv 4),o 89 (fl 3 1),o 90 (ld 89),o 91 (mv 5),o 92 (ix 4 90 91),o 93 (la 4 92),o 94 (ca 74 [t 93]),⟨some 95,.bslice 9 1 1 [.string ⟨#[]⟩] [(0,t 94)],none⟩,o 96 (.app 9 1 16 (t 88) (t 95)),o 4 (mv 96)])<|.ops [o 86 (mv 5),o 87 (bk .add 86 (1)),o 5 (mv 87)])<|.seq (.draw (
v 0 (o 97<|fl 1 1)<|w 1 (o 98<|ld 97)<|v 2 (⟨some 99,.bin .add .num (t 98) (.const (.string ⟨#[40]⟩)),none⟩)<|v 3 (o 100<|mv 4)<|.eff (o 101<|ca 124 [t 100]) [1] (
v 5 (o 102<|bn .add 99 101)<|v 6 (⟨some 103,.bin .add .num (t 102) (.const (.string ⟨#[41]⟩)),none⟩)<|v 7 (o 2<|mv 103)<|.done) (
.nil)))<|.ret)<|.skip)<|.seq (.ops [o 104 (mv 3),o 6 (mv 104)])<|.seq (.seq (.ops [o 105 (mv 3),o 106 (bk .eql 105 (3))])<|.cond (t 106) (.ops [o 6 (mc (.int .i64 4))])<|.skip)<|.seq (.draw (
v 0 (o 107<|fl 3 1)<|w 1 (o 108<|ld 107)<|v 2 (o 109 (.idxS 4 (t 108) (.const (.int .i64 0))))<|w 3 (o 110<|la 4 109)<|v 4 (o 111<|mv 6)<|v 7 (o 114<|fl 0 1)<|w 8 (o 115<|ld 114)<|v 12 (o 119<|fl 3 1)<|w 13 (o 120<|ld 119)<|v 14 (o 121 (.idxS 4 (t 120) (.const (.int .i64 1))))<|w 15 (o 122<|la 4 121)<|v 16 (o 123<|mv 3)<|v 17 (o 124 (bk .add 123 (1)))<|.eff (o 112<|ca 156 [t 110,t 111]) [15,13,8] (
v 6 (⟨some 113,.bin .add .num (t 112) (.const (.string ⟨#[32]⟩)),none⟩)<|.eff (o 116<|ca 157 [t 115]) [15,13] (
v 10 (o 117<|bn .add 113 116)<|v 11 (⟨some 118,.bin .add .num (t 117) (.const (.string ⟨#[32]⟩)),none⟩)<|.eff (o 125<|ca 156 [t 122,t 124]) [] (
v 19 (o 126<|bn .add 118 125)<|v 20 (o 2<|mv 126)<|.done) (
.nil)) (
.nil)) (
.nil)))<|.ret
theorem Tg:Q8 Tryz.prog 74=some ⟨127,false,[.tmp 2],M8⟩:=by kernel_rfl
def qD:LC:=.seq (.ops [⟨some 2,mc (.string ⟨#[]⟩),none⟩])<|.seq (.ops [⟨some 3,mc (.string ⟨#[]⟩),none⟩])<|.seq (.seq (.ops [o 4 (mc (.int .i64 0))])<|.block 0<|.loop<|.seq (.seq (.ops [o 5 (mv 4),o 6 (mv 0),o 7 (le 6),o 8 (bn .lss 5 7)])<|.cond (t 8) (.skip)<|.exit 0)<|.seq (.block 1<|.seq (.seq (.ops [o 11 (mv 4),o 12 (bk .gtr 11 (0))])<|.cond (t 12) (.ops [o 13 (mv 3),⟨some 14,.bin .add .num (t 13) (.const (.string ⟨#[44,32]⟩)),none⟩,o 3 (mv 14)])<|.skip)<|.ops [o 15 (mv 3),o 16 (mv 0),o 17 (mv 4),o 18 (ix 1 16 17),o 19 (ld 18),o 20 (bn .add 15 19),o 3 (mv 20)])<|.ops [o 9 (mv 4),o 10 (bk .add 9 (1)),o 4 (mv 10)])<|.seq (.ops [o 21 (mv 3),o 2 (mv 21)])<|.ret
theorem l124:Q8 Tryz.prog 124=some ⟨22,false,[.tmp 2],qD⟩:=by kernel_rfl
def AL:LC:=.seq (.ops [o 2 (mc (.int .i64 0))])<|.seq (.block 0<|.seq (.ops [o 4 (mv 0),o 5 (bk .eql 4 (18)),o 3 (mv 5)])<|.cond (t 3) (.seq (.ops [o 2 (mc (.int .i64 0))])<|.ret)<|.seq (.ops [o 7 (mv 0),o 8 (bk .eql 7 (17)),o 6 (mv 8)])<|.cond (t 6) (.seq (.ops [o 2 (mc (.int .i64 1))])<|.ret)<|.seq (.ops [o 10 (mv 0),o 11 (bk .eql 10 (16)),o 9 (mv 11)])<|.cond (t 9) (.seq (.ops [o 2 (mc (.int .i64 2))])<|.ret)<|.seq (.ops [o 13 (mv 0),o 14 (bk .geq 13 (10)),o 15 (mv 14),gt 15 16 (mv 0),gt 15 17 (bk .leq 16 (15)),o 18 (pa 15 17),o 12 (mv 18)])<|.cond (t 12) (.seq (.ops [o 2 (mc (.int .i64 3))])<|.ret)<|.seq (.ops [o 20 (mv 0),o 21 (bk .eql 20 (5)),o 22 (mv 21),gf 22 23 (mv 0),gf 22 24 (bk .eql 23 (6)),o 25 (po 22 24),o 19 (mv 25)])<|.cond (t 19) (.seq (.ops [o 2 (mc (.int .i64 4))])<|.ret)<|.seq (.ops [o 27 (mv 0),o 28 (bk .geq 27 (7)),o 29 (mv 28),gt 29 30 (mv 0),gt 29 31 (bk .leq 30 (9)),o 32 (pa 29 31),o 26 (mv 32)])<|.cond (t 26) (.seq (.ops [o 2 (mc (.int .i64 5))])<|.ret)<|.seq (.ops [o 34 (mv 0),o 35 (bk .eql 34 (3)),o 36 (mv 35),gf 36 37 (mv 0),gf 36 38 (bk .eql 37 (4)),o 39 (po 36 38),o 33 (mv 39)])<|.cond (t 33) (.seq (.ops [o 2 (mc (.int .i64 6))])<|.ret)<|.skip)<|.seq (.ops [o 2 (mc (.int .i64 7))])<|.ret
theorem l155:Q8 Tryz.prog 155=some ⟨40,false,[.tmp 2],AL⟩:=by kernel_rfl
def AK:LC:=.seq (.ops [o 2 (.box 42 (t 0)),⟨some 4,mc (.string ⟨#[]⟩),none⟩])<|.seq (.seq (.ops [o 5 (fl 0 2),o 6 (ld 5),o 7 (ca 155 [t 6]),o 8 (mv 1),o 9 (bn .lss 7 8)])<|.cond (t 9) (.seq (.ops [o 10 (la 4 2),o 11 (ca 74 [t 10]),⟨some 12,.bin .add .num (.const (.string ⟨#[40]⟩)) (t 11),none⟩,⟨some 13,.bin .add .num (t 12) (.const (.string ⟨#[41]⟩)),none⟩,o 4 (mv 13)])<|.ret)<|.skip)<|.seq (.ops [o 14 (la 4 2),o 15 (ca 74 [t 14]),o 4 (mv 15)])<|.ret
theorem l156:Q8 Tryz.prog 156=some ⟨16,false,[.tmp 4],AK⟩:=by kernel_rfl
def AJ:LC:=.seq (.ops [⟨some 2,mc (.string ⟨#[]⟩),none⟩])<|.seq (.ops [⟨some 4,.bslice 9 1 13 [.string ⟨#[]⟩] [(0,.const (.string ⟨#[43]⟩)),(1,.const (.string ⟨#[45]⟩)),(2,.const (.string ⟨#[42]⟩)),(3,.const (.string ⟨#[47]⟩)),(4,.const (.string ⟨#[37]⟩)),(5,.const (.string ⟨#[60]⟩)),(6,.const (.string ⟨#[60,61]⟩)),(7,.const (.string ⟨#[61,61]⟩)),(8,.const (.string ⟨#[33,61]⟩)),(9,.const (.string ⟨#[62,61]⟩)),(10,.const (.string ⟨#[62]⟩)),(11,.const (.string ⟨#[38,38]⟩)),(12,.const (.string ⟨#[124,124]⟩))],none⟩,o 3 (mv 4)])<|.seq (.ops [o 5 (mv 3),o 6 (mv 0),o 7 (bk .sub 6 (5)),o 8 (ix 1 5 7),o 9 (ld 8),o 2 (mv 9)])<|.ret
theorem l157:Q8 Tryz.prog 157=some ⟨10,false,[.tmp 2],AJ⟩:=by kernel_rfl
def C20:LC:=.seq (.ops [o 1 (.box 42 (t 0)),⟨some 2,mc (.string ⟨#[]⟩),none⟩,o 3 (mc (.int .i64 0))])<|.seq (.ops [o 5 (la 4 1),o 6 (ca 73 [t 5]),o 4 (mv 6)])<|.seq (.seq (.ops [o 7 (mv 4),o 8 (bk .neq 7 (0))])<|.cond (t 8) (.seq (.ops [o 9 (mv 4),⟨some 2,mc (.string ⟨#[]⟩),none⟩,o 3 (mv 9)])<|.ret)<|.skip)<|.seq (.ops [o 10 (la 4 1),o 11 (ca 74 [t 10]),o 2 (mv 11),o 3 (mc (.int .i64 0))])<|.ret
theorem l20:Q8 Tryz.prog 20=some ⟨12,false,[.tmp 2,.tmp 3],C20⟩:=by kernel_rfl
def C90:LC:=.seq (.ops [o 2 (mc (.bool false))])<|.seq (.ops [o 3 (mv 0),o 4 (.bin .geq .num (t 3) (.const (.int .u8 97))),o 5 (mv 4),gt 5 6 (mv 0),gt 5 7 (.bin .leq .num (t 6) (.const (.int .u8 122))),o 8 (pa 5 7),o 9 (mv 8),gf 9 10 (mv 0),gf 9 11 (.bin .geq .num (t 10) (.const (.int .u8 65))),gf 9 12 (mv 11),gt 12 13 (mv 0),gt 12 14 (.bin .leq .num (t 13) (.const (.int .u8 90))),gf 9 15 (pa 12 14),o 16 (po 9 15),o 2 (mv 16)])<|.ret
theorem l90:Q8 Tryz.prog 90=some ⟨17,false,[.tmp 2],C90⟩:=by kernel_rfl
def C91:LC:=.seq (.ops [o 2 (mc (.bool false))])<|.seq (.ops [o 3 (mv 0),o 4 (.bin .geq .num (t 3) (.const (.int .u8 48))),o 5 (mv 4),gt 5 6 (mv 0),gt 5 7 (.bin .leq .num (t 6) (.const (.int .u8 57))),o 8 (pa 5 7),o 2 (mv 8)])<|.ret
theorem l91:Q8 Tryz.prog 91=some ⟨9,false,[.tmp 2],C91⟩:=by kernel_rfl
def C7:LC:=.seq (.ops [o 3 (.box 42 (t 1)),o 4 (mc (.bool false))])<|.seq (.seq (.ops [o 19 (ca 8 []),o 20 (.un .not (t 19))])<|.cond (t 20) (.seq (.ops [o 4 (mc (.bool false))])<|.ret)<|.skip)<|.seq (.seq (.ops [o 21 (la 4 3),o 22 (ca 19 [t 21,.const (.int .i64 2000)])])<|.cond (t 22) (.seq (.ops [o 4 (mc (.bool true))])<|.ret)<|.skip)<|.seq (.ops [o 24 (mv 0),o 25 (ca 9 [t 24]),o 23 (mv 25),o 26 (.ext (t 23) 0),o 27 (.ext (t 23) 1),o 28 (.ext (t 23) 2),⟨some 5,.alloc 29 [.string ⟨#[]⟩,.slice none 0 0,.slice none 0 0,.slice none 0 0,.slice none 0 0,.slice none 0 0],none⟩,e (.store 6 (t 5) (t 26)),o 6 (mv 27),o 7 (mv 28)])<|.seq (.seq (.ops [o 29 (mv 7),o 30 (bk .neq 29 (0)),o 31 (mv 30),gt 31 32 (la 6 5),⟨some 33,.build [.string ⟨#[]⟩,.slice none 0 0,.slice none 0 0,.slice none 0 0,.slice none 0 0,.slice none 0 0] [],some (31,true)⟩,gt 31 34 (ca 11 [t 32,t 33]),gt 31 35 (.un .not (t 34)),gt 31 36 (mv 35),gf 36 37 (mv 6),gf 36 38 (bk .lss 37 (0)),gt 31 39 (po 36 38),gt 31 40 (mv 39),gf 40 41 (mv 6),gf 40 42 (mv 0),gf 40 43 (.lenOf .str (t 42)),gf 40 44 (bn .gtr 41 43),gt 31 45 (po 40 44),o 46 (pa 31 45)])<|.cond (t 46) (.seq (.ops [o 4 (mc (.bool false))])<|.ret)<|.skip)<|.seq (.seq (.ops [o 47 (mv 7),o 48 (bk .eql 47 (0))])<|.cond (t 48) (.seq (.ops [o 50 (la 6 5),o 51 (ca 14 [t 50]),o 49 (mv 51),o 52 (.ext (t 49) 0),o 53 (.ext (t 49) 1),o 8 (mv 52),o 9 (mv 53)])<|.seq (.ops [o 55 (mv 8),o 56 (ca 9 [t 55]),o 54 (mv 56),o 57 (.ext (t 54) 0),o 58 (.ext (t 54) 1),o 59 (.ext (t 54) 2),⟨some 10,.alloc 29 [.string ⟨#[]⟩,.slice none 0 0,.slice none 0 0,.slice none 0 0,.slice none 0 0,.slice none 0 0],none⟩,e (.store 6 (t 10) (t 57)),o 11 (mv 58),o 12 (mv 59)])<|.seq (.ops [o 60 (la 6 5),o 61 (ca 16 [t 60]),o 62 (bk .neq 61 (0)),o 63 (mv 62),gf 63 64 (mv 9),gf 63 65 (bk .neq 64 (0)),o 66 (po 63 65),o 67 (mv 66),gf 67 68 (mv 8),gf 67 69 (.lenOf .str (t 68)),gf 67 70 (bk .leq 69 (20000)),gf 67 71 (mv 70),gt 71 72 (mv 12),gt 71 73 (bk .neq 72 (0)),gt 71 74 (mv 73),gf 74 75 (la 6 5),gf 74 76 (la 6 10),gf 74 77 (ca 11 [t 75,t 76]),gf 74 78 (.un .not (t 77)),gt 71 79 (po 74 78),gf 67 80 (pa 71 79),o 81 (po 67 80)])<|.cond (t 81) (.seq (.ops [o 4 (mc (.bool false))])<|.ret)<|.skip)<|.skip)<|.seq (.ops [o 83 (la 4 3),o 84 (ca 20 [t 83]),o 82 (mv 84),o 85 (.ext (t 82) 0),o 86 (.ext (t 82) 1),o 13 (mv 85),o 14 (mv 86)])<|.seq (.seq (.ops [o 87 (mv 14),o 88 (bk .neq 87 (0)),o 89 (mv 88),gf 89 90 (mv 13),gf 89 91 (.lenOf .str (t 90)),gf 89 92 (bk .gtr 91 (5000)),o 93 (po 89 92)])<|.cond (t 93) (.seq (.ops [o 4 (mc (.bool true))])<|.ret)<|.skip)<|.seq (.ops [o 95 (mv 13),⟨some 96,.bin .add .num (.const (.string ⟨#[109,111,100,101,108,32,109,59,32,112,114,111,99,101,115,115,32,80,32,105,110,105,116,32,65,32,123,32,108,111,99,32,65,59,32,101,100,103,101,32,65,32,45,62,32,65,32,105,102,32]⟩)) (t 95),none⟩,⟨some 97,.bin .add .num (t 96) (.const (.string ⟨#[32,100,111,32,118,32,61,32]⟩)),none⟩,o 98 (mv 13),o 99 (bn .add 97 98),⟨some 100,.bin .add .num (t 99) (.const (.string ⟨#[44,32,119,32,61,32]⟩)),none⟩,o 101 (mv 13),o 102 (bn .add 100 101),⟨some 103,.bin .add .num (t 102) (.const (.string ⟨#[59,32,125]⟩)),none⟩,o 104 (ca 9 [t 103]),o 94 (mv 104),o 105 (.ext (t 94) 0),o 106 (.ext (t 94) 1),o 107 (.ext (t 94) 2),⟨some 15,.alloc 29 [.string ⟨#[]⟩,.slice none 0 0,.slice none 0 0,.slice none 0 0,.slice none 0 0,.slice none 0 0],none⟩,e (.store 6 (t 15) (t 105)),o 16 (mv 106),o 17 (mv 107)])<|.seq (.seq (.ops [o 108 (mv 17),o 109 (bk .neq 108 (0)),o 110 (mv 109),gf 110 111 (fl 5 15),gf 110 112 (ld 111),gf 110 113 (le 112),gf 110 114 (bk .neq 113 (1)),o 115 (po 110 114),o 116 (mv 115),gf 116 117 (fl 5 15),gf 116 118 (ld 117),gf 116 119 (.idxS 4 (t 118) (.const (.int .i64 0))),gf 116 120 (fl 3 119),gf 116 121 (ld 120),gf 116 122 (le 121),gf 116 123 (bk .neq 122 (1)),o 124 (po 116 123),o 125 (mv 124),gf 125 126 (fl 5 15),gf 125 127 (ld 126),gf 125 128 (.idxS 4 (t 127) (.const (.int .i64 0))),gf 125 129 (fl 3 128),gf 125 130 (ld 129),gf 125 131 (.idxS 13 (t 130) (.const (.int .i64 0))),gf 125 132 (fl 9 131),gf 125 133 (ld 132),gf 125 134 (le 133),gf 125 135 (bk .neq 134 (2)),o 136 (po 125 135)])<|.cond (t 136) (.seq (.ops [o 4 (mc (.bool false))])<|.ret)<|.skip)<|.seq (.ops [o 137 (fl 5 15),o 138 (ld 137),o 139 (.idxS 4 (t 138) (.const (.int .i64 0))),o 140 (fl 3 139),o 141 (ld 140),o 142 (.idxS 13 (t 141) (.const (.int .i64 0))),o 143 (la 13 142),⟨some 18,.alloc 53 [.string ⟨#[]⟩,.string ⟨#[]⟩,.slice none 0 0,.int .i64 0,.string ⟨#[]⟩,.int .i64 0,.slice none 0 0,.string ⟨#[]⟩,.bool false,.slice none 0 0,.slice none 0 0,.int .i64 0,.int .i64 0],none⟩,e (.store 13 (t 18) (t 143))])<|.seq (.draw (
v 0 (o 144<|fl 3 18)<|w 1 (o 145<|la 4 144)<|w 2 (o 146<|la 4 3)<|.eff (o 147<|ca 21 [t 145,t 146]) [] (
v 4 (o 148<|mv 147)<|v 5 (gt 148 149 (fl 9 18))<|w 6 (gt 148 150 (ld 149))<|v 7 (gt 148 151 (.idxS 5 (t 150) (.const (.int .i64 0))))<|v 8 (gt 148 152 (fl 1 151))<|w 9 (gt 148 153 (la 4 152))<|w 10 (gt 148 154 (la 4 3))<|.eff (gt 148 155 (ca 21 [t 153,t 154])) [] (
v 12 (o 156<|pa 148 155)<|v 13 (o 157<|mv 156)<|v 14 (gt 157 158 (fl 9 18))<|w 15 (gt 157 159 (ld 158))<|v 16 (gt 157 160 (.idxS 5 (t 159) (.const (.int .i64 1))))<|v 17 (gt 157 161 (fl 1 160))<|w 18 (gt 157 162 (la 4 161))<|w 19 (gt 157 163 (la 4 3))<|.eff (gt 157 164 (ca 21 [t 162,t 163])) [] (
v 21 (o 165<|pa 157 164)<|v 22 (o 4<|mv 165)<|.done) (
.nil)) (
.nil)) (
.nil)))<|.ret
theorem l7:Q8 Tryz.prog 7=some ⟨166,false,[.tmp 4],C7⟩:=by kernel_rfl
section
variable (G:Nat→Option (List AV))
theorem r90 (c:UInt8)(A:Q3):Qu Tryz.prog G 90 [u8 c] A (bo (Y1 c)) A:=by
 refine Q4 l90 (fE rfl) ?_
 simp only[C90,Q1,seval]
 have ht:97≤c.toNat∧c.toNat≤122∨65≤c.toNat∧c.toNat≤90→Vl (some (AV.raw (Value.bool true))) (fun o A1=>o=Out.ret (bo (Y1 c))∧A1=A) A:=fun h=>Qb (by simp only[Y1];rw[fA h]) (.refl A)
 have hf:¬(97≤c.toNat∧c.toNat≤122∨65≤c.toNat∧c.toNat≤90)→Vl (some (AV.raw (Value.bool false))) (fun o A1=>o=Out.ret (bo (Y1 c))∧A1=A) A:=fun h=>Qb (by simp only[Y1];rw[fB h]) (.refl A)
 exact⟨fun h1=>⟨fun h2=>ht (by omega),fun h2=>⟨fun h3=>⟨fun h4=>ht (by omega),fun h4=>hf (by omega)⟩,fun h3=>hf (by omega)⟩⟩,fun h1=>⟨fun h3=>⟨fun h4=>ht (by omega),fun h4=>hf (by omega)⟩,fun h3=>hf (by omega)⟩⟩
theorem r91 (c:UInt8)(A:Q3):Qu Tryz.prog G 91 [u8 c] A (bo (ZX c)) A:=by
 refine Q4 l91 (fE rfl) ?_
 simp only[C91,Q1,seval]
 have ht:48≤c.toNat∧c.toNat≤57→Vl (some (AV.raw (Value.bool true))) (fun o A1=>o=Out.ret (bo (ZX c))∧A1=A) A:=fun h=>Qb (by simp only[ZX];rw[fA h]) (.refl A)
 have hf:¬(48≤c.toNat∧c.toNat≤57)→Vl (some (AV.raw (Value.bool false))) (fun o A1=>o=Out.ret (bo (ZX c))∧A1=A) A:=fun h=>Qb (by simp only[ZX];rw[fB h]) (.refl A)
 exact⟨fun h1=>⟨fun h2=>ht (by omega),fun h2=>hf (by omega)⟩,fun h1=>hf (by omega)⟩
theorem r200 (A:Q3):Qu Tryz.prog G 200 [] A (LD WG) A:=by
 refine Q4 l200 (fE rfl) ?_
 simp only[Ad,Q1,seval]
 refine QY (cs:=WG.map .str) (by kernel_rfl) fun t ht=> ?_
 simp only[Q1,seval]
 exact J0 Ym (LI ht (by simp)) ⟨rfl,rfl⟩
theorem r199 {xs:List Bs}{s:Bs}{A:Q3}{n:Nat}{cs:List AV}{t:Option Nat}(hn:n=xs.length)(hcs:cs=xs.flatMap Zl)(hlen:xs.length<2^62):
 Qu Tryz.prog G 199 [.slice 1 n cs t,.str s] A (bo (decide (s∈xs))) A:=by
 subst hn hcs
 refine Q4 l199 (fE rfl) ?_
 unfold Ae
 simp only[Q1,seval]
 refine UD (v:=5) xs.length (fun i=>xs[i]==s) (fun env=>env 0=.slice 1 xs.length (xs.flatMap Zl) t∧env 1=.str s) (.refl A) ⟨rfl,rfl⟩ rfl (by omega) ?_ ?_ ?_ ?_ ?_
 ·rintro i env B s' hi ⟨e0,e1⟩ e5 hO
  simp only[e0,e1,e5,Q1,seval]
  exact U7 hO
 ·rintro i hi env B s' ⟨e0,e1⟩ e5 hO
  have hd:=KE (enc:=Zl) (fun _=>rfl) hi
  have i1:(i:Int)<xs.length:=by omega
  simp only[e0,e1,e5,hd,Nat.mul_one,i1,Zl,Q1,seval]
  exact⟨fun h=>⟨congrArg bo (beq_iff_eq.2 h).symm,hO⟩,fun h=>⟨congrArg bo (beq_eq_false_iff_ne.2 h).symm,hO⟩⟩
 ·rintro i hi hw env B s' ⟨e0,e1⟩ e5
  simp only[e0,e1,e5,hw,Q1,seval]
 ·rintro i hi env B' hO' e4
  simp only[e4,Q1,seval]
  exact Qb (by rw[fA];have:=beq_iff_eq.1 hi;exact this▸cV _) hO'
 ·rintro hi env B' _ hO'
  simp only[Q1,seval]
  exact Qb (by rw[fB];intro hm;obtain⟨i,h,e⟩:=List.mem_iff_getElem.1 hm;have:=hi ⟨i,h⟩;simp [e]at this) hO'
theorem r140 (s:Bs){A:Q3}(hs:s.length<2^62):Qu Tryz.prog G 140 [.str s] A (bo (Qe s)) A:=by
 refine Q4 l140 (fE rfl) ?_
 rcases s with _|⟨c,r⟩
 ·simp only[GY,Q1,seval]
  exact Qb rfl (.refl A)
 unfold GY
 have hw:=fun A=>r199 G (xs:=WG) (s:=c::r) (A:=A) (t:=none) rfl rfl (by decide)
 rw[show WG.flatMap Zl=WG.map AV.str from rfl]at hw
 simp only[Q1,seval]
 refine⟨fun h=>Qb (by simp only[Qe];rw[fB (by simp only[cE];omega)];rfl) (.refl A),fun h16=> ?_⟩
 refine Q2 (r90 G c A) ?_
 cases hL:Y1 c with
 |false=>
  simp only[Q1,seval]
  exact Qb (by simp only[Qe,hL,dF,dE]) (.refl A)
 |true=>
 simp only[Q1,seval]
 refine Q2 (r200 G A) ?_
 simp only[Q1,seval]
 refine Q2 (hw _) ?_
 by_cases hm:c::r∈WG
 ·rw[fA hm]
  simp only[Q1,seval]
  exact Qb (by simp only[Qe,fA hm,cM,dF,dE]) (.refl A)
 rw[fB hm]
 have hn:Qe (c::r)=(c::r).all JI:=by
  simp only[Qe]
  rw[fA (by simp only[cE];omega),hL,fB hm]
  simp
 rw[hn]
 generalize c::r=S at*
 simp only[Q1,seval]
 refine HS (r:=2) (w:=false) (v:=3) S.length (fun i=> !JI S[i]) (fun env=>env 0=.str S) (.refl A) rfl rfl (by omega) ?_ ?_ ?_ ?_ ?_
 ·rintro i env B s' hi e0 e3 hO
  simp only[e0,e3,Q1,seval]
  exact U7 hO
 ·rintro i hi env B FR e0 e3 hO h1 h2
  have i1:(i:Int)<S.length:=by omega
  have hg:S[i]? =some S[i]:=dY hi
  simp only[e0,e3,i1,hg,Q1,seval]
  refine Q2 (r90 G S[i] _) ?_
  cases hl:Y1 S[i]with
  |true=>
   simp only[e0,e3,Q1,seval]
   exact h1 (by simp [JI,hl]) _ _ e0 e3 hO
  |false=>
  simp only[e0,e3,i1,hg,Q1,seval]
  refine Q2 (r91 G S[i] _) ?_
  cases hd:ZX S[i]with
  |true=>
   simp only[e0,e3,Q1,seval]
   exact h1 (by simp [JI,hd]) _ _ e0 e3 hO
  |false=>
  simp only[e0,e3,i1,hg,Q1,seval]
  refine⟨fun h=>h1 ?_ _ _ e0 e3 hO,fun h=>h2 ?_ _ _ rfl hO⟩
  ·have:S[i]=95:=UInt8.toNat_inj.1 (by simpa using(by omega:S[i].toNat=95))
   simp [JI,this]
  ·have:S[i]≠95:=fun e=>h (by rw[e];rfl)
   simp [JI,hl,hd,this]
 ·rintro i hi hw env B s' e0 e3
  simp only[e0,e3,hw,Q1,seval]
 ·rintro i hi env B' hO' e2
  simp only[e2,Q1,seval]
  exact Qb (by rw[List.all_eq_false.2 ⟨_,cV i.isLt,by simpa using hi⟩]) hO'
 ·rintro hi env B' _ hO'
  simp only[Q1,seval]
  refine Qb ?_ hO'
  rw[cH.2]
  intro x hx
  obtain⟨i,h,rfl⟩:=List.mem_iff_getElem.1 hx
  simpa using hi ⟨i,h⟩
end
def Xa (k:Int):Int:=match Zo k with
 |none=> -2
 |some none=> -1
 |some (some m)=>m
theorem OQ (k:Int):Xa k=if k=1∨k=2 then 0 else if k=3∨k=4 then 1 else if 5≤k∧k≤17 then 2 else if k=18 then 3 else if k=19 then -1 else -2:=by
 unfold Xa Zo
 by_cases h1:k=1∨k=2
 ·rw[fC h1,fC h1];rfl
 rw[fD h1,fD h1]
 by_cases h2:k=3∨k=4
 ·rw[fC h2,fC h2];rfl
 rw[fD h2,fD h2]
 by_cases h3:5≤k∧k≤17
 ·rw[fC h3,fC h3];rfl
 rw[fD h3,fD h3]
 by_cases h4:k=18
 ·rw[fC h4,fC h4];rfl
 rw[fD h4,fD h4]
 by_cases h5:k=19
 ·rw[fC h5,fC h5]
 rw[fD h5,fD h5]
section
variable (G:Nat→Option (List AV))
theorem r209 (k:Int)(A:Q3):Qu Tryz.prog G 209 [i64 k] A (i64 (Xa k)) A:=by
 refine Q4 l209 (fE rfl) ?_
 rw[OQ]
 simp only[A9,Q1,seval]
 repeat' refine And.intro (fun _=> ?_) (fun _=> ?_)
 all_goals
  refine Qb ?_ (.refl A)
  repeat' split
  all_goals first|rfl|(exfalso;omega)
@[irreducible] def M6 (k i:Int) (m:Nat):Prop:=Xa k≠ -2∧(0≤Xa k→(m:Int)=Xa k)∧(i=0∨k=1)∧ -2147483648≤i∧i≤2147483648
theorem IT (k:Int)(m:Nat):(match Zo k with|none=>false|some none=>true|some (some n)=>m==n)=true↔(Xa k≠ -2∧(0≤Xa k→(m:Int)=Xa k)):=by
 unfold Xa
 cases Zo k with
 |none=>simp
 |some o=>
  cases o with
  |none=>simp
  |some n=>
   simp only[beq_iff_eq]
   omega
theorem UG {k i:Int}{n:Bs}{m:Nat}:Yf k n i m=true↔M6 k i m∧(if k=2∨k=19 then Qe n=true else n=[]):=by
 unfold Yf M6 ZJ
 simp only[cD,lA,beq_iff_eq,dZ]
 by_cases h:k=2∨k=19
 ·rw[fC h,fC h];constructor
  ·rintro⟨⟨⟨h1,h2⟩,h3⟩,h4⟩;have h1:=(IT k m).1 h1;exact⟨⟨h1.1,h1.2,h2,h3.1,h3.2⟩,h4⟩
  ·rintro⟨⟨h1,h2,h3,h4,h5⟩,h6⟩;exact⟨⟨⟨(IT k m).2 ⟨h1,h2⟩,h3⟩,h4,h5⟩,h6⟩
 ·rw[fD h,fD h,List.isEmpty_iff];constructor
  ·rintro⟨⟨⟨h1,h2⟩,h3⟩,h4⟩;have h1:=(IT k m).1 h1;exact⟨⟨h1.1,h1.2,h2,h3.1,h3.2⟩,h4⟩
  ·rintro⟨⟨h1,h2,h3,h4,h5⟩,h6⟩;exact⟨⟨⟨(IT k m).2 ⟨h1,h2⟩,h3⟩,h4,h5⟩,h6⟩
theorem r153 (x:Exp){A:Q3}(h:VS x):Qu Tryz.prog G 153 [.agg x.cells] A (bo (ZC x)) A:=by
 generalize hn:SizeOf.sizeOf x=sz
 induction sz using Nat.strongRecOn generalizing x A with
 |_ sz ih=>
 obtain⟨k,n,i,xs⟩:=x
 simp only[VS]at h
 refine Q4 l153 (fE rfl) ?_
 have hc:(Exp.mk k n i xs).cells=[i64 k,.str n,i64 i,.slice 4 xs.length (xs.flatMap Exp.cells) none]:=by rw[Exp.cells,Exp.cellsL_eq]
 rw[hc]
 have hbad:∀{B:Q3},Yf k n i xs.length=false→Z7 A B→Vl (some (AV.raw (Value.bool false))) (fun o A1=>o=Out.ret (bo (ZC (Exp.mk k n i xs)))∧A1=A) B:=fun hh hO=>Qb (by rw[ZC,hh];rfl) hO
 have hbad1:∀{B:Q3},¬M6 k i xs.length→Z7 A B→Vl (some (AV.raw (Value.bool false))) (fun o A1=>o=Out.ret (bo (ZC (Exp.mk k n i xs)))∧A1=A) B:=fun hh hO=>hbad (by rw[←cP,UG];exact fun h=>hh h.1) hO
 unfold AN
 refine Qd (fun env ds B=>∃p,env 1=.ptr p 0∧ds=[]∧B p=some (.cells [i64 k,.str n,i64 i,.slice 4 xs.length (xs.flatMap Exp.cells) none])∧Z7 A B) ?_ ?_
 ·simp only[Q1,seval]
  intro p hp
  exact⟨p,rfl,Q0 ..,(Z7.refl A).set hp (by simp)⟩
 rintro env _ B ⟨p,e1,rfl,hp,hO⟩
 refine Qd (fun env ds B'=>env 1=.ptr p 0∧env 3=i64 (Xa k)∧ds=[]∧B=B') ?_ ?_
 ·simp only[e1,hp,Q1,seval]
  refine Q2 (r209 G k _) ?_
  simp only[e1,Q1,seval]
 clear e1
 rintro env _ _ ⟨e1,e3,rfl,rfl⟩
 refine Qd (fun env ds B'=>env 1=.ptr p 0∧ds=[]∧B=B'∧M6 k i xs.length) ?_ ?_
 ·simp only[e1,e3,hp,Q1,seval]
  repeat' refine And.intro (fun _=> ?_) (fun _=> ?_)
  all_goals first|exact hbad1 (by unfold M6;omega) hO|(unfold M6;omega)
 clear e1 e3
 rintro env _ _ ⟨e1,rfl,rfl,hh⟩
 refine Qd (fun env ds B'=>env 1=.ptr p 0∧env 4=bo (decide (k=2∨k=19))∧ds=[]∧B=B') ?_ ?_
 ·simp only[e1,hp,Q1,seval]
  exact⟨fun h=>by rw[fA (.inl h)],fun h=>⟨fun h2=>by rw[fA (.inr h2)],fun h2=>by rw[fB (by omega)]⟩⟩
 clear e1
 rintro env _ _ ⟨e1,e4,rfl,rfl⟩
 refine Qd (fun env ds B'=>env 1=.ptr p 0∧ds=[]∧B=B'∧Yf k n i xs.length=true) ?_ ?_
 ·by_cases hk:k=2∨k=19
  ·rw[fA hk]at e4
   simp only[e1,e4,hp,Q1,seval]
   refine Q2 (r140 G n (by omega)) ?_
   cases hN:Qe n with
   |true=>
    simp only[e1,e4,Q1,seval]
    exact UG.2 ⟨hh,by rw[fC hk,hN]⟩
   |false=>
    simp only[Q1,seval]
    exact hbad (by rw[←cP,UG,fC hk,hN];simp) hO
  ·rw[fB hk]at e4
   simp only[e1,e4,hp,Q1,seval]
   exact⟨fun h=>UG.2 ⟨hh,by rw[fD hk];exact h⟩,fun h=>hbad (by rw[←cP,UG,fD hk];exact fun h2=>h h2.2) hO⟩
 clear e1 e4 hh
 rintro env _ _ ⟨e1,rfl,rfl,hh⟩
 simp only[Q1,seval]
 refine UD (v:=5) xs.length (fun i=> !ZC xs[i]) (fun env=>env 1=.ptr p 0) (.refl B) e1 rfl (by omega) ?_ ?_ ?_ ?_ ?_
 ·rintro i env B' s hi e1 e5 hO'
  have hp:=hO'.keep hp
  simp only[e1,e5,hp,Q1,seval]
  exact U7 hO'
 ·rintro i hi env B' s e1 e5 hO'
  have hp:=hO'.keep hp
  have hd:=J6 (enc:=Exp.cells) (sz:=4) Exp.cells_len hi
  have i1:(i:Int)<xs.length:=by omega
  have c4:(xs[i].cells++(List.drop (i+1) xs).flatMap Exp.cells).take 4=xs[i].cells:=by rw[←Exp.cells_len xs[i],List.take_left]
  simp only[e1,e5,hp,hd,i1,c4,Q1,seval]
  refine Q2 (ih (SizeOf.sizeOf xs[i]) ?_ xs[i] (Xd h.2.2 _ (cV _)) rfl) ?_
  ·have:=cY (cV hi)
   rw[←hn];simp only[Exp.mk.sizeOf_spec];omega
  simp only[e1,e5,QW,Q1,seval]
  exact⟨rfl,hO'⟩
 ·rintro i hi hw env B' s e1 e5
  simp only[e1,e5,hw,Q1,seval]
 ·rintro i hi env B' hO' e2
  simp only[e2,Q1,seval]
  exact Qb (by rw[ZC,Xb,List.all_eq_false.2 ⟨_,cV i.isLt,by simpa using hi⟩,dF]) (Z7.trans hO hO')
 ·rintro hi env B' _ hO'
  simp only[Q1,seval]
  refine Qb ?_ (Z7.trans hO hO')
  rw[ZC,hh,Xb,cH.2]
  ·rfl
  intro x hx
  obtain⟨i,h,rfl⟩:=List.mem_iff_getElem.1 hx
  simpa using hi ⟨i,h⟩
def SW (m:Siz):AV:=.tuple [i64 m.nodes,i64 m.depth,bo !m.wide]
theorem Pf {xs:List Exp}{m:Siz}{i:Nat}(h:i<xs.length):Zh m (xs.take (i+1))=(Zh m (xs.take i)).inn (Z8 xs[i]):=by
 rw[dJ h,KT];rfl
theorem NJ {xs:List Exp}{m:Siz}(i:Nat):(Zh m (xs.take i)).nodes≤(Zh m xs).nodes:=by
 have e:Zh m xs=Zh (Zh m (xs.take i)) (xs.drop i):=by rw[←KT,fY]
 rw[e]
 exact XI _ _
theorem Mm:∀(l:List Exp) (m:Siz),m.depth≤(Zh m l).depth
 |[],m=>fG _
 |x::l,m=>by
  have:=Mm l (m.inn (Z8 x))
  rw[Zh]
  simp only[Siz.inn]at this⊢
  omega
theorem r210 (x:Exp){A:Q3}(h:VS x)(hs:(Z8 x).nodes<2^61):Qu Tryz.prog G 210 [.agg x.cells] A (SW (Z8 x)) A:=by
 generalize hn:SizeOf.sizeOf x=sz
 induction sz using Nat.strongRecOn generalizing x A with
 |_ sz ih=>
 obtain⟨k,n,i,xs⟩:=x
 simp only[VS]at h
 rw[Z8]at hs⊢
 refine Q4 l210 (fE rfl) ?_
 have hc:(Exp.mk k n i xs).cells=[i64 k,.str n,i64 i,.slice 4 xs.length (xs.flatMap Exp.cells) none]:=by rw[Exp.cells,Exp.cellsL_eq]
 rw[hc]
 generalize hS:(⟨1,1,decide (xs.length>4)⟩:Siz)=S0 at*
 have s0:S0.depth≤S0.nodes∧1≤S0.nodes∧S0.nodes=1∧S0.depth=1∧S0.wide=decide (xs.length>4):=by subst hS;simp
 unfold A8
 refine Qd (fun env ds B=>∃p,env 1=.ptr p 0∧ds=[]∧B p=some (.cells [i64 k,.str n,i64 i,.slice 4 xs.length (xs.flatMap Exp.cells) none])∧Z7 A B) ?_ ?_
 ·simp only[Q1,seval]
  intro p hp
  exact⟨p,rfl,Q0 ..,(Z7.refl A).set hp (by simp)⟩
 rintro env _ B ⟨p,e1,rfl,hp,hO⟩
 refine Qd (fun env ds B'=>env 1=.ptr p 0∧env 5=i64 1∧env 6=i64 0∧env 7=bo (!decide (xs.length>4))∧ds=[]∧B=B') ?_ ?_
 ·simp only[e1,hp,Q1,seval]
  refine QV (v:=bo (decide ((xs.length:Int)≤4))) (by simp only[Qf,Zb,if_true];rfl) ?_
  simp only[e1,hp,Q1,seval]
  exact congrArg bo (by by_cases h:xs.length>4 <;> simp [h] <;> omega)
 clear e1
 rintro env _ _ ⟨e1,e5,e6,e7,rfl,rfl⟩
 simp only[e1,e5,e6,e7,Q1,seval]
 refine Ip xs.length (fun i env B'=>env 1=.ptr p 0∧env 5=i64 (Zh S0 (xs.take i)).nodes∧env 6=i64 ((Zh S0 (xs.take i)).depth - 1:Int)∧env 7=bo (!(Zh S0 (xs.take i)).wide)∧env 8=i64 i∧Z7 B B') ⟨e1,?_,?_,?_,rfl,.refl B⟩ ?_ ?_ ?_
 ·show env 5=_
  rw[e5,List.take_zero,Zh,s0.2.2.1];rfl
 ·show env 6=_
  rw[e6,List.take_zero,Zh,s0.2.2.2.1];rfl
 ·show env 7=_
  rw[e7,List.take_zero,Zh,s0.2.2.2.2]
 ·rintro i env B' s hi ⟨e1,e5,e6,e7,e8,hO'⟩
  have hp:=hO'.keep hp
  simp only[e1,e5,e6,e7,e8,hp,Q1,seval]
  exact U7 hO'
 ·rintro i env B' FR hi ⟨e1,e5,e6,e7,e8,hO'⟩ _
  have hp:=hO'.keep hp
  have hd:=J6 (enc:=Exp.cells) (sz:=4) Exp.cells_len hi
  have i1:(i:Int)<xs.length:=by omega
  have c4:(xs[i].cells++(List.drop (i+1) xs).flatMap Exp.cells).take 4=xs[i].cells:=by rw[←Exp.cells_len xs[i],List.take_left]
  simp only[e1,e5,e6,e7,e8,hp,hd,i1,c4,Q1,seval]
  have hT:=Pf (m:=S0) hi
  have hle:=NJ (m:=S0) (xs:=xs) (i+1)
  rw[hT]at hle⊢
  simp only[Siz.inn]at hle⊢
  have Zf:=XJ (xs.take i) S0 ⟨s0.2.1,s0.1⟩
  have hd2:=UE xs[i]
  have hlo:=Mm (xs.take i) S0
  refine Q2 (ih (SizeOf.sizeOf xs[i]) ?_ xs[i] (Xd h.2.2 _ (cV _)) (by omega) rfl) ?_
  ·have:=cY (cV hi)
   rw[←hn];simp only[Exp.mk.sizeOf_spec];omega
  unfold SW
  simp only[e1,e5,e6,e7,e8,Q1,seval]
  have w1:IntKind.i64.wrap ((i:Int)+1)=((i+1:Nat):Int):=by rw[Qg (by omega) (by omega)];rfl
  have w2:IntKind.i64.wrap ((Zh S0 (xs.take i)).nodes+(Z8 xs[i]).nodes:Int)=((Zh S0 (xs.take i)).nodes+(Z8 xs[i]).nodes:Nat):=by rw[Qg (by omega) (by omega)];rfl
  have w3:(if((Zh S0 (xs.take i)).depth:Int) - 1<((Z8 xs[i]).depth:Int)then((Z8 xs[i]).depth:Int)else((Zh S0 (xs.take i)).depth:Int) - 1)=((max (Zh S0 (xs.take i)).depth (1+(Z8 xs[i]).depth):Nat):Int) - 1:=by split <;> omega
  cases(Zh S0 (xs.take i)).wide <;> cases(Z8 xs[i]).wide <;> simp only[e1,e5,e6,e7,e8,w1,w2,Q1,seval] <;> exact⟨by rw[w3],rfl,hO'⟩
 ·rintro env B' ⟨e1,e5,e6,e7,e8,hO'⟩
  rw[fT]at e5 e6 e7
  simp only[e5,e6,e7,Q1,seval]
  have Zf:=XJ xs S0 ⟨s0.2.1,s0.1⟩
  rw[Qg (by omega) (by omega)]
  exact Qb (by unfold SW;rw[show((Zh S0 xs).depth:Int) - 1+1=(Zh S0 xs).depth by omega]) (Z7.trans hO hO')
theorem r154 (x:Exp){A:Q3}(h:VS x)(hs:(Z8 x).nodes<2^61):Qu Tryz.prog G 154 [.agg x.cells] A (bo (Zm x)) A:=by
 refine Q4 l154 (fE rfl) ?_
 have lx:=Exp.cells_len x
 have tx:x.cells.take 4=x.cells:=by rw[←lx,fT]
 have ox:x.cells.all AV.one=true:=by cases x;rfl
 have h1:=fun A=>r210 G x (A:=A) h hs
 unfold SW at h1
 generalize x.cells=c at*
 unfold AM
 simp only[lx,tx,ox,Q1,seval]
 intro p hp
 have hO:=(Z7.refl A).set hp (o:=some (.cells c)) (by simp)
 have hp:(A.upd p (some (.cells c))) p=some (.cells c):=Q0 ..
 generalize A.upd p (some (.cells c))=B at*
 refine Q2 (h1 _) ?_
 have hsm:Zm x=(decide ((Z8 x).nodes≤400)&&decide ((Z8 x).depth≤30)&& !(Z8 x).wide):=rfl
 simp only[Q1,seval]
 exact⟨fun h1=>⟨fun h2=>Qb (by rw[hsm,fA (show(Z8 x).nodes≤400 by omega),fA (show(Z8 x).depth≤30 by omega)];rfl) hO,fun h2=>Qb (by rw[hsm,fB (show¬(Z8 x).depth≤30 by omega)];simp) hO⟩,
  fun h1=>Qb (by rw[hsm,fB (show¬(Z8 x).nodes≤400 by omega)];simp) hO⟩
theorem r73 (x:Exp){A:Q3}(h:VS x)(hs:(Z8 x).nodes<2^61):Qu Tryz.prog G 73 [.agg x.cells] A (i64 (Yc x)) A:=by
 refine Q4 l73 (fE rfl) ?_
 have lx:=Exp.cells_len x
 have tx:x.cells.take 4=x.cells:=by rw[←lx,fT]
 have ox:x.cells.all AV.one=true:=by cases x;rfl
 have h1:=fun A=>r153 G x (A:=A) h
 have h2:=fun A=>r154 G x (A:=A) h hs
 have hc:Yc x=if ZC x then(if Zm x then 0 else 3)else 2:=rfl
 generalize x.cells=c at*
 unfold C73
 simp only[lx,tx,ox,Q1,seval]
 intro p hp
 have hO:=(Z7.refl A).set hp (o:=some (.cells c)) (by simp)
 have hp:(A.upd p (some (.cells c))) p=some (.cells c):=Q0 ..
 generalize A.upd p (some (.cells c))=B at*
 refine Q2 (h1 _) ?_
 rw[hc]
 cases ZC x with
 |false=>
  simp only[Q1,seval]
  exact Qb rfl hO
 |true=>
 simp only[hp,lx,tx,Q1,seval]
 refine Q2 (h2 _) ?_
 cases Zm x with
 |false=>
  simp only[Q1,seval]
  exact Qb rfl hO
 |true=>
 simp only[Q1,seval]
 exact Qb rfl hO
end
end Go.Proofs.YtcbjbgaefighcaaGreatDoor
