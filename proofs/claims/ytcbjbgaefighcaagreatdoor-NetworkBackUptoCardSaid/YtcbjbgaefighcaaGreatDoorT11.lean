/- Part 11 of the proof. -/
import Derived.Test.YtcbjbgaefighcaaGreatDoorT0
import Derived.Test.YtcbjbgaefighcaaGreatDoorT7
import Derived.Test.YtcbjbgaefighcaaGreatDoorT8
import Derived.KernelRfl
import Derived.Test.YtcbjbgaefighcaaGreatDoorProg
import Derived.Test.YtcbjbgaefighcaaGreatDoorShelf
set_option linter.all false
namespace Go.Proofs.YtcbjbgaefighcaaGreatDoor
open Go Go.Ax Go.Ax.K Go.Proofs
def C16:LC:=.seq (.ops [o 1 (.box 29 (t 0)),o 2 (mc (.int .i64 0))])<|.seq (.ops [o 3 (.alloc 116 [.bool false,.bool false])])<|.seq (.ops [o 14 (fl 0 1),o 15 (ld 14),⟨some 16,.bslice 9 1 1 [.string ⟨#[]⟩] [(0,t 15)],none⟩,o 17 (ca 55 [t 3,t 16])])<|.seq (.ops [o 18 (fl 1 1),o 19 (ld 18),o 20 (ca 55 [t 3,t 19])])<|.seq (.ops [o 21 (fl 1 1),o 22 (ld 21),o 23 (le 22),o 24 (ca 56 [t 3,t 23,.const (.int .i64 8)])])<|.seq (.ops [o 25 (fl 2 1),o 26 (ld 25),o 27 (le 26),o 28 (ca 56 [t 3,t 27,.const (.int .i64 16)])])<|.seq (.seq (.ops [o 29 (fl 2 1),o 30 (ld 29),o 31 (le 30),o 32 (mc (.int .i64 0))])<|.block 0<|.loop<|.seq (.ops [o 33 (bn .lss 32 31)])<|.seq (.cond (t 33) (.skip)<|.exit 0)<|.seq (.block 1<|.seq (.ops [o 34 (ix 4 30 32),o 35 (la 4 34),⟨some 5,.alloc 88 [.string ⟨#[]⟩,.int .i64 0,.int .i64 0,.int .i64 0],none⟩,e (.store 4 (t 5) (t 35))])<|.seq (.ops [o 36 (fl 0 5),o 37 (ld 36),⟨some 38,.bslice 9 1 1 [.string ⟨#[]⟩] [(0,t 37)],none⟩,o 39 (ca 55 [t 3,t 38])])<|.ops [o 40 (fl 1 5),o 41 (ld 40),o 42 (fl 2 5),o 43 (ld 42),o 44 (fl 3 5),o 45 (ld 44),o 46 (.bslice 2 1 3 [.int .i64 0] [(0,t 41),(1,t 43),(2,t 45)]),o 47 (ca 57 [t 3,t 46])])<|.ops [o 48 (bk .add 32 (1)),o 32 (mv 48)])<|.seq (.ops [o 49 (fl 3 1),o 50 (ld 49),o 51 (le 50),o 52 (ca 56 [t 3,t 51,.const (.int .i64 16)])])<|.seq (.seq (.ops [o 53 (fl 3 1),o 54 (ld 53),o 55 (le 54),o 56 (mc (.int .i64 0))])<|.block 2<|.loop<|.seq (.ops [o 57 (bn .lss 56 55)])<|.seq (.cond (t 57) (.skip)<|.exit 2)<|.seq (.block 3<|.seq (.ops [o 58 (ix 3 54 56),o 59 (la 3 58),⟨some 7,.alloc 90 [.string ⟨#[]⟩,.bool false,.bool false],none⟩,e (.store 3 (t 7) (t 59))])<|.ops [o 60 (fl 0 7),o 61 (ld 60),⟨some 62,.bslice 9 1 1 [.string ⟨#[]⟩] [(0,t 61)],none⟩,o 63 (ca 55 [t 3,t 62])])<|.ops [o 64 (bk .add 56 (1)),o 56 (mv 64)])<|.seq (.ops [o 65 (fl 4 1),o 66 (ld 65),o 67 (ca 59 [t 66]),o 68 (ca 58 [t 3,t 67])])<|.seq (.ops [o 69 (fl 5 1),o 70 (ld 69),o 71 (le 70),o 72 (ca 56 [t 3,t 71,.const (.int .i64 6)])])<|.seq (.seq (.ops [o 73 (fl 5 1),o 74 (ld 73),o 75 (le 74),o 76 (mc (.int .i64 0))])<|.block 4<|.loop<|.seq (.ops [o 77 (bn .lss 76 75)])<|.seq (.cond (t 77) (.skip)<|.exit 4)<|.seq (.block 5<|.seq (.ops [o 78 (ix 4 74 76),o 79 (la 4 78),⟨some 9,.alloc 48 [.string ⟨#[]⟩,.string ⟨#[]⟩,.slice none 0 0,.slice none 0 0],none⟩,e (.store 4 (t 9) (t 79))])<|.seq (.ops [o 80 (fl 0 9),o 81 (ld 80),o 82 (fl 1 9),o 83 (ld 82),⟨some 84,.bslice 9 1 2 [.string ⟨#[]⟩] [(0,t 81),(1,t 83)],none⟩,o 85 (ca 55 [t 3,t 84])])<|.seq (.ops [o 86 (fl 2 9),o 87 (ld 86),o 88 (le 87),o 89 (ca 56 [t 3,t 88,.const (.int .i64 20)])])<|.seq (.ops [o 90 (fl 3 9),o 91 (ld 90),o 92 (le 91),o 93 (ca 56 [t 3,t 92,.const (.int .i64 60)])])<|.seq (.seq (.ops [o 94 (fl 2 9),o 95 (ld 94),o 96 (le 95),o 97 (mc (.int .i64 0))])<|.block 6<|.loop<|.seq (.ops [o 98 (bn .lss 97 96)])<|.seq (.cond (t 98) (.skip)<|.exit 6)<|.seq (.block 7<|.seq (.ops [o 99 (ix 4 95 97),o 100 (la 4 99),⟨some 11,.alloc 97 [.string ⟨#[]⟩,.int .i64 0,.slice none 0 0,.int .i64 0],none⟩,e (.store 4 (t 11) (t 100))])<|.seq (.ops [o 101 (fl 0 11),o 102 (ld 101),⟨some 103,.bslice 9 1 1 [.string ⟨#[]⟩] [(0,t 102)],none⟩,o 104 (ca 55 [t 3,t 103])])<|.seq (.ops [o 105 (fl 0 3),o 106 (ld 105),o 107 (mv 106),gf 107 108 (fl 1 11),gf 107 109 (ld 108),gf 107 110 (bk .lss 109 (0)),o 111 (po 107 110),o 112 (mv 111),gf 112 113 (fl 1 11),gf 112 114 (ld 113),gf 112 115 (bk .gtr 114 (2)),o 116 (po 112 115),o 117 (fl 0 3),e (.store 1 (t 117) (t 116))])<|.seq (.ops [o 118 (fl 2 11),o 119 (ld 118),o 120 (ca 60 [t 3,t 119])])<|.ops [o 121 (fl 3 11),o 122 (ld 121),o 123 (.bslice 2 1 1 [.int .i64 0] [(0,t 122)]),o 124 (ca 57 [t 3,t 123])])<|.ops [o 125 (bk .add 97 (1)),o 97 (mv 125)])<|.seq (.ops [o 126 (fl 3 9),o 127 (ld 126),o 128 (le 127),o 129 (mc (.int .i64 0))])<|.block 8<|.loop<|.seq (.ops [o 130 (bn .lss 129 128)])<|.seq (.cond (t 130) (.skip)<|.exit 8)<|.seq (.block 9<|.seq (.ops [o 131 (ix 13 127 129),o 132 (la 13 131),⟨some 13,.alloc 53 [.string ⟨#[]⟩,.string ⟨#[]⟩,.slice none 0 0,.int .i64 0,.string ⟨#[]⟩,.int .i64 0,.slice none 0 0,.string ⟨#[]⟩,.bool false,.slice none 0 0,.slice none 0 0,.int .i64 0,.int .i64 0],none⟩,e (.store 13 (t 13) (t 132))])<|.ops [o 133 (la 13 13),o 134 (ca 61 [t 3,t 133])])<|.ops [o 135 (bk .add 129 (1)),o 129 (mv 135)])<|.ops [o 136 (bk .add 76 (1)),o 76 (mv 136)])<|.seq (.block 10<|.seq (.ops [o 138 (fl 0 3),o 139 (ld 138),o 137 (mv 139)])<|.cond (t 137) (.seq (.ops [o 2 (mc (.int .i64 2))])<|.ret)<|.seq (.ops [o 141 (fl 1 3),o 142 (ld 141),o 140 (mv 142)])<|.cond (t 140) (.seq (.ops [o 2 (mc (.int .i64 3))])<|.ret)<|.skip)<|.seq (.ops [o 2 (mc (.int .i64 0))])<|.ret
theorem l16:Q8 Tryz.prog 16=some ⟨143,false,[.tmp 2],C16⟩:=by kernel_rfl
def C55:LC:=.ops [o 4 (mv 0),o 5 (mv 0),o 6 (.nchk (t 5)),o 7 (fl 0 6),o 8 (ld 7),o 9 (mv 8),gf 9 10 (mv 1),gf 9 11 (ca 128 [t 10,.func 129]),o 12 (po 9 11),o 13 (.nchk (t 4)),o 14 (fl 0 13),e (.store 1 (t 14) (t 12))]
theorem l55:Q8 Tryz.prog 55=some ⟨15,false,[],C55⟩:=by kernel_rfl
def C56:LC:=.ops [o 6 (mv 0),o 7 (mv 0),o 8 (.nchk (t 7)),o 9 (fl 1 8),o 10 (ld 9),o 11 (mv 10),gf 11 12 (mv 1),gf 11 13 (mv 2),gf 11 14 (bn .gtr 12 13),o 15 (po 11 14),o 16 (.nchk (t 6)),o 17 (fl 1 16),e (.store 1 (t 17) (t 15))]
theorem l56:Q8 Tryz.prog 56=some ⟨18,false,[],C56⟩:=by kernel_rfl
def C57:LC:=.ops [o 4 (mv 0),o 5 (mv 0),o 6 (.nchk (t 5)),o 7 (fl 0 6),o 8 (ld 7),o 9 (mv 8),gf 9 10 (mv 1),gf 9 11 (ca 131 [t 10,.func 132]),o 12 (po 9 11),o 13 (.nchk (t 4)),o 14 (fl 0 13),e (.store 1 (t 14) (t 12))]
theorem l57:Q8 Tryz.prog 57=some ⟨15,false,[],C57⟩:=by kernel_rfl
def C58:LC:=.draw (
v 0 (o 4<|mv 0)<|v 1 (o 5<|mv 0)<|v 2 (o 6<|mv 0)<|v 3 (o 7 (.nchk (t 6)))<|v 4 (o 8<|fl 0 7)<|w 5 (o 9<|ld 8)<|v 6 (o 10<|mv 9)<|v 7 (gf 10 11 (mv 1))<|v 8 (gf 10 12 (bk .eql 11 (2)))<|v 9 (o 13<|po 10 12)<|v 10 (o 14<|mv 0)<|v 11 (o 15 (.nchk (t 14)))<|v 12 (o 16<|fl 1 15)<|w 13 (o 17<|ld 16)<|v 14 (o 18<|mv 17)<|v 15 (gf 18 19 (mv 1))<|v 16 (gf 18 20 (bk .eql 19 (3)))<|v 17 (o 21<|po 18 20)<|v 18 (o 22 (.nchk (t 4)))<|v 19 (o 23<|fl 0 22)<|.eff (e (.store 1 (t 23) (t 13))) [] (
v 21 (o 24 (.nchk (t 5)))<|v 22 (o 25<|fl 1 24)<|.eff (e (.store 1 (t 25) (t 21))) [] (
.done) (
.nil)) (
.nil))
theorem l58:Q8 Tryz.prog 58=some ⟨26,false,[],C58⟩:=by kernel_rfl
def C59:LC:=.seq (.ops [o 2 (mc (.int .i64 0))])<|.seq (.seq (.ops [o 5 (mv 0),o 6 (le 5),o 7 (mc (.int .i64 0))])<|.block 0<|.loop<|.seq (.ops [o 8 (bn .lss 7 6)])<|.seq (.cond (t 8) (.skip)<|.exit 0)<|.seq (.block 1<|.seq (.ops [o 9 (ix 3 5 7),o 10 (la 3 9),⟨some 4,.alloc 80 [.string ⟨#[]⟩,.slice none 0 0,.slice none 0 0],none⟩,e (.store 3 (t 4) (t 10))])<|.seq (.ops [o 11 (fl 0 4),o 12 (ld 11),o 13 (ca 130 [t 12]),o 14 (.un .not (t 13)),o 15 (mv 14),gf 15 16 (fl 1 4),gf 15 17 (ld 16),gf 15 18 (ca 128 [t 17,.func 134]),o 19 (po 15 18),o 20 (mv 19),gf 20 21 (fl 2 4),gf 20 22 (ld 21),gf 20 23 (ca 135 [t 22,.func 136]),o 24 (po 20 23)])<|.cond (t 24) (.seq (.ops [o 2 (mc (.int .i64 2))])<|.ret)<|.skip)<|.ops [o 25 (bk .add 7 (1)),o 7 (mv 25)])<|.seq (.seq (.ops [o 26 (mv 0),o 27 (ca 138 [t 26]),o 28 (.un .not (t 27))])<|.cond (t 28) (.seq (.ops [o 2 (mc (.int .i64 3))])<|.ret)<|.skip)<|.seq (.ops [o 2 (mc (.int .i64 0))])<|.ret
theorem l59:Q8 Tryz.prog 59=some ⟨29,false,[.tmp 2],C59⟩:=by kernel_rfl
def C60:LC:=.seq (.ops [o 6 (mv 0),o 7 (mv 1),o 8 (le 7),o 9 (ca 56 [t 6,t 8,.const (.int .i64 16)])])<|.seq (.ops [o 10 (mv 1),o 11 (le 10),o 12 (mc (.int .i64 0))])<|.block 0<|.loop<|.seq (.ops [o 13 (bn .lss 12 11)])<|.seq (.cond (t 13) (.skip)<|.exit 0)<|.seq (.block 1<|.seq (.ops [o 14 (ix 4 10 12),o 15 (la 4 14),⟨some 5,.alloc 179 [.string ⟨#[]⟩,.bool false,.bool false,.int .i64 0],none⟩,e (.store 4 (t 5) (t 15))])<|.seq (.ops [o 16 (mv 0),o 17 (fl 0 5),o 18 (ld 17),⟨some 19,.bslice 9 1 1 [.string ⟨#[]⟩] [(0,t 18)],none⟩,o 20 (ca 55 [t 16,t 19])])<|.ops [o 21 (mv 0),o 22 (fl 3 5),o 23 (ld 22),o 24 (.bslice 2 1 1 [.int .i64 0] [(0,t 23)]),o 25 (ca 57 [t 21,t 24])])<|.ops [o 26 (bk .add 12 (1)),o 12 (mv 26)]
theorem l60:Q8 Tryz.prog 60=some ⟨27,false,[],C60⟩:=by kernel_rfl
def C61:LC:=.seq (.ops [o 3 (.box 53 (t 1))])<|.seq (.ops [o 8 (mv 0),o 9 (fl 0 3),o 10 (ld 9),o 11 (fl 1 3),o 12 (ld 11),⟨some 13,.bslice 9 1 2 [.string ⟨#[]⟩] [(0,t 10),(1,t 12)],none⟩,o 14 (ca 55 [t 8,t 13])])<|.seq (.ops [o 15 (mv 0),o 16 (fl 2 3),o 17 (ld 16),o 18 (ca 60 [t 15,t 17])])<|.seq (.seq (.ops [o 19 (fl 3 3),o 20 (la 4 19),o 21 (ca 112 [t 20]),o 22 (.un .not (t 21))])<|.cond (t 22) (.ops [o 23 (mv 0),o 24 (fl 3 3),o 25 (la 4 24),o 26 (ca 139 [t 25]),o 27 (ca 58 [t 23,t 26])])<|.skip)<|.seq (.seq (.ops [o 28 (fl 7 3),o 29 (ld 28),⟨some 30,.bin .neq .num (t 29) (.const (.string ⟨#[]⟩)),none⟩])<|.cond (t 30) (.ops [o 31 (mv 0),o 32 (fl 7 3),o 33 (ld 32),⟨some 34,.bslice 9 1 1 [.string ⟨#[]⟩] [(0,t 33)],none⟩,o 35 (ca 55 [t 31,t 34])])<|.skip)<|.seq (.ops [o 36 (mv 0),o 37 (mv 0),o 38 (.nchk (t 37)),o 39 (fl 0 38),o 40 (ld 39),o 41 (mv 40),gf 41 42 (fl 7 3),gf 41 43 (ld 42),⟨some 44,.bin .eql .num (t 43) (.const (.string ⟨#[]⟩)),some (41,false)⟩,gf 41 45 (mv 44),gt 45 46 (fl 8 3),gt 45 47 (ld 46),gf 41 48 (pa 45 47),o 49 (po 41 48),o 50 (.nchk (t 36)),o 51 (fl 0 50),e (.store 1 (t 51) (t 49))])<|.seq (.ops [o 52 (mv 0),o 53 (fl 9 3),o 54 (ld 53),o 55 (le 54),o 56 (ca 56 [t 52,t 55,.const (.int .i64 16)])])<|.seq (.seq (.ops [o 57 (fl 9 3),o 58 (ld 57),o 59 (le 58),o 60 (mc (.int .i64 0))])<|.block 0<|.loop<|.seq (.ops [o 61 (bn .lss 60 59)])<|.seq (.cond (t 61) (.skip)<|.exit 0)<|.seq (.block 1<|.seq (.ops [o 62 (ix 5 58 60),o 63 (la 5 62),⟨some 5,.alloc 56 [.string ⟨#[]⟩,.int .i64 0,.string ⟨#[]⟩,.int .i64 0,.slice none 0 0],none⟩,e (.store 5 (t 5) (t 63))])<|.seq (.ops [o 64 (mv 0),o 65 (fl 0 5),o 66 (ld 65),⟨some 67,.bslice 9 1 1 [.string ⟨#[]⟩] [(0,t 66)],none⟩,o 68 (ca 55 [t 64,t 67])])<|.ops [o 69 (mv 0),o 70 (fl 1 5),o 71 (la 4 70),o 72 (ca 139 [t 71]),o 73 (ca 58 [t 69,t 72])])<|.ops [o 74 (bk .add 60 (1)),o 60 (mv 74)])<|.seq (.ops [o 75 (mv 0),o 76 (fl 10 3),o 77 (ld 76),o 78 (le 77),o 79 (ca 56 [t 75,t 78,.const (.int .i64 16)])])<|.seq (.seq (.ops [o 80 (fl 10 3),o 81 (ld 80),o 82 (le 81),o 83 (mc (.int .i64 0))])<|.block 2<|.loop<|.seq (.ops [o 84 (bn .lss 83 82)])<|.seq (.cond (t 84) (.skip)<|.exit 2)<|.seq (.block 3<|.seq (.ops [o 85 (ix 2 81 83),o 86 (la 2 85),⟨some 7,.alloc 163 [.string ⟨#[]⟩,.int .i64 0],none⟩,e (.store 2 (t 7) (t 86))])<|.seq (.ops [o 87 (mv 0),o 88 (fl 0 7),o 89 (ld 88),⟨some 90,.bslice 9 1 1 [.string ⟨#[]⟩] [(0,t 89)],none⟩,o 91 (ca 55 [t 87,t 90])])<|.ops [o 92 (mv 0),o 93 (fl 1 7),o 94 (ld 93),o 95 (.bslice 2 1 1 [.int .i64 0] [(0,t 94)]),o 96 (ca 57 [t 92,t 95])])<|.ops [o 97 (bk .add 83 (1)),o 83 (mv 97)])<|.ops [o 98 (mv 0),o 99 (fl 11 3),o 100 (ld 99),o 101 (fl 12 3),o 102 (ld 101),o 103 (.bslice 2 1 2 [.int .i64 0] [(0,t 100),(1,t 102)]),o 104 (ca 57 [t 98,t 103])]
theorem l61:Q8 Tryz.prog 61=some ⟨105,false,[],C61⟩:=by kernel_rfl
def qN:LC:=.seq (.ops [o 1 (.box 42 (t 0)),o 2 (mc (.bool false))])<|.seq (.ops [o 3 (fl 0 1),o 4 (ld 3),o 5 (bk .eql 4 (0)),o 6 (mv 5),gt 6 7 (fl 1 1),gt 6 8 (ld 7),⟨some 9,.bin .eql .num (t 8) (.const (.string ⟨#[]⟩)),some (6,true)⟩,o 10 (pa 6 9),o 11 (mv 10),gt 11 12 (fl 2 1),gt 11 13 (ld 12),gt 11 14 (bk .eql 13 (0)),o 15 (pa 11 14),o 16 (mv 15),gt 16 17 (fl 3 1),gt 16 18 (ld 17),gt 16 19 (le 18),gt 16 20 (bk .eql 19 (0)),o 21 (pa 16 20),o 2 (mv 21)])<|.ret
theorem l112:Q8 Tryz.prog 112=some ⟨22,false,[.tmp 2],qN⟩:=by kernel_rfl
def qC:LC:=.seq (.ops [o 4 (mc (.bool false))])<|.seq (.ops [o 5 (mv 0),o 6 (mv 1),o 7 (ca 188 [t 5,t 6]),o 8 (bk .geq 7 (0)),o 4 (mv 8)])<|.ret
theorem l128:Q8 Tryz.prog 128=some ⟨9,false,[.tmp 4],qC⟩:=by kernel_rfl
def qB:LC:=.seq (.ops [o 2 (mc (.bool false))])<|.seq (.ops [o 3 (mv 0),o 4 (ca 130 [t 3]),o 5 (.un .not (t 4)),o 2 (mv 5)])<|.ret
theorem l129:Q8 Tryz.prog 129=some ⟨6,false,[.tmp 2],qB⟩:=by kernel_rfl
def qA:LC:=.seq (.ops [o 4 (mc (.bool false))])<|.seq (.ops [o 5 (mv 0),o 6 (mv 1),o 7 (ca 192 [t 5,t 6]),o 8 (bk .geq 7 (0)),o 4 (mv 8)])<|.ret
theorem l131:Q8 Tryz.prog 131=some ⟨9,false,[.tmp 4],qA⟩:=by kernel_rfl
def AZ:LC:=.seq (.ops [o 2 (mc (.bool false))])<|.seq (.ops [o 3 (mv 0),o 4 (ca 133 [t 3]),o 5 (.un .not (t 4)),o 2 (mv 5)])<|.ret
theorem l132:Q8 Tryz.prog 132=some ⟨6,false,[.tmp 2],AZ⟩:=by kernel_rfl
def AY:LC:=.seq (.ops [o 2 (mc (.bool false))])<|.seq (.ops [o 3 (mv 0),o 4 (.bin .geq .num (t 3) (.const (.int .i64 (-2147483648)))),o 5 (mv 4),gt 5 6 (mv 0),gt 5 7 (bk .leq 6 (2147483648)),o 8 (pa 5 7),o 2 (mv 8)])<|.ret
theorem l133:Q8 Tryz.prog 133=some ⟨9,false,[.tmp 2],AY⟩:=by kernel_rfl
def AX:LC:=.seq (.ops [o 2 (mc (.bool false))])<|.seq (.ops [o 3 (mv 0),o 4 (ca 130 [t 3]),o 5 (.un .not (t 4)),o 2 (mv 5)])<|.ret
theorem l134:Q8 Tryz.prog 134=some ⟨6,false,[.tmp 2],AX⟩:=by kernel_rfl
def AW:LC:=.seq (.ops [o 4 (mc (.bool false))])<|.seq (.ops [o 5 (mv 0),o 6 (mv 1),o 7 (ca 193 [t 5,t 6]),o 8 (bk .geq 7 (0)),o 4 (mv 8)])<|.ret
theorem l135:Q8 Tryz.prog 135=some ⟨9,false,[.tmp 4],AW⟩:=by kernel_rfl
def AU:LC:=.seq (.ops [o 1 (.box 175 (t 0)),o 2 (mc (.bool false))])<|.seq (.ops [o 3 (la 8 1),o 4 (ca 137 [t 3]),o 5 (.un .not (t 4)),o 2 (mv 5)])<|.ret
theorem l136:Q8 Tryz.prog 136=some ⟨6,false,[.tmp 2],AU⟩:=by kernel_rfl
def AT:LC:=.seq (.ops [o 1 (.box 175 (t 0)),o 2 (mc (.bool false))])<|.seq (.ops [o 5 (fl 1 1),o 6 (ld 5),⟨some 7,.bin .eql .num (t 6) (.const (.string ⟨#[]⟩)),none⟩,o 3 (mv 7)])<|.seq (.seq (.ops [o 8 (fl 0 1),o 9 (ld 8),o 10 (bk .eql 9 (1)),o 11 (mv 10),gf 11 12 (fl 0 1),gf 11 13 (ld 12),gf 11 14 (bk .eql 13 (2)),o 15 (po 11 14)])<|.cond (t 15) (.ops [o 16 (fl 1 1),o 17 (ld 16),o 18 (ca 130 [t 17]),o 3 (mv 18)])<|.skip)<|.seq (.ops [o 4 (.mv (.func 194))])<|.seq (.ops [o 19 (fl 0 1),o 20 (ld 19),o 21 (bk .geq 20 (1)),o 22 (mv 21),gt 22 23 (fl 0 1),gt 22 24 (ld 23),gt 22 25 (bk .leq 24 (5)),o 26 (pa 22 25),o 27 (mv 26),gt 27 28 (mv 3),o 29 (pa 27 28),o 30 (mv 29),gt 30 31 (fl 2 1),gt 30 32 (la 4 31),gt 30 33 (ca 195 [t 32]),o 34 (pa 30 33),o 35 (mv 34),gt 35 36 (fl 6 1),gt 35 37 (ld 36),gt 35 38 (le 37),gt 35 39 (bk .eql 38 (0)),gt 35 40 (mv 39),gf 40 41 (fl 0 1),gf 40 42 (ld 41),gf 40 43 (bk .eql 42 (3)),gt 35 44 (po 40 43),gt 35 45 (mv 44),gf 45 46 (fl 0 1),gf 45 47 (ld 46),gf 45 48 (bk .eql 47 (4)),gt 35 49 (po 45 48),o 50 (pa 35 49),o 51 (mv 50),gt 51 52 (fl 7 1),gt 51 53 (ld 52),gt 51 54 (le 53),gt 51 55 (bk .eql 54 (0)),gt 51 56 (mv 55),gf 56 57 (fl 0 1),gf 56 58 (ld 57),gf 56 59 (bk .eql 58 (3)),gt 51 60 (po 56 59),o 61 (pa 51 60),o 62 (mv 61),gt 62 63 (fl 6 1),gt 62 64 (ld 63),gt 62 65 (mv 4),gt 62 66 (ca 135 [t 64,t 65]),gt 62 67 (.un .not (t 66)),o 68 (pa 62 67),o 69 (mv 68),gt 69 70 (fl 7 1),gt 69 71 (ld 70),gt 69 72 (mv 4),gt 69 73 (ca 135 [t 71,t 72]),gt 69 74 (.un .not (t 73)),o 75 (pa 69 74),o 2 (mv 75)])<|.ret
theorem l137:Q8 Tryz.prog 137=some ⟨76,false,[.tmp 2],AT⟩:=by kernel_rfl
def AR:LC:=.seq (.ops [o 1 (.box 42 (t 0)),o 2 (mc (.int .i64 0))])<|.seq (.seq (.ops [o 3 (la 4 1),o 4 (ca 195 [t 3]),o 5 (.un .not (t 4))])<|.cond (t 5) (.seq (.ops [o 2 (mc (.int .i64 2))])<|.ret)<|.skip)<|.seq (.seq (.ops [o 6 (la 4 1),o 7 (ca 198 [t 6]),o 8 (ca 197 [t 7]),o 9 (.un .not (t 8))])<|.cond (t 9) (.seq (.ops [o 2 (mc (.int .i64 3))])<|.ret)<|.skip)<|.seq (.ops [o 2 (mc (.int .i64 0))])<|.ret
theorem l139:Q8 Tryz.prog 139=some ⟨10,false,[.tmp 2],AR⟩:=by kernel_rfl
def Ap:LC:=.seq (.ops [o 4 (mc (.int .i64 0))])<|.seq (.seq (.ops [o 6 (mv 0),o 7 (le 6),o 8 (mc (.int .i64 0))])<|.block 0<|.loop<|.seq (.ops [o 9 (bn .lss 8 7)])<|.seq (.cond (t 9) (.skip)<|.exit 0)<|.seq (.block 1<|.seq (.ops [o 10 (mv 8),o 5 (mv 10)])<|.seq (.ops [o 11 (mv 1),o 12 (mv 0),o 13 (mv 5),o 14 (ix 1 12 13),o 15 (ld 14),o 16 (.call (t 11) [t 15])])<|.cond (t 16) (.seq (.ops [o 17 (mv 5),o 4 (mv 17)])<|.ret)<|.skip)<|.ops [o 18 (bk .add 8 (1)),o 8 (mv 18)])<|.seq (.ops [o 4 (mc (.int .i64 (-1)))])<|.ret
theorem l188:Q8 Tryz.prog 188=some ⟨19,false,[.tmp 4],Ap⟩:=by kernel_rfl
def Al:LC:=.seq (.ops [o 4 (mc (.int .i64 0))])<|.seq (.seq (.ops [o 6 (mv 0),o 7 (le 6),o 8 (mc (.int .i64 0))])<|.block 0<|.loop<|.seq (.ops [o 9 (bn .lss 8 7)])<|.seq (.cond (t 9) (.skip)<|.exit 0)<|.seq (.block 1<|.seq (.ops [o 10 (mv 8),o 5 (mv 10)])<|.seq (.ops [o 11 (mv 1),o 12 (mv 0),o 13 (mv 5),o 14 (ix 1 12 13),o 15 (ld 14),o 16 (.call (t 11) [t 15])])<|.cond (t 16) (.seq (.ops [o 17 (mv 5),o 4 (mv 17)])<|.ret)<|.skip)<|.ops [o 18 (bk .add 8 (1)),o 8 (mv 18)])<|.seq (.ops [o 4 (mc (.int .i64 (-1)))])<|.ret
theorem l192:Q8 Tryz.prog 192=some ⟨19,false,[.tmp 4],Al⟩:=by kernel_rfl
def Ak:LC:=.seq (.ops [o 4 (mc (.int .i64 0))])<|.seq (.seq (.ops [o 6 (mv 0),o 7 (le 6),o 8 (mc (.int .i64 0))])<|.block 0<|.loop<|.seq (.ops [o 9 (bn .lss 8 7)])<|.seq (.cond (t 9) (.skip)<|.exit 0)<|.seq (.block 1<|.seq (.ops [o 10 (mv 8),o 5 (mv 10)])<|.seq (.ops [o 11 (mv 1),o 12 (mv 0),o 13 (mv 5),o 14 (ix 8 12 13),o 15 (la 8 14),o 16 (.call (t 11) [t 15])])<|.cond (t 16) (.seq (.ops [o 17 (mv 5),o 4 (mv 17)])<|.ret)<|.skip)<|.ops [o 18 (bk .add 8 (1)),o 8 (mv 18)])<|.seq (.ops [o 4 (mc (.int .i64 (-1)))])<|.ret
theorem l193:Q8 Tryz.prog 193=some ⟨19,false,[.tmp 4],Ak⟩:=by kernel_rfl
def Aj:LC:=.seq (.ops [o 1 (.box 175 (t 0)),o 2 (mc (.bool false))])<|.seq (.ops [o 3 (la 8 1),o 4 (ca 137 [t 3]),o 5 (.un .not (t 4)),o 2 (mv 5)])<|.ret
theorem l194:Q8 Tryz.prog 194=some ⟨6,false,[.tmp 2],Aj⟩:=by kernel_rfl
def Ai:LC:=.seq (.ops [o 1 (.box 42 (t 0)),o 2 (mc (.bool false))])<|.seq (.ops [o 3 (mc (.int .i64 2))])<|.seq (.seq (.ops [o 7 (fl 0 1),o 8 (ld 7)])<|.block 0<|.seq (.seq (.ops [o 18 (bk .eql 8 (1)),o 17 (mv 18)])<|.cond (t 17) (.skip)<|.ops [o 19 (bk .eql 8 (2)),o 17 (mv 19)])<|.cond (t 17) (.ops [o 3 (mc (.int .i64 0))])<|.seq (.seq (.ops [o 21 (bk .eql 8 (3)),o 20 (mv 21)])<|.cond (t 20) (.skip)<|.ops [o 22 (bk .eql 8 (4)),o 20 (mv 22)])<|.cond (t 20) (.ops [o 3 (mc (.int .i64 1))])<|.seq (.ops [o 24 (bk .eql 8 (18)),o 23 (mv 24)])<|.cond (t 23) (.ops [o 3 (mc (.int .i64 3))])<|.seq (.ops [o 26 (bk .eql 8 (19)),o 25 (mv 26)])<|.cond (t 25) (.ops [o 27 (fl 3 1),o 28 (ld 27),o 29 (le 28),o 3 (mv 29)])<|.seq (.ops [o 10 (fl 0 1),o 11 (ld 10),o 12 (ca 239 [t 11]),o 9 (mv 12),o 13 (.ext (t 9) 0),o 14 (.ext (t 9) 1),o 4 (mv 13),o 5 (mv 14)])<|.seq (.ops [o 15 (mv 5),o 16 (bk .eql 15 (0))])<|.cond (t 16) (.seq (.ops [o 2 (mc (.bool false))])<|.ret)<|.skip)<|.seq (.ops [o 30 (fl 1 1),o 31 (ld 30),⟨some 32,.bin .eql .num (t 31) (.const (.string ⟨#[]⟩)),none⟩,o 6 (mv 32)])<|.seq (.seq (.ops [o 33 (fl 0 1),o 34 (ld 33),o 35 (bk .eql 34 (2)),o 36 (mv 35),gf 36 37 (fl 0 1),gf 36 38 (ld 37),gf 36 39 (bk .eql 38 (19)),o 40 (po 36 39)])<|.cond (t 40) (.ops [o 41 (fl 1 1),o 42 (ld 41),o 43 (ca 130 [t 42]),o 6 (mv 43)])<|.skip)<|.seq (.ops [o 44 (mv 6),o 45 (mv 44),gt 45 46 (fl 3 1),gt 45 47 (ld 46),gt 45 48 (le 47),gt 45 49 (mv 3),gt 45 50 (bn .eql 48 49),o 51 (pa 45 50),o 52 (mv 51),gt 52 53 (fl 2 1),gt 52 54 (ld 53),gt 52 55 (bk .eql 54 (0)),gt 52 56 (mv 55),gf 56 57 (fl 0 1),gf 56 58 (ld 57),gf 56 59 (bk .eql 58 (1)),gt 52 60 (po 56 59),o 61 (pa 52 60),o 62 (mv 61),gt 62 63 (fl 2 1),gt 62 64 (ld 63),gt 62 65 (.bin .geq .num (t 64) (.const (.int .i64 (-2147483648)))),o 66 (pa 62 65),o 67 (mv 66),gt 67 68 (fl 2 1),gt 67 69 (ld 68),gt 67 70 (bk .leq 69 (2147483648)),o 71 (pa 67 70),o 72 (mv 71),gt 72 73 (fl 3 1),gt 72 74 (ld 73),gt 72 75 (ca 240 [t 74,.func 241]),gt 72 76 (.un .not (t 75)),o 77 (pa 72 76),o 2 (mv 77)])<|.ret
theorem l195:Q8 Tryz.prog 195=some ⟨78,false,[.tmp 2],Ai⟩:=by kernel_rfl
def BM:LC:=.seq (.ops [⟨some 2,mc (.string ⟨#[]⟩),none⟩,o 3 (mc (.int .i64 0))])<|.seq (.seq (.ops [o 8 (ca 265 []),o 9 (mc (.int .i64 0))])<|.block 0<|.loop<|.seq (.ops [o 10 (bk .lss 9 (6))])<|.seq (.cond (t 10) (.skip)<|.exit 0)<|.seq (.block 1<|.seq (.ops [o 11 (mv 9),o 12 (.idxV 6 1 false (t 8) (t 9)),o 4 (mv 11),o 5 (mv 12)])<|.seq (.ops [o 13 (mv 5),o 14 (.rng (t 13))])<|.block 2<|.loop<|.seq (.ops [o 15 (.nxt (t 14)),o 16 (.ext (t 15) 0)])<|.seq (.cond (t 16) (.skip)<|.exit 2)<|.block 3<|.seq (.ops [o 17 (.ent (t 14)),o 18 (.ext (t 17) 0),o 19 (.ext (t 17) 1),o 6 (mv 18),o 7 (mv 19)])<|.seq (.ops [o 20 (mv 7),o 21 (mv 0),o 22 (bn .eql 20 21)])<|.cond (t 22) (.seq (.ops [o 23 (mv 6),o 24 (mv 4),o 2 (mv 23),o 3 (mv 24)])<|.ret)<|.skip)<|.ops [o 25 (bk .add 9 (1)),o 9 (mv 25)])<|.seq (.ops [⟨some 2,mc (.string ⟨#[]⟩),none⟩,o 3 (mc (.int .i64 0))])<|.ret
theorem l239:Q8 Tryz.prog 239=some ⟨26,false,[.tmp 2,.tmp 3],BM⟩:=by kernel_rfl
def BL:LC:=.seq (.ops [o 4 (mc (.bool false))])<|.seq (.ops [o 5 (mv 0),o 6 (mv 1),o 7 (ca 266 [t 5,t 6]),o 8 (bk .geq 7 (0)),o 4 (mv 8)])<|.ret
theorem l240:Q8 Tryz.prog 240=some ⟨9,false,[.tmp 4],BL⟩:=by kernel_rfl
def BJ:LC:=.seq (.ops [o 1 (.box 42 (t 0)),o 2 (mc (.bool false))])<|.seq (.ops [o 3 (la 4 1),o 4 (ca 195 [t 3]),o 5 (.un .not (t 4)),o 2 (mv 5)])<|.ret
theorem l241:Q8 Tryz.prog 241=some ⟨6,false,[.tmp 2],BJ⟩:=by kernel_rfl
def Bv:LC:=.seq (.ops [o 4 (mc (.int .i64 0))])<|.seq (.seq (.ops [o 6 (mv 0),o 7 (le 6),o 8 (mc (.int .i64 0))])<|.block 0<|.loop<|.seq (.ops [o 9 (bn .lss 8 7)])<|.seq (.cond (t 9) (.skip)<|.exit 0)<|.seq (.block 1<|.seq (.ops [o 10 (mv 8),o 5 (mv 10)])<|.seq (.ops [o 11 (mv 1),o 12 (mv 0),o 13 (mv 5),o 14 (ix 4 12 13),o 15 (la 4 14),o 16 (.call (t 11) [t 15])])<|.cond (t 16) (.seq (.ops [o 17 (mv 5),o 4 (mv 17)])<|.ret)<|.skip)<|.ops [o 18 (bk .add 8 (1)),o 8 (mv 18)])<|.seq (.ops [o 4 (mc (.int .i64 (-1)))])<|.ret
theorem l266:Q8 Tryz.prog 266=some ⟨19,false,[.tmp 4],Bv⟩:=by kernel_rfl
end Go.Proofs.YtcbjbgaefighcaaGreatDoor
namespace Go.Proofs.YtcbjbgaefighcaaGreatDoor
open Go Go.Ax Go.Proofs
abbrev Bs:=List UInt8
inductive Exp where
 |mk (kind:Int) (name:Bs) (int:Int) (args:List Exp)
 deriving Inhabited
inductive Stmt where
 |mk (kind:Int) (name:Bs) (val:Exp) (body els:List Stmt)
 deriving Inhabited
structure Func where
 name:Bs
 params:List Bs
 body:List Stmt
 deriving Inhabited
structure Var where
 name:Bs
 low:Int
 high:Int
 init:Int
 deriving Inhabited
structure Chan where
 name:Bs
 broadcast:Bool
 urgent:Bool
 deriving Inhabited
structure Test where
 clock:Bs
 lower:Bool
 strict:Bool
 c:Int
 deriving Inhabited
structure Clear where
 clock:Bs
 tv:Int
 deriving Inhabited
structure Assign where
 name:Bs
 val:Exp
 deriving Inhabited
structure Loc where
 name:Bs
 kind:Int
 inv:List Test
 rate:Int
 deriving Inhabited
structure Edge where
 src:Bs
 dst:Bs
 tests:List Test
 cond:Exp
 chan:Bs
 send:Bool
 sets:List Assign
 clears:List Clear
 cost:Int
 kind:Int
 deriving Inhabited
structure Proc where
 name:Bs
 init:Bs
 locs:List Loc
 edges:List Edge
 deriving Inhabited
structure Model where
 name:Bs
 clocks:List Bs
 vars:List Var
 chans:List Chan
 funcs:List Func
 procs:List Proc
 deriving Inhabited
@[reducible] def Exp.kind:Exp→Int| .mk k _ _ _=>k
@[reducible] def Exp.name:Exp→Bs| .mk _ n _ _=>n
@[reducible] def Exp.int:Exp→Int| .mk _ _ i _=>i
@[reducible] def Exp.args:Exp→List Exp| .mk _ _ _ a=>a
@[reducible] def Stmt.kind:Stmt→Int| .mk k _ _ _ _=>k
@[reducible] def Stmt.name:Stmt→Bs| .mk _ n _ _ _=>n
@[reducible] def Stmt.val:Stmt→Exp| .mk _ _ v _ _=>v
@[reducible] def Stmt.body:Stmt→List Stmt| .mk _ _ _ b _=>b
@[reducible] def kP:Stmt→List Stmt| .mk _ _ _ _ e=>e
def Qy (sz:Nat){α:Type}(enc:α→List AV)(l:List α):AV:=.slice sz l.length (l.flatMap enc) none
mutual
def Exp.cells:Exp→List AV
 | .mk k n i xs=>[i64 k,.str n,i64 i,.slice 4 xs.length (Exp.cellsL xs) none]
def Exp.cellsL:List Exp→List AV
 |[]=>[]
 |x::xs=>x.cells++Exp.cellsL xs
end
mutual
def Stmt.cells:Stmt→List AV
 | .mk k n v b e=>[i64 k,.str n]++v.cells++[.slice 8 b.length (Stmt.cellsL b) none,.slice 8 e.length (Stmt.cellsL e) none]
def Stmt.cellsL:List Stmt→List AV
 |[]=>[]
 |x::xs=>x.cells++Stmt.cellsL xs
end
theorem Exp.cellsL_eq:∀l:List Exp,Exp.cellsL l=l.flatMap Exp.cells
 |[]=>rfl
 |x::xs=>by simp only[Exp.cellsL,dD,Exp.cellsL_eq xs]
theorem Stmt.cellsL_eq:∀l:List Stmt,Stmt.cellsL l=l.flatMap Stmt.cells
 |[]=>rfl
 |x::xs=>by simp only[Stmt.cellsL,dD,Stmt.cellsL_eq xs]
def Zl (s:Bs):List AV:=[.str s]
def Func.cells (f:Func):List AV:=[.str f.name,Qy 1 Zl f.params,Qy 8 Stmt.cells f.body]
def Var.cells (v:Var):List AV:=[.str v.name,i64 v.low,i64 v.high,i64 v.init]
def Chan.cells (c:Chan):List AV:=[.str c.name,bo c.broadcast,bo c.urgent]
def Test.cells (t:Test):List AV:=[.str t.clock,bo t.lower,bo t.strict,i64 t.c]
def Clear.cells (c:Clear):List AV:=[.str c.clock,i64 c.tv]
def Assign.cells (a:Assign):List AV:=.str a.name::a.val.cells
def Loc.cells (l:Loc):List AV:=[.str l.name,i64 l.kind,Qy 4 Test.cells l.inv,i64 l.rate]
def Edge.cells (x:Edge):List AV:=[.str x.src,.str x.dst,Qy 4 Test.cells x.tests]++x.cond.cells++[.str x.chan,bo x.send,Qy 5 Assign.cells x.sets,Qy 2 Clear.cells x.clears,i64 x.cost,i64 x.kind]
def Proc.cells (p:Proc):List AV:=[.str p.name,.str p.init,Qy 4 Loc.cells p.locs,Qy 13 Edge.cells p.edges]
def Model.cells (m:Model):List AV:=[.str m.name,Qy 1 Zl m.clocks,Qy 4 Var.cells m.vars,Qy 3 Chan.cells m.chans,Qy 3 Func.cells m.funcs,Qy 4 Proc.cells m.procs]
theorem Exp.cells_len:∀x:Exp,x.cells.length=4
 | .mk .. =>rfl
theorem Stmt.cells_len:∀x:Stmt,x.cells.length=8
 | .mk _ _ v _ _=>by simp [Stmt.cells,Exp.cells_len v]
def Y1 (c:UInt8):Bool:=decide (97≤c.toNat∧c.toNat≤122∨65≤c.toNat∧c.toNat≤90)
def ZX (c:UInt8):Bool:=decide (48≤c.toNat∧c.toNat≤57)
def S8 (n:Nat):Int:=IntKind.u8.wrap (BitVec.ofInt IntKind.u8.bits n|||BitVec.ofInt IntKind.u8.bits 32).toNat
theorem Dj:∀n,n<256→((97≤S8 n∧S8 n≤122)↔(97≤n∧n≤122∨65≤n∧n≤90)):=by decide+kernel
theorem TW (c:UInt8):(97≤S8 c.toNat∧S8 c.toNat≤122)↔(97≤c.toNat∧c.toNat≤122∨65≤c.toNat∧c.toNat≤90):=Dj _ c.toNat_lt
section
variable (G:Nat→Option (List AV))
theorem f77 (c:UInt8)(A:Q3):Qu Tryz.prog G 77 [u8 c] A (bo (Y1 c)) A:=by
 refine Q4 l77 (fE rfl) ?_
 simp only[C77,Ji,Jh,Jw,cR,cS,Qs,Zi,Ze,Qw,Qf,J1,Zb,ZY,Jn,J2,Js,cO,dA,cA,reduceIte,Nat.reduceEqDiff,Qr,Qm,dZ,lF,cM,cK,cP,cX,cB,Y4,Jq,cJ,dH,cI,cN,cF]
 have h0:=TW c
 unfold S8 at h0
 refine⟨fun h=>⟨fun h2=> ?_,fun h2=> ?_⟩,fun h=> ?_⟩ <;> refine Qx ?_ (U2.refl _) <;> simp only[Y1,AV.raw.injEq,Value.bool.injEq]
 ·exact(fA (h0.1 ⟨h,h2⟩)).symm
 ·exact(fB fun hh=>h2 (h0.2 hh).2).symm
 ·exact(fB fun hh=>h (h0.2 hh).1).symm
theorem P1 (c:UInt8)(A:Q3):Qu Tryz.prog G 189 [u8 c] A (bo (Y1 c)) A:=by
 refine Q4 l189 (fE rfl) ?_
 simp only[Ao,Ji,Jh,Jw,cR,cS,Qs,Zi,Ze,Qw,Qf,J1,Zb,ZY,Jn,J2,Js,cO,dA,cA,reduceIte,Nat.reduceEqDiff,Qr,Qm,dZ,lF,cM,cK,cP,cX,cB,Y4,Jq,cJ,dH,cI,cN,cF]
 have h0:=TW c
 unfold S8 at h0
 refine⟨fun h=>⟨fun h2=> ?_,fun h2=> ?_⟩,fun h=> ?_⟩ <;> refine Qx ?_ (U2.refl _) <;> simp only[Y1,AV.raw.injEq,Value.bool.injEq]
 ·exact(fA (h0.1 ⟨h,h2⟩)).symm
 ·exact(fB fun hh=>h2 (h0.2 hh).2).symm
 ·exact(fB fun hh=>h (h0.2 hh).1).symm
theorem Sa (c:UInt8)(A:Q3):Qu Tryz.prog G 78 [u8 c] A (bo (ZX c)) A:=by
 refine Q4 l78 (fE rfl) ?_
 simp only[C78,Ji,Jh,Jw,cR,cS,Qs,Zi,Ze,Qw,Qf,J1,Zb,ZY,Jn,J2,Js,cO,dA,cA,reduceIte,Nat.reduceEqDiff,Qr,Qm,dZ,lF,cM,cK,cP,cX,cB,Y4,Jq,cJ,dH,cI,cN,cF]
 refine⟨fun h=>⟨fun h2=> ?_,fun h2=> ?_⟩,fun h=> ?_⟩ <;> refine Qx ?_ (U2.refl _) <;> simp only[ZX,AV.raw.injEq,Value.bool.injEq]
 ·exact(fA (by omega)).symm
 ·exact(fB (by omega)).symm
 ·exact(fB (by omega)).symm
theorem P0 (c:UInt8)(A:Q3):Qu Tryz.prog G 191 [u8 c] A (bo (ZX c)) A:=by
 refine Q4 l191 (fE rfl) ?_
 simp only[Am,Ji,Jh,Jw,cR,cS,Qs,Zi,Ze,Qw,Qf,J1,Zb,ZY,Jn,J2,Js,cO,dA,cA,reduceIte,Nat.reduceEqDiff,Qr,Qm,dZ,lF,cM,cK,cP,cX,cB,Y4,Jq,cJ,dH,cI,cN,cF]
 refine⟨fun h=>⟨fun h2=> ?_,fun h2=> ?_⟩,fun h=> ?_⟩ <;> refine Qx ?_ (U2.refl _) <;> simp only[ZX,AV.raw.injEq,Value.bool.injEq]
 ·exact(fA (by omega)).symm
 ·exact(fB (by omega)).symm
 ·exact(fB (by omega)).symm
def L2 (l:List (List UInt8))(x:List UInt8):Int:=match l.findIdx? (· ==x)with
 |some i=>i
 |none=> -1
theorem f160 (l:List (List UInt8))(x:List UInt8)(A:Q3)(hl:l.length<2^62):Qu Tryz.prog G 160 [LD l,.str x] A (i64 (L2 l x)) A:=by
 refine Q4 l160 (fE rfl) ?_
 simp only[AI,Ji,Jh,Jw,cR,cS,Qs,Zi,Ze,Qw,Qf,J1,Zb,ZY,Jn,J2,Js,cO,dA,cA,reduceIte,Nat.reduceEqDiff,Qr,Qm,dZ,lF,cM,cK,cP,cX,cB,Y4,Jq,cJ,dH,cI,cN,cF]
 refine Qv (fun n env ds A'=>∃i:Nat,i≤l.length∧n=l.length - i∧env 0=LD l∧env 1=.str x∧env 7=i64 l.length∧env 8=i64 i∧ds=[]∧A'=A∧∀j<i,l[j]? ≠some x) l.length
  ⟨0,by simp [JH,Jw]⟩ ?_
 rintro n env ds A' ⟨i,hi,rfl,h0,h1,h7,h8,rfl,rfl,hno⟩
 simp only[h0,h1,h7,h8,Ji,Jh,Jw,cR,cS,Qs,Zi,Ze,Qw,Qf,J1,Zb,ZY,Jn,J2,Js,cO,dA,cA,reduceIte,Nat.reduceEqDiff,Qr,Qm,dZ,lF,cM,cK,cP,cX,cB,Y4,Jq,cJ,dH,cI,cN,cF]
 refine⟨fun h=> ?_,fun h=> ?_⟩
 ·have hlt:i<l.length:=by omega
  rw[fC ⟨by omega,h,trivial⟩]
  have e1:(List.drop ((i:Int).toNat*1) (List.map AV.str l))[0]? =some (.str l[i]):=by simp [hlt]
  simp only[e1,h0,h1,h7,h8,Ji,Jh,Jw,cR,cS,Qs,Zi,Ze,Qw,Qf,J1,Zb,ZY,Jn,J2,Js,cO,dA,cA,reduceIte,Nat.reduceEqDiff,Qr,Qm,dZ,lF,cM,cK,cP,cX,cB,Y4,Jq,cJ,dH,cI,cN,cF]
  refine⟨fun h2=> ?_,fun h2=> ?_⟩
  ·refine Qx ?_ (U2.refl _)
   have:l.findIdx? (· ==x)=some i:=by
    rw[List.findIdx?_eq_some_iff_getElem]
    refine⟨hlt,by simpa using(beq_iff_eq.1 h2).symm,fun j hj=> ?_⟩
    have:=hno j hj
    rw[dY (by omega)]at this
    simpa using this
   simp only[L2,this]
  ·refine⟨l.length - (i+1),by omega,i+1,by omega,rfl,?_⟩
   rw[Qg (by omega) (by omega)]
   simp only[Int.natCast_add,Int.cast_ofNat_Int,true_and]
   intro j hj
   rcases fH j i with hji|hji
   ·exact hno j hji
   ·have:j=i:=by omega
    subst this
    rw[dY hlt]
    intro e
    simp only[cA]at e
    rw[e]at h2
    simp at h2
 ·refine Qx ?_ (U2.refl _)
  have:l.findIdx? (· ==x)=none:=by
   rw[List.findIdx?_eq_none_iff]
   intro y hy
   obtain⟨j,hj,rfl⟩:=List.getElem_of_mem hy
   have:=hno j (by omega)
   rw[dY hj]at this
   simpa using this
  simp only[L2,this]
theorem Ru (l:List (List UInt8))(x:List UInt8):(0≤L2 l x)↔x∈l:=by
 unfold L2
 cases h:l.findIdx? (· ==x)with
 |some i=>
  simp only[Int.natCast_nonneg,true_iff]
  rw[List.findIdx?_eq_some_iff_getElem]at h
  obtain⟨hlt,h1,_⟩:=h
  rw[←beq_iff_eq.1 h1]
  exact cV hlt
 |none=>
  rw[List.findIdx?_eq_none_iff]at h
  constructor
  ·intro hh;simp only[h]at hh;omega
  ·intro hx
   have:=h x hx
   simp at this
theorem f79 (l:List (List UInt8))(x:List UInt8)(A:Q3)(hl:l.length<2^62):Qu Tryz.prog G 79 [LD l,.str x] A (bo (decide (x∈l))) A:=by
 refine Q4 l79 (fE rfl) ?_
 simp only[C79,Ji,Jh,Jw,cR,cS,Qs,Zi,Ze,Qw,Qf,J1,Zb,ZY,Jn,J2,Js,cO,dA,cA,reduceIte,Nat.reduceEqDiff,Qr,Qm,dZ,lF,cM,cK,cP,cX,cB,Y4,Jq,cJ,dH,cI,cN,cF]
 refine Q2 (f160 G l x A hl) ?_
 simp only[Ji,Jh,Jw,cR,cS,Qs,Zi,Ze,Qw,Qf,J1,Zb,ZY,Jn,J2,Js,cO,dA,cA,reduceIte,Nat.reduceEqDiff,Qr,Qm,dZ,lF,cM,cK,cP,cX,cB,Y4,Jq,cJ,dH,cI,cN,cF]
 have:=Ru l x
 refine⟨fun h=> ?_,fun h=> ?_⟩ <;> refine Qx ?_ (U2.refl _) <;> simp only[AV.raw.injEq,Value.bool.injEq]
 ·exact(fA (this.1 h)).symm
 ·exact(fB fun hh=>h (this.2 hh)).symm
end
def WG:List (List UInt8):=[[109,111,100,101,108],[99,108,111,99,107],[118,97,114],[105,110],[99,104,97,110],[98,114,111,97,100,99,97,115,116],[117,114,103,101,110,116],[99,111,109,109,105,116,116,101,100],[102,117,110,99],[112,114,111,99,101,115,115],[105,110,105,116],[108,111,99],[105,110,118],[114,97,116,101],[101,100,103,101],[119,104,101,110],[105,102],[101,108,115,101],[119,104,105,108,101],[114,101,116,117,114,110],[115,121,110,99],[100,111],[114,101,115,101,116],[99,111,115,116],[107,105,110,100]]
def JI (c:UInt8):Bool:=Y1 c||ZX c||c==95
def Qe (s:List UInt8):Bool:=match s with
 |[]=>false
 |c::_=>decide (s.length≤16)&&Y1 c&& !decide (s∈WG)&&s.all JI
section
variable (G:Nat→Option (List AV))
theorem f190 (A:Q3):Qu Tryz.prog G 190 [] A (LD WG) A:=by
 refine Q4 l190 (fE rfl) ?_
 simp only[An,Ji,Jh,Jw,cR,cS,Qs,Zi,Ze,Qw,Qf,J1,Zb,ZY,Jn,J2,Js,cO,dA,cA,reduceIte,Nat.reduceEqDiff,Qr,Qm,dZ,lF,cM,cK,cP,cX,cB,Y4,Jq,cJ,dH,cI,cN,cF]
 refine QY (cs:=WG.map .str) (by kernel_rfl) fun t ht=> ?_
 simp only[Ji,Jh,Jw,cR,cS,Qs,Zi,Ze,Qw,Qf,J1,Zb,ZY,Jn,J2,Js,cO,dA,cA,reduceIte,Nat.reduceEqDiff,Qr,Qm,dZ,lF,cM,cK,cP,cX,cB,Y4,Jq,cJ,dH,cI,cN,cF]
 exact J0 Ym (LI ht (by simp)) ⟨rfl,rfl⟩
theorem byte_ne {c:UInt8}{n:Nat}:((c.toNat:Int)=(n:Int))↔c.toNat=n:=by omega
theorem IA (s:List UInt8)(A:Q3)(hs:s.length<2^62):Qu Tryz.prog G 130 [.str s] A (bo (Qe s)) A:=by
 refine Q4 l130 (fE rfl) ?_
 rcases s with _|⟨c,r⟩
 ·simp only[GZ,Ji,Jh,Jw,cR,cS,Qs,Zi,Ze,Qw,Qf,J1,Zb,ZY,Jn,J2,Js,cO,dA,cA,reduceIte,Nat.reduceEqDiff,Qr,Qm,dZ,lF,cM,cK,cP,cX,cB,Y4,Jq,cJ,dH,cI,cN,cF]
  exact⟨fun _=>Qx rfl (U2.refl _),fun h=>by simp at h⟩
 simp only[GZ,Ji,Jh,Jw,cR,cS,Qs,Zi,Ze,Qw,Qf,J1,Zb,ZY,Jn,J2,Js,cO,dA,cA,reduceIte,Nat.reduceEqDiff,Qr,Qm,dZ,lF,cM,cK,cP,cX,cB,Y4,Jq,cJ,dH,cI,cN,cF]
 refine⟨fun h=>by simp at h,fun _=>⟨fun h=>Qx ?_ (U2.refl _),fun h16=> ?_⟩⟩
 ·have:¬(c::r).length≤16:=by omega
  simp only[Qe,this,decide_false,dE]
 refine JY (v:=u8 c) (by simp) ?_
 have h16':(c::r).length≤16:=by omega
 simp only[Ji,Jh,Jw,cR,cS,Qs,Zi,Ze,Qw,Qf,J1,Zb,ZY,Jn,J2,Js,cO,dA,cA,reduceIte,Nat.reduceEqDiff,Qr,Qm,dZ,lF,cM,cK,cP,cX,cB,Y4,Jq,cJ,dH,cI,cN,cF]
 refine Q2 (P1 G c A) ?_
 cases hL:Y1 c with
 |false=>
  simp only[Ji,Jh,Jw,cR,cS,Qs,Zi,Ze,Qw,Qf,J1,Zb,ZY,Jn,J2,Js,cO,dA,cA,reduceIte,Nat.reduceEqDiff,Qr,Qm,dZ,lF,cM,cK,cP,cX,cB,Y4,Jq,cJ,dH,cI,cN,cF]
  exact Qx (by simp only[Qe,hL,dF,dE]) (U2.refl _)
 |true=>
 simp only[Ji,Jh,Jw,cR,cS,Qs,Zi,Ze,Qw,Qf,J1,Zb,ZY,Jn,J2,Js,cO,dA,cA,reduceIte,Nat.reduceEqDiff,Qr,Qm,dZ,lF,cM,cK,cP,cX,cB,Y4,Jq,cJ,dH,cI,cN,cF]
 refine Q2 (f190 G A) ?_
 simp only[Ji,Jh,Jw,cR,cS,Qs,Zi,Ze,Qw,Qf,J1,Zb,ZY,Jn,J2,Js,cO,dA,cA,reduceIte,Nat.reduceEqDiff,Qr,Qm,dZ,lF,cM,cK,cP,cX,cB,Y4,Jq,cJ,dH,cI,cN,cF]
 refine Q2 (f79 G WG (c::r) A (by decide)) ?_
 by_cases hw:(c::r)∈WG
 ·simp only[fA hw]
  simp only[Ji,Jh,Jw,cR,cS,Qs,Zi,Ze,Qw,Qf,J1,Zb,ZY,Jn,J2,Js,cO,dA,cA,reduceIte,Nat.reduceEqDiff,Qr,Qm,dZ,lF,cM,cK,cP,cX,cB,Y4,Jq,cJ,dH,cI,cN,cF]
  exact Qx (by simp only[Qe,fA hw,cM,dF,dE]) (U2.refl _)
 simp only[fB hw]
 simp only[Ji,Jh,Jw,cR,cS,Qs,Zi,Ze,Qw,Qf,J1,Zb,ZY,Jn,J2,Js,cO,dA,cA,reduceIte,Nat.reduceEqDiff,Qr,Qm,dZ,lF,cM,cK,cP,cX,cB,Y4,Jq,cJ,dH,cI,cN,cF]
 generalize hS:c::r=S at*
 have hnm:Qe S=S.all JI:=by
  subst hS
  simp only[Qe,fA h16',hL,fB hw,cK,dB,dC]
 refine Qv (fun n env ds A'=>∃i:Nat,i≤S.length∧n=S.length - i∧env 24=.slice 1 S.length (S.map fun x=>.raw (Yz x)) none∧env 25=i64 S.length∧env 26=i64 i∧ds=[]∧A'=A∧(S.take i).all JI=true) S.length
  ⟨0,by subst hS;simp [JH,Jw]⟩ ?_
 rintro n env ds A' ⟨i,hi,rfl,h24,h25,h26,rfl,rfl,hall⟩
 simp only[h24,h25,h26,Ji,Jh,Jw,cR,cS,Qs,Zi,Ze,Qw,Qf,J1,Zb,ZY,Jn,J2,Js,cO,dA,cA,reduceIte,Nat.reduceEqDiff,Qr,Qm,dZ,lF,cM,cK,cP,cX,cB,Y4,Jq,cJ,dH,cI,cN,cF]
 refine⟨fun h=> ?_,fun h=> ?_⟩
 ·have hlt:i<S.length:=by omega
  have htake:S.take (i+1)=S.take i++[S[i]]:=by rw[List.take_append_getElem hlt]
  refine JY (fC ⟨by omega,h,trivial⟩) ?_
  have e1:(List.drop ((i:Int).toNat*1) (S.map fun x=>AV.raw (Yz x)))[0]? =some (u8 S[i]):=by simp [hlt,Yz]
  simp only[e1,h24,h25,h26,Ji,Jh,Jw,cR,cS,Qs,Zi,Ze,Qw,Qf,J1,Zb,ZY,Jn,J2,Js,cO,dA,cA,reduceIte,Nat.reduceEqDiff,Qr,Qm,dZ,lF,cM,cK,cP,cX,cB,Y4,Jq,cJ,dH,cI,cN,cF]
  refine Q2 (P1 G S[i] A') ?_
  have hbad:JI S[i]=false→Qe S=false:=fun hb=>by
   rw[hnm]
   rw[List.all_eq_false]
   exact⟨S[i],cV hlt,by simp [hb]⟩
  have hgood:JI S[i]=true→(S.take (i+1)).all JI=true:=fun hg=>by
   rw[htake,fK,hall]
   simp [hg]
  cases hl:Y1 S[i]with
  |true=>
   simp only[e1,h24,h25,h26,Ji,Jh,Jw,cR,cS,Qs,Zi,Ze,Qw,Qf,J1,Zb,ZY,Jn,J2,Js,cO,dA,cA,reduceIte,Nat.reduceEqDiff,Qr,Qm,dZ,lF,cM,cK,cP,cX,cB,Y4,Jq,cJ,dH,cI,cN,cF]
   refine⟨S.length - (i+1),by omega,i+1,by omega,rfl,?_⟩
   rw[Qg (by omega) (by omega)]
   simp only[Int.natCast_add,Int.cast_ofNat_Int,true_and]
   exact hgood (by simp [JI,hl])
  |false=>
   simp only[e1,h24,h25,h26,Ji,Jh,Jw,cR,cS,Qs,Zi,Ze,Qw,Qf,J1,Zb,ZY,Jn,J2,Js,cO,dA,cA,reduceIte,Nat.reduceEqDiff,Qr,Qm,dZ,lF,cM,cK,cP,cX,cB,Y4,Jq,cJ,dH,cI,cN,cF]
   refine Q2 (P0 G S[i] A') ?_
   cases hd:ZX S[i]with
   |true=>
    simp only[e1,h24,h25,h26,Ji,Jh,Jw,cR,cS,Qs,Zi,Ze,Qw,Qf,J1,Zb,ZY,Jn,J2,Js,cO,dA,cA,reduceIte,Nat.reduceEqDiff,Qr,Qm,dZ,lF,cM,cK,cP,cX,cB,Y4,Jq,cJ,dH,cI,cN,cF]
    refine⟨S.length - (i+1),by omega,i+1,by omega,rfl,?_⟩
    rw[Qg (by omega) (by omega)]
    simp only[Int.natCast_add,Int.cast_ofNat_Int,true_and]
    exact hgood (by simp [JI,hd])
   |false=>
    simp only[e1,h24,h25,h26,Ji,Jh,Jw,cR,cS,Qs,Zi,Ze,Qw,Qf,J1,Zb,ZY,Jn,J2,Js,cO,dA,cA,reduceIte,Nat.reduceEqDiff,Qr,Qm,dZ,lF,cM,cK,cP,cX,cB,Y4,Jq,cJ,dH,cI,cN,cF]
    have h95:((S[i].toNat:Int) !=95)= !(S[i]==95):=by
     cases h9:(S[i]==95)with
     |true=>rw[beq_iff_eq.1 h9];rfl
     |false=>
      have hne:S[i]≠95:=by simpa using h9
      have:S[i].toNat≠95:=fun e=>hne (UInt8.toNat_inj.1 (by simpa using e))
      simp only[bne_iff_ne,ne_eq,cK]
      omega
    rw[h95]
    refine⟨fun h9=>Qx ?_ (U2.refl _),fun h9=> ?_⟩
    ·rw[hbad (by simpa[JI,hl,hd]using h9)]
    ·refine⟨S.length - (i+1),by omega,i+1,by omega,rfl,?_⟩
     rw[Qg (by omega) (by omega)]
     simp only[Int.natCast_add,Int.cast_ofNat_Int,true_and]
     exact hgood (by simpa[JI,hl,hd]using h9)
 ·refine Qx ?_ (U2.refl _)
  have:i=S.length:=by omega
  subst this
  rw[hnm]
  simpa using hall
end
open Go.RowKit
section
variable (G:Nat→Option (List AV))
theorem Sb (s:List UInt8)(c:UInt8)(A:Q3):Qu Tryz.prog G 76 [.str s,u8 c] A (i64 (Lib.indexByte s c)) A:=
 Xk (by kernel_rfl) fun κ w hr vs hvs=>by
  obtain⟨x,y,rfl,hx,hy⟩:=Xi hvs
  rw[UF hx,Y0 hy]
  refine(Tryz.strings_IndexByte ⟨s.toArray⟩ c.toNat w).mono ?_
  rintro e w' ⟨rfl,rfl⟩
  refine⟨Below.refl _ _,_,rfl,?_⟩
  simp [Qc]
theorem f75 (s t:List UInt8)(A:Q3):Qu Tryz.prog G 75 [.str s,.str t] A (bo (t.isPrefixOf s)) A:=
 Xk (by kernel_rfl) fun κ w hr vs hvs=>by
  obtain⟨x,y,rfl,hx,hy⟩:=Xi hvs
  rw[UF hx,UF hy]
  refine(Tryz.strings_HasPrefix ⟨s.toArray⟩ ⟨t.toArray⟩ w).mono ?_
  rintro e w' ⟨rfl,rfl⟩
  refine⟨Below.refl _ _,_,rfl,?_⟩
  simp [Qc,Lib.hasPrefix]
end
end Go.Proofs.YtcbjbgaefighcaaGreatDoor
