/- Part 32 of the proof. -/
import Derived.Test.YtcbjbgaefighcaaGreatDoorT0
import Derived.Test.YtcbjbgaefighcaaGreatDoorT7
import Derived.Test.YtcbjbgaefighcaaGreatDoorT27
import Derived.Test.YtcbjbgaefighcaaGreatDoorT28
import Derived.KernelRfl
import Derived.Test.YtcbjbgaefighcaaGreatDoorProg
set_option linter.all false
namespace Go.Proofs.YtcbjbgaefighcaaGreatDoor
open Go Go.Ax Go.Ax.K Go.Proofs
def C11:LC:=.seq (.ops [o 2 (.box 29 (t 0)),o 3 (.box 29 (t 1)),o 4 (mc (.bool false))])<|.seq (.seq (.ops [o 8 (fl 0 2),o 9 (ld 8),o 10 (fl 0 3),o 11 (ld 10),o 12 (bn .neq 9 11),o 13 (mv 12),gf 13 14 (fl 1 2),gf 13 15 (ld 14),gf 13 16 (fl 1 3),gf 13 17 (ld 16),gf 13 18 (ca 33 [t 15,t 17]),gf 13 19 (.un .not (t 18)),o 20 (po 13 19),o 21 (mv 20),gf 21 22 (fl 2 2),gf 21 23 (ld 22),gf 21 24 (le 23),gf 21 25 (fl 2 3),gf 21 26 (ld 25),gf 21 27 (le 26),gf 21 28 (bn .neq 24 27),o 29 (po 21 28),o 30 (mv 29),gf 30 31 (fl 3 2),gf 30 32 (ld 31),gf 30 33 (le 32),gf 30 34 (fl 3 3),gf 30 35 (ld 34),gf 30 36 (le 35),gf 30 37 (bn .neq 33 36),o 38 (po 30 37),o 39 (mv 38),gf 39 40 (fl 4 2),gf 39 41 (ld 40),gf 39 42 (fl 4 3),gf 39 43 (ld 42),gf 39 44 (ca 34 [t 41,t 43]),gf 39 45 (.un .not (t 44)),o 46 (po 39 45),o 47 (mv 46),gf 47 48 (fl 5 2),gf 47 49 (ld 48),gf 47 50 (le 49),gf 47 51 (fl 5 3),gf 47 52 (ld 51),gf 47 53 (le 52),gf 47 54 (bn .neq 50 53),o 55 (po 47 54)])<|.cond (t 55) (.seq (.ops [o 4 (mc (.bool false))])<|.ret)<|.skip)<|.seq (.seq (.ops [o 5 (mc (.int .i64 0))])<|.block 0<|.loop<|.seq (.seq (.ops [o 56 (mv 5),o 57 (fl 2 2),o 58 (ld 57),o 59 (le 58),o 60 (bn .lss 56 59)])<|.cond (t 60) (.skip)<|.exit 0)<|.seq (.block 1<|.seq (.draw (
v 0 (o 63<|fl 2 2)<|w 1 (o 64<|ld 63)<|v 2 (o 65<|mv 5)<|v 3 (o 66<|ix 4 64 65)<|w 4 (o 67<|la 4 66)<|v 5 (o 68<|fl 2 3)<|w 6 (o 69<|ld 68)<|v 7 (o 70<|mv 5)<|v 8 (o 71<|ix 4 69 70)<|w 9 (o 72<|la 4 71)<|v 10 (o 73 (.bin .neq (.struct [.s,.i,.i,.i]) (t 67) (t 72)))<|.done))<|.cond (t 73) (.seq (.ops [o 4 (mc (.bool false))])<|.ret)<|.skip)<|.ops [o 61 (mv 5),o 62 (bk .add 61 (1)),o 5 (mv 62)])<|.seq (.seq (.ops [o 6 (mc (.int .i64 0))])<|.block 2<|.loop<|.seq (.seq (.ops [o 74 (mv 6),o 75 (fl 3 2),o 76 (ld 75),o 77 (le 76),o 78 (bn .lss 74 77)])<|.cond (t 78) (.skip)<|.exit 2)<|.seq (.block 3<|.seq (.draw (
v 0 (o 81<|fl 3 2)<|w 1 (o 82<|ld 81)<|v 2 (o 83<|mv 6)<|v 3 (o 84<|ix 3 82 83)<|w 4 (o 85<|la 3 84)<|v 5 (o 86<|fl 3 3)<|w 6 (o 87<|ld 86)<|v 7 (o 88<|mv 6)<|v 8 (o 89<|ix 3 87 88)<|w 9 (o 90<|la 3 89)<|v 10 (o 91 (.bin .neq (.struct [.s,.b,.b]) (t 85) (t 90)))<|.done))<|.cond (t 91) (.seq (.ops [o 4 (mc (.bool false))])<|.ret)<|.skip)<|.ops [o 79 (mv 6),o 80 (bk .add 79 (1)),o 6 (mv 80)])<|.seq (.seq (.ops [o 7 (mc (.int .i64 0))])<|.block 4<|.loop<|.seq (.seq (.ops [o 92 (mv 7),o 93 (fl 5 2),o 94 (ld 93),o 95 (le 94),o 96 (bn .lss 92 95)])<|.cond (t 96) (.skip)<|.exit 4)<|.seq (.block 5<|.seq (.draw (
v 0 (o 99<|fl 5 2)<|w 1 (o 100<|ld 99)<|v 2 (o 101<|mv 7)<|v 3 (o 102<|ix 4 100 101)<|w 4 (o 103<|la 4 102)<|v 5 (o 104<|fl 5 3)<|w 6 (o 105<|ld 104)<|v 7 (o 106<|mv 7)<|v 8 (o 107<|ix 4 105 106)<|w 9 (o 108<|la 4 107)<|.eff (o 109<|ca 35 [t 103,t 108]) [] (
v 11 (o 110 (.un .not (t 109)))<|.done) (
.nil)))<|.cond (t 110) (.seq (.ops [o 4 (mc (.bool false))])<|.ret)<|.skip)<|.ops [o 97 (mv 7),o 98 (bk .add 97 (1)),o 7 (mv 98)])<|.seq (.ops [o 4 (mc (.bool true))])<|.ret
theorem l11:Q8 Tryz.prog 11=some ⟨111,false,[.tmp 4],C11⟩:=by kernel_rfl
def C21:LC:=.seq (.ops [o 2 (.box 42 (t 0)),o 3 (.box 42 (t 1)),o 4 (mc (.bool false))])<|.seq (.seq (.ops [o 6 (fl 0 2),o 7 (ld 6),o 8 (fl 0 3),o 9 (ld 8),o 10 (bn .neq 7 9),o 11 (mv 10),gf 11 12 (fl 1 2),gf 11 13 (ld 12),gf 11 14 (fl 1 3),gf 11 15 (ld 14),gf 11 16 (bn .neq 13 15),o 17 (po 11 16),o 18 (mv 17),gf 18 19 (fl 2 2),gf 18 20 (ld 19),gf 18 21 (fl 2 3),gf 18 22 (ld 21),gf 18 23 (bn .neq 20 22),o 24 (po 18 23),o 25 (mv 24),gf 25 26 (fl 3 2),gf 25 27 (ld 26),gf 25 28 (le 27),gf 25 29 (fl 3 3),gf 25 30 (ld 29),gf 25 31 (le 30),gf 25 32 (bn .neq 28 31),o 33 (po 25 32)])<|.cond (t 33) (.seq (.ops [o 4 (mc (.bool false))])<|.ret)<|.skip)<|.seq (.seq (.ops [o 5 (mc (.int .i64 0))])<|.block 0<|.loop<|.seq (.seq (.ops [o 34 (mv 5),o 35 (fl 3 2),o 36 (ld 35),o 37 (le 36),o 38 (bn .lss 34 37)])<|.cond (t 38) (.skip)<|.exit 0)<|.seq (.block 1<|.seq (.draw (
v 0 (o 41<|fl 3 2)<|w 1 (o 42<|ld 41)<|v 2 (o 43<|mv 5)<|v 3 (o 44<|ix 4 42 43)<|w 4 (o 45<|la 4 44)<|v 5 (o 46<|fl 3 3)<|w 6 (o 47<|ld 46)<|v 7 (o 48<|mv 5)<|v 8 (o 49<|ix 4 47 48)<|w 9 (o 50<|la 4 49)<|.eff (o 51<|ca 21 [t 45,t 50]) [] (
v 11 (o 52 (.un .not (t 51)))<|.done) (
.nil)))<|.cond (t 52) (.seq (.ops [o 4 (mc (.bool false))])<|.ret)<|.skip)<|.ops [o 39 (mv 5),o 40 (bk .add 39 (1)),o 5 (mv 40)])<|.seq (.ops [o 4 (mc (.bool true))])<|.ret
theorem l21:Q8 Tryz.prog 21=some ⟨53,false,[.tmp 4],C21⟩:=by kernel_rfl
def C33:LC:=.seq (.ops [o 4 (mc (.bool false))])<|.seq (.seq (.ops [o 5 (mc (.int .i64 0))])<|.block 0<|.loop<|.seq (.seq (.ops [o 6 (mv 5),o 7 (mv 0),o 8 (le 7),o 9 (bn .lss 6 8),o 10 (mv 9),gt 10 11 (mv 5),gt 10 12 (mv 1),gt 10 13 (le 12),gt 10 14 (bn .lss 11 13),o 15 (pa 10 14)])<|.cond (t 15) (.skip)<|.exit 0)<|.seq (.block 1<|.seq (.draw (
v 0 (o 18<|mv 0)<|v 1 (o 19<|mv 5)<|v 2 (o 20<|ix 1 18 19)<|w 3 (o 21<|ld 20)<|v 4 (o 22<|mv 1)<|v 5 (o 23<|mv 5)<|v 6 (o 24<|ix 1 22 23)<|w 7 (o 25<|ld 24)<|v 8 (o 26<|bn .neq 21 25)<|.done))<|.cond (t 26) (.seq (.ops [o 4 (mc (.bool false))])<|.ret)<|.skip)<|.ops [o 16 (mv 5),o 17 (bk .add 16 (1)),o 5 (mv 17)])<|.seq (.ops [o 27 (mv 0),o 28 (le 27),o 29 (mv 1),o 30 (le 29),o 31 (bn .eql 28 30),o 4 (mv 31)])<|.ret
theorem l33:Q8 Tryz.prog 33=some ⟨32,false,[.tmp 4],C33⟩:=by kernel_rfl
def C34:LC:=.seq (.ops [o 4 (mc (.bool false))])<|.seq (.seq (.ops [o 5 (mc (.int .i64 0))])<|.block 0<|.loop<|.seq (.seq (.ops [o 6 (mv 5),o 7 (mv 0),o 8 (le 7),o 9 (bn .lss 6 8),o 10 (mv 9),gt 10 11 (mv 5),gt 10 12 (mv 1),gt 10 13 (le 12),gt 10 14 (bn .lss 11 13),o 15 (pa 10 14)])<|.cond (t 15) (.skip)<|.exit 0)<|.seq (.block 1<|.seq (.draw (
v 0 (o 18<|mv 0)<|v 1 (o 19<|mv 5)<|v 2 (o 20<|ix 3 18 19)<|v 3 (o 21<|fl 0 20)<|w 4 (o 22<|ld 21)<|v 5 (o 23<|mv 1)<|v 6 (o 24<|mv 5)<|v 7 (o 25<|ix 3 23 24)<|v 8 (o 26<|fl 0 25)<|w 9 (o 27<|ld 26)<|v 10 (o 28<|bn .neq 22 27)<|v 11 (o 29<|mv 28)<|v 12 (gf 29 30 (mv 0))<|v 13 (gf 29 31 (mv 5))<|v 14 (gf 29 32 (ix 3 30 31))<|v 15 (gf 29 33 (fl 1 32))<|w 16 (gf 29 34 (ld 33))<|v 17 (gf 29 35 (mv 1))<|v 18 (gf 29 36 (mv 5))<|v 19 (gf 29 37 (ix 3 35 36))<|v 20 (gf 29 38 (fl 1 37))<|w 21 (gf 29 39 (ld 38))<|.eff (gf 29 40 (ca 33 [t 34,t 39])) [] (
v 23 (gf 29 41 (.un .not (t 40)))<|v 24 (o 42<|po 29 41)<|v 25 (o 43<|mv 42)<|v 26 (gf 43 44 (mv 0))<|v 27 (gf 43 45 (mv 5))<|v 28 (gf 43 46 (ix 3 44 45))<|v 29 (gf 43 47 (fl 2 46))<|w 30 (gf 43 48 (ld 47))<|v 31 (gf 43 49 (mv 1))<|v 32 (gf 43 50 (mv 5))<|v 33 (gf 43 51 (ix 3 49 50))<|v 34 (gf 43 52 (fl 2 51))<|w 35 (gf 43 53 (ld 52))<|.eff (gf 43 54 (ca 99 [t 48,t 53])) [] (
v 37 (gf 43 55 (.un .not (t 54)))<|v 38 (o 56<|po 43 55)<|.done) (
.nil)) (
.nil)))<|.cond (t 56) (.seq (.ops [o 4 (mc (.bool false))])<|.ret)<|.skip)<|.ops [o 16 (mv 5),o 17 (bk .add 16 (1)),o 5 (mv 17)])<|.seq (.ops [o 57 (mv 0),o 58 (le 57),o 59 (mv 1),o 60 (le 59),o 61 (bn .eql 58 60),o 4 (mv 61)])<|.ret
theorem l34:Q8 Tryz.prog 34=some ⟨62,false,[.tmp 4],C34⟩:=by kernel_rfl
def C35:LC:=.seq (.ops [o 2 (.box 48 (t 0)),o 3 (.box 48 (t 1)),o 4 (mc (.bool false))])<|.seq (.seq (.ops [o 9 (fl 0 2),o 10 (ld 9),o 11 (fl 0 3),o 12 (ld 11),o 13 (bn .neq 10 12),o 14 (mv 13),gf 14 15 (fl 1 2),gf 14 16 (ld 15),gf 14 17 (fl 1 3),gf 14 18 (ld 17),gf 14 19 (bn .neq 16 18),o 20 (po 14 19),o 21 (mv 20),gf 21 22 (fl 2 2),gf 21 23 (ld 22),gf 21 24 (le 23),gf 21 25 (fl 2 3),gf 21 26 (ld 25),gf 21 27 (le 26),gf 21 28 (bn .neq 24 27),o 29 (po 21 28),o 30 (mv 29),gf 30 31 (fl 3 2),gf 30 32 (ld 31),gf 30 33 (le 32),gf 30 34 (fl 3 3),gf 30 35 (ld 34),gf 30 36 (le 35),gf 30 37 (bn .neq 33 36),o 38 (po 30 37)])<|.cond (t 38) (.seq (.ops [o 4 (mc (.bool false))])<|.ret)<|.skip)<|.seq (.seq (.ops [o 5 (mc (.int .i64 0))])<|.block 0<|.loop<|.seq (.seq (.ops [o 39 (mv 5),o 40 (fl 2 2),o 41 (ld 40),o 42 (le 41),o 43 (bn .lss 39 42)])<|.cond (t 43) (.skip)<|.exit 0)<|.seq (.block 1<|.seq (.draw (
v 0 (o 46<|fl 2 2)<|w 1 (o 47<|ld 46)<|v 2 (o 48<|mv 5)<|v 3 (o 49<|ix 4 47 48)<|w 4 (o 50<|la 4 49)<|v 5 (o 51<|fl 2 3)<|w 6 (o 52<|ld 51)<|v 7 (o 53<|mv 5)<|v 8 (o 54<|ix 4 52 53)<|w 9 (o 55<|la 4 54)<|.eff ⟨some 6,.alloc 97 [.string ⟨#[]⟩,.int .i64 0,.slice none 0 0,.int .i64 0],none⟩ [9,6,4,1] (
.eff ⟨some 7,.alloc 97 [.string ⟨#[]⟩,.int .i64 0,.slice none 0 0,.int .i64 0],none⟩ [9,6,4,1] (
.eff (e (.store 4 (t 6) (t 50))) [9,6] (
.eff (e (.store 4 (t 7) (t 55))) [] (
.done) (
.nil)) (
.nil)) (
.nil)) (
.eff ⟨some 7,.alloc 97 [.string ⟨#[]⟩,.int .i64 0,.slice none 0 0,.int .i64 0],none⟩ [9,6,4,1] (
.eff ⟨some 6,.alloc 97 [.string ⟨#[]⟩,.int .i64 0,.slice none 0 0,.int .i64 0],none⟩ [9,6,4,1] (
.eff (e (.store 4 (t 6) (t 50))) [9,6] (
.eff (e (.store 4 (t 7) (t 55))) [] (
.done) (
.nil)) (
.nil)) (
.nil)) (
.nil))))<|.seq (.ops [o 56 (fl 0 6),o 57 (ld 56),o 58 (fl 0 7),o 59 (ld 58),o 60 (bn .neq 57 59),o 61 (mv 60),gf 61 62 (fl 1 6),gf 61 63 (ld 62),gf 61 64 (fl 1 7),gf 61 65 (ld 64),gf 61 66 (bn .neq 63 65),o 67 (po 61 66),o 68 (mv 67),gf 68 69 (fl 3 6),gf 68 70 (ld 69),gf 68 71 (fl 3 7),gf 68 72 (ld 71),gf 68 73 (bn .neq 70 72),o 74 (po 68 73),o 75 (mv 74),gf 75 76 (fl 2 6),gf 75 77 (ld 76),gf 75 78 (fl 2 7),gf 75 79 (ld 78),gf 75 80 (ca 100 [t 77,t 79]),gf 75 81 (.un .not (t 80)),o 82 (po 75 81)])<|.cond (t 82) (.seq (.ops [o 4 (mc (.bool false))])<|.ret)<|.skip)<|.ops [o 44 (mv 5),o 45 (bk .add 44 (1)),o 5 (mv 45)])<|.seq (.seq (.ops [o 8 (mc (.int .i64 0))])<|.block 2<|.loop<|.seq (.seq (.ops [o 83 (mv 8),o 84 (fl 3 2),o 85 (ld 84),o 86 (le 85),o 87 (bn .lss 83 86)])<|.cond (t 87) (.skip)<|.exit 2)<|.seq (.block 3<|.seq (.draw (
v 0 (o 90<|fl 3 2)<|w 1 (o 91<|ld 90)<|v 2 (o 92<|mv 8)<|v 3 (o 93<|ix 13 91 92)<|w 4 (o 94<|la 13 93)<|v 5 (o 95<|fl 3 3)<|w 6 (o 96<|ld 95)<|v 7 (o 97<|mv 8)<|v 8 (o 98<|ix 13 96 97)<|w 9 (o 99<|la 13 98)<|.eff (o 100<|ca 101 [t 94,t 99]) [] (
v 11 (o 101 (.un .not (t 100)))<|.done) (
.nil)))<|.cond (t 101) (.seq (.ops [o 4 (mc (.bool false))])<|.ret)<|.skip)<|.ops [o 88 (mv 8),o 89 (bk .add 88 (1)),o 8 (mv 89)])<|.seq (.ops [o 4 (mc (.bool true))])<|.ret
theorem l35:Q8 Tryz.prog 35=some ⟨102,false,[.tmp 4],C35⟩:=by kernel_rfl
def C99:LC:=.seq (.ops [o 4 (mc (.bool false))])<|.seq (.seq (.ops [o 5 (mc (.int .i64 0))])<|.block 0<|.loop<|.seq (.seq (.ops [o 6 (mv 5),o 7 (mv 0),o 8 (le 7),o 9 (bn .lss 6 8),o 10 (mv 9),gt 10 11 (mv 5),gt 10 12 (mv 1),gt 10 13 (le 12),gt 10 14 (bn .lss 11 13),o 15 (pa 10 14)])<|.cond (t 15) (.skip)<|.exit 0)<|.seq (.block 1<|.seq (.draw (
v 0 (o 18<|mv 0)<|v 1 (o 19<|mv 5)<|v 2 (o 20<|ix 8 18 19)<|v 3 (o 21<|fl 0 20)<|w 4 (o 22<|ld 21)<|v 5 (o 23<|mv 1)<|v 6 (o 24<|mv 5)<|v 7 (o 25<|ix 8 23 24)<|v 8 (o 26<|fl 0 25)<|w 9 (o 27<|ld 26)<|v 10 (o 28<|bn .neq 22 27)<|v 11 (o 29<|mv 28)<|v 12 (gf 29 30 (mv 0))<|v 13 (gf 29 31 (mv 5))<|v 14 (gf 29 32 (ix 8 30 31))<|v 15 (gf 29 33 (fl 1 32))<|w 16 (gf 29 34 (ld 33))<|v 17 (gf 29 35 (mv 1))<|v 18 (gf 29 36 (mv 5))<|v 19 (gf 29 37 (ix 8 35 36))<|v 20 (gf 29 38 (fl 1 37))<|w 21 (gf 29 39 (ld 38))<|v 22 (gf 29 40 (bn .neq 34 39))<|v 23 (o 41<|po 29 40)<|v 24 (o 42<|mv 41)<|v 25 (gf 42 43 (mv 0))<|v 26 (gf 42 44 (mv 5))<|v 27 (gf 42 45 (ix 8 43 44))<|v 28 (gf 42 46 (fl 2 45))<|w 29 (gf 42 47 (la 4 46))<|v 30 (gf 42 48 (mv 1))<|v 31 (gf 42 49 (mv 5))<|v 32 (gf 42 50 (ix 8 48 49))<|v 33 (gf 42 51 (fl 2 50))<|w 34 (gf 42 52 (la 4 51))<|.eff (gf 42 53 (ca 21 [t 47,t 52])) [] (
v 36 (gf 42 54 (.un .not (t 53)))<|v 37 (o 55<|po 42 54)<|v 38 (o 56<|mv 55)<|v 39 (gf 56 57 (mv 0))<|v 40 (gf 56 58 (mv 5))<|v 41 (gf 56 59 (ix 8 57 58))<|v 42 (gf 56 60 (fl 6 59))<|w 43 (gf 56 61 (ld 60))<|v 44 (gf 56 62 (mv 1))<|v 45 (gf 56 63 (mv 5))<|v 46 (gf 56 64 (ix 8 62 63))<|v 47 (gf 56 65 (fl 6 64))<|w 48 (gf 56 66 (ld 65))<|.eff (gf 56 67 (ca 99 [t 61,t 66])) [] (
v 50 (gf 56 68 (.un .not (t 67)))<|v 51 (o 69<|po 56 68)<|v 52 (o 70<|mv 69)<|v 53 (gf 70 71 (mv 0))<|v 54 (gf 70 72 (mv 5))<|v 55 (gf 70 73 (ix 8 71 72))<|v 56 (gf 70 74 (fl 7 73))<|w 57 (gf 70 75 (ld 74))<|v 58 (gf 70 76 (mv 1))<|v 59 (gf 70 77 (mv 5))<|v 60 (gf 70 78 (ix 8 76 77))<|v 61 (gf 70 79 (fl 7 78))<|w 62 (gf 70 80 (ld 79))<|.eff (gf 70 81 (ca 99 [t 75,t 80])) [] (
v 64 (gf 70 82 (.un .not (t 81)))<|v 65 (o 83<|po 70 82)<|.done) (
.nil)) (
.nil)) (
.nil)))<|.cond (t 83) (.seq (.ops [o 4 (mc (.bool false))])<|.ret)<|.skip)<|.ops [o 16 (mv 5),o 17 (bk .add 16 (1)),o 5 (mv 17)])<|.seq (.ops [o 84 (mv 0),o 85 (le 84),o 86 (mv 1),o 87 (le 86),o 88 (bn .eql 85 87),o 4 (mv 88)])<|.ret
theorem l99:Q8 Tryz.prog 99=some ⟨89,false,[.tmp 4],C99⟩:=by kernel_rfl
def C100:LC:=.seq (.ops [o 4 (mc (.bool false))])<|.seq (.seq (.ops [o 5 (mc (.int .i64 0))])<|.block 0<|.loop<|.seq (.seq (.ops [o 6 (mv 5),o 7 (mv 0),o 8 (le 7),o 9 (bn .lss 6 8),o 10 (mv 9),gt 10 11 (mv 5),gt 10 12 (mv 1),gt 10 13 (le 12),gt 10 14 (bn .lss 11 13),o 15 (pa 10 14)])<|.cond (t 15) (.skip)<|.exit 0)<|.seq (.block 1<|.seq (.draw (
v 0 (o 18<|mv 0)<|v 1 (o 19<|mv 5)<|v 2 (o 20<|ix 4 18 19)<|w 3 (o 21<|la 4 20)<|v 4 (o 22<|mv 1)<|v 5 (o 23<|mv 5)<|v 6 (o 24<|ix 4 22 23)<|w 7 (o 25<|la 4 24)<|v 8 (o 26 (.bin .neq (.struct [.s,.b,.b,.i]) (t 21) (t 25)))<|.done))<|.cond (t 26) (.seq (.ops [o 4 (mc (.bool false))])<|.ret)<|.skip)<|.ops [o 16 (mv 5),o 17 (bk .add 16 (1)),o 5 (mv 17)])<|.seq (.ops [o 27 (mv 0),o 28 (le 27),o 29 (mv 1),o 30 (le 29),o 31 (bn .eql 28 30),o 4 (mv 31)])<|.ret
theorem l100:Q8 Tryz.prog 100=some ⟨32,false,[.tmp 4],C100⟩:=by kernel_rfl
def qR:LC:=.seq (.ops [o 2 (.box 53 (t 0)),o 3 (.box 53 (t 1)),o 4 (mc (.bool false))])<|.seq (.seq (.ops [o 7 (fl 0 2),o 8 (ld 7),o 9 (fl 0 3),o 10 (ld 9),o 11 (bn .neq 8 10),o 12 (mv 11),gf 12 13 (fl 1 2),gf 12 14 (ld 13),gf 12 15 (fl 1 3),gf 12 16 (ld 15),gf 12 17 (bn .neq 14 16),o 18 (po 12 17),o 19 (mv 18),gf 19 20 (fl 2 2),gf 19 21 (ld 20),gf 19 22 (fl 2 3),gf 19 23 (ld 22),gf 19 24 (ca 100 [t 21,t 23]),gf 19 25 (.un .not (t 24)),o 26 (po 19 25),o 27 (mv 26),gf 27 28 (fl 3 2),gf 27 29 (la 4 28),gf 27 30 (fl 3 3),gf 27 31 (la 4 30),gf 27 32 (ca 21 [t 29,t 31]),gf 27 33 (.un .not (t 32)),o 34 (po 27 33),o 35 (mv 34),gf 35 36 (fl 7 2),gf 35 37 (ld 36),gf 35 38 (fl 7 3),gf 35 39 (ld 38),gf 35 40 (bn .neq 37 39),o 41 (po 35 40),o 42 (mv 41),gf 42 43 (fl 8 2),gf 42 44 (ld 43),gf 42 45 (fl 8 3),gf 42 46 (ld 45),gf 42 47 (.bin .neq .bool (t 44) (t 46)),o 48 (po 42 47),o 49 (mv 48),gf 49 50 (fl 11 2),gf 49 51 (ld 50),gf 49 52 (fl 11 3),gf 49 53 (ld 52),gf 49 54 (bn .neq 51 53),o 55 (po 49 54),o 56 (mv 55),gf 56 57 (fl 12 2),gf 56 58 (ld 57),gf 56 59 (fl 12 3),gf 56 60 (ld 59),gf 56 61 (bn .neq 58 60),o 62 (po 56 61),o 63 (mv 62),gf 63 64 (fl 9 2),gf 63 65 (ld 64),gf 63 66 (le 65),gf 63 67 (fl 9 3),gf 63 68 (ld 67),gf 63 69 (le 68),gf 63 70 (bn .neq 66 69),o 71 (po 63 70),o 72 (mv 71),gf 72 73 (fl 10 2),gf 72 74 (ld 73),gf 72 75 (le 74),gf 72 76 (fl 10 3),gf 72 77 (ld 76),gf 72 78 (le 77),gf 72 79 (bn .neq 75 78),o 80 (po 72 79)])<|.cond (t 80) (.seq (.ops [o 4 (mc (.bool false))])<|.ret)<|.skip)<|.seq (.seq (.ops [o 5 (mc (.int .i64 0))])<|.block 0<|.loop<|.seq (.seq (.ops [o 81 (mv 5),o 82 (fl 9 2),o 83 (ld 82),o 84 (le 83),o 85 (bn .lss 81 84)])<|.cond (t 85) (.skip)<|.exit 0)<|.seq (.block 1<|.seq (.draw (
v 0 (o 88<|fl 9 2)<|w 1 (o 89<|ld 88)<|v 2 (o 90<|mv 5)<|v 3 (o 91<|ix 5 89 90)<|v 4 (o 92<|fl 0 91)<|w 5 (o 93<|ld 92)<|v 6 (o 94<|fl 9 3)<|w 7 (o 95<|ld 94)<|v 8 (o 96<|mv 5)<|v 9 (o 97<|ix 5 95 96)<|v 10 (o 98<|fl 0 97)<|w 11 (o 99<|ld 98)<|v 12 (o 100<|bn .neq 93 99)<|v 13 (o 101<|mv 100)<|v 14 (gf 101 102 (fl 9 2))<|w 15 (gf 101 103 (ld 102))<|v 16 (gf 101 104 (mv 5))<|v 17 (gf 101 105 (ix 5 103 104))<|v 18 (gf 101 106 (fl 1 105))<|w 19 (gf 101 107 (la 4 106))<|v 20 (gf 101 108 (fl 9 3))<|w 21 (gf 101 109 (ld 108))<|v 22 (gf 101 110 (mv 5))<|v 23 (gf 101 111 (ix 5 109 110))<|v 24 (gf 101 112 (fl 1 111))<|w 25 (gf 101 113 (la 4 112))<|.eff (gf 101 114 (ca 21 [t 107,t 113])) [] (
v 27 (gf 101 115 (.un .not (t 114)))<|v 28 (o 116<|po 101 115)<|.done) (
.nil)))<|.cond (t 116) (.seq (.ops [o 4 (mc (.bool false))])<|.ret)<|.skip)<|.ops [o 86 (mv 5),o 87 (bk .add 86 (1)),o 5 (mv 87)])<|.seq (.seq (.ops [o 6 (mc (.int .i64 0))])<|.block 2<|.loop<|.seq (.seq (.ops [o 117 (mv 6),o 118 (fl 10 2),o 119 (ld 118),o 120 (le 119),o 121 (bn .lss 117 120)])<|.cond (t 121) (.skip)<|.exit 2)<|.seq (.block 3<|.seq (.draw (
v 0 (o 124<|fl 10 2)<|w 1 (o 125<|ld 124)<|v 2 (o 126<|mv 6)<|v 3 (o 127<|ix 2 125 126)<|w 4 (o 128<|la 2 127)<|v 5 (o 129<|fl 10 3)<|w 6 (o 130<|ld 129)<|v 7 (o 131<|mv 6)<|v 8 (o 132<|ix 2 130 131)<|w 9 (o 133<|la 2 132)<|v 10 (o 134 (.bin .neq (.struct [.s,.i]) (t 128) (t 133)))<|.done))<|.cond (t 134) (.seq (.ops [o 4 (mc (.bool false))])<|.ret)<|.skip)<|.ops [o 122 (mv 6),o 123 (bk .add 122 (1)),o 6 (mv 123)])<|.seq (.ops [o 4 (mc (.bool true))])<|.ret
theorem l101:Q8 Tryz.prog 101=some ⟨135,false,[.tmp 4],qR⟩:=by kernel_rfl
def C12:LC:=.seq (.ops [o 1 (.box 29 (t 0)),o 2 (mc (.bool false))])<|.seq (.seq (.ops [o 4 (fl 1 1),o 5 (ld 4),o 6 (ca 36 [t 5,.const (.int .i64 1000)]),o 7 (mv 6),gf 7 8 (fl 2 1),gf 7 9 (ld 8),gf 7 10 (le 9),gf 7 11 (bk .gtr 10 (100)),o 12 (po 7 11),o 13 (mv 12),gf 13 14 (fl 3 1),gf 13 15 (ld 14),gf 13 16 (le 15),gf 13 17 (bk .gtr 16 (100)),o 18 (po 13 17),o 19 (mv 18),gf 19 20 (fl 4 1),gf 19 21 (ld 20),gf 19 22 (ca 37 [t 21,.const (.int .i64 3000)]),o 23 (po 19 22),o 24 (mv 23),gf 24 25 (fl 5 1),gf 24 26 (ld 25),gf 24 27 (le 26),gf 24 28 (bk .gtr 27 (12)),o 29 (po 24 28)])<|.cond (t 29) (.seq (.ops [o 2 (mc (.bool true))])<|.ret)<|.skip)<|.seq (.seq (.ops [o 3 (mc (.int .i64 0))])<|.block 0<|.loop<|.seq (.seq (.ops [o 30 (mv 3),o 31 (fl 5 1),o 32 (ld 31),o 33 (le 32),o 34 (bn .lss 30 33)])<|.cond (t 34) (.skip)<|.exit 0)<|.seq (.block 1<|.seq (.ops [o 37 (fl 5 1),o 38 (ld 37),o 39 (mv 3),o 40 (ix 4 38 39),o 41 (la 4 40),o 42 (ca 38 [t 41])])<|.cond (t 42) (.seq (.ops [o 2 (mc (.bool true))])<|.ret)<|.skip)<|.ops [o 35 (mv 3),o 36 (bk .add 35 (1)),o 3 (mv 36)])<|.seq (.ops [o 2 (mc (.bool false))])<|.ret
theorem l12:Q8 Tryz.prog 12=some ⟨43,false,[.tmp 2],C12⟩:=by kernel_rfl
def C19:LC:=.seq (.ops [o 2 (.box 42 (t 0)),o 4 (mc (.bool false))])<|.seq (.ops [o 5 (la 4 2),o 6 (mv 1),o 7 (ca 72 [t 5,t 6]),o 8 (bk .lss 7 (0)),o 4 (mv 8)])<|.ret
theorem l19:Q8 Tryz.prog 19=some ⟨9,false,[.tmp 4],C19⟩:=by kernel_rfl
def C36:LC:=.seq (.ops [o 4 (mc (.bool false))])<|.seq (.ops [o 5 (mc (.int .i64 0))])<|.seq (.seq (.ops [o 6 (mc (.int .i64 0))])<|.block 0<|.loop<|.seq (.seq (.ops [o 7 (mv 6),o 8 (mv 0),o 9 (le 8),o 10 (bn .lss 7 9),o 11 (mv 10),gt 11 12 (mv 5),gt 11 13 (mv 1),gt 11 14 (bn .leq 12 13),o 15 (pa 11 14)])<|.cond (t 15) (.skip)<|.exit 0)<|.seq (.block 1<|.ops [o 18 (mv 5),o 19 (mv 0),o 20 (mv 6),o 21 (ix 1 19 20),o 22 (ld 21),o 23 (.lenOf .str (t 22)),o 24 (bn .add 18 23),o 5 (mv 24)])<|.ops [o 16 (mv 6),o 17 (bk .add 16 (1)),o 6 (mv 17)])<|.seq (.ops [o 25 (mv 5),o 26 (mv 1),o 27 (bn .gtr 25 26),o 28 (mv 27),gf 28 29 (mv 0),gf 28 30 (le 29),gf 28 31 (mv 1),gf 28 32 (bn .gtr 30 31),o 33 (po 28 32),o 4 (mv 33)])<|.ret
theorem l36:Q8 Tryz.prog 36=some ⟨34,false,[.tmp 4],C36⟩:=by kernel_rfl
def C37:LC:=.seq (.ops [o 4 (mc (.bool false))])<|.seq (.ops [o 7 (mv 1),o 5 (mv 7)])<|.seq (.seq (.ops [o 6 (mc (.int .i64 0))])<|.block 0<|.loop<|.seq (.seq (.ops [o 8 (mv 6),o 9 (mv 0),o 10 (le 9),o 11 (bn .lss 8 10),o 12 (mv 11),gt 12 13 (mv 5),gt 12 14 (bk .geq 13 (0)),o 15 (pa 12 14)])<|.cond (t 15) (.skip)<|.exit 0)<|.seq (.block 1<|.seq (.seq (.ops [o 18 (mv 0),o 19 (mv 6),o 20 (ix 3 18 19),o 21 (fl 1 20),o 22 (ld 21),o 23 (mv 1),o 24 (ca 36 [t 22,t 23])])<|.cond (t 24) (.seq (.ops [o 4 (mc (.bool true))])<|.ret)<|.skip)<|.draw (
v 0 (o 25<|mv 0)<|v 1 (o 26<|mv 6)<|v 2 (o 27<|ix 3 25 26)<|v 3 (o 28<|fl 2 27)<|w 4 (o 29<|ld 28)<|v 5 (o 30<|mv 5)<|v 6 (o 31 (bk .sub 30 (1)))<|v 7 (o 32<|mv 0)<|v 8 (o 33<|mv 6)<|v 9 (o 34<|ix 3 32 33)<|v 10 (o 35<|fl 0 34)<|w 11 (o 36<|ld 35)<|v 12 (o 37 (.lenOf .str (t 36)))<|v 13 (o 38<|bn .sub 31 37)<|.eff (o 39<|ca 102 [t 29,t 38]) [] (
v 15 (o 5<|mv 39)<|.done) (
.nil)))<|.ops [o 16 (mv 6),o 17 (bk .add 16 (1)),o 6 (mv 17)])<|.seq (.ops [o 40 (mv 5),o 41 (bk .lss 40 (0)),o 4 (mv 41)])<|.ret
theorem l37:Q8 Tryz.prog 37=some ⟨42,false,[.tmp 4],C37⟩:=by kernel_rfl
def C38:LC:=.seq (.ops [o 1 (.box 48 (t 0)),o 2 (mc (.bool false))])<|.seq (.seq (.ops [o 7 (fl 2 1),o 8 (ld 7),o 9 (le 8),o 10 (bk .gtr 9 (100)),o 11 (mv 10),gf 11 12 (fl 3 1),gf 11 13 (ld 12),gf 11 14 (le 13),gf 11 15 (bk .gtr 14 (100)),o 16 (po 11 15),o 17 (mv 16),gf 17 18 (fl 0 1),gf 17 19 (ld 18),gf 17 20 (.lenOf .str (t 19)),gf 17 21 (fl 1 1),gf 17 22 (ld 21),gf 17 23 (.lenOf .str (t 22)),gf 17 24 (bn .add 20 23),gf 17 25 (bk .gtr 24 (1000)),o 26 (po 17 25)])<|.cond (t 26) (.seq (.ops [o 2 (mc (.bool true))])<|.ret)<|.skip)<|.seq (.seq (.ops [o 3 (mc (.int .i64 0))])<|.block 0<|.loop<|.seq (.seq (.ops [o 27 (mv 3),o 28 (fl 2 1),o 29 (ld 28),o 30 (le 29),o 31 (bn .lss 27 30)])<|.cond (t 31) (.skip)<|.exit 0)<|.seq (.block 1<|.seq (.ops [o 34 (fl 2 1),o 35 (ld 34),o 36 (mv 3),o 37 (ix 4 35 36),o 38 (fl 2 37),o 39 (ld 38),o 40 (le 39),o 41 (bk .gtr 40 (50)),o 42 (mv 41),gf 42 43 (fl 2 1),gf 42 44 (ld 43),gf 42 45 (mv 3),gf 42 46 (ix 4 44 45),gf 42 47 (fl 0 46),gf 42 48 (ld 47),gf 42 49 (.lenOf .str (t 48)),gf 42 50 (bk .gtr 49 (1000)),o 51 (po 42 50)])<|.cond (t 51) (.seq (.ops [o 2 (mc (.bool true))])<|.ret)<|.skip)<|.ops [o 32 (mv 3),o 33 (bk .add 32 (1)),o 3 (mv 33)])<|.seq (.seq (.ops [o 4 (mc (.int .i64 0))])<|.block 2<|.loop<|.seq (.seq (.ops [o 52 (mv 4),o 53 (fl 3 1),o 54 (ld 53),o 55 (le 54),o 56 (bn .lss 52 55)])<|.cond (t 56) (.skip)<|.exit 2)<|.seq (.block 3<|.seq (.ops [o 59 (fl 3 1),o 60 (ld 59),o 61 (mv 4),o 62 (ix 13 60 61),o 63 (la 13 62),⟨some 5,.alloc 53 [.string ⟨#[]⟩,.string ⟨#[]⟩,.slice none 0 0,.int .i64 0,.string ⟨#[]⟩,.int .i64 0,.slice none 0 0,.string ⟨#[]⟩,.bool false,.slice none 0 0,.slice none 0 0,.int .i64 0,.int .i64 0],none⟩,e (.store 13 (t 5) (t 63))])<|.seq (.seq (.ops [o 64 (fl 2 5),o 65 (ld 64),o 66 (le 65),o 67 (bk .gtr 66 (50)),o 68 (mv 67),gf 68 69 (fl 9 5),gf 68 70 (ld 69),gf 68 71 (le 70),gf 68 72 (bk .gtr 71 (50)),o 73 (po 68 72),o 74 (mv 73),gf 74 75 (fl 10 5),gf 74 76 (ld 75),gf 74 77 (le 76),gf 74 78 (bk .gtr 77 (50)),o 79 (po 74 78),o 80 (mv 79),gf 80 81 (fl 3 5),gf 80 82 (la 4 81),gf 80 83 (ca 19 [t 82,.const (.int .i64 1000)]),o 84 (po 80 83)])<|.cond (t 84) (.seq (.ops [o 2 (mc (.bool true))])<|.ret)<|.skip)<|.seq (.ops [o 6 (mc (.int .i64 0))])<|.block 4<|.loop<|.seq (.seq (.ops [o 85 (mv 6),o 86 (fl 9 5),o 87 (ld 86),o 88 (le 87),o 89 (bn .lss 85 88)])<|.cond (t 89) (.skip)<|.exit 4)<|.seq (.block 5<|.seq (.ops [o 92 (fl 9 5),o 93 (ld 92),o 94 (mv 6),o 95 (ix 5 93 94),o 96 (fl 1 95),o 97 (la 4 96),o 98 (ca 19 [t 97,.const (.int .i64 1000)])])<|.cond (t 98) (.seq (.ops [o 2 (mc (.bool true))])<|.ret)<|.skip)<|.ops [o 90 (mv 6),o 91 (bk .add 90 (1)),o 6 (mv 91)])<|.ops [o 57 (mv 4),o 58 (bk .add 57 (1)),o 4 (mv 58)])<|.seq (.ops [o 2 (mc (.bool false))])<|.ret
theorem l38:Q8 Tryz.prog 38=some ⟨99,false,[.tmp 2],C38⟩:=by kernel_rfl
def C72:LC:=.seq (.ops [o 2 (.box 42 (t 0)),o 4 (mc (.int .i64 0))])<|.seq (.ops [o 6 (mv 1),o 7 (bk .sub 6 (1)),o 8 (fl 1 2),o 9 (ld 8),o 10 (.lenOf .str (t 9)),o 11 (bn .sub 7 10),o 1 (mv 11)])<|.seq (.seq (.ops [o 5 (mc (.int .i64 0))])<|.block 0<|.loop<|.seq (.seq (.ops [o 12 (mv 5),o 13 (fl 3 2),o 14 (ld 13),o 15 (le 14),o 16 (bn .lss 12 15),o 17 (mv 16),gt 17 18 (mv 1),gt 17 19 (bk .geq 18 (0)),o 20 (pa 17 19)])<|.cond (t 20) (.skip)<|.exit 0)<|.seq (.block 1<|.ops [o 23 (fl 3 2),o 24 (ld 23),o 25 (mv 5),o 26 (ix 4 24 25),o 27 (la 4 26),o 28 (mv 1),o 29 (ca 72 [t 27,t 28]),o 1 (mv 29)])<|.ops [o 21 (mv 5),o 22 (bk .add 21 (1)),o 5 (mv 22)])<|.seq (.ops [o 30 (mv 1),o 4 (mv 30)])<|.ret
theorem l72:Q8 Tryz.prog 72=some ⟨31,false,[.tmp 4],C72⟩:=by kernel_rfl
def C102:LC:=.seq (.ops [o 4 (mc (.int .i64 0))])<|.seq (.seq (.ops [o 5 (mc (.int .i64 0))])<|.block 0<|.loop<|.seq (.seq (.ops [o 6 (mv 5),o 7 (mv 0),o 8 (le 7),o 9 (bn .lss 6 8),o 10 (mv 9),gt 10 11 (mv 1),gt 10 12 (bk .geq 11 (0)),o 13 (pa 10 12)])<|.cond (t 13) (.skip)<|.exit 0)<|.seq (.block 1<|.seq (.draw (
v 0 (o 16<|mv 0)<|v 1 (o 17<|mv 5)<|v 2 (o 18<|ix 8 16 17)<|v 3 (o 19<|fl 2 18)<|w 4 (o 20<|la 4 19)<|v 5 (o 21<|mv 1)<|v 6 (o 22 (bk .sub 21 (1)))<|v 7 (o 23<|mv 0)<|v 8 (o 24<|mv 5)<|v 9 (o 25<|ix 8 23 24)<|v 10 (o 26<|fl 1 25)<|w 11 (o 27<|ld 26)<|v 12 (o 28 (.lenOf .str (t 27)))<|v 13 (o 29<|bn .sub 22 28)<|.eff (o 30<|ca 72 [t 20,t 29]) [] (
v 15 (o 1<|mv 30)<|.done) (
.nil)))<|.seq (.ops [o 31 (mv 0),o 32 (mv 5),o 33 (ix 8 31 32),o 34 (fl 6 33),o 35 (ld 34),o 36 (mv 1),o 37 (ca 102 [t 35,t 36]),o 1 (mv 37)])<|.ops [o 38 (mv 0),o 39 (mv 5),o 40 (ix 8 38 39),o 41 (fl 7 40),o 42 (ld 41),o 43 (mv 1),o 44 (ca 102 [t 42,t 43]),o 1 (mv 44)])<|.ops [o 14 (mv 5),o 15 (bk .add 14 (1)),o 5 (mv 15)])<|.seq (.ops [o 45 (mv 1),o 4 (mv 45)])<|.ret
theorem l102:Q8 Tryz.prog 102=some ⟨46,false,[.tmp 4],C102⟩:=by kernel_rfl
end Go.Proofs.YtcbjbgaefighcaaGreatDoor
namespace Go.Proofs.YtcbjbgaefighcaaGreatDoor
open Go Go.Ax Go.Proofs
mutual
def Y9:Exp→Exp→Bool
 | .mk k n i xs,.mk k2 n2 i2 ys=>k==k2&&(n==n2&&(i==i2&&Wg xs ys))
def Wg:List Exp→List Exp→Bool
 |[],[]=>true
 |x::xs,y::ys=>Y9 x y&&Wg xs ys
 |_,_=>false
end
theorem WW:∀{xs ys:List Exp},Wg xs ys=Zt Y9 xs ys
 |[],[]=>rfl
 |x::xs,y::ys=>by simp only[Wg,Zt,WW (xs:=xs)]
 |[],_::_=>rfl
 |_::_,[]=>rfl
mutual
def YR:Stmt→Stmt→Bool
 | .mk k n v b e,.mk k2 n2 v2 b2 e2=>k==k2&&(n==n2&&(Y9 v v2&&(UJ b b2&&UJ e e2)))
def UJ:List Stmt→List Stmt→Bool
 |[],[]=>true
 |x::xs,y::ys=>YR x y&&UJ xs ys
 |_,_=>false
end
theorem KW:∀{xs ys:List Stmt},UJ xs ys=Zt YR xs ys
 |[],[]=>rfl
 |x::xs,y::ys=>by simp only[UJ,Zt,KW (xs:=xs)]
 |[],_::_=>rfl
 |_::_,[]=>rfl
def Uu (a b:Test):Bool:=a.clock==b.clock&&(a.lower==b.lower&&(a.strict==b.strict&&a.c==b.c))
def WH (a b:Clear):Bool:=a.clock==b.clock&&a.tv==b.tv
def Wd (a b:Var):Bool:=a.name==b.name&&(a.low==b.low&&(a.high==b.high&&a.init==b.init))
def X5 (a b:Chan):Bool:=a.name==b.name&&(a.broadcast==b.broadcast&&a.urgent==b.urgent)
def Uw (a b:Assign):Bool:=a.name==b.name&&Y9 a.val b.val
def V3 (a b:Loc):Bool:=a.name==b.name&&(a.kind==b.kind&&(a.rate==b.rate&&Zt Uu a.inv b.inv))
def ZZ (a b:Edge):Bool:=a.src==b.src&&(a.dst==b.dst&&(a.chan==b.chan&&(a.send==b.send&&(a.cost==b.cost&&(a.kind==b.kind&&(Zt Uu a.tests b.tests&&(Y9 a.cond b.cond&&(Zt Uw a.sets b.sets&&Zt WH a.clears b.clears))))))))
def V2 (a b:Proc):Bool:=a.name==b.name&&(a.init==b.init&&(Zt V3 a.locs b.locs&&Zt ZZ a.edges b.edges))
def Uv (a b:Func):Bool:=a.name==b.name&&(Zt (fun a b=>a==b) a.params b.params&&Zt YR a.body b.body)
def Yg (a b:Model):Bool:=a.name==b.name&&(Zt (fun a b=>a==b) a.clocks b.clocks&&(Zt Wd a.vars b.vars&&(Zt X5 a.chans b.chans&&(Zt Uv a.funcs b.funcs&&Zt V2 a.procs b.procs))))
section
variable (G:Nat→Option (List AV))
theorem l244:Q8 Tryz.prog 244=some ⟨32,false,[.tmp 6],ID 4 42 [.int .i64 0,.string ⟨#[]⟩,.int .i64 0,.slice none 0 0]⟩:=by kernel_rfl
theorem CN:Q8 Tryz.prog 147=some ⟨32,false,[.tmp 6],ID 8 175 [.int .i64 0,.string ⟨#[]⟩,.int .i64 0,.string ⟨#[]⟩,.int .i64 0,.slice none 0 0,.slice none 0 0,.slice none 0 0]⟩:=by kernel_rfl
theorem l206:Q8 Tryz.prog 206=some ⟨32,false,[.tmp 6],ID 5 56 [.string ⟨#[]⟩,.int .i64 0,.string ⟨#[]⟩,.int .i64 0,.slice none 0 0]⟩:=by kernel_rfl
theorem l149:Q8 Tryz.prog 149=some ⟨32,false,[.tmp 6],ID 4 97 [.string ⟨#[]⟩,.int .i64 0,.slice none 0 0,.int .i64 0]⟩:=by kernel_rfl
theorem l151:Q8 Tryz.prog 151=some ⟨32,false,[.tmp 6],ID 13 53 [.string ⟨#[]⟩,.string ⟨#[]⟩,.slice none 0 0,.int .i64 0,.string ⟨#[]⟩,.int .i64 0,.slice none 0 0,.string ⟨#[]⟩,.bool false,.slice none 0 0,.slice none 0 0,.int .i64 0,.int .i64 0]⟩:=by kernel_rfl
theorem l68:Q8 Tryz.prog 68=some ⟨32,false,[.tmp 6],ID 3 80 [.string ⟨#[]⟩,.slice none 0 0,.slice none 0 0]⟩:=by kernel_rfl
theorem l70:Q8 Tryz.prog 70=some ⟨32,false,[.tmp 6],ID 4 48 [.string ⟨#[]⟩,.string ⟨#[]⟩,.slice none 0 0,.slice none 0 0]⟩:=by kernel_rfl
theorem l65:Q8 Tryz.prog 65=some ⟨26,false,[.tmp 4],HY 1 false .num⟩:=by kernel_rfl
theorem l66:Q8 Tryz.prog 66=some ⟨26,false,[.tmp 4],HY 4 true (.struct [.s,.i,.i,.i])⟩:=by kernel_rfl
theorem l67:Q8 Tryz.prog 67=some ⟨26,false,[.tmp 4],HY 3 true (.struct [.s,.b,.b])⟩:=by kernel_rfl
theorem CM:Q8 Tryz.prog 205=some ⟨26,false,[.tmp 4],HY 4 true (.struct [.s,.b,.b,.i])⟩:=by kernel_rfl
theorem l208:Q8 Tryz.prog 208=some ⟨26,false,[.tmp 4],HY 2 true (.struct [.s,.i])⟩:=by kernel_rfl
theorem VT {C:Cx}{t:TypeId}{a b:List AV}{X:LC}{s:List Fr}{env:Qo}{A:Q3}(e0:env 0=.agg a)(e1:env 1=.agg b)
 (h:∀p q env B,env 2=.ptr p 0→env 3=.ptr q 0→B p=some (.cells a)→B q=some (.cells b)→Z7 A B→C.run X s env [] B):
 C.run (.seq (.ops [⟨some 2,.box t (.tmp 0),none⟩,⟨some 3,.box t (.tmp 1),none⟩,⟨some 4,.mv (.const (.bool false)),none⟩]) X) s env [] A:=by
 simp only[e0,e1,Q1,seval]
 intro p hp q hq
 obtain⟨hpq,hq⟩:=Q9 hq
 refine h p q _ _ rfl rfl ?_ (Q0 ..) (((Z7.refl A).set hp (by simp)).set hq (by simp))
 rw[Q5 hpq.symm,Q0]
theorem GN (a b:Exp){A:Q3}(h:VS a):Qu Tryz.prog G 204 [.agg a.cells,.agg b.cells] A (bo (Y9 a b)) A:=by
 generalize hn:SizeOf.sizeOf a=sz
 induction sz using Nat.strongRecOn generalizing a b A with
 |_ sz ih=>
 obtain⟨k,n,i,xs⟩:=a
 obtain⟨k2,n2,i2,ys⟩:=b
 simp only[VS]at h
 refine Q4 l204 (fE rfl) ?_
 unfold Ac
 refine VT rfl rfl fun p q env B e2 e3 hp hq hO=> ?_
 simp only[e2,e3,hp,hq,Exp.cells,Q1,seval]
 refine⟨fun h1=>⟨fun h2=>⟨fun h3=>Q2 (Oj G l244 rfl (xs:=xs) (ys:=ys) (enc:=Exp.cells) (p:=Y9) (fun⟨_,_,_,_⟩=>rfl) (fun⟨_,_,_,_⟩=>rfl) rfl rfl (Exp.cellsL_eq _) rfl (Exp.cellsL_eq _) (by omega) fun x hx y hy A=> ?_) ?_,
  fun h3=>Qb (by simp [Y9,h3]) hO⟩,fun h2=>Qb (by simp [Y9,h2]) hO⟩,fun h1=>Qb (by simp [Y9,h1]) hO⟩
 ·refine ih (SizeOf.sizeOf x) ?_ x y (Xd h.2.2 x hx) rfl
  have:=cY hx
  rw[←hn];simp only[Exp.mk.sizeOf_spec];omega
 ·simp only[Q1,seval]
  exact Qb (by simp [Y9,h1,h2,h3,WW]) hO
theorem k148 (a b:Stmt){A:Q3}(h:KO a):Qu Tryz.prog G 148 [.agg a.cells,.agg b.cells] A (bo (YR a b)) A:=by
 generalize hn:SizeOf.sizeOf a=sz
 induction sz using Nat.strongRecOn generalizing a b A with
 |_ sz ih=>
 obtain⟨k,n,v,b1,b2⟩:=a
 obtain⟨k2,n2,v2,c1,c2⟩:=b
 simp only[KO]at h
 have hcv:v.cells.length=4:=by obtain⟨_,_,_,_⟩:=v;rfl
 have hcv2:v2.cells.length=4:=by obtain⟨_,_,_,_⟩:=v2;rfl
 have ih':∀bs cs:List Stmt,(SizeOf.sizeOf bs<sz)→bs.length<2^60→K4 bs→∀A,Qu Tryz.prog G 147 [.slice 8 bs.length (Stmt.cellsL bs) none,.slice 8 cs.length (Stmt.cellsL cs) none,.func (.func 148) [] []] A (bo (UJ bs cs)) A:=fun bs cs hs hl h A=>by
  rw[KW]
  refine Oj G CN rfl (xs:=bs) (ys:=cs) (enc:=Stmt.cells) (p:=YR) (fun⟨_,_,⟨_,_,_,_⟩,_,_⟩=>rfl) (fun⟨_,_,⟨_,_,_,_⟩,_,_⟩=>rfl) rfl rfl (Stmt.cellsL_eq _) rfl (Stmt.cellsL_eq _) (by omega) fun x hx y hy A=> ?_
  refine ih (SizeOf.sizeOf x) ?_ x y (Xc h x hx) rfl
  have:=cY hx
  omega
 have i1:=ih' b1 c1 (by rw[←hn];simp only[Stmt.mk.sizeOf_spec];omega) (by omega) h.2.2.2.2.1
 have i2:=ih' b2 c2 (by rw[←hn];simp only[Stmt.mk.sizeOf_spec];omega) (by omega) h.2.2.2.2.2
 have i0:=fun A=>GN G v v2 (A:=A) h.2.1
 clear ih ih'
 refine Q4 l148 (fE rfl) ?_
 unfold AQ
 refine VT rfl rfl fun p q env B e2 e3 hp hq hO=> ?_
 obtain⟨v0,v1,vi,vx⟩:=v
 obtain⟨w0,w1,wi,wx⟩:=v2
 simp only[Exp.cells]at i0
 simp only[Stmt.cells,Exp.cells,cF,cI]at hp hq
 simp only[e2,e3,hp,hq,Q1,seval]
 refine⟨fun h1=>⟨fun h2=>Q2 (i0 _) ?_,fun h2=>Qb (by simp [YR,h2]) hO⟩,fun h1=>Qb (by simp [YR,h1]) hO⟩
 cases g0:Y9 (.mk v0 v1 vi vx) (.mk w0 w1 wi wx)with
 |false=>
  simp only[e2,e3,hp,hq,Q1,seval]
  exact Qb (by simp [YR,g0]) hO
 |true=>
  simp only[e2,e3,hp,hq,Q1,seval]
  refine Q2 (i1 _) ?_
  cases g1:UJ b1 c1 with
  |false=>
   simp only[e2,e3,hp,hq,Q1,seval]
   exact Qb (by simp [YR,g1]) hO
  |true=>
   simp only[e2,e3,hp,hq,Q1,seval]
   refine Q2 (i2 _) ?_
   simp only[e2,e3,hp,hq,Q1,seval]
   exact Qb (by simp [YR,h1,h2,g0,g1]) hO
theorem k207 (a b:Assign){A:Q3}(h:VS a.val):Qu Tryz.prog G 207 [.agg a.cells,.agg b.cells] A (bo (Uw a b)) A:=by
 obtain⟨n,v0,v1,vi,vx⟩:=a
 obtain⟨n2,w0,w1,wi,wx⟩:=b
 have i0:=fun A=>GN G (.mk v0 v1 vi vx) (.mk w0 w1 wi wx) (A:=A) h
 refine Q4 l207 (fE rfl) ?_
 unfold Aa
 refine VT rfl rfl fun p q env B e2 e3 hp hq hO=> ?_
 simp only[Exp.cells]at i0
 simp only[e2,e3,hp,hq,Assign.cells,Exp.cells,Q1,seval]
 refine⟨fun h1=>Q2 (i0 _) ?_,fun h1=>Qb (by simp [Uw,h1]) hO⟩
 simp only[Q1,seval]
 exact Qb (by simp [Uw,h1]) hO
theorem eqT {x y:Test}:Qf .neq (.struct [.s,.b,.b,.i]) (.agg x.cells) (.agg y.cells)=some (bo !(Uu x y)):=by
 obtain⟨a,b,c,d⟩:=x;obtain⟨a2,b2,c2,d2⟩:=y
 simp only[Uu,Test.cells,Qf,Je,if_true]
 cases a==a2 <;> cases b==b2 <;> cases c==c2 <;> cases d==d2 <;> rfl
theorem eqC {x y:Clear}:Qf .neq (.struct [.s,.i]) (.agg x.cells) (.agg y.cells)=some (bo !(WH x y)):=by
 obtain⟨a,b⟩:=x;obtain⟨a2,b2⟩:=y
 simp only[WH,Clear.cells,Qf,Je,if_true]
 cases a==a2 <;> cases b==b2 <;> rfl
theorem eqV {x y:Var}:Qf .neq (.struct [.s,.i,.i,.i]) (.agg x.cells) (.agg y.cells)=some (bo !(Wd x y)):=by
 obtain⟨a,b,c,d⟩:=x;obtain⟨a2,b2,c2,d2⟩:=y
 simp only[Wd,Var.cells,Qf,Je,if_true]
 cases a==a2 <;> cases b==b2 <;> cases c==c2 <;> cases d==d2 <;> rfl
theorem Ba {x y:Chan}:Qf .neq (.struct [.s,.b,.b]) (.agg x.cells) (.agg y.cells)=some (bo !(X5 x y)):=by
 obtain⟨a,b,c⟩:=x;obtain⟨a2,b2,c2⟩:=y
 simp only[X5,Chan.cells,Qf,Je,if_true]
 cases a==a2 <;> cases b==b2 <;> cases c==c2 <;> rfl
theorem k150 (a b:Loc){A:Q3}(h:ltL a):Qu Tryz.prog G 150 [.agg a.cells,.agg b.cells] A (bo (V3 a b)) A:=by
 obtain⟨n,k,v,r⟩:=a
 obtain⟨n2,k2,v2,r2⟩:=b
 refine Q4 l150 (fE rfl) ?_
 unfold AP
 refine VT rfl rfl fun p q env B e2 e3 hp hq hO=> ?_
 simp only[e2,e3,hp,hq,Loc.cells,Qy,Q1,seval]
 refine⟨fun h1=>⟨fun h2=>⟨fun h3=>Q2 (PZ G CM (xs:=v) (ys:=v2) (enc:=Test.cells) (p:=Uu) (fun _=>rfl) rfl rfl rfl rfl (by have:=h.2.1;simp only at this;omega) fun _ _=>eqT) ?_,
  fun h3=>Qb (by simp [V3,h3]) hO⟩,fun h2=>Qb (by simp [V3,h2]) hO⟩,fun h1=>Qb (by simp [V3,h1]) hO⟩
 simp only[Q1,seval]
 exact Qb (by simp [V3,h1,h2,h3]) hO
theorem k69 (a b:Func){A:Q3}(h:HX a):Qu Tryz.prog G 69 [.agg a.cells,.agg b.cells] A (bo (Uv a b)) A:=by
 obtain⟨n,ps,bs⟩:=a
 obtain⟨n2,ps2,bs2⟩:=b
 simp only[HX]at h
 refine Q4 l69 (fE rfl) ?_
 unfold C69
 refine VT rfl rfl fun p q env B e2 e3 hp hq hO=> ?_
 simp only[Func.cells,Qy]at hp hq
 simp only[e2,e3,hp,hq,Q1,seval]
 refine⟨fun h1=>Q2 (CO G l65 (xs:=ps) (ys:=ps2) rfl rfl rfl rfl (by omega)) ?_,fun h1=>Qb (by simp [Uv,h1]) hO⟩
 cases g0:Zt (fun a b=>a==b) ps ps2 with
 |false=>
  simp only[e2,e3,hp,hq,Q1,seval]
  exact Qb (by simp [Uv,g0]) hO
 |true=>
  simp only[e2,e3,hp,hq,Q1,seval]
  refine Q2 (Oj G CN rfl (xs:=bs) (ys:=bs2) (enc:=Stmt.cells) (p:=YR) (fun⟨_,_,⟨_,_,_,_⟩,_,_⟩=>rfl) (fun⟨_,_,⟨_,_,_,_⟩,_,_⟩=>rfl) rfl rfl rfl rfl rfl (by omega) fun x hx y hy A=>k148 G x y (Xc h.2.2.2.2 x hx)) ?_
  simp only[Q1,seval]
  exact Qb (by simp [Uv,h1,g0]) hO
theorem k152 (a b:Edge){A:Q3}(h:Iz a):Qu Tryz.prog G 152 [.agg a.cells,.agg b.cells] A (bo (ZZ a b)) A:=by
 obtain⟨n,d,ts,⟨v0,v1,vi,vx⟩,ch,sd,ss,cs,co,ki⟩:=a
 obtain⟨n2,d2,ts2,⟨w0,w1,wi,wx⟩,ch2,sd2,ss2,cs2,co2,ki2⟩:=b
 simp only[Iz,Hl]at h
 obtain⟨y1,y2,y3,y4,y5,y6,y7,y8,y9,y10⟩:=h
 have i0:=fun A=>GN G (.mk v0 v1 vi vx) (.mk w0 w1 wi wx) (A:=A) y5.1
 simp only[Exp.cells]at i0
 refine Q4 l152 (fE rfl) ?_
 unfold AO
 refine VT rfl rfl fun p q env B e2 e3 hp hq hO=> ?_
 simp only[Edge.cells,Exp.cells,Qy,cF,cI]at hp hq
 simp only[e2,e3,hp,hq,Q1,seval]
 refine⟨fun h1=>⟨fun h2=>⟨fun h3=>⟨fun h4=>⟨fun h5=>⟨fun h6=> ?_,fun h=>Qb (by simp [ZZ,h]) hO⟩,fun h=>Qb (by simp [ZZ,h]) hO⟩,fun h=>Qb (by simp [ZZ,h]) hO⟩,fun h=>Qb (by simp [ZZ,h]) hO⟩,fun h=>Qb (by simp [ZZ,h]) hO⟩,fun h=>Qb (by simp [ZZ,h]) hO⟩
 refine Q2 (PZ G CM (xs:=ts) (ys:=ts2) (enc:=Test.cells) (p:=Uu) (fun _=>rfl) rfl rfl rfl rfl (by omega) fun _ _=>eqT) ?_
 cases g0:Zt Uu ts ts2 with
 |false=>
  simp only[e2,e3,hp,hq,Q1,seval]
  exact Qb (by simp [ZZ,g0]) hO
 |true=>
 simp only[e2,e3,hp,hq,Q1,seval]
 refine Q2 (i0 _) ?_
 cases g1:Y9 (.mk v0 v1 vi vx) (.mk w0 w1 wi wx)with
 |false=>
  simp only[e2,e3,hp,hq,Q1,seval]
  exact Qb (by simp [ZZ,g1]) hO
 |true=>
 simp only[e2,e3,hp,hq,Q1,seval]
 refine Q2 (Oj G l206 rfl (xs:=ss) (ys:=ss2) (enc:=Assign.cells) (p:=Uw) (fun⟨_,_,_,_,_⟩=>rfl) (fun⟨_,_,_,_,_⟩=>rfl) rfl rfl rfl rfl rfl (by omega) fun x hx y hy A=>k207 G x y (y8 x hx).2.1) ?_
 cases g2:Zt Uw ss ss2 with
 |false=>
  simp only[e2,e3,hp,hq,Q1,seval]
  exact Qb (by simp [ZZ,g2]) hO
 |true=>
 simp only[e2,e3,hp,hq,Q1,seval]
 refine Q2 (PZ G l208 (xs:=cs) (ys:=cs2) (enc:=Clear.cells) (p:=WH) (fun _=>rfl) rfl rfl rfl rfl (by omega) fun _ _=>eqC) ?_
 simp only[Q1,seval]
 exact Qb (by simp [ZZ,h1,h2,h3,h4,h5,h6,g0,g1,g2]) hO
theorem k71 (a b:Proc){A:Q3}(h:PY a):Qu Tryz.prog G 71 [.agg a.cells,.agg b.cells] A (bo (V2 a b)) A:=by
 obtain⟨n,i,ls,es⟩:=a
 obtain⟨n2,i2,ls2,es2⟩:=b
 obtain⟨y1,y2,y3,y4,y5,y6⟩:=h
 simp only at y1 y2 y3 y4 y5 y6
 refine Q4 l71 (fE rfl) ?_
 unfold C71
 refine VT rfl rfl fun p q env B e2 e3 hp hq hO=> ?_
 simp only[Proc.cells,Qy]at hp hq
 simp only[e2,e3,hp,hq,Q1,seval]
 refine⟨fun h1=>⟨fun h2=>Q2 (Oj G l149 rfl (xs:=ls) (ys:=ls2) (enc:=Loc.cells) (p:=V3) (fun _=>rfl) (fun _=>rfl) rfl rfl rfl rfl rfl (by omega) fun x hx y hy A=>k150 G x y (y4 x hx)) ?_,fun h=>Qb (by simp [V2,h]) hO⟩,fun h=>Qb (by simp [V2,h]) hO⟩
 cases g0:Zt V3 ls ls2 with
 |false=>
  simp only[e2,e3,hp,hq,Q1,seval]
  exact Qb (by simp [V2,g0]) hO
 |true=>
 simp only[e2,e3,hp,hq,Q1,seval]
 refine Q2 (Oj G l151 rfl (xs:=es) (ys:=es2) (enc:=Edge.cells) (p:=ZZ) Edge.cells_len (fun x=>by obtain⟨_,_,_,co,_,_,_,_,_,_⟩:=x;obtain⟨_,_,_,_⟩:=co;rfl) rfl rfl rfl rfl rfl (by omega) fun x hx y hy A=>k152 G x y (y6 x hx)) ?_
 simp only[Q1,seval]
 exact Qb (by simp [V2,h1,h2,g0]) hO
theorem n18 (a b:Model){A:Q3}(h:LtM a):Qu Tryz.prog G 18 [.agg a.cells,.agg b.cells] A (bo (Yg a b)) A:=by
 obtain⟨n,cl,vs,ch,fs,ps⟩:=a
 obtain⟨n2,cl2,vs2,ch2,fs2,ps2⟩:=b
 obtain⟨y1,y2,y3,y4,y5,y6,y7,y8,y9,y10,y11,y12⟩:=h
 simp only at y1 y2 y3 y4 y5 y6 y7 y8 y9 y10 y11 y12
 refine Q4 l18 (fE rfl) ?_
 unfold C18
 refine VT rfl rfl fun p q env B e2 e3 hp hq hO=> ?_
 simp only[Model.cells,Qy]at hp hq
 simp only[e2,e3,hp,hq,Q1,seval]
 refine⟨fun h1=>Q2 (CO G l65 (xs:=cl) (ys:=cl2) rfl rfl rfl rfl (by omega)) ?_,fun h1=>Qb (by simp [Yg,h1]) hO⟩
 cases g0:Zt (fun a b=>a==b) cl cl2 with
 |false=>
  simp only[e2,e3,hp,hq,Q1,seval]
  exact Qb (by simp [Yg,g0]) hO
 |true=>
 simp only[e2,e3,hp,hq,Q1,seval]
 refine Q2 (PZ G l66 (xs:=vs) (ys:=vs2) (enc:=Var.cells) (p:=Wd) (fun _=>rfl) rfl rfl rfl rfl (by omega) fun _ _=>eqV) ?_
 cases g1:Zt Wd vs vs2 with
 |false=>
  simp only[e2,e3,hp,hq,Q1,seval]
  exact Qb (by simp [Yg,g1]) hO
 |true=>
 simp only[e2,e3,hp,hq,Q1,seval]
 refine Q2 (PZ G l67 (xs:=ch) (ys:=ch2) (enc:=Chan.cells) (p:=X5) (fun _=>rfl) rfl rfl rfl rfl (by omega) fun _ _=>Ba) ?_
 cases g2:Zt X5 ch ch2 with
 |false=>
  simp only[e2,e3,hp,hq,Q1,seval]
  exact Qb (by simp [Yg,g2]) hO
 |true=>
 simp only[e2,e3,hp,hq,Q1,seval]
 refine Q2 (Oj G l68 rfl (xs:=fs) (ys:=fs2) (enc:=Func.cells) (p:=Uv) (fun _=>rfl) (fun _=>rfl) rfl rfl rfl rfl rfl (by omega) fun x hx y hy A=>k69 G x y (y9 x hx)) ?_
 cases g3:Zt Uv fs fs2 with
 |false=>
  simp only[e2,e3,hp,hq,Q1,seval]
  exact Qb (by simp [Yg,g3]) hO
 |true=>
 simp only[e2,e3,hp,hq,Q1,seval]
 refine Q2 (Oj G l70 rfl (xs:=ps) (ys:=ps2) (enc:=Proc.cells) (p:=V2) (fun _=>rfl) (fun _=>rfl) rfl rfl rfl rfl rfl (by omega) fun x hx y hy A=>k71 G x y (y12 x hx)) ?_
 simp only[Q1,seval]
 exact Qb (by simp [Yg,h1,g0,g1,g2,g3]) hO
end
end Go.Proofs.YtcbjbgaefighcaaGreatDoor
